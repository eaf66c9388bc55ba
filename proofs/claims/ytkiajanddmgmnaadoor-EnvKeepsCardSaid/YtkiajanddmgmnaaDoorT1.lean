/- The layer 29 laws: the program's types, its package variables, the environment of its abstract machine. -/
import Derived.Test.YtkiajanddmgmnaaDoorA31
import Derived.Test.YtkiajanddmgmnaaDoorA36
import Derived.Test.YtkiajanddmgmnaaDoorA37
import Derived.Test.YtkiajanddmgmnaaDoorA42
import Derived.Test.YtkiajanddmgmnaaDoorA47
import Derived.Test.YtkiajanddmgmnaaDoorProg
set_option linter.defProp false
namespace Go.Abs.U29
open Go.RowKit Go.Proofs

abbrev Str := List UInt8

def tab : List (Nat × TI) := [
  (2, ⟨.int .i64, 1, 8, some [.int .i64 0]⟩),
  (3, ⟨.int .i64, 1, 8, some [.int .i64 0]⟩),
  (4, ⟨.bool, 1, 1, some [.bool false]⟩),
  (5, ⟨.int .u8, 1, 1, some [.int .u8 0]⟩),
  (6, ⟨.int .u8, 1, 1, some [.int .u8 0]⟩),
  (7, ⟨.strct [(0, 1), (1, 1), (2, 1), (3, 1)], 4, 24, some [.int .i64 0, .int .i64 0, .bool false, .int .u8 0]⟩),
  (8, ⟨.strct [(0, 1), (1, 1), (2, 1), (3, 1)], 4, 24, some [.int .i64 0, .int .i64 0, .bool false, .int .u8 0]⟩),
  (9, ⟨.str, 1, 16, some [.str []]⟩),
  (10, ⟨.str, 1, 16, some [.str []]⟩),
  (11, ⟨.str, 1, 16, some [.str []]⟩),
  (12, ⟨.int .u64, 1, 8, some [.int .u64 0]⟩),
  (13, ⟨.strct [(0, 1), (1, 1)], 2, 24, some [.str [], .int .u64 0]⟩),
  (14, ⟨.strct [(0, 1), (1, 1)], 2, 24, some [.str [], .int .u64 0]⟩),
  (15, ⟨.ptr 146, 1, 8, none⟩),
  (16, ⟨.ptr 149, 1, 8, none⟩),
  (17, ⟨.ptr 156, 1, 8, none⟩),
  (18, ⟨.strct [(0, 1)], 1, 8, none⟩),
  (19, ⟨.strct [(0, 1)], 1, 8, none⟩),
  (20, ⟨.iface, 1, 16, some [.nil]⟩),
  (21, ⟨.int .i32, 1, 4, some [.int .i32 0]⟩),
  (22, ⟨.slice 9, 1, 24, some [.slice []]⟩),
  (25, ⟨.int .i64, 1, 8, some [.int .i64 0]⟩),
  (32, ⟨.slice 74, 1, 24, some [.slice []]⟩),
  (33, ⟨.strct [(0, 1), (1, 1), (2, 1), (3, 1), (4, 1), (5, 1), (6, 1), (7, 1)], 8, 96, some [.int .i64 0, .int .i64 0, .int .i64 0, .int .i64 0, .str [], .slice [], .int .i64 0, .str []]⟩),
  (34, ⟨.strct [(0, 1), (1, 1), (2, 1), (3, 1), (4, 1), (5, 1), (6, 1), (7, 1)], 8, 96, some [.int .i64 0, .int .i64 0, .int .i64 0, .int .i64 0, .str [], .slice [], .int .i64 0, .str []]⟩),
  (35, ⟨.strct [(0, 1), (1, 1), (2, 1), (3, 1), (4, 1)], 5, 48, some [.int .i64 0, .int .i64 0, .str [], .int .i64 0, .int .i64 0]⟩),
  (36, ⟨.strct [(0, 1), (1, 1), (2, 1), (3, 1), (4, 1)], 5, 48, some [.int .i64 0, .int .i64 0, .str [], .int .i64 0, .int .i64 0]⟩),
  (48, ⟨.strct [(0, 1), (1, 1), (2, 1)], 3, 24, some [.int .i64 0, .int .i64 0, .int .i64 0]⟩),
  (49, ⟨.strct [(0, 1), (1, 1), (2, 1)], 3, 24, some [.int .i64 0, .int .i64 0, .int .i64 0]⟩),
  (50, ⟨.strct [(0, 1), (1, 1), (2, 3), (5, 1), (6, 1), (7, 1), (8, 1), (9, 1), (10, 1), (11, 1), (12, 1)], 13, 136, some [.int .i64 0, .int .i64 0, .int .i64 0, .int .i64 0, .int .i64 0, .int .i64 0, .int .i64 0, .int .i64 0, .int .i64 0, .str [], .str [], .str [], .str []]⟩),
  (51, ⟨.strct [(0, 1), (1, 1), (2, 3), (5, 1), (6, 1), (7, 1), (8, 1), (9, 1), (10, 1), (11, 1), (12, 1)], 13, 136, some [.int .i64 0, .int .i64 0, .int .i64 0, .int .i64 0, .int .i64 0, .int .i64 0, .int .i64 0, .int .i64 0, .int .i64 0, .str [], .str [], .str [], .str []]⟩),
  (54, ⟨.slice 51, 1, 24, some [.slice []]⟩),
  (59, ⟨.slice 34, 1, 24, some [.slice []]⟩),
  (72, ⟨.slice 76, 1, 24, some [.slice []]⟩),
  (73, ⟨.strct [(0, 1), (1, 1), (2, 1)], 3, 40, some [.int .i64 0, .int .i64 0, .slice []]⟩),
  (74, ⟨.strct [(0, 1), (1, 1), (2, 1)], 3, 40, some [.int .i64 0, .int .i64 0, .slice []]⟩),
  (75, ⟨.strct [(0, 1), (1, 1), (2, 1)], 3, 48, some [.int .i64 0, .str [], .slice []]⟩),
  (76, ⟨.strct [(0, 1), (1, 1), (2, 1)], 3, 48, some [.int .i64 0, .str [], .slice []]⟩),
  (100, ⟨.ptr 103, 1, 8, none⟩),
  (101, ⟨.slice 5, 1, 24, some [.slice []]⟩),
  (102, ⟨.strct [(0, 1), (1, 1)], 2, 32, none⟩),
  (103, ⟨.strct [(0, 1), (1, 1)], 2, 32, none⟩),
  (105, ⟨.iface, 1, 16, some [.nil]⟩),
  (106, ⟨.iface, 1, 16, some [.nil]⟩),
  (121, ⟨.int .u64, 1, 8, some [.int .u64 0]⟩),
  (125, ⟨.ptr 5, 1, 8, none⟩),
  (127, ⟨.int .u32, 1, 4, some [.int .u32 0]⟩),
  (130, ⟨.int .u64, 1, 8, some [.int .u64 0]⟩),
  (142, ⟨.strct [(0, 1), (1, 1)], 2, 2, some [.int .u8 0, .int .u8 0]⟩),
  (143, ⟨.strct [(0, 1), (1, 1)], 2, 2, some [.int .u8 0, .int .u8 0]⟩),
  (145, ⟨.strct [(0, 1), (1, 1), (2, 1), (3, 1)], 4, 40, none⟩),
  (146, ⟨.strct [(0, 1), (1, 1), (2, 1), (3, 1)], 4, 40, none⟩),
  (148, ⟨.strct [(0, 0)], 0, 0, some []⟩),
  (149, ⟨.strct [(0, 0)], 0, 0, some []⟩),
  (150, ⟨.int .u8, 1, 1, some [.int .u8 0]⟩),
  (151, ⟨.int .u8, 1, 1, some [.int .u8 0]⟩),
  (153, ⟨.int .i32, 1, 4, some [.int .i32 0]⟩),
  (154, ⟨.int .i32, 1, 4, some [.int .i32 0]⟩),
  (155, ⟨.strct [(0, 1), (1, 1), (2, 1), (3, 1), (4, 1), (5, 1), (6, 1), (7, 1), (8, 1), (9, 1), (10, 1)], 11, 48, none⟩),
  (156, ⟨.strct [(0, 1), (1, 1), (2, 1), (3, 1), (4, 1), (5, 1), (6, 1), (7, 1), (8, 1), (9, 1), (10, 1)], 11, 48, none⟩)]

def eqtab : List (TypeId × List EK) := []

theorem eqtab_ok : eqtab.all (fun p => eqcheck Tryd.prog p.1 p.2) = true := by kernel_rfl

theorem tab_ok : tab.all (fun p => tcheck Tryd.prog p.1 p.2) = true := by kernel_rfl

noncomputable def env : Env where
  P := Tryd.prog
  T := tabT tab
  hT := fun t ti h => tabT_sound tab_ok t ti h
  gN := 2
  GI := fun w => ∃ m, w.cell? ⟨0, 0, none⟩ = some (.int .i64 m)
  hG := by
    intro w w' ⟨m, hm⟩ h
    refine ⟨m, ?_⟩
    have h0 := h 0 (by decide)
    unfold World.cell? at hm ⊢
    simpa [h0] using hm
  bT := some 103
  be := 5
  eqT := eqtabT eqtab
  ownT := fun t => ([22, 32, 72, 74] : List Nat).contains t
  hEq := fun t ks h => eqtabT_sound eqtab_ok h
  hbT := by
    intro t ht w
    cases ht
    kernel_rfl
theorem isBoolT_4 : isBoolT env.T 4 = true := rfl
theorem T_2 : env.T 2 = some ⟨.int .i64, 1, 8, some [.int .i64 0]⟩ := rfl
theorem T_3 : env.T 3 = some ⟨.int .i64, 1, 8, some [.int .i64 0]⟩ := rfl
theorem T_4 : env.T 4 = some ⟨.bool, 1, 1, some [.bool false]⟩ := rfl
theorem T_5 : env.T 5 = some ⟨.int .u8, 1, 1, some [.int .u8 0]⟩ := rfl
theorem T_6 : env.T 6 = some ⟨.int .u8, 1, 1, some [.int .u8 0]⟩ := rfl
theorem T_7 : env.T 7 = some ⟨.strct [(0, 1), (1, 1), (2, 1), (3, 1)], 4, 24, some [.int .i64 0, .int .i64 0, .bool false, .int .u8 0]⟩ := rfl
theorem T_8 : env.T 8 = some ⟨.strct [(0, 1), (1, 1), (2, 1), (3, 1)], 4, 24, some [.int .i64 0, .int .i64 0, .bool false, .int .u8 0]⟩ := rfl
theorem T_9 : env.T 9 = some ⟨.str, 1, 16, some [.str []]⟩ := rfl
theorem T_10 : env.T 10 = some ⟨.str, 1, 16, some [.str []]⟩ := rfl
theorem T_11 : env.T 11 = some ⟨.str, 1, 16, some [.str []]⟩ := rfl
theorem T_12 : env.T 12 = some ⟨.int .u64, 1, 8, some [.int .u64 0]⟩ := rfl
theorem T_13 : env.T 13 = some ⟨.strct [(0, 1), (1, 1)], 2, 24, some [.str [], .int .u64 0]⟩ := rfl
theorem T_14 : env.T 14 = some ⟨.strct [(0, 1), (1, 1)], 2, 24, some [.str [], .int .u64 0]⟩ := rfl
theorem T_15 : env.T 15 = some ⟨.ptr 146, 1, 8, none⟩ := rfl
theorem T_16 : env.T 16 = some ⟨.ptr 149, 1, 8, none⟩ := rfl
theorem T_17 : env.T 17 = some ⟨.ptr 156, 1, 8, none⟩ := rfl
theorem T_18 : env.T 18 = some ⟨.strct [(0, 1)], 1, 8, none⟩ := rfl
theorem T_19 : env.T 19 = some ⟨.strct [(0, 1)], 1, 8, none⟩ := rfl
theorem T_20 : env.T 20 = some ⟨.iface, 1, 16, some [.nil]⟩ := rfl
theorem T_21 : env.T 21 = some ⟨.int .i32, 1, 4, some [.int .i32 0]⟩ := rfl
theorem T_22 : env.T 22 = some ⟨.slice 9, 1, 24, some [.slice []]⟩ := rfl
theorem T_25 : env.T 25 = some ⟨.int .i64, 1, 8, some [.int .i64 0]⟩ := rfl
theorem T_32 : env.T 32 = some ⟨.slice 74, 1, 24, some [.slice []]⟩ := rfl
theorem T_33 : env.T 33 = some ⟨.strct [(0, 1), (1, 1), (2, 1), (3, 1), (4, 1), (5, 1), (6, 1), (7, 1)], 8, 96, some [.int .i64 0, .int .i64 0, .int .i64 0, .int .i64 0, .str [], .slice [], .int .i64 0, .str []]⟩ := rfl
theorem T_34 : env.T 34 = some ⟨.strct [(0, 1), (1, 1), (2, 1), (3, 1), (4, 1), (5, 1), (6, 1), (7, 1)], 8, 96, some [.int .i64 0, .int .i64 0, .int .i64 0, .int .i64 0, .str [], .slice [], .int .i64 0, .str []]⟩ := rfl
theorem T_35 : env.T 35 = some ⟨.strct [(0, 1), (1, 1), (2, 1), (3, 1), (4, 1)], 5, 48, some [.int .i64 0, .int .i64 0, .str [], .int .i64 0, .int .i64 0]⟩ := rfl
theorem T_36 : env.T 36 = some ⟨.strct [(0, 1), (1, 1), (2, 1), (3, 1), (4, 1)], 5, 48, some [.int .i64 0, .int .i64 0, .str [], .int .i64 0, .int .i64 0]⟩ := rfl
theorem T_48 : env.T 48 = some ⟨.strct [(0, 1), (1, 1), (2, 1)], 3, 24, some [.int .i64 0, .int .i64 0, .int .i64 0]⟩ := rfl
theorem T_49 : env.T 49 = some ⟨.strct [(0, 1), (1, 1), (2, 1)], 3, 24, some [.int .i64 0, .int .i64 0, .int .i64 0]⟩ := rfl
theorem T_50 : env.T 50 = some ⟨.strct [(0, 1), (1, 1), (2, 3), (5, 1), (6, 1), (7, 1), (8, 1), (9, 1), (10, 1), (11, 1), (12, 1)], 13, 136, some [.int .i64 0, .int .i64 0, .int .i64 0, .int .i64 0, .int .i64 0, .int .i64 0, .int .i64 0, .int .i64 0, .int .i64 0, .str [], .str [], .str [], .str []]⟩ := rfl
theorem T_51 : env.T 51 = some ⟨.strct [(0, 1), (1, 1), (2, 3), (5, 1), (6, 1), (7, 1), (8, 1), (9, 1), (10, 1), (11, 1), (12, 1)], 13, 136, some [.int .i64 0, .int .i64 0, .int .i64 0, .int .i64 0, .int .i64 0, .int .i64 0, .int .i64 0, .int .i64 0, .int .i64 0, .str [], .str [], .str [], .str []]⟩ := rfl
theorem T_54 : env.T 54 = some ⟨.slice 51, 1, 24, some [.slice []]⟩ := rfl
theorem T_59 : env.T 59 = some ⟨.slice 34, 1, 24, some [.slice []]⟩ := rfl
theorem T_72 : env.T 72 = some ⟨.slice 76, 1, 24, some [.slice []]⟩ := rfl
theorem T_73 : env.T 73 = some ⟨.strct [(0, 1), (1, 1), (2, 1)], 3, 40, some [.int .i64 0, .int .i64 0, .slice []]⟩ := rfl
theorem T_74 : env.T 74 = some ⟨.strct [(0, 1), (1, 1), (2, 1)], 3, 40, some [.int .i64 0, .int .i64 0, .slice []]⟩ := rfl
theorem T_75 : env.T 75 = some ⟨.strct [(0, 1), (1, 1), (2, 1)], 3, 48, some [.int .i64 0, .str [], .slice []]⟩ := rfl
theorem T_76 : env.T 76 = some ⟨.strct [(0, 1), (1, 1), (2, 1)], 3, 48, some [.int .i64 0, .str [], .slice []]⟩ := rfl
theorem T_100 : env.T 100 = some ⟨.ptr 103, 1, 8, none⟩ := rfl
theorem T_101 : env.T 101 = some ⟨.slice 5, 1, 24, some [.slice []]⟩ := rfl
theorem T_102 : env.T 102 = some ⟨.strct [(0, 1), (1, 1)], 2, 32, none⟩ := rfl
theorem T_103 : env.T 103 = some ⟨.strct [(0, 1), (1, 1)], 2, 32, none⟩ := rfl
theorem T_105 : env.T 105 = some ⟨.iface, 1, 16, some [.nil]⟩ := rfl
theorem T_106 : env.T 106 = some ⟨.iface, 1, 16, some [.nil]⟩ := rfl
theorem T_121 : env.T 121 = some ⟨.int .u64, 1, 8, some [.int .u64 0]⟩ := rfl
theorem T_125 : env.T 125 = some ⟨.ptr 5, 1, 8, none⟩ := rfl
theorem T_127 : env.T 127 = some ⟨.int .u32, 1, 4, some [.int .u32 0]⟩ := rfl
theorem T_130 : env.T 130 = some ⟨.int .u64, 1, 8, some [.int .u64 0]⟩ := rfl
theorem T_142 : env.T 142 = some ⟨.strct [(0, 1), (1, 1)], 2, 2, some [.int .u8 0, .int .u8 0]⟩ := rfl
theorem T_143 : env.T 143 = some ⟨.strct [(0, 1), (1, 1)], 2, 2, some [.int .u8 0, .int .u8 0]⟩ := rfl
theorem T_145 : env.T 145 = some ⟨.strct [(0, 1), (1, 1), (2, 1), (3, 1)], 4, 40, none⟩ := rfl
theorem T_146 : env.T 146 = some ⟨.strct [(0, 1), (1, 1), (2, 1), (3, 1)], 4, 40, none⟩ := rfl
theorem T_148 : env.T 148 = some ⟨.strct [(0, 0)], 0, 0, some []⟩ := rfl
theorem T_149 : env.T 149 = some ⟨.strct [(0, 0)], 0, 0, some []⟩ := rfl
theorem T_150 : env.T 150 = some ⟨.int .u8, 1, 1, some [.int .u8 0]⟩ := rfl
theorem T_151 : env.T 151 = some ⟨.int .u8, 1, 1, some [.int .u8 0]⟩ := rfl
theorem T_153 : env.T 153 = some ⟨.int .i32, 1, 4, some [.int .i32 0]⟩ := rfl
theorem T_154 : env.T 154 = some ⟨.int .i32, 1, 4, some [.int .i32 0]⟩ := rfl
theorem T_155 : env.T 155 = some ⟨.strct [(0, 1), (1, 1), (2, 1), (3, 1), (4, 1), (5, 1), (6, 1), (7, 1), (8, 1), (9, 1), (10, 1)], 11, 48, none⟩ := rfl
theorem T_156 : env.T 156 = some ⟨.strct [(0, 1), (1, 1), (2, 1), (3, 1), (4, 1), (5, 1), (6, 1), (7, 1), (8, 1), (9, 1), (10, 1)], 11, 48, none⟩ := rfl
theorem ownT_7 : env.ownT 7 = false := rfl
theorem ownT_8 : env.ownT 8 = false := rfl
theorem ownT_13 : env.ownT 13 = false := rfl
theorem ownT_14 : env.ownT 14 = false := rfl
theorem ownT_18 : env.ownT 18 = false := rfl
theorem ownT_19 : env.ownT 19 = false := rfl
theorem ownT_22 : env.ownT 22 = true := rfl
theorem ownT_32 : env.ownT 32 = true := rfl
theorem ownT_33 : env.ownT 33 = false := rfl
theorem ownT_34 : env.ownT 34 = false := rfl
theorem ownT_35 : env.ownT 35 = false := rfl
theorem ownT_36 : env.ownT 36 = false := rfl
theorem ownT_48 : env.ownT 48 = false := rfl
theorem ownT_49 : env.ownT 49 = false := rfl
theorem ownT_50 : env.ownT 50 = false := rfl
theorem ownT_51 : env.ownT 51 = false := rfl
theorem ownT_54 : env.ownT 54 = false := rfl
theorem ownT_59 : env.ownT 59 = false := rfl
theorem ownT_72 : env.ownT 72 = true := rfl
theorem ownT_73 : env.ownT 73 = false := rfl
theorem ownT_74 : env.ownT 74 = true := rfl
theorem ownT_75 : env.ownT 75 = false := rfl
theorem ownT_76 : env.ownT 76 = false := rfl
theorem ownT_101 : env.ownT 101 = false := rfl
theorem ownT_102 : env.ownT 102 = false := rfl
theorem ownT_103 : env.ownT 103 = false := rfl
theorem ownT_142 : env.ownT 142 = false := rfl
theorem ownT_143 : env.ownT 143 = false := rfl
theorem ownT_145 : env.ownT 145 = false := rfl
theorem ownT_146 : env.ownT 146 = false := rfl
theorem ownT_148 : env.ownT 148 = false := rfl
theorem ownT_149 : env.ownT 149 = false := rfl
theorem ownT_155 : env.ownT 155 = false := rfl
theorem ownT_156 : env.ownT 156 = false := rfl
theorem eqT_3 : env.eqT 3 = none := rfl
theorem eqT_5 : env.eqT 5 = none := rfl
theorem eqT_9 : env.eqT 9 = none := rfl
theorem eqT_25 : env.eqT 25 = none := rfl
theorem mixed : env.P.follows .mixedOrders = true := by kernel_rfl
theorem env_bT : env.bT = some 103 := rfl
theorem env_P : env.P = Tryd.prog := rfl
theorem fn_6 : env.P.funcs[6]? = some Tryd.f6 := by
  rw [env_P]
  exact Tryd.func6
theorem fn_7 : env.P.funcs[7]? = some Tryd.f7 := by
  rw [env_P]
  exact Tryd.func7
theorem fn_8 : env.P.funcs[8]? = some Tryd.f8 := by
  rw [env_P]
  exact Tryd.func8
theorem fn_9 : env.P.funcs[9]? = some Tryd.f9 := by
  rw [env_P]
  exact Tryd.func9
theorem fn_10 : env.P.funcs[10]? = some Tryd.f10 := by
  rw [env_P]
  exact Tryd.func10
theorem fn_11 : env.P.funcs[11]? = some Tryd.f11 := by
  rw [env_P]
  exact Tryd.func11
theorem fn_12 : env.P.funcs[12]? = some Tryd.f12 := by
  rw [env_P]
  exact Tryd.func12
theorem fn_13 : env.P.funcs[13]? = some Tryd.f13 := by
  rw [env_P]
  exact Tryd.func13
theorem fn_15 : env.P.funcs[15]? = some Tryd.f15 := by
  rw [env_P]
  exact Tryd.func15
theorem fn_17 : env.P.funcs[17]? = some Tryd.f17 := by
  rw [env_P]
  exact Tryd.func17
theorem fn_18 : env.P.funcs[18]? = some Tryd.f18 := by
  rw [env_P]
  exact Tryd.func18
theorem fn_19 : env.P.funcs[19]? = some Tryd.f19 := by
  rw [env_P]
  exact Tryd.func19
theorem fn_20 : env.P.funcs[20]? = some Tryd.f20 := by
  rw [env_P]
  exact Tryd.func20
theorem fn_22 : env.P.funcs[22]? = some Tryd.f22 := by
  rw [env_P]
  exact Tryd.func22
theorem fn_24 : env.P.funcs[24]? = some Tryd.f24 := by
  rw [env_P]
  exact Tryd.func24
theorem fn_31 : env.P.funcs[31]? = some Tryd.f31 := by
  rw [env_P]
  exact Tryd.func31
theorem fn_32 : env.P.funcs[32]? = some Tryd.f32 := by
  rw [env_P]
  exact Tryd.func32
theorem fn_33 : env.P.funcs[33]? = some Tryd.f33 := by
  rw [env_P]
  exact Tryd.func33
theorem fn_34 : env.P.funcs[34]? = some Tryd.f34 := by
  rw [env_P]
  exact Tryd.func34
theorem fn_35 : env.P.funcs[35]? = some Tryd.f35 := by
  rw [env_P]
  exact Tryd.func35
theorem fn_36 : env.P.funcs[36]? = some Tryd.f36 := by
  rw [env_P]
  exact Tryd.func36
theorem fn_37 : env.P.funcs[37]? = some Tryd.f37 := by
  rw [env_P]
  exact Tryd.func37
theorem fn_38 : env.P.funcs[38]? = some Tryd.f38 := by
  rw [env_P]
  exact Tryd.func38
theorem fn_39 : env.P.funcs[39]? = some Tryd.f39 := by
  rw [env_P]
  exact Tryd.func39
theorem fn_40 : env.P.funcs[40]? = some Tryd.f40 := by
  rw [env_P]
  exact Tryd.func40
theorem fn_41 : env.P.funcs[41]? = some Tryd.f41 := by
  rw [env_P]
  exact Tryd.func41
theorem fn_42 : env.P.funcs[42]? = some Tryd.f42 := by
  rw [env_P]
  exact Tryd.func42
theorem fn_43 : env.P.funcs[43]? = some Tryd.f43 := by
  rw [env_P]
  exact Tryd.func43
theorem fn_44 : env.P.funcs[44]? = some Tryd.f44 := by
  rw [env_P]
  exact Tryd.func44
theorem fn_45 : env.P.funcs[45]? = some Tryd.f45 := by
  rw [env_P]
  exact Tryd.func45
theorem fn_46 : env.P.funcs[46]? = some Tryd.f46 := by
  rw [env_P]
  exact Tryd.func46
theorem fn_47 : env.P.funcs[47]? = some Tryd.f47 := by
  rw [env_P]
  exact Tryd.func47
theorem fn_48 : env.P.funcs[48]? = some Tryd.f48 := by
  rw [env_P]
  exact Tryd.func48
theorem fn_49 : env.P.funcs[49]? = some Tryd.f49 := by
  rw [env_P]
  exact Tryd.func49
theorem fn_50 : env.P.funcs[50]? = some Tryd.f50 := by
  rw [env_P]
  exact Tryd.func50
theorem fn_51 : env.P.funcs[51]? = some Tryd.f51 := by
  rw [env_P]
  exact Tryd.func51
theorem fn_52 : env.P.funcs[52]? = some Tryd.f52 := by
  rw [env_P]
  exact Tryd.func52
theorem fn_53 : env.P.funcs[53]? = some Tryd.f53 := by
  rw [env_P]
  exact Tryd.func53
theorem fn_54 : env.P.funcs[54]? = some Tryd.f54 := by
  rw [env_P]
  exact Tryd.func54
theorem fn_55 : env.P.funcs[55]? = some Tryd.f55 := by
  rw [env_P]
  exact Tryd.func55
theorem fn_56 : env.P.funcs[56]? = some Tryd.f56 := by
  rw [env_P]
  exact Tryd.func56
theorem fn_57 : env.P.funcs[57]? = some Tryd.f57 := by
  rw [env_P]
  exact Tryd.func57
theorem fn_58 : env.P.funcs[58]? = some Tryd.f58 := by
  rw [env_P]
  exact Tryd.func58
theorem fn_60 : env.P.funcs[60]? = some Tryd.f60 := by
  rw [env_P]
  exact Tryd.func60
theorem fn_61 : env.P.funcs[61]? = some Tryd.f61 := by
  rw [env_P]
  exact Tryd.func61
theorem fn_62 : env.P.funcs[62]? = some Tryd.f62 := by
  rw [env_P]
  exact Tryd.func62
theorem fn_63 : env.P.funcs[63]? = some Tryd.f63 := by
  rw [env_P]
  exact Tryd.func63
theorem fn_64 : env.P.funcs[64]? = some Tryd.f64 := by
  rw [env_P]
  exact Tryd.func64
theorem fn_65 : env.P.funcs[65]? = some Tryd.f65 := by
  rw [env_P]
  exact Tryd.func65
theorem fn_66 : env.P.funcs[66]? = some Tryd.f66 := by
  rw [env_P]
  exact Tryd.func66
theorem fn_67 : env.P.funcs[67]? = some Tryd.f67 := by
  rw [env_P]
  exact Tryd.func67
theorem fn_68 : env.P.funcs[68]? = some Tryd.f68 := by
  rw [env_P]
  exact Tryd.func68
theorem fn_69 : env.P.funcs[69]? = some Tryd.f69 := by
  rw [env_P]
  exact Tryd.func69
theorem fn_70 : env.P.funcs[70]? = some Tryd.f70 := by
  rw [env_P]
  exact Tryd.func70
theorem fn_71 : env.P.funcs[71]? = some Tryd.f71 := by
  rw [env_P]
  exact Tryd.func71
theorem fn_72 : env.P.funcs[72]? = some Tryd.f72 := by
  rw [env_P]
  exact Tryd.func72
theorem fn_80 : env.P.funcs[80]? = some Tryd.f80 := by
  rw [env_P]
  exact Tryd.func80
theorem fn_81 : env.P.funcs[81]? = some Tryd.f81 := by
  rw [env_P]
  exact Tryd.func81
theorem fn_82 : env.P.funcs[82]? = some Tryd.f82 := by
  rw [env_P]
  exact Tryd.func82
theorem fn_83 : env.P.funcs[83]? = some Tryd.f83 := by
  rw [env_P]
  exact Tryd.func83
theorem fn_84 : env.P.funcs[84]? = some Tryd.f84 := by
  rw [env_P]
  exact Tryd.func84
theorem fn_85 : env.P.funcs[85]? = some Tryd.f85 := by
  rw [env_P]
  exact Tryd.func85
theorem fn_86 : env.P.funcs[86]? = some Tryd.f86 := by
  rw [env_P]
  exact Tryd.func86
theorem fn_87 : env.P.funcs[87]? = some Tryd.f87 := by
  rw [env_P]
  exact Tryd.func87
theorem fn_88 : env.P.funcs[88]? = some Tryd.f88 := by
  rw [env_P]
  exact Tryd.func88
theorem fn_89 : env.P.funcs[89]? = some Tryd.f89 := by
  rw [env_P]
  exact Tryd.func89
theorem fn_90 : env.P.funcs[90]? = some Tryd.f90 := by
  rw [env_P]
  exact Tryd.func90
theorem fn_100 : env.P.funcs[100]? = some Tryd.f100 := by
  rw [env_P]
  exact Tryd.func100

def P22 (xs : List Str) : PV := .slice (xs.map PV.str)

theorem P22_eq (xs : List Str) : P22 xs = .slice (xs.map PV.str) := rfl

theorem P22_inj {x y : List Str} (h : P22 x = P22 y) : x = y := map_inj_of (fun _ _ => str_inj) (PV.slice.inj h)

theorem P22_all (xs : List (List Str)) : ((xs.map P22).all fun z => z.cells.length == 1) = true := by
  simp [P22, PV.cells]

structure GOp where
  kind_ : Int
  group_ : Int
  to_ : Int
  id_ : Int
  name_ : Str
  values_ : List Str
  offset_ : Int
  data_ : Str

instance : Inhabited GOp := ⟨⟨0, 0, 0, 0, [], [], 0, []⟩⟩

def GOp.pv (x : GOp) : PV := .agg [.int .i64 x.kind_, .int .i64 x.group_, .int .i64 x.to_, .int .i64 x.id_, .str x.name_, .slice (List.map PV.str x.values_), .int .i64 x.offset_, .str x.data_]

theorem GOp.pv_eq (x : GOp) : x.pv = .agg [.int .i64 x.kind_, .int .i64 x.group_, .int .i64 x.to_, .int .i64 x.id_, .str x.name_, .slice (List.map PV.str x.values_), .int .i64 x.offset_, .str x.data_] := rfl

theorem GOp.inj {x y : GOp} (h : x.pv = y.pv) : x = y := by
  obtain ⟨a1, a2, a3, a4, a5, a6, a7, a8⟩ := x
  obtain ⟨b1, b2, b3, b4, b5, b6, b7, b8⟩ := y
  simp only [GOp.pv, PV.agg.injEq, List.cons.injEq, and_true] at h
  obtain ⟨h1, h2, h3, h4, h5, h6, h7, h8⟩ := h
  cases (int_inj h1)
  cases (int_inj h2)
  cases (int_inj h3)
  cases (int_inj h4)
  cases (str_inj h5)
  cases (map_inj_of (fun _ _ => str_inj) (PV.slice.inj h6))
  cases (int_inj h7)
  cases (str_inj h8)
  rfl

theorem GOp.all (xs : List GOp) : ((xs.map GOp.pv).all fun z => z.cells.length == 8) = true := by
  simp [GOp.pv, PV.cells]

structure Var where
  id_ : Int
  name_ : Str
  values_ : List Str

instance : Inhabited Var := ⟨⟨0, [], []⟩⟩

def Var.pv (x : Var) : PV := .agg [.int .i64 x.id_, .str x.name_, .slice (List.map PV.str x.values_)]

theorem Var.pv_eq (x : Var) : x.pv = .agg [.int .i64 x.id_, .str x.name_, .slice (List.map PV.str x.values_)] := rfl

theorem Var.inj {x y : Var} (h : x.pv = y.pv) : x = y := by
  obtain ⟨a1, a2, a3⟩ := x
  obtain ⟨b1, b2, b3⟩ := y
  simp only [Var.pv, PV.agg.injEq, List.cons.injEq, and_true] at h
  obtain ⟨h1, h2, h3⟩ := h
  cases (int_inj h1)
  cases (str_inj h2)
  cases (map_inj_of (fun _ _ => str_inj) (PV.slice.inj h3))
  rfl

theorem Var.all (xs : List Var) : ((xs.map Var.pv).all fun z => z.cells.length == 3) = true := by
  simp [Var.pv, PV.cells]

def P72 (xs : List Var) : PV := .slice (xs.map Var.pv)

theorem P72_eq (xs : List Var) : P72 xs = .slice (xs.map Var.pv) := rfl

theorem P72_inj {x y : List Var} (h : P72 x = P72 y) : x = y := map_inj_of (fun _ _ => Var.inj) (PV.slice.inj h)

theorem P72_all (xs : List (List Var)) : ((xs.map P72).all fun z => z.cells.length == 1) = true := by
  simp [P72, PV.cells]

structure GEnv where
  id_ : Int
  next_ : Int
  vars_ : List Var

instance : Inhabited GEnv := ⟨⟨0, 0, []⟩⟩

def GEnv.pv (x : GEnv) : PV := .agg [.int .i64 x.id_, .int .i64 x.next_, .slice (List.map Var.pv x.vars_)]

theorem GEnv.pv_eq (x : GEnv) : x.pv = .agg [.int .i64 x.id_, .int .i64 x.next_, .slice (List.map Var.pv x.vars_)] := rfl

theorem GEnv.inj {x y : GEnv} (h : x.pv = y.pv) : x = y := by
  obtain ⟨a1, a2, a3⟩ := x
  obtain ⟨b1, b2, b3⟩ := y
  simp only [GEnv.pv, PV.agg.injEq, List.cons.injEq, and_true] at h
  obtain ⟨h1, h2, h3⟩ := h
  cases (int_inj h1)
  cases (int_inj h2)
  cases (map_inj_of (fun _ _ => Var.inj) (PV.slice.inj h3))
  rfl

theorem GEnv.all (xs : List GEnv) : ((xs.map GEnv.pv).all fun z => z.cells.length == 3) = true := by
  simp [GEnv.pv, PV.cells]

def pfn : FuncId → Bool := fun f => [7, 8, 9, 10, 11, 12, 13, 15, 17, 18, 19, 20, 22, 24, 31, 32, 33, 35, 36, 37, 38, 39, 40, 41, 43, 44, 47, 48, 49, 50, 51, 52, 53, 54, 55, 56, 57, 58, 60, 61, 62, 63, 64, 65, 66, 67, 68, 71, 85, 86, 87, 88, 89].contains f

def TYS := And.intro env_bT (
  And.intro T_3 (
  And.intro T_5 (
  And.intro T_9 (
  And.intro T_22 (
  And.intro T_25 (
  And.intro T_32 (
  And.intro T_34 (
  And.intro T_59 (
  And.intro T_72 (
  And.intro T_74 (
  And.intro T_76 (
  And.intro T_101 (
  And.intro ownT_22 (
  And.intro ownT_32 (
  And.intro ownT_72 (
  And.intro ownT_74 (
  And.intro ownT_76 (
  And.intro eqT_3 (
  And.intro eqT_5 (
  And.intro eqT_9 (
  And.intro eqT_25 (
  And.intro @str_all (
  And.intro @int_all (
  And.intro @bool_all (
  And.intro @P22_eq (
  And.intro @GOp.pv_eq (
  And.intro @Var.pv_eq (
  And.intro @P72_eq (
  And.intro @GEnv.pv_eq (
  And.intro @Var.all (
  @GEnv.all)))))))))))))))))))))))))))))))

theorem an {a b : Prop} (x : a) (y : b) : a ∧ b := ⟨x, y⟩
theorem obs {α β : Type} {o : Option α} {f : α → Option β} {b : β} (h : o.bind f = some b) : ∃ a, o = some a ∧ f a = some b := Option.bind_eq_some_iff.1 h
theorem fin {E : Env} {rv : List ResultVar} {m : Nat} {e : List Nat} {σ : St} {x : Option (List AV × List AObj)} (h : finish E rv m e σ = x := by first | rfl | (simp [finish, resOf, renArgs, toPV, selObjs, sl])) : finish E rv m e σ = x := h
theorem dk {P : Prop} (h : P := by simp -implicitDefEqProofs only [RUNS, qindex, Nat.reduceAdd, Nat.reduceLeDiff, Nat.reduceSub, reduceIte, Nat.reduceEqDiff, Nat.reduceLT, reduceCtorEq, Nat.reduceMul, Nat.reduceBEq, Int.reduceEq, if_true, if_false, eq_self, ne_eq, TYS] <;> (try simp only [List.length_take, List.length_drop, List.length_map])) : P := h
theorem dk1 {Q P : Prop} (q : Q) (h : Q → P := by intro q; simp -implicitDefEqProofs only [RUNS, qindex, Nat.reduceAdd, Nat.reduceLeDiff, Nat.reduceSub, reduceIte, Nat.reduceEqDiff, Nat.reduceLT, reduceCtorEq, Nat.reduceMul, Nat.reduceBEq, Int.reduceEq, if_true, if_false, eq_self, ne_eq, TYS, q] <;> (try simp only [List.length_take, List.length_drop, List.length_map])) : P := h q
theorem dks {P : Prop} (h : P := by simp -implicitDefEqProofs only [RUNS, qindex, Nat.reduceAdd, Nat.reduceLeDiff, Nat.reduceSub, reduceIte, Nat.reduceEqDiff, Nat.reduceLT, reduceCtorEq, Nat.reduceMul, Nat.reduceBEq, Int.reduceEq, if_true, if_false, eq_self, ne_eq, TYS, Nat.sub_zero, List.drop_zero, List.map_take, List.map_drop, List.length_map, Int.toNat_natCast, Int.toNat_zero] <;> (try simp only [List.length_take, List.length_drop, List.length_map])) : P := h
theorem dks1 {Q P : Prop} (q : Q) (h : Q → P := by intro q; simp -implicitDefEqProofs only [RUNS, qindex, Nat.reduceAdd, Nat.reduceLeDiff, Nat.reduceSub, reduceIte, Nat.reduceEqDiff, Nat.reduceLT, reduceCtorEq, Nat.reduceMul, Nat.reduceBEq, Int.reduceEq, if_true, if_false, eq_self, ne_eq, TYS, Nat.sub_zero, List.drop_zero, List.map_take, List.map_drop, List.length_map, Int.toNat_natCast, Int.toNat_zero, q] <;> (try simp only [List.length_take, List.length_drop, List.length_map])) : P := h q
theorem dg {P : Prop} (h : P := by (((simp -implicitDefEqProofs only [RUNS, qindex, Nat.reduceAdd, Nat.reduceLeDiff, Nat.reduceSub, reduceIte, Nat.reduceEqDiff, Nat.reduceLT, reduceCtorEq, Nat.reduceMul, Nat.reduceBEq, Int.reduceEq, if_true, if_false, eq_self, ne_eq, TYS]); repeat' (split <;> rename_i hb <;> (try simp only [HBS, ge_iff_le, gt_iff_lt] at hb) <;> simp -implicitDefEqProofs only [RUNS, qindex, Nat.reduceAdd, Nat.reduceLeDiff, Nat.reduceSub, reduceIte, Nat.reduceEqDiff, Nat.reduceLT, reduceCtorEq, Nat.reduceMul, Nat.reduceBEq, Int.reduceEq, if_true, if_false, eq_self, ne_eq, TYS, *, decide_true, decide_false, Decidable.not_not, not_false_eq_true, not_true_eq_false])); all_goals (first | (simp only [BOOLS]; done) | (simp [*]; done) | ((try simp only [CLOS, beq_iff_eq, bne_iff_ne, ne_eq] at *) <;> omega) | (simp_all; done) | (simp_all <;> omega)))) : P := h
theorem dg1 {Q P : Prop} (q : Q) (h : Q → P := by (intro q; ((simp -implicitDefEqProofs only [RUNS, qindex, Nat.reduceAdd, Nat.reduceLeDiff, Nat.reduceSub, reduceIte, Nat.reduceEqDiff, Nat.reduceLT, reduceCtorEq, Nat.reduceMul, Nat.reduceBEq, Int.reduceEq, if_true, if_false, eq_self, ne_eq, TYS, q]); repeat' (split <;> rename_i hb <;> (try simp only [HBS, ge_iff_le, gt_iff_lt] at hb) <;> simp -implicitDefEqProofs only [RUNS, qindex, Nat.reduceAdd, Nat.reduceLeDiff, Nat.reduceSub, reduceIte, Nat.reduceEqDiff, Nat.reduceLT, reduceCtorEq, Nat.reduceMul, Nat.reduceBEq, Int.reduceEq, if_true, if_false, eq_self, ne_eq, TYS, q, *, decide_true, decide_false, Decidable.not_not, not_false_eq_true, not_true_eq_false])); all_goals (first | (simp only [BOOLS]; done) | (simp [*]; done) | ((try simp only [CLOS, beq_iff_eq, bne_iff_ne, ne_eq] at *) <;> omega) | (simp_all; done) | (simp_all <;> omega)))) : P := h q
theorem dgs {P : Prop} (h : P := by (((simp -implicitDefEqProofs only [RUNS, qindex, Nat.reduceAdd, Nat.reduceLeDiff, Nat.reduceSub, reduceIte, Nat.reduceEqDiff, Nat.reduceLT, reduceCtorEq, Nat.reduceMul, Nat.reduceBEq, Int.reduceEq, if_true, if_false, eq_self, ne_eq, TYS, Nat.sub_zero, List.drop_zero, List.map_take, List.map_drop, List.length_map, Int.toNat_natCast, Int.toNat_zero]); repeat' (split <;> rename_i hb <;> (try simp only [HBS, ge_iff_le, gt_iff_lt] at hb) <;> simp -implicitDefEqProofs only [RUNS, qindex, Nat.reduceAdd, Nat.reduceLeDiff, Nat.reduceSub, reduceIte, Nat.reduceEqDiff, Nat.reduceLT, reduceCtorEq, Nat.reduceMul, Nat.reduceBEq, Int.reduceEq, if_true, if_false, eq_self, ne_eq, TYS, Nat.sub_zero, List.drop_zero, List.map_take, List.map_drop, List.length_map, Int.toNat_natCast, Int.toNat_zero, *, decide_true, decide_false, Decidable.not_not, not_false_eq_true, not_true_eq_false])); all_goals (first | (simp only [BOOLS]; done) | (simp [*]; done) | ((try simp only [CLOS, beq_iff_eq, bne_iff_ne, ne_eq] at *) <;> omega) | (simp_all; done) | (simp_all <;> omega)))) : P := h
theorem dgs1 {Q P : Prop} (q : Q) (h : Q → P := by (intro q; ((simp -implicitDefEqProofs only [RUNS, qindex, Nat.reduceAdd, Nat.reduceLeDiff, Nat.reduceSub, reduceIte, Nat.reduceEqDiff, Nat.reduceLT, reduceCtorEq, Nat.reduceMul, Nat.reduceBEq, Int.reduceEq, if_true, if_false, eq_self, ne_eq, TYS, Nat.sub_zero, List.drop_zero, List.map_take, List.map_drop, List.length_map, Int.toNat_natCast, Int.toNat_zero, q]); repeat' (split <;> rename_i hb <;> (try simp only [HBS, ge_iff_le, gt_iff_lt] at hb) <;> simp -implicitDefEqProofs only [RUNS, qindex, Nat.reduceAdd, Nat.reduceLeDiff, Nat.reduceSub, reduceIte, Nat.reduceEqDiff, Nat.reduceLT, reduceCtorEq, Nat.reduceMul, Nat.reduceBEq, Int.reduceEq, if_true, if_false, eq_self, ne_eq, TYS, Nat.sub_zero, List.drop_zero, List.map_take, List.map_drop, List.length_map, Int.toNat_natCast, Int.toNat_zero, q, *, decide_true, decide_false, Decidable.not_not, not_false_eq_true, not_true_eq_false])); all_goals (first | (simp only [BOOLS]; done) | (simp [*]; done) | ((try simp only [CLOS, beq_iff_eq, bne_iff_ne, ne_eq] at *) <;> omega) | (simp_all; done) | (simp_all <;> omega)))) : P := h q
theorem dv {P : Prop} (h : P := by simp -implicitDefEqProofs only [RUNS, qindex, Nat.reduceAdd, Nat.reduceLeDiff, Nat.reduceSub, reduceIte, Nat.reduceEqDiff, Nat.reduceLT, reduceCtorEq, Nat.reduceMul, Nat.reduceBEq, Int.reduceEq, if_true, if_false, eq_self, ne_eq, adoes, gdec, List.getD_cons_zero, List.getD_cons_succ, List.contains_cons, List.contains_nil, Bool.false_eq_true, TYS]) : P := h
theorem dv1 {Q P : Prop} (q : Q) (h : Q → P := by intro q; simp -implicitDefEqProofs only [RUNS, qindex, Nat.reduceAdd, Nat.reduceLeDiff, Nat.reduceSub, reduceIte, Nat.reduceEqDiff, Nat.reduceLT, reduceCtorEq, Nat.reduceMul, Nat.reduceBEq, Int.reduceEq, if_true, if_false, eq_self, ne_eq, adoes, gdec, List.getD_cons_zero, List.getD_cons_succ, List.contains_cons, List.contains_nil, Bool.false_eq_true, TYS, q]) : P := h q
theorem dvs {P : Prop} (h : P := by simp -implicitDefEqProofs only [RUNS, qindex, Nat.reduceAdd, Nat.reduceLeDiff, Nat.reduceSub, reduceIte, Nat.reduceEqDiff, Nat.reduceLT, reduceCtorEq, Nat.reduceMul, Nat.reduceBEq, Int.reduceEq, if_true, if_false, eq_self, ne_eq, adoes, gdec, List.getD_cons_zero, List.getD_cons_succ, List.contains_cons, List.contains_nil, Bool.false_eq_true, TYS, Nat.sub_zero, List.drop_zero, List.map_take, List.map_drop, List.length_map, Int.toNat_natCast, Int.toNat_zero]) : P := h
theorem dvs1 {Q P : Prop} (q : Q) (h : Q → P := by intro q; simp -implicitDefEqProofs only [RUNS, qindex, Nat.reduceAdd, Nat.reduceLeDiff, Nat.reduceSub, reduceIte, Nat.reduceEqDiff, Nat.reduceLT, reduceCtorEq, Nat.reduceMul, Nat.reduceBEq, Int.reduceEq, if_true, if_false, eq_self, ne_eq, adoes, gdec, List.getD_cons_zero, List.getD_cons_succ, List.contains_cons, List.contains_nil, Bool.false_eq_true, TYS, Nat.sub_zero, List.drop_zero, List.map_take, List.map_drop, List.length_map, Int.toNat_natCast, Int.toNat_zero, q]) : P := h q
theorem dkt {P : Prop} (h : P := by simp -implicitDefEqProofs only [RUNS, qindex, Nat.reduceAdd, Nat.reduceLeDiff, Nat.reduceSub, reduceIte, Nat.reduceEqDiff, Nat.reduceLT, reduceCtorEq, Nat.reduceMul, Nat.reduceBEq, Int.reduceEq, if_true, if_false, eq_self, ne_eq, TYS, Int.toNat_natCast, Int.toNat_zero] <;> (try simp only [List.length_take, List.length_drop, List.length_map])) : P := h
theorem dkt1 {Q P : Prop} (q : Q) (h : Q → P := by intro q; simp -implicitDefEqProofs only [RUNS, qindex, Nat.reduceAdd, Nat.reduceLeDiff, Nat.reduceSub, reduceIte, Nat.reduceEqDiff, Nat.reduceLT, reduceCtorEq, Nat.reduceMul, Nat.reduceBEq, Int.reduceEq, if_true, if_false, eq_self, ne_eq, TYS, Int.toNat_natCast, Int.toNat_zero, q] <;> (try simp only [List.length_take, List.length_drop, List.length_map])) : P := h q
theorem dgt {P : Prop} (h : P := by (((simp -implicitDefEqProofs only [RUNS, qindex, Nat.reduceAdd, Nat.reduceLeDiff, Nat.reduceSub, reduceIte, Nat.reduceEqDiff, Nat.reduceLT, reduceCtorEq, Nat.reduceMul, Nat.reduceBEq, Int.reduceEq, if_true, if_false, eq_self, ne_eq, TYS, Int.toNat_natCast, Int.toNat_zero]); repeat' (split <;> rename_i hb <;> (try simp only [HBS, ge_iff_le, gt_iff_lt] at hb) <;> simp -implicitDefEqProofs only [RUNS, qindex, Nat.reduceAdd, Nat.reduceLeDiff, Nat.reduceSub, reduceIte, Nat.reduceEqDiff, Nat.reduceLT, reduceCtorEq, Nat.reduceMul, Nat.reduceBEq, Int.reduceEq, if_true, if_false, eq_self, ne_eq, TYS, Int.toNat_natCast, Int.toNat_zero, *, decide_true, decide_false, Decidable.not_not, not_false_eq_true, not_true_eq_false])); all_goals (first | (simp only [BOOLS]; done) | (simp [*]; done) | ((try simp only [CLOS, beq_iff_eq, bne_iff_ne, ne_eq] at *) <;> omega) | (simp_all; done) | (simp_all <;> omega)))) : P := h
theorem dgt1 {Q P : Prop} (q : Q) (h : Q → P := by (intro q; ((simp -implicitDefEqProofs only [RUNS, qindex, Nat.reduceAdd, Nat.reduceLeDiff, Nat.reduceSub, reduceIte, Nat.reduceEqDiff, Nat.reduceLT, reduceCtorEq, Nat.reduceMul, Nat.reduceBEq, Int.reduceEq, if_true, if_false, eq_self, ne_eq, TYS, Int.toNat_natCast, Int.toNat_zero, q]); repeat' (split <;> rename_i hb <;> (try simp only [HBS, ge_iff_le, gt_iff_lt] at hb) <;> simp -implicitDefEqProofs only [RUNS, qindex, Nat.reduceAdd, Nat.reduceLeDiff, Nat.reduceSub, reduceIte, Nat.reduceEqDiff, Nat.reduceLT, reduceCtorEq, Nat.reduceMul, Nat.reduceBEq, Int.reduceEq, if_true, if_false, eq_self, ne_eq, TYS, Int.toNat_natCast, Int.toNat_zero, q, *, decide_true, decide_false, Decidable.not_not, not_false_eq_true, not_true_eq_false])); all_goals (first | (simp only [BOOLS]; done) | (simp [*]; done) | ((try simp only [CLOS, beq_iff_eq, bne_iff_ne, ne_eq] at *) <;> omega) | (simp_all; done) | (simp_all <;> omega)))) : P := h q
theorem dvt {P : Prop} (h : P := by simp -implicitDefEqProofs only [RUNS, qindex, Nat.reduceAdd, Nat.reduceLeDiff, Nat.reduceSub, reduceIte, Nat.reduceEqDiff, Nat.reduceLT, reduceCtorEq, Nat.reduceMul, Nat.reduceBEq, Int.reduceEq, if_true, if_false, eq_self, ne_eq, adoes, gdec, List.getD_cons_zero, List.getD_cons_succ, List.contains_cons, List.contains_nil, Bool.false_eq_true, TYS, Int.toNat_natCast, Int.toNat_zero]) : P := h
theorem dvt1 {Q P : Prop} (q : Q) (h : Q → P := by intro q; simp -implicitDefEqProofs only [RUNS, qindex, Nat.reduceAdd, Nat.reduceLeDiff, Nat.reduceSub, reduceIte, Nat.reduceEqDiff, Nat.reduceLT, reduceCtorEq, Nat.reduceMul, Nat.reduceBEq, Int.reduceEq, if_true, if_false, eq_self, ne_eq, adoes, gdec, List.getD_cons_zero, List.getD_cons_succ, List.contains_cons, List.contains_nil, Bool.false_eq_true, TYS, Int.toNat_natCast, Int.toNat_zero, q]) : P := h q


end Go.Abs.U29
