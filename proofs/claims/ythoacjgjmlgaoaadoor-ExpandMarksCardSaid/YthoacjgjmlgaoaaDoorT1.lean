/- The layer 50 laws: the program's types, its package variables, the environment of its abstract machine. -/
import Derived.Test.YthoacjgjmlgaoaaDoorA31
import Derived.Test.YthoacjgjmlgaoaaDoorA36
import Derived.Test.YthoacjgjmlgaoaaDoorA37
import Derived.Test.YthoacjgjmlgaoaaDoorA42
import Derived.Test.YthoacjgjmlgaoaaDoorA40
import Derived.Lib.ItoaNum
import Derived.Test.YthoacjgjmlgaoaaDoorProg
namespace Go.Abs.U50
open Go.RowKit Go.Proofs

abbrev Str := List UInt8

def tab : List (Nat × TI) := [
  (2, ⟨.int .i64, 1, 8, some [.int .i64 0]⟩),
  (3, ⟨.int .i64, 1, 8, some [.int .i64 0]⟩),
  (4, ⟨.bool, 1, 1, some [.bool false]⟩),
  (5, ⟨.int .u8, 1, 1, some [.int .u8 0]⟩),
  (6, ⟨.int .u8, 1, 1, some [.int .u8 0]⟩),
  (7, ⟨.strct [(0, 1), (1, 1), (2, 1), (3, 1)], 4, 24, some [.int .i64 0, .int .i64 0, .bool false, .int .u8 0]⟩),
  (8, ⟨.strct [(0, 1), (1, 1), (2, 1), (3, 1)], 4, 24, some [.int .i64 0, .int .i64 0, .bool false, .int .u8 0]⟩),
  (9, ⟨.str, 1, 16, some [.str []]⟩),
  (10, ⟨.str, 1, 16, some [.str []]⟩),
  (11, ⟨.str, 1, 16, some [.str []]⟩),
  (12, ⟨.int .u64, 1, 8, some [.int .u64 0]⟩),
  (13, ⟨.strct [(0, 1), (1, 1)], 2, 24, some [.str [], .int .u64 0]⟩),
  (14, ⟨.strct [(0, 1), (1, 1)], 2, 24, some [.str [], .int .u64 0]⟩),
  (15, ⟨.ptr 143, 1, 8, none⟩),
  (16, ⟨.ptr 146, 1, 8, none⟩),
  (17, ⟨.ptr 153, 1, 8, none⟩),
  (18, ⟨.strct [(0, 1)], 1, 8, none⟩),
  (19, ⟨.strct [(0, 1)], 1, 8, none⟩),
  (20, ⟨.iface, 1, 16, some [.nil]⟩),
  (21, ⟨.int .i32, 1, 4, some [.int .i32 0]⟩),
  (22, ⟨.slice 9, 1, 24, some [.slice []]⟩),
  (25, ⟨.int .i64, 1, 8, some [.int .i64 0]⟩),
  (30, ⟨.slice 54, 1, 24, some [.slice []]⟩),
  (31, ⟨.slice 34, 1, 24, some [.slice []]⟩),
  (32, ⟨.slice 156, 1, 24, some [.slice []]⟩),
  (33, ⟨.strct [(0, 1), (1, 1), (2, 1), (3, 1), (4, 1)], 5, 88, some [.int .i64 0, .str [], .str [], .slice [], .slice []]⟩),
  (34, ⟨.strct [(0, 1), (1, 1), (2, 1), (3, 1), (4, 1)], 5, 88, some [.int .i64 0, .str [], .str [], .slice [], .slice []]⟩),
  (45, ⟨.slice 62, 1, 24, some [.slice []]⟩),
  (52, ⟨.slice 56, 1, 24, some [.slice []]⟩),
  (53, ⟨.strct [(0, 1), (1, 1), (2, 1)], 3, 40, some [.int .i64 0, .int .i64 0, .slice []]⟩),
  (54, ⟨.strct [(0, 1), (1, 1), (2, 1)], 3, 40, some [.int .i64 0, .int .i64 0, .slice []]⟩),
  (55, ⟨.strct [(0, 1), (1, 1), (2, 1)], 3, 48, some [.int .i64 0, .str [], .slice []]⟩),
  (56, ⟨.strct [(0, 1), (1, 1), (2, 1)], 3, 48, some [.int .i64 0, .str [], .slice []]⟩),
  (61, ⟨.strct [(0, 1), (1, 1)], 2, 32, some [.str [], .str []]⟩),
  (62, ⟨.strct [(0, 1), (1, 1)], 2, 32, some [.str [], .str []]⟩),
  (63, ⟨.ptr 66, 1, 8, none⟩),
  (64, ⟨.slice 5, 1, 24, some [.slice []]⟩),
  (65, ⟨.strct [(0, 1), (1, 1)], 2, 32, none⟩),
  (66, ⟨.strct [(0, 1), (1, 1)], 2, 32, none⟩),
  (70, ⟨.iface, 1, 16, some [.nil]⟩),
  (71, ⟨.iface, 1, 16, some [.nil]⟩),
  (88, ⟨.ptr 5, 1, 8, none⟩),
  (96, ⟨.int .i64, 1, 8, some [.int .i64 0]⟩),
  (99, ⟨.ptr 117, 1, 8, none⟩),
  (103, ⟨.int .u64, 1, 8, some [.int .u64 0]⟩),
  (112, ⟨.int .u64, 1, 8, some [.int .u64 0]⟩),
  (116, ⟨.strct [(0, 1), (1, 1), (2, 1)], 3, 48, some [.str [], .str [], .nil]⟩),
  (117, ⟨.strct [(0, 1), (1, 1), (2, 1)], 3, 48, some [.str [], .str [], .nil]⟩),
  (124, ⟨.int .u32, 1, 4, some [.int .u32 0]⟩),
  (131, ⟨.ptr 133, 1, 8, none⟩),
  (132, ⟨.strct [(0, 1)], 1, 16, some [.str []]⟩),
  (133, ⟨.strct [(0, 1)], 1, 16, some [.str []]⟩),
  (142, ⟨.strct [(0, 1), (1, 1), (2, 1), (3, 1)], 4, 40, none⟩),
  (143, ⟨.strct [(0, 1), (1, 1), (2, 1), (3, 1)], 4, 40, none⟩),
  (145, ⟨.strct [(0, 0)], 0, 0, some []⟩),
  (146, ⟨.strct [(0, 0)], 0, 0, some []⟩),
  (147, ⟨.int .u8, 1, 1, some [.int .u8 0]⟩),
  (148, ⟨.int .u8, 1, 1, some [.int .u8 0]⟩),
  (150, ⟨.int .i32, 1, 4, some [.int .i32 0]⟩),
  (151, ⟨.int .i32, 1, 4, some [.int .i32 0]⟩),
  (152, ⟨.strct [(0, 1), (1, 1), (2, 1), (3, 1), (4, 1), (5, 1), (6, 1), (7, 1), (8, 1), (9, 1), (10, 1)], 11, 48, none⟩),
  (153, ⟨.strct [(0, 1), (1, 1), (2, 1), (3, 1), (4, 1), (5, 1), (6, 1), (7, 1), (8, 1), (9, 1), (10, 1)], 11, 48, none⟩),
  (154, ⟨.slice 158, 1, 24, some [.slice []]⟩),
  (155, ⟨.strct [(0, 1), (1, 1), (2, 1), (3, 1), (4, 1), (5, 1)], 6, 104, some [.int .i64 0, .int .i64 0, .str [], .slice [], .slice [], .slice []]⟩),
  (156, ⟨.strct [(0, 1), (1, 1), (2, 1), (3, 1), (4, 1), (5, 1)], 6, 104, some [.int .i64 0, .int .i64 0, .str [], .slice [], .slice [], .slice []]⟩),
  (157, ⟨.strct [(0, 1), (1, 1), (2, 1), (3, 5), (8, 1)], 9, 120, some [.int .i64 0, .int .i64 0, .int .i64 0, .int .i64 0, .str [], .str [], .slice [], .slice [], .bool false]⟩),
  (158, ⟨.strct [(0, 1), (1, 1), (2, 1), (3, 5), (8, 1)], 9, 120, some [.int .i64 0, .int .i64 0, .int .i64 0, .int .i64 0, .str [], .str [], .slice [], .slice [], .bool false]⟩)]

def eqtab : List (TypeId × List EK) := []

theorem eqtab_ok : eqtab.all (fun p => eqcheck Tryd.prog p.1 p.2) = true := by kernel_rfl

theorem tab_ok : tab.all (fun p => tcheck Tryd.prog p.1 p.2) = true := by kernel_rfl

noncomputable def env : Env where
  P := Tryd.prog
  T := tabT tab
  hT := fun t ti h => tabT_sound tab_ok t ti h
  gN := 4
  GI := fun w => (∃ m, w.cell? ⟨0, 0, none⟩ = some (.int .i64 m)) ∧ (∃ ev, w.cell? ⟨1, 0, none⟩ = some ev ∧ (ev = .nilIface ∨ ∃ te pe, ev = .iface te pe)) ∧ (∃ ev, w.cell? ⟨2, 0, none⟩ = some ev ∧ (ev = .nilIface ∨ ∃ te pe, ev = .iface te pe)) ∧ Lib.TabIs Tryd.prog w "internal/strconv.uint64pow10" .u64 Lib.pow10Tab
  hG := by
    intro w w' ⟨⟨m, hm⟩, ⟨e3, h3, k3⟩, ⟨e4, h4, k4⟩, ht⟩ h
    have c : ∀ b, b < 4 → w'.cell? ⟨b, 0, none⟩ = w.cell? ⟨b, 0, none⟩ := fun b hb => World.cell?_of_block (a := ⟨b, 0, none⟩) (h b hb)
    exact ⟨⟨m, (c 0 (by decide)).trans hm⟩, ⟨e3, (c 1 (by decide)).trans h3, k3⟩, ⟨e4, (c 2 (by decide)).trans h4, k4⟩, tabIs_below (g := 3) (by kernel_rfl) ht (h 3 (by decide))⟩
  bT := some 66
  be := 5
  eqT := eqtabT eqtab
  ownT := fun t => ([] : List Nat).contains t
  hEq := fun t ks h => eqtabT_sound eqtab_ok h
  hbT := by
    intro t ht w
    cases ht
    kernel_rfl
theorem isBoolT_4 : isBoolT env.T 4 = true := rfl
theorem T_2 : env.T 2 = some ⟨.int .i64, 1, 8, some [.int .i64 0]⟩ := rfl
theorem T_3 : env.T 3 = some ⟨.int .i64, 1, 8, some [.int .i64 0]⟩ := rfl
theorem T_4 : env.T 4 = some ⟨.bool, 1, 1, some [.bool false]⟩ := rfl
theorem T_5 : env.T 5 = some ⟨.int .u8, 1, 1, some [.int .u8 0]⟩ := rfl
theorem T_6 : env.T 6 = some ⟨.int .u8, 1, 1, some [.int .u8 0]⟩ := rfl
theorem T_7 : env.T 7 = some ⟨.strct [(0, 1), (1, 1), (2, 1), (3, 1)], 4, 24, some [.int .i64 0, .int .i64 0, .bool false, .int .u8 0]⟩ := rfl
theorem T_8 : env.T 8 = some ⟨.strct [(0, 1), (1, 1), (2, 1), (3, 1)], 4, 24, some [.int .i64 0, .int .i64 0, .bool false, .int .u8 0]⟩ := rfl
theorem T_9 : env.T 9 = some ⟨.str, 1, 16, some [.str []]⟩ := rfl
theorem T_10 : env.T 10 = some ⟨.str, 1, 16, some [.str []]⟩ := rfl
theorem T_11 : env.T 11 = some ⟨.str, 1, 16, some [.str []]⟩ := rfl
theorem T_12 : env.T 12 = some ⟨.int .u64, 1, 8, some [.int .u64 0]⟩ := rfl
theorem T_13 : env.T 13 = some ⟨.strct [(0, 1), (1, 1)], 2, 24, some [.str [], .int .u64 0]⟩ := rfl
theorem T_14 : env.T 14 = some ⟨.strct [(0, 1), (1, 1)], 2, 24, some [.str [], .int .u64 0]⟩ := rfl
theorem T_15 : env.T 15 = some ⟨.ptr 143, 1, 8, none⟩ := rfl
theorem T_16 : env.T 16 = some ⟨.ptr 146, 1, 8, none⟩ := rfl
theorem T_17 : env.T 17 = some ⟨.ptr 153, 1, 8, none⟩ := rfl
theorem T_18 : env.T 18 = some ⟨.strct [(0, 1)], 1, 8, none⟩ := rfl
theorem T_19 : env.T 19 = some ⟨.strct [(0, 1)], 1, 8, none⟩ := rfl
theorem T_20 : env.T 20 = some ⟨.iface, 1, 16, some [.nil]⟩ := rfl
theorem T_21 : env.T 21 = some ⟨.int .i32, 1, 4, some [.int .i32 0]⟩ := rfl
theorem T_22 : env.T 22 = some ⟨.slice 9, 1, 24, some [.slice []]⟩ := rfl
theorem T_25 : env.T 25 = some ⟨.int .i64, 1, 8, some [.int .i64 0]⟩ := rfl
theorem T_30 : env.T 30 = some ⟨.slice 54, 1, 24, some [.slice []]⟩ := rfl
theorem T_31 : env.T 31 = some ⟨.slice 34, 1, 24, some [.slice []]⟩ := rfl
theorem T_32 : env.T 32 = some ⟨.slice 156, 1, 24, some [.slice []]⟩ := rfl
theorem T_33 : env.T 33 = some ⟨.strct [(0, 1), (1, 1), (2, 1), (3, 1), (4, 1)], 5, 88, some [.int .i64 0, .str [], .str [], .slice [], .slice []]⟩ := rfl
theorem T_34 : env.T 34 = some ⟨.strct [(0, 1), (1, 1), (2, 1), (3, 1), (4, 1)], 5, 88, some [.int .i64 0, .str [], .str [], .slice [], .slice []]⟩ := rfl
theorem T_45 : env.T 45 = some ⟨.slice 62, 1, 24, some [.slice []]⟩ := rfl
theorem T_52 : env.T 52 = some ⟨.slice 56, 1, 24, some [.slice []]⟩ := rfl
theorem T_53 : env.T 53 = some ⟨.strct [(0, 1), (1, 1), (2, 1)], 3, 40, some [.int .i64 0, .int .i64 0, .slice []]⟩ := rfl
theorem T_54 : env.T 54 = some ⟨.strct [(0, 1), (1, 1), (2, 1)], 3, 40, some [.int .i64 0, .int .i64 0, .slice []]⟩ := rfl
theorem T_55 : env.T 55 = some ⟨.strct [(0, 1), (1, 1), (2, 1)], 3, 48, some [.int .i64 0, .str [], .slice []]⟩ := rfl
theorem T_56 : env.T 56 = some ⟨.strct [(0, 1), (1, 1), (2, 1)], 3, 48, some [.int .i64 0, .str [], .slice []]⟩ := rfl
theorem T_61 : env.T 61 = some ⟨.strct [(0, 1), (1, 1)], 2, 32, some [.str [], .str []]⟩ := rfl
theorem T_62 : env.T 62 = some ⟨.strct [(0, 1), (1, 1)], 2, 32, some [.str [], .str []]⟩ := rfl
theorem T_63 : env.T 63 = some ⟨.ptr 66, 1, 8, none⟩ := rfl
theorem T_64 : env.T 64 = some ⟨.slice 5, 1, 24, some [.slice []]⟩ := rfl
theorem T_65 : env.T 65 = some ⟨.strct [(0, 1), (1, 1)], 2, 32, none⟩ := rfl
theorem T_66 : env.T 66 = some ⟨.strct [(0, 1), (1, 1)], 2, 32, none⟩ := rfl
theorem T_70 : env.T 70 = some ⟨.iface, 1, 16, some [.nil]⟩ := rfl
theorem T_71 : env.T 71 = some ⟨.iface, 1, 16, some [.nil]⟩ := rfl
theorem T_88 : env.T 88 = some ⟨.ptr 5, 1, 8, none⟩ := rfl
theorem T_96 : env.T 96 = some ⟨.int .i64, 1, 8, some [.int .i64 0]⟩ := rfl
theorem T_99 : env.T 99 = some ⟨.ptr 117, 1, 8, none⟩ := rfl
theorem T_103 : env.T 103 = some ⟨.int .u64, 1, 8, some [.int .u64 0]⟩ := rfl
theorem T_112 : env.T 112 = some ⟨.int .u64, 1, 8, some [.int .u64 0]⟩ := rfl
theorem T_116 : env.T 116 = some ⟨.strct [(0, 1), (1, 1), (2, 1)], 3, 48, some [.str [], .str [], .nil]⟩ := rfl
theorem T_117 : env.T 117 = some ⟨.strct [(0, 1), (1, 1), (2, 1)], 3, 48, some [.str [], .str [], .nil]⟩ := rfl
theorem T_124 : env.T 124 = some ⟨.int .u32, 1, 4, some [.int .u32 0]⟩ := rfl
theorem T_131 : env.T 131 = some ⟨.ptr 133, 1, 8, none⟩ := rfl
theorem T_132 : env.T 132 = some ⟨.strct [(0, 1)], 1, 16, some [.str []]⟩ := rfl
theorem T_133 : env.T 133 = some ⟨.strct [(0, 1)], 1, 16, some [.str []]⟩ := rfl
theorem T_142 : env.T 142 = some ⟨.strct [(0, 1), (1, 1), (2, 1), (3, 1)], 4, 40, none⟩ := rfl
theorem T_143 : env.T 143 = some ⟨.strct [(0, 1), (1, 1), (2, 1), (3, 1)], 4, 40, none⟩ := rfl
theorem T_145 : env.T 145 = some ⟨.strct [(0, 0)], 0, 0, some []⟩ := rfl
theorem T_146 : env.T 146 = some ⟨.strct [(0, 0)], 0, 0, some []⟩ := rfl
theorem T_147 : env.T 147 = some ⟨.int .u8, 1, 1, some [.int .u8 0]⟩ := rfl
theorem T_148 : env.T 148 = some ⟨.int .u8, 1, 1, some [.int .u8 0]⟩ := rfl
theorem T_150 : env.T 150 = some ⟨.int .i32, 1, 4, some [.int .i32 0]⟩ := rfl
theorem T_151 : env.T 151 = some ⟨.int .i32, 1, 4, some [.int .i32 0]⟩ := rfl
theorem T_152 : env.T 152 = some ⟨.strct [(0, 1), (1, 1), (2, 1), (3, 1), (4, 1), (5, 1), (6, 1), (7, 1), (8, 1), (9, 1), (10, 1)], 11, 48, none⟩ := rfl
theorem T_153 : env.T 153 = some ⟨.strct [(0, 1), (1, 1), (2, 1), (3, 1), (4, 1), (5, 1), (6, 1), (7, 1), (8, 1), (9, 1), (10, 1)], 11, 48, none⟩ := rfl
theorem T_154 : env.T 154 = some ⟨.slice 158, 1, 24, some [.slice []]⟩ := rfl
theorem T_155 : env.T 155 = some ⟨.strct [(0, 1), (1, 1), (2, 1), (3, 1), (4, 1), (5, 1)], 6, 104, some [.int .i64 0, .int .i64 0, .str [], .slice [], .slice [], .slice []]⟩ := rfl
theorem T_156 : env.T 156 = some ⟨.strct [(0, 1), (1, 1), (2, 1), (3, 1), (4, 1), (5, 1)], 6, 104, some [.int .i64 0, .int .i64 0, .str [], .slice [], .slice [], .slice []]⟩ := rfl
theorem T_157 : env.T 157 = some ⟨.strct [(0, 1), (1, 1), (2, 1), (3, 5), (8, 1)], 9, 120, some [.int .i64 0, .int .i64 0, .int .i64 0, .int .i64 0, .str [], .str [], .slice [], .slice [], .bool false]⟩ := rfl
theorem T_158 : env.T 158 = some ⟨.strct [(0, 1), (1, 1), (2, 1), (3, 5), (8, 1)], 9, 120, some [.int .i64 0, .int .i64 0, .int .i64 0, .int .i64 0, .str [], .str [], .slice [], .slice [], .bool false]⟩ := rfl
theorem ownT_7 : env.ownT 7 = false := rfl
theorem ownT_8 : env.ownT 8 = false := rfl
theorem ownT_13 : env.ownT 13 = false := rfl
theorem ownT_14 : env.ownT 14 = false := rfl
theorem ownT_18 : env.ownT 18 = false := rfl
theorem ownT_19 : env.ownT 19 = false := rfl
theorem ownT_22 : env.ownT 22 = false := rfl
theorem ownT_30 : env.ownT 30 = false := rfl
theorem ownT_31 : env.ownT 31 = false := rfl
theorem ownT_32 : env.ownT 32 = false := rfl
theorem ownT_33 : env.ownT 33 = false := rfl
theorem ownT_34 : env.ownT 34 = false := rfl
theorem ownT_45 : env.ownT 45 = false := rfl
theorem ownT_52 : env.ownT 52 = false := rfl
theorem ownT_53 : env.ownT 53 = false := rfl
theorem ownT_54 : env.ownT 54 = false := rfl
theorem ownT_55 : env.ownT 55 = false := rfl
theorem ownT_56 : env.ownT 56 = false := rfl
theorem ownT_61 : env.ownT 61 = false := rfl
theorem ownT_62 : env.ownT 62 = false := rfl
theorem ownT_64 : env.ownT 64 = false := rfl
theorem ownT_65 : env.ownT 65 = false := rfl
theorem ownT_66 : env.ownT 66 = false := rfl
theorem ownT_116 : env.ownT 116 = false := rfl
theorem ownT_117 : env.ownT 117 = false := rfl
theorem ownT_132 : env.ownT 132 = false := rfl
theorem ownT_133 : env.ownT 133 = false := rfl
theorem ownT_142 : env.ownT 142 = false := rfl
theorem ownT_143 : env.ownT 143 = false := rfl
theorem ownT_145 : env.ownT 145 = false := rfl
theorem ownT_146 : env.ownT 146 = false := rfl
theorem ownT_152 : env.ownT 152 = false := rfl
theorem ownT_153 : env.ownT 153 = false := rfl
theorem ownT_154 : env.ownT 154 = false := rfl
theorem ownT_155 : env.ownT 155 = false := rfl
theorem ownT_156 : env.ownT 156 = false := rfl
theorem ownT_157 : env.ownT 157 = false := rfl
theorem ownT_158 : env.ownT 158 = false := rfl
theorem eqT_3 : env.eqT 3 = none := rfl
theorem eqT_5 : env.eqT 5 = none := rfl
theorem eqT_9 : env.eqT 9 = none := rfl
theorem eqT_25 : env.eqT 25 = none := rfl
theorem eqT_71 : env.eqT 71 = none := rfl
theorem mixed : env.P.follows .mixedOrders = true := by kernel_rfl
theorem env_bT : env.bT = some 66 := rfl
theorem env_P : env.P = Tryd.prog := rfl
theorem fn_3 : env.P.funcs[3]? = some Tryd.f3 := by
  rw [env_P]
  exact Tryd.func3
theorem fn_4 : env.P.funcs[4]? = some Tryd.f4 := by
  rw [env_P]
  exact Tryd.func4
theorem fn_5 : env.P.funcs[5]? = some Tryd.f5 := by
  rw [env_P]
  exact Tryd.func5
theorem fn_6 : env.P.funcs[6]? = some Tryd.f6 := by
  rw [env_P]
  exact Tryd.func6
theorem fn_7 : env.P.funcs[7]? = some Tryd.f7 := by
  rw [env_P]
  exact Tryd.func7
theorem fn_8 : env.P.funcs[8]? = some Tryd.f8 := by
  rw [env_P]
  exact Tryd.func8
theorem fn_9 : env.P.funcs[9]? = some Tryd.f9 := by
  rw [env_P]
  exact Tryd.func9
theorem fn_10 : env.P.funcs[10]? = some Tryd.f10 := by
  rw [env_P]
  exact Tryd.func10
theorem fn_11 : env.P.funcs[11]? = some Tryd.f11 := by
  rw [env_P]
  exact Tryd.func11
theorem fn_12 : env.P.funcs[12]? = some Tryd.f12 := by
  rw [env_P]
  exact Tryd.func12
theorem fn_13 : env.P.funcs[13]? = some Tryd.f13 := by
  rw [env_P]
  exact Tryd.func13
theorem fn_14 : env.P.funcs[14]? = some Tryd.f14 := by
  rw [env_P]
  exact Tryd.func14
theorem fn_15 : env.P.funcs[15]? = some Tryd.f15 := by
  rw [env_P]
  exact Tryd.func15
theorem fn_16 : env.P.funcs[16]? = some Tryd.f16 := by
  rw [env_P]
  exact Tryd.func16
theorem fn_17 : env.P.funcs[17]? = some Tryd.f17 := by
  rw [env_P]
  exact Tryd.func17
theorem fn_18 : env.P.funcs[18]? = some Tryd.f18 := by
  rw [env_P]
  exact Tryd.func18
theorem fn_19 : env.P.funcs[19]? = some Tryd.f19 := by
  rw [env_P]
  exact Tryd.func19
theorem fn_20 : env.P.funcs[20]? = some Tryd.f20 := by
  rw [env_P]
  exact Tryd.func20
theorem fn_21 : env.P.funcs[21]? = some Tryd.f21 := by
  rw [env_P]
  exact Tryd.func21
theorem fn_22 : env.P.funcs[22]? = some Tryd.f22 := by
  rw [env_P]
  exact Tryd.func22
theorem fn_23 : env.P.funcs[23]? = some Tryd.f23 := by
  rw [env_P]
  exact Tryd.func23
theorem fn_24 : env.P.funcs[24]? = some Tryd.f24 := by
  rw [env_P]
  exact Tryd.func24
theorem fn_25 : env.P.funcs[25]? = some Tryd.f25 := by
  rw [env_P]
  exact Tryd.func25
theorem fn_26 : env.P.funcs[26]? = some Tryd.f26 := by
  rw [env_P]
  exact Tryd.func26
theorem fn_27 : env.P.funcs[27]? = some Tryd.f27 := by
  rw [env_P]
  exact Tryd.func27
theorem fn_28 : env.P.funcs[28]? = some Tryd.f28 := by
  rw [env_P]
  exact Tryd.func28
theorem fn_29 : env.P.funcs[29]? = some Tryd.f29 := by
  rw [env_P]
  exact Tryd.func29
theorem fn_30 : env.P.funcs[30]? = some Tryd.f30 := by
  rw [env_P]
  exact Tryd.func30
theorem fn_31 : env.P.funcs[31]? = some Tryd.f31 := by
  rw [env_P]
  exact Tryd.func31
theorem fn_32 : env.P.funcs[32]? = some Tryd.f32 := by
  rw [env_P]
  exact Tryd.func32
theorem fn_33 : env.P.funcs[33]? = some Tryd.f33 := by
  rw [env_P]
  exact Tryd.func33
theorem fn_34 : env.P.funcs[34]? = some Tryd.f34 := by
  rw [env_P]
  exact Tryd.func34
theorem fn_35 : env.P.funcs[35]? = some Tryd.f35 := by
  rw [env_P]
  exact Tryd.func35
theorem fn_36 : env.P.funcs[36]? = some Tryd.f36 := by
  rw [env_P]
  exact Tryd.func36
theorem fn_37 : env.P.funcs[37]? = some Tryd.f37 := by
  rw [env_P]
  exact Tryd.func37
theorem fn_38 : env.P.funcs[38]? = some Tryd.f38 := by
  rw [env_P]
  exact Tryd.func38
theorem fn_39 : env.P.funcs[39]? = some Tryd.f39 := by
  rw [env_P]
  exact Tryd.func39
theorem fn_40 : env.P.funcs[40]? = some Tryd.f40 := by
  rw [env_P]
  exact Tryd.func40
theorem fn_41 : env.P.funcs[41]? = some Tryd.f41 := by
  rw [env_P]
  exact Tryd.func41
theorem fn_42 : env.P.funcs[42]? = some Tryd.f42 := by
  rw [env_P]
  exact Tryd.func42
theorem fn_43 : env.P.funcs[43]? = some Tryd.f43 := by
  rw [env_P]
  exact Tryd.func43
theorem fn_44 : env.P.funcs[44]? = some Tryd.f44 := by
  rw [env_P]
  exact Tryd.func44
theorem fn_45 : env.P.funcs[45]? = some Tryd.f45 := by
  rw [env_P]
  exact Tryd.func45
theorem fn_48 : env.P.funcs[48]? = some Tryd.f48 := by
  rw [env_P]
  exact Tryd.func48
theorem fn_50 : env.P.funcs[50]? = some Tryd.f50 := by
  rw [env_P]
  exact Tryd.func50
theorem fn_51 : env.P.funcs[51]? = some Tryd.f51 := by
  rw [env_P]
  exact Tryd.func51
theorem fn_56 : env.P.funcs[56]? = some Tryd.f56 := by
  rw [env_P]
  exact Tryd.func56
theorem fn_60 : env.P.funcs[60]? = some Tryd.f60 := by
  rw [env_P]
  exact Tryd.func60
theorem fn_61 : env.P.funcs[61]? = some Tryd.f61 := by
  rw [env_P]
  exact Tryd.func61
theorem fn_62 : env.P.funcs[62]? = some Tryd.f62 := by
  rw [env_P]
  exact Tryd.func62
theorem fn_75 : env.P.funcs[75]? = some Tryd.f75 := by
  rw [env_P]
  exact Tryd.func75
theorem fn_76 : env.P.funcs[76]? = some Tryd.f76 := by
  rw [env_P]
  exact Tryd.func76
theorem fn_77 : env.P.funcs[77]? = some Tryd.f77 := by
  rw [env_P]
  exact Tryd.func77
theorem fn_78 : env.P.funcs[78]? = some Tryd.f78 := by
  rw [env_P]
  exact Tryd.func78

mutual
structure Word where
  kind_ : Int
  text_ : Str
  quoted_ : Str
  words_ : List Word
  cmd_ : List Cmd
structure Cmd where
  kind_ : Int
  at_ : Int
  name_ : Str
  words_ : List Word
  redirs_ : List Redir
  kids_ : List Cmd
structure Redir where
  kind_ : Int
  fd_ : Int
  from_ : Int
  word_ : Word
  raw_ : Bool
end

instance : Inhabited Word := ⟨⟨0, [], [], [], []⟩⟩

instance : Inhabited Cmd := ⟨⟨0, 0, [], [], [], []⟩⟩

instance : Inhabited Redir := ⟨⟨0, 0, 0, default, false⟩⟩

mutual
def Word.cells : Word → List PV
  | ⟨a1, a2, a3, a4, a5⟩ => [.int .i64 a1, .str a2, .str a3, .slice (Word.pvs a4), .slice (Cmd.pvs a5)]
def Word.pvs : List Word → List PV
  | [] => []
  | x :: r => PV.agg x.cells :: Word.pvs r
def Cmd.cells : Cmd → List PV
  | ⟨a1, a2, a3, a4, a5, a6⟩ => [.int .i64 a1, .int .i64 a2, .str a3, .slice (Word.pvs a4), .slice (Redir.pvs a5), .slice (Cmd.pvs a6)]
def Cmd.pvs : List Cmd → List PV
  | [] => []
  | x :: r => PV.agg x.cells :: Cmd.pvs r
def Redir.cells : Redir → List PV
  | ⟨a1, a2, a3, ⟨a4, a5, a6, a7, a8⟩, a9⟩ => [.int .i64 a1, .int .i64 a2, .int .i64 a3, .int .i64 a4, .str a5, .str a6, .slice (Word.pvs a7), .slice (Cmd.pvs a8), .bool a9]
def Redir.pvs : List Redir → List PV
  | [] => []
  | x :: r => PV.agg x.cells :: Redir.pvs r
end

def Word.pv (x : Word) : PV := .agg x.cells

theorem Word.pvs_eq : ∀ xs : List Word, Word.pvs xs = xs.map Word.pv
  | [] => by rw [Word.pvs]; rfl
  | x :: r => by rw [Word.pvs, Word.pvs_eq r]; rfl

def Cmd.pv (x : Cmd) : PV := .agg x.cells

theorem Cmd.pvs_eq : ∀ xs : List Cmd, Cmd.pvs xs = xs.map Cmd.pv
  | [] => by rw [Cmd.pvs]; rfl
  | x :: r => by rw [Cmd.pvs, Cmd.pvs_eq r]; rfl

def Redir.pv (x : Redir) : PV := .agg x.cells

theorem Redir.pvs_eq : ∀ xs : List Redir, Redir.pvs xs = xs.map Redir.pv
  | [] => by rw [Redir.pvs]; rfl
  | x :: r => by rw [Redir.pvs, Redir.pvs_eq r]; rfl

theorem Word.pv_eq (x : Word) : x.pv = .agg [.int .i64 x.kind_, .str x.text_, .str x.quoted_, .slice (List.map Word.pv x.words_), .slice (List.map Cmd.pv x.cmd_)] := by
  obtain ⟨a1, a2, a3, a4, a5⟩ := x
  simp only [Word.pv, Word.cells, Word.pvs_eq, Cmd.pvs_eq, Redir.pvs_eq]

theorem Cmd.pv_eq (x : Cmd) : x.pv = .agg [.int .i64 x.kind_, .int .i64 x.at_, .str x.name_, .slice (List.map Word.pv x.words_), .slice (List.map Redir.pv x.redirs_), .slice (List.map Cmd.pv x.kids_)] := by
  obtain ⟨a1, a2, a3, a4, a5, a6⟩ := x
  simp only [Cmd.pv, Cmd.cells, Word.pvs_eq, Cmd.pvs_eq, Redir.pvs_eq]

theorem Redir.pv_eq (x : Redir) : x.pv = .agg [.int .i64 x.kind_, .int .i64 x.fd_, .int .i64 x.from_, .int .i64 x.word_.kind_, .str x.word_.text_, .str x.word_.quoted_, .slice (List.map Word.pv x.word_.words_), .slice (List.map Cmd.pv x.word_.cmd_), .bool x.raw_] := by
  obtain ⟨a1, a2, a3, ⟨a4, a5, a6, a7, a8⟩, a9⟩ := x
  simp only [Redir.pv, Redir.cells, Word.pvs_eq, Cmd.pvs_eq, Redir.pvs_eq]

mutual
theorem Word.cinj : ∀ (x y : Word), x.cells = y.cells → x = y
  | ⟨a1, a2, a3, a4, a5⟩, ⟨b1, b2, b3, b4, b5⟩, h => by
    simp only [Word.cells, List.cons.injEq, PV.slice.injEq, and_true] at h
    obtain ⟨h1, h2, h3, h4, h5⟩ := h
    cases (int_inj h1)
    cases (str_inj h2)
    cases (str_inj h3)
    cases Word.injs _ _ h4
    cases Cmd.injs _ _ h5
    rfl
theorem Word.injs : ∀ (x y : List Word), Word.pvs x = Word.pvs y → x = y
  | [], [], _ => rfl
  | [], y :: ys, h => by simp [Word.pvs] at h
  | x :: xs, [], h => by simp [Word.pvs] at h
  | x :: xs, y :: ys, h => by
    simp only [Word.pvs, List.cons.injEq, PV.agg.injEq] at h
    rw [Word.cinj x y h.1, Word.injs xs ys h.2]
theorem Cmd.cinj : ∀ (x y : Cmd), x.cells = y.cells → x = y
  | ⟨a1, a2, a3, a4, a5, a6⟩, ⟨b1, b2, b3, b4, b5, b6⟩, h => by
    simp only [Cmd.cells, List.cons.injEq, PV.slice.injEq, and_true] at h
    obtain ⟨h1, h2, h3, h4, h5, h6⟩ := h
    cases (int_inj h1)
    cases (int_inj h2)
    cases (str_inj h3)
    cases Word.injs _ _ h4
    cases Redir.injs _ _ h5
    cases Cmd.injs _ _ h6
    rfl
theorem Cmd.injs : ∀ (x y : List Cmd), Cmd.pvs x = Cmd.pvs y → x = y
  | [], [], _ => rfl
  | [], y :: ys, h => by simp [Cmd.pvs] at h
  | x :: xs, [], h => by simp [Cmd.pvs] at h
  | x :: xs, y :: ys, h => by
    simp only [Cmd.pvs, List.cons.injEq, PV.agg.injEq] at h
    rw [Cmd.cinj x y h.1, Cmd.injs xs ys h.2]
theorem Redir.cinj : ∀ (x y : Redir), x.cells = y.cells → x = y
  | ⟨a1, a2, a3, ⟨a4, a5, a6, a7, a8⟩, a9⟩, ⟨b1, b2, b3, ⟨b4, b5, b6, b7, b8⟩, b9⟩, h => by
    simp only [Redir.cells, List.cons.injEq, PV.slice.injEq, and_true] at h
    obtain ⟨h1, h2, h3, h4, h5, h6, h7, h8, h9⟩ := h
    cases (int_inj h1)
    cases (int_inj h2)
    cases (int_inj h3)
    cases (int_inj h4)
    cases (str_inj h5)
    cases (str_inj h6)
    cases Word.injs _ _ h7
    cases Cmd.injs _ _ h8
    cases (bool_inj h9)
    rfl
theorem Redir.injs : ∀ (x y : List Redir), Redir.pvs x = Redir.pvs y → x = y
  | [], [], _ => rfl
  | [], y :: ys, h => by simp [Redir.pvs] at h
  | x :: xs, [], h => by simp [Redir.pvs] at h
  | x :: xs, y :: ys, h => by
    simp only [Redir.pvs, List.cons.injEq, PV.agg.injEq] at h
    rw [Redir.cinj x y h.1, Redir.injs xs ys h.2]
end

theorem Word.inj {x y : Word} (h : x.pv = y.pv) : x = y := Word.cinj x y (PV.agg.inj h)

theorem Word.injA {x y : Word} (h : PV.agg [.int .i64 (x.kind_), .str (x.text_), .str (x.quoted_), .slice (List.map Word.pv (x.words_)), .slice (List.map Cmd.pv (x.cmd_))] = PV.agg [.int .i64 (y.kind_), .str (y.text_), .str (y.quoted_), .slice (List.map Word.pv (y.words_)), .slice (List.map Cmd.pv (y.cmd_))]) : x = y := Word.inj ((Word.pv_eq x).trans (h.trans (Word.pv_eq y).symm))

theorem Word.all (xs : List Word) : ((xs.map Word.pv).all fun z => z.cells.length == 5) = true := by
  simp [Word.pv_eq, PV.cells]

theorem Cmd.inj {x y : Cmd} (h : x.pv = y.pv) : x = y := Cmd.cinj x y (PV.agg.inj h)

theorem Cmd.injA {x y : Cmd} (h : PV.agg [.int .i64 (x.kind_), .int .i64 (x.at_), .str (x.name_), .slice (List.map Word.pv (x.words_)), .slice (List.map Redir.pv (x.redirs_)), .slice (List.map Cmd.pv (x.kids_))] = PV.agg [.int .i64 (y.kind_), .int .i64 (y.at_), .str (y.name_), .slice (List.map Word.pv (y.words_)), .slice (List.map Redir.pv (y.redirs_)), .slice (List.map Cmd.pv (y.kids_))]) : x = y := Cmd.inj ((Cmd.pv_eq x).trans (h.trans (Cmd.pv_eq y).symm))

theorem Cmd.all (xs : List Cmd) : ((xs.map Cmd.pv).all fun z => z.cells.length == 6) = true := by
  simp [Cmd.pv_eq, PV.cells]

theorem Redir.inj {x y : Redir} (h : x.pv = y.pv) : x = y := Redir.cinj x y (PV.agg.inj h)

theorem Redir.injA {x y : Redir} (h : PV.agg [.int .i64 (x.kind_), .int .i64 (x.fd_), .int .i64 (x.from_), .int .i64 (x.word_.kind_), .str (x.word_.text_), .str (x.word_.quoted_), .slice (List.map Word.pv (x.word_.words_)), .slice (List.map Cmd.pv (x.word_.cmd_)), .bool (x.raw_)] = PV.agg [.int .i64 (y.kind_), .int .i64 (y.fd_), .int .i64 (y.from_), .int .i64 (y.word_.kind_), .str (y.word_.text_), .str (y.word_.quoted_), .slice (List.map Word.pv (y.word_.words_)), .slice (List.map Cmd.pv (y.word_.cmd_)), .bool (y.raw_)]) : x = y := Redir.inj ((Redir.pv_eq x).trans (h.trans (Redir.pv_eq y).symm))

theorem Redir.all (xs : List Redir) : ((xs.map Redir.pv).all fun z => z.cells.length == 9) = true := by
  simp [Redir.pv_eq, PV.cells]

def P31 (xs : List Word) : PV := .slice (xs.map Word.pv)

theorem P31_eq (xs : List Word) : P31 xs = .slice (xs.map Word.pv) := rfl

theorem P31_inj {x y : List Word} (h : P31 x = P31 y) : x = y := map_inj_of (fun _ _ => Word.inj) (PV.slice.inj h)

theorem P31_all (xs : List (List Word)) : ((xs.map P31).all fun z => z.cells.length == 1) = true := by
  simp [P31, PV.cells]

def P154 (xs : List Redir) : PV := .slice (xs.map Redir.pv)

theorem P154_eq (xs : List Redir) : P154 xs = .slice (xs.map Redir.pv) := rfl

theorem P154_inj {x y : List Redir} (h : P154 x = P154 y) : x = y := map_inj_of (fun _ _ => Redir.inj) (PV.slice.inj h)

theorem P154_all (xs : List (List Redir)) : ((xs.map P154).all fun z => z.cells.length == 1) = true := by
  simp [P154, PV.cells]

def P32 (xs : List Cmd) : PV := .slice (xs.map Cmd.pv)

theorem P32_eq (xs : List Cmd) : P32 xs = .slice (xs.map Cmd.pv) := rfl

theorem P32_inj {x y : List Cmd} (h : P32 x = P32 y) : x = y := map_inj_of (fun _ _ => Cmd.inj) (PV.slice.inj h)

theorem P32_all (xs : List (List Cmd)) : ((xs.map P32).all fun z => z.cells.length == 1) = true := by
  simp [P32, PV.cells]

structure GValue where
  text_ : Str
  marks_ : Str

instance : Inhabited GValue := ⟨⟨[], []⟩⟩

def GValue.pv (x : GValue) : PV := .agg [.str x.text_, .str x.marks_]

theorem GValue.pv_eq (x : GValue) : x.pv = .agg [.str x.text_, .str x.marks_] := rfl

theorem GValue.inj {x y : GValue} (h : x.pv = y.pv) : x = y := by
  obtain ⟨a1, a2⟩ := x
  obtain ⟨b1, b2⟩ := y
  simp only [GValue.pv, PV.agg.injEq, List.cons.injEq, and_true] at h
  obtain ⟨h1, h2⟩ := h
  cases (str_inj h1)
  cases (str_inj h2)
  rfl

theorem GValue.all (xs : List GValue) : ((xs.map GValue.pv).all fun z => z.cells.length == 2) = true := by
  simp [GValue.pv, PV.cells]

def P22 (xs : List Str) : PV := .slice (xs.map PV.str)

theorem P22_eq (xs : List Str) : P22 xs = .slice (xs.map PV.str) := rfl

theorem P22_inj {x y : List Str} (h : P22 x = P22 y) : x = y := map_inj_of (fun _ _ => str_inj) (PV.slice.inj h)

theorem P22_all (xs : List (List Str)) : ((xs.map P22).all fun z => z.cells.length == 1) = true := by
  simp [P22, PV.cells]

structure Var where
  id_ : Int
  name_ : Str
  values_ : List Str

instance : Inhabited Var := ⟨⟨0, [], []⟩⟩

def Var.pv (x : Var) : PV := .agg [.int .i64 x.id_, .str x.name_, .slice (List.map PV.str x.values_)]

theorem Var.pv_eq (x : Var) : x.pv = .agg [.int .i64 x.id_, .str x.name_, .slice (List.map PV.str x.values_)] := rfl

theorem Var.inj {x y : Var} (h : x.pv = y.pv) : x = y := by
  obtain ⟨a1, a2, a3⟩ := x
  obtain ⟨b1, b2, b3⟩ := y
  simp only [Var.pv, PV.agg.injEq, List.cons.injEq, and_true] at h
  obtain ⟨h1, h2, h3⟩ := h
  cases (int_inj h1)
  cases (str_inj h2)
  cases (map_inj_of (fun _ _ => str_inj) (PV.slice.inj h3))
  rfl

theorem Var.all (xs : List Var) : ((xs.map Var.pv).all fun z => z.cells.length == 3) = true := by
  simp [Var.pv, PV.cells]

def P52 (xs : List Var) : PV := .slice (xs.map Var.pv)

theorem P52_eq (xs : List Var) : P52 xs = .slice (xs.map Var.pv) := rfl

theorem P52_inj {x y : List Var} (h : P52 x = P52 y) : x = y := map_inj_of (fun _ _ => Var.inj) (PV.slice.inj h)

theorem P52_all (xs : List (List Var)) : ((xs.map P52).all fun z => z.cells.length == 1) = true := by
  simp [P52, PV.cells]

structure GEnv where
  id_ : Int
  next_ : Int
  vars_ : List Var

instance : Inhabited GEnv := ⟨⟨0, 0, []⟩⟩

def GEnv.pv (x : GEnv) : PV := .agg [.int .i64 x.id_, .int .i64 x.next_, .slice (List.map Var.pv x.vars_)]

theorem GEnv.pv_eq (x : GEnv) : x.pv = .agg [.int .i64 x.id_, .int .i64 x.next_, .slice (List.map Var.pv x.vars_)] := rfl

theorem GEnv.inj {x y : GEnv} (h : x.pv = y.pv) : x = y := by
  obtain ⟨a1, a2, a3⟩ := x
  obtain ⟨b1, b2, b3⟩ := y
  simp only [GEnv.pv, PV.agg.injEq, List.cons.injEq, and_true] at h
  obtain ⟨h1, h2, h3⟩ := h
  cases (int_inj h1)
  cases (int_inj h2)
  cases (map_inj_of (fun _ _ => Var.inj) (PV.slice.inj h3))
  rfl

theorem GEnv.all (xs : List GEnv) : ((xs.map GEnv.pv).all fun z => z.cells.length == 3) = true := by
  simp [GEnv.pv, PV.cells]

def pfn : FuncId → Bool := fun f => [7, 8, 9, 10, 11, 12, 13, 14, 15, 16, 17, 18, 19, 20, 21, 22, 23, 24, 25, 26, 27, 28, 29, 31, 33, 34, 35, 36, 37, 39, 40, 41, 42, 43, 44, 45, 48, 50, 51, 56, 60, 61, 62].contains f

end Go.Abs.U50
