/- The layer 50 laws: the program's types, its package variables, the environment of its abstract machine. -/
import Derived.Test.YthoacjgjmlgaoaaGreatDoorA31
import Derived.Test.YthoacjgjmlgaoaaGreatDoorA36
import Derived.Test.YthoacjgjmlgaoaaGreatDoorA37
import Derived.Test.YthoacjgjmlgaoaaGreatDoorA42
import Derived.Test.YthoacjgjmlgaoaaGreatDoorA40
import Derived.Lib.ItoaNum
import Derived.Test.YthoacjgjmlgaoaaGreatDoorProg
namespace Go.Abs.U5Z
open Go.RowKit Go.Proofs

abbrev Str := List UInt8

def tab : List (Nat × TI) := [
  (2, ⟨.int .i64, 1, 8, some [.int .i64 0]⟩),
  (3, ⟨.int .i64, 1, 8, some [.int .i64 0]⟩),
  (4, ⟨.bool, 1, 1, some [.bool false]⟩),
  (5, ⟨.int .u8, 1, 1, some [.int .u8 0]⟩),
  (6, ⟨.int .u8, 1, 1, some [.int .u8 0]⟩),
  (7, ⟨.strct [(0, 1), (1, 1), (2, 1), (3, 1)], 4, 24, some [.int .i64 0, .int .i64 0, .bool false, .int .u8 0]⟩),
  (8, ⟨.strct [(0, 1), (1, 1), (2, 1), (3, 1)], 4, 24, some [.int .i64 0, .int .i64 0, .bool false, .int .u8 0]⟩),
  (9, ⟨.str, 1, 16, some [.str []]⟩),
  (10, ⟨.str, 1, 16, some [.str []]⟩),
  (11, ⟨.str, 1, 16, some [.str []]⟩),
  (12, ⟨.int .u64, 1, 8, some [.int .u64 0]⟩),
  (13, ⟨.strct [(0, 1), (1, 1)], 2, 24, some [.str [], .int .u64 0]⟩),
  (14, ⟨.strct [(0, 1), (1, 1)], 2, 24, some [.str [], .int .u64 0]⟩),
  (15, ⟨.ptr 141, 1, 8, none⟩),
  (16, ⟨.ptr 144, 1, 8, none⟩),
  (17, ⟨.ptr 151, 1, 8, none⟩),
  (18, ⟨.strct [(0, 1)], 1, 8, none⟩),
  (19, ⟨.strct [(0, 1)], 1, 8, none⟩),
  (20, ⟨.iface, 1, 16, some [.nil]⟩),
  (21, ⟨.int .i32, 1, 4, some [.int .i32 0]⟩),
  (22, ⟨.slice 34, 1, 24, some [.slice []]⟩),
  (25, ⟨.int .i64, 1, 8, some [.int .i64 0]⟩),
  (29, ⟨.slice 9, 1, 24, some [.slice []]⟩),
  (32, ⟨.slice 37, 1, 24, some [.slice []]⟩),
  (33, ⟨.strct [(0, 1), (1, 1), (2, 1)], 3, 40, some [.int .i64 0, .int .i64 0, .slice []]⟩),
  (34, ⟨.strct [(0, 1), (1, 1), (2, 1)], 3, 40, some [.int .i64 0, .int .i64 0, .slice []]⟩),
  (36, ⟨.strct [(0, 1), (1, 1), (2, 1)], 3, 48, some [.int .i64 0, .str [], .slice []]⟩),
  (37, ⟨.strct [(0, 1), (1, 1), (2, 1)], 3, 48, some [.int .i64 0, .str [], .slice []]⟩),
  (41, ⟨.slice 44, 1, 24, some [.slice []]⟩),
  (42, ⟨.slice 154, 1, 24, some [.slice []]⟩),
  (43, ⟨.strct [(0, 1), (1, 1), (2, 1), (3, 1), (4, 1)], 5, 88, some [.int .i64 0, .str [], .str [], .slice [], .slice []]⟩),
  (44, ⟨.strct [(0, 1), (1, 1), (2, 1), (3, 1), (4, 1)], 5, 88, some [.int .i64 0, .str [], .str [], .slice [], .slice []]⟩),
  (50, ⟨.ptr 53, 1, 8, none⟩),
  (51, ⟨.slice 5, 1, 24, some [.slice []]⟩),
  (52, ⟨.strct [(0, 1), (1, 1)], 2, 32, none⟩),
  (53, ⟨.strct [(0, 1), (1, 1)], 2, 32, none⟩),
  (57, ⟨.iface, 1, 16, some [.nil]⟩),
  (58, ⟨.iface, 1, 16, some [.nil]⟩),
  (69, ⟨.slice 76, 1, 24, some [.slice []]⟩),
  (75, ⟨.strct [(0, 1), (1, 1)], 2, 32, some [.str [], .str []]⟩),
  (76, ⟨.strct [(0, 1), (1, 1)], 2, 32, some [.str [], .str []]⟩),
  (82, ⟨.ptr 5, 1, 8, none⟩),
  (95, ⟨.int .u64, 1, 8, some [.int .u64 0]⟩),
  (104, ⟨.int .i64, 1, 8, some [.int .i64 0]⟩),
  (107, ⟨.ptr 126, 1, 8, none⟩),
  (110, ⟨.int .u32, 1, 4, some [.int .u32 0]⟩),
  (114, ⟨.int .u64, 1, 8, some [.int .u64 0]⟩),
  (125, ⟨.strct [(0, 1), (1, 1), (2, 1)], 3, 48, some [.str [], .str [], .nil]⟩),
  (126, ⟨.strct [(0, 1), (1, 1), (2, 1)], 3, 48, some [.str [], .str [], .nil]⟩),
  (134, ⟨.ptr 136, 1, 8, none⟩),
  (135, ⟨.strct [(0, 1)], 1, 16, some [.str []]⟩),
  (136, ⟨.strct [(0, 1)], 1, 16, some [.str []]⟩),
  (140, ⟨.strct [(0, 1), (1, 1), (2, 1), (3, 1)], 4, 40, none⟩),
  (141, ⟨.strct [(0, 1), (1, 1), (2, 1), (3, 1)], 4, 40, none⟩),
  (143, ⟨.strct [(0, 0)], 0, 0, some []⟩),
  (144, ⟨.strct [(0, 0)], 0, 0, some []⟩),
  (145, ⟨.int .u8, 1, 1, some [.int .u8 0]⟩),
  (146, ⟨.int .u8, 1, 1, some [.int .u8 0]⟩),
  (148, ⟨.int .i32, 1, 4, some [.int .i32 0]⟩),
  (149, ⟨.int .i32, 1, 4, some [.int .i32 0]⟩),
  (150, ⟨.strct [(0, 1), (1, 1), (2, 1), (3, 1), (4, 1), (5, 1), (6, 1), (7, 1), (8, 1), (9, 1), (10, 1)], 11, 48, none⟩),
  (151, ⟨.strct [(0, 1), (1, 1), (2, 1), (3, 1), (4, 1), (5, 1), (6, 1), (7, 1), (8, 1), (9, 1), (10, 1)], 11, 48, none⟩),
  (152, ⟨.slice 156, 1, 24, some [.slice []]⟩),
  (153, ⟨.strct [(0, 1), (1, 1), (2, 1), (3, 1), (4, 1), (5, 1)], 6, 104, some [.int .i64 0, .int .i64 0, .str [], .slice [], .slice [], .slice []]⟩),
  (154, ⟨.strct [(0, 1), (1, 1), (2, 1), (3, 1), (4, 1), (5, 1)], 6, 104, some [.int .i64 0, .int .i64 0, .str [], .slice [], .slice [], .slice []]⟩),
  (155, ⟨.strct [(0, 1), (1, 1), (2, 1), (3, 5), (8, 1)], 9, 120, some [.int .i64 0, .int .i64 0, .int .i64 0, .int .i64 0, .str [], .str [], .slice [], .slice [], .bool false]⟩),
  (156, ⟨.strct [(0, 1), (1, 1), (2, 1), (3, 5), (8, 1)], 9, 120, some [.int .i64 0, .int .i64 0, .int .i64 0, .int .i64 0, .str [], .str [], .slice [], .slice [], .bool false]⟩)]

def eqtab : List (TypeId × List EK) := []

theorem eqtab_ok : eqtab.all (fun p => eqcheck Tryz.prog p.1 p.2) = true := by kernel_rfl

theorem tab_ok : tab.all (fun p => tcheck Tryz.prog p.1 p.2) = true := by kernel_rfl

noncomputable def env : Env where
  P := Tryz.prog
  T := tabT tab
  hT := fun t ti h => tabT_sound tab_ok t ti h
  gN := 4
  GI := fun w => (∃ m, w.cell? ⟨0, 0, none⟩ = some (.int .i64 m)) ∧ (∃ ev, w.cell? ⟨1, 0, none⟩ = some ev ∧ (ev = .nilIface ∨ ∃ te pe, ev = .iface te pe)) ∧ (∃ ev, w.cell? ⟨2, 0, none⟩ = some ev ∧ (ev = .nilIface ∨ ∃ te pe, ev = .iface te pe)) ∧ Lib.TabIs Tryz.prog w "internal/strconv.uint64pow10" .u64 Lib.pow10Tab
  hG := by
    intro w w' ⟨⟨m, hm⟩, ⟨e3, h3, k3⟩, ⟨e4, h4, k4⟩, ht⟩ h
    have c : ∀ b, b < 4 → w'.cell? ⟨b, 0, none⟩ = w.cell? ⟨b, 0, none⟩ := fun b hb => World.cell?_of_block (a := ⟨b, 0, none⟩) (h b hb)
    exact ⟨⟨m, (c 0 (by decide)).trans hm⟩, ⟨e3, (c 1 (by decide)).trans h3, k3⟩, ⟨e4, (c 2 (by decide)).trans h4, k4⟩, tabIs_below (g := 3) (by kernel_rfl) ht (h 3 (by decide))⟩
  bT := some 53
  be := 5
  eqT := eqtabT eqtab
  ownT := fun t => ([29] : List Nat).contains t
  hEq := fun t ks h => eqtabT_sound eqtab_ok h
  hbT := by
    intro t ht w
    cases ht
    kernel_rfl
theorem isBoolT_4 : isBoolT env.T 4 = true := rfl
theorem T_2 : env.T 2 = some ⟨.int .i64, 1, 8, some [.int .i64 0]⟩ := rfl
theorem T_3 : env.T 3 = some ⟨.int .i64, 1, 8, some [.int .i64 0]⟩ := rfl
theorem T_4 : env.T 4 = some ⟨.bool, 1, 1, some [.bool false]⟩ := rfl
theorem T_5 : env.T 5 = some ⟨.int .u8, 1, 1, some [.int .u8 0]⟩ := rfl
theorem T_6 : env.T 6 = some ⟨.int .u8, 1, 1, some [.int .u8 0]⟩ := rfl
theorem T_7 : env.T 7 = some ⟨.strct [(0, 1), (1, 1), (2, 1), (3, 1)], 4, 24, some [.int .i64 0, .int .i64 0, .bool false, .int .u8 0]⟩ := rfl
theorem T_8 : env.T 8 = some ⟨.strct [(0, 1), (1, 1), (2, 1), (3, 1)], 4, 24, some [.int .i64 0, .int .i64 0, .bool false, .int .u8 0]⟩ := rfl
theorem T_9 : env.T 9 = some ⟨.str, 1, 16, some [.str []]⟩ := rfl
theorem T_10 : env.T 10 = some ⟨.str, 1, 16, some [.str []]⟩ := rfl
theorem T_11 : env.T 11 = some ⟨.str, 1, 16, some [.str []]⟩ := rfl
theorem T_12 : env.T 12 = some ⟨.int .u64, 1, 8, some [.int .u64 0]⟩ := rfl
theorem T_13 : env.T 13 = some ⟨.strct [(0, 1), (1, 1)], 2, 24, some [.str [], .int .u64 0]⟩ := rfl
theorem T_14 : env.T 14 = some ⟨.strct [(0, 1), (1, 1)], 2, 24, some [.str [], .int .u64 0]⟩ := rfl
theorem T_15 : env.T 15 = some ⟨.ptr 141, 1, 8, none⟩ := rfl
theorem T_16 : env.T 16 = some ⟨.ptr 144, 1, 8, none⟩ := rfl
theorem T_17 : env.T 17 = some ⟨.ptr 151, 1, 8, none⟩ := rfl
theorem T_18 : env.T 18 = some ⟨.strct [(0, 1)], 1, 8, none⟩ := rfl
theorem T_19 : env.T 19 = some ⟨.strct [(0, 1)], 1, 8, none⟩ := rfl
theorem T_20 : env.T 20 = some ⟨.iface, 1, 16, some [.nil]⟩ := rfl
theorem T_21 : env.T 21 = some ⟨.int .i32, 1, 4, some [.int .i32 0]⟩ := rfl
theorem T_22 : env.T 22 = some ⟨.slice 34, 1, 24, some [.slice []]⟩ := rfl
theorem T_25 : env.T 25 = some ⟨.int .i64, 1, 8, some [.int .i64 0]⟩ := rfl
theorem T_29 : env.T 29 = some ⟨.slice 9, 1, 24, some [.slice []]⟩ := rfl
theorem T_32 : env.T 32 = some ⟨.slice 37, 1, 24, some [.slice []]⟩ := rfl
theorem T_33 : env.T 33 = some ⟨.strct [(0, 1), (1, 1), (2, 1)], 3, 40, some [.int .i64 0, .int .i64 0, .slice []]⟩ := rfl
theorem T_34 : env.T 34 = some ⟨.strct [(0, 1), (1, 1), (2, 1)], 3, 40, some [.int .i64 0, .int .i64 0, .slice []]⟩ := rfl
theorem T_36 : env.T 36 = some ⟨.strct [(0, 1), (1, 1), (2, 1)], 3, 48, some [.int .i64 0, .str [], .slice []]⟩ := rfl
theorem T_37 : env.T 37 = some ⟨.strct [(0, 1), (1, 1), (2, 1)], 3, 48, some [.int .i64 0, .str [], .slice []]⟩ := rfl
theorem T_41 : env.T 41 = some ⟨.slice 44, 1, 24, some [.slice []]⟩ := rfl
theorem T_42 : env.T 42 = some ⟨.slice 154, 1, 24, some [.slice []]⟩ := rfl
theorem T_43 : env.T 43 = some ⟨.strct [(0, 1), (1, 1), (2, 1), (3, 1), (4, 1)], 5, 88, some [.int .i64 0, .str [], .str [], .slice [], .slice []]⟩ := rfl
theorem T_44 : env.T 44 = some ⟨.strct [(0, 1), (1, 1), (2, 1), (3, 1), (4, 1)], 5, 88, some [.int .i64 0, .str [], .str [], .slice [], .slice []]⟩ := rfl
theorem T_50 : env.T 50 = some ⟨.ptr 53, 1, 8, none⟩ := rfl
theorem T_51 : env.T 51 = some ⟨.slice 5, 1, 24, some [.slice []]⟩ := rfl
theorem T_52 : env.T 52 = some ⟨.strct [(0, 1), (1, 1)], 2, 32, none⟩ := rfl
theorem T_53 : env.T 53 = some ⟨.strct [(0, 1), (1, 1)], 2, 32, none⟩ := rfl
theorem T_57 : env.T 57 = some ⟨.iface, 1, 16, some [.nil]⟩ := rfl
theorem T_58 : env.T 58 = some ⟨.iface, 1, 16, some [.nil]⟩ := rfl
theorem T_69 : env.T 69 = some ⟨.slice 76, 1, 24, some [.slice []]⟩ := rfl
theorem T_75 : env.T 75 = some ⟨.strct [(0, 1), (1, 1)], 2, 32, some [.str [], .str []]⟩ := rfl
theorem T_76 : env.T 76 = some ⟨.strct [(0, 1), (1, 1)], 2, 32, some [.str [], .str []]⟩ := rfl
theorem T_82 : env.T 82 = some ⟨.ptr 5, 1, 8, none⟩ := rfl
theorem T_95 : env.T 95 = some ⟨.int .u64, 1, 8, some [.int .u64 0]⟩ := rfl
theorem T_104 : env.T 104 = some ⟨.int .i64, 1, 8, some [.int .i64 0]⟩ := rfl
theorem T_107 : env.T 107 = some ⟨.ptr 126, 1, 8, none⟩ := rfl
theorem T_110 : env.T 110 = some ⟨.int .u32, 1, 4, some [.int .u32 0]⟩ := rfl
theorem T_114 : env.T 114 = some ⟨.int .u64, 1, 8, some [.int .u64 0]⟩ := rfl
theorem T_125 : env.T 125 = some ⟨.strct [(0, 1), (1, 1), (2, 1)], 3, 48, some [.str [], .str [], .nil]⟩ := rfl
theorem T_126 : env.T 126 = some ⟨.strct [(0, 1), (1, 1), (2, 1)], 3, 48, some [.str [], .str [], .nil]⟩ := rfl
theorem T_134 : env.T 134 = some ⟨.ptr 136, 1, 8, none⟩ := rfl
theorem T_135 : env.T 135 = some ⟨.strct [(0, 1)], 1, 16, some [.str []]⟩ := rfl
theorem T_136 : env.T 136 = some ⟨.strct [(0, 1)], 1, 16, some [.str []]⟩ := rfl
theorem T_140 : env.T 140 = some ⟨.strct [(0, 1), (1, 1), (2, 1), (3, 1)], 4, 40, none⟩ := rfl
theorem T_141 : env.T 141 = some ⟨.strct [(0, 1), (1, 1), (2, 1), (3, 1)], 4, 40, none⟩ := rfl
theorem T_143 : env.T 143 = some ⟨.strct [(0, 0)], 0, 0, some []⟩ := rfl
theorem T_144 : env.T 144 = some ⟨.strct [(0, 0)], 0, 0, some []⟩ := rfl
theorem T_145 : env.T 145 = some ⟨.int .u8, 1, 1, some [.int .u8 0]⟩ := rfl
theorem T_146 : env.T 146 = some ⟨.int .u8, 1, 1, some [.int .u8 0]⟩ := rfl
theorem T_148 : env.T 148 = some ⟨.int .i32, 1, 4, some [.int .i32 0]⟩ := rfl
theorem T_149 : env.T 149 = some ⟨.int .i32, 1, 4, some [.int .i32 0]⟩ := rfl
theorem T_150 : env.T 150 = some ⟨.strct [(0, 1), (1, 1), (2, 1), (3, 1), (4, 1), (5, 1), (6, 1), (7, 1), (8, 1), (9, 1), (10, 1)], 11, 48, none⟩ := rfl
theorem T_151 : env.T 151 = some ⟨.strct [(0, 1), (1, 1), (2, 1), (3, 1), (4, 1), (5, 1), (6, 1), (7, 1), (8, 1), (9, 1), (10, 1)], 11, 48, none⟩ := rfl
theorem T_152 : env.T 152 = some ⟨.slice 156, 1, 24, some [.slice []]⟩ := rfl
theorem T_153 : env.T 153 = some ⟨.strct [(0, 1), (1, 1), (2, 1), (3, 1), (4, 1), (5, 1)], 6, 104, some [.int .i64 0, .int .i64 0, .str [], .slice [], .slice [], .slice []]⟩ := rfl
theorem T_154 : env.T 154 = some ⟨.strct [(0, 1), (1, 1), (2, 1), (3, 1), (4, 1), (5, 1)], 6, 104, some [.int .i64 0, .int .i64 0, .str [], .slice [], .slice [], .slice []]⟩ := rfl
theorem T_155 : env.T 155 = some ⟨.strct [(0, 1), (1, 1), (2, 1), (3, 5), (8, 1)], 9, 120, some [.int .i64 0, .int .i64 0, .int .i64 0, .int .i64 0, .str [], .str [], .slice [], .slice [], .bool false]⟩ := rfl
theorem T_156 : env.T 156 = some ⟨.strct [(0, 1), (1, 1), (2, 1), (3, 5), (8, 1)], 9, 120, some [.int .i64 0, .int .i64 0, .int .i64 0, .int .i64 0, .str [], .str [], .slice [], .slice [], .bool false]⟩ := rfl
theorem ownT_7 : env.ownT 7 = false := rfl
theorem ownT_8 : env.ownT 8 = false := rfl
theorem ownT_13 : env.ownT 13 = false := rfl
theorem ownT_14 : env.ownT 14 = false := rfl
theorem ownT_18 : env.ownT 18 = false := rfl
theorem ownT_19 : env.ownT 19 = false := rfl
theorem ownT_22 : env.ownT 22 = false := rfl
theorem ownT_29 : env.ownT 29 = true := rfl
theorem ownT_32 : env.ownT 32 = false := rfl
theorem ownT_33 : env.ownT 33 = false := rfl
theorem ownT_34 : env.ownT 34 = false := rfl
theorem ownT_36 : env.ownT 36 = false := rfl
theorem ownT_37 : env.ownT 37 = false := rfl
theorem ownT_41 : env.ownT 41 = false := rfl
theorem ownT_42 : env.ownT 42 = false := rfl
theorem ownT_43 : env.ownT 43 = false := rfl
theorem ownT_44 : env.ownT 44 = false := rfl
theorem ownT_51 : env.ownT 51 = false := rfl
theorem ownT_52 : env.ownT 52 = false := rfl
theorem ownT_53 : env.ownT 53 = false := rfl
theorem ownT_69 : env.ownT 69 = false := rfl
theorem ownT_75 : env.ownT 75 = false := rfl
theorem ownT_76 : env.ownT 76 = false := rfl
theorem ownT_125 : env.ownT 125 = false := rfl
theorem ownT_126 : env.ownT 126 = false := rfl
theorem ownT_135 : env.ownT 135 = false := rfl
theorem ownT_136 : env.ownT 136 = false := rfl
theorem ownT_140 : env.ownT 140 = false := rfl
theorem ownT_141 : env.ownT 141 = false := rfl
theorem ownT_143 : env.ownT 143 = false := rfl
theorem ownT_144 : env.ownT 144 = false := rfl
theorem ownT_150 : env.ownT 150 = false := rfl
theorem ownT_151 : env.ownT 151 = false := rfl
theorem ownT_152 : env.ownT 152 = false := rfl
theorem ownT_153 : env.ownT 153 = false := rfl
theorem ownT_154 : env.ownT 154 = false := rfl
theorem ownT_155 : env.ownT 155 = false := rfl
theorem ownT_156 : env.ownT 156 = false := rfl
theorem eqT_3 : env.eqT 3 = none := rfl
theorem eqT_5 : env.eqT 5 = none := rfl
theorem eqT_9 : env.eqT 9 = none := rfl
theorem eqT_25 : env.eqT 25 = none := rfl
theorem eqT_58 : env.eqT 58 = none := rfl
theorem mixed : env.P.follows .mixedOrders = true := by kernel_rfl
theorem env_bT : env.bT = some 53 := rfl
theorem env_P : env.P = Tryz.prog := rfl
theorem fn_3 : env.P.funcs[3]? = some Tryz.f3 := by
  rw [env_P]
  exact Tryz.func3
theorem fn_4 : env.P.funcs[4]? = some Tryz.f4 := by
  rw [env_P]
  exact Tryz.func4
theorem fn_5 : env.P.funcs[5]? = some Tryz.f5 := by
  rw [env_P]
  exact Tryz.func5
theorem fn_6 : env.P.funcs[6]? = some Tryz.f6 := by
  rw [env_P]
  exact Tryz.func6
theorem fn_7 : env.P.funcs[7]? = some Tryz.f7 := by
  rw [env_P]
  exact Tryz.func7
theorem fn_8 : env.P.funcs[8]? = some Tryz.f8 := by
  rw [env_P]
  exact Tryz.func8
theorem fn_9 : env.P.funcs[9]? = some Tryz.f9 := by
  rw [env_P]
  exact Tryz.func9
theorem fn_10 : env.P.funcs[10]? = some Tryz.f10 := by
  rw [env_P]
  exact Tryz.func10
theorem fn_11 : env.P.funcs[11]? = some Tryz.f11 := by
  rw [env_P]
  exact Tryz.func11
theorem fn_12 : env.P.funcs[12]? = some Tryz.f12 := by
  rw [env_P]
  exact Tryz.func12
theorem fn_13 : env.P.funcs[13]? = some Tryz.f13 := by
  rw [env_P]
  exact Tryz.func13
theorem fn_14 : env.P.funcs[14]? = some Tryz.f14 := by
  rw [env_P]
  exact Tryz.func14
theorem fn_15 : env.P.funcs[15]? = some Tryz.f15 := by
  rw [env_P]
  exact Tryz.func15
theorem fn_16 : env.P.funcs[16]? = some Tryz.f16 := by
  rw [env_P]
  exact Tryz.func16
theorem fn_17 : env.P.funcs[17]? = some Tryz.f17 := by
  rw [env_P]
  exact Tryz.func17
theorem fn_18 : env.P.funcs[18]? = some Tryz.f18 := by
  rw [env_P]
  exact Tryz.func18
theorem fn_19 : env.P.funcs[19]? = some Tryz.f19 := by
  rw [env_P]
  exact Tryz.func19
theorem fn_20 : env.P.funcs[20]? = some Tryz.f20 := by
  rw [env_P]
  exact Tryz.func20
theorem fn_21 : env.P.funcs[21]? = some Tryz.f21 := by
  rw [env_P]
  exact Tryz.func21
theorem fn_22 : env.P.funcs[22]? = some Tryz.f22 := by
  rw [env_P]
  exact Tryz.func22
theorem fn_23 : env.P.funcs[23]? = some Tryz.f23 := by
  rw [env_P]
  exact Tryz.func23
theorem fn_24 : env.P.funcs[24]? = some Tryz.f24 := by
  rw [env_P]
  exact Tryz.func24
theorem fn_25 : env.P.funcs[25]? = some Tryz.f25 := by
  rw [env_P]
  exact Tryz.func25
theorem fn_26 : env.P.funcs[26]? = some Tryz.f26 := by
  rw [env_P]
  exact Tryz.func26
theorem fn_27 : env.P.funcs[27]? = some Tryz.f27 := by
  rw [env_P]
  exact Tryz.func27
theorem fn_28 : env.P.funcs[28]? = some Tryz.f28 := by
  rw [env_P]
  exact Tryz.func28
theorem fn_29 : env.P.funcs[29]? = some Tryz.f29 := by
  rw [env_P]
  exact Tryz.func29
theorem fn_30 : env.P.funcs[30]? = some Tryz.f30 := by
  rw [env_P]
  exact Tryz.func30
theorem fn_31 : env.P.funcs[31]? = some Tryz.f31 := by
  rw [env_P]
  exact Tryz.func31
theorem fn_32 : env.P.funcs[32]? = some Tryz.f32 := by
  rw [env_P]
  exact Tryz.func32
theorem fn_33 : env.P.funcs[33]? = some Tryz.f33 := by
  rw [env_P]
  exact Tryz.func33
theorem fn_34 : env.P.funcs[34]? = some Tryz.f34 := by
  rw [env_P]
  exact Tryz.func34
theorem fn_35 : env.P.funcs[35]? = some Tryz.f35 := by
  rw [env_P]
  exact Tryz.func35
theorem fn_36 : env.P.funcs[36]? = some Tryz.f36 := by
  rw [env_P]
  exact Tryz.func36
theorem fn_37 : env.P.funcs[37]? = some Tryz.f37 := by
  rw [env_P]
  exact Tryz.func37
theorem fn_40 : env.P.funcs[40]? = some Tryz.f40 := by
  rw [env_P]
  exact Tryz.func40
theorem fn_42 : env.P.funcs[42]? = some Tryz.f42 := by
  rw [env_P]
  exact Tryz.func42
theorem fn_43 : env.P.funcs[43]? = some Tryz.f43 := by
  rw [env_P]
  exact Tryz.func43
theorem fn_44 : env.P.funcs[44]? = some Tryz.f44 := by
  rw [env_P]
  exact Tryz.func44
theorem fn_45 : env.P.funcs[45]? = some Tryz.f45 := by
  rw [env_P]
  exact Tryz.func45
theorem fn_47 : env.P.funcs[47]? = some Tryz.f47 := by
  rw [env_P]
  exact Tryz.func47
theorem fn_48 : env.P.funcs[48]? = some Tryz.f48 := by
  rw [env_P]
  exact Tryz.func48
theorem fn_49 : env.P.funcs[49]? = some Tryz.f49 := by
  rw [env_P]
  exact Tryz.func49
theorem fn_50 : env.P.funcs[50]? = some Tryz.f50 := by
  rw [env_P]
  exact Tryz.func50
theorem fn_51 : env.P.funcs[51]? = some Tryz.f51 := by
  rw [env_P]
  exact Tryz.func51
theorem fn_52 : env.P.funcs[52]? = some Tryz.f52 := by
  rw [env_P]
  exact Tryz.func52
theorem fn_56 : env.P.funcs[56]? = some Tryz.f56 := by
  rw [env_P]
  exact Tryz.func56
theorem fn_57 : env.P.funcs[57]? = some Tryz.f57 := by
  rw [env_P]
  exact Tryz.func57
theorem fn_58 : env.P.funcs[58]? = some Tryz.f58 := by
  rw [env_P]
  exact Tryz.func58
theorem fn_59 : env.P.funcs[59]? = some Tryz.f59 := by
  rw [env_P]
  exact Tryz.func59
theorem fn_60 : env.P.funcs[60]? = some Tryz.f60 := by
  rw [env_P]
  exact Tryz.func60
theorem fn_62 : env.P.funcs[62]? = some Tryz.f62 := by
  rw [env_P]
  exact Tryz.func62
theorem fn_70 : env.P.funcs[70]? = some Tryz.f70 := by
  rw [env_P]
  exact Tryz.func70
theorem fn_71 : env.P.funcs[71]? = some Tryz.f71 := by
  rw [env_P]
  exact Tryz.func71
theorem fn_72 : env.P.funcs[72]? = some Tryz.f72 := by
  rw [env_P]
  exact Tryz.func72
theorem fn_73 : env.P.funcs[73]? = some Tryz.f73 := by
  rw [env_P]
  exact Tryz.func73

def P29 (xs : List Str) : PV := .slice (xs.map PV.str)

theorem P29_eq (xs : List Str) : P29 xs = .slice (xs.map PV.str) := rfl

theorem P29_inj {x y : List Str} (h : P29 x = P29 y) : x = y := map_inj_of (fun _ _ => str_inj) (PV.slice.inj h)

theorem P29_all (xs : List (List Str)) : ((xs.map P29).all fun z => z.cells.length == 1) = true := by
  simp [P29, PV.cells]

structure Var where
  id_ : Int
  name_ : Str
  values_ : List Str

instance : Inhabited Var := ⟨⟨0, [], []⟩⟩

def Var.pv (x : Var) : PV := .agg [.int .i64 x.id_, .str x.name_, .slice (List.map PV.str x.values_)]

theorem Var.pv_eq (x : Var) : x.pv = .agg [.int .i64 x.id_, .str x.name_, .slice (List.map PV.str x.values_)] := rfl

theorem Var.inj {x y : Var} (h : x.pv = y.pv) : x = y := by
  obtain ⟨a1, a2, a3⟩ := x
  obtain ⟨b1, b2, b3⟩ := y
  simp only [Var.pv, PV.agg.injEq, List.cons.injEq, and_true] at h
  obtain ⟨h1, h2, h3⟩ := h
  cases (int_inj h1)
  cases (str_inj h2)
  cases (map_inj_of (fun _ _ => str_inj) (PV.slice.inj h3))
  rfl

theorem Var.all (xs : List Var) : ((xs.map Var.pv).all fun z => z.cells.length == 3) = true := by
  simp [Var.pv, PV.cells]

def P32 (xs : List Var) : PV := .slice (xs.map Var.pv)

theorem P32_eq (xs : List Var) : P32 xs = .slice (xs.map Var.pv) := rfl

theorem P32_inj {x y : List Var} (h : P32 x = P32 y) : x = y := map_inj_of (fun _ _ => Var.inj) (PV.slice.inj h)

theorem P32_all (xs : List (List Var)) : ((xs.map P32).all fun z => z.cells.length == 1) = true := by
  simp [P32, PV.cells]

structure GEnv where
  id_ : Int
  next_ : Int
  vars_ : List Var

instance : Inhabited GEnv := ⟨⟨0, 0, []⟩⟩

def GEnv.pv (x : GEnv) : PV := .agg [.int .i64 x.id_, .int .i64 x.next_, .slice (List.map Var.pv x.vars_)]

theorem GEnv.pv_eq (x : GEnv) : x.pv = .agg [.int .i64 x.id_, .int .i64 x.next_, .slice (List.map Var.pv x.vars_)] := rfl

theorem GEnv.inj {x y : GEnv} (h : x.pv = y.pv) : x = y := by
  obtain ⟨a1, a2, a3⟩ := x
  obtain ⟨b1, b2, b3⟩ := y
  simp only [GEnv.pv, PV.agg.injEq, List.cons.injEq, and_true] at h
  obtain ⟨h1, h2, h3⟩ := h
  cases (int_inj h1)
  cases (int_inj h2)
  cases (map_inj_of (fun _ _ => Var.inj) (PV.slice.inj h3))
  rfl

theorem GEnv.all (xs : List GEnv) : ((xs.map GEnv.pv).all fun z => z.cells.length == 3) = true := by
  simp [GEnv.pv, PV.cells]

mutual
structure Word where
  kind_ : Int
  text_ : Str
  quoted_ : Str
  words_ : List Word
  cmd_ : List Cmd
structure Cmd where
  kind_ : Int
  at_ : Int
  name_ : Str
  words_ : List Word
  redirs_ : List Redir
  kids_ : List Cmd
structure Redir where
  kind_ : Int
  fd_ : Int
  from_ : Int
  word_ : Word
  raw_ : Bool
end

instance : Inhabited Word := ⟨⟨0, [], [], [], []⟩⟩

instance : Inhabited Cmd := ⟨⟨0, 0, [], [], [], []⟩⟩

instance : Inhabited Redir := ⟨⟨0, 0, 0, default, false⟩⟩

mutual
def Word.cells : Word → List PV
  | ⟨a1, a2, a3, a4, a5⟩ => [.int .i64 a1, .str a2, .str a3, .slice (Word.pvs a4), .slice (Cmd.pvs a5)]
def Word.pvs : List Word → List PV
  | [] => []
  | x :: r => PV.agg x.cells :: Word.pvs r
def Cmd.cells : Cmd → List PV
  | ⟨a1, a2, a3, a4, a5, a6⟩ => [.int .i64 a1, .int .i64 a2, .str a3, .slice (Word.pvs a4), .slice (Redir.pvs a5), .slice (Cmd.pvs a6)]
def Cmd.pvs : List Cmd → List PV
  | [] => []
  | x :: r => PV.agg x.cells :: Cmd.pvs r
def Redir.cells : Redir → List PV
  | ⟨a1, a2, a3, ⟨a4, a5, a6, a7, a8⟩, a9⟩ => [.int .i64 a1, .int .i64 a2, .int .i64 a3, .int .i64 a4, .str a5, .str a6, .slice (Word.pvs a7), .slice (Cmd.pvs a8), .bool a9]
def Redir.pvs : List Redir → List PV
  | [] => []
  | x :: r => PV.agg x.cells :: Redir.pvs r
end

def Word.pv (x : Word) : PV := .agg x.cells

theorem Word.pvs_eq : ∀ xs : List Word, Word.pvs xs = xs.map Word.pv
  | [] => by rw [Word.pvs]; rfl
  | x :: r => by rw [Word.pvs, Word.pvs_eq r]; rfl

def Cmd.pv (x : Cmd) : PV := .agg x.cells

theorem Cmd.pvs_eq : ∀ xs : List Cmd, Cmd.pvs xs = xs.map Cmd.pv
  | [] => by rw [Cmd.pvs]; rfl
  | x :: r => by rw [Cmd.pvs, Cmd.pvs_eq r]; rfl

def Redir.pv (x : Redir) : PV := .agg x.cells

theorem Redir.pvs_eq : ∀ xs : List Redir, Redir.pvs xs = xs.map Redir.pv
  | [] => by rw [Redir.pvs]; rfl
  | x :: r => by rw [Redir.pvs, Redir.pvs_eq r]; rfl

theorem Word.pv_eq (x : Word) : x.pv = .agg [.int .i64 x.kind_, .str x.text_, .str x.quoted_, .slice (List.map Word.pv x.words_), .slice (List.map Cmd.pv x.cmd_)] := by
  obtain ⟨a1, a2, a3, a4, a5⟩ := x
  simp only [Word.pv, Word.cells, Word.pvs_eq, Cmd.pvs_eq, Redir.pvs_eq]

theorem Cmd.pv_eq (x : Cmd) : x.pv = .agg [.int .i64 x.kind_, .int .i64 x.at_, .str x.name_, .slice (List.map Word.pv x.words_), .slice (List.map Redir.pv x.redirs_), .slice (List.map Cmd.pv x.kids_)] := by
  obtain ⟨a1, a2, a3, a4, a5, a6⟩ := x
  simp only [Cmd.pv, Cmd.cells, Word.pvs_eq, Cmd.pvs_eq, Redir.pvs_eq]

theorem Redir.pv_eq (x : Redir) : x.pv = .agg [.int .i64 x.kind_, .int .i64 x.fd_, .int .i64 x.from_, .int .i64 x.word_.kind_, .str x.word_.text_, .str x.word_.quoted_, .slice (List.map Word.pv x.word_.words_), .slice (List.map Cmd.pv x.word_.cmd_), .bool x.raw_] := by
  obtain ⟨a1, a2, a3, ⟨a4, a5, a6, a7, a8⟩, a9⟩ := x
  simp only [Redir.pv, Redir.cells, Word.pvs_eq, Cmd.pvs_eq, Redir.pvs_eq]

mutual
theorem Word.cinj : ∀ (x y : Word), x.cells = y.cells → x = y
  | ⟨a1, a2, a3, a4, a5⟩, ⟨b1, b2, b3, b4, b5⟩, h => by
    simp only [Word.cells, List.cons.injEq, PV.slice.injEq, and_true] at h
    obtain ⟨h1, h2, h3, h4, h5⟩ := h
    cases (int_inj h1)
    cases (str_inj h2)
    cases (str_inj h3)
    cases Word.injs _ _ h4
    cases Cmd.injs _ _ h5
    rfl
theorem Word.injs : ∀ (x y : List Word), Word.pvs x = Word.pvs y → x = y
  | [], [], _ => rfl
  | [], y :: ys, h => by simp [Word.pvs] at h
  | x :: xs, [], h => by simp [Word.pvs] at h
  | x :: xs, y :: ys, h => by
    simp only [Word.pvs, List.cons.injEq, PV.agg.injEq] at h
    rw [Word.cinj x y h.1, Word.injs xs ys h.2]
theorem Cmd.cinj : ∀ (x y : Cmd), x.cells = y.cells → x = y
  | ⟨a1, a2, a3, a4, a5, a6⟩, ⟨b1, b2, b3, b4, b5, b6⟩, h => by
    simp only [Cmd.cells, List.cons.injEq, PV.slice.injEq, and_true] at h
    obtain ⟨h1, h2, h3, h4, h5, h6⟩ := h
    cases (int_inj h1)
    cases (int_inj h2)
    cases (str_inj h3)
    cases Word.injs _ _ h4
    cases Redir.injs _ _ h5
    cases Cmd.injs _ _ h6
    rfl
theorem Cmd.injs : ∀ (x y : List Cmd), Cmd.pvs x = Cmd.pvs y → x = y
  | [], [], _ => rfl
  | [], y :: ys, h => by simp [Cmd.pvs] at h
  | x :: xs, [], h => by simp [Cmd.pvs] at h
  | x :: xs, y :: ys, h => by
    simp only [Cmd.pvs, List.cons.injEq, PV.agg.injEq] at h
    rw [Cmd.cinj x y h.1, Cmd.injs xs ys h.2]
theorem Redir.cinj : ∀ (x y : Redir), x.cells = y.cells → x = y
  | ⟨a1, a2, a3, ⟨a4, a5, a6, a7, a8⟩, a9⟩, ⟨b1, b2, b3, ⟨b4, b5, b6, b7, b8⟩, b9⟩, h => by
    simp only [Redir.cells, List.cons.injEq, PV.slice.injEq, and_true] at h
    obtain ⟨h1, h2, h3, h4, h5, h6, h7, h8, h9⟩ := h
    cases (int_inj h1)
    cases (int_inj h2)
    cases (int_inj h3)
    cases (int_inj h4)
    cases (str_inj h5)
    cases (str_inj h6)
    cases Word.injs _ _ h7
    cases Cmd.injs _ _ h8
    cases (bool_inj h9)
    rfl
theorem Redir.injs : ∀ (x y : List Redir), Redir.pvs x = Redir.pvs y → x = y
  | [], [], _ => rfl
  | [], y :: ys, h => by simp [Redir.pvs] at h
  | x :: xs, [], h => by simp [Redir.pvs] at h
  | x :: xs, y :: ys, h => by
    simp only [Redir.pvs, List.cons.injEq, PV.agg.injEq] at h
    rw [Redir.cinj x y h.1, Redir.injs xs ys h.2]
end

theorem Word.inj {x y : Word} (h : x.pv = y.pv) : x = y := Word.cinj x y (PV.agg.inj h)

theorem Word.injA {x y : Word} (h : PV.agg [.int .i64 (x.kind_), .str (x.text_), .str (x.quoted_), .slice (List.map Word.pv (x.words_)), .slice (List.map Cmd.pv (x.cmd_))] = PV.agg [.int .i64 (y.kind_), .str (y.text_), .str (y.quoted_), .slice (List.map Word.pv (y.words_)), .slice (List.map Cmd.pv (y.cmd_))]) : x = y := Word.inj ((Word.pv_eq x).trans (h.trans (Word.pv_eq y).symm))

theorem Word.all (xs : List Word) : ((xs.map Word.pv).all fun z => z.cells.length == 5) = true := by
  simp [Word.pv_eq, PV.cells]

theorem Cmd.inj {x y : Cmd} (h : x.pv = y.pv) : x = y := Cmd.cinj x y (PV.agg.inj h)

theorem Cmd.injA {x y : Cmd} (h : PV.agg [.int .i64 (x.kind_), .int .i64 (x.at_), .str (x.name_), .slice (List.map Word.pv (x.words_)), .slice (List.map Redir.pv (x.redirs_)), .slice (List.map Cmd.pv (x.kids_))] = PV.agg [.int .i64 (y.kind_), .int .i64 (y.at_), .str (y.name_), .slice (List.map Word.pv (y.words_)), .slice (List.map Redir.pv (y.redirs_)), .slice (List.map Cmd.pv (y.kids_))]) : x = y := Cmd.inj ((Cmd.pv_eq x).trans (h.trans (Cmd.pv_eq y).symm))

theorem Cmd.all (xs : List Cmd) : ((xs.map Cmd.pv).all fun z => z.cells.length == 6) = true := by
  simp [Cmd.pv_eq, PV.cells]

theorem Redir.inj {x y : Redir} (h : x.pv = y.pv) : x = y := Redir.cinj x y (PV.agg.inj h)

theorem Redir.injA {x y : Redir} (h : PV.agg [.int .i64 (x.kind_), .int .i64 (x.fd_), .int .i64 (x.from_), .int .i64 (x.word_.kind_), .str (x.word_.text_), .str (x.word_.quoted_), .slice (List.map Word.pv (x.word_.words_)), .slice (List.map Cmd.pv (x.word_.cmd_)), .bool (x.raw_)] = PV.agg [.int .i64 (y.kind_), .int .i64 (y.fd_), .int .i64 (y.from_), .int .i64 (y.word_.kind_), .str (y.word_.text_), .str (y.word_.quoted_), .slice (List.map Word.pv (y.word_.words_)), .slice (List.map Cmd.pv (y.word_.cmd_)), .bool (y.raw_)]) : x = y := Redir.inj ((Redir.pv_eq x).trans (h.trans (Redir.pv_eq y).symm))

theorem Redir.all (xs : List Redir) : ((xs.map Redir.pv).all fun z => z.cells.length == 9) = true := by
  simp [Redir.pv_eq, PV.cells]

def P41 (xs : List Word) : PV := .slice (xs.map Word.pv)

theorem P41_eq (xs : List Word) : P41 xs = .slice (xs.map Word.pv) := rfl

theorem P41_inj {x y : List Word} (h : P41 x = P41 y) : x = y := map_inj_of (fun _ _ => Word.inj) (PV.slice.inj h)

theorem P41_all (xs : List (List Word)) : ((xs.map P41).all fun z => z.cells.length == 1) = true := by
  simp [P41, PV.cells]

def P152 (xs : List Redir) : PV := .slice (xs.map Redir.pv)

theorem P152_eq (xs : List Redir) : P152 xs = .slice (xs.map Redir.pv) := rfl

theorem P152_inj {x y : List Redir} (h : P152 x = P152 y) : x = y := map_inj_of (fun _ _ => Redir.inj) (PV.slice.inj h)

theorem P152_all (xs : List (List Redir)) : ((xs.map P152).all fun z => z.cells.length == 1) = true := by
  simp [P152, PV.cells]

def P42 (xs : List Cmd) : PV := .slice (xs.map Cmd.pv)

theorem P42_eq (xs : List Cmd) : P42 xs = .slice (xs.map Cmd.pv) := rfl

theorem P42_inj {x y : List Cmd} (h : P42 x = P42 y) : x = y := map_inj_of (fun _ _ => Cmd.inj) (PV.slice.inj h)

theorem P42_all (xs : List (List Cmd)) : ((xs.map P42).all fun z => z.cells.length == 1) = true := by
  simp [P42, PV.cells]

structure GValue where
  text_ : Str
  marks_ : Str

instance : Inhabited GValue := ⟨⟨[], []⟩⟩

def GValue.pv (x : GValue) : PV := .agg [.str x.text_, .str x.marks_]

theorem GValue.pv_eq (x : GValue) : x.pv = .agg [.str x.text_, .str x.marks_] := rfl

theorem GValue.inj {x y : GValue} (h : x.pv = y.pv) : x = y := by
  obtain ⟨a1, a2⟩ := x
  obtain ⟨b1, b2⟩ := y
  simp only [GValue.pv, PV.agg.injEq, List.cons.injEq, and_true] at h
  obtain ⟨h1, h2⟩ := h
  cases (str_inj h1)
  cases (str_inj h2)
  rfl

theorem GValue.all (xs : List GValue) : ((xs.map GValue.pv).all fun z => z.cells.length == 2) = true := by
  simp [GValue.pv, PV.cells]

def pfn : FuncId → Bool := fun f => [4, 5, 6, 7, 8, 9, 10, 11, 12, 13, 14, 15, 16, 17, 18, 19, 21, 23, 24, 25, 26, 27, 29, 30, 31, 32, 33, 34, 35, 36, 37, 40, 42, 43, 44, 45, 47, 48, 49, 50, 51, 52, 56, 57, 58, 59, 60, 62].contains f

end Go.Abs.U5Z
