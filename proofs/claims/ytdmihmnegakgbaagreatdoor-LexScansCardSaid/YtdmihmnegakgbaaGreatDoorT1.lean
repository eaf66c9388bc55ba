/- The layer 47 laws: the program's types, its package variables, the environment of its abstract machine. -/
import Derived.Test.YtdmihmnegakgbaaGreatDoorA31
import Derived.Test.YtdmihmnegakgbaaGreatDoorA36
import Derived.Test.YtdmihmnegakgbaaGreatDoorA37
import Derived.Test.YtdmihmnegakgbaaGreatDoorA42
import Derived.Test.YtdmihmnegakgbaaGreatDoorProg
namespace Go.Abs.U47
open Go.RowKit Go.Proofs

abbrev Str := List UInt8

def tab : List (Nat × TI) := [
  (2, ⟨.int .i64, 1, 8, some [.int .i64 0]⟩),
  (3, ⟨.int .i64, 1, 8, some [.int .i64 0]⟩),
  (4, ⟨.bool, 1, 1, some [.bool false]⟩),
  (5, ⟨.int .u8, 1, 1, some [.int .u8 0]⟩),
  (6, ⟨.int .u8, 1, 1, some [.int .u8 0]⟩),
  (7, ⟨.strct [(0, 1), (1, 1), (2, 1), (3, 1)], 4, 24, some [.int .i64 0, .int .i64 0, .bool false, .int .u8 0]⟩),
  (8, ⟨.strct [(0, 1), (1, 1), (2, 1), (3, 1)], 4, 24, some [.int .i64 0, .int .i64 0, .bool false, .int .u8 0]⟩),
  (9, ⟨.str, 1, 16, some [.str []]⟩),
  (10, ⟨.str, 1, 16, some [.str []]⟩),
  (11, ⟨.str, 1, 16, some [.str []]⟩),
  (12, ⟨.int .u64, 1, 8, some [.int .u64 0]⟩),
  (13, ⟨.strct [(0, 1), (1, 1)], 2, 24, some [.str [], .int .u64 0]⟩),
  (14, ⟨.strct [(0, 1), (1, 1)], 2, 24, some [.str [], .int .u64 0]⟩),
  (15, ⟨.ptr 138, 1, 8, none⟩),
  (16, ⟨.ptr 141, 1, 8, none⟩),
  (17, ⟨.ptr 148, 1, 8, none⟩),
  (18, ⟨.strct [(0, 1)], 1, 8, none⟩),
  (19, ⟨.strct [(0, 1)], 1, 8, none⟩),
  (20, ⟨.iface, 1, 16, some [.nil]⟩),
  (21, ⟨.int .i32, 1, 4, some [.int .i32 0]⟩),
  (23, ⟨.slice 32, 1, 24, some [.slice []]⟩),
  (24, ⟨.int .i64, 1, 8, some [.int .i64 0]⟩),
  (31, ⟨.strct [(0, 1), (1, 1), (2, 1), (3, 1)], 4, 48, some [.int .i64 0, .int .i64 0, .str [], .str []]⟩),
  (32, ⟨.strct [(0, 1), (1, 1), (2, 1), (3, 1)], 4, 48, some [.int .i64 0, .int .i64 0, .str [], .str []]⟩),
  (34, ⟨.ptr 37, 1, 8, none⟩),
  (35, ⟨.slice 9, 1, 24, some [.slice []]⟩),
  (36, ⟨.strct [(0, 1), (1, 1), (2, 1), (3, 1), (4, 1), (5, 1), (6, 1)], 7, 96, some [.str [], .int .i64 0, .slice [], .slice [], .int .i64 0, .int .i64 0, .int .i64 0]⟩),
  (37, ⟨.strct [(0, 1), (1, 1), (2, 1), (3, 1), (4, 1), (5, 1), (6, 1)], 7, 96, some [.str [], .int .i64 0, .slice [], .slice [], .int .i64 0, .int .i64 0, .int .i64 0]⟩),
  (41, ⟨.strct [(0, 1), (1, 1), (2, 1), (3, 1), (4, 1), (5, 1), (6, 1)], 7, 88, some [.int .i64 0, .slice [], .int .i64 0, .bool false, .slice [], .int .i64 0, .int .i64 0]⟩),
  (42, ⟨.strct [(0, 1), (1, 1), (2, 1), (3, 1), (4, 1), (5, 1), (6, 1)], 7, 88, some [.int .i64 0, .slice [], .int .i64 0, .bool false, .slice [], .int .i64 0, .int .i64 0]⟩),
  (45, ⟨.slice 3, 1, 24, some [.slice []]⟩),
  (61, ⟨.strct [(0, 1), (1, 1), (2, 1), (3, 1)], 4, 48, some [.str [], .str [], .int .i64 0, .bool false]⟩),
  (62, ⟨.strct [(0, 1), (1, 1), (2, 1), (3, 1)], 4, 48, some [.str [], .str [], .int .i64 0, .bool false]⟩),
  (65, ⟨.ptr 68, 1, 8, none⟩),
  (66, ⟨.slice 5, 1, 24, some [.slice []]⟩),
  (67, ⟨.strct [(0, 1), (1, 1)], 2, 32, none⟩),
  (68, ⟨.strct [(0, 1), (1, 1)], 2, 32, none⟩),
  (70, ⟨.iface, 1, 16, some [.nil]⟩),
  (71, ⟨.iface, 1, 16, some [.nil]⟩),
  (82, ⟨.ptr 5, 1, 8, none⟩),
  (86, ⟨.int .u64, 1, 8, some [.int .u64 0]⟩),
  (94, ⟨.int .u32, 1, 4, some [.int .u32 0]⟩),
  (97, ⟨.int .u64, 1, 8, some [.int .u64 0]⟩),
  (103, ⟨.strct [(0, 1), (1, 1)], 2, 2, some [.int .u8 0, .int .u8 0]⟩),
  (104, ⟨.strct [(0, 1), (1, 1)], 2, 2, some [.int .u8 0, .int .u8 0]⟩),
  (108, ⟨.int .i64, 1, 8, some [.int .i64 0]⟩),
  (111, ⟨.ptr 118, 1, 8, none⟩),
  (117, ⟨.strct [(0, 1), (1, 1), (2, 1)], 3, 48, some [.str [], .str [], .nil]⟩),
  (118, ⟨.strct [(0, 1), (1, 1), (2, 1)], 3, 48, some [.str [], .str [], .nil]⟩),
  (126, ⟨.ptr 128, 1, 8, none⟩),
  (127, ⟨.strct [(0, 1)], 1, 16, some [.str []]⟩),
  (128, ⟨.strct [(0, 1)], 1, 16, some [.str []]⟩),
  (137, ⟨.strct [(0, 1), (1, 1), (2, 1), (3, 1)], 4, 40, none⟩),
  (138, ⟨.strct [(0, 1), (1, 1), (2, 1), (3, 1)], 4, 40, none⟩),
  (140, ⟨.strct [(0, 0)], 0, 0, some []⟩),
  (141, ⟨.strct [(0, 0)], 0, 0, some []⟩),
  (142, ⟨.int .u8, 1, 1, some [.int .u8 0]⟩),
  (143, ⟨.int .u8, 1, 1, some [.int .u8 0]⟩),
  (145, ⟨.int .i32, 1, 4, some [.int .i32 0]⟩),
  (146, ⟨.int .i32, 1, 4, some [.int .i32 0]⟩),
  (147, ⟨.strct [(0, 1), (1, 1), (2, 1), (3, 1), (4, 1), (5, 1), (6, 1), (7, 1), (8, 1), (9, 1), (10, 1)], 11, 48, none⟩),
  (148, ⟨.strct [(0, 1), (1, 1), (2, 1), (3, 1), (4, 1), (5, 1), (6, 1), (7, 1), (8, 1), (9, 1), (10, 1)], 11, 48, none⟩)]

def eqtab : List (TypeId × List EK) := [(32, [.int, .int, .str, .str])]

theorem eqtab_ok : eqtab.all (fun p => eqcheck Tryz.prog p.1 p.2) = true := by kernel_rfl

theorem tab_ok : tab.all (fun p => tcheck Tryz.prog p.1 p.2) = true := by kernel_rfl

noncomputable def env : Env where
  P := Tryz.prog
  T := tabT tab
  hT := fun t ti h => tabT_sound tab_ok t ti h
  gN := 5
  GI := fun w => (∃ m, w.cell? ⟨0, 0, none⟩ = some (.int .i64 m)) ∧ (∃ ev, w.cell? ⟨3, 0, none⟩ = some ev ∧ (ev = .nilIface ∨ ∃ te pe, ev = .iface te pe)) ∧ ∃ ev, w.cell? ⟨4, 0, none⟩ = some ev ∧ (ev = .nilIface ∨ ∃ te pe, ev = .iface te pe)
  hG := by
    intro w w' ⟨⟨m, hm⟩, ⟨e3, h3, k3⟩, e4, h4, k4⟩ h
    have c : ∀ b, b < 5 → w'.cell? ⟨b, 0, none⟩ = w.cell? ⟨b, 0, none⟩ := fun b hb => World.cell?_of_block (a := ⟨b, 0, none⟩) (h b hb)
    exact ⟨⟨m, (c 0 (by decide)).trans hm⟩, ⟨e3, (c 3 (by decide)).trans h3, k3⟩, e4, (c 4 (by decide)).trans h4, k4⟩
  bT := some 68
  be := 5
  eqT := eqtabT eqtab
  ownT := fun t => ([23, 37, 42] : List Nat).contains t
  hEq := fun t ks h => eqtabT_sound eqtab_ok h
  hbT := by
    intro t ht w
    cases ht
    kernel_rfl
theorem isBoolT_4 : isBoolT env.T 4 = true := rfl
theorem T_2 : env.T 2 = some ⟨.int .i64, 1, 8, some [.int .i64 0]⟩ := rfl
theorem T_3 : env.T 3 = some ⟨.int .i64, 1, 8, some [.int .i64 0]⟩ := rfl
theorem T_4 : env.T 4 = some ⟨.bool, 1, 1, some [.bool false]⟩ := rfl
theorem T_5 : env.T 5 = some ⟨.int .u8, 1, 1, some [.int .u8 0]⟩ := rfl
theorem T_6 : env.T 6 = some ⟨.int .u8, 1, 1, some [.int .u8 0]⟩ := rfl
theorem T_7 : env.T 7 = some ⟨.strct [(0, 1), (1, 1), (2, 1), (3, 1)], 4, 24, some [.int .i64 0, .int .i64 0, .bool false, .int .u8 0]⟩ := rfl
theorem T_8 : env.T 8 = some ⟨.strct [(0, 1), (1, 1), (2, 1), (3, 1)], 4, 24, some [.int .i64 0, .int .i64 0, .bool false, .int .u8 0]⟩ := rfl
theorem T_9 : env.T 9 = some ⟨.str, 1, 16, some [.str []]⟩ := rfl
theorem T_10 : env.T 10 = some ⟨.str, 1, 16, some [.str []]⟩ := rfl
theorem T_11 : env.T 11 = some ⟨.str, 1, 16, some [.str []]⟩ := rfl
theorem T_12 : env.T 12 = some ⟨.int .u64, 1, 8, some [.int .u64 0]⟩ := rfl
theorem T_13 : env.T 13 = some ⟨.strct [(0, 1), (1, 1)], 2, 24, some [.str [], .int .u64 0]⟩ := rfl
theorem T_14 : env.T 14 = some ⟨.strct [(0, 1), (1, 1)], 2, 24, some [.str [], .int .u64 0]⟩ := rfl
theorem T_15 : env.T 15 = some ⟨.ptr 138, 1, 8, none⟩ := rfl
theorem T_16 : env.T 16 = some ⟨.ptr 141, 1, 8, none⟩ := rfl
theorem T_17 : env.T 17 = some ⟨.ptr 148, 1, 8, none⟩ := rfl
theorem T_18 : env.T 18 = some ⟨.strct [(0, 1)], 1, 8, none⟩ := rfl
theorem T_19 : env.T 19 = some ⟨.strct [(0, 1)], 1, 8, none⟩ := rfl
theorem T_20 : env.T 20 = some ⟨.iface, 1, 16, some [.nil]⟩ := rfl
theorem T_21 : env.T 21 = some ⟨.int .i32, 1, 4, some [.int .i32 0]⟩ := rfl
theorem T_23 : env.T 23 = some ⟨.slice 32, 1, 24, some [.slice []]⟩ := rfl
theorem T_24 : env.T 24 = some ⟨.int .i64, 1, 8, some [.int .i64 0]⟩ := rfl
theorem T_31 : env.T 31 = some ⟨.strct [(0, 1), (1, 1), (2, 1), (3, 1)], 4, 48, some [.int .i64 0, .int .i64 0, .str [], .str []]⟩ := rfl
theorem T_32 : env.T 32 = some ⟨.strct [(0, 1), (1, 1), (2, 1), (3, 1)], 4, 48, some [.int .i64 0, .int .i64 0, .str [], .str []]⟩ := rfl
theorem T_34 : env.T 34 = some ⟨.ptr 37, 1, 8, none⟩ := rfl
theorem T_35 : env.T 35 = some ⟨.slice 9, 1, 24, some [.slice []]⟩ := rfl
theorem T_36 : env.T 36 = some ⟨.strct [(0, 1), (1, 1), (2, 1), (3, 1), (4, 1), (5, 1), (6, 1)], 7, 96, some [.str [], .int .i64 0, .slice [], .slice [], .int .i64 0, .int .i64 0, .int .i64 0]⟩ := rfl
theorem T_37 : env.T 37 = some ⟨.strct [(0, 1), (1, 1), (2, 1), (3, 1), (4, 1), (5, 1), (6, 1)], 7, 96, some [.str [], .int .i64 0, .slice [], .slice [], .int .i64 0, .int .i64 0, .int .i64 0]⟩ := rfl
theorem T_41 : env.T 41 = some ⟨.strct [(0, 1), (1, 1), (2, 1), (3, 1), (4, 1), (5, 1), (6, 1)], 7, 88, some [.int .i64 0, .slice [], .int .i64 0, .bool false, .slice [], .int .i64 0, .int .i64 0]⟩ := rfl
theorem T_42 : env.T 42 = some ⟨.strct [(0, 1), (1, 1), (2, 1), (3, 1), (4, 1), (5, 1), (6, 1)], 7, 88, some [.int .i64 0, .slice [], .int .i64 0, .bool false, .slice [], .int .i64 0, .int .i64 0]⟩ := rfl
theorem T_45 : env.T 45 = some ⟨.slice 3, 1, 24, some [.slice []]⟩ := rfl
theorem T_61 : env.T 61 = some ⟨.strct [(0, 1), (1, 1), (2, 1), (3, 1)], 4, 48, some [.str [], .str [], .int .i64 0, .bool false]⟩ := rfl
theorem T_62 : env.T 62 = some ⟨.strct [(0, 1), (1, 1), (2, 1), (3, 1)], 4, 48, some [.str [], .str [], .int .i64 0, .bool false]⟩ := rfl
theorem T_65 : env.T 65 = some ⟨.ptr 68, 1, 8, none⟩ := rfl
theorem T_66 : env.T 66 = some ⟨.slice 5, 1, 24, some [.slice []]⟩ := rfl
theorem T_67 : env.T 67 = some ⟨.strct [(0, 1), (1, 1)], 2, 32, none⟩ := rfl
theorem T_68 : env.T 68 = some ⟨.strct [(0, 1), (1, 1)], 2, 32, none⟩ := rfl
theorem T_70 : env.T 70 = some ⟨.iface, 1, 16, some [.nil]⟩ := rfl
theorem T_71 : env.T 71 = some ⟨.iface, 1, 16, some [.nil]⟩ := rfl
theorem T_82 : env.T 82 = some ⟨.ptr 5, 1, 8, none⟩ := rfl
theorem T_86 : env.T 86 = some ⟨.int .u64, 1, 8, some [.int .u64 0]⟩ := rfl
theorem T_94 : env.T 94 = some ⟨.int .u32, 1, 4, some [.int .u32 0]⟩ := rfl
theorem T_97 : env.T 97 = some ⟨.int .u64, 1, 8, some [.int .u64 0]⟩ := rfl
theorem T_103 : env.T 103 = some ⟨.strct [(0, 1), (1, 1)], 2, 2, some [.int .u8 0, .int .u8 0]⟩ := rfl
theorem T_104 : env.T 104 = some ⟨.strct [(0, 1), (1, 1)], 2, 2, some [.int .u8 0, .int .u8 0]⟩ := rfl
theorem T_108 : env.T 108 = some ⟨.int .i64, 1, 8, some [.int .i64 0]⟩ := rfl
theorem T_111 : env.T 111 = some ⟨.ptr 118, 1, 8, none⟩ := rfl
theorem T_117 : env.T 117 = some ⟨.strct [(0, 1), (1, 1), (2, 1)], 3, 48, some [.str [], .str [], .nil]⟩ := rfl
theorem T_118 : env.T 118 = some ⟨.strct [(0, 1), (1, 1), (2, 1)], 3, 48, some [.str [], .str [], .nil]⟩ := rfl
theorem T_126 : env.T 126 = some ⟨.ptr 128, 1, 8, none⟩ := rfl
theorem T_127 : env.T 127 = some ⟨.strct [(0, 1)], 1, 16, some [.str []]⟩ := rfl
theorem T_128 : env.T 128 = some ⟨.strct [(0, 1)], 1, 16, some [.str []]⟩ := rfl
theorem T_137 : env.T 137 = some ⟨.strct [(0, 1), (1, 1), (2, 1), (3, 1)], 4, 40, none⟩ := rfl
theorem T_138 : env.T 138 = some ⟨.strct [(0, 1), (1, 1), (2, 1), (3, 1)], 4, 40, none⟩ := rfl
theorem T_140 : env.T 140 = some ⟨.strct [(0, 0)], 0, 0, some []⟩ := rfl
theorem T_141 : env.T 141 = some ⟨.strct [(0, 0)], 0, 0, some []⟩ := rfl
theorem T_142 : env.T 142 = some ⟨.int .u8, 1, 1, some [.int .u8 0]⟩ := rfl
theorem T_143 : env.T 143 = some ⟨.int .u8, 1, 1, some [.int .u8 0]⟩ := rfl
theorem T_145 : env.T 145 = some ⟨.int .i32, 1, 4, some [.int .i32 0]⟩ := rfl
theorem T_146 : env.T 146 = some ⟨.int .i32, 1, 4, some [.int .i32 0]⟩ := rfl
theorem T_147 : env.T 147 = some ⟨.strct [(0, 1), (1, 1), (2, 1), (3, 1), (4, 1), (5, 1), (6, 1), (7, 1), (8, 1), (9, 1), (10, 1)], 11, 48, none⟩ := rfl
theorem T_148 : env.T 148 = some ⟨.strct [(0, 1), (1, 1), (2, 1), (3, 1), (4, 1), (5, 1), (6, 1), (7, 1), (8, 1), (9, 1), (10, 1)], 11, 48, none⟩ := rfl
theorem ownT_7 : env.ownT 7 = false := rfl
theorem ownT_8 : env.ownT 8 = false := rfl
theorem ownT_13 : env.ownT 13 = false := rfl
theorem ownT_14 : env.ownT 14 = false := rfl
theorem ownT_18 : env.ownT 18 = false := rfl
theorem ownT_19 : env.ownT 19 = false := rfl
theorem ownT_23 : env.ownT 23 = true := rfl
theorem ownT_31 : env.ownT 31 = false := rfl
theorem ownT_32 : env.ownT 32 = false := rfl
theorem ownT_35 : env.ownT 35 = false := rfl
theorem ownT_36 : env.ownT 36 = false := rfl
theorem ownT_37 : env.ownT 37 = true := rfl
theorem ownT_41 : env.ownT 41 = false := rfl
theorem ownT_42 : env.ownT 42 = true := rfl
theorem ownT_45 : env.ownT 45 = false := rfl
theorem ownT_61 : env.ownT 61 = false := rfl
theorem ownT_62 : env.ownT 62 = false := rfl
theorem ownT_66 : env.ownT 66 = false := rfl
theorem ownT_67 : env.ownT 67 = false := rfl
theorem ownT_68 : env.ownT 68 = false := rfl
theorem ownT_103 : env.ownT 103 = false := rfl
theorem ownT_104 : env.ownT 104 = false := rfl
theorem ownT_117 : env.ownT 117 = false := rfl
theorem ownT_118 : env.ownT 118 = false := rfl
theorem ownT_127 : env.ownT 127 = false := rfl
theorem ownT_128 : env.ownT 128 = false := rfl
theorem ownT_137 : env.ownT 137 = false := rfl
theorem ownT_138 : env.ownT 138 = false := rfl
theorem ownT_140 : env.ownT 140 = false := rfl
theorem ownT_141 : env.ownT 141 = false := rfl
theorem ownT_147 : env.ownT 147 = false := rfl
theorem ownT_148 : env.ownT 148 = false := rfl
theorem eqT_3 : env.eqT 3 = none := rfl
theorem eqT_5 : env.eqT 5 = none := rfl
theorem eqT_9 : env.eqT 9 = none := rfl
theorem eqT_24 : env.eqT 24 = none := rfl
theorem eqT_32 : env.eqT 32 = some [.int, .int, .str, .str] := rfl
theorem eqT_71 : env.eqT 71 = none := rfl
theorem mixed : env.P.follows .mixedOrders = true := by kernel_rfl
theorem env_bT : env.bT = some 68 := rfl
theorem env_P : env.P = Tryz.prog := rfl
theorem fn_3 : env.P.funcs[3]? = some Tryz.f3 := by
  rw [env_P]
  exact Tryz.func3
theorem fn_4 : env.P.funcs[4]? = some Tryz.f4 := by
  rw [env_P]
  exact Tryz.func4
theorem fn_5 : env.P.funcs[5]? = some Tryz.f5 := by
  rw [env_P]
  exact Tryz.func5
theorem fn_6 : env.P.funcs[6]? = some Tryz.f6 := by
  rw [env_P]
  exact Tryz.func6
theorem fn_7 : env.P.funcs[7]? = some Tryz.f7 := by
  rw [env_P]
  exact Tryz.func7
theorem fn_8 : env.P.funcs[8]? = some Tryz.f8 := by
  rw [env_P]
  exact Tryz.func8
theorem fn_9 : env.P.funcs[9]? = some Tryz.f9 := by
  rw [env_P]
  exact Tryz.func9
theorem fn_10 : env.P.funcs[10]? = some Tryz.f10 := by
  rw [env_P]
  exact Tryz.func10
theorem fn_11 : env.P.funcs[11]? = some Tryz.f11 := by
  rw [env_P]
  exact Tryz.func11
theorem fn_12 : env.P.funcs[12]? = some Tryz.f12 := by
  rw [env_P]
  exact Tryz.func12
theorem fn_13 : env.P.funcs[13]? = some Tryz.f13 := by
  rw [env_P]
  exact Tryz.func13
theorem fn_14 : env.P.funcs[14]? = some Tryz.f14 := by
  rw [env_P]
  exact Tryz.func14
theorem fn_15 : env.P.funcs[15]? = some Tryz.f15 := by
  rw [env_P]
  exact Tryz.func15
theorem fn_16 : env.P.funcs[16]? = some Tryz.f16 := by
  rw [env_P]
  exact Tryz.func16
theorem fn_17 : env.P.funcs[17]? = some Tryz.f17 := by
  rw [env_P]
  exact Tryz.func17
theorem fn_18 : env.P.funcs[18]? = some Tryz.f18 := by
  rw [env_P]
  exact Tryz.func18
theorem fn_19 : env.P.funcs[19]? = some Tryz.f19 := by
  rw [env_P]
  exact Tryz.func19
theorem fn_20 : env.P.funcs[20]? = some Tryz.f20 := by
  rw [env_P]
  exact Tryz.func20
theorem fn_21 : env.P.funcs[21]? = some Tryz.f21 := by
  rw [env_P]
  exact Tryz.func21
theorem fn_22 : env.P.funcs[22]? = some Tryz.f22 := by
  rw [env_P]
  exact Tryz.func22
theorem fn_23 : env.P.funcs[23]? = some Tryz.f23 := by
  rw [env_P]
  exact Tryz.func23
theorem fn_25 : env.P.funcs[25]? = some Tryz.f25 := by
  rw [env_P]
  exact Tryz.func25
theorem fn_26 : env.P.funcs[26]? = some Tryz.f26 := by
  rw [env_P]
  exact Tryz.func26
theorem fn_27 : env.P.funcs[27]? = some Tryz.f27 := by
  rw [env_P]
  exact Tryz.func27
theorem fn_28 : env.P.funcs[28]? = some Tryz.f28 := by
  rw [env_P]
  exact Tryz.func28
theorem fn_29 : env.P.funcs[29]? = some Tryz.f29 := by
  rw [env_P]
  exact Tryz.func29
theorem fn_30 : env.P.funcs[30]? = some Tryz.f30 := by
  rw [env_P]
  exact Tryz.func30
theorem fn_31 : env.P.funcs[31]? = some Tryz.f31 := by
  rw [env_P]
  exact Tryz.func31
theorem fn_32 : env.P.funcs[32]? = some Tryz.f32 := by
  rw [env_P]
  exact Tryz.func32
theorem fn_33 : env.P.funcs[33]? = some Tryz.f33 := by
  rw [env_P]
  exact Tryz.func33
theorem fn_34 : env.P.funcs[34]? = some Tryz.f34 := by
  rw [env_P]
  exact Tryz.func34
theorem fn_35 : env.P.funcs[35]? = some Tryz.f35 := by
  rw [env_P]
  exact Tryz.func35
theorem fn_36 : env.P.funcs[36]? = some Tryz.f36 := by
  rw [env_P]
  exact Tryz.func36
theorem fn_37 : env.P.funcs[37]? = some Tryz.f37 := by
  rw [env_P]
  exact Tryz.func37
theorem fn_38 : env.P.funcs[38]? = some Tryz.f38 := by
  rw [env_P]
  exact Tryz.func38
theorem fn_39 : env.P.funcs[39]? = some Tryz.f39 := by
  rw [env_P]
  exact Tryz.func39
theorem fn_40 : env.P.funcs[40]? = some Tryz.f40 := by
  rw [env_P]
  exact Tryz.func40
theorem fn_41 : env.P.funcs[41]? = some Tryz.f41 := by
  rw [env_P]
  exact Tryz.func41
theorem fn_43 : env.P.funcs[43]? = some Tryz.f43 := by
  rw [env_P]
  exact Tryz.func43
theorem fn_44 : env.P.funcs[44]? = some Tryz.f44 := by
  rw [env_P]
  exact Tryz.func44
theorem fn_47 : env.P.funcs[47]? = some Tryz.f47 := by
  rw [env_P]
  exact Tryz.func47
theorem fn_48 : env.P.funcs[48]? = some Tryz.f48 := by
  rw [env_P]
  exact Tryz.func48
theorem fn_49 : env.P.funcs[49]? = some Tryz.f49 := by
  rw [env_P]
  exact Tryz.func49
theorem fn_50 : env.P.funcs[50]? = some Tryz.f50 := by
  rw [env_P]
  exact Tryz.func50
theorem fn_51 : env.P.funcs[51]? = some Tryz.f51 := by
  rw [env_P]
  exact Tryz.func51
theorem fn_52 : env.P.funcs[52]? = some Tryz.f52 := by
  rw [env_P]
  exact Tryz.func52
theorem fn_53 : env.P.funcs[53]? = some Tryz.f53 := by
  rw [env_P]
  exact Tryz.func53
theorem fn_54 : env.P.funcs[54]? = some Tryz.f54 := by
  rw [env_P]
  exact Tryz.func54
theorem fn_55 : env.P.funcs[55]? = some Tryz.f55 := by
  rw [env_P]
  exact Tryz.func55
theorem fn_56 : env.P.funcs[56]? = some Tryz.f56 := by
  rw [env_P]
  exact Tryz.func56
theorem fn_57 : env.P.funcs[57]? = some Tryz.f57 := by
  rw [env_P]
  exact Tryz.func57
theorem fn_58 : env.P.funcs[58]? = some Tryz.f58 := by
  rw [env_P]
  exact Tryz.func58
theorem fn_67 : env.P.funcs[67]? = some Tryz.f67 := by
  rw [env_P]
  exact Tryz.func67
theorem fn_68 : env.P.funcs[68]? = some Tryz.f68 := by
  rw [env_P]
  exact Tryz.func68
theorem fn_77 : env.P.funcs[77]? = some Tryz.f77 := by
  rw [env_P]
  exact Tryz.func77
theorem fn_78 : env.P.funcs[78]? = some Tryz.f78 := by
  rw [env_P]
  exact Tryz.func78

structure Token where
  kind_ : Int
  at_ : Int
  text_ : Str
  quoted_ : Str

instance : Inhabited Token := ⟨⟨0, 0, [], []⟩⟩

def Token.pv (x : Token) : PV := .agg [.int .i64 x.kind_, .int .i64 x.at_, .str x.text_, .str x.quoted_]

theorem Token.pv_eq (x : Token) : x.pv = .agg [.int .i64 x.kind_, .int .i64 x.at_, .str x.text_, .str x.quoted_] := rfl

theorem Token.inj {x y : Token} (h : x.pv = y.pv) : x = y := by
  obtain ⟨a1, a2, a3, a4⟩ := x
  obtain ⟨b1, b2, b3, b4⟩ := y
  simp only [Token.pv, PV.agg.injEq, List.cons.injEq, and_true] at h
  obtain ⟨h1, h2, h3, h4⟩ := h
  cases (int_inj h1)
  cases (int_inj h2)
  cases (str_inj h3)
  cases (str_inj h4)
  rfl

theorem Token.all (xs : List Token) : ((xs.map Token.pv).all fun z => z.cells.length == 4) = true := by
  simp [Token.pv, PV.cells]

structure Part where
  text_ : Str
  quoted_ : Str
  to_ : Int
  ok_ : Bool

instance : Inhabited Part := ⟨⟨[], [], 0, false⟩⟩

def Part.pv (x : Part) : PV := .agg [.str x.text_, .str x.quoted_, .int .i64 x.to_, .bool x.ok_]

theorem Part.pv_eq (x : Part) : x.pv = .agg [.str x.text_, .str x.quoted_, .int .i64 x.to_, .bool x.ok_] := rfl

theorem Part.inj {x y : Part} (h : x.pv = y.pv) : x = y := by
  obtain ⟨a1, a2, a3, a4⟩ := x
  obtain ⟨b1, b2, b3, b4⟩ := y
  simp only [Part.pv, PV.agg.injEq, List.cons.injEq, and_true] at h
  obtain ⟨h1, h2, h3, h4⟩ := h
  cases (str_inj h1)
  cases (str_inj h2)
  cases (int_inj h3)
  cases (bool_inj h4)
  rfl

theorem Part.all (xs : List Part) : ((xs.map Part.pv).all fun z => z.cells.length == 4) = true := by
  simp [Part.pv, PV.cells]

def pfn : FuncId → Bool := fun f => [4, 5, 6, 7, 8, 9, 10, 13, 15, 20, 21, 22, 23, 27, 34, 38, 40, 41, 50, 51, 52, 53, 54, 55, 56, 57, 58, 67, 68, 77, 78].contains f

end Go.Abs.U47
