/- The layer 47 laws: the program's types, its package variables, the environment of its abstract machine. -/
import Derived.Test.YtdmihmnegakgbaaDoorA31
import Derived.Test.YtdmihmnegakgbaaDoorA36
import Derived.Test.YtdmihmnegakgbaaDoorA37
import Derived.Test.YtdmihmnegakgbaaDoorProg
namespace Go.Abs.U47
open Go.RowKit Go.Proofs

abbrev Str := List UInt8

def tab : List (Nat × TI) := [
  (2, ⟨.int .i64, 1, 8, some [.int .i64 0]⟩),
  (3, ⟨.int .i64, 1, 8, some [.int .i64 0]⟩),
  (4, ⟨.bool, 1, 1, some [.bool false]⟩),
  (5, ⟨.int .u8, 1, 1, some [.int .u8 0]⟩),
  (6, ⟨.int .u8, 1, 1, some [.int .u8 0]⟩),
  (7, ⟨.strct [(0, 1), (1, 1), (2, 1), (3, 1)], 4, 24, some [.int .i64 0, .int .i64 0, .bool false, .int .u8 0]⟩),
  (8, ⟨.strct [(0, 1), (1, 1), (2, 1), (3, 1)], 4, 24, some [.int .i64 0, .int .i64 0, .bool false, .int .u8 0]⟩),
  (9, ⟨.str, 1, 16, some [.str []]⟩),
  (10, ⟨.str, 1, 16, some [.str []]⟩),
  (11, ⟨.str, 1, 16, some [.str []]⟩),
  (12, ⟨.int .u64, 1, 8, some [.int .u64 0]⟩),
  (13, ⟨.strct [(0, 1), (1, 1)], 2, 24, some [.str [], .int .u64 0]⟩),
  (14, ⟨.strct [(0, 1), (1, 1)], 2, 24, some [.str [], .int .u64 0]⟩),
  (15, ⟨.ptr 131, 1, 8, none⟩),
  (16, ⟨.ptr 134, 1, 8, none⟩),
  (17, ⟨.ptr 141, 1, 8, none⟩),
  (18, ⟨.strct [(0, 1)], 1, 8, none⟩),
  (19, ⟨.strct [(0, 1)], 1, 8, none⟩),
  (20, ⟨.iface, 1, 16, some [.nil]⟩),
  (21, ⟨.int .i32, 1, 4, some [.int .i32 0]⟩),
  (24, ⟨.slice 30, 1, 24, some [.slice []]⟩),
  (25, ⟨.int .i64, 1, 8, some [.int .i64 0]⟩),
  (29, ⟨.strct [(0, 1), (1, 1), (2, 1), (3, 1)], 4, 48, some [.int .i64 0, .int .i64 0, .str [], .str []]⟩),
  (30, ⟨.strct [(0, 1), (1, 1), (2, 1), (3, 1)], 4, 48, some [.int .i64 0, .int .i64 0, .str [], .str []]⟩),
  (39, ⟨.ptr 42, 1, 8, none⟩),
  (40, ⟨.slice 9, 1, 24, some [.slice []]⟩),
  (41, ⟨.strct [(0, 1), (1, 1), (2, 1), (3, 1), (4, 1), (5, 1), (6, 1)], 7, 96, some [.str [], .int .i64 0, .slice [], .slice [], .int .i64 0, .int .i64 0, .int .i64 0]⟩),
  (42, ⟨.strct [(0, 1), (1, 1), (2, 1), (3, 1), (4, 1), (5, 1), (6, 1)], 7, 96, some [.str [], .int .i64 0, .slice [], .slice [], .int .i64 0, .int .i64 0, .int .i64 0]⟩),
  (47, ⟨.slice 3, 1, 24, some [.slice []]⟩),
  (62, ⟨.ptr 65, 1, 8, none⟩),
  (63, ⟨.slice 5, 1, 24, some [.slice []]⟩),
  (64, ⟨.strct [(0, 1), (1, 1)], 2, 32, none⟩),
  (65, ⟨.strct [(0, 1), (1, 1)], 2, 32, none⟩),
  (67, ⟨.iface, 1, 16, some [.nil]⟩),
  (68, ⟨.iface, 1, 16, some [.nil]⟩),
  (78, ⟨.ptr 5, 1, 8, none⟩),
  (80, ⟨.int .u64, 1, 8, some [.int .u64 0]⟩),
  (89, ⟨.strct [(0, 1), (1, 1)], 2, 2, some [.int .u8 0, .int .u8 0]⟩),
  (90, ⟨.strct [(0, 1), (1, 1)], 2, 2, some [.int .u8 0, .int .u8 0]⟩),
  (92, ⟨.int .u32, 1, 4, some [.int .u32 0]⟩),
  (95, ⟨.int .u64, 1, 8, some [.int .u64 0]⟩),
  (101, ⟨.int .i64, 1, 8, some [.int .i64 0]⟩),
  (104, ⟨.ptr 111, 1, 8, none⟩),
  (110, ⟨.strct [(0, 1), (1, 1), (2, 1)], 3, 48, some [.str [], .str [], .nil]⟩),
  (111, ⟨.strct [(0, 1), (1, 1), (2, 1)], 3, 48, some [.str [], .str [], .nil]⟩),
  (119, ⟨.ptr 121, 1, 8, none⟩),
  (120, ⟨.strct [(0, 1)], 1, 16, some [.str []]⟩),
  (121, ⟨.strct [(0, 1)], 1, 16, some [.str []]⟩),
  (130, ⟨.strct [(0, 1), (1, 1), (2, 1), (3, 1)], 4, 40, none⟩),
  (131, ⟨.strct [(0, 1), (1, 1), (2, 1), (3, 1)], 4, 40, none⟩),
  (133, ⟨.strct [(0, 0)], 0, 0, some []⟩),
  (134, ⟨.strct [(0, 0)], 0, 0, some []⟩),
  (135, ⟨.int .u8, 1, 1, some [.int .u8 0]⟩),
  (136, ⟨.int .u8, 1, 1, some [.int .u8 0]⟩),
  (138, ⟨.int .i32, 1, 4, some [.int .i32 0]⟩),
  (139, ⟨.int .i32, 1, 4, some [.int .i32 0]⟩),
  (140, ⟨.strct [(0, 1), (1, 1), (2, 1), (3, 1), (4, 1), (5, 1), (6, 1), (7, 1), (8, 1), (9, 1), (10, 1)], 11, 48, none⟩),
  (141, ⟨.strct [(0, 1), (1, 1), (2, 1), (3, 1), (4, 1), (5, 1), (6, 1), (7, 1), (8, 1), (9, 1), (10, 1)], 11, 48, none⟩)]

def eqtab : List (TypeId × List EK) := [(30, [.int, .int, .str, .str])]

theorem eqtab_ok : eqtab.all (fun p => eqcheck Tryd.prog p.1 p.2) = true := by kernel_rfl

theorem tab_ok : tab.all (fun p => tcheck Tryd.prog p.1 p.2) = true := by kernel_rfl

noncomputable def env : Env where
  P := Tryd.prog
  T := tabT tab
  hT := fun t ti h => tabT_sound tab_ok t ti h
  gN := 5
  GI := fun w => (∃ m, w.cell? ⟨0, 0, none⟩ = some (.int .i64 m)) ∧ (∃ ev, w.cell? ⟨3, 0, none⟩ = some ev ∧ (ev = .nilIface ∨ ∃ te pe, ev = .iface te pe)) ∧ ∃ ev, w.cell? ⟨4, 0, none⟩ = some ev ∧ (ev = .nilIface ∨ ∃ te pe, ev = .iface te pe)
  hG := by
    intro w w' ⟨⟨m, hm⟩, ⟨e3, h3, k3⟩, e4, h4, k4⟩ h
    have c : ∀ b, b < 5 → w'.cell? ⟨b, 0, none⟩ = w.cell? ⟨b, 0, none⟩ := fun b hb => World.cell?_of_block (a := ⟨b, 0, none⟩) (h b hb)
    exact ⟨⟨m, (c 0 (by decide)).trans hm⟩, ⟨e3, (c 3 (by decide)).trans h3, k3⟩, e4, (c 4 (by decide)).trans h4, k4⟩
  bT := some 65
  be := 5
  eqT := eqtabT eqtab
  ownT := fun t => ([24, 42] : List Nat).contains t
  hEq := fun t ks h => eqtabT_sound eqtab_ok h
  hbT := by
    intro t ht w
    cases ht
    kernel_rfl
theorem isBoolT_4 : isBoolT env.T 4 = true := rfl
theorem T_2 : env.T 2 = some ⟨.int .i64, 1, 8, some [.int .i64 0]⟩ := rfl
theorem T_3 : env.T 3 = some ⟨.int .i64, 1, 8, some [.int .i64 0]⟩ := rfl
theorem T_4 : env.T 4 = some ⟨.bool, 1, 1, some [.bool false]⟩ := rfl
theorem T_5 : env.T 5 = some ⟨.int .u8, 1, 1, some [.int .u8 0]⟩ := rfl
theorem T_6 : env.T 6 = some ⟨.int .u8, 1, 1, some [.int .u8 0]⟩ := rfl
theorem T_7 : env.T 7 = some ⟨.strct [(0, 1), (1, 1), (2, 1), (3, 1)], 4, 24, some [.int .i64 0, .int .i64 0, .bool false, .int .u8 0]⟩ := rfl
theorem T_8 : env.T 8 = some ⟨.strct [(0, 1), (1, 1), (2, 1), (3, 1)], 4, 24, some [.int .i64 0, .int .i64 0, .bool false, .int .u8 0]⟩ := rfl
theorem T_9 : env.T 9 = some ⟨.str, 1, 16, some [.str []]⟩ := rfl
theorem T_10 : env.T 10 = some ⟨.str, 1, 16, some [.str []]⟩ := rfl
theorem T_11 : env.T 11 = some ⟨.str, 1, 16, some [.str []]⟩ := rfl
theorem T_12 : env.T 12 = some ⟨.int .u64, 1, 8, some [.int .u64 0]⟩ := rfl
theorem T_13 : env.T 13 = some ⟨.strct [(0, 1), (1, 1)], 2, 24, some [.str [], .int .u64 0]⟩ := rfl
theorem T_14 : env.T 14 = some ⟨.strct [(0, 1), (1, 1)], 2, 24, some [.str [], .int .u64 0]⟩ := rfl
theorem T_15 : env.T 15 = some ⟨.ptr 131, 1, 8, none⟩ := rfl
theorem T_16 : env.T 16 = some ⟨.ptr 134, 1, 8, none⟩ := rfl
theorem T_17 : env.T 17 = some ⟨.ptr 141, 1, 8, none⟩ := rfl
theorem T_18 : env.T 18 = some ⟨.strct [(0, 1)], 1, 8, none⟩ := rfl
theorem T_19 : env.T 19 = some ⟨.strct [(0, 1)], 1, 8, none⟩ := rfl
theorem T_20 : env.T 20 = some ⟨.iface, 1, 16, some [.nil]⟩ := rfl
theorem T_21 : env.T 21 = some ⟨.int .i32, 1, 4, some [.int .i32 0]⟩ := rfl
theorem T_24 : env.T 24 = some ⟨.slice 30, 1, 24, some [.slice []]⟩ := rfl
theorem T_25 : env.T 25 = some ⟨.int .i64, 1, 8, some [.int .i64 0]⟩ := rfl
theorem T_29 : env.T 29 = some ⟨.strct [(0, 1), (1, 1), (2, 1), (3, 1)], 4, 48, some [.int .i64 0, .int .i64 0, .str [], .str []]⟩ := rfl
theorem T_30 : env.T 30 = some ⟨.strct [(0, 1), (1, 1), (2, 1), (3, 1)], 4, 48, some [.int .i64 0, .int .i64 0, .str [], .str []]⟩ := rfl
theorem T_39 : env.T 39 = some ⟨.ptr 42, 1, 8, none⟩ := rfl
theorem T_40 : env.T 40 = some ⟨.slice 9, 1, 24, some [.slice []]⟩ := rfl
theorem T_41 : env.T 41 = some ⟨.strct [(0, 1), (1, 1), (2, 1), (3, 1), (4, 1), (5, 1), (6, 1)], 7, 96, some [.str [], .int .i64 0, .slice [], .slice [], .int .i64 0, .int .i64 0, .int .i64 0]⟩ := rfl
theorem T_42 : env.T 42 = some ⟨.strct [(0, 1), (1, 1), (2, 1), (3, 1), (4, 1), (5, 1), (6, 1)], 7, 96, some [.str [], .int .i64 0, .slice [], .slice [], .int .i64 0, .int .i64 0, .int .i64 0]⟩ := rfl
theorem T_47 : env.T 47 = some ⟨.slice 3, 1, 24, some [.slice []]⟩ := rfl
theorem T_62 : env.T 62 = some ⟨.ptr 65, 1, 8, none⟩ := rfl
theorem T_63 : env.T 63 = some ⟨.slice 5, 1, 24, some [.slice []]⟩ := rfl
theorem T_64 : env.T 64 = some ⟨.strct [(0, 1), (1, 1)], 2, 32, none⟩ := rfl
theorem T_65 : env.T 65 = some ⟨.strct [(0, 1), (1, 1)], 2, 32, none⟩ := rfl
theorem T_67 : env.T 67 = some ⟨.iface, 1, 16, some [.nil]⟩ := rfl
theorem T_68 : env.T 68 = some ⟨.iface, 1, 16, some [.nil]⟩ := rfl
theorem T_78 : env.T 78 = some ⟨.ptr 5, 1, 8, none⟩ := rfl
theorem T_80 : env.T 80 = some ⟨.int .u64, 1, 8, some [.int .u64 0]⟩ := rfl
theorem T_89 : env.T 89 = some ⟨.strct [(0, 1), (1, 1)], 2, 2, some [.int .u8 0, .int .u8 0]⟩ := rfl
theorem T_90 : env.T 90 = some ⟨.strct [(0, 1), (1, 1)], 2, 2, some [.int .u8 0, .int .u8 0]⟩ := rfl
theorem T_92 : env.T 92 = some ⟨.int .u32, 1, 4, some [.int .u32 0]⟩ := rfl
theorem T_95 : env.T 95 = some ⟨.int .u64, 1, 8, some [.int .u64 0]⟩ := rfl
theorem T_101 : env.T 101 = some ⟨.int .i64, 1, 8, some [.int .i64 0]⟩ := rfl
theorem T_104 : env.T 104 = some ⟨.ptr 111, 1, 8, none⟩ := rfl
theorem T_110 : env.T 110 = some ⟨.strct [(0, 1), (1, 1), (2, 1)], 3, 48, some [.str [], .str [], .nil]⟩ := rfl
theorem T_111 : env.T 111 = some ⟨.strct [(0, 1), (1, 1), (2, 1)], 3, 48, some [.str [], .str [], .nil]⟩ := rfl
theorem T_119 : env.T 119 = some ⟨.ptr 121, 1, 8, none⟩ := rfl
theorem T_120 : env.T 120 = some ⟨.strct [(0, 1)], 1, 16, some [.str []]⟩ := rfl
theorem T_121 : env.T 121 = some ⟨.strct [(0, 1)], 1, 16, some [.str []]⟩ := rfl
theorem T_130 : env.T 130 = some ⟨.strct [(0, 1), (1, 1), (2, 1), (3, 1)], 4, 40, none⟩ := rfl
theorem T_131 : env.T 131 = some ⟨.strct [(0, 1), (1, 1), (2, 1), (3, 1)], 4, 40, none⟩ := rfl
theorem T_133 : env.T 133 = some ⟨.strct [(0, 0)], 0, 0, some []⟩ := rfl
theorem T_134 : env.T 134 = some ⟨.strct [(0, 0)], 0, 0, some []⟩ := rfl
theorem T_135 : env.T 135 = some ⟨.int .u8, 1, 1, some [.int .u8 0]⟩ := rfl
theorem T_136 : env.T 136 = some ⟨.int .u8, 1, 1, some [.int .u8 0]⟩ := rfl
theorem T_138 : env.T 138 = some ⟨.int .i32, 1, 4, some [.int .i32 0]⟩ := rfl
theorem T_139 : env.T 139 = some ⟨.int .i32, 1, 4, some [.int .i32 0]⟩ := rfl
theorem T_140 : env.T 140 = some ⟨.strct [(0, 1), (1, 1), (2, 1), (3, 1), (4, 1), (5, 1), (6, 1), (7, 1), (8, 1), (9, 1), (10, 1)], 11, 48, none⟩ := rfl
theorem T_141 : env.T 141 = some ⟨.strct [(0, 1), (1, 1), (2, 1), (3, 1), (4, 1), (5, 1), (6, 1), (7, 1), (8, 1), (9, 1), (10, 1)], 11, 48, none⟩ := rfl
theorem ownT_7 : env.ownT 7 = false := rfl
theorem ownT_8 : env.ownT 8 = false := rfl
theorem ownT_13 : env.ownT 13 = false := rfl
theorem ownT_14 : env.ownT 14 = false := rfl
theorem ownT_18 : env.ownT 18 = false := rfl
theorem ownT_19 : env.ownT 19 = false := rfl
theorem ownT_24 : env.ownT 24 = true := rfl
theorem ownT_29 : env.ownT 29 = false := rfl
theorem ownT_30 : env.ownT 30 = false := rfl
theorem ownT_40 : env.ownT 40 = false := rfl
theorem ownT_41 : env.ownT 41 = false := rfl
theorem ownT_42 : env.ownT 42 = true := rfl
theorem ownT_47 : env.ownT 47 = false := rfl
theorem ownT_63 : env.ownT 63 = false := rfl
theorem ownT_64 : env.ownT 64 = false := rfl
theorem ownT_65 : env.ownT 65 = false := rfl
theorem ownT_89 : env.ownT 89 = false := rfl
theorem ownT_90 : env.ownT 90 = false := rfl
theorem ownT_110 : env.ownT 110 = false := rfl
theorem ownT_111 : env.ownT 111 = false := rfl
theorem ownT_120 : env.ownT 120 = false := rfl
theorem ownT_121 : env.ownT 121 = false := rfl
theorem ownT_130 : env.ownT 130 = false := rfl
theorem ownT_131 : env.ownT 131 = false := rfl
theorem ownT_133 : env.ownT 133 = false := rfl
theorem ownT_134 : env.ownT 134 = false := rfl
theorem ownT_140 : env.ownT 140 = false := rfl
theorem ownT_141 : env.ownT 141 = false := rfl
theorem eqT_3 : env.eqT 3 = none := rfl
theorem eqT_4 : env.eqT 4 = none := rfl
theorem eqT_5 : env.eqT 5 = none := rfl
theorem eqT_9 : env.eqT 9 = none := rfl
theorem eqT_25 : env.eqT 25 = none := rfl
theorem eqT_30 : env.eqT 30 = some [.int, .int, .str, .str] := rfl
theorem eqT_68 : env.eqT 68 = none := rfl
theorem mixed : env.P.follows .mixedOrders = true := by kernel_rfl
theorem env_bT : env.bT = some 65 := rfl
theorem env_P : env.P = Tryd.prog := rfl
theorem fn_3 : env.P.funcs[3]? = some Tryd.f3 := by
  rw [env_P]
  exact Tryd.func3
theorem fn_4 : env.P.funcs[4]? = some Tryd.f4 := by
  rw [env_P]
  exact Tryd.func4
theorem fn_5 : env.P.funcs[5]? = some Tryd.f5 := by
  rw [env_P]
  exact Tryd.func5
theorem fn_6 : env.P.funcs[6]? = some Tryd.f6 := by
  rw [env_P]
  exact Tryd.func6
theorem fn_7 : env.P.funcs[7]? = some Tryd.f7 := by
  rw [env_P]
  exact Tryd.func7
theorem fn_8 : env.P.funcs[8]? = some Tryd.f8 := by
  rw [env_P]
  exact Tryd.func8
theorem fn_9 : env.P.funcs[9]? = some Tryd.f9 := by
  rw [env_P]
  exact Tryd.func9
theorem fn_10 : env.P.funcs[10]? = some Tryd.f10 := by
  rw [env_P]
  exact Tryd.func10
theorem fn_11 : env.P.funcs[11]? = some Tryd.f11 := by
  rw [env_P]
  exact Tryd.func11
theorem fn_12 : env.P.funcs[12]? = some Tryd.f12 := by
  rw [env_P]
  exact Tryd.func12
theorem fn_13 : env.P.funcs[13]? = some Tryd.f13 := by
  rw [env_P]
  exact Tryd.func13
theorem fn_14 : env.P.funcs[14]? = some Tryd.f14 := by
  rw [env_P]
  exact Tryd.func14
theorem fn_15 : env.P.funcs[15]? = some Tryd.f15 := by
  rw [env_P]
  exact Tryd.func15
theorem fn_16 : env.P.funcs[16]? = some Tryd.f16 := by
  rw [env_P]
  exact Tryd.func16
theorem fn_17 : env.P.funcs[17]? = some Tryd.f17 := by
  rw [env_P]
  exact Tryd.func17
theorem fn_18 : env.P.funcs[18]? = some Tryd.f18 := by
  rw [env_P]
  exact Tryd.func18
theorem fn_19 : env.P.funcs[19]? = some Tryd.f19 := by
  rw [env_P]
  exact Tryd.func19
theorem fn_20 : env.P.funcs[20]? = some Tryd.f20 := by
  rw [env_P]
  exact Tryd.func20
theorem fn_21 : env.P.funcs[21]? = some Tryd.f21 := by
  rw [env_P]
  exact Tryd.func21
theorem fn_22 : env.P.funcs[22]? = some Tryd.f22 := by
  rw [env_P]
  exact Tryd.func22
theorem fn_23 : env.P.funcs[23]? = some Tryd.f23 := by
  rw [env_P]
  exact Tryd.func23
theorem fn_24 : env.P.funcs[24]? = some Tryd.f24 := by
  rw [env_P]
  exact Tryd.func24
theorem fn_25 : env.P.funcs[25]? = some Tryd.f25 := by
  rw [env_P]
  exact Tryd.func25
theorem fn_26 : env.P.funcs[26]? = some Tryd.f26 := by
  rw [env_P]
  exact Tryd.func26
theorem fn_27 : env.P.funcs[27]? = some Tryd.f27 := by
  rw [env_P]
  exact Tryd.func27
theorem fn_28 : env.P.funcs[28]? = some Tryd.f28 := by
  rw [env_P]
  exact Tryd.func28
theorem fn_29 : env.P.funcs[29]? = some Tryd.f29 := by
  rw [env_P]
  exact Tryd.func29
theorem fn_30 : env.P.funcs[30]? = some Tryd.f30 := by
  rw [env_P]
  exact Tryd.func30
theorem fn_33 : env.P.funcs[33]? = some Tryd.f33 := by
  rw [env_P]
  exact Tryd.func33
theorem fn_34 : env.P.funcs[34]? = some Tryd.f34 := by
  rw [env_P]
  exact Tryd.func34
theorem fn_35 : env.P.funcs[35]? = some Tryd.f35 := by
  rw [env_P]
  exact Tryd.func35
theorem fn_36 : env.P.funcs[36]? = some Tryd.f36 := by
  rw [env_P]
  exact Tryd.func36
theorem fn_37 : env.P.funcs[37]? = some Tryd.f37 := by
  rw [env_P]
  exact Tryd.func37
theorem fn_38 : env.P.funcs[38]? = some Tryd.f38 := by
  rw [env_P]
  exact Tryd.func38
theorem fn_39 : env.P.funcs[39]? = some Tryd.f39 := by
  rw [env_P]
  exact Tryd.func39
theorem fn_40 : env.P.funcs[40]? = some Tryd.f40 := by
  rw [env_P]
  exact Tryd.func40
theorem fn_41 : env.P.funcs[41]? = some Tryd.f41 := by
  rw [env_P]
  exact Tryd.func41
theorem fn_42 : env.P.funcs[42]? = some Tryd.f42 := by
  rw [env_P]
  exact Tryd.func42
theorem fn_44 : env.P.funcs[44]? = some Tryd.f44 := by
  rw [env_P]
  exact Tryd.func44
theorem fn_45 : env.P.funcs[45]? = some Tryd.f45 := by
  rw [env_P]
  exact Tryd.func45
theorem fn_50 : env.P.funcs[50]? = some Tryd.f50 := by
  rw [env_P]
  exact Tryd.func50
theorem fn_51 : env.P.funcs[51]? = some Tryd.f51 := by
  rw [env_P]
  exact Tryd.func51
theorem fn_52 : env.P.funcs[52]? = some Tryd.f52 := by
  rw [env_P]
  exact Tryd.func52
theorem fn_53 : env.P.funcs[53]? = some Tryd.f53 := by
  rw [env_P]
  exact Tryd.func53
theorem fn_54 : env.P.funcs[54]? = some Tryd.f54 := by
  rw [env_P]
  exact Tryd.func54
theorem fn_55 : env.P.funcs[55]? = some Tryd.f55 := by
  rw [env_P]
  exact Tryd.func55
theorem fn_65 : env.P.funcs[65]? = some Tryd.f65 := by
  rw [env_P]
  exact Tryd.func65
theorem fn_73 : env.P.funcs[73]? = some Tryd.f73 := by
  rw [env_P]
  exact Tryd.func73
theorem fn_74 : env.P.funcs[74]? = some Tryd.f74 := by
  rw [env_P]
  exact Tryd.func74

structure Token where
  kind_ : Int
  at_ : Int
  text_ : Str
  quoted_ : Str

instance : Inhabited Token := ⟨⟨0, 0, [], []⟩⟩

def Token.pv (x : Token) : PV := .agg [.int .i64 x.kind_, .int .i64 x.at_, .str x.text_, .str x.quoted_]

theorem Token.pv_eq (x : Token) : x.pv = .agg [.int .i64 x.kind_, .int .i64 x.at_, .str x.text_, .str x.quoted_] := rfl

theorem Token.inj {x y : Token} (h : x.pv = y.pv) : x = y := by
  obtain ⟨a1, a2, a3, a4⟩ := x
  obtain ⟨b1, b2, b3, b4⟩ := y
  simp only [Token.pv, PV.agg.injEq, List.cons.injEq, and_true] at h
  obtain ⟨h1, h2, h3, h4⟩ := h
  cases (int_inj h1)
  cases (int_inj h2)
  cases (str_inj h3)
  cases (str_inj h4)
  rfl

theorem Token.all (xs : List Token) : ((xs.map Token.pv).all fun z => z.cells.length == 4) = true := by
  simp [Token.pv, PV.cells]

def pfn : FuncId → Bool := fun f => [8, 9, 10, 11, 12, 13, 14, 15, 16, 17, 18, 21, 23, 26, 27, 28, 29, 30, 35, 41, 42, 53, 54, 55, 65, 73, 74].contains f

end Go.Abs.U47
