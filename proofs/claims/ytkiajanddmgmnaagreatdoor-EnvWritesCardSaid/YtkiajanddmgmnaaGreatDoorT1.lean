/- The layer 29 laws: the program's types, its package variables, the environment of its abstract machine. -/
import Derived.Test.YtkiajanddmgmnaaGreatDoorA31
import Derived.Test.YtkiajanddmgmnaaGreatDoorA36
import Derived.Test.YtkiajanddmgmnaaGreatDoorA37
import Derived.Test.YtkiajanddmgmnaaGreatDoorA42
import Derived.Test.YtkiajanddmgmnaaGreatDoorA47
import Derived.Test.YtkiajanddmgmnaaGreatDoorProg
set_option linter.defProp false
namespace Go.Abs.U2Z
open Go.RowKit Go.Proofs

abbrev Str := List UInt8

def tab : List (Nat × TI) := [
  (2, ⟨.int .i64, 1, 8, some [.int .i64 0]⟩),
  (3, ⟨.int .i64, 1, 8, some [.int .i64 0]⟩),
  (4, ⟨.bool, 1, 1, some [.bool false]⟩),
  (5, ⟨.int .u8, 1, 1, some [.int .u8 0]⟩),
  (6, ⟨.int .u8, 1, 1, some [.int .u8 0]⟩),
  (7, ⟨.strct [(0, 1), (1, 1), (2, 1), (3, 1)], 4, 24, some [.int .i64 0, .int .i64 0, .bool false, .int .u8 0]⟩),
  (8, ⟨.strct [(0, 1), (1, 1), (2, 1), (3, 1)], 4, 24, some [.int .i64 0, .int .i64 0, .bool false, .int .u8 0]⟩),
  (9, ⟨.str, 1, 16, some [.str []]⟩),
  (10, ⟨.str, 1, 16, some [.str []]⟩),
  (11, ⟨.str, 1, 16, some [.str []]⟩),
  (12, ⟨.int .u64, 1, 8, some [.int .u64 0]⟩),
  (13, ⟨.strct [(0, 1), (1, 1)], 2, 24, some [.str [], .int .u64 0]⟩),
  (14, ⟨.strct [(0, 1), (1, 1)], 2, 24, some [.str [], .int .u64 0]⟩),
  (15, ⟨.ptr 129, 1, 8, none⟩),
  (16, ⟨.ptr 132, 1, 8, none⟩),
  (17, ⟨.ptr 139, 1, 8, none⟩),
  (18, ⟨.strct [(0, 1)], 1, 8, none⟩),
  (19, ⟨.strct [(0, 1)], 1, 8, none⟩),
  (20, ⟨.iface, 1, 16, some [.nil]⟩),
  (21, ⟨.int .i32, 1, 4, some [.int .i32 0]⟩),
  (22, ⟨.slice 34, 1, 24, some [.slice []]⟩),
  (23, ⟨.slice 9, 1, 24, some [.slice []]⟩),
  (24, ⟨.strct [(0, 1), (1, 1), (2, 1), (3, 1), (4, 1), (5, 1), (6, 1), (7, 1)], 8, 96, some [.int .i64 0, .int .i64 0, .int .i64 0, .int .i64 0, .str [], .slice [], .int .i64 0, .str []]⟩),
  (25, ⟨.strct [(0, 1), (1, 1), (2, 1), (3, 1), (4, 1), (5, 1), (6, 1), (7, 1)], 8, 96, some [.int .i64 0, .int .i64 0, .int .i64 0, .int .i64 0, .str [], .slice [], .int .i64 0, .str []]⟩),
  (32, ⟨.slice 37, 1, 24, some [.slice []]⟩),
  (33, ⟨.strct [(0, 1), (1, 1), (2, 1)], 3, 40, some [.int .i64 0, .int .i64 0, .slice []]⟩),
  (34, ⟨.strct [(0, 1), (1, 1), (2, 1)], 3, 40, some [.int .i64 0, .int .i64 0, .slice []]⟩),
  (36, ⟨.strct [(0, 1), (1, 1), (2, 1)], 3, 48, some [.int .i64 0, .str [], .slice []]⟩),
  (37, ⟨.strct [(0, 1), (1, 1), (2, 1)], 3, 48, some [.int .i64 0, .str [], .slice []]⟩),
  (38, ⟨.int .i64, 1, 8, some [.int .i64 0]⟩),
  (82, ⟨.slice 5, 1, 24, some [.slice []]⟩),
  (90, ⟨.int .u64, 1, 8, some [.int .u64 0]⟩),
  (93, ⟨.ptr 95, 1, 8, none⟩),
  (94, ⟨.strct [(0, 1), (1, 1)], 2, 32, none⟩),
  (95, ⟨.strct [(0, 1), (1, 1)], 2, 32, none⟩),
  (97, ⟨.iface, 1, 16, some [.nil]⟩),
  (98, ⟨.iface, 1, 16, some [.nil]⟩),
  (108, ⟨.int .u32, 1, 4, some [.int .u32 0]⟩),
  (111, ⟨.int .u64, 1, 8, some [.int .u64 0]⟩),
  (114, ⟨.ptr 5, 1, 8, none⟩),
  (125, ⟨.strct [(0, 1), (1, 1)], 2, 2, some [.int .u8 0, .int .u8 0]⟩),
  (126, ⟨.strct [(0, 1), (1, 1)], 2, 2, some [.int .u8 0, .int .u8 0]⟩),
  (128, ⟨.strct [(0, 1), (1, 1), (2, 1), (3, 1)], 4, 40, none⟩),
  (129, ⟨.strct [(0, 1), (1, 1), (2, 1), (3, 1)], 4, 40, none⟩),
  (131, ⟨.strct [(0, 0)], 0, 0, some []⟩),
  (132, ⟨.strct [(0, 0)], 0, 0, some []⟩),
  (133, ⟨.int .u8, 1, 1, some [.int .u8 0]⟩),
  (134, ⟨.int .u8, 1, 1, some [.int .u8 0]⟩),
  (136, ⟨.int .i32, 1, 4, some [.int .i32 0]⟩),
  (137, ⟨.int .i32, 1, 4, some [.int .i32 0]⟩),
  (138, ⟨.strct [(0, 1), (1, 1), (2, 1), (3, 1), (4, 1), (5, 1), (6, 1), (7, 1), (8, 1), (9, 1), (10, 1)], 11, 48, none⟩),
  (139, ⟨.strct [(0, 1), (1, 1), (2, 1), (3, 1), (4, 1), (5, 1), (6, 1), (7, 1), (8, 1), (9, 1), (10, 1)], 11, 48, none⟩)]

def eqtab : List (TypeId × List EK) := []

theorem eqtab_ok : eqtab.all (fun p => eqcheck Tryz.prog p.1 p.2) = true := by kernel_rfl

theorem tab_ok : tab.all (fun p => tcheck Tryz.prog p.1 p.2) = true := by kernel_rfl

noncomputable def env : Env where
  P := Tryz.prog
  T := tabT tab
  hT := fun t ti h => tabT_sound tab_ok t ti h
  gN := 2
  GI := fun w => ∃ m, w.cell? ⟨0, 0, none⟩ = some (.int .i64 m)
  hG := by
    intro w w' ⟨m, hm⟩ h
    refine ⟨m, ?_⟩
    have h0 := h 0 (by decide)
    unfold World.cell? at hm ⊢
    simpa [h0] using hm
  bT := some 95
  be := 5
  eqT := eqtabT eqtab
  ownT := fun t => ([22, 23, 32, 34] : List Nat).contains t
  hEq := fun t ks h => eqtabT_sound eqtab_ok h
  hbT := by
    intro t ht w
    cases ht
    kernel_rfl
theorem isBoolT_4 : isBoolT env.T 4 = true := rfl
theorem T_2 : env.T 2 = some ⟨.int .i64, 1, 8, some [.int .i64 0]⟩ := rfl
theorem T_3 : env.T 3 = some ⟨.int .i64, 1, 8, some [.int .i64 0]⟩ := rfl
theorem T_4 : env.T 4 = some ⟨.bool, 1, 1, some [.bool false]⟩ := rfl
theorem T_5 : env.T 5 = some ⟨.int .u8, 1, 1, some [.int .u8 0]⟩ := rfl
theorem T_6 : env.T 6 = some ⟨.int .u8, 1, 1, some [.int .u8 0]⟩ := rfl
theorem T_7 : env.T 7 = some ⟨.strct [(0, 1), (1, 1), (2, 1), (3, 1)], 4, 24, some [.int .i64 0, .int .i64 0, .bool false, .int .u8 0]⟩ := rfl
theorem T_8 : env.T 8 = some ⟨.strct [(0, 1), (1, 1), (2, 1), (3, 1)], 4, 24, some [.int .i64 0, .int .i64 0, .bool false, .int .u8 0]⟩ := rfl
theorem T_9 : env.T 9 = some ⟨.str, 1, 16, some [.str []]⟩ := rfl
theorem T_10 : env.T 10 = some ⟨.str, 1, 16, some [.str []]⟩ := rfl
theorem T_11 : env.T 11 = some ⟨.str, 1, 16, some [.str []]⟩ := rfl
theorem T_12 : env.T 12 = some ⟨.int .u64, 1, 8, some [.int .u64 0]⟩ := rfl
theorem T_13 : env.T 13 = some ⟨.strct [(0, 1), (1, 1)], 2, 24, some [.str [], .int .u64 0]⟩ := rfl
theorem T_14 : env.T 14 = some ⟨.strct [(0, 1), (1, 1)], 2, 24, some [.str [], .int .u64 0]⟩ := rfl
theorem T_15 : env.T 15 = some ⟨.ptr 129, 1, 8, none⟩ := rfl
theorem T_16 : env.T 16 = some ⟨.ptr 132, 1, 8, none⟩ := rfl
theorem T_17 : env.T 17 = some ⟨.ptr 139, 1, 8, none⟩ := rfl
theorem T_18 : env.T 18 = some ⟨.strct [(0, 1)], 1, 8, none⟩ := rfl
theorem T_19 : env.T 19 = some ⟨.strct [(0, 1)], 1, 8, none⟩ := rfl
theorem T_20 : env.T 20 = some ⟨.iface, 1, 16, some [.nil]⟩ := rfl
theorem T_21 : env.T 21 = some ⟨.int .i32, 1, 4, some [.int .i32 0]⟩ := rfl
theorem T_22 : env.T 22 = some ⟨.slice 34, 1, 24, some [.slice []]⟩ := rfl
theorem T_23 : env.T 23 = some ⟨.slice 9, 1, 24, some [.slice []]⟩ := rfl
theorem T_24 : env.T 24 = some ⟨.strct [(0, 1), (1, 1), (2, 1), (3, 1), (4, 1), (5, 1), (6, 1), (7, 1)], 8, 96, some [.int .i64 0, .int .i64 0, .int .i64 0, .int .i64 0, .str [], .slice [], .int .i64 0, .str []]⟩ := rfl
theorem T_25 : env.T 25 = some ⟨.strct [(0, 1), (1, 1), (2, 1), (3, 1), (4, 1), (5, 1), (6, 1), (7, 1)], 8, 96, some [.int .i64 0, .int .i64 0, .int .i64 0, .int .i64 0, .str [], .slice [], .int .i64 0, .str []]⟩ := rfl
theorem T_32 : env.T 32 = some ⟨.slice 37, 1, 24, some [.slice []]⟩ := rfl
theorem T_33 : env.T 33 = some ⟨.strct [(0, 1), (1, 1), (2, 1)], 3, 40, some [.int .i64 0, .int .i64 0, .slice []]⟩ := rfl
theorem T_34 : env.T 34 = some ⟨.strct [(0, 1), (1, 1), (2, 1)], 3, 40, some [.int .i64 0, .int .i64 0, .slice []]⟩ := rfl
theorem T_36 : env.T 36 = some ⟨.strct [(0, 1), (1, 1), (2, 1)], 3, 48, some [.int .i64 0, .str [], .slice []]⟩ := rfl
theorem T_37 : env.T 37 = some ⟨.strct [(0, 1), (1, 1), (2, 1)], 3, 48, some [.int .i64 0, .str [], .slice []]⟩ := rfl
theorem T_38 : env.T 38 = some ⟨.int .i64, 1, 8, some [.int .i64 0]⟩ := rfl
theorem T_82 : env.T 82 = some ⟨.slice 5, 1, 24, some [.slice []]⟩ := rfl
theorem T_90 : env.T 90 = some ⟨.int .u64, 1, 8, some [.int .u64 0]⟩ := rfl
theorem T_93 : env.T 93 = some ⟨.ptr 95, 1, 8, none⟩ := rfl
theorem T_94 : env.T 94 = some ⟨.strct [(0, 1), (1, 1)], 2, 32, none⟩ := rfl
theorem T_95 : env.T 95 = some ⟨.strct [(0, 1), (1, 1)], 2, 32, none⟩ := rfl
theorem T_97 : env.T 97 = some ⟨.iface, 1, 16, some [.nil]⟩ := rfl
theorem T_98 : env.T 98 = some ⟨.iface, 1, 16, some [.nil]⟩ := rfl
theorem T_108 : env.T 108 = some ⟨.int .u32, 1, 4, some [.int .u32 0]⟩ := rfl
theorem T_111 : env.T 111 = some ⟨.int .u64, 1, 8, some [.int .u64 0]⟩ := rfl
theorem T_114 : env.T 114 = some ⟨.ptr 5, 1, 8, none⟩ := rfl
theorem T_125 : env.T 125 = some ⟨.strct [(0, 1), (1, 1)], 2, 2, some [.int .u8 0, .int .u8 0]⟩ := rfl
theorem T_126 : env.T 126 = some ⟨.strct [(0, 1), (1, 1)], 2, 2, some [.int .u8 0, .int .u8 0]⟩ := rfl
theorem T_128 : env.T 128 = some ⟨.strct [(0, 1), (1, 1), (2, 1), (3, 1)], 4, 40, none⟩ := rfl
theorem T_129 : env.T 129 = some ⟨.strct [(0, 1), (1, 1), (2, 1), (3, 1)], 4, 40, none⟩ := rfl
theorem T_131 : env.T 131 = some ⟨.strct [(0, 0)], 0, 0, some []⟩ := rfl
theorem T_132 : env.T 132 = some ⟨.strct [(0, 0)], 0, 0, some []⟩ := rfl
theorem T_133 : env.T 133 = some ⟨.int .u8, 1, 1, some [.int .u8 0]⟩ := rfl
theorem T_134 : env.T 134 = some ⟨.int .u8, 1, 1, some [.int .u8 0]⟩ := rfl
theorem T_136 : env.T 136 = some ⟨.int .i32, 1, 4, some [.int .i32 0]⟩ := rfl
theorem T_137 : env.T 137 = some ⟨.int .i32, 1, 4, some [.int .i32 0]⟩ := rfl
theorem T_138 : env.T 138 = some ⟨.strct [(0, 1), (1, 1), (2, 1), (3, 1), (4, 1), (5, 1), (6, 1), (7, 1), (8, 1), (9, 1), (10, 1)], 11, 48, none⟩ := rfl
theorem T_139 : env.T 139 = some ⟨.strct [(0, 1), (1, 1), (2, 1), (3, 1), (4, 1), (5, 1), (6, 1), (7, 1), (8, 1), (9, 1), (10, 1)], 11, 48, none⟩ := rfl
theorem ownT_7 : env.ownT 7 = false := rfl
theorem ownT_8 : env.ownT 8 = false := rfl
theorem ownT_13 : env.ownT 13 = false := rfl
theorem ownT_14 : env.ownT 14 = false := rfl
theorem ownT_18 : env.ownT 18 = false := rfl
theorem ownT_19 : env.ownT 19 = false := rfl
theorem ownT_22 : env.ownT 22 = true := rfl
theorem ownT_23 : env.ownT 23 = true := rfl
theorem ownT_24 : env.ownT 24 = false := rfl
theorem ownT_25 : env.ownT 25 = false := rfl
theorem ownT_32 : env.ownT 32 = true := rfl
theorem ownT_33 : env.ownT 33 = false := rfl
theorem ownT_34 : env.ownT 34 = true := rfl
theorem ownT_36 : env.ownT 36 = false := rfl
theorem ownT_37 : env.ownT 37 = false := rfl
theorem ownT_82 : env.ownT 82 = false := rfl
theorem ownT_94 : env.ownT 94 = false := rfl
theorem ownT_95 : env.ownT 95 = false := rfl
theorem ownT_125 : env.ownT 125 = false := rfl
theorem ownT_126 : env.ownT 126 = false := rfl
theorem ownT_128 : env.ownT 128 = false := rfl
theorem ownT_129 : env.ownT 129 = false := rfl
theorem ownT_131 : env.ownT 131 = false := rfl
theorem ownT_132 : env.ownT 132 = false := rfl
theorem ownT_138 : env.ownT 138 = false := rfl
theorem ownT_139 : env.ownT 139 = false := rfl
theorem eqT_3 : env.eqT 3 = none := rfl
theorem eqT_5 : env.eqT 5 = none := rfl
theorem eqT_9 : env.eqT 9 = none := rfl
theorem eqT_38 : env.eqT 38 = none := rfl
theorem mixed : env.P.follows .mixedOrders = true := by kernel_rfl
theorem env_bT : env.bT = some 95 := rfl
theorem env_P : env.P = Tryz.prog := rfl
theorem fn_3 : env.P.funcs[3]? = some Tryz.f3 := by
  rw [env_P]
  exact Tryz.func3
theorem fn_4 : env.P.funcs[4]? = some Tryz.f4 := by
  rw [env_P]
  exact Tryz.func4
theorem fn_5 : env.P.funcs[5]? = some Tryz.f5 := by
  rw [env_P]
  exact Tryz.func5
theorem fn_6 : env.P.funcs[6]? = some Tryz.f6 := by
  rw [env_P]
  exact Tryz.func6
theorem fn_7 : env.P.funcs[7]? = some Tryz.f7 := by
  rw [env_P]
  exact Tryz.func7
theorem fn_8 : env.P.funcs[8]? = some Tryz.f8 := by
  rw [env_P]
  exact Tryz.func8
theorem fn_9 : env.P.funcs[9]? = some Tryz.f9 := by
  rw [env_P]
  exact Tryz.func9
theorem fn_10 : env.P.funcs[10]? = some Tryz.f10 := by
  rw [env_P]
  exact Tryz.func10
theorem fn_11 : env.P.funcs[11]? = some Tryz.f11 := by
  rw [env_P]
  exact Tryz.func11
theorem fn_12 : env.P.funcs[12]? = some Tryz.f12 := by
  rw [env_P]
  exact Tryz.func12
theorem fn_13 : env.P.funcs[13]? = some Tryz.f13 := by
  rw [env_P]
  exact Tryz.func13
theorem fn_14 : env.P.funcs[14]? = some Tryz.f14 := by
  rw [env_P]
  exact Tryz.func14
theorem fn_15 : env.P.funcs[15]? = some Tryz.f15 := by
  rw [env_P]
  exact Tryz.func15
theorem fn_16 : env.P.funcs[16]? = some Tryz.f16 := by
  rw [env_P]
  exact Tryz.func16
theorem fn_17 : env.P.funcs[17]? = some Tryz.f17 := by
  rw [env_P]
  exact Tryz.func17
theorem fn_18 : env.P.funcs[18]? = some Tryz.f18 := by
  rw [env_P]
  exact Tryz.func18
theorem fn_19 : env.P.funcs[19]? = some Tryz.f19 := by
  rw [env_P]
  exact Tryz.func19
theorem fn_20 : env.P.funcs[20]? = some Tryz.f20 := by
  rw [env_P]
  exact Tryz.func20
theorem fn_21 : env.P.funcs[21]? = some Tryz.f21 := by
  rw [env_P]
  exact Tryz.func21
theorem fn_22 : env.P.funcs[22]? = some Tryz.f22 := by
  rw [env_P]
  exact Tryz.func22
theorem fn_23 : env.P.funcs[23]? = some Tryz.f23 := by
  rw [env_P]
  exact Tryz.func23
theorem fn_24 : env.P.funcs[24]? = some Tryz.f24 := by
  rw [env_P]
  exact Tryz.func24
theorem fn_25 : env.P.funcs[25]? = some Tryz.f25 := by
  rw [env_P]
  exact Tryz.func25
theorem fn_26 : env.P.funcs[26]? = some Tryz.f26 := by
  rw [env_P]
  exact Tryz.func26
theorem fn_27 : env.P.funcs[27]? = some Tryz.f27 := by
  rw [env_P]
  exact Tryz.func27
theorem fn_28 : env.P.funcs[28]? = some Tryz.f28 := by
  rw [env_P]
  exact Tryz.func28
theorem fn_29 : env.P.funcs[29]? = some Tryz.f29 := by
  rw [env_P]
  exact Tryz.func29
theorem fn_30 : env.P.funcs[30]? = some Tryz.f30 := by
  rw [env_P]
  exact Tryz.func30
theorem fn_31 : env.P.funcs[31]? = some Tryz.f31 := by
  rw [env_P]
  exact Tryz.func31
theorem fn_32 : env.P.funcs[32]? = some Tryz.f32 := by
  rw [env_P]
  exact Tryz.func32
theorem fn_33 : env.P.funcs[33]? = some Tryz.f33 := by
  rw [env_P]
  exact Tryz.func33
theorem fn_34 : env.P.funcs[34]? = some Tryz.f34 := by
  rw [env_P]
  exact Tryz.func34
theorem fn_35 : env.P.funcs[35]? = some Tryz.f35 := by
  rw [env_P]
  exact Tryz.func35
theorem fn_36 : env.P.funcs[36]? = some Tryz.f36 := by
  rw [env_P]
  exact Tryz.func36
theorem fn_37 : env.P.funcs[37]? = some Tryz.f37 := by
  rw [env_P]
  exact Tryz.func37
theorem fn_38 : env.P.funcs[38]? = some Tryz.f38 := by
  rw [env_P]
  exact Tryz.func38
theorem fn_39 : env.P.funcs[39]? = some Tryz.f39 := by
  rw [env_P]
  exact Tryz.func39
theorem fn_40 : env.P.funcs[40]? = some Tryz.f40 := by
  rw [env_P]
  exact Tryz.func40
theorem fn_41 : env.P.funcs[41]? = some Tryz.f41 := by
  rw [env_P]
  exact Tryz.func41
theorem fn_42 : env.P.funcs[42]? = some Tryz.f42 := by
  rw [env_P]
  exact Tryz.func42
theorem fn_43 : env.P.funcs[43]? = some Tryz.f43 := by
  rw [env_P]
  exact Tryz.func43
theorem fn_44 : env.P.funcs[44]? = some Tryz.f44 := by
  rw [env_P]
  exact Tryz.func44
theorem fn_45 : env.P.funcs[45]? = some Tryz.f45 := by
  rw [env_P]
  exact Tryz.func45
theorem fn_46 : env.P.funcs[46]? = some Tryz.f46 := by
  rw [env_P]
  exact Tryz.func46
theorem fn_47 : env.P.funcs[47]? = some Tryz.f47 := by
  rw [env_P]
  exact Tryz.func47
theorem fn_48 : env.P.funcs[48]? = some Tryz.f48 := by
  rw [env_P]
  exact Tryz.func48
theorem fn_49 : env.P.funcs[49]? = some Tryz.f49 := by
  rw [env_P]
  exact Tryz.func49
theorem fn_50 : env.P.funcs[50]? = some Tryz.f50 := by
  rw [env_P]
  exact Tryz.func50
theorem fn_51 : env.P.funcs[51]? = some Tryz.f51 := by
  rw [env_P]
  exact Tryz.func51
theorem fn_52 : env.P.funcs[52]? = some Tryz.f52 := by
  rw [env_P]
  exact Tryz.func52
theorem fn_53 : env.P.funcs[53]? = some Tryz.f53 := by
  rw [env_P]
  exact Tryz.func53
theorem fn_54 : env.P.funcs[54]? = some Tryz.f54 := by
  rw [env_P]
  exact Tryz.func54
theorem fn_55 : env.P.funcs[55]? = some Tryz.f55 := by
  rw [env_P]
  exact Tryz.func55
theorem fn_56 : env.P.funcs[56]? = some Tryz.f56 := by
  rw [env_P]
  exact Tryz.func56
theorem fn_57 : env.P.funcs[57]? = some Tryz.f57 := by
  rw [env_P]
  exact Tryz.func57
theorem fn_58 : env.P.funcs[58]? = some Tryz.f58 := by
  rw [env_P]
  exact Tryz.func58
theorem fn_59 : env.P.funcs[59]? = some Tryz.f59 := by
  rw [env_P]
  exact Tryz.func59
theorem fn_60 : env.P.funcs[60]? = some Tryz.f60 := by
  rw [env_P]
  exact Tryz.func60
theorem fn_61 : env.P.funcs[61]? = some Tryz.f61 := by
  rw [env_P]
  exact Tryz.func61
theorem fn_62 : env.P.funcs[62]? = some Tryz.f62 := by
  rw [env_P]
  exact Tryz.func62
theorem fn_65 : env.P.funcs[65]? = some Tryz.f65 := by
  rw [env_P]
  exact Tryz.func65
theorem fn_66 : env.P.funcs[66]? = some Tryz.f66 := by
  rw [env_P]
  exact Tryz.func66
theorem fn_67 : env.P.funcs[67]? = some Tryz.f67 := by
  rw [env_P]
  exact Tryz.func67
theorem fn_68 : env.P.funcs[68]? = some Tryz.f68 := by
  rw [env_P]
  exact Tryz.func68
theorem fn_69 : env.P.funcs[69]? = some Tryz.f69 := by
  rw [env_P]
  exact Tryz.func69
theorem fn_70 : env.P.funcs[70]? = some Tryz.f70 := by
  rw [env_P]
  exact Tryz.func70
theorem fn_81 : env.P.funcs[81]? = some Tryz.f81 := by
  rw [env_P]
  exact Tryz.func81
theorem fn_82 : env.P.funcs[82]? = some Tryz.f82 := by
  rw [env_P]
  exact Tryz.func82
theorem fn_84 : env.P.funcs[84]? = some Tryz.f84 := by
  rw [env_P]
  exact Tryz.func84
theorem fn_92 : env.P.funcs[92]? = some Tryz.f92 := by
  rw [env_P]
  exact Tryz.func92

def P23 (xs : List Str) : PV := .slice (xs.map PV.str)

theorem P23_eq (xs : List Str) : P23 xs = .slice (xs.map PV.str) := rfl

theorem P23_inj {x y : List Str} (h : P23 x = P23 y) : x = y := map_inj_of (fun _ _ => str_inj) (PV.slice.inj h)

theorem P23_all (xs : List (List Str)) : ((xs.map P23).all fun z => z.cells.length == 1) = true := by
  simp [P23, PV.cells]

structure Var where
  id_ : Int
  name_ : Str
  values_ : List Str

instance : Inhabited Var := ⟨⟨0, [], []⟩⟩

def Var.pv (x : Var) : PV := .agg [.int .i64 x.id_, .str x.name_, .slice (List.map PV.str x.values_)]

theorem Var.pv_eq (x : Var) : x.pv = .agg [.int .i64 x.id_, .str x.name_, .slice (List.map PV.str x.values_)] := rfl

theorem Var.inj {x y : Var} (h : x.pv = y.pv) : x = y := by
  obtain ⟨a1, a2, a3⟩ := x
  obtain ⟨b1, b2, b3⟩ := y
  simp only [Var.pv, PV.agg.injEq, List.cons.injEq, and_true] at h
  obtain ⟨h1, h2, h3⟩ := h
  cases (int_inj h1)
  cases (str_inj h2)
  cases (map_inj_of (fun _ _ => str_inj) (PV.slice.inj h3))
  rfl

theorem Var.all (xs : List Var) : ((xs.map Var.pv).all fun z => z.cells.length == 3) = true := by
  simp [Var.pv, PV.cells]

def P32 (xs : List Var) : PV := .slice (xs.map Var.pv)

theorem P32_eq (xs : List Var) : P32 xs = .slice (xs.map Var.pv) := rfl

theorem P32_inj {x y : List Var} (h : P32 x = P32 y) : x = y := map_inj_of (fun _ _ => Var.inj) (PV.slice.inj h)

theorem P32_all (xs : List (List Var)) : ((xs.map P32).all fun z => z.cells.length == 1) = true := by
  simp [P32, PV.cells]

structure GEnv where
  id_ : Int
  next_ : Int
  vars_ : List Var

instance : Inhabited GEnv := ⟨⟨0, 0, []⟩⟩

def GEnv.pv (x : GEnv) : PV := .agg [.int .i64 x.id_, .int .i64 x.next_, .slice (List.map Var.pv x.vars_)]

theorem GEnv.pv_eq (x : GEnv) : x.pv = .agg [.int .i64 x.id_, .int .i64 x.next_, .slice (List.map Var.pv x.vars_)] := rfl

theorem GEnv.inj {x y : GEnv} (h : x.pv = y.pv) : x = y := by
  obtain ⟨a1, a2, a3⟩ := x
  obtain ⟨b1, b2, b3⟩ := y
  simp only [GEnv.pv, PV.agg.injEq, List.cons.injEq, and_true] at h
  obtain ⟨h1, h2, h3⟩ := h
  cases (int_inj h1)
  cases (int_inj h2)
  cases (map_inj_of (fun _ _ => Var.inj) (PV.slice.inj h3))
  rfl

theorem GEnv.all (xs : List GEnv) : ((xs.map GEnv.pv).all fun z => z.cells.length == 3) = true := by
  simp [GEnv.pv, PV.cells]

structure GOp where
  kind_ : Int
  group_ : Int
  to_ : Int
  id_ : Int
  name_ : Str
  values_ : List Str
  offset_ : Int
  data_ : Str

instance : Inhabited GOp := ⟨⟨0, 0, 0, 0, [], [], 0, []⟩⟩

def GOp.pv (x : GOp) : PV := .agg [.int .i64 x.kind_, .int .i64 x.group_, .int .i64 x.to_, .int .i64 x.id_, .str x.name_, .slice (List.map PV.str x.values_), .int .i64 x.offset_, .str x.data_]

theorem GOp.pv_eq (x : GOp) : x.pv = .agg [.int .i64 x.kind_, .int .i64 x.group_, .int .i64 x.to_, .int .i64 x.id_, .str x.name_, .slice (List.map PV.str x.values_), .int .i64 x.offset_, .str x.data_] := rfl

theorem GOp.inj {x y : GOp} (h : x.pv = y.pv) : x = y := by
  obtain ⟨a1, a2, a3, a4, a5, a6, a7, a8⟩ := x
  obtain ⟨b1, b2, b3, b4, b5, b6, b7, b8⟩ := y
  simp only [GOp.pv, PV.agg.injEq, List.cons.injEq, and_true] at h
  obtain ⟨h1, h2, h3, h4, h5, h6, h7, h8⟩ := h
  cases (int_inj h1)
  cases (int_inj h2)
  cases (int_inj h3)
  cases (int_inj h4)
  cases (str_inj h5)
  cases (map_inj_of (fun _ _ => str_inj) (PV.slice.inj h6))
  cases (int_inj h7)
  cases (str_inj h8)
  rfl

theorem GOp.all (xs : List GOp) : ((xs.map GOp.pv).all fun z => z.cells.length == 8) = true := by
  simp [GOp.pv, PV.cells]

def pfn : FuncId → Bool := fun f => [4, 5, 6, 7, 8, 9, 10, 11, 12, 13, 14, 15, 16, 17, 18, 19, 20, 21, 22, 23, 24, 25, 26, 27, 28, 29, 30, 31, 33, 36, 39, 40, 41, 42, 43, 44, 45, 46, 47, 48, 49, 50, 51, 52, 53, 54, 55, 56, 57, 58, 68, 69, 70, 81, 82].contains f

def TYS := And.intro env_bT (
  And.intro T_3 (
  And.intro T_5 (
  And.intro T_9 (
  And.intro T_22 (
  And.intro T_23 (
  And.intro T_25 (
  And.intro T_32 (
  And.intro T_34 (
  And.intro T_37 (
  And.intro T_38 (
  And.intro T_82 (
  And.intro ownT_22 (
  And.intro ownT_23 (
  And.intro ownT_32 (
  And.intro ownT_34 (
  And.intro ownT_37 (
  And.intro eqT_3 (
  And.intro eqT_5 (
  And.intro eqT_9 (
  And.intro eqT_38 (
  And.intro @str_all (
  And.intro @int_all (
  And.intro @bool_all (
  And.intro @P23_eq (
  And.intro @Var.pv_eq (
  And.intro @P32_eq (
  And.intro @GEnv.pv_eq (
  And.intro @GOp.pv_eq (
  And.intro @Var.all (
  @GEnv.all))))))))))))))))))))))))))))))

theorem an {a b : Prop} (x : a) (y : b) : a ∧ b := ⟨x, y⟩
theorem obs {α β : Type} {o : Option α} {f : α → Option β} {b : β} (h : o.bind f = some b) : ∃ a, o = some a ∧ f a = some b := Option.bind_eq_some_iff.1 h
theorem fin {E : Env} {rv : List ResultVar} {m : Nat} {e : List Nat} {σ : St} {x : Option (List AV × List AObj)} (h : finish E rv m e σ = x := by first | rfl | (simp [finish, resOf, renArgs, toPV, selObjs, sl])) : finish E rv m e σ = x := h
theorem dk {P : Prop} (h : P := by simp -implicitDefEqProofs only [RUNS, qindex, Nat.reduceAdd, Nat.reduceLeDiff, Nat.reduceSub, reduceIte, Nat.reduceEqDiff, Nat.reduceLT, reduceCtorEq, Nat.reduceMul, Nat.reduceBEq, Int.reduceEq, if_true, if_false, eq_self, ne_eq, TYS] <;> (try simp only [List.length_take, List.length_drop, List.length_map])) : P := h
theorem dk1 {Q P : Prop} (q : Q) (h : Q → P := by intro q; simp -implicitDefEqProofs only [RUNS, qindex, Nat.reduceAdd, Nat.reduceLeDiff, Nat.reduceSub, reduceIte, Nat.reduceEqDiff, Nat.reduceLT, reduceCtorEq, Nat.reduceMul, Nat.reduceBEq, Int.reduceEq, if_true, if_false, eq_self, ne_eq, TYS, q] <;> (try simp only [List.length_take, List.length_drop, List.length_map])) : P := h q
theorem dks {P : Prop} (h : P := by simp -implicitDefEqProofs only [RUNS, qindex, Nat.reduceAdd, Nat.reduceLeDiff, Nat.reduceSub, reduceIte, Nat.reduceEqDiff, Nat.reduceLT, reduceCtorEq, Nat.reduceMul, Nat.reduceBEq, Int.reduceEq, if_true, if_false, eq_self, ne_eq, TYS, Nat.sub_zero, List.drop_zero, List.map_take, List.map_drop, List.length_map, Int.toNat_natCast, Int.toNat_zero] <;> (try simp only [List.length_take, List.length_drop, List.length_map])) : P := h
theorem dks1 {Q P : Prop} (q : Q) (h : Q → P := by intro q; simp -implicitDefEqProofs only [RUNS, qindex, Nat.reduceAdd, Nat.reduceLeDiff, Nat.reduceSub, reduceIte, Nat.reduceEqDiff, Nat.reduceLT, reduceCtorEq, Nat.reduceMul, Nat.reduceBEq, Int.reduceEq, if_true, if_false, eq_self, ne_eq, TYS, Nat.sub_zero, List.drop_zero, List.map_take, List.map_drop, List.length_map, Int.toNat_natCast, Int.toNat_zero, q] <;> (try simp only [List.length_take, List.length_drop, List.length_map])) : P := h q
theorem dg {P : Prop} (h : P := by (((simp -implicitDefEqProofs only [RUNS, qindex, Nat.reduceAdd, Nat.reduceLeDiff, Nat.reduceSub, reduceIte, Nat.reduceEqDiff, Nat.reduceLT, reduceCtorEq, Nat.reduceMul, Nat.reduceBEq, Int.reduceEq, if_true, if_false, eq_self, ne_eq, TYS]); repeat' (split <;> rename_i hb <;> (try simp only [HBS, ge_iff_le, gt_iff_lt] at hb) <;> simp -implicitDefEqProofs only [RUNS, qindex, Nat.reduceAdd, Nat.reduceLeDiff, Nat.reduceSub, reduceIte, Nat.reduceEqDiff, Nat.reduceLT, reduceCtorEq, Nat.reduceMul, Nat.reduceBEq, Int.reduceEq, if_true, if_false, eq_self, ne_eq, TYS, *, decide_true, decide_false, Decidable.not_not, not_false_eq_true, not_true_eq_false])); all_goals (first | (simp only [BOOLS]; done) | (simp [*]; done) | ((try simp only [CLOS, beq_iff_eq, bne_iff_ne, ne_eq] at *) <;> omega) | (simp_all; done) | (simp_all <;> omega)))) : P := h
theorem dg1 {Q P : Prop} (q : Q) (h : Q → P := by (intro q; ((simp -implicitDefEqProofs only [RUNS, qindex, Nat.reduceAdd, Nat.reduceLeDiff, Nat.reduceSub, reduceIte, Nat.reduceEqDiff, Nat.reduceLT, reduceCtorEq, Nat.reduceMul, Nat.reduceBEq, Int.reduceEq, if_true, if_false, eq_self, ne_eq, TYS, q]); repeat' (split <;> rename_i hb <;> (try simp only [HBS, ge_iff_le, gt_iff_lt] at hb) <;> simp -implicitDefEqProofs only [RUNS, qindex, Nat.reduceAdd, Nat.reduceLeDiff, Nat.reduceSub, reduceIte, Nat.reduceEqDiff, Nat.reduceLT, reduceCtorEq, Nat.reduceMul, Nat.reduceBEq, Int.reduceEq, if_true, if_false, eq_self, ne_eq, TYS, q, *, decide_true, decide_false, Decidable.not_not, not_false_eq_true, not_true_eq_false])); all_goals (first | (simp only [BOOLS]; done) | (simp [*]; done) | ((try simp only [CLOS, beq_iff_eq, bne_iff_ne, ne_eq] at *) <;> omega) | (simp_all; done) | (simp_all <;> omega)))) : P := h q
theorem dgs {P : Prop} (h : P := by (((simp -implicitDefEqProofs only [RUNS, qindex, Nat.reduceAdd, Nat.reduceLeDiff, Nat.reduceSub, reduceIte, Nat.reduceEqDiff, Nat.reduceLT, reduceCtorEq, Nat.reduceMul, Nat.reduceBEq, Int.reduceEq, if_true, if_false, eq_self, ne_eq, TYS, Nat.sub_zero, List.drop_zero, List.map_take, List.map_drop, List.length_map, Int.toNat_natCast, Int.toNat_zero]); repeat' (split <;> rename_i hb <;> (try simp only [HBS, ge_iff_le, gt_iff_lt] at hb) <;> simp -implicitDefEqProofs only [RUNS, qindex, Nat.reduceAdd, Nat.reduceLeDiff, Nat.reduceSub, reduceIte, Nat.reduceEqDiff, Nat.reduceLT, reduceCtorEq, Nat.reduceMul, Nat.reduceBEq, Int.reduceEq, if_true, if_false, eq_self, ne_eq, TYS, Nat.sub_zero, List.drop_zero, List.map_take, List.map_drop, List.length_map, Int.toNat_natCast, Int.toNat_zero, *, decide_true, decide_false, Decidable.not_not, not_false_eq_true, not_true_eq_false])); all_goals (first | (simp only [BOOLS]; done) | (simp [*]; done) | ((try simp only [CLOS, beq_iff_eq, bne_iff_ne, ne_eq] at *) <;> omega) | (simp_all; done) | (simp_all <;> omega)))) : P := h
theorem dgs1 {Q P : Prop} (q : Q) (h : Q → P := by (intro q; ((simp -implicitDefEqProofs only [RUNS, qindex, Nat.reduceAdd, Nat.reduceLeDiff, Nat.reduceSub, reduceIte, Nat.reduceEqDiff, Nat.reduceLT, reduceCtorEq, Nat.reduceMul, Nat.reduceBEq, Int.reduceEq, if_true, if_false, eq_self, ne_eq, TYS, Nat.sub_zero, List.drop_zero, List.map_take, List.map_drop, List.length_map, Int.toNat_natCast, Int.toNat_zero, q]); repeat' (split <;> rename_i hb <;> (try simp only [HBS, ge_iff_le, gt_iff_lt] at hb) <;> simp -implicitDefEqProofs only [RUNS, qindex, Nat.reduceAdd, Nat.reduceLeDiff, Nat.reduceSub, reduceIte, Nat.reduceEqDiff, Nat.reduceLT, reduceCtorEq, Nat.reduceMul, Nat.reduceBEq, Int.reduceEq, if_true, if_false, eq_self, ne_eq, TYS, Nat.sub_zero, List.drop_zero, List.map_take, List.map_drop, List.length_map, Int.toNat_natCast, Int.toNat_zero, q, *, decide_true, decide_false, Decidable.not_not, not_false_eq_true, not_true_eq_false])); all_goals (first | (simp only [BOOLS]; done) | (simp [*]; done) | ((try simp only [CLOS, beq_iff_eq, bne_iff_ne, ne_eq] at *) <;> omega) | (simp_all; done) | (simp_all <;> omega)))) : P := h q
theorem dv {P : Prop} (h : P := by simp -implicitDefEqProofs only [RUNS, qindex, Nat.reduceAdd, Nat.reduceLeDiff, Nat.reduceSub, reduceIte, Nat.reduceEqDiff, Nat.reduceLT, reduceCtorEq, Nat.reduceMul, Nat.reduceBEq, Int.reduceEq, if_true, if_false, eq_self, ne_eq, adoes, gdec, List.getD_cons_zero, List.getD_cons_succ, List.contains_cons, List.contains_nil, Bool.false_eq_true, TYS]) : P := h
theorem dv1 {Q P : Prop} (q : Q) (h : Q → P := by intro q; simp -implicitDefEqProofs only [RUNS, qindex, Nat.reduceAdd, Nat.reduceLeDiff, Nat.reduceSub, reduceIte, Nat.reduceEqDiff, Nat.reduceLT, reduceCtorEq, Nat.reduceMul, Nat.reduceBEq, Int.reduceEq, if_true, if_false, eq_self, ne_eq, adoes, gdec, List.getD_cons_zero, List.getD_cons_succ, List.contains_cons, List.contains_nil, Bool.false_eq_true, TYS, q]) : P := h q
theorem dvs {P : Prop} (h : P := by simp -implicitDefEqProofs only [RUNS, qindex, Nat.reduceAdd, Nat.reduceLeDiff, Nat.reduceSub, reduceIte, Nat.reduceEqDiff, Nat.reduceLT, reduceCtorEq, Nat.reduceMul, Nat.reduceBEq, Int.reduceEq, if_true, if_false, eq_self, ne_eq, adoes, gdec, List.getD_cons_zero, List.getD_cons_succ, List.contains_cons, List.contains_nil, Bool.false_eq_true, TYS, Nat.sub_zero, List.drop_zero, List.map_take, List.map_drop, List.length_map, Int.toNat_natCast, Int.toNat_zero]) : P := h
theorem dvs1 {Q P : Prop} (q : Q) (h : Q → P := by intro q; simp -implicitDefEqProofs only [RUNS, qindex, Nat.reduceAdd, Nat.reduceLeDiff, Nat.reduceSub, reduceIte, Nat.reduceEqDiff, Nat.reduceLT, reduceCtorEq, Nat.reduceMul, Nat.reduceBEq, Int.reduceEq, if_true, if_false, eq_self, ne_eq, adoes, gdec, List.getD_cons_zero, List.getD_cons_succ, List.contains_cons, List.contains_nil, Bool.false_eq_true, TYS, Nat.sub_zero, List.drop_zero, List.map_take, List.map_drop, List.length_map, Int.toNat_natCast, Int.toNat_zero, q]) : P := h q
theorem dkt {P : Prop} (h : P := by simp -implicitDefEqProofs only [RUNS, qindex, Nat.reduceAdd, Nat.reduceLeDiff, Nat.reduceSub, reduceIte, Nat.reduceEqDiff, Nat.reduceLT, reduceCtorEq, Nat.reduceMul, Nat.reduceBEq, Int.reduceEq, if_true, if_false, eq_self, ne_eq, TYS, Int.toNat_natCast, Int.toNat_zero] <;> (try simp only [List.length_take, List.length_drop, List.length_map])) : P := h
theorem dkt1 {Q P : Prop} (q : Q) (h : Q → P := by intro q; simp -implicitDefEqProofs only [RUNS, qindex, Nat.reduceAdd, Nat.reduceLeDiff, Nat.reduceSub, reduceIte, Nat.reduceEqDiff, Nat.reduceLT, reduceCtorEq, Nat.reduceMul, Nat.reduceBEq, Int.reduceEq, if_true, if_false, eq_self, ne_eq, TYS, Int.toNat_natCast, Int.toNat_zero, q] <;> (try simp only [List.length_take, List.length_drop, List.length_map])) : P := h q
theorem dgt {P : Prop} (h : P := by (((simp -implicitDefEqProofs only [RUNS, qindex, Nat.reduceAdd, Nat.reduceLeDiff, Nat.reduceSub, reduceIte, Nat.reduceEqDiff, Nat.reduceLT, reduceCtorEq, Nat.reduceMul, Nat.reduceBEq, Int.reduceEq, if_true, if_false, eq_self, ne_eq, TYS, Int.toNat_natCast, Int.toNat_zero]); repeat' (split <;> rename_i hb <;> (try simp only [HBS, ge_iff_le, gt_iff_lt] at hb) <;> simp -implicitDefEqProofs only [RUNS, qindex, Nat.reduceAdd, Nat.reduceLeDiff, Nat.reduceSub, reduceIte, Nat.reduceEqDiff, Nat.reduceLT, reduceCtorEq, Nat.reduceMul, Nat.reduceBEq, Int.reduceEq, if_true, if_false, eq_self, ne_eq, TYS, Int.toNat_natCast, Int.toNat_zero, *, decide_true, decide_false, Decidable.not_not, not_false_eq_true, not_true_eq_false])); all_goals (first | (simp only [BOOLS]; done) | (simp [*]; done) | ((try simp only [CLOS, beq_iff_eq, bne_iff_ne, ne_eq] at *) <;> omega) | (simp_all; done) | (simp_all <;> omega)))) : P := h
theorem dgt1 {Q P : Prop} (q : Q) (h : Q → P := by (intro q; ((simp -implicitDefEqProofs only [RUNS, qindex, Nat.reduceAdd, Nat.reduceLeDiff, Nat.reduceSub, reduceIte, Nat.reduceEqDiff, Nat.reduceLT, reduceCtorEq, Nat.reduceMul, Nat.reduceBEq, Int.reduceEq, if_true, if_false, eq_self, ne_eq, TYS, Int.toNat_natCast, Int.toNat_zero, q]); repeat' (split <;> rename_i hb <;> (try simp only [HBS, ge_iff_le, gt_iff_lt] at hb) <;> simp -implicitDefEqProofs only [RUNS, qindex, Nat.reduceAdd, Nat.reduceLeDiff, Nat.reduceSub, reduceIte, Nat.reduceEqDiff, Nat.reduceLT, reduceCtorEq, Nat.reduceMul, Nat.reduceBEq, Int.reduceEq, if_true, if_false, eq_self, ne_eq, TYS, Int.toNat_natCast, Int.toNat_zero, q, *, decide_true, decide_false, Decidable.not_not, not_false_eq_true, not_true_eq_false])); all_goals (first | (simp only [BOOLS]; done) | (simp [*]; done) | ((try simp only [CLOS, beq_iff_eq, bne_iff_ne, ne_eq] at *) <;> omega) | (simp_all; done) | (simp_all <;> omega)))) : P := h q
theorem dvt {P : Prop} (h : P := by simp -implicitDefEqProofs only [RUNS, qindex, Nat.reduceAdd, Nat.reduceLeDiff, Nat.reduceSub, reduceIte, Nat.reduceEqDiff, Nat.reduceLT, reduceCtorEq, Nat.reduceMul, Nat.reduceBEq, Int.reduceEq, if_true, if_false, eq_self, ne_eq, adoes, gdec, List.getD_cons_zero, List.getD_cons_succ, List.contains_cons, List.contains_nil, Bool.false_eq_true, TYS, Int.toNat_natCast, Int.toNat_zero]) : P := h
theorem dvt1 {Q P : Prop} (q : Q) (h : Q → P := by intro q; simp -implicitDefEqProofs only [RUNS, qindex, Nat.reduceAdd, Nat.reduceLeDiff, Nat.reduceSub, reduceIte, Nat.reduceEqDiff, Nat.reduceLT, reduceCtorEq, Nat.reduceMul, Nat.reduceBEq, Int.reduceEq, if_true, if_false, eq_self, ne_eq, adoes, gdec, List.getD_cons_zero, List.getD_cons_succ, List.contains_cons, List.contains_nil, Bool.false_eq_true, TYS, Int.toNat_natCast, Int.toNat_zero, q]) : P := h q


end Go.Abs.U2Z
