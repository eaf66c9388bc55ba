/- The layer 5 laws: the program's types, its package variables, the environment of its abstract machine. -/
import Derived.Test.YtibmhmnhiflmjaaDoorA31
import Derived.Test.YtibmhmnhiflmjaaDoorA36
import Derived.Test.YtibmhmnhiflmjaaDoorProg
namespace Go.Abs.U05
open Go.RowKit Go.Proofs

abbrev Str := List UInt8

def tab : List (Nat × TI) := [
  (2, ⟨.int .i64, 1, 8, some [.int .i64 0]⟩),
  (3, ⟨.int .i64, 1, 8, some [.int .i64 0]⟩),
  (4, ⟨.bool, 1, 1, some [.bool false]⟩),
  (5, ⟨.int .u8, 1, 1, some [.int .u8 0]⟩),
  (6, ⟨.int .u8, 1, 1, some [.int .u8 0]⟩),
  (7, ⟨.strct [(0, 1), (1, 1), (2, 1), (3, 1)], 4, 24, some [.int .i64 0, .int .i64 0, .bool false, .int .u8 0]⟩),
  (8, ⟨.strct [(0, 1), (1, 1), (2, 1), (3, 1)], 4, 24, some [.int .i64 0, .int .i64 0, .bool false, .int .u8 0]⟩),
  (9, ⟨.str, 1, 16, some [.str []]⟩),
  (10, ⟨.str, 1, 16, some [.str []]⟩),
  (11, ⟨.str, 1, 16, some [.str []]⟩),
  (12, ⟨.int .u64, 1, 8, some [.int .u64 0]⟩),
  (13, ⟨.strct [(0, 1), (1, 1)], 2, 24, some [.str [], .int .u64 0]⟩),
  (14, ⟨.strct [(0, 1), (1, 1)], 2, 24, some [.str [], .int .u64 0]⟩),
  (15, ⟨.ptr 86, 1, 8, none⟩),
  (16, ⟨.ptr 89, 1, 8, none⟩),
  (17, ⟨.ptr 97, 1, 8, none⟩),
  (18, ⟨.strct [(0, 1)], 1, 8, none⟩),
  (19, ⟨.strct [(0, 1)], 1, 8, none⟩),
  (21, ⟨.int .i32, 1, 4, some [.int .i32 0]⟩),
  (24, ⟨.slice 32, 1, 24, some [.slice []]⟩),
  (26, ⟨.int .i64, 1, 8, some [.int .i64 0]⟩),
  (30, ⟨.slice 9, 1, 24, some [.slice []]⟩),
  (31, ⟨.strct [(0, 1), (1, 1), (2, 1)], 3, 56, some [.str [], .str [], .slice []]⟩),
  (32, ⟨.strct [(0, 1), (1, 1), (2, 1)], 3, 56, some [.str [], .str [], .slice []]⟩),
  (42, ⟨.ptr 45, 1, 8, none⟩),
  (43, ⟨.slice 5, 1, 24, some [.slice []]⟩),
  (44, ⟨.strct [(0, 1), (1, 1)], 2, 32, none⟩),
  (45, ⟨.strct [(0, 1), (1, 1)], 2, 32, none⟩),
  (52, ⟨.map 9 3, 1, 8, none⟩),
  (63, ⟨.ptr 5, 1, 8, none⟩),
  (73, ⟨.int .u64, 1, 8, some [.int .u64 0]⟩),
  (75, ⟨.int .u32, 1, 4, some [.int .u32 0]⟩),
  (82, ⟨.strct [(0, 1), (1, 1)], 2, 2, some [.int .u8 0, .int .u8 0]⟩),
  (83, ⟨.strct [(0, 1), (1, 1)], 2, 2, some [.int .u8 0, .int .u8 0]⟩),
  (85, ⟨.strct [(0, 1), (1, 1), (2, 1), (3, 1)], 4, 40, none⟩),
  (86, ⟨.strct [(0, 1), (1, 1), (2, 1), (3, 1)], 4, 40, none⟩),
  (88, ⟨.strct [(0, 0)], 0, 0, some []⟩),
  (89, ⟨.strct [(0, 0)], 0, 0, some []⟩),
  (91, ⟨.int .u8, 1, 1, some [.int .u8 0]⟩),
  (92, ⟨.int .u8, 1, 1, some [.int .u8 0]⟩),
  (94, ⟨.int .i32, 1, 4, some [.int .i32 0]⟩),
  (95, ⟨.int .i32, 1, 4, some [.int .i32 0]⟩),
  (96, ⟨.strct [(0, 1), (1, 1), (2, 1), (3, 1), (4, 1), (5, 1), (6, 1), (7, 1), (8, 1), (9, 1), (10, 1)], 11, 48, none⟩),
  (97, ⟨.strct [(0, 1), (1, 1), (2, 1), (3, 1), (4, 1), (5, 1), (6, 1), (7, 1), (8, 1), (9, 1), (10, 1)], 11, 48, none⟩)]

theorem tab_ok : tab.all (fun p => tcheck Tryd.prog p.1 p.2) = true := by kernel_rfl

noncomputable def env : Env where
  P := Tryd.prog
  T := tabT tab
  hT := fun t ti h => tabT_sound tab_ok t ti h
  gN := 2
  GI := fun w => ∃ m, w.cell? ⟨0, 0, none⟩ = some (.int .i64 m)
  hG := by
    intro w w' ⟨m, hm⟩ h
    refine ⟨m, ?_⟩
    have h0 := h 0 (by decide)
    unfold World.cell? at hm ⊢
    simpa [h0] using hm
  bT := some 45
  be := 5
  hbT := by
    intro t ht w
    cases ht
    kernel_rfl
theorem isBoolT_4 : isBoolT env.T 4 = true := rfl
theorem T_2 : env.T 2 = some ⟨.int .i64, 1, 8, some [.int .i64 0]⟩ := rfl
theorem T_3 : env.T 3 = some ⟨.int .i64, 1, 8, some [.int .i64 0]⟩ := rfl
theorem T_4 : env.T 4 = some ⟨.bool, 1, 1, some [.bool false]⟩ := rfl
theorem T_5 : env.T 5 = some ⟨.int .u8, 1, 1, some [.int .u8 0]⟩ := rfl
theorem T_6 : env.T 6 = some ⟨.int .u8, 1, 1, some [.int .u8 0]⟩ := rfl
theorem T_7 : env.T 7 = some ⟨.strct [(0, 1), (1, 1), (2, 1), (3, 1)], 4, 24, some [.int .i64 0, .int .i64 0, .bool false, .int .u8 0]⟩ := rfl
theorem T_8 : env.T 8 = some ⟨.strct [(0, 1), (1, 1), (2, 1), (3, 1)], 4, 24, some [.int .i64 0, .int .i64 0, .bool false, .int .u8 0]⟩ := rfl
theorem T_9 : env.T 9 = some ⟨.str, 1, 16, some [.str []]⟩ := rfl
theorem T_10 : env.T 10 = some ⟨.str, 1, 16, some [.str []]⟩ := rfl
theorem T_11 : env.T 11 = some ⟨.str, 1, 16, some [.str []]⟩ := rfl
theorem T_12 : env.T 12 = some ⟨.int .u64, 1, 8, some [.int .u64 0]⟩ := rfl
theorem T_13 : env.T 13 = some ⟨.strct [(0, 1), (1, 1)], 2, 24, some [.str [], .int .u64 0]⟩ := rfl
theorem T_14 : env.T 14 = some ⟨.strct [(0, 1), (1, 1)], 2, 24, some [.str [], .int .u64 0]⟩ := rfl
theorem T_15 : env.T 15 = some ⟨.ptr 86, 1, 8, none⟩ := rfl
theorem T_16 : env.T 16 = some ⟨.ptr 89, 1, 8, none⟩ := rfl
theorem T_17 : env.T 17 = some ⟨.ptr 97, 1, 8, none⟩ := rfl
theorem T_18 : env.T 18 = some ⟨.strct [(0, 1)], 1, 8, none⟩ := rfl
theorem T_19 : env.T 19 = some ⟨.strct [(0, 1)], 1, 8, none⟩ := rfl
theorem T_21 : env.T 21 = some ⟨.int .i32, 1, 4, some [.int .i32 0]⟩ := rfl
theorem T_24 : env.T 24 = some ⟨.slice 32, 1, 24, some [.slice []]⟩ := rfl
theorem T_26 : env.T 26 = some ⟨.int .i64, 1, 8, some [.int .i64 0]⟩ := rfl
theorem T_30 : env.T 30 = some ⟨.slice 9, 1, 24, some [.slice []]⟩ := rfl
theorem T_31 : env.T 31 = some ⟨.strct [(0, 1), (1, 1), (2, 1)], 3, 56, some [.str [], .str [], .slice []]⟩ := rfl
theorem T_32 : env.T 32 = some ⟨.strct [(0, 1), (1, 1), (2, 1)], 3, 56, some [.str [], .str [], .slice []]⟩ := rfl
theorem T_42 : env.T 42 = some ⟨.ptr 45, 1, 8, none⟩ := rfl
theorem T_43 : env.T 43 = some ⟨.slice 5, 1, 24, some [.slice []]⟩ := rfl
theorem T_44 : env.T 44 = some ⟨.strct [(0, 1), (1, 1)], 2, 32, none⟩ := rfl
theorem T_45 : env.T 45 = some ⟨.strct [(0, 1), (1, 1)], 2, 32, none⟩ := rfl
theorem T_52 : env.T 52 = some ⟨.map 9 3, 1, 8, none⟩ := rfl
theorem T_63 : env.T 63 = some ⟨.ptr 5, 1, 8, none⟩ := rfl
theorem T_73 : env.T 73 = some ⟨.int .u64, 1, 8, some [.int .u64 0]⟩ := rfl
theorem T_75 : env.T 75 = some ⟨.int .u32, 1, 4, some [.int .u32 0]⟩ := rfl
theorem T_82 : env.T 82 = some ⟨.strct [(0, 1), (1, 1)], 2, 2, some [.int .u8 0, .int .u8 0]⟩ := rfl
theorem T_83 : env.T 83 = some ⟨.strct [(0, 1), (1, 1)], 2, 2, some [.int .u8 0, .int .u8 0]⟩ := rfl
theorem T_85 : env.T 85 = some ⟨.strct [(0, 1), (1, 1), (2, 1), (3, 1)], 4, 40, none⟩ := rfl
theorem T_86 : env.T 86 = some ⟨.strct [(0, 1), (1, 1), (2, 1), (3, 1)], 4, 40, none⟩ := rfl
theorem T_88 : env.T 88 = some ⟨.strct [(0, 0)], 0, 0, some []⟩ := rfl
theorem T_89 : env.T 89 = some ⟨.strct [(0, 0)], 0, 0, some []⟩ := rfl
theorem T_91 : env.T 91 = some ⟨.int .u8, 1, 1, some [.int .u8 0]⟩ := rfl
theorem T_92 : env.T 92 = some ⟨.int .u8, 1, 1, some [.int .u8 0]⟩ := rfl
theorem T_94 : env.T 94 = some ⟨.int .i32, 1, 4, some [.int .i32 0]⟩ := rfl
theorem T_95 : env.T 95 = some ⟨.int .i32, 1, 4, some [.int .i32 0]⟩ := rfl
theorem T_96 : env.T 96 = some ⟨.strct [(0, 1), (1, 1), (2, 1), (3, 1), (4, 1), (5, 1), (6, 1), (7, 1), (8, 1), (9, 1), (10, 1)], 11, 48, none⟩ := rfl
theorem T_97 : env.T 97 = some ⟨.strct [(0, 1), (1, 1), (2, 1), (3, 1), (4, 1), (5, 1), (6, 1), (7, 1), (8, 1), (9, 1), (10, 1)], 11, 48, none⟩ := rfl
theorem mixed : env.P.follows .mixedOrders = true := by kernel_rfl
theorem env_bT : env.bT = some 45 := rfl

def P30 (xs : List Str) : PV := .slice (xs.map PV.str)

theorem P30_eq (xs : List Str) : P30 xs = .slice (xs.map PV.str) := rfl

theorem P30_inj {x y : List Str} (h : P30 x = P30 y) : x = y := map_inj_of (fun _ _ => str_inj) (PV.slice.inj h)

theorem P30_all (xs : List (List Str)) : ((xs.map P30).all fun z => z.cells.length == 1) = true := by
  simp [P30, PV.cells]

structure User where
  name_ : Str
  leader_ : Str
  members_ : List Str

instance : Inhabited User := ⟨⟨[], [], []⟩⟩

def User.pv (x : User) : PV := .agg [.str x.name_, .str x.leader_, .slice (List.map PV.str x.members_)]

theorem User.pv_eq (x : User) : x.pv = .agg [.str x.name_, .str x.leader_, .slice (List.map PV.str x.members_)] := rfl

theorem User.inj {x y : User} (h : x.pv = y.pv) : x = y := by
  obtain ⟨a1, a2, a3⟩ := x
  obtain ⟨b1, b2, b3⟩ := y
  simp only [User.pv, PV.agg.injEq, List.cons.injEq, and_true] at h
  obtain ⟨h1, h2, h3⟩ := h
  cases (str_inj h1)
  cases (str_inj h2)
  cases (map_inj_of (fun _ _ => str_inj) (PV.slice.inj h3))
  rfl

theorem User.all (xs : List User) : ((xs.map User.pv).all fun z => z.cells.length == 3) = true := by
  simp [User.pv, PV.cells]

def pfn : FuncId → Bool := fun f => [10, 11, 12, 13, 14, 15, 16, 17, 18, 19, 20, 21, 22, 23, 24, 25, 26, 27, 28, 30, 33, 34, 35, 36, 37, 38, 39, 40, 45].contains f

end Go.Abs.U05
