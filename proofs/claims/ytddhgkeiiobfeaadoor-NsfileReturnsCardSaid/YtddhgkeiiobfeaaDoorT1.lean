/- The layer 45 laws: the program's types, its package variables, the environment of its abstract machine. -/
import Derived.Test.YtddhgkeiiobfeaaDoorA31
import Derived.Test.YtddhgkeiiobfeaaDoorA36
import Derived.Test.YtddhgkeiiobfeaaDoorA37
import Derived.Test.YtddhgkeiiobfeaaDoorProg
namespace Go.Abs.U45
open Go.RowKit Go.Proofs

abbrev Str := List UInt8

def tab : List (Nat × TI) := [
  (2, ⟨.int .i64, 1, 8, some [.int .i64 0]⟩),
  (3, ⟨.int .i64, 1, 8, some [.int .i64 0]⟩),
  (4, ⟨.bool, 1, 1, some [.bool false]⟩),
  (5, ⟨.int .u8, 1, 1, some [.int .u8 0]⟩),
  (6, ⟨.int .u8, 1, 1, some [.int .u8 0]⟩),
  (7, ⟨.strct [(0, 1), (1, 1), (2, 1), (3, 1)], 4, 24, some [.int .i64 0, .int .i64 0, .bool false, .int .u8 0]⟩),
  (8, ⟨.strct [(0, 1), (1, 1), (2, 1), (3, 1)], 4, 24, some [.int .i64 0, .int .i64 0, .bool false, .int .u8 0]⟩),
  (9, ⟨.str, 1, 16, some [.str []]⟩),
  (10, ⟨.str, 1, 16, some [.str []]⟩),
  (11, ⟨.str, 1, 16, some [.str []]⟩),
  (12, ⟨.int .u64, 1, 8, some [.int .u64 0]⟩),
  (13, ⟨.strct [(0, 1), (1, 1)], 2, 24, some [.str [], .int .u64 0]⟩),
  (14, ⟨.strct [(0, 1), (1, 1)], 2, 24, some [.str [], .int .u64 0]⟩),
  (15, ⟨.ptr 107, 1, 8, none⟩),
  (16, ⟨.ptr 110, 1, 8, none⟩),
  (17, ⟨.ptr 118, 1, 8, none⟩),
  (18, ⟨.strct [(0, 1)], 1, 8, none⟩),
  (19, ⟨.strct [(0, 1)], 1, 8, none⟩),
  (21, ⟨.int .i32, 1, 4, some [.int .i32 0]⟩),
  (22, ⟨.strct [(0, 1), (1, 1), (2, 1), (3, 1)], 4, 48, some [.int .i64 0, .int .i64 0, .str [], .str []]⟩),
  (23, ⟨.strct [(0, 1), (1, 1), (2, 1), (3, 1)], 4, 48, some [.int .i64 0, .int .i64 0, .str [], .str []]⟩),
  (26, ⟨.int .i64, 1, 8, some [.int .i64 0]⟩),
  (29, ⟨.strct [(0, 1), (1, 1), (2, 1), (3, 1), (4, 1)], 5, 56, some [.int .i64 0, .int .i64 0, .int .i64 0, .str [], .str []]⟩),
  (30, ⟨.strct [(0, 1), (1, 1), (2, 1), (3, 1), (4, 1)], 5, 56, some [.int .i64 0, .int .i64 0, .int .i64 0, .str [], .str []]⟩),
  (31, ⟨.slice 40, 1, 24, some [.slice []]⟩),
  (32, ⟨.strct [(0, 1), (1, 5), (6, 1)], 7, 88, some [.int .i64 0, .int .i64 0, .int .i64 0, .int .i64 0, .str [], .str [], .slice []]⟩),
  (33, ⟨.strct [(0, 1), (1, 5), (6, 1)], 7, 88, some [.int .i64 0, .int .i64 0, .int .i64 0, .int .i64 0, .str [], .str [], .slice []]⟩),
  (38, ⟨.slice 42, 1, 24, some [.slice []]⟩),
  (39, ⟨.strct [(0, 5), (5, 1)], 6, 80, some [.int .i64 0, .int .i64 0, .int .i64 0, .str [], .str [], .slice []]⟩),
  (40, ⟨.strct [(0, 5), (5, 1)], 6, 80, some [.int .i64 0, .int .i64 0, .int .i64 0, .str [], .str [], .slice []]⟩),
  (41, ⟨.strct [(0, 5), (5, 1)], 6, 64, some [.int .i64 0, .int .i64 0, .int .i64 0, .str [], .str [], .bool false]⟩),
  (42, ⟨.strct [(0, 5), (5, 1)], 6, 64, some [.int .i64 0, .int .i64 0, .int .i64 0, .str [], .str [], .bool false]⟩),
  (43, ⟨.slice 23, 1, 24, some [.slice []]⟩),
  (52, ⟨.ptr 55, 1, 8, none⟩),
  (53, ⟨.slice 5, 1, 24, some [.slice []]⟩),
  (54, ⟨.strct [(0, 1), (1, 1)], 2, 32, none⟩),
  (55, ⟨.strct [(0, 1), (1, 1)], 2, 32, none⟩),
  (62, ⟨.slice 9, 1, 24, some [.slice []]⟩),
  (64, ⟨.slice 77, 1, 24, some [.slice []]⟩),
  (74, ⟨.ptr 5, 1, 8, none⟩),
  (76, ⟨.strct [(0, 1), (1, 1)], 2, 24, some [.str [], .bool false]⟩),
  (77, ⟨.strct [(0, 1), (1, 1)], 2, 24, some [.str [], .bool false]⟩),
  (98, ⟨.int .u64, 1, 8, some [.int .u64 0]⟩),
  (100, ⟨.strct [(0, 1), (1, 1)], 2, 2, some [.int .u8 0, .int .u8 0]⟩),
  (101, ⟨.strct [(0, 1), (1, 1)], 2, 2, some [.int .u8 0, .int .u8 0]⟩),
  (103, ⟨.int .u32, 1, 4, some [.int .u32 0]⟩),
  (106, ⟨.strct [(0, 1), (1, 1), (2, 1), (3, 1)], 4, 40, none⟩),
  (107, ⟨.strct [(0, 1), (1, 1), (2, 1), (3, 1)], 4, 40, none⟩),
  (109, ⟨.strct [(0, 0)], 0, 0, some []⟩),
  (110, ⟨.strct [(0, 0)], 0, 0, some []⟩),
  (112, ⟨.int .u8, 1, 1, some [.int .u8 0]⟩),
  (113, ⟨.int .u8, 1, 1, some [.int .u8 0]⟩),
  (115, ⟨.int .i32, 1, 4, some [.int .i32 0]⟩),
  (116, ⟨.int .i32, 1, 4, some [.int .i32 0]⟩),
  (117, ⟨.strct [(0, 1), (1, 1), (2, 1), (3, 1), (4, 1), (5, 1), (6, 1), (7, 1), (8, 1), (9, 1), (10, 1)], 11, 48, none⟩),
  (118, ⟨.strct [(0, 1), (1, 1), (2, 1), (3, 1), (4, 1), (5, 1), (6, 1), (7, 1), (8, 1), (9, 1), (10, 1)], 11, 48, none⟩)]

def eqtab : List (TypeId × List EK) := [(23, [.int, .int, .str, .str])]

theorem eqtab_ok : eqtab.all (fun p => eqcheck Tryd.prog p.1 p.2) = true := by kernel_rfl

theorem tab_ok : tab.all (fun p => tcheck Tryd.prog p.1 p.2) = true := by kernel_rfl

noncomputable def env : Env where
  P := Tryd.prog
  T := tabT tab
  hT := fun t ti h => tabT_sound tab_ok t ti h
  gN := 2
  GI := fun w => ∃ m, w.cell? ⟨0, 0, none⟩ = some (.int .i64 m)
  hG := by
    intro w w' ⟨m, hm⟩ h
    refine ⟨m, ?_⟩
    have h0 := h 0 (by decide)
    unfold World.cell? at hm ⊢
    simpa [h0] using hm
  bT := some 55
  be := 5
  eqT := eqtabT eqtab
  hEq := fun t ks h => eqtabT_sound eqtab_ok h
  hbT := by
    intro t ht w
    cases ht
    kernel_rfl
theorem isBoolT_4 : isBoolT env.T 4 = true := rfl
theorem T_2 : env.T 2 = some ⟨.int .i64, 1, 8, some [.int .i64 0]⟩ := rfl
theorem T_3 : env.T 3 = some ⟨.int .i64, 1, 8, some [.int .i64 0]⟩ := rfl
theorem T_4 : env.T 4 = some ⟨.bool, 1, 1, some [.bool false]⟩ := rfl
theorem T_5 : env.T 5 = some ⟨.int .u8, 1, 1, some [.int .u8 0]⟩ := rfl
theorem T_6 : env.T 6 = some ⟨.int .u8, 1, 1, some [.int .u8 0]⟩ := rfl
theorem T_7 : env.T 7 = some ⟨.strct [(0, 1), (1, 1), (2, 1), (3, 1)], 4, 24, some [.int .i64 0, .int .i64 0, .bool false, .int .u8 0]⟩ := rfl
theorem T_8 : env.T 8 = some ⟨.strct [(0, 1), (1, 1), (2, 1), (3, 1)], 4, 24, some [.int .i64 0, .int .i64 0, .bool false, .int .u8 0]⟩ := rfl
theorem T_9 : env.T 9 = some ⟨.str, 1, 16, some [.str []]⟩ := rfl
theorem T_10 : env.T 10 = some ⟨.str, 1, 16, some [.str []]⟩ := rfl
theorem T_11 : env.T 11 = some ⟨.str, 1, 16, some [.str []]⟩ := rfl
theorem T_12 : env.T 12 = some ⟨.int .u64, 1, 8, some [.int .u64 0]⟩ := rfl
theorem T_13 : env.T 13 = some ⟨.strct [(0, 1), (1, 1)], 2, 24, some [.str [], .int .u64 0]⟩ := rfl
theorem T_14 : env.T 14 = some ⟨.strct [(0, 1), (1, 1)], 2, 24, some [.str [], .int .u64 0]⟩ := rfl
theorem T_15 : env.T 15 = some ⟨.ptr 107, 1, 8, none⟩ := rfl
theorem T_16 : env.T 16 = some ⟨.ptr 110, 1, 8, none⟩ := rfl
theorem T_17 : env.T 17 = some ⟨.ptr 118, 1, 8, none⟩ := rfl
theorem T_18 : env.T 18 = some ⟨.strct [(0, 1)], 1, 8, none⟩ := rfl
theorem T_19 : env.T 19 = some ⟨.strct [(0, 1)], 1, 8, none⟩ := rfl
theorem T_21 : env.T 21 = some ⟨.int .i32, 1, 4, some [.int .i32 0]⟩ := rfl
theorem T_22 : env.T 22 = some ⟨.strct [(0, 1), (1, 1), (2, 1), (3, 1)], 4, 48, some [.int .i64 0, .int .i64 0, .str [], .str []]⟩ := rfl
theorem T_23 : env.T 23 = some ⟨.strct [(0, 1), (1, 1), (2, 1), (3, 1)], 4, 48, some [.int .i64 0, .int .i64 0, .str [], .str []]⟩ := rfl
theorem T_26 : env.T 26 = some ⟨.int .i64, 1, 8, some [.int .i64 0]⟩ := rfl
theorem T_29 : env.T 29 = some ⟨.strct [(0, 1), (1, 1), (2, 1), (3, 1), (4, 1)], 5, 56, some [.int .i64 0, .int .i64 0, .int .i64 0, .str [], .str []]⟩ := rfl
theorem T_30 : env.T 30 = some ⟨.strct [(0, 1), (1, 1), (2, 1), (3, 1), (4, 1)], 5, 56, some [.int .i64 0, .int .i64 0, .int .i64 0, .str [], .str []]⟩ := rfl
theorem T_31 : env.T 31 = some ⟨.slice 40, 1, 24, some [.slice []]⟩ := rfl
theorem T_32 : env.T 32 = some ⟨.strct [(0, 1), (1, 5), (6, 1)], 7, 88, some [.int .i64 0, .int .i64 0, .int .i64 0, .int .i64 0, .str [], .str [], .slice []]⟩ := rfl
theorem T_33 : env.T 33 = some ⟨.strct [(0, 1), (1, 5), (6, 1)], 7, 88, some [.int .i64 0, .int .i64 0, .int .i64 0, .int .i64 0, .str [], .str [], .slice []]⟩ := rfl
theorem T_38 : env.T 38 = some ⟨.slice 42, 1, 24, some [.slice []]⟩ := rfl
theorem T_39 : env.T 39 = some ⟨.strct [(0, 5), (5, 1)], 6, 80, some [.int .i64 0, .int .i64 0, .int .i64 0, .str [], .str [], .slice []]⟩ := rfl
theorem T_40 : env.T 40 = some ⟨.strct [(0, 5), (5, 1)], 6, 80, some [.int .i64 0, .int .i64 0, .int .i64 0, .str [], .str [], .slice []]⟩ := rfl
theorem T_41 : env.T 41 = some ⟨.strct [(0, 5), (5, 1)], 6, 64, some [.int .i64 0, .int .i64 0, .int .i64 0, .str [], .str [], .bool false]⟩ := rfl
theorem T_42 : env.T 42 = some ⟨.strct [(0, 5), (5, 1)], 6, 64, some [.int .i64 0, .int .i64 0, .int .i64 0, .str [], .str [], .bool false]⟩ := rfl
theorem T_43 : env.T 43 = some ⟨.slice 23, 1, 24, some [.slice []]⟩ := rfl
theorem T_52 : env.T 52 = some ⟨.ptr 55, 1, 8, none⟩ := rfl
theorem T_53 : env.T 53 = some ⟨.slice 5, 1, 24, some [.slice []]⟩ := rfl
theorem T_54 : env.T 54 = some ⟨.strct [(0, 1), (1, 1)], 2, 32, none⟩ := rfl
theorem T_55 : env.T 55 = some ⟨.strct [(0, 1), (1, 1)], 2, 32, none⟩ := rfl
theorem T_62 : env.T 62 = some ⟨.slice 9, 1, 24, some [.slice []]⟩ := rfl
theorem T_64 : env.T 64 = some ⟨.slice 77, 1, 24, some [.slice []]⟩ := rfl
theorem T_74 : env.T 74 = some ⟨.ptr 5, 1, 8, none⟩ := rfl
theorem T_76 : env.T 76 = some ⟨.strct [(0, 1), (1, 1)], 2, 24, some [.str [], .bool false]⟩ := rfl
theorem T_77 : env.T 77 = some ⟨.strct [(0, 1), (1, 1)], 2, 24, some [.str [], .bool false]⟩ := rfl
theorem T_98 : env.T 98 = some ⟨.int .u64, 1, 8, some [.int .u64 0]⟩ := rfl
theorem T_100 : env.T 100 = some ⟨.strct [(0, 1), (1, 1)], 2, 2, some [.int .u8 0, .int .u8 0]⟩ := rfl
theorem T_101 : env.T 101 = some ⟨.strct [(0, 1), (1, 1)], 2, 2, some [.int .u8 0, .int .u8 0]⟩ := rfl
theorem T_103 : env.T 103 = some ⟨.int .u32, 1, 4, some [.int .u32 0]⟩ := rfl
theorem T_106 : env.T 106 = some ⟨.strct [(0, 1), (1, 1), (2, 1), (3, 1)], 4, 40, none⟩ := rfl
theorem T_107 : env.T 107 = some ⟨.strct [(0, 1), (1, 1), (2, 1), (3, 1)], 4, 40, none⟩ := rfl
theorem T_109 : env.T 109 = some ⟨.strct [(0, 0)], 0, 0, some []⟩ := rfl
theorem T_110 : env.T 110 = some ⟨.strct [(0, 0)], 0, 0, some []⟩ := rfl
theorem T_112 : env.T 112 = some ⟨.int .u8, 1, 1, some [.int .u8 0]⟩ := rfl
theorem T_113 : env.T 113 = some ⟨.int .u8, 1, 1, some [.int .u8 0]⟩ := rfl
theorem T_115 : env.T 115 = some ⟨.int .i32, 1, 4, some [.int .i32 0]⟩ := rfl
theorem T_116 : env.T 116 = some ⟨.int .i32, 1, 4, some [.int .i32 0]⟩ := rfl
theorem T_117 : env.T 117 = some ⟨.strct [(0, 1), (1, 1), (2, 1), (3, 1), (4, 1), (5, 1), (6, 1), (7, 1), (8, 1), (9, 1), (10, 1)], 11, 48, none⟩ := rfl
theorem T_118 : env.T 118 = some ⟨.strct [(0, 1), (1, 1), (2, 1), (3, 1), (4, 1), (5, 1), (6, 1), (7, 1), (8, 1), (9, 1), (10, 1)], 11, 48, none⟩ := rfl
theorem eqT_3 : env.eqT 3 = none := rfl
theorem eqT_4 : env.eqT 4 = none := rfl
theorem eqT_5 : env.eqT 5 = none := rfl
theorem eqT_9 : env.eqT 9 = none := rfl
theorem eqT_23 : env.eqT 23 = some [.int, .int, .str, .str] := rfl
theorem eqT_26 : env.eqT 26 = none := rfl
theorem mixed : env.P.follows .mixedOrders = true := by kernel_rfl
theorem env_bT : env.bT = some 55 := rfl

structure NsOp where
  kind_ : Int
  flag_ : Int
  new_ : Str
  old_ : Str

instance : Inhabited NsOp := ⟨⟨0, 0, [], []⟩⟩

def NsOp.pv (x : NsOp) : PV := .agg [.int .i64 x.kind_, .int .i64 x.flag_, .str x.new_, .str x.old_]

theorem NsOp.pv_eq (x : NsOp) : x.pv = .agg [.int .i64 x.kind_, .int .i64 x.flag_, .str x.new_, .str x.old_] := rfl

theorem NsOp.inj {x y : NsOp} (h : x.pv = y.pv) : x = y := by
  obtain ⟨a1, a2, a3, a4⟩ := x
  obtain ⟨b1, b2, b3, b4⟩ := y
  simp only [NsOp.pv, PV.agg.injEq, List.cons.injEq, and_true] at h
  obtain ⟨h1, h2, h3, h4⟩ := h
  cases (int_inj h1)
  cases (int_inj h2)
  cases (str_inj h3)
  cases (str_inj h4)
  rfl

theorem NsOp.all (xs : List NsOp) : ((xs.map NsOp.pv).all fun z => z.cells.length == 4) = true := by
  simp [NsOp.pv, PV.cells]

structure Word where
  text_ : Str
  quoted_ : Bool

instance : Inhabited Word := ⟨⟨[], false⟩⟩

def Word.pv (x : Word) : PV := .agg [.str x.text_, .bool x.quoted_]

theorem Word.pv_eq (x : Word) : x.pv = .agg [.str x.text_, .bool x.quoted_] := rfl

theorem Word.inj {x y : Word} (h : x.pv = y.pv) : x = y := by
  obtain ⟨a1, a2⟩ := x
  obtain ⟨b1, b2⟩ := y
  simp only [Word.pv, PV.agg.injEq, List.cons.injEq, and_true] at h
  obtain ⟨h1, h2⟩ := h
  cases (str_inj h1)
  cases (bool_inj h2)
  rfl

theorem Word.all (xs : List Word) : ((xs.map Word.pv).all fun z => z.cells.length == 2) = true := by
  simp [Word.pv, PV.cells]

structure Chan where
  dev_ : Int
  id_ : Int
  fid_ : Int
  path_ : Str
  name_ : Str

instance : Inhabited Chan := ⟨⟨0, 0, 0, [], []⟩⟩

def Chan.pv (x : Chan) : PV := .agg [.int .i64 x.dev_, .int .i64 x.id_, .int .i64 x.fid_, .str x.path_, .str x.name_]

theorem Chan.pv_eq (x : Chan) : x.pv = .agg [.int .i64 x.dev_, .int .i64 x.id_, .int .i64 x.fid_, .str x.path_, .str x.name_] := rfl

theorem Chan.inj {x y : Chan} (h : x.pv = y.pv) : x = y := by
  obtain ⟨a1, a2, a3, a4, a5⟩ := x
  obtain ⟨b1, b2, b3, b4, b5⟩ := y
  simp only [Chan.pv, PV.agg.injEq, List.cons.injEq, and_true] at h
  obtain ⟨h1, h2, h3, h4, h5⟩ := h
  cases (int_inj h1)
  cases (int_inj h2)
  cases (int_inj h3)
  cases (str_inj h4)
  cases (str_inj h5)
  rfl

theorem Chan.all (xs : List Chan) : ((xs.map Chan.pv).all fun z => z.cells.length == 5) = true := by
  simp [Chan.pv, PV.cells]

structure Target where
  chan_ : Chan
  create_ : Bool

instance : Inhabited Target := ⟨⟨default, false⟩⟩

def Target.pv (x : Target) : PV := .agg [.int .i64 x.chan_.dev_, .int .i64 x.chan_.id_, .int .i64 x.chan_.fid_, .str x.chan_.path_, .str x.chan_.name_, .bool x.create_]

theorem Target.pv_eq (x : Target) : x.pv = .agg [.int .i64 x.chan_.dev_, .int .i64 x.chan_.id_, .int .i64 x.chan_.fid_, .str x.chan_.path_, .str x.chan_.name_, .bool x.create_] := rfl

theorem Target.inj {x y : Target} (h : x.pv = y.pv) : x = y := by
  obtain ⟨⟨a1, a2, a3, a4, a5⟩, a6⟩ := x
  obtain ⟨⟨b1, b2, b3, b4, b5⟩, b6⟩ := y
  simp only [Target.pv, PV.agg.injEq, List.cons.injEq, and_true] at h
  obtain ⟨h1, h2, h3, h4, h5, h6⟩ := h
  cases (int_inj h1)
  cases (int_inj h2)
  cases (int_inj h3)
  cases (str_inj h4)
  cases (str_inj h5)
  cases (bool_inj h6)
  rfl

theorem Target.all (xs : List Target) : ((xs.map Target.pv).all fun z => z.cells.length == 6) = true := by
  simp [Target.pv, PV.cells]

def P38 (xs : List Target) : PV := .slice (xs.map Target.pv)

theorem P38_eq (xs : List Target) : P38 xs = .slice (xs.map Target.pv) := rfl

theorem P38_inj {x y : List Target} (h : P38 x = P38 y) : x = y := map_inj_of (fun _ _ => Target.inj) (PV.slice.inj h)

theorem P38_all (xs : List (List Target)) : ((xs.map P38).all fun z => z.cells.length == 1) = true := by
  simp [P38, PV.cells]

structure Mount where
  from_ : Chan
  to_ : List Target

instance : Inhabited Mount := ⟨⟨default, []⟩⟩

def Mount.pv (x : Mount) : PV := .agg [.int .i64 x.from_.dev_, .int .i64 x.from_.id_, .int .i64 x.from_.fid_, .str x.from_.path_, .str x.from_.name_, .slice (List.map Target.pv x.to_)]

theorem Mount.pv_eq (x : Mount) : x.pv = .agg [.int .i64 x.from_.dev_, .int .i64 x.from_.id_, .int .i64 x.from_.fid_, .str x.from_.path_, .str x.from_.name_, .slice (List.map Target.pv x.to_)] := rfl

theorem Mount.inj {x y : Mount} (h : x.pv = y.pv) : x = y := by
  obtain ⟨⟨a1, a2, a3, a4, a5⟩, a6⟩ := x
  obtain ⟨⟨b1, b2, b3, b4, b5⟩, b6⟩ := y
  simp only [Mount.pv, PV.agg.injEq, List.cons.injEq, and_true] at h
  obtain ⟨h1, h2, h3, h4, h5, h6⟩ := h
  cases (int_inj h1)
  cases (int_inj h2)
  cases (int_inj h3)
  cases (str_inj h4)
  cases (str_inj h5)
  cases (map_inj_of (fun _ _ => Target.inj) (PV.slice.inj h6))
  rfl

theorem Mount.all (xs : List Mount) : ((xs.map Mount.pv).all fun z => z.cells.length == 6) = true := by
  simp [Mount.pv, PV.cells]

def P31 (xs : List Mount) : PV := .slice (xs.map Mount.pv)

theorem P31_eq (xs : List Mount) : P31 xs = .slice (xs.map Mount.pv) := rfl

theorem P31_inj {x y : List Mount} (h : P31 x = P31 y) : x = y := map_inj_of (fun _ _ => Mount.inj) (PV.slice.inj h)

theorem P31_all (xs : List (List Mount)) : ((xs.map P31).all fun z => z.cells.length == 1) = true := by
  simp [P31, PV.cells]

structure Ns where
  id_ : Int
  root_ : Chan
  mounts_ : List Mount

instance : Inhabited Ns := ⟨⟨0, default, []⟩⟩

def Ns.pv (x : Ns) : PV := .agg [.int .i64 x.id_, .int .i64 x.root_.dev_, .int .i64 x.root_.id_, .int .i64 x.root_.fid_, .str x.root_.path_, .str x.root_.name_, .slice (List.map Mount.pv x.mounts_)]

theorem Ns.pv_eq (x : Ns) : x.pv = .agg [.int .i64 x.id_, .int .i64 x.root_.dev_, .int .i64 x.root_.id_, .int .i64 x.root_.fid_, .str x.root_.path_, .str x.root_.name_, .slice (List.map Mount.pv x.mounts_)] := rfl

theorem Ns.inj {x y : Ns} (h : x.pv = y.pv) : x = y := by
  obtain ⟨a1, ⟨a2, a3, a4, a5, a6⟩, a7⟩ := x
  obtain ⟨b1, ⟨b2, b3, b4, b5, b6⟩, b7⟩ := y
  simp only [Ns.pv, PV.agg.injEq, List.cons.injEq, and_true] at h
  obtain ⟨h1, h2, h3, h4, h5, h6, h7⟩ := h
  cases (int_inj h1)
  cases (int_inj h2)
  cases (int_inj h3)
  cases (int_inj h4)
  cases (str_inj h5)
  cases (str_inj h6)
  cases (map_inj_of (fun _ _ => Mount.inj) (PV.slice.inj h7))
  rfl

theorem Ns.all (xs : List Ns) : ((xs.map Ns.pv).all fun z => z.cells.length == 7) = true := by
  simp [Ns.pv, PV.cells]

def pfn : FuncId → Bool := fun f => [8, 9, 10, 11, 12, 13, 14, 15, 16, 17, 18, 19, 20, 21, 22, 23, 24, 25, 28, 29, 30, 31, 32, 33, 34, 35, 36, 37, 38, 39, 42, 44, 45, 46, 48, 49, 56].contains f

end Go.Abs.U45
