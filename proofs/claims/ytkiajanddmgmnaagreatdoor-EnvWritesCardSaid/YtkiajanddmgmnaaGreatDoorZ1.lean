/- The layer 29 laws: all of the functions together. -/
import Derived.Test.YtkiajanddmgmnaaGreatDoorLG
import Derived.Test.YtkiajanddmgmnaaGreatDoorW1
import Derived.Test.YtkiajanddmgmnaaGreatDoorW2
import Derived.Test.YtkiajanddmgmnaaGreatDoorW3
import Derived.Test.YtkiajanddmgmnaaGreatDoorW4
set_option linter.unusedVariables false
set_option linter.unusedSimpArgs false
namespace Go.Abs.U2Z
open Go.RowKit Go.Proofs

def R_F65 : List AV → List AObj → List AV × List AObj → Prop := fun args H x => ∃ (l1 : List Var) (x2 : Str) (r3 : Int), F65 l1 x2 = some r3 ∧ args = [.vec 0 (List.length l1), .fn 66 [1]] ∧ H = [.row 37 3 (List.map Var.pv l1) false, .var [.pv (.str x2)]] ∧ x = ([.pv (.int .i64 r3)], [.row 37 3 (List.map Var.pv l1) false, .var [.pv (.str x2)]])

def R_F65x1 : List AV → List AObj → List AV × List AObj → Prop := fun args H x => ∃ (s1 : List Var) (x2 : Int) (r3 : Int), F65x1 s1 x2 = some r3 ∧ args = [.pv (.slice (List.map Var.pv s1)), .fn 92 [0]] ∧ H = [.var [.pv (.int .i64 x2)]] ∧ x = ([.pv (.int .i64 r3)], [.var [.pv (.int .i64 x2)]])

def R_F65x2 : List AV → List AObj → List AV × List AObj → Prop := fun args H x => ∃ (s1 : List Var) (x2 : Str) (r3 : Int), F65x2 s1 x2 = some r3 ∧ args = [.pv (.slice (List.map Var.pv s1)), .fn 66 [0]] ∧ H = [.var [.pv (.str x2)]] ∧ x = ([.pv (.int .i64 r3)], [.var [.pv (.str x2)]])

def RR_65 : List AV → List AObj → List AV × List AObj → Prop := fun args H x => R_F65 args H x ∨ R_F65x1 args H x ∨ R_F65x2 args H x

def R_F37 : List AV → List AObj → List AV × List AObj → Prop := fun args H x => ∃ (gid1 : Int) (gnext2 : Int) (name3 : Str) (l4 : List Var) (r5 : Int), F37 gid1 gnext2 name3 l4 = some r5 ∧ args = [.agg [.pv (.int .i64 gid1), .pv (.int .i64 gnext2), .vec 0 (List.length l4)], .pv (.str name3)] ∧ H = [.row 37 3 (List.map Var.pv l4) false] ∧ x = ([.pv (.int .i64 r5)], [.row 37 3 (List.map Var.pv l4) false])

def R_F37x1 : List AV → List AObj → List AV × List AObj → Prop := fun args H x => ∃ (g1 : GEnv) (name2 : Str) (r3 : Int), F37x1 g1 name2 = some r3 ∧ args = [.pv (.agg [.int .i64 g1.id_, .int .i64 g1.next_, .slice (List.map Var.pv g1.vars_)]), .pv (.str name2)] ∧ H = [] ∧ x = ([.pv (.int .i64 r3)], [])

def RR_37 : List AV → List AObj → List AV × List AObj → Prop := fun args H x => R_F37 args H x ∨ R_F37x1 args H x

def R_L_InsertE : List AV → List AObj → List AV × List AObj → Prop := fun args H x => ∃ (xs : List GEnv) (i : Int) (v : List GEnv) (r : List GEnv), L_InsertE xs i v = some r ∧ args = [.vec 0 (List.length xs), .pv (.int .i64 i), .pv (.slice (List.map GEnv.pv v))] ∧ H = [.row 34 3 (List.map GEnv.pv xs) false] ∧ x = ([.vec 0 (List.length r)], [.row 34 3 (List.map GEnv.pv r) false])

theorem q_L_InsertE (xs : List GEnv) (i : Int) (v : List GEnv) (r : List GEnv) (h : L_InsertE xs i v = some r) : chC (R_L_InsertE) [.vec 0 (List.length xs), .pv (.int .i64 i), .pv (.slice (List.map GEnv.pv v))] [.row 34 3 (List.map GEnv.pv xs) false] = some ([.vec 0 (List.length r)], [.row 34 3 (List.map GEnv.pv r) false]) := by
  refine chC_eq (⟨xs, i, v, r, h, rfl, rfl, rfl⟩) ?_
  rintro y ⟨xsp, ip, vp, rp, hp, ha, hH, rfl⟩
  simp only [List.cons.injEq, AV.pv.injEq, AV.agg.injEq, AV.vec.injEq, and_true, true_and, and_assoc] at ha
  obtain ⟨ya0, ya1, ya2⟩ := ha
  have e_i := int_inj ya1
  have e_v := map_inj_of (fun _ _ => GEnv.inj) (PV.slice.inj ya2)
  simp only [List.cons.injEq, AObj.bld.injEq, AObj.map.injEq, AObj.row.injEq, AObj.var.injEq, AV.pv.injEq, AV.vec.injEq, and_true, true_and, and_assoc] at hH
  have yb0 := hH
  have e_xs := map_inj_of (fun _ _ => GEnv.inj) yb0
  subst e_xs
  subst e_i
  subst e_v
  rw [h] at hp
  cases hp
  rfl

def R_L_DeleteV : List AV → List AObj → List AV × List AObj → Prop := fun args H x => ∃ (xs : List Var) (i : Int) (j : Int) (r : List Var) (y : List Var), L_DeleteV xs i j = some (r, y) ∧ args = [.vec 0 (List.length xs), .pv (.int .i64 i), .pv (.int .i64 j)] ∧ H = [.row 37 3 (List.map Var.pv xs) false] ∧ x = ([.pv (.slice (List.map Var.pv r))], [.row 37 3 (List.map Var.pv y) true])

theorem q_L_DeleteV (xs : List Var) (i : Int) (j : Int) (r : List Var) (y : List Var) (h : L_DeleteV xs i j = some (r, y)) : chC (R_L_DeleteV) [.vec 0 (List.length xs), .pv (.int .i64 i), .pv (.int .i64 j)] [.row 37 3 (List.map Var.pv xs) false] = some ([.pv (.slice (List.map Var.pv r))], [.row 37 3 (List.map Var.pv y) true]) := by
  refine chC_eq (⟨xs, i, j, r, y, h, rfl, rfl, rfl⟩) ?_
  rintro y ⟨xsp, ip, jp, rp, yp, hp, ha, hH, rfl⟩
  simp only [List.cons.injEq, AV.pv.injEq, AV.agg.injEq, AV.vec.injEq, and_true, true_and, and_assoc] at ha
  obtain ⟨ya0, ya1, ya2⟩ := ha
  have e_i := int_inj ya1
  have e_j := int_inj ya2
  simp only [List.cons.injEq, AObj.bld.injEq, AObj.map.injEq, AObj.row.injEq, AObj.var.injEq, AV.pv.injEq, AV.vec.injEq, and_true, true_and, and_assoc] at hH
  have yb0 := hH
  have e_xs := map_inj_of (fun _ _ => Var.inj) yb0
  subst e_xs
  subst e_i
  subst e_j
  rw [h] at hp
  cases hp
  rfl

def R_L_Clone : List AV → List AObj → List AV × List AObj → Prop := fun args H x => ∃ (xs : List Str) (l : List Str), L_Clone xs = some l ∧ args = [.pv (.slice (List.map PV.str xs))] ∧ H = [] ∧ x = ([.pv (.slice (List.map PV.str l))], [])

theorem q_L_Clone (xs : List Str) (l : List Str) (h : L_Clone xs = some l) : chC (R_L_Clone) [.pv (.slice (List.map PV.str xs))] [] = some ([.pv (.slice (List.map PV.str l))], []) := by
  refine chC_eq (⟨xs, l, h, rfl, rfl, rfl⟩) ?_
  rintro y ⟨xsp, lp, hp, ha, hH, rfl⟩
  simp only [List.cons.injEq, AV.pv.injEq, AV.agg.injEq, AV.vec.injEq, and_true, true_and, and_assoc] at ha
  have ya0 := ha
  have e_xs := map_inj_of (fun _ _ => str_inj) (PV.slice.inj ya0)
  subst e_xs
  rw [h] at hp
  cases hp
  rfl

def R_L_Repeat : List AV → List AObj → List AV × List AObj → Prop := fun args H x => ∃ (s : Str) (n : Int) (t : Str), L_Repeat s n = some t ∧ args = [.pv (.str s), .pv (.int .i64 n)] ∧ H = [] ∧ x = ([.pv (.str t)], [])

theorem q_L_Repeat (s : Str) (n : Int) (t : Str) (h : L_Repeat s n = some t) : chC (R_L_Repeat) [.pv (.str s), .pv (.int .i64 n)] [] = some ([.pv (.str t)], []) := by
  refine chC_eq (⟨s, n, t, h, rfl, rfl, rfl⟩) ?_
  rintro y ⟨sp, np, tp, hp, ha, hH, rfl⟩
  simp only [List.cons.injEq, AV.pv.injEq, AV.agg.injEq, AV.vec.injEq, and_true, true_and, and_assoc] at ha
  obtain ⟨ya0, ya1⟩ := ha
  have e_s := str_inj ya0
  have e_n := int_inj ya1
  subst e_s
  subst e_n
  rw [h] at hp
  cases hp
  rfl

def R_L_Count : List AV → List AObj → List AV × List AObj → Prop := fun args H x => ∃ (s : Str) (p : Str) (n : Int), L_Count s p = some n ∧ args = [.pv (.str s), .pv (.str p)] ∧ H = [] ∧ x = ([.pv (.int .i64 n)], [])

theorem q_L_Count (s : Str) (p : Str) (n : Int) (h : L_Count s p = some n) : chC (R_L_Count) [.pv (.str s), .pv (.str p)] [] = some ([.pv (.int .i64 n)], []) := by
  refine chC_eq (⟨s, p, n, h, rfl, rfl, rfl⟩) ?_
  rintro y ⟨sp, pp, np, hp, ha, hH, rfl⟩
  simp only [List.cons.injEq, AV.pv.injEq, AV.agg.injEq, AV.vec.injEq, and_true, true_and, and_assoc] at ha
  obtain ⟨ya0, ya1⟩ := ha
  have e_s := str_inj ya0
  have e_p := str_inj ya1
  subst e_s
  subst e_p
  rw [h] at hp
  cases hp
  rfl

def R_L_Split : List AV → List AObj → List AV × List AObj → Prop := fun args H x => ∃ (s : Str) (sep : Str) (l : List Str), L_Split s sep = some l ∧ args = [.pv (.str s), .pv (.str sep)] ∧ H = [] ∧ x = ([.pv (.slice (List.map PV.str l))], [])

theorem q_L_Split (s : Str) (sep : Str) (l : List Str) (h : L_Split s sep = some l) : chC (R_L_Split) [.pv (.str s), .pv (.str sep)] [] = some ([.pv (.slice (List.map PV.str l))], []) := by
  refine chC_eq (⟨s, sep, l, h, rfl, rfl, rfl⟩) ?_
  rintro y ⟨sp, sepp, lp, hp, ha, hH, rfl⟩
  simp only [List.cons.injEq, AV.pv.injEq, AV.agg.injEq, AV.vec.injEq, and_true, true_and, and_assoc] at ha
  obtain ⟨ya0, ya1⟩ := ha
  have e_s := str_inj ya0
  have e_sep := str_inj ya1
  subst e_s
  subst e_sep
  rw [h] at hp
  cases hp
  rfl

def R_L_CloneE : List AV → List AObj → List AV × List AObj → Prop := fun args H x => ∃ (xs : List GEnv) (l : List GEnv), L_CloneE xs = some l ∧ args = [.pv (.slice (List.map GEnv.pv xs))] ∧ H = [] ∧ x = ([.vec 0 (List.length l)], [.row 34 3 (List.map GEnv.pv l) false])

theorem q_L_CloneE (xs : List GEnv) (l : List GEnv) (h : L_CloneE xs = some l) : chC (R_L_CloneE) [.pv (.slice (List.map GEnv.pv xs))] [] = some ([.vec 0 (List.length l)], [.row 34 3 (List.map GEnv.pv l) false]) := by
  refine chC_eq (⟨xs, l, h, rfl, rfl, rfl⟩) ?_
  rintro y ⟨xsp, lp, hp, ha, hH, rfl⟩
  simp only [List.cons.injEq, AV.pv.injEq, AV.agg.injEq, AV.vec.injEq, and_true, true_and, and_assoc] at ha
  have ya0 := ha
  have e_xs := map_inj_of (fun _ _ => GEnv.inj) (PV.slice.inj ya0)
  subst e_xs
  rw [h] at hp
  cases hp
  rfl

def R_L_CloneV : List AV → List AObj → List AV × List AObj → Prop := fun args H x => ∃ (xs : List Var) (l : List Var), L_CloneV xs = some l ∧ args = [.pv (.slice (List.map Var.pv xs))] ∧ H = [] ∧ x = ([.vec 0 (List.length l)], [.row 37 3 (List.map Var.pv l) false])

theorem q_L_CloneV (xs : List Var) (l : List Var) (h : L_CloneV xs = some l) : chC (R_L_CloneV) [.pv (.slice (List.map Var.pv xs))] [] = some ([.vec 0 (List.length l)], [.row 37 3 (List.map Var.pv l) false]) := by
  refine chC_eq (⟨xs, l, h, rfl, rfl, rfl⟩) ?_
  rintro y ⟨xsp, lp, hp, ha, hH, rfl⟩
  simp only [List.cons.injEq, AV.pv.injEq, AV.agg.injEq, AV.vec.injEq, and_true, true_and, and_assoc] at ha
  have ya0 := ha
  have e_xs := map_inj_of (fun _ _ => Var.inj) (PV.slice.inj ya0)
  subst e_xs
  rw [h] at hp
  cases hp
  rfl

def R_L_SContains : List AV → List AObj → List AV × List AObj → Prop := fun args H x => ∃ (s : Str) (p : Str) (ok : Bool), L_SContains s p = some ok ∧ args = [.pv (.str s), .pv (.str p)] ∧ H = [] ∧ x = ([.pv (.bool ok)], [])

theorem q_L_SContains (s : Str) (p : Str) (ok : Bool) (h : L_SContains s p = some ok) : chC (R_L_SContains) [.pv (.str s), .pv (.str p)] [] = some ([.pv (.bool ok)], []) := by
  refine chC_eq (⟨s, p, ok, h, rfl, rfl, rfl⟩) ?_
  rintro y ⟨sp, pp, okp, hp, ha, hH, rfl⟩
  simp only [List.cons.injEq, AV.pv.injEq, AV.agg.injEq, AV.vec.injEq, and_true, true_and, and_assoc] at ha
  obtain ⟨ya0, ya1⟩ := ha
  have e_s := str_inj ya0
  have e_p := str_inj ya1
  subst e_s
  subst e_p
  rw [h] at hp
  cases hp
  rfl

def R_L_Join : List AV → List AObj → List AV × List AObj → Prop := fun args H x => ∃ (xs : List Str) (sep : Str) (s : Str), L_Join xs sep = some s ∧ args = [.pv (.slice (List.map PV.str xs)), .pv (.str sep)] ∧ H = [] ∧ x = ([.pv (.str s)], [])

theorem q_L_Join (xs : List Str) (sep : Str) (s : Str) (h : L_Join xs sep = some s) : chC (R_L_Join) [.pv (.slice (List.map PV.str xs)), .pv (.str sep)] [] = some ([.pv (.str s)], []) := by
  refine chC_eq (⟨xs, sep, s, h, rfl, rfl, rfl⟩) ?_
  rintro y ⟨xsp, sepp, sp, hp, ha, hH, rfl⟩
  simp only [List.cons.injEq, AV.pv.injEq, AV.agg.injEq, AV.vec.injEq, and_true, true_and, and_assoc] at ha
  obtain ⟨ya0, ya1⟩ := ha
  have e_xs := map_inj_of (fun _ _ => str_inj) (PV.slice.inj ya0)
  have e_sep := str_inj ya1
  subst e_xs
  subst e_sep
  rw [h] at hp
  cases hp
  rfl

def R_F9 : List AV → List AObj → List AV × List AObj → Prop := fun args H x => ∃ (l1 : List Str) (most2 : Int) (r3 : Bool), F9 l1 most2 = some r3 ∧ args = [.pv (.slice (List.map PV.str l1)), .pv (.int .i64 most2)] ∧ H = [] ∧ x = ([.pv (.bool r3)], [])

theorem q_F9 (l1 : List Str) (most2 : Int) (r3 : Bool) (h : F9 l1 most2 = some r3) : chC (R_F9) [.pv (.slice (List.map PV.str l1)), .pv (.int .i64 most2)] [] = some ([.pv (.bool r3)], []) := by
  refine chC_eq (⟨l1, most2, r3, h, rfl, rfl, rfl⟩) ?_
  rintro y ⟨l1p, most2p, r3p, hp, ha, hH, rfl⟩
  simp only [List.cons.injEq, AV.pv.injEq, AV.agg.injEq, AV.vec.injEq, and_true, true_and, and_assoc] at ha
  obtain ⟨ya0, ya1⟩ := ha
  have e_l1 := map_inj_of (fun _ _ => str_inj) (PV.slice.inj ya0)
  have e_most2 := int_inj ya1
  subst e_l1
  subst e_most2
  rw [h] at hp
  cases hp
  rfl

def R_F4 : List AV → List AObj → List AV × List AObj → Prop := fun args H x => ∃ (l1 : List GEnv) (r2 : Bool), F4 l1 = some r2 ∧ args = [.pv (.slice (List.map GEnv.pv l1))] ∧ H = [] ∧ x = ([.pv (.bool r2)], [])

theorem q_F4 (l1 : List GEnv) (r2 : Bool) (h : F4 l1 = some r2) : chC (R_F4) [.pv (.slice (List.map GEnv.pv l1))] [] = some ([.pv (.bool r2)], []) := by
  refine chC_eq (⟨l1, r2, h, rfl, rfl, rfl⟩) ?_
  rintro y ⟨l1p, r2p, hp, ha, hH, rfl⟩
  simp only [List.cons.injEq, AV.pv.injEq, AV.agg.injEq, AV.vec.injEq, and_true, true_and, and_assoc] at ha
  have ya0 := ha
  have e_l1 := map_inj_of (fun _ _ => GEnv.inj) (PV.slice.inj ya0)
  subst e_l1
  rw [h] at hp
  cases hp
  rfl

def R_F5 : List AV → List AObj → List AV × List AObj → Prop := fun args H x => ∃ (o1 : GOp) (r2 : Bool), F5 o1 = some r2 ∧ args = [.pv (.agg [.int .i64 o1.kind_, .int .i64 o1.group_, .int .i64 o1.to_, .int .i64 o1.id_, .str o1.name_, .slice (List.map PV.str o1.values_), .int .i64 o1.offset_, .str o1.data_])] ∧ H = [] ∧ x = ([.pv (.bool r2)], [])

theorem q_F5 (o1 : GOp) (r2 : Bool) (h : F5 o1 = some r2) : chC (R_F5) [.pv (.agg [.int .i64 o1.kind_, .int .i64 o1.group_, .int .i64 o1.to_, .int .i64 o1.id_, .str o1.name_, .slice (List.map PV.str o1.values_), .int .i64 o1.offset_, .str o1.data_])] [] = some ([.pv (.bool r2)], []) := by
  refine chC_eq (⟨o1, r2, h, rfl, rfl, rfl⟩) ?_
  rintro y ⟨o1p, r2p, hp, ha, hH, rfl⟩
  simp only [List.cons.injEq, AV.pv.injEq, AV.agg.injEq, AV.vec.injEq, and_true, true_and, and_assoc] at ha
  have ya0 := ha
  have e_o1 := GOp.inj (x := o1) (y := o1p) ya0
  subst e_o1
  rw [h] at hp
  cases hp
  rfl

def R_F10 : List AV → List AObj → List AV × List AObj → Prop := fun args H x => ∃ (values1 : List Str) (r2 : Str) (r3 : Int), F10 values1 = some (r2, r3) ∧ args = [.pv (.slice (List.map PV.str values1))] ∧ H = [] ∧ x = ([.pv (.str r2), .pv (.int .i64 r3)], [])

theorem q_F10 (values1 : List Str) (r2 : Str) (r3 : Int) (h : F10 values1 = some (r2, r3)) : chC (R_F10) [.pv (.slice (List.map PV.str values1))] [] = some ([.pv (.str r2), .pv (.int .i64 r3)], []) := by
  refine chC_eq (⟨values1, r2, r3, h, rfl, rfl, rfl⟩) ?_
  rintro y ⟨values1p, r2p, r3p, hp, ha, hH, rfl⟩
  simp only [List.cons.injEq, AV.pv.injEq, AV.agg.injEq, AV.vec.injEq, and_true, true_and, and_assoc] at ha
  have ya0 := ha
  have e_values1 := map_inj_of (fun _ _ => str_inj) (PV.slice.inj ya0)
  subst e_values1
  rw [h] at hp
  cases hp
  rfl

def R_F11 : List AV → List AObj → List AV × List AObj → Prop := fun args H x => ∃ (name1 : Str) (r2 : Bool), F11 name1 = some r2 ∧ args = [.pv (.str name1)] ∧ H = [] ∧ x = ([.pv (.bool r2)], [])

theorem q_F11 (name1 : Str) (r2 : Bool) (h : F11 name1 = some r2) : chC (R_F11) [.pv (.str name1)] [] = some ([.pv (.bool r2)], []) := by
  refine chC_eq (⟨name1, r2, h, rfl, rfl, rfl⟩) ?_
  rintro y ⟨name1p, r2p, hp, ha, hH, rfl⟩
  simp only [List.cons.injEq, AV.pv.injEq, AV.agg.injEq, AV.vec.injEq, and_true, true_and, and_assoc] at ha
  have ya0 := ha
  have e_name1 := str_inj ya0
  subst e_name1
  rw [h] at hp
  cases hp
  rfl

def R_F12 : List AV → List AObj → List AV × List AObj → Prop := fun args H x => ∃ (g1 : GEnv) (name2 : Str) (r3 : Int), F12 g1 name2 = some r3 ∧ args = [.pv (.agg [.int .i64 g1.id_, .int .i64 g1.next_, .slice (List.map Var.pv g1.vars_)]), .pv (.str name2)] ∧ H = [] ∧ x = ([.pv (.int .i64 r3)], [])

theorem q_F12 (g1 : GEnv) (name2 : Str) (r3 : Int) (h : F12 g1 name2 = some r3) : chC (R_F12) [.pv (.agg [.int .i64 g1.id_, .int .i64 g1.next_, .slice (List.map Var.pv g1.vars_)]), .pv (.str name2)] [] = some ([.pv (.int .i64 r3)], []) := by
  refine chC_eq (⟨g1, name2, r3, h, rfl, rfl, rfl⟩) ?_
  rintro y ⟨g1p, name2p, r3p, hp, ha, hH, rfl⟩
  simp only [List.cons.injEq, AV.pv.injEq, AV.agg.injEq, AV.vec.injEq, and_true, true_and, and_assoc] at ha
  obtain ⟨ya0, ya1⟩ := ha
  have e_g1 := GEnv.inj (x := g1) (y := g1p) ya0
  have e_name2 := str_inj ya1
  subst e_g1
  subst e_name2
  rw [h] at hp
  cases hp
  rfl

def R_F6 : List AV → List AObj → List AV × List AObj → Prop := fun args H x => ∃ (l1 : List GEnv) (r2 : Bool), F6 l1 = some r2 ∧ args = [.pv (.slice (List.map GEnv.pv l1))] ∧ H = [] ∧ x = ([.pv (.bool r2)], [])

theorem q_F6 (l1 : List GEnv) (r2 : Bool) (h : F6 l1 = some r2) : chC (R_F6) [.pv (.slice (List.map GEnv.pv l1))] [] = some ([.pv (.bool r2)], []) := by
  refine chC_eq (⟨l1, r2, h, rfl, rfl, rfl⟩) ?_
  rintro y ⟨l1p, r2p, hp, ha, hH, rfl⟩
  simp only [List.cons.injEq, AV.pv.injEq, AV.agg.injEq, AV.vec.injEq, and_true, true_and, and_assoc] at ha
  have ya0 := ha
  have e_l1 := map_inj_of (fun _ _ => GEnv.inj) (PV.slice.inj ya0)
  subst e_l1
  rw [h] at hp
  cases hp
  rfl

def R_F34 : List AV → List AObj → List AV × List AObj → Prop := fun args H x => ∃ (l1 : List Var) (r2 : List Var), F34 l1 = some r2 ∧ args = [.pv (.slice (List.map Var.pv l1))] ∧ H = [] ∧ x = ([.vec 0 (List.length r2)], [.row 37 3 (List.map Var.pv r2) false])

theorem q_F34 (l1 : List Var) (r2 : List Var) (h : F34 l1 = some r2) : chC (R_F34) [.pv (.slice (List.map Var.pv l1))] [] = some ([.vec 0 (List.length r2)], [.row 37 3 (List.map Var.pv r2) false]) := by
  refine chC_eq (⟨l1, r2, h, rfl, rfl, rfl⟩) ?_
  rintro y ⟨l1p, r2p, hp, ha, hH, rfl⟩
  simp only [List.cons.injEq, AV.pv.injEq, AV.agg.injEq, AV.vec.injEq, and_true, true_and, and_assoc] at ha
  have ya0 := ha
  have e_l1 := map_inj_of (fun _ _ => Var.inj) (PV.slice.inj ya0)
  subst e_l1
  rw [h] at hp
  cases hp
  rfl

def R_F32 : List AV → List AObj → List AV × List AObj → Prop := fun args H x => ∃ (l1 : List GEnv) (r2 : List GEnv) (m3 : Nat), F32 l1 = some (r2, m3) ∧ args = [.pv (.slice (List.map GEnv.pv l1))] ∧ H = [] ∧ x = ([.vec 0 (List.length r2)], [.tree 34 3 2 37 3 m3 (List.map GEnv.pv r2)])

theorem q_F32 (l1 : List GEnv) (r2 : List GEnv) (m3 : Nat) (h : F32 l1 = some (r2, m3)) : chC (R_F32) [.pv (.slice (List.map GEnv.pv l1))] [] = some ([.vec 0 (List.length r2)], [.tree 34 3 2 37 3 m3 (List.map GEnv.pv r2)]) := by
  refine chC_eq (⟨l1, r2, m3, h, rfl, rfl, rfl⟩) ?_
  rintro y ⟨l1p, r2p, m3p, hp, ha, hH, rfl⟩
  simp only [List.cons.injEq, AV.pv.injEq, AV.agg.injEq, AV.vec.injEq, and_true, true_and, and_assoc] at ha
  have ya0 := ha
  have e_l1 := map_inj_of (fun _ _ => GEnv.inj) (PV.slice.inj ya0)
  subst e_l1
  rw [h] at hp
  cases hp
  rfl

def R_F61 : List AV → List AObj → List AV × List AObj → Prop := fun args H x => ∃ (g1 : GEnv) (x2 : Int) (r3 : Bool), F61 g1 x2 = some r3 ∧ args = [.pv (.agg [.int .i64 g1.id_, .int .i64 g1.next_, .slice (List.map Var.pv g1.vars_)]), .ref 0 0] ∧ H = [.var [.pv (.int .i64 x2)]] ∧ x = ([.pv (.bool r3)], [.var [.pv (.int .i64 x2)]])

theorem q_F61 (g1 : GEnv) (x2 : Int) (r3 : Bool) (h : F61 g1 x2 = some r3) : chC (R_F61) [.pv (.agg [.int .i64 g1.id_, .int .i64 g1.next_, .slice (List.map Var.pv g1.vars_)]), .ref 0 0] [.var [.pv (.int .i64 x2)]] = some ([.pv (.bool r3)], [.var [.pv (.int .i64 x2)]]) := by
  refine chC_eq (⟨g1, x2, r3, h, rfl, rfl, rfl⟩) ?_
  rintro y ⟨g1p, x2p, r3p, hp, ha, hH, rfl⟩
  simp only [List.cons.injEq, AV.pv.injEq, AV.agg.injEq, AV.vec.injEq, and_true, true_and, and_assoc] at ha
  have ya0 := ha
  have e_g1 := GEnv.inj (x := g1) (y := g1p) ya0
  simp only [List.cons.injEq, AObj.bld.injEq, AObj.map.injEq, AObj.row.injEq, AObj.var.injEq, AV.pv.injEq, AV.vec.injEq, and_true, true_and, and_assoc] at hH
  have yb0 := hH
  have e_x2 := int_inj yb0
  subst e_g1
  subst e_x2
  rw [h] at hp
  cases hp
  rfl

def R_F60 : List AV → List AObj → List AV × List AObj → Prop := fun args H x => ∃ (s1 : List GEnv) (x2 : Int) (r3 : Int), F60 s1 x2 = some r3 ∧ args = [.pv (.slice (List.map GEnv.pv s1)), .fn 61 [0]] ∧ H = [.var [.pv (.int .i64 x2)]] ∧ x = ([.pv (.int .i64 r3)], [.var [.pv (.int .i64 x2)]])

theorem q_F60 (s1 : List GEnv) (x2 : Int) (r3 : Int) (h : F60 s1 x2 = some r3) : chC (R_F60) [.pv (.slice (List.map GEnv.pv s1)), .fn 61 [0]] [.var [.pv (.int .i64 x2)]] = some ([.pv (.int .i64 r3)], [.var [.pv (.int .i64 x2)]]) := by
  refine chC_eq (⟨s1, x2, r3, h, rfl, rfl, rfl⟩) ?_
  rintro y ⟨s1p, x2p, r3p, hp, ha, hH, rfl⟩
  simp only [List.cons.injEq, AV.pv.injEq, AV.agg.injEq, AV.vec.injEq, and_true, true_and, and_assoc] at ha
  have ya0 := ha
  have e_s1 := map_inj_of (fun _ _ => GEnv.inj) (PV.slice.inj ya0)
  simp only [List.cons.injEq, AObj.bld.injEq, AObj.map.injEq, AObj.row.injEq, AObj.var.injEq, AV.pv.injEq, AV.vec.injEq, and_true, true_and, and_assoc] at hH
  have yb0 := hH
  have e_x2 := int_inj yb0
  subst e_s1
  subst e_x2
  rw [h] at hp
  cases hp
  rfl

def R_F33 : List AV → List AObj → List AV × List AObj → Prop := fun args H x => ∃ (l1 : List GEnv) (group2 : Int) (r3 : Int), F33 l1 group2 = some r3 ∧ args = [.pv (.slice (List.map GEnv.pv l1)), .pv (.int .i64 group2)] ∧ H = [] ∧ x = ([.pv (.int .i64 r3)], [])

theorem q_F33 (l1 : List GEnv) (group2 : Int) (r3 : Int) (h : F33 l1 group2 = some r3) : chC (R_F33) [.pv (.slice (List.map GEnv.pv l1)), .pv (.int .i64 group2)] [] = some ([.pv (.int .i64 r3)], []) := by
  refine chC_eq (⟨l1, group2, r3, h, rfl, rfl, rfl⟩) ?_
  rintro y ⟨l1p, group2p, r3p, hp, ha, hH, rfl⟩
  simp only [List.cons.injEq, AV.pv.injEq, AV.agg.injEq, AV.vec.injEq, and_true, true_and, and_assoc] at ha
  obtain ⟨ya0, ya1⟩ := ha
  have e_l1 := map_inj_of (fun _ _ => GEnv.inj) (PV.slice.inj ya0)
  have e_group2 := int_inj ya1
  subst e_l1
  subst e_group2
  rw [h] at hp
  cases hp
  rfl

def R_F13 : List AV → List AObj → List AV × List AObj → Prop := fun args H x => ∃ (l1 : List GEnv) (group2 : Int) (to3 : Int) (r4 : List GEnv) (r5 : Int), F13 l1 group2 to3 = some (r4, r5) ∧ args = [.pv (.slice (List.map GEnv.pv l1)), .pv (.int .i64 group2), .pv (.int .i64 to3)] ∧ H = [] ∧ x = ([.pv (.slice (List.map GEnv.pv r4)), .pv (.int .i64 r5)], [])

theorem q_F13 (l1 : List GEnv) (group2 : Int) (to3 : Int) (r4 : List GEnv) (r5 : Int) (h : F13 l1 group2 to3 = some (r4, r5)) : chC (R_F13) [.pv (.slice (List.map GEnv.pv l1)), .pv (.int .i64 group2), .pv (.int .i64 to3)] [] = some ([.pv (.slice (List.map GEnv.pv r4)), .pv (.int .i64 r5)], []) := by
  refine chC_eq (⟨l1, group2, to3, r4, r5, h, rfl, rfl, rfl⟩) ?_
  rintro y ⟨l1p, group2p, to3p, r4p, r5p, hp, ha, hH, rfl⟩
  simp only [List.cons.injEq, AV.pv.injEq, AV.agg.injEq, AV.vec.injEq, and_true, true_and, and_assoc] at ha
  obtain ⟨ya0, ya1, ya2⟩ := ha
  have e_l1 := map_inj_of (fun _ _ => GEnv.inj) (PV.slice.inj ya0)
  have e_group2 := int_inj ya1
  have e_to3 := int_inj ya2
  subst e_l1
  subst e_group2
  subst e_to3
  rw [h] at hp
  cases hp
  rfl

def R_F36 : List AV → List AObj → List AV × List AObj → Prop := fun args H x => ∃ (name1 : Str) (r2 : Bool), F36 name1 = some r2 ∧ args = [.pv (.str name1)] ∧ H = [] ∧ x = ([.pv (.bool r2)], [])

theorem q_F36 (name1 : Str) (r2 : Bool) (h : F36 name1 = some r2) : chC (R_F36) [.pv (.str name1)] [] = some ([.pv (.bool r2)], []) := by
  refine chC_eq (⟨name1, r2, h, rfl, rfl, rfl⟩) ?_
  rintro y ⟨name1p, r2p, hp, ha, hH, rfl⟩
  simp only [List.cons.injEq, AV.pv.injEq, AV.agg.injEq, AV.vec.injEq, and_true, true_and, and_assoc] at ha
  have ya0 := ha
  have e_name1 := str_inj ya0
  subst e_name1
  rw [h] at hp
  cases hp
  rfl

def R_F66 : List AV → List AObj → List AV × List AObj → Prop := fun args H x => ∃ (v1 : Var) (x2 : Str) (r3 : Bool), F66 v1 x2 = some r3 ∧ args = [.pv (.agg [.int .i64 v1.id_, .str v1.name_, .slice (List.map PV.str v1.values_)]), .ref 0 0] ∧ H = [.var [.pv (.str x2)]] ∧ x = ([.pv (.bool r3)], [.var [.pv (.str x2)]])

theorem q_F66 (v1 : Var) (x2 : Str) (r3 : Bool) (h : F66 v1 x2 = some r3) : chC (R_F66) [.pv (.agg [.int .i64 v1.id_, .str v1.name_, .slice (List.map PV.str v1.values_)]), .ref 0 0] [.var [.pv (.str x2)]] = some ([.pv (.bool r3)], [.var [.pv (.str x2)]]) := by
  refine chC_eq (⟨v1, x2, r3, h, rfl, rfl, rfl⟩) ?_
  rintro y ⟨v1p, x2p, r3p, hp, ha, hH, rfl⟩
  simp only [List.cons.injEq, AV.pv.injEq, AV.agg.injEq, AV.vec.injEq, and_true, true_and, and_assoc] at ha
  have ya0 := ha
  have e_v1 := Var.inj (x := v1) (y := v1p) ya0
  simp only [List.cons.injEq, AObj.bld.injEq, AObj.map.injEq, AObj.row.injEq, AObj.var.injEq, AV.pv.injEq, AV.vec.injEq, and_true, true_and, and_assoc] at hH
  have yb0 := hH
  have e_x2 := str_inj yb0
  subst e_v1
  subst e_x2
  rw [h] at hp
  cases hp
  rfl

def R_F68 : List AV → List AObj → List AV × List AObj → Prop := fun args H x => ∃ (v1 : Str) (r2 : Bool), F68 v1 = some r2 ∧ args = [.pv (.str v1)] ∧ H = [] ∧ x = ([.pv (.bool r2)], [])

theorem q_F68 (v1 : Str) (r2 : Bool) (h : F68 v1 = some r2) : chC (R_F68) [.pv (.str v1)] [] = some ([.pv (.bool r2)], []) := by
  refine chC_eq (⟨v1, r2, h, rfl, rfl, rfl⟩) ?_
  rintro y ⟨v1p, r2p, hp, ha, hH, rfl⟩
  simp only [List.cons.injEq, AV.pv.injEq, AV.agg.injEq, AV.vec.injEq, and_true, true_and, and_assoc] at ha
  have ya0 := ha
  have e_v1 := str_inj ya0
  subst e_v1
  rw [h] at hp
  cases hp
  rfl

def R_F84 : List AV → List AObj → List AV × List AObj → Prop := fun args H x => ∃ (s1 : List Str) (r2 : Int), F84 s1 = some r2 ∧ args = [.pv (.slice (List.map PV.str s1)), .fn 68 []] ∧ H = [] ∧ x = ([.pv (.int .i64 r2)], [])

theorem q_F84 (s1 : List Str) (r2 : Int) (h : F84 s1 = some r2) : chC (R_F84) [.pv (.slice (List.map PV.str s1)), .fn 68 []] [] = some ([.pv (.int .i64 r2)], []) := by
  refine chC_eq (⟨s1, r2, h, rfl, rfl, rfl⟩) ?_
  rintro y ⟨s1p, r2p, hp, ha, hH, rfl⟩
  simp only [List.cons.injEq, AV.pv.injEq, AV.agg.injEq, AV.vec.injEq, and_true, true_and, and_assoc] at ha
  have ya0 := ha
  have e_s1 := map_inj_of (fun _ _ => str_inj) (PV.slice.inj ya0)
  subst e_s1
  rw [h] at hp
  cases hp
  rfl

def R_F67 : List AV → List AObj → List AV × List AObj → Prop := fun args H x => ∃ (s1 : List Str) (r2 : Bool), F67 s1 = some r2 ∧ args = [.pv (.slice (List.map PV.str s1)), .fn 68 []] ∧ H = [] ∧ x = ([.pv (.bool r2)], [])

theorem q_F67 (s1 : List Str) (r2 : Bool) (h : F67 s1 = some r2) : chC (R_F67) [.pv (.slice (List.map PV.str s1)), .fn 68 []] [] = some ([.pv (.bool r2)], []) := by
  refine chC_eq (⟨s1, r2, h, rfl, rfl, rfl⟩) ?_
  rintro y ⟨s1p, r2p, hp, ha, hH, rfl⟩
  simp only [List.cons.injEq, AV.pv.injEq, AV.agg.injEq, AV.vec.injEq, and_true, true_and, and_assoc] at ha
  have ya0 := ha
  have e_s1 := map_inj_of (fun _ _ => str_inj) (PV.slice.inj ya0)
  subst e_s1
  rw [h] at hp
  cases hp
  rfl

def R_F39 : List AV → List AObj → List AV × List AObj → Prop := fun args H x => ∃ (values1 : List Str) (r2 : Str) (r3 : Int), F39 values1 = some (r2, r3) ∧ args = [.pv (.slice (List.map PV.str values1))] ∧ H = [] ∧ x = ([.pv (.str r2), .pv (.int .i64 r3)], [])

theorem q_F39 (values1 : List Str) (r2 : Str) (r3 : Int) (h : F39 values1 = some (r2, r3)) : chC (R_F39) [.pv (.slice (List.map PV.str values1))] [] = some ([.pv (.str r2), .pv (.int .i64 r3)], []) := by
  refine chC_eq (⟨values1, r2, r3, h, rfl, rfl, rfl⟩) ?_
  rintro y ⟨values1p, r2p, r3p, hp, ha, hH, rfl⟩
  simp only [List.cons.injEq, AV.pv.injEq, AV.agg.injEq, AV.vec.injEq, and_true, true_and, and_assoc] at ha
  have ya0 := ha
  have e_values1 := map_inj_of (fun _ _ => str_inj) (PV.slice.inj ya0)
  subst e_values1
  rw [h] at hp
  cases hp
  rfl

def R_F41 : List AV → List AObj → List AV × List AObj → Prop := fun args H x => ∃ (g1 : GEnv) (name2 : Str) (values3 : List Str) (r4 : GEnv) (r5 : Int), F41 g1 name2 values3 = some (r4, r5) ∧ args = [.pv (.agg [.int .i64 g1.id_, .int .i64 g1.next_, .slice (List.map Var.pv g1.vars_)]), .pv (.str name2), .pv (.slice (List.map PV.str values3))] ∧ H = [] ∧ x = ([.pv (.agg [.int .i64 r4.id_, .int .i64 r4.next_, .slice (List.map Var.pv r4.vars_)]), .pv (.int .i64 r5)], [])

theorem q_F41 (g1 : GEnv) (name2 : Str) (values3 : List Str) (r4 : GEnv) (r5 : Int) (h : F41 g1 name2 values3 = some (r4, r5)) : chC (R_F41) [.pv (.agg [.int .i64 g1.id_, .int .i64 g1.next_, .slice (List.map Var.pv g1.vars_)]), .pv (.str name2), .pv (.slice (List.map PV.str values3))] [] = some ([.pv (.agg [.int .i64 r4.id_, .int .i64 r4.next_, .slice (List.map Var.pv r4.vars_)]), .pv (.int .i64 r5)], []) := by
  refine chC_eq (⟨g1, name2, values3, r4, r5, h, rfl, rfl, rfl⟩) ?_
  rintro y ⟨g1p, name2p, values3p, r4p, r5p, hp, ha, hH, rfl⟩
  simp only [List.cons.injEq, AV.pv.injEq, AV.agg.injEq, AV.vec.injEq, and_true, true_and, and_assoc] at ha
  obtain ⟨ya0, ya1, ya2⟩ := ha
  have e_g1 := GEnv.inj (x := g1) (y := g1p) ya0
  have e_name2 := str_inj ya1
  have e_values3 := map_inj_of (fun _ _ => str_inj) (PV.slice.inj ya2)
  subst e_g1
  subst e_name2
  subst e_values3
  rw [h] at hp
  cases hp
  rfl

def R_F92 : List AV → List AObj → List AV × List AObj → Prop := fun args H x => ∃ (v1 : Var) (x2 : Int) (r3 : Bool), F92 v1 x2 = some r3 ∧ args = [.pv (.agg [.int .i64 v1.id_, .str v1.name_, .slice (List.map PV.str v1.values_)]), .ref 0 0] ∧ H = [.var [.pv (.int .i64 x2)]] ∧ x = ([.pv (.bool r3)], [.var [.pv (.int .i64 x2)]])

theorem q_F92 (v1 : Var) (x2 : Int) (r3 : Bool) (h : F92 v1 x2 = some r3) : chC (R_F92) [.pv (.agg [.int .i64 v1.id_, .str v1.name_, .slice (List.map PV.str v1.values_)]), .ref 0 0] [.var [.pv (.int .i64 x2)]] = some ([.pv (.bool r3)], [.var [.pv (.int .i64 x2)]]) := by
  refine chC_eq (⟨v1, x2, r3, h, rfl, rfl, rfl⟩) ?_
  rintro y ⟨v1p, x2p, r3p, hp, ha, hH, rfl⟩
  simp only [List.cons.injEq, AV.pv.injEq, AV.agg.injEq, AV.vec.injEq, and_true, true_and, and_assoc] at ha
  have ya0 := ha
  have e_v1 := Var.inj (x := v1) (y := v1p) ya0
  simp only [List.cons.injEq, AObj.bld.injEq, AObj.map.injEq, AObj.row.injEq, AObj.var.injEq, AV.pv.injEq, AV.vec.injEq, and_true, true_and, and_assoc] at hH
  have yb0 := hH
  have e_x2 := int_inj yb0
  subst e_v1
  subst e_x2
  rw [h] at hp
  cases hp
  rfl

theorem q_F65 (l1 : List Var) (x2 : Str) (r3 : Int) (h : F65 l1 x2 = some r3) : chC (RR_65) [.vec 0 (List.length l1), .fn 66 [1]] [.row 37 3 (List.map Var.pv l1) false, .var [.pv (.str x2)]] = some ([.pv (.int .i64 r3)], [.row 37 3 (List.map Var.pv l1) false, .var [.pv (.str x2)]]) := by
  refine chC_eq (.inl ⟨l1, x2, r3, h, rfl, rfl, rfl⟩) ?_
  rintro y (⟨l1p, x2p, r3p, hp, ha, hH, rfl⟩ | ⟨_, _, _, _, ha, hH, _⟩ | ⟨_, _, _, _, ha, hH, _⟩)
  · simp only [List.cons.injEq, AV.pv.injEq, AV.agg.injEq, AV.vec.injEq, and_true, true_and, and_assoc] at ha
    have ya0 := ha
    simp only [List.cons.injEq, AObj.bld.injEq, AObj.map.injEq, AObj.row.injEq, AObj.var.injEq, AV.pv.injEq, AV.vec.injEq, and_true, true_and, and_assoc] at hH
    obtain ⟨yb0, yb1⟩ := hH
    have e_l1 := map_inj_of (fun _ _ => Var.inj) yb0
    have e_x2 := str_inj yb1
    subst e_l1
    subst e_x2
    rw [h] at hp
    cases hp
    rfl
  · first | (cases ha; done) | (cases hH; done) | (simp at ha; done) | (simp at hH; done)
  · first | (cases ha; done) | (cases hH; done) | (simp at ha; done) | (simp at hH; done)

theorem q_F65x1 (s1 : List Var) (x2 : Int) (r3 : Int) (h : F65x1 s1 x2 = some r3) : chC (RR_65) [.pv (.slice (List.map Var.pv s1)), .fn 92 [0]] [.var [.pv (.int .i64 x2)]] = some ([.pv (.int .i64 r3)], [.var [.pv (.int .i64 x2)]]) := by
  refine chC_eq (.inr (.inl ⟨s1, x2, r3, h, rfl, rfl, rfl⟩)) ?_
  rintro y (⟨_, _, _, _, ha, hH, _⟩ | ⟨s1p, x2p, r3p, hp, ha, hH, rfl⟩ | ⟨_, _, _, _, ha, hH, _⟩)
  · first | (cases ha; done) | (cases hH; done) | (simp at ha; done) | (simp at hH; done)
  · simp only [List.cons.injEq, AV.pv.injEq, AV.agg.injEq, AV.vec.injEq, and_true, true_and, and_assoc] at ha
    have ya0 := ha
    have e_s1 := map_inj_of (fun _ _ => Var.inj) (PV.slice.inj ya0)
    simp only [List.cons.injEq, AObj.bld.injEq, AObj.map.injEq, AObj.row.injEq, AObj.var.injEq, AV.pv.injEq, AV.vec.injEq, and_true, true_and, and_assoc] at hH
    have yb0 := hH
    have e_x2 := int_inj yb0
    subst e_s1
    subst e_x2
    rw [h] at hp
    cases hp
    rfl
  · first | (cases ha; done) | (cases hH; done) | (simp at ha; done) | (simp at hH; done)

theorem q_F65x2 (s1 : List Var) (x2 : Str) (r3 : Int) (h : F65x2 s1 x2 = some r3) : chC (RR_65) [.pv (.slice (List.map Var.pv s1)), .fn 66 [0]] [.var [.pv (.str x2)]] = some ([.pv (.int .i64 r3)], [.var [.pv (.str x2)]]) := by
  refine chC_eq (.inr (.inr (⟨s1, x2, r3, h, rfl, rfl, rfl⟩))) ?_
  rintro y (⟨_, _, _, _, ha, hH, _⟩ | ⟨_, _, _, _, ha, hH, _⟩ | ⟨s1p, x2p, r3p, hp, ha, hH, rfl⟩)
  · first | (cases ha; done) | (cases hH; done) | (simp at ha; done) | (simp at hH; done)
  · first | (cases ha; done) | (cases hH; done) | (simp at ha; done) | (simp at hH; done)
  · simp only [List.cons.injEq, AV.pv.injEq, AV.agg.injEq, AV.vec.injEq, and_true, true_and, and_assoc] at ha
    have ya0 := ha
    have e_s1 := map_inj_of (fun _ _ => Var.inj) (PV.slice.inj ya0)
    simp only [List.cons.injEq, AObj.bld.injEq, AObj.map.injEq, AObj.row.injEq, AObj.var.injEq, AV.pv.injEq, AV.vec.injEq, and_true, true_and, and_assoc] at hH
    have yb0 := hH
    have e_x2 := str_inj yb0
    subst e_s1
    subst e_x2
    rw [h] at hp
    cases hp
    rfl

theorem q_F37 (gid1 : Int) (gnext2 : Int) (name3 : Str) (l4 : List Var) (r5 : Int) (h : F37 gid1 gnext2 name3 l4 = some r5) : chC (RR_37) [.agg [.pv (.int .i64 gid1), .pv (.int .i64 gnext2), .vec 0 (List.length l4)], .pv (.str name3)] [.row 37 3 (List.map Var.pv l4) false] = some ([.pv (.int .i64 r5)], [.row 37 3 (List.map Var.pv l4) false]) := by
  refine chC_eq (.inl ⟨gid1, gnext2, name3, l4, r5, h, rfl, rfl, rfl⟩) ?_
  rintro y (⟨gid1p, gnext2p, name3p, l4p, r5p, hp, ha, hH, rfl⟩ | ⟨_, _, _, _, ha, hH, _⟩)
  · simp only [List.cons.injEq, AV.pv.injEq, AV.agg.injEq, AV.vec.injEq, and_true, true_and, and_assoc] at ha
    obtain ⟨ya0, ya1, ya2, ya3⟩ := ha
    have e_gid1 := int_inj ya0
    have e_gnext2 := int_inj ya1
    have e_name3 := str_inj ya3
    simp only [List.cons.injEq, AObj.bld.injEq, AObj.map.injEq, AObj.row.injEq, AObj.var.injEq, AV.pv.injEq, AV.vec.injEq, and_true, true_and, and_assoc] at hH
    have yb0 := hH
    have e_l4 := map_inj_of (fun _ _ => Var.inj) yb0
    subst e_gid1
    subst e_gnext2
    subst e_name3
    subst e_l4
    rw [h] at hp
    cases hp
    rfl
  · first | (cases ha; done) | (cases hH; done) | (simp at ha; done) | (simp at hH; done)

theorem q_F37x1 (g1 : GEnv) (name2 : Str) (r3 : Int) (h : F37x1 g1 name2 = some r3) : chC (RR_37) [.pv (.agg [.int .i64 g1.id_, .int .i64 g1.next_, .slice (List.map Var.pv g1.vars_)]), .pv (.str name2)] [] = some ([.pv (.int .i64 r3)], []) := by
  refine chC_eq (.inr (⟨g1, name2, r3, h, rfl, rfl, rfl⟩)) ?_
  rintro y (⟨_, _, _, _, _, _, ha, hH, _⟩ | ⟨g1p, name2p, r3p, hp, ha, hH, rfl⟩)
  · first | (cases ha; done) | (cases hH; done) | (simp at ha; done) | (simp at hH; done)
  · simp only [List.cons.injEq, AV.pv.injEq, AV.agg.injEq, AV.vec.injEq, and_true, true_and, and_assoc] at ha
    obtain ⟨ya0, ya1⟩ := ha
    have e_g1 := GEnv.inj (x := g1) (y := g1p) ya0
    have e_name2 := str_inj ya1
    subst e_g1
    subst e_name2
    rw [h] at hp
    cases hp
    rfl

def R_F14 : List AV → List AObj → List AV × List AObj → Prop := fun args H x => ∃ (l1 : List GEnv) (group2 : Int) (name3 : Str) (values4 : List Str) (r5 : List GEnv) (r6 : Int), F14 l1 group2 name3 values4 = some (r5, r6) ∧ args = [.pv (.slice (List.map GEnv.pv l1)), .pv (.int .i64 group2), .pv (.str name3), .pv (.slice (List.map PV.str values4))] ∧ H = [] ∧ x = ([.pv (.slice (List.map GEnv.pv r5)), .pv (.int .i64 r6)], [])

theorem q_F14 (l1 : List GEnv) (group2 : Int) (name3 : Str) (values4 : List Str) (r5 : List GEnv) (r6 : Int) (h : F14 l1 group2 name3 values4 = some (r5, r6)) : chC (R_F14) [.pv (.slice (List.map GEnv.pv l1)), .pv (.int .i64 group2), .pv (.str name3), .pv (.slice (List.map PV.str values4))] [] = some ([.pv (.slice (List.map GEnv.pv r5)), .pv (.int .i64 r6)], []) := by
  refine chC_eq (⟨l1, group2, name3, values4, r5, r6, h, rfl, rfl, rfl⟩) ?_
  rintro y ⟨l1p, group2p, name3p, values4p, r5p, r6p, hp, ha, hH, rfl⟩
  simp only [List.cons.injEq, AV.pv.injEq, AV.agg.injEq, AV.vec.injEq, and_true, true_and, and_assoc] at ha
  obtain ⟨ya0, ya1, ya2, ya3⟩ := ha
  have e_l1 := map_inj_of (fun _ _ => GEnv.inj) (PV.slice.inj ya0)
  have e_group2 := int_inj ya1
  have e_name3 := str_inj ya2
  have e_values4 := map_inj_of (fun _ _ => str_inj) (PV.slice.inj ya3)
  subst e_l1
  subst e_group2
  subst e_name3
  subst e_values4
  rw [h] at hp
  cases hp
  rfl

def R_F82 : List AV → List AObj → List AV × List AObj → Prop := fun args H x => ∃ (g1 : GEnv) (id2 : Int) (r3 : Int), F82 g1 id2 = some r3 ∧ args = [.pv (.agg [.int .i64 g1.id_, .int .i64 g1.next_, .slice (List.map Var.pv g1.vars_)]), .pv (.int .i64 id2)] ∧ H = [] ∧ x = ([.pv (.int .i64 r3)], [])

theorem q_F82 (g1 : GEnv) (id2 : Int) (r3 : Int) (h : F82 g1 id2 = some r3) : chC (R_F82) [.pv (.agg [.int .i64 g1.id_, .int .i64 g1.next_, .slice (List.map Var.pv g1.vars_)]), .pv (.int .i64 id2)] [] = some ([.pv (.int .i64 r3)], []) := by
  refine chC_eq (⟨g1, id2, r3, h, rfl, rfl, rfl⟩) ?_
  rintro y ⟨g1p, id2p, r3p, hp, ha, hH, rfl⟩
  simp only [List.cons.injEq, AV.pv.injEq, AV.agg.injEq, AV.vec.injEq, and_true, true_and, and_assoc] at ha
  obtain ⟨ya0, ya1⟩ := ha
  have e_g1 := GEnv.inj (x := g1) (y := g1p) ya0
  have e_id2 := int_inj ya1
  subst e_g1
  subst e_id2
  rw [h] at hp
  cases hp
  rfl

def R_F58 : List AV → List AObj → List AV × List AObj → Prop := fun args H x => ∃ (l1 : List GEnv) (group2 : Int) (id3 : Int) (r4 : Int) (r5 : Int) (r6 : Int), F58 l1 group2 id3 = some (r4, r5, r6) ∧ args = [.pv (.slice (List.map GEnv.pv l1)), .pv (.int .i64 group2), .pv (.int .i64 id3)] ∧ H = [] ∧ x = ([.pv (.int .i64 r4), .pv (.int .i64 r5), .pv (.int .i64 r6)], [])

theorem q_F58 (l1 : List GEnv) (group2 : Int) (id3 : Int) (r4 : Int) (r5 : Int) (r6 : Int) (h : F58 l1 group2 id3 = some (r4, r5, r6)) : chC (R_F58) [.pv (.slice (List.map GEnv.pv l1)), .pv (.int .i64 group2), .pv (.int .i64 id3)] [] = some ([.pv (.int .i64 r4), .pv (.int .i64 r5), .pv (.int .i64 r6)], []) := by
  refine chC_eq (⟨l1, group2, id3, r4, r5, r6, h, rfl, rfl, rfl⟩) ?_
  rintro y ⟨l1p, group2p, id3p, r4p, r5p, r6p, hp, ha, hH, rfl⟩
  simp only [List.cons.injEq, AV.pv.injEq, AV.agg.injEq, AV.vec.injEq, and_true, true_and, and_assoc] at ha
  obtain ⟨ya0, ya1, ya2⟩ := ha
  have e_l1 := map_inj_of (fun _ _ => GEnv.inj) (PV.slice.inj ya0)
  have e_group2 := int_inj ya1
  have e_id3 := int_inj ya2
  subst e_l1
  subst e_group2
  subst e_id3
  rw [h] at hp
  cases hp
  rfl

def R_F42 : List AV → List AObj → List AV × List AObj → Prop := fun args H x => ∃ (l1 : List GEnv) (group2 : Int) (id3 : Int) (r4 : Int) (r5 : Int) (r6 : Int), F42 l1 group2 id3 = some (r4, r5, r6) ∧ args = [.pv (.slice (List.map GEnv.pv l1)), .pv (.int .i64 group2), .pv (.int .i64 id3)] ∧ H = [] ∧ x = ([.pv (.int .i64 r4), .pv (.int .i64 r5), .pv (.int .i64 r6)], [])

theorem q_F42 (l1 : List GEnv) (group2 : Int) (id3 : Int) (r4 : Int) (r5 : Int) (r6 : Int) (h : F42 l1 group2 id3 = some (r4, r5, r6)) : chC (R_F42) [.pv (.slice (List.map GEnv.pv l1)), .pv (.int .i64 group2), .pv (.int .i64 id3)] [] = some ([.pv (.int .i64 r4), .pv (.int .i64 r5), .pv (.int .i64 r6)], []) := by
  refine chC_eq (⟨l1, group2, id3, r4, r5, r6, h, rfl, rfl, rfl⟩) ?_
  rintro y ⟨l1p, group2p, id3p, r4p, r5p, r6p, hp, ha, hH, rfl⟩
  simp only [List.cons.injEq, AV.pv.injEq, AV.agg.injEq, AV.vec.injEq, and_true, true_and, and_assoc] at ha
  obtain ⟨ya0, ya1, ya2⟩ := ha
  have e_l1 := map_inj_of (fun _ _ => GEnv.inj) (PV.slice.inj ya0)
  have e_group2 := int_inj ya1
  have e_id3 := int_inj ya2
  subst e_l1
  subst e_group2
  subst e_id3
  rw [h] at hp
  cases hp
  rfl

def R_F43 : List AV → List AObj → List AV × List AObj → Prop := fun args H x => ∃ (v1 : Var) (r2 : Str), F43 v1 = some r2 ∧ args = [.pv (.agg [.int .i64 v1.id_, .str v1.name_, .slice (List.map PV.str v1.values_)])] ∧ H = [] ∧ x = ([.pv (.str r2)], [])

theorem q_F43 (v1 : Var) (r2 : Str) (h : F43 v1 = some r2) : chC (R_F43) [.pv (.agg [.int .i64 v1.id_, .str v1.name_, .slice (List.map PV.str v1.values_)])] [] = some ([.pv (.str r2)], []) := by
  refine chC_eq (⟨v1, r2, h, rfl, rfl, rfl⟩) ?_
  rintro y ⟨v1p, r2p, hp, ha, hH, rfl⟩
  simp only [List.cons.injEq, AV.pv.injEq, AV.agg.injEq, AV.vec.injEq, and_true, true_and, and_assoc] at ha
  have ya0 := ha
  have e_v1 := Var.inj (x := v1) (y := v1p) ya0
  subst e_v1
  rw [h] at hp
  cases hp
  rfl

def R_F15 : List AV → List AObj → List AV × List AObj → Prop := fun args H x => ∃ (l1 : List GEnv) (group2 : Int) (id3 : Int) (offset4 : Int) (count5 : Int) (r6 : Str) (r7 : Int), F15 l1 group2 id3 offset4 count5 = some (r6, r7) ∧ args = [.pv (.slice (List.map GEnv.pv l1)), .pv (.int .i64 group2), .pv (.int .i64 id3), .pv (.int .i64 offset4), .pv (.int .i64 count5)] ∧ H = [] ∧ x = ([.pv (.str r6), .pv (.int .i64 r7)], [])

theorem q_F15 (l1 : List GEnv) (group2 : Int) (id3 : Int) (offset4 : Int) (count5 : Int) (r6 : Str) (r7 : Int) (h : F15 l1 group2 id3 offset4 count5 = some (r6, r7)) : chC (R_F15) [.pv (.slice (List.map GEnv.pv l1)), .pv (.int .i64 group2), .pv (.int .i64 id3), .pv (.int .i64 offset4), .pv (.int .i64 count5)] [] = some ([.pv (.str r6), .pv (.int .i64 r7)], []) := by
  refine chC_eq (⟨l1, group2, id3, offset4, count5, r6, r7, h, rfl, rfl, rfl⟩) ?_
  rintro y ⟨l1p, group2p, id3p, offset4p, count5p, r6p, r7p, hp, ha, hH, rfl⟩
  simp only [List.cons.injEq, AV.pv.injEq, AV.agg.injEq, AV.vec.injEq, and_true, true_and, and_assoc] at ha
  obtain ⟨ya0, ya1, ya2, ya3, ya4⟩ := ha
  have e_l1 := map_inj_of (fun _ _ => GEnv.inj) (PV.slice.inj ya0)
  have e_group2 := int_inj ya1
  have e_id3 := int_inj ya2
  have e_offset4 := int_inj ya3
  have e_count5 := int_inj ya4
  subst e_l1
  subst e_group2
  subst e_id3
  subst e_offset4
  subst e_count5
  rw [h] at hp
  cases hp
  rfl

def R_F19 : List AV → List AObj → List AV × List AObj → Prop := fun args H x => ∃ (s1 : Str) (r2 : List Str) (r3 : Int), F19 s1 = some (r2, r3) ∧ args = [.pv (.str s1)] ∧ H = [] ∧ x = ([.pv (.slice (List.map PV.str r2)), .pv (.int .i64 r3)], [])

theorem q_F19 (s1 : Str) (r2 : List Str) (r3 : Int) (h : F19 s1 = some (r2, r3)) : chC (R_F19) [.pv (.str s1)] [] = some ([.pv (.slice (List.map PV.str r2)), .pv (.int .i64 r3)], []) := by
  refine chC_eq (⟨s1, r2, r3, h, rfl, rfl, rfl⟩) ?_
  rintro y ⟨s1p, r2p, r3p, hp, ha, hH, rfl⟩
  simp only [List.cons.injEq, AV.pv.injEq, AV.agg.injEq, AV.vec.injEq, and_true, true_and, and_assoc] at ha
  have ya0 := ha
  have e_s1 := str_inj ya0
  subst e_s1
  rw [h] at hp
  cases hp
  rfl

def R_F16 : List AV → List AObj → List AV × List AObj → Prop := fun args H x => ∃ (l1 : List GEnv) (group2 : Int) (id3 : Int) (offset4 : Int) (data5 : Str) (r6 : List GEnv) (r7 : Int) (r8 : Int), F16 l1 group2 id3 offset4 data5 = some (r6, r7, r8) ∧ args = [.pv (.slice (List.map GEnv.pv l1)), .pv (.int .i64 group2), .pv (.int .i64 id3), .pv (.int .i64 offset4), .pv (.str data5)] ∧ H = [] ∧ x = ([.pv (.slice (List.map GEnv.pv r6)), .pv (.int .i64 r7), .pv (.int .i64 r8)], [])

theorem q_F16 (l1 : List GEnv) (group2 : Int) (id3 : Int) (offset4 : Int) (data5 : Str) (r6 : List GEnv) (r7 : Int) (r8 : Int) (h : F16 l1 group2 id3 offset4 data5 = some (r6, r7, r8)) : chC (R_F16) [.pv (.slice (List.map GEnv.pv l1)), .pv (.int .i64 group2), .pv (.int .i64 id3), .pv (.int .i64 offset4), .pv (.str data5)] [] = some ([.pv (.slice (List.map GEnv.pv r6)), .pv (.int .i64 r7), .pv (.int .i64 r8)], []) := by
  refine chC_eq (⟨l1, group2, id3, offset4, data5, r6, r7, r8, h, rfl, rfl, rfl⟩) ?_
  rintro y ⟨l1p, group2p, id3p, offset4p, data5p, r6p, r7p, r8p, hp, ha, hH, rfl⟩
  simp only [List.cons.injEq, AV.pv.injEq, AV.agg.injEq, AV.vec.injEq, and_true, true_and, and_assoc] at ha
  obtain ⟨ya0, ya1, ya2, ya3, ya4⟩ := ha
  have e_l1 := map_inj_of (fun _ _ => GEnv.inj) (PV.slice.inj ya0)
  have e_group2 := int_inj ya1
  have e_id3 := int_inj ya2
  have e_offset4 := int_inj ya3
  have e_data5 := str_inj ya4
  subst e_l1
  subst e_group2
  subst e_id3
  subst e_offset4
  subst e_data5
  rw [h] at hp
  cases hp
  rfl

def R_F17 : List AV → List AObj → List AV × List AObj → Prop := fun args H x => ∃ (l1 : List GEnv) (group2 : Int) (name3 : Str) (r4 : List Str) (r5 : Bool), F17 l1 group2 name3 = some (r4, r5) ∧ args = [.pv (.slice (List.map GEnv.pv l1)), .pv (.int .i64 group2), .pv (.str name3)] ∧ H = [] ∧ x = ([.pv (.slice (List.map PV.str r4)), .pv (.bool r5)], [])

theorem q_F17 (l1 : List GEnv) (group2 : Int) (name3 : Str) (r4 : List Str) (r5 : Bool) (h : F17 l1 group2 name3 = some (r4, r5)) : chC (R_F17) [.pv (.slice (List.map GEnv.pv l1)), .pv (.int .i64 group2), .pv (.str name3)] [] = some ([.pv (.slice (List.map PV.str r4)), .pv (.bool r5)], []) := by
  refine chC_eq (⟨l1, group2, name3, r4, r5, h, rfl, rfl, rfl⟩) ?_
  rintro y ⟨l1p, group2p, name3p, r4p, r5p, hp, ha, hH, rfl⟩
  simp only [List.cons.injEq, AV.pv.injEq, AV.agg.injEq, AV.vec.injEq, and_true, true_and, and_assoc] at ha
  obtain ⟨ya0, ya1, ya2⟩ := ha
  have e_l1 := map_inj_of (fun _ _ => GEnv.inj) (PV.slice.inj ya0)
  have e_group2 := int_inj ya1
  have e_name3 := str_inj ya2
  subst e_l1
  subst e_group2
  subst e_name3
  rw [h] at hp
  cases hp
  rfl

def R_F45 : List AV → List AObj → List AV × List AObj → Prop := fun args H x => ∃ (l1 : List GEnv) (group2 : Int) (id3 : Int) (r4 : Int) (r5 : Int), F45 l1 group2 id3 = some (r4, r5) ∧ args = [.pv (.slice (List.map GEnv.pv l1)), .pv (.int .i64 group2), .pv (.int .i64 id3)] ∧ H = [] ∧ x = ([.pv (.int .i64 r4), .pv (.int .i64 r5)], [])

theorem q_F45 (l1 : List GEnv) (group2 : Int) (id3 : Int) (r4 : Int) (r5 : Int) (h : F45 l1 group2 id3 = some (r4, r5)) : chC (R_F45) [.pv (.slice (List.map GEnv.pv l1)), .pv (.int .i64 group2), .pv (.int .i64 id3)] [] = some ([.pv (.int .i64 r4), .pv (.int .i64 r5)], []) := by
  refine chC_eq (⟨l1, group2, id3, r4, r5, h, rfl, rfl, rfl⟩) ?_
  rintro y ⟨l1p, group2p, id3p, r4p, r5p, hp, ha, hH, rfl⟩
  simp only [List.cons.injEq, AV.pv.injEq, AV.agg.injEq, AV.vec.injEq, and_true, true_and, and_assoc] at ha
  obtain ⟨ya0, ya1, ya2⟩ := ha
  have e_l1 := map_inj_of (fun _ _ => GEnv.inj) (PV.slice.inj ya0)
  have e_group2 := int_inj ya1
  have e_id3 := int_inj ya2
  subst e_l1
  subst e_group2
  subst e_id3
  rw [h] at hp
  cases hp
  rfl

def R_F18 : List AV → List AObj → List AV × List AObj → Prop := fun args H x => ∃ (l1 : List GEnv) (group2 : Int) (id3 : Int) (name4 : Str) (r5 : Int) (r6 : Int), F18 l1 group2 id3 name4 = some (r5, r6) ∧ args = [.pv (.slice (List.map GEnv.pv l1)), .pv (.int .i64 group2), .pv (.int .i64 id3), .pv (.str name4)] ∧ H = [] ∧ x = ([.pv (.int .i64 r5), .pv (.int .i64 r6)], [])

theorem q_F18 (l1 : List GEnv) (group2 : Int) (id3 : Int) (name4 : Str) (r5 : Int) (r6 : Int) (h : F18 l1 group2 id3 name4 = some (r5, r6)) : chC (R_F18) [.pv (.slice (List.map GEnv.pv l1)), .pv (.int .i64 group2), .pv (.int .i64 id3), .pv (.str name4)] [] = some ([.pv (.int .i64 r5), .pv (.int .i64 r6)], []) := by
  refine chC_eq (⟨l1, group2, id3, name4, r5, r6, h, rfl, rfl, rfl⟩) ?_
  rintro y ⟨l1p, group2p, id3p, name4p, r5p, r6p, hp, ha, hH, rfl⟩
  simp only [List.cons.injEq, AV.pv.injEq, AV.agg.injEq, AV.vec.injEq, and_true, true_and, and_assoc] at ha
  obtain ⟨ya0, ya1, ya2, ya3⟩ := ha
  have e_l1 := map_inj_of (fun _ _ => GEnv.inj) (PV.slice.inj ya0)
  have e_group2 := int_inj ya1
  have e_id3 := int_inj ya2
  have e_name4 := str_inj ya3
  subst e_l1
  subst e_group2
  subst e_id3
  subst e_name4
  rw [h] at hp
  cases hp
  rfl

def R_F20 : List AV → List AObj → List AV × List AObj → Prop := fun args H x => ∃ (a1 : List Str) (b2 : List Str) (r3 : Bool), F20 a1 b2 = some r3 ∧ args = [.pv (.slice (List.map PV.str a1)), .pv (.slice (List.map PV.str b2))] ∧ H = [] ∧ x = ([.pv (.bool r3)], [])

theorem q_F20 (a1 : List Str) (b2 : List Str) (r3 : Bool) (h : F20 a1 b2 = some r3) : chC (R_F20) [.pv (.slice (List.map PV.str a1)), .pv (.slice (List.map PV.str b2))] [] = some ([.pv (.bool r3)], []) := by
  refine chC_eq (⟨a1, b2, r3, h, rfl, rfl, rfl⟩) ?_
  rintro y ⟨a1p, b2p, r3p, hp, ha, hH, rfl⟩
  simp only [List.cons.injEq, AV.pv.injEq, AV.agg.injEq, AV.vec.injEq, and_true, true_and, and_assoc] at ha
  obtain ⟨ya0, ya1⟩ := ha
  have e_a1 := map_inj_of (fun _ _ => str_inj) (PV.slice.inj ya0)
  have e_b2 := map_inj_of (fun _ _ => str_inj) (PV.slice.inj ya1)
  subst e_a1
  subst e_b2
  rw [h] at hp
  cases hp
  rfl

def R_F48 : List AV → List AObj → List AV × List AObj → Prop := fun args H x => ∃ (g1 : GEnv) (r2 : Bool), F48 g1 = some r2 ∧ args = [.pv (.agg [.int .i64 g1.id_, .int .i64 g1.next_, .slice (List.map Var.pv g1.vars_)])] ∧ H = [] ∧ x = ([.pv (.bool r2)], [])

theorem q_F48 (g1 : GEnv) (r2 : Bool) (h : F48 g1 = some r2) : chC (R_F48) [.pv (.agg [.int .i64 g1.id_, .int .i64 g1.next_, .slice (List.map Var.pv g1.vars_)])] [] = some ([.pv (.bool r2)], []) := by
  refine chC_eq (⟨g1, r2, h, rfl, rfl, rfl⟩) ?_
  rintro y ⟨g1p, r2p, hp, ha, hH, rfl⟩
  simp only [List.cons.injEq, AV.pv.injEq, AV.agg.injEq, AV.vec.injEq, and_true, true_and, and_assoc] at ha
  have ya0 := ha
  have e_g1 := GEnv.inj (x := g1) (y := g1p) ya0
  subst e_g1
  rw [h] at hp
  cases hp
  rfl

def R_F21 : List AV → List AObj → List AV × List AObj → Prop := fun args H x => ∃ (l1 : List GEnv) (r2 : Bool), F21 l1 = some r2 ∧ args = [.pv (.slice (List.map GEnv.pv l1))] ∧ H = [] ∧ x = ([.pv (.bool r2)], [])

theorem q_F21 (l1 : List GEnv) (r2 : Bool) (h : F21 l1 = some r2) : chC (R_F21) [.pv (.slice (List.map GEnv.pv l1))] [] = some ([.pv (.bool r2)], []) := by
  refine chC_eq (⟨l1, r2, h, rfl, rfl, rfl⟩) ?_
  rintro y ⟨l1p, r2p, hp, ha, hH, rfl⟩
  simp only [List.cons.injEq, AV.pv.injEq, AV.agg.injEq, AV.vec.injEq, and_true, true_and, and_assoc] at ha
  have ya0 := ha
  have e_l1 := map_inj_of (fun _ _ => GEnv.inj) (PV.slice.inj ya0)
  subst e_l1
  rw [h] at hp
  cases hp
  rfl

def R_F7 : List AV → List AObj → List AV × List AObj → Prop := fun args H x => ∃ (r1 : Bool), F7 = some r1 ∧ args = [] ∧ H = [] ∧ x = ([.pv (.bool r1)], [])

theorem q_F7 (r1 : Bool) (h : F7 = some r1) : chC (R_F7) [] [] = some ([.pv (.bool r1)], []) := by
  refine chC_eq (⟨r1, h, rfl, rfl, rfl⟩) ?_
  rintro y ⟨r1p, hp, ha, hH, rfl⟩
  rw [h] at hp
  cases hp
  rfl

def R_F49 : List AV → List AObj → List AV × List AObj → Prop := fun args H x => ∃ (l1 : List GEnv) (group2 : Int) (r3 : Int), F49 l1 group2 = some r3 ∧ args = [.pv (.slice (List.map GEnv.pv l1)), .pv (.int .i64 group2)] ∧ H = [] ∧ x = ([.pv (.int .i64 r3)], [])

theorem q_F49 (l1 : List GEnv) (group2 : Int) (r3 : Int) (h : F49 l1 group2 = some r3) : chC (R_F49) [.pv (.slice (List.map GEnv.pv l1)), .pv (.int .i64 group2)] [] = some ([.pv (.int .i64 r3)], []) := by
  refine chC_eq (⟨l1, group2, r3, h, rfl, rfl, rfl⟩) ?_
  rintro y ⟨l1p, group2p, r3p, hp, ha, hH, rfl⟩
  simp only [List.cons.injEq, AV.pv.injEq, AV.agg.injEq, AV.vec.injEq, and_true, true_and, and_assoc] at ha
  obtain ⟨ya0, ya1⟩ := ha
  have e_l1 := map_inj_of (fun _ _ => GEnv.inj) (PV.slice.inj ya0)
  have e_group2 := int_inj ya1
  subst e_l1
  subst e_group2
  rw [h] at hp
  cases hp
  rfl

def R_F51 : List AV → List AObj → List AV × List AObj → Prop := fun args H x => ∃ (g1 : GEnv) (k2 : Int) (r3 : GEnv), F51 g1 k2 = some r3 ∧ args = [.pv (.agg [.int .i64 g1.id_, .int .i64 g1.next_, .slice (List.map Var.pv g1.vars_)]), .pv (.int .i64 k2)] ∧ H = [] ∧ x = ([.pv (.agg [.int .i64 r3.id_, .int .i64 r3.next_, .slice (List.map Var.pv r3.vars_)])], [])

theorem q_F51 (g1 : GEnv) (k2 : Int) (r3 : GEnv) (h : F51 g1 k2 = some r3) : chC (R_F51) [.pv (.agg [.int .i64 g1.id_, .int .i64 g1.next_, .slice (List.map Var.pv g1.vars_)]), .pv (.int .i64 k2)] [] = some ([.pv (.agg [.int .i64 r3.id_, .int .i64 r3.next_, .slice (List.map Var.pv r3.vars_)])], []) := by
  refine chC_eq (⟨g1, k2, r3, h, rfl, rfl, rfl⟩) ?_
  rintro y ⟨g1p, k2p, r3p, hp, ha, hH, rfl⟩
  simp only [List.cons.injEq, AV.pv.injEq, AV.agg.injEq, AV.vec.injEq, and_true, true_and, and_assoc] at ha
  obtain ⟨ya0, ya1⟩ := ha
  have e_g1 := GEnv.inj (x := g1) (y := g1p) ya0
  have e_k2 := int_inj ya1
  subst e_g1
  subst e_k2
  rw [h] at hp
  cases hp
  rfl

def R_F50 : List AV → List AObj → List AV × List AObj → Prop := fun args H x => ∃ (l1 : List GEnv) (i2 : Int) (g3 : GEnv) (r4 : List GEnv), F50 l1 i2 g3 = some r4 ∧ args = [.pv (.slice (List.map GEnv.pv l1)), .pv (.int .i64 i2), .pv (.agg [.int .i64 g3.id_, .int .i64 g3.next_, .slice (List.map Var.pv g3.vars_)])] ∧ H = [] ∧ x = ([.pv (.slice (List.map GEnv.pv r4))], [])

theorem q_F50 (l1 : List GEnv) (i2 : Int) (g3 : GEnv) (r4 : List GEnv) (h : F50 l1 i2 g3 = some r4) : chC (R_F50) [.pv (.slice (List.map GEnv.pv l1)), .pv (.int .i64 i2), .pv (.agg [.int .i64 g3.id_, .int .i64 g3.next_, .slice (List.map Var.pv g3.vars_)])] [] = some ([.pv (.slice (List.map GEnv.pv r4))], []) := by
  refine chC_eq (⟨l1, i2, g3, r4, h, rfl, rfl, rfl⟩) ?_
  rintro y ⟨l1p, i2p, g3p, r4p, hp, ha, hH, rfl⟩
  simp only [List.cons.injEq, AV.pv.injEq, AV.agg.injEq, AV.vec.injEq, and_true, true_and, and_assoc] at ha
  obtain ⟨ya0, ya1, ya2⟩ := ha
  have e_l1 := map_inj_of (fun _ _ => GEnv.inj) (PV.slice.inj ya0)
  have e_i2 := int_inj ya1
  have e_g3 := GEnv.inj (x := g3) (y := g3p) ya2
  subst e_l1
  subst e_i2
  subst e_g3
  rw [h] at hp
  cases hp
  rfl

def R_F81 : List AV → List AObj → List AV × List AObj → Prop := fun args H x => ∃ (l1 : List Str) (r2 : List Str), F81 l1 = some r2 ∧ args = [.pv (.slice (List.map PV.str l1))] ∧ H = [] ∧ x = ([.pv (.slice (List.map PV.str r2))], [])

theorem q_F81 (l1 : List Str) (r2 : List Str) (h : F81 l1 = some r2) : chC (R_F81) [.pv (.slice (List.map PV.str l1))] [] = some ([.pv (.slice (List.map PV.str r2))], []) := by
  refine chC_eq (⟨l1, r2, h, rfl, rfl, rfl⟩) ?_
  rintro y ⟨l1p, r2p, hp, ha, hH, rfl⟩
  simp only [List.cons.injEq, AV.pv.injEq, AV.agg.injEq, AV.vec.injEq, and_true, true_and, and_assoc] at ha
  have ya0 := ha
  have e_l1 := map_inj_of (fun _ _ => str_inj) (PV.slice.inj ya0)
  subst e_l1
  rw [h] at hp
  cases hp
  rfl

def R_F52 : List AV → List AObj → List AV × List AObj → Prop := fun args H x => ∃ (g1 : GEnv) (k2 : Int) (values3 : List Str) (r4 : GEnv), F52 g1 k2 values3 = some r4 ∧ args = [.pv (.agg [.int .i64 g1.id_, .int .i64 g1.next_, .slice (List.map Var.pv g1.vars_)]), .pv (.int .i64 k2), .pv (.slice (List.map PV.str values3))] ∧ H = [] ∧ x = ([.pv (.agg [.int .i64 r4.id_, .int .i64 r4.next_, .slice (List.map Var.pv r4.vars_)])], [])

theorem q_F52 (g1 : GEnv) (k2 : Int) (values3 : List Str) (r4 : GEnv) (h : F52 g1 k2 values3 = some r4) : chC (R_F52) [.pv (.agg [.int .i64 g1.id_, .int .i64 g1.next_, .slice (List.map Var.pv g1.vars_)]), .pv (.int .i64 k2), .pv (.slice (List.map PV.str values3))] [] = some ([.pv (.agg [.int .i64 r4.id_, .int .i64 r4.next_, .slice (List.map Var.pv r4.vars_)])], []) := by
  refine chC_eq (⟨g1, k2, values3, r4, h, rfl, rfl, rfl⟩) ?_
  rintro y ⟨g1p, k2p, values3p, r4p, hp, ha, hH, rfl⟩
  simp only [List.cons.injEq, AV.pv.injEq, AV.agg.injEq, AV.vec.injEq, and_true, true_and, and_assoc] at ha
  obtain ⟨ya0, ya1, ya2⟩ := ha
  have e_g1 := GEnv.inj (x := g1) (y := g1p) ya0
  have e_k2 := int_inj ya1
  have e_values3 := map_inj_of (fun _ _ => str_inj) (PV.slice.inj ya2)
  subst e_g1
  subst e_k2
  subst e_values3
  rw [h] at hp
  cases hp
  rfl

def R_F53 : List AV → List AObj → List AV × List AObj → Prop := fun args H x => ∃ (g1 : GEnv) (name2 : Str) (values3 : List Str) (r4 : GEnv) (r5 : Int), F53 g1 name2 values3 = some (r4, r5) ∧ args = [.pv (.agg [.int .i64 g1.id_, .int .i64 g1.next_, .slice (List.map Var.pv g1.vars_)]), .pv (.str name2), .pv (.slice (List.map PV.str values3))] ∧ H = [] ∧ x = ([.pv (.agg [.int .i64 r4.id_, .int .i64 r4.next_, .slice (List.map Var.pv r4.vars_)]), .pv (.int .i64 r5)], [])

theorem q_F53 (g1 : GEnv) (name2 : Str) (values3 : List Str) (r4 : GEnv) (r5 : Int) (h : F53 g1 name2 values3 = some (r4, r5)) : chC (R_F53) [.pv (.agg [.int .i64 g1.id_, .int .i64 g1.next_, .slice (List.map Var.pv g1.vars_)]), .pv (.str name2), .pv (.slice (List.map PV.str values3))] [] = some ([.pv (.agg [.int .i64 r4.id_, .int .i64 r4.next_, .slice (List.map Var.pv r4.vars_)]), .pv (.int .i64 r5)], []) := by
  refine chC_eq (⟨g1, name2, values3, r4, r5, h, rfl, rfl, rfl⟩) ?_
  rintro y ⟨g1p, name2p, values3p, r4p, r5p, hp, ha, hH, rfl⟩
  simp only [List.cons.injEq, AV.pv.injEq, AV.agg.injEq, AV.vec.injEq, and_true, true_and, and_assoc] at ha
  obtain ⟨ya0, ya1, ya2⟩ := ha
  have e_g1 := GEnv.inj (x := g1) (y := g1p) ya0
  have e_name2 := str_inj ya1
  have e_values3 := map_inj_of (fun _ _ => str_inj) (PV.slice.inj ya2)
  subst e_g1
  subst e_name2
  subst e_values3
  rw [h] at hp
  cases hp
  rfl

def R_F22 : List AV → List AObj → List AV × List AObj → Prop := fun args H x => ∃ (l1 : List GEnv) (group2 : Int) (name3 : Str) (values4 : List Str) (r5 : List GEnv) (r6 : Int), F22 l1 group2 name3 values4 = some (r5, r6) ∧ args = [.pv (.slice (List.map GEnv.pv l1)), .pv (.int .i64 group2), .pv (.str name3), .pv (.slice (List.map PV.str values4))] ∧ H = [] ∧ x = ([.pv (.slice (List.map GEnv.pv r5)), .pv (.int .i64 r6)], [])

theorem q_F22 (l1 : List GEnv) (group2 : Int) (name3 : Str) (values4 : List Str) (r5 : List GEnv) (r6 : Int) (h : F22 l1 group2 name3 values4 = some (r5, r6)) : chC (R_F22) [.pv (.slice (List.map GEnv.pv l1)), .pv (.int .i64 group2), .pv (.str name3), .pv (.slice (List.map PV.str values4))] [] = some ([.pv (.slice (List.map GEnv.pv r5)), .pv (.int .i64 r6)], []) := by
  refine chC_eq (⟨l1, group2, name3, values4, r5, r6, h, rfl, rfl, rfl⟩) ?_
  rintro y ⟨l1p, group2p, name3p, values4p, r5p, r6p, hp, ha, hH, rfl⟩
  simp only [List.cons.injEq, AV.pv.injEq, AV.agg.injEq, AV.vec.injEq, and_true, true_and, and_assoc] at ha
  obtain ⟨ya0, ya1, ya2, ya3⟩ := ha
  have e_l1 := map_inj_of (fun _ _ => GEnv.inj) (PV.slice.inj ya0)
  have e_group2 := int_inj ya1
  have e_name3 := str_inj ya2
  have e_values4 := map_inj_of (fun _ _ => str_inj) (PV.slice.inj ya3)
  subst e_l1
  subst e_group2
  subst e_name3
  subst e_values4
  rw [h] at hp
  cases hp
  rfl

def R_F54 : List AV → List AObj → List AV × List AObj → Prop := fun args H x => ∃ (a1 : Var) (b2 : Var) (r3 : Bool), F54 a1 b2 = some r3 ∧ args = [.pv (.agg [.int .i64 a1.id_, .str a1.name_, .slice (List.map PV.str a1.values_)]), .pv (.agg [.int .i64 b2.id_, .str b2.name_, .slice (List.map PV.str b2.values_)])] ∧ H = [] ∧ x = ([.pv (.bool r3)], [])

theorem q_F54 (a1 : Var) (b2 : Var) (r3 : Bool) (h : F54 a1 b2 = some r3) : chC (R_F54) [.pv (.agg [.int .i64 a1.id_, .str a1.name_, .slice (List.map PV.str a1.values_)]), .pv (.agg [.int .i64 b2.id_, .str b2.name_, .slice (List.map PV.str b2.values_)])] [] = some ([.pv (.bool r3)], []) := by
  refine chC_eq (⟨a1, b2, r3, h, rfl, rfl, rfl⟩) ?_
  rintro y ⟨a1p, b2p, r3p, hp, ha, hH, rfl⟩
  simp only [List.cons.injEq, AV.pv.injEq, AV.agg.injEq, AV.vec.injEq, and_true, true_and, and_assoc] at ha
  obtain ⟨ya0, ya1⟩ := ha
  have e_a1 := Var.inj (x := a1) (y := a1p) ya0
  have e_b2 := Var.inj (x := b2) (y := b2p) ya1
  subst e_a1
  subst e_b2
  rw [h] at hp
  cases hp
  rfl

def R_F23 : List AV → List AObj → List AV × List AObj → Prop := fun args H x => ∃ (a1 : List GEnv) (b2 : List GEnv) (r3 : Bool), F23 a1 b2 = some r3 ∧ args = [.pv (.slice (List.map GEnv.pv a1)), .pv (.slice (List.map GEnv.pv b2))] ∧ H = [] ∧ x = ([.pv (.bool r3)], [])

theorem q_F23 (a1 : List GEnv) (b2 : List GEnv) (r3 : Bool) (h : F23 a1 b2 = some r3) : chC (R_F23) [.pv (.slice (List.map GEnv.pv a1)), .pv (.slice (List.map GEnv.pv b2))] [] = some ([.pv (.bool r3)], []) := by
  refine chC_eq (⟨a1, b2, r3, h, rfl, rfl, rfl⟩) ?_
  rintro y ⟨a1p, b2p, r3p, hp, ha, hH, rfl⟩
  simp only [List.cons.injEq, AV.pv.injEq, AV.agg.injEq, AV.vec.injEq, and_true, true_and, and_assoc] at ha
  obtain ⟨ya0, ya1⟩ := ha
  have e_a1 := map_inj_of (fun _ _ => GEnv.inj) (PV.slice.inj ya0)
  have e_b2 := map_inj_of (fun _ _ => GEnv.inj) (PV.slice.inj ya1)
  subst e_a1
  subst e_b2
  rw [h] at hp
  cases hp
  rfl

def R_F24 : List AV → List AObj → List AV × List AObj → Prop := fun args H x => ∃ (l1 : List GEnv) (group2 : Int) (to3 : Int) (r4 : List GEnv) (r5 : Int), F24 l1 group2 to3 = some (r4, r5) ∧ args = [.pv (.slice (List.map GEnv.pv l1)), .pv (.int .i64 group2), .pv (.int .i64 to3)] ∧ H = [] ∧ x = ([.pv (.slice (List.map GEnv.pv r4)), .pv (.int .i64 r5)], [])

theorem q_F24 (l1 : List GEnv) (group2 : Int) (to3 : Int) (r4 : List GEnv) (r5 : Int) (h : F24 l1 group2 to3 = some (r4, r5)) : chC (R_F24) [.pv (.slice (List.map GEnv.pv l1)), .pv (.int .i64 group2), .pv (.int .i64 to3)] [] = some ([.pv (.slice (List.map GEnv.pv r4)), .pv (.int .i64 r5)], []) := by
  refine chC_eq (⟨l1, group2, to3, r4, r5, h, rfl, rfl, rfl⟩) ?_
  rintro y ⟨l1p, group2p, to3p, r4p, r5p, hp, ha, hH, rfl⟩
  simp only [List.cons.injEq, AV.pv.injEq, AV.agg.injEq, AV.vec.injEq, and_true, true_and, and_assoc] at ha
  obtain ⟨ya0, ya1, ya2⟩ := ha
  have e_l1 := map_inj_of (fun _ _ => GEnv.inj) (PV.slice.inj ya0)
  have e_group2 := int_inj ya1
  have e_to3 := int_inj ya2
  subst e_l1
  subst e_group2
  subst e_to3
  rw [h] at hp
  cases hp
  rfl

def R_F25 : List AV → List AObj → List AV × List AObj → Prop := fun args H x => ∃ (l1 : List GEnv) (group2 : Int) (id3 : Int) (name4 : Str) (r5 : List GEnv) (r6 : Int) (r7 : Int), F25 l1 group2 id3 name4 = some (r5, r6, r7) ∧ args = [.pv (.slice (List.map GEnv.pv l1)), .pv (.int .i64 group2), .pv (.int .i64 id3), .pv (.str name4)] ∧ H = [] ∧ x = ([.pv (.slice (List.map GEnv.pv r5)), .pv (.int .i64 r6), .pv (.int .i64 r7)], [])

theorem q_F25 (l1 : List GEnv) (group2 : Int) (id3 : Int) (name4 : Str) (r5 : List GEnv) (r6 : Int) (r7 : Int) (h : F25 l1 group2 id3 name4 = some (r5, r6, r7)) : chC (R_F25) [.pv (.slice (List.map GEnv.pv l1)), .pv (.int .i64 group2), .pv (.int .i64 id3), .pv (.str name4)] [] = some ([.pv (.slice (List.map GEnv.pv r5)), .pv (.int .i64 r6), .pv (.int .i64 r7)], []) := by
  refine chC_eq (⟨l1, group2, id3, name4, r5, r6, r7, h, rfl, rfl, rfl⟩) ?_
  rintro y ⟨l1p, group2p, id3p, name4p, r5p, r6p, r7p, hp, ha, hH, rfl⟩
  simp only [List.cons.injEq, AV.pv.injEq, AV.agg.injEq, AV.vec.injEq, and_true, true_and, and_assoc] at ha
  obtain ⟨ya0, ya1, ya2, ya3⟩ := ha
  have e_l1 := map_inj_of (fun _ _ => GEnv.inj) (PV.slice.inj ya0)
  have e_group2 := int_inj ya1
  have e_id3 := int_inj ya2
  have e_name4 := str_inj ya3
  subst e_l1
  subst e_group2
  subst e_id3
  subst e_name4
  rw [h] at hp
  cases hp
  rfl

def R_F55 : List AV → List AObj → List AV × List AObj → Prop := fun args H x => ∃ (l1 : List GEnv) (group2 : Int) (id3 : Int) (r4 : Int) (r5 : Int) (r6 : Bool), F55 l1 group2 id3 = some (r4, r5, r6) ∧ args = [.pv (.slice (List.map GEnv.pv l1)), .pv (.int .i64 group2), .pv (.int .i64 id3)] ∧ H = [] ∧ x = ([.pv (.int .i64 r4), .pv (.int .i64 r5), .pv (.bool r6)], [])

theorem q_F55 (l1 : List GEnv) (group2 : Int) (id3 : Int) (r4 : Int) (r5 : Int) (r6 : Bool) (h : F55 l1 group2 id3 = some (r4, r5, r6)) : chC (R_F55) [.pv (.slice (List.map GEnv.pv l1)), .pv (.int .i64 group2), .pv (.int .i64 id3)] [] = some ([.pv (.int .i64 r4), .pv (.int .i64 r5), .pv (.bool r6)], []) := by
  refine chC_eq (⟨l1, group2, id3, r4, r5, r6, h, rfl, rfl, rfl⟩) ?_
  rintro y ⟨l1p, group2p, id3p, r4p, r5p, r6p, hp, ha, hH, rfl⟩
  simp only [List.cons.injEq, AV.pv.injEq, AV.agg.injEq, AV.vec.injEq, and_true, true_and, and_assoc] at ha
  obtain ⟨ya0, ya1, ya2⟩ := ha
  have e_l1 := map_inj_of (fun _ _ => GEnv.inj) (PV.slice.inj ya0)
  have e_group2 := int_inj ya1
  have e_id3 := int_inj ya2
  subst e_l1
  subst e_group2
  subst e_id3
  rw [h] at hp
  cases hp
  rfl

def R_F26 : List AV → List AObj → List AV × List AObj → Prop := fun args H x => ∃ (l1 : List GEnv) (group2 : Int) (id3 : Int) (name4 : Str) (r5 : List GEnv) (r6 : Int) (r7 : Int), F26 l1 group2 id3 name4 = some (r5, r6, r7) ∧ args = [.pv (.slice (List.map GEnv.pv l1)), .pv (.int .i64 group2), .pv (.int .i64 id3), .pv (.str name4)] ∧ H = [] ∧ x = ([.pv (.slice (List.map GEnv.pv r5)), .pv (.int .i64 r6), .pv (.int .i64 r7)], [])

theorem q_F26 (l1 : List GEnv) (group2 : Int) (id3 : Int) (name4 : Str) (r5 : List GEnv) (r6 : Int) (r7 : Int) (h : F26 l1 group2 id3 name4 = some (r5, r6, r7)) : chC (R_F26) [.pv (.slice (List.map GEnv.pv l1)), .pv (.int .i64 group2), .pv (.int .i64 id3), .pv (.str name4)] [] = some ([.pv (.slice (List.map GEnv.pv r5)), .pv (.int .i64 r6), .pv (.int .i64 r7)], []) := by
  refine chC_eq (⟨l1, group2, id3, name4, r5, r6, r7, h, rfl, rfl, rfl⟩) ?_
  rintro y ⟨l1p, group2p, id3p, name4p, r5p, r6p, r7p, hp, ha, hH, rfl⟩
  simp only [List.cons.injEq, AV.pv.injEq, AV.agg.injEq, AV.vec.injEq, and_true, true_and, and_assoc] at ha
  obtain ⟨ya0, ya1, ya2, ya3⟩ := ha
  have e_l1 := map_inj_of (fun _ _ => GEnv.inj) (PV.slice.inj ya0)
  have e_group2 := int_inj ya1
  have e_id3 := int_inj ya2
  have e_name4 := str_inj ya3
  subst e_l1
  subst e_group2
  subst e_id3
  subst e_name4
  rw [h] at hp
  cases hp
  rfl

def R_F56 : List AV → List AObj → List AV × List AObj → Prop := fun args H x => ∃ (l1 : List GEnv) (group2 : Int) (id3 : Int) (r4 : Int) (r5 : Int) (r6 : Str) (r7 : Int), F56 l1 group2 id3 = some (r4, r5, r6, r7) ∧ args = [.pv (.slice (List.map GEnv.pv l1)), .pv (.int .i64 group2), .pv (.int .i64 id3)] ∧ H = [] ∧ x = ([.pv (.int .i64 r4), .pv (.int .i64 r5), .pv (.str r6), .pv (.int .i64 r7)], [])

theorem q_F56 (l1 : List GEnv) (group2 : Int) (id3 : Int) (r4 : Int) (r5 : Int) (r6 : Str) (r7 : Int) (h : F56 l1 group2 id3 = some (r4, r5, r6, r7)) : chC (R_F56) [.pv (.slice (List.map GEnv.pv l1)), .pv (.int .i64 group2), .pv (.int .i64 id3)] [] = some ([.pv (.int .i64 r4), .pv (.int .i64 r5), .pv (.str r6), .pv (.int .i64 r7)], []) := by
  refine chC_eq (⟨l1, group2, id3, r4, r5, r6, r7, h, rfl, rfl, rfl⟩) ?_
  rintro y ⟨l1p, group2p, id3p, r4p, r5p, r6p, r7p, hp, ha, hH, rfl⟩
  simp only [List.cons.injEq, AV.pv.injEq, AV.agg.injEq, AV.vec.injEq, and_true, true_and, and_assoc] at ha
  obtain ⟨ya0, ya1, ya2⟩ := ha
  have e_l1 := map_inj_of (fun _ _ => GEnv.inj) (PV.slice.inj ya0)
  have e_group2 := int_inj ya1
  have e_id3 := int_inj ya2
  subst e_l1
  subst e_group2
  subst e_id3
  rw [h] at hp
  cases hp
  rfl

def R_F57 : List AV → List AObj → List AV × List AObj → Prop := fun args H x => ∃ (s1 : Str) (r2 : List Str) (r3 : Int), F57 s1 = some (r2, r3) ∧ args = [.pv (.str s1)] ∧ H = [] ∧ x = ([.pv (.slice (List.map PV.str r2)), .pv (.int .i64 r3)], [])

theorem q_F57 (s1 : Str) (r2 : List Str) (r3 : Int) (h : F57 s1 = some (r2, r3)) : chC (R_F57) [.pv (.str s1)] [] = some ([.pv (.slice (List.map PV.str r2)), .pv (.int .i64 r3)], []) := by
  refine chC_eq (⟨s1, r2, r3, h, rfl, rfl, rfl⟩) ?_
  rintro y ⟨s1p, r2p, r3p, hp, ha, hH, rfl⟩
  simp only [List.cons.injEq, AV.pv.injEq, AV.agg.injEq, AV.vec.injEq, and_true, true_and, and_assoc] at ha
  have ya0 := ha
  have e_s1 := str_inj ya0
  subst e_s1
  rw [h] at hp
  cases hp
  rfl

def R_F27 : List AV → List AObj → List AV × List AObj → Prop := fun args H x => ∃ (l1 : List GEnv) (group2 : Int) (id3 : Int) (offset4 : Int) (data5 : Str) (r6 : List GEnv) (r7 : Int) (r8 : Int), F27 l1 group2 id3 offset4 data5 = some (r6, r7, r8) ∧ args = [.pv (.slice (List.map GEnv.pv l1)), .pv (.int .i64 group2), .pv (.int .i64 id3), .pv (.int .i64 offset4), .pv (.str data5)] ∧ H = [] ∧ x = ([.pv (.slice (List.map GEnv.pv r6)), .pv (.int .i64 r7), .pv (.int .i64 r8)], [])

theorem q_F27 (l1 : List GEnv) (group2 : Int) (id3 : Int) (offset4 : Int) (data5 : Str) (r6 : List GEnv) (r7 : Int) (r8 : Int) (h : F27 l1 group2 id3 offset4 data5 = some (r6, r7, r8)) : chC (R_F27) [.pv (.slice (List.map GEnv.pv l1)), .pv (.int .i64 group2), .pv (.int .i64 id3), .pv (.int .i64 offset4), .pv (.str data5)] [] = some ([.pv (.slice (List.map GEnv.pv r6)), .pv (.int .i64 r7), .pv (.int .i64 r8)], []) := by
  refine chC_eq (⟨l1, group2, id3, offset4, data5, r6, r7, r8, h, rfl, rfl, rfl⟩) ?_
  rintro y ⟨l1p, group2p, id3p, offset4p, data5p, r6p, r7p, r8p, hp, ha, hH, rfl⟩
  simp only [List.cons.injEq, AV.pv.injEq, AV.agg.injEq, AV.vec.injEq, and_true, true_and, and_assoc] at ha
  obtain ⟨ya0, ya1, ya2, ya3, ya4⟩ := ha
  have e_l1 := map_inj_of (fun _ _ => GEnv.inj) (PV.slice.inj ya0)
  have e_group2 := int_inj ya1
  have e_id3 := int_inj ya2
  have e_offset4 := int_inj ya3
  have e_data5 := str_inj ya4
  subst e_l1
  subst e_group2
  subst e_id3
  subst e_offset4
  subst e_data5
  rw [h] at hp
  cases hp
  rfl

def R_F28 : List AV → List AObj → List AV × List AObj → Prop := fun args H x => ∃ (l1 : List GEnv) (group2 : Int) (id3 : Int) (r4 : List GEnv) (r5 : Int), F28 l1 group2 id3 = some (r4, r5) ∧ args = [.pv (.slice (List.map GEnv.pv l1)), .pv (.int .i64 group2), .pv (.int .i64 id3)] ∧ H = [] ∧ x = ([.pv (.slice (List.map GEnv.pv r4)), .pv (.int .i64 r5)], [])

theorem q_F28 (l1 : List GEnv) (group2 : Int) (id3 : Int) (r4 : List GEnv) (r5 : Int) (h : F28 l1 group2 id3 = some (r4, r5)) : chC (R_F28) [.pv (.slice (List.map GEnv.pv l1)), .pv (.int .i64 group2), .pv (.int .i64 id3)] [] = some ([.pv (.slice (List.map GEnv.pv r4)), .pv (.int .i64 r5)], []) := by
  refine chC_eq (⟨l1, group2, id3, r4, r5, h, rfl, rfl, rfl⟩) ?_
  rintro y ⟨l1p, group2p, id3p, r4p, r5p, hp, ha, hH, rfl⟩
  simp only [List.cons.injEq, AV.pv.injEq, AV.agg.injEq, AV.vec.injEq, and_true, true_and, and_assoc] at ha
  obtain ⟨ya0, ya1, ya2⟩ := ha
  have e_l1 := map_inj_of (fun _ _ => GEnv.inj) (PV.slice.inj ya0)
  have e_group2 := int_inj ya1
  have e_id3 := int_inj ya2
  subst e_l1
  subst e_group2
  subst e_id3
  rw [h] at hp
  cases hp
  rfl

def R_F29 : List AV → List AObj → List AV × List AObj → Prop := fun args H x => ∃ (l1 : List GEnv) (group2 : Int) (id3 : Int) (r4 : List GEnv) (r5 : Int), F29 l1 group2 id3 = some (r4, r5) ∧ args = [.pv (.slice (List.map GEnv.pv l1)), .pv (.int .i64 group2), .pv (.int .i64 id3)] ∧ H = [] ∧ x = ([.pv (.slice (List.map GEnv.pv r4)), .pv (.int .i64 r5)], [])

theorem q_F29 (l1 : List GEnv) (group2 : Int) (id3 : Int) (r4 : List GEnv) (r5 : Int) (h : F29 l1 group2 id3 = some (r4, r5)) : chC (R_F29) [.pv (.slice (List.map GEnv.pv l1)), .pv (.int .i64 group2), .pv (.int .i64 id3)] [] = some ([.pv (.slice (List.map GEnv.pv r4)), .pv (.int .i64 r5)], []) := by
  refine chC_eq (⟨l1, group2, id3, r4, r5, h, rfl, rfl, rfl⟩) ?_
  rintro y ⟨l1p, group2p, id3p, r4p, r5p, hp, ha, hH, rfl⟩
  simp only [List.cons.injEq, AV.pv.injEq, AV.agg.injEq, AV.vec.injEq, and_true, true_and, and_assoc] at ha
  obtain ⟨ya0, ya1, ya2⟩ := ha
  have e_l1 := map_inj_of (fun _ _ => GEnv.inj) (PV.slice.inj ya0)
  have e_group2 := int_inj ya1
  have e_id3 := int_inj ya2
  subst e_l1
  subst e_group2
  subst e_id3
  rw [h] at hp
  cases hp
  rfl

def R_F30 : List AV → List AObj → List AV × List AObj → Prop := fun args H x => ∃ (l1 : List GEnv) (group2 : Int) (id3 : Int) (r4 : List GEnv) (r5 : Int), F30 l1 group2 id3 = some (r4, r5) ∧ args = [.pv (.slice (List.map GEnv.pv l1)), .pv (.int .i64 group2), .pv (.int .i64 id3)] ∧ H = [] ∧ x = ([.pv (.slice (List.map GEnv.pv r4)), .pv (.int .i64 r5)], [])

theorem q_F30 (l1 : List GEnv) (group2 : Int) (id3 : Int) (r4 : List GEnv) (r5 : Int) (h : F30 l1 group2 id3 = some (r4, r5)) : chC (R_F30) [.pv (.slice (List.map GEnv.pv l1)), .pv (.int .i64 group2), .pv (.int .i64 id3)] [] = some ([.pv (.slice (List.map GEnv.pv r4)), .pv (.int .i64 r5)], []) := by
  refine chC_eq (⟨l1, group2, id3, r4, r5, h, rfl, rfl, rfl⟩) ?_
  rintro y ⟨l1p, group2p, id3p, r4p, r5p, hp, ha, hH, rfl⟩
  simp only [List.cons.injEq, AV.pv.injEq, AV.agg.injEq, AV.vec.injEq, and_true, true_and, and_assoc] at ha
  obtain ⟨ya0, ya1, ya2⟩ := ha
  have e_l1 := map_inj_of (fun _ _ => GEnv.inj) (PV.slice.inj ya0)
  have e_group2 := int_inj ya1
  have e_id3 := int_inj ya2
  subst e_l1
  subst e_group2
  subst e_id3
  rw [h] at hp
  cases hp
  rfl

def R_F31 : List AV → List AObj → List AV × List AObj → Prop := fun args H x => ∃ (l1 : List GEnv) (group2 : Int) (id3 : Int) (r4 : List GEnv) (r5 : Int), F31 l1 group2 id3 = some (r4, r5) ∧ args = [.pv (.slice (List.map GEnv.pv l1)), .pv (.int .i64 group2), .pv (.int .i64 id3)] ∧ H = [] ∧ x = ([.pv (.slice (List.map GEnv.pv r4)), .pv (.int .i64 r5)], [])

theorem q_F31 (l1 : List GEnv) (group2 : Int) (id3 : Int) (r4 : List GEnv) (r5 : Int) (h : F31 l1 group2 id3 = some (r4, r5)) : chC (R_F31) [.pv (.slice (List.map GEnv.pv l1)), .pv (.int .i64 group2), .pv (.int .i64 id3)] [] = some ([.pv (.slice (List.map GEnv.pv r4)), .pv (.int .i64 r5)], []) := by
  refine chC_eq (⟨l1, group2, id3, r4, r5, h, rfl, rfl, rfl⟩) ?_
  rintro y ⟨l1p, group2p, id3p, r4p, r5p, hp, ha, hH, rfl⟩
  simp only [List.cons.injEq, AV.pv.injEq, AV.agg.injEq, AV.vec.injEq, and_true, true_and, and_assoc] at ha
  obtain ⟨ya0, ya1, ya2⟩ := ha
  have e_l1 := map_inj_of (fun _ _ => GEnv.inj) (PV.slice.inj ya0)
  have e_group2 := int_inj ya1
  have e_id3 := int_inj ya2
  subst e_l1
  subst e_group2
  subst e_id3
  rw [h] at hp
  cases hp
  rfl

def R_F8 : List AV → List AObj → List AV × List AObj → Prop := fun args H x => ∃ (l1 : List GEnv) (o2 : GOp) (r3 : List GEnv) (r4 : Bool), F8 l1 o2 = some (r3, r4) ∧ args = [.pv (.slice (List.map GEnv.pv l1)), .pv (.agg [.int .i64 o2.kind_, .int .i64 o2.group_, .int .i64 o2.to_, .int .i64 o2.id_, .str o2.name_, .slice (List.map PV.str o2.values_), .int .i64 o2.offset_, .str o2.data_])] ∧ H = [] ∧ x = ([.pv (.slice (List.map GEnv.pv r3)), .pv (.bool r4)], [])

theorem q_F8 (l1 : List GEnv) (o2 : GOp) (r3 : List GEnv) (r4 : Bool) (h : F8 l1 o2 = some (r3, r4)) : chC (R_F8) [.pv (.slice (List.map GEnv.pv l1)), .pv (.agg [.int .i64 o2.kind_, .int .i64 o2.group_, .int .i64 o2.to_, .int .i64 o2.id_, .str o2.name_, .slice (List.map PV.str o2.values_), .int .i64 o2.offset_, .str o2.data_])] [] = some ([.pv (.slice (List.map GEnv.pv r3)), .pv (.bool r4)], []) := by
  refine chC_eq (⟨l1, o2, r3, r4, h, rfl, rfl, rfl⟩) ?_
  rintro y ⟨l1p, o2p, r3p, r4p, hp, ha, hH, rfl⟩
  simp only [List.cons.injEq, AV.pv.injEq, AV.agg.injEq, AV.vec.injEq, and_true, true_and, and_assoc] at ha
  obtain ⟨ya0, ya1⟩ := ha
  have e_l1 := map_inj_of (fun _ _ => GEnv.inj) (PV.slice.inj ya0)
  have e_o2 := GOp.inj (x := o2) (y := o2p) ya1
  subst e_l1
  subst e_o2
  rw [h] at hp
  cases hp
  rfl

def R_F3 : List AV → List AObj → List AV × List AObj → Prop := fun args H x => ∃ (l1 : List GEnv) (o2 : GOp) (r3 : Bool), F3 l1 o2 = some r3 ∧ args = [.pv (.slice (List.map GEnv.pv l1)), .pv (.agg [.int .i64 o2.kind_, .int .i64 o2.group_, .int .i64 o2.to_, .int .i64 o2.id_, .str o2.name_, .slice (List.map PV.str o2.values_), .int .i64 o2.offset_, .str o2.data_])] ∧ H = [] ∧ x = ([.pv (.bool r3)], [])

theorem q_F3 (l1 : List GEnv) (o2 : GOp) (r3 : Bool) (h : F3 l1 o2 = some r3) : chC (R_F3) [.pv (.slice (List.map GEnv.pv l1)), .pv (.agg [.int .i64 o2.kind_, .int .i64 o2.group_, .int .i64 o2.to_, .int .i64 o2.id_, .str o2.name_, .slice (List.map PV.str o2.values_), .int .i64 o2.offset_, .str o2.data_])] [] = some ([.pv (.bool r3)], []) := by
  refine chC_eq (⟨l1, o2, r3, h, rfl, rfl, rfl⟩) ?_
  rintro y ⟨l1p, o2p, r3p, hp, ha, hH, rfl⟩
  simp only [List.cons.injEq, AV.pv.injEq, AV.agg.injEq, AV.vec.injEq, and_true, true_and, and_assoc] at ha
  obtain ⟨ya0, ya1⟩ := ha
  have e_l1 := map_inj_of (fun _ _ => GEnv.inj) (PV.slice.inj ya0)
  have e_o2 := GOp.inj (x := o2) (y := o2p) ya1
  subst e_l1
  subst e_o2
  rw [h] at hp
  cases hp
  rfl

noncomputable def k0 : List (FuncId × (List AV → List AObj → Option (List AV × List AObj))) := []

theorem s0 : Sound env (mkOrc pfn k0) := Sound.nil pfn

noncomputable def k1 := (35, chC R_L_InsertE) :: k0

theorem s1 : Sound env (mkOrc pfn k1) := by
  refine Sound.cons s0 ⟨Tryz.f35, fn_35, rfl, by kernel_rfl⟩ fun args H rs H2 hc => ?_
  obtain ⟨xs, i, v, r, h, rfl, rfl, hx⟩ := chC_some hc
  cases hx
  exact g_L_InsertE  xs i v r h

noncomputable def k2 := (38, chC R_L_DeleteV) :: k1

theorem s2 : Sound env (mkOrc pfn k2) := by
  refine Sound.cons s1 ⟨Tryz.f38, fn_38, rfl, by kernel_rfl⟩ fun args H rs H2 hc => ?_
  obtain ⟨xs, i, j, r, y, h, rfl, rfl, hx⟩ := chC_some hc
  cases hx
  exact g_L_DeleteV  xs i j r y h

noncomputable def k3 := (40, chC R_L_Clone) :: k2

theorem s3 : Sound env (mkOrc pfn k3) := by
  refine Sound.cons s2 ⟨Tryz.f40, fn_40, rfl, by kernel_rfl⟩ fun args H rs H2 hc => ?_
  obtain ⟨xs, l, h, rfl, rfl, hx⟩ := chC_some hc
  cases hx
  exact g_L_Clone  xs l h

noncomputable def k4 := (44, chC R_L_Repeat) :: k3

theorem s4 : Sound env (mkOrc pfn k4) := by
  refine Sound.cons s3 ⟨Tryz.f44, fn_44, rfl, by kernel_rfl⟩ fun args H rs H2 hc => ?_
  obtain ⟨s, n, t, h, rfl, rfl, hx⟩ := chC_some hc
  cases hx
  exact g_L_Repeat  s n t h

noncomputable def k5 := (46, chC R_L_Count) :: k4

theorem s5 : Sound env (mkOrc pfn k5) := by
  refine Sound.cons s4 ⟨Tryz.f46, fn_46, rfl, by kernel_rfl⟩ fun args H rs H2 hc => ?_
  obtain ⟨s, p, n, h, rfl, rfl, hx⟩ := chC_some hc
  cases hx
  exact g_L_Count  s p n h

noncomputable def k6 := (47, chC R_L_Split) :: k5

theorem s6 : Sound env (mkOrc pfn k6) := by
  refine Sound.cons s5 ⟨Tryz.f47, fn_47, rfl, by kernel_rfl⟩ fun args H rs H2 hc => ?_
  obtain ⟨s, sep, l, h, rfl, rfl, hx⟩ := chC_some hc
  cases hx
  exact g_L_Split  s sep l h

noncomputable def k7 := (59, chC R_L_CloneE) :: k6

theorem s7 : Sound env (mkOrc pfn k7) := by
  refine Sound.cons s6 ⟨Tryz.f59, fn_59, rfl, by kernel_rfl⟩ fun args H rs H2 hc => ?_
  obtain ⟨xs, l, h, rfl, rfl, hx⟩ := chC_some hc
  cases hx
  exact g_L_CloneE  xs l h

noncomputable def k8 := (62, chC R_L_CloneV) :: k7

theorem s8 : Sound env (mkOrc pfn k8) := by
  refine Sound.cons s7 ⟨Tryz.f62, fn_62, rfl, by kernel_rfl⟩ fun args H rs H2 hc => ?_
  obtain ⟨xs, l, h, rfl, rfl, hx⟩ := chC_some hc
  cases hx
  exact g_L_CloneV  xs l h

noncomputable def k9 := (69, chC R_L_SContains) :: k8

theorem s9 : Sound env (mkOrc pfn k9) := by
  refine Sound.cons s8 ⟨Tryz.f69, fn_69, rfl, by kernel_rfl⟩ fun args H rs H2 hc => ?_
  obtain ⟨s, p, ok, h, rfl, rfl, hx⟩ := chC_some hc
  cases hx
  exact g_L_SContains  s p ok h

noncomputable def k10 := (70, chC R_L_Join) :: k9

theorem s10 : Sound env (mkOrc pfn k10) := by
  refine Sound.cons s9 ⟨Tryz.f70, fn_70, rfl, by kernel_rfl⟩ fun args H rs H2 hc => ?_
  obtain ⟨xs, sep, s, h, rfl, rfl, hx⟩ := chC_some hc
  cases hx
  exact g_L_Join  xs sep s h

noncomputable def k11 := (9, chC R_F9) :: k10

theorem s11 : Sound env (mkOrc pfn k11) := by
  refine Sound.cons s10 ⟨Tryz.f9, fn_9, rfl, by kernel_rfl⟩ fun args H rs H2 hc => ?_
  obtain ⟨l1, most2, r3, h, rfl, rfl, hx⟩ := chC_some hc
  cases hx
  exact g_F9 s10 rfl l1 most2 r3 h

noncomputable def k12 := (4, chC R_F4) :: k11

theorem s12 : Sound env (mkOrc pfn k12) := by
  refine Sound.cons s11 ⟨Tryz.f4, fn_4, rfl, by kernel_rfl⟩ fun args H rs H2 hc => ?_
  obtain ⟨l1, r2, h, rfl, rfl, hx⟩ := chC_some hc
  cases hx
  exact g_F4 s11 rfl (fun l1 most2 r3 h => q_F9 l1 most2 r3 h) l1 r2 h

noncomputable def k13 := (5, chC R_F5) :: k12

theorem s13 : Sound env (mkOrc pfn k13) := by
  refine Sound.cons s12 ⟨Tryz.f5, fn_5, rfl, by kernel_rfl⟩ fun args H rs H2 hc => ?_
  obtain ⟨o1, r2, h, rfl, rfl, hx⟩ := chC_some hc
  cases hx
  exact g_F5 s12 rfl (fun l1 most2 r3 h => q_F9 l1 most2 r3 h) o1 r2 h

noncomputable def k14 := (10, chC R_F10) :: k13

theorem s14 : Sound env (mkOrc pfn k14) := by
  refine Sound.cons s13 ⟨Tryz.f10, fn_10, rfl, by kernel_rfl⟩ fun args H rs H2 hc => ?_
  obtain ⟨values1, r2, r3, h, rfl, rfl, hx⟩ := chC_some hc
  cases hx
  exact g_F10 s13 rfl values1 r2 r3 h

noncomputable def k15 := (11, chC R_F11) :: k14

theorem s15 : Sound env (mkOrc pfn k15) := by
  refine Sound.cons s14 ⟨Tryz.f11, fn_11, rfl, by kernel_rfl⟩ fun args H rs H2 hc => ?_
  obtain ⟨name1, r2, h, rfl, rfl, hx⟩ := chC_some hc
  cases hx
  exact g_F11 s14 rfl name1 r2 h

noncomputable def k16 := (12, chC R_F12) :: k15

theorem s16 : Sound env (mkOrc pfn k16) := by
  refine Sound.cons s15 ⟨Tryz.f12, fn_12, rfl, by kernel_rfl⟩ fun args H rs H2 hc => ?_
  obtain ⟨g1, name2, r3, h, rfl, rfl, hx⟩ := chC_some hc
  cases hx
  exact g_F12 s15 rfl g1 name2 r3 h

noncomputable def k17 := (6, chC R_F6) :: k16

theorem s17 : Sound env (mkOrc pfn k17) := by
  refine Sound.cons s16 ⟨Tryz.f6, fn_6, rfl, by kernel_rfl⟩ fun args H rs H2 hc => ?_
  obtain ⟨l1, r2, h, rfl, rfl, hx⟩ := chC_some hc
  cases hx
  exact g_F6 s16 rfl (fun values1 r2 r3 h => q_F10 values1 r2 r3 h) (fun name1 r2 h => q_F11 name1 r2 h) (fun g1 name2 r3 h => q_F12 g1 name2 r3 h) l1 r2 h

noncomputable def k18 := (34, chC R_F34) :: k17

theorem s18 : Sound env (mkOrc pfn k18) := by
  refine Sound.cons s17 ⟨Tryz.f34, fn_34, rfl, by kernel_rfl⟩ fun args H rs H2 hc => ?_
  obtain ⟨l1, r2, h, rfl, rfl, hx⟩ := chC_some hc
  cases hx
  exact g_F34 s17 rfl (fun xs l h => q_L_CloneV xs l h) (fun xs l h => q_L_Clone xs l h) l1 r2 h

noncomputable def k19 := (32, chC R_F32) :: k18

theorem s19 : Sound env (mkOrc pfn k19) := by
  refine Sound.cons s18 ⟨Tryz.f32, fn_32, rfl, by kernel_rfl⟩ fun args H rs H2 hc => ?_
  obtain ⟨l1, r2, m3, h, rfl, rfl, hx⟩ := chC_some hc
  cases hx
  exact g_F32 s18 rfl (fun xs l h => q_L_CloneE xs l h) (fun l1 r2 h => q_F34 l1 r2 h) l1 r2 m3 h

noncomputable def k20 := (61, chC R_F61) :: k19

theorem s20 : Sound env (mkOrc pfn k20) := by
  refine Sound.cons s19 ⟨Tryz.f61, fn_61, rfl, by kernel_rfl⟩ fun args H rs H2 hc => ?_
  obtain ⟨g1, x2, r3, h, rfl, rfl, hx⟩ := chC_some hc
  cases hx
  exact g_F61 s19 rfl g1 x2 r3 h

noncomputable def k21 := (60, chC R_F60) :: k20

theorem s21 : Sound env (mkOrc pfn k21) := by
  refine Sound.cons s20 ⟨Tryz.f60, fn_60, rfl, by kernel_rfl⟩ fun args H rs H2 hc => ?_
  obtain ⟨s1, x2, r3, h, rfl, rfl, hx⟩ := chC_some hc
  cases hx
  exact g_F60 s20 rfl (fun g1 x2 r3 h => q_F61 g1 x2 r3 h) s1 x2 r3 h

noncomputable def k22 := (33, chC R_F33) :: k21

theorem s22 : Sound env (mkOrc pfn k22) := by
  refine Sound.cons s21 ⟨Tryz.f33, fn_33, rfl, by kernel_rfl⟩ fun args H rs H2 hc => ?_
  obtain ⟨l1, group2, r3, h, rfl, rfl, hx⟩ := chC_some hc
  cases hx
  exact g_F33 s21 rfl (fun s1 x2 r3 h => q_F60 s1 x2 r3 h) l1 group2 r3 h

noncomputable def k23 := (13, chC R_F13) :: k22

theorem s23 : Sound env (mkOrc pfn k23) := by
  refine Sound.cons s22 ⟨Tryz.f13, fn_13, rfl, by kernel_rfl⟩ fun args H rs H2 hc => ?_
  obtain ⟨l1, group2, to3, r4, r5, h, rfl, rfl, hx⟩ := chC_some hc
  cases hx
  exact g_F13 s22 rfl (fun l1 r2 m3 h => q_F32 l1 r2 m3 h) (fun l1 group2 r3 h => q_F33 l1 group2 r3 h) (fun l1 r2 h => q_F34 l1 r2 h) (fun xs i v r h => q_L_InsertE xs i v r h) l1 group2 to3 r4 r5 h

noncomputable def k24 := (36, chC R_F36) :: k23

theorem s24 : Sound env (mkOrc pfn k24) := by
  refine Sound.cons s23 ⟨Tryz.f36, fn_36, rfl, by kernel_rfl⟩ fun args H rs H2 hc => ?_
  obtain ⟨name1, r2, h, rfl, rfl, hx⟩ := chC_some hc
  cases hx
  exact g_F36 s23 rfl name1 r2 h

noncomputable def k25 := (66, chC R_F66) :: k24

theorem s25 : Sound env (mkOrc pfn k25) := by
  refine Sound.cons s24 ⟨Tryz.f66, fn_66, rfl, by kernel_rfl⟩ fun args H rs H2 hc => ?_
  obtain ⟨v1, x2, r3, h, rfl, rfl, hx⟩ := chC_some hc
  cases hx
  exact g_F66 s24 rfl v1 x2 r3 h

noncomputable def k26 := (68, chC R_F68) :: k25

theorem s26 : Sound env (mkOrc pfn k26) := by
  refine Sound.cons s25 ⟨Tryz.f68, fn_68, rfl, by kernel_rfl⟩ fun args H rs H2 hc => ?_
  obtain ⟨v1, r2, h, rfl, rfl, hx⟩ := chC_some hc
  cases hx
  exact g_F68 s25 rfl (fun s p ok h => q_L_SContains s p ok h) v1 r2 h

noncomputable def k27 := (84, chC R_F84) :: k26

theorem s27 : Sound env (mkOrc pfn k27) := by
  refine Sound.cons s26 ⟨Tryz.f84, fn_84, rfl, by kernel_rfl⟩ fun args H rs H2 hc => ?_
  obtain ⟨s1, r2, h, rfl, rfl, hx⟩ := chC_some hc
  cases hx
  exact g_F84 s26 rfl (fun v1 r2 h => q_F68 v1 r2 h) s1 r2 h

noncomputable def k28 := (67, chC R_F67) :: k27

theorem s28 : Sound env (mkOrc pfn k28) := by
  refine Sound.cons s27 ⟨Tryz.f67, fn_67, rfl, by kernel_rfl⟩ fun args H rs H2 hc => ?_
  obtain ⟨s1, r2, h, rfl, rfl, hx⟩ := chC_some hc
  cases hx
  exact g_F67 s27 rfl (fun s1 r2 h => q_F84 s1 r2 h) s1 r2 h

noncomputable def k29 := (39, chC R_F39) :: k28

theorem s29 : Sound env (mkOrc pfn k29) := by
  refine Sound.cons s28 ⟨Tryz.f39, fn_39, rfl, by kernel_rfl⟩ fun args H rs H2 hc => ?_
  obtain ⟨values1, r2, r3, h, rfl, rfl, hx⟩ := chC_some hc
  cases hx
  exact g_F39 s28 rfl (fun s1 r2 h => q_F67 s1 r2 h) (fun xs sep s h => q_L_Join xs sep s h) values1 r2 r3 h

noncomputable def k30 := (41, chC R_F41) :: k29

theorem s30 : Sound env (mkOrc pfn k30) := by
  refine Sound.cons s29 ⟨Tryz.f41, fn_41, rfl, by kernel_rfl⟩ fun args H rs H2 hc => ?_
  obtain ⟨g1, name2, values3, r4, r5, h, rfl, rfl, hx⟩ := chC_some hc
  cases hx
  exact g_F41 s29 rfl (fun l1 r2 h => q_F34 l1 r2 h) g1 name2 values3 r4 r5 h

noncomputable def k31 := (92, chC R_F92) :: k30

theorem s31 : Sound env (mkOrc pfn k31) := by
  refine Sound.cons s30 ⟨Tryz.f92, fn_92, rfl, by kernel_rfl⟩ fun args H rs H2 hc => ?_
  obtain ⟨v1, x2, r3, h, rfl, rfl, hx⟩ := chC_some hc
  cases hx
  exact g_F92 s30 rfl v1 x2 r3 h

noncomputable def k32 := (65, chC RR_65) :: k31

theorem s32 : Sound env (mkOrc pfn k32) := by
  refine Sound.cons s31 ⟨Tryz.f65, fn_65, rfl, by kernel_rfl⟩ fun args H rs H2 hc => ?_
  rcases chC_some hc with hx | hx | hx
  · obtain ⟨l1, x2, r3, h, rfl, rfl, hx⟩ := hx
    cases hx
    exact g_F65 s31 rfl (fun v1 x2 r3 h => q_F66 v1 x2 r3 h) l1 x2 r3 h
  · obtain ⟨s1, x2, r3, h, rfl, rfl, hx⟩ := hx
    cases hx
    exact g_F65x1 s31 rfl (fun v1 x2 r3 h => q_F92 v1 x2 r3 h) s1 x2 r3 h
  · obtain ⟨s1, x2, r3, h, rfl, rfl, hx⟩ := hx
    cases hx
    exact g_F65x2 s31 rfl (fun v1 x2 r3 h => q_F66 v1 x2 r3 h) s1 x2 r3 h

noncomputable def k33 := (37, chC RR_37) :: k32

theorem s33 : Sound env (mkOrc pfn k33) := by
  refine Sound.cons s32 ⟨Tryz.f37, fn_37, rfl, by kernel_rfl⟩ fun args H rs H2 hc => ?_
  rcases chC_some hc with hx | hx
  · obtain ⟨gid1, gnext2, name3, l4, r5, h, rfl, rfl, hx⟩ := hx
    cases hx
    exact g_F37 s32 rfl (fun l1 x2 r3 h => q_F65 l1 x2 r3 h) gid1 gnext2 name3 l4 r5 h
  · obtain ⟨g1, name2, r3, h, rfl, rfl, hx⟩ := hx
    cases hx
    exact g_F37x1 s32 rfl (fun s1 x2 r3 h => q_F65x2 s1 x2 r3 h) g1 name2 r3 h

noncomputable def k34 := (14, chC R_F14) :: k33

theorem s34 : Sound env (mkOrc pfn k34) := by
  refine Sound.cons s33 ⟨Tryz.f14, fn_14, rfl, by kernel_rfl⟩ fun args H rs H2 hc => ?_
  obtain ⟨l1, group2, name3, values4, r5, r6, h, rfl, rfl, hx⟩ := chC_some hc
  cases hx
  exact g_F14 s33 rfl (fun l1 r2 m3 h => q_F32 l1 r2 m3 h) (fun l1 group2 r3 h => q_F33 l1 group2 r3 h) (fun name1 r2 h => q_F36 name1 r2 h) (fun gid1 gnext2 name3 l4 r5 h => q_F37 gid1 gnext2 name3 l4 r5 h) (fun xs i j r y h => q_L_DeleteV xs i j r y h) (fun values1 r2 r3 h => q_F39 values1 r2 r3 h) (fun xs l h => q_L_Clone xs l h) (fun g1 name2 values3 r4 r5 h => q_F41 g1 name2 values3 r4 r5 h) l1 group2 name3 values4 r5 r6 h

noncomputable def k35 := (82, chC R_F82) :: k34

theorem s35 : Sound env (mkOrc pfn k35) := by
  refine Sound.cons s34 ⟨Tryz.f82, fn_82, rfl, by kernel_rfl⟩ fun args H rs H2 hc => ?_
  obtain ⟨g1, id2, r3, h, rfl, rfl, hx⟩ := chC_some hc
  cases hx
  exact g_F82 s34 rfl (fun s1 x2 r3 h => q_F65x1 s1 x2 r3 h) g1 id2 r3 h

noncomputable def k36 := (58, chC R_F58) :: k35

theorem s36 : Sound env (mkOrc pfn k36) := by
  refine Sound.cons s35 ⟨Tryz.f58, fn_58, rfl, by kernel_rfl⟩ fun args H rs H2 hc => ?_
  obtain ⟨l1, group2, id3, r4, r5, r6, h, rfl, rfl, hx⟩ := chC_some hc
  cases hx
  exact g_F58 s35 rfl (fun l1 group2 r3 h => q_F33 l1 group2 r3 h) (fun g1 id2 r3 h => q_F82 g1 id2 r3 h) l1 group2 id3 r4 r5 r6 h

noncomputable def k37 := (42, chC R_F42) :: k36

theorem s37 : Sound env (mkOrc pfn k37) := by
  refine Sound.cons s36 ⟨Tryz.f42, fn_42, rfl, by kernel_rfl⟩ fun args H rs H2 hc => ?_
  obtain ⟨l1, group2, id3, r4, r5, r6, h, rfl, rfl, hx⟩ := chC_some hc
  cases hx
  exact g_F42 s36 rfl (fun l1 group2 id3 r4 r5 r6 h => q_F58 l1 group2 id3 r4 r5 r6 h) l1 group2 id3 r4 r5 r6 h

noncomputable def k38 := (43, chC R_F43) :: k37

theorem s38 : Sound env (mkOrc pfn k38) := by
  refine Sound.cons s37 ⟨Tryz.f43, fn_43, rfl, by kernel_rfl⟩ fun args H rs H2 hc => ?_
  obtain ⟨v1, r2, h, rfl, rfl, hx⟩ := chC_some hc
  cases hx
  exact g_F43 s37 rfl (fun xs sep s h => q_L_Join xs sep s h) v1 r2 h

noncomputable def k39 := (15, chC R_F15) :: k38

theorem s39 : Sound env (mkOrc pfn k39) := by
  refine Sound.cons s38 ⟨Tryz.f15, fn_15, rfl, by kernel_rfl⟩ fun args H rs H2 hc => ?_
  obtain ⟨l1, group2, id3, offset4, count5, r6, r7, h, rfl, rfl, hx⟩ := chC_some hc
  cases hx
  exact g_F15 s38 rfl (fun l1 group2 id3 r4 r5 r6 h => q_F42 l1 group2 id3 r4 r5 r6 h) (fun v1 r2 h => q_F43 v1 r2 h) l1 group2 id3 offset4 count5 r6 r7 h

noncomputable def k40 := (19, chC R_F19) :: k39

theorem s40 : Sound env (mkOrc pfn k40) := by
  refine Sound.cons s39 ⟨Tryz.f19, fn_19, rfl, by kernel_rfl⟩ fun args H rs H2 hc => ?_
  obtain ⟨s1, r2, r3, h, rfl, rfl, hx⟩ := chC_some hc
  cases hx
  exact g_F19 s39 rfl (fun s p n h => q_L_Count s p n h) (fun s sep l h => q_L_Split s sep l h) s1 r2 r3 h

noncomputable def k41 := (16, chC R_F16) :: k40

theorem s41 : Sound env (mkOrc pfn k41) := by
  refine Sound.cons s40 ⟨Tryz.f16, fn_16, rfl, by kernel_rfl⟩ fun args H rs H2 hc => ?_
  obtain ⟨l1, group2, id3, offset4, data5, r6, r7, r8, h, rfl, rfl, hx⟩ := chC_some hc
  cases hx
  exact g_F16 s40 rfl (fun l1 r2 m3 h => q_F32 l1 r2 m3 h) (fun l1 group2 id3 r4 r5 r6 h => q_F42 l1 group2 id3 r4 r5 r6 h) (fun v1 r2 h => q_F43 v1 r2 h) (fun s n t h => q_L_Repeat s n t h) (fun s1 r2 r3 h => q_F19 s1 r2 r3 h) l1 group2 id3 offset4 data5 r6 r7 r8 h

noncomputable def k42 := (17, chC R_F17) :: k41

theorem s42 : Sound env (mkOrc pfn k42) := by
  refine Sound.cons s41 ⟨Tryz.f17, fn_17, rfl, by kernel_rfl⟩ fun args H rs H2 hc => ?_
  obtain ⟨l1, group2, name3, r4, r5, h, rfl, rfl, hx⟩ := chC_some hc
  cases hx
  exact g_F17 s41 rfl (fun l1 group2 r3 h => q_F33 l1 group2 r3 h) (fun g1 name2 r3 h => q_F37x1 g1 name2 r3 h) (fun xs l h => q_L_Clone xs l h) l1 group2 name3 r4 r5 h

noncomputable def k43 := (45, chC R_F45) :: k42

theorem s43 : Sound env (mkOrc pfn k43) := by
  refine Sound.cons s42 ⟨Tryz.f45, fn_45, rfl, by kernel_rfl⟩ fun args H rs H2 hc => ?_
  obtain ⟨l1, group2, id3, r4, r5, h, rfl, rfl, hx⟩ := chC_some hc
  cases hx
  exact g_F45 s42 rfl (fun l1 group2 id3 r4 r5 r6 h => q_F58 l1 group2 id3 r4 r5 r6 h) l1 group2 id3 r4 r5 h

noncomputable def k44 := (18, chC R_F18) :: k43

theorem s44 : Sound env (mkOrc pfn k44) := by
  refine Sound.cons s43 ⟨Tryz.f18, fn_18, rfl, by kernel_rfl⟩ fun args H rs H2 hc => ?_
  obtain ⟨l1, group2, id3, name4, r5, r6, h, rfl, rfl, hx⟩ := chC_some hc
  cases hx
  exact g_F18 s43 rfl (fun l1 group2 id3 r4 r5 h => q_F45 l1 group2 id3 r4 r5 h) (fun g1 name2 r3 h => q_F37x1 g1 name2 r3 h) l1 group2 id3 name4 r5 r6 h

noncomputable def k45 := (20, chC R_F20) :: k44

theorem s45 : Sound env (mkOrc pfn k45) := by
  refine Sound.cons s44 ⟨Tryz.f20, fn_20, rfl, by kernel_rfl⟩ fun args H rs H2 hc => ?_
  obtain ⟨a1, b2, r3, h, rfl, rfl, hx⟩ := chC_some hc
  cases hx
  exact g_F20 s44 rfl a1 b2 r3 h

noncomputable def k46 := (48, chC R_F48) :: k45

theorem s46 : Sound env (mkOrc pfn k46) := by
  refine Sound.cons s45 ⟨Tryz.f48, fn_48, rfl, by kernel_rfl⟩ fun args H rs H2 hc => ?_
  obtain ⟨g1, r2, h, rfl, rfl, hx⟩ := chC_some hc
  cases hx
  exact g_F48 s45 rfl (fun name1 r2 h => q_F36 name1 r2 h) (fun g1 name2 r3 h => q_F37x1 g1 name2 r3 h) (fun values1 r2 r3 h => q_F39 values1 r2 r3 h) g1 r2 h

noncomputable def k47 := (21, chC R_F21) :: k46

theorem s47 : Sound env (mkOrc pfn k47) := by
  refine Sound.cons s46 ⟨Tryz.f21, fn_21, rfl, by kernel_rfl⟩ fun args H rs H2 hc => ?_
  obtain ⟨l1, r2, h, rfl, rfl, hx⟩ := chC_some hc
  cases hx
  exact g_F21 s46 rfl (fun g1 r2 h => q_F48 g1 r2 h) l1 r2 h

noncomputable def k48 := (7, chC R_F7) :: k47

theorem s48 : Sound env (mkOrc pfn k48) := by
  refine Sound.cons s47 ⟨Tryz.f7, fn_7, rfl, by kernel_rfl⟩ fun args H rs H2 hc => ?_
  obtain ⟨r1, h, rfl, rfl, hx⟩ := chC_some hc
  cases hx
  exact g_F7 s47 rfl (fun l1 group2 to3 r4 r5 h => q_F13 l1 group2 to3 r4 r5 h) (fun l1 group2 name3 values4 r5 r6 h => q_F14 l1 group2 name3 values4 r5 r6 h) (fun l1 group2 id3 offset4 count5 r6 r7 h => q_F15 l1 group2 id3 offset4 count5 r6 r7 h) (fun l1 group2 id3 offset4 data5 r6 r7 r8 h => q_F16 l1 group2 id3 offset4 data5 r6 r7 r8 h) (fun l1 group2 name3 r4 r5 h => q_F17 l1 group2 name3 r4 r5 h) (fun l1 group2 id3 name4 r5 r6 h => q_F18 l1 group2 id3 name4 r5 r6 h) (fun s1 r2 r3 h => q_F19 s1 r2 r3 h) (fun a1 b2 r3 h => q_F20 a1 b2 r3 h) (fun l1 r2 h => q_F21 l1 r2 h) r1 h

noncomputable def k49 := (49, chC R_F49) :: k48

theorem s49 : Sound env (mkOrc pfn k49) := by
  refine Sound.cons s48 ⟨Tryz.f49, fn_49, rfl, by kernel_rfl⟩ fun args H rs H2 hc => ?_
  obtain ⟨l1, group2, r3, h, rfl, rfl, hx⟩ := chC_some hc
  cases hx
  exact g_F49 s48 rfl l1 group2 r3 h

noncomputable def k50 := (51, chC R_F51) :: k49

theorem s50 : Sound env (mkOrc pfn k50) := by
  refine Sound.cons s49 ⟨Tryz.f51, fn_51, rfl, by kernel_rfl⟩ fun args H rs H2 hc => ?_
  obtain ⟨g1, k2, r3, h, rfl, rfl, hx⟩ := chC_some hc
  cases hx
  exact g_F51 s49 rfl g1 k2 r3 h

noncomputable def k51 := (50, chC R_F50) :: k50

theorem s51 : Sound env (mkOrc pfn k51) := by
  refine Sound.cons s50 ⟨Tryz.f50, fn_50, rfl, by kernel_rfl⟩ fun args H rs H2 hc => ?_
  obtain ⟨l1, i2, g3, r4, h, rfl, rfl, hx⟩ := chC_some hc
  cases hx
  exact g_F50 s50 rfl l1 i2 g3 r4 h

noncomputable def k52 := (81, chC R_F81) :: k51

theorem s52 : Sound env (mkOrc pfn k52) := by
  refine Sound.cons s51 ⟨Tryz.f81, fn_81, rfl, by kernel_rfl⟩ fun args H rs H2 hc => ?_
  obtain ⟨l1, r2, h, rfl, rfl, hx⟩ := chC_some hc
  cases hx
  exact g_F81 s51 rfl l1 r2 h

noncomputable def k53 := (52, chC R_F52) :: k52

theorem s53 : Sound env (mkOrc pfn k53) := by
  refine Sound.cons s52 ⟨Tryz.f52, fn_52, rfl, by kernel_rfl⟩ fun args H rs H2 hc => ?_
  obtain ⟨g1, k2, values3, r4, h, rfl, rfl, hx⟩ := chC_some hc
  cases hx
  exact g_F52 s52 rfl (fun l1 r2 h => q_F81 l1 r2 h) g1 k2 values3 r4 h

noncomputable def k54 := (53, chC R_F53) :: k53

theorem s54 : Sound env (mkOrc pfn k54) := by
  refine Sound.cons s53 ⟨Tryz.f53, fn_53, rfl, by kernel_rfl⟩ fun args H rs H2 hc => ?_
  obtain ⟨g1, name2, values3, r4, r5, h, rfl, rfl, hx⟩ := chC_some hc
  cases hx
  exact g_F53 s53 rfl (fun l1 r2 h => q_F81 l1 r2 h) g1 name2 values3 r4 r5 h

noncomputable def k55 := (22, chC R_F22) :: k54

theorem s55 : Sound env (mkOrc pfn k55) := by
  refine Sound.cons s54 ⟨Tryz.f22, fn_22, rfl, by kernel_rfl⟩ fun args H rs H2 hc => ?_
  obtain ⟨l1, group2, name3, values4, r5, r6, h, rfl, rfl, hx⟩ := chC_some hc
  cases hx
  exact g_F22 s54 rfl (fun l1 group2 r3 h => q_F49 l1 group2 r3 h) (fun name1 r2 h => q_F11 name1 r2 h) (fun g1 name2 r3 h => q_F12 g1 name2 r3 h) (fun g1 k2 r3 h => q_F51 g1 k2 r3 h) (fun l1 i2 g3 r4 h => q_F50 l1 i2 g3 r4 h) (fun values1 r2 r3 h => q_F10 values1 r2 r3 h) (fun g1 k2 values3 r4 h => q_F52 g1 k2 values3 r4 h) (fun g1 name2 values3 r4 r5 h => q_F53 g1 name2 values3 r4 r5 h) l1 group2 name3 values4 r5 r6 h

noncomputable def k56 := (54, chC R_F54) :: k55

theorem s56 : Sound env (mkOrc pfn k56) := by
  refine Sound.cons s55 ⟨Tryz.f54, fn_54, rfl, by kernel_rfl⟩ fun args H rs H2 hc => ?_
  obtain ⟨a1, b2, r3, h, rfl, rfl, hx⟩ := chC_some hc
  cases hx
  exact g_F54 s55 rfl (fun a1 b2 r3 h => q_F20 a1 b2 r3 h) a1 b2 r3 h

noncomputable def k57 := (23, chC R_F23) :: k56

theorem s57 : Sound env (mkOrc pfn k57) := by
  refine Sound.cons s56 ⟨Tryz.f23, fn_23, rfl, by kernel_rfl⟩ fun args H rs H2 hc => ?_
  obtain ⟨a1, b2, r3, h, rfl, rfl, hx⟩ := chC_some hc
  cases hx
  exact g_F23 s56 rfl (fun a1 b2 r3 h => q_F54 a1 b2 r3 h) a1 b2 r3 h

noncomputable def k58 := (24, chC R_F24) :: k57

theorem s58 : Sound env (mkOrc pfn k58) := by
  refine Sound.cons s57 ⟨Tryz.f24, fn_24, rfl, by kernel_rfl⟩ fun args H rs H2 hc => ?_
  obtain ⟨l1, group2, to3, r4, r5, h, rfl, rfl, hx⟩ := chC_some hc
  cases hx
  exact g_F24 s57 rfl (fun l1 group2 r3 h => q_F49 l1 group2 r3 h) l1 group2 to3 r4 r5 h

noncomputable def k59 := (25, chC R_F25) :: k58

theorem s59 : Sound env (mkOrc pfn k59) := by
  refine Sound.cons s58 ⟨Tryz.f25, fn_25, rfl, by kernel_rfl⟩ fun args H rs H2 hc => ?_
  obtain ⟨l1, group2, id3, name4, r5, r6, r7, h, rfl, rfl, hx⟩ := chC_some hc
  cases hx
  exact g_F25 s58 rfl (fun l1 r2 m3 h => q_F32 l1 r2 m3 h) (fun l1 group2 id3 r4 r5 h => q_F45 l1 group2 id3 r4 r5 h) (fun name1 r2 h => q_F36 name1 r2 h) (fun g1 name2 r3 h => q_F37x1 g1 name2 r3 h) (fun g1 name2 values3 r4 r5 h => q_F41 g1 name2 values3 r4 r5 h) l1 group2 id3 name4 r5 r6 r7 h

noncomputable def k60 := (55, chC R_F55) :: k59

theorem s60 : Sound env (mkOrc pfn k60) := by
  refine Sound.cons s59 ⟨Tryz.f55, fn_55, rfl, by kernel_rfl⟩ fun args H rs H2 hc => ?_
  obtain ⟨l1, group2, id3, r4, r5, r6, h, rfl, rfl, hx⟩ := chC_some hc
  cases hx
  exact g_F55 s59 rfl (fun l1 group2 r3 h => q_F49 l1 group2 r3 h) l1 group2 id3 r4 r5 r6 h

noncomputable def k61 := (26, chC R_F26) :: k60

theorem s61 : Sound env (mkOrc pfn k61) := by
  refine Sound.cons s60 ⟨Tryz.f26, fn_26, rfl, by kernel_rfl⟩ fun args H rs H2 hc => ?_
  obtain ⟨l1, group2, id3, name4, r5, r6, r7, h, rfl, rfl, hx⟩ := chC_some hc
  cases hx
  exact g_F26 s60 rfl (fun l1 group2 id3 r4 r5 r6 h => q_F55 l1 group2 id3 r4 r5 r6 h) (fun name1 r2 h => q_F11 name1 r2 h) (fun g1 name2 r3 h => q_F12 g1 name2 r3 h) (fun g1 name2 values3 r4 r5 h => q_F53 g1 name2 values3 r4 r5 h) (fun l1 i2 g3 r4 h => q_F50 l1 i2 g3 r4 h) l1 group2 id3 name4 r5 r6 r7 h

noncomputable def k62 := (56, chC R_F56) :: k61

theorem s62 : Sound env (mkOrc pfn k62) := by
  refine Sound.cons s61 ⟨Tryz.f56, fn_56, rfl, by kernel_rfl⟩ fun args H rs H2 hc => ?_
  obtain ⟨l1, group2, id3, r4, r5, r6, r7, h, rfl, rfl, hx⟩ := chC_some hc
  cases hx
  exact g_F56 s61 rfl (fun l1 group2 id3 r4 r5 r6 h => q_F55 l1 group2 id3 r4 r5 r6 h) (fun values1 r2 r3 h => q_F10 values1 r2 r3 h) l1 group2 id3 r4 r5 r6 r7 h

noncomputable def k63 := (57, chC R_F57) :: k62

theorem s63 : Sound env (mkOrc pfn k63) := by
  refine Sound.cons s62 ⟨Tryz.f57, fn_57, rfl, by kernel_rfl⟩ fun args H rs H2 hc => ?_
  obtain ⟨s1, r2, r3, h, rfl, rfl, hx⟩ := chC_some hc
  cases hx
  exact g_F57 s62 rfl s1 r2 r3 h

noncomputable def k64 := (27, chC R_F27) :: k63

theorem s64 : Sound env (mkOrc pfn k64) := by
  refine Sound.cons s63 ⟨Tryz.f27, fn_27, rfl, by kernel_rfl⟩ fun args H rs H2 hc => ?_
  obtain ⟨l1, group2, id3, offset4, data5, r6, r7, r8, h, rfl, rfl, hx⟩ := chC_some hc
  cases hx
  exact g_F27 s63 rfl (fun l1 group2 id3 r4 r5 r6 r7 h => q_F56 l1 group2 id3 r4 r5 r6 r7 h) (fun s1 r2 r3 h => q_F57 s1 r2 r3 h) (fun g1 k2 values3 r4 h => q_F52 g1 k2 values3 r4 h) (fun l1 i2 g3 r4 h => q_F50 l1 i2 g3 r4 h) l1 group2 id3 offset4 data5 r6 r7 r8 h

noncomputable def k65 := (28, chC R_F28) :: k64

theorem s65 : Sound env (mkOrc pfn k65) := by
  refine Sound.cons s64 ⟨Tryz.f28, fn_28, rfl, by kernel_rfl⟩ fun args H rs H2 hc => ?_
  obtain ⟨l1, group2, id3, r4, r5, h, rfl, rfl, hx⟩ := chC_some hc
  cases hx
  exact g_F28 s64 rfl (fun l1 r2 m3 h => q_F32 l1 r2 m3 h) (fun l1 group2 id3 r4 r5 r6 h => q_F42 l1 group2 id3 r4 r5 r6 h) l1 group2 id3 r4 r5 h

noncomputable def k66 := (29, chC R_F29) :: k65

theorem s66 : Sound env (mkOrc pfn k66) := by
  refine Sound.cons s65 ⟨Tryz.f29, fn_29, rfl, by kernel_rfl⟩ fun args H rs H2 hc => ?_
  obtain ⟨l1, group2, id3, r4, r5, h, rfl, rfl, hx⟩ := chC_some hc
  cases hx
  exact g_F29 s65 rfl (fun l1 group2 id3 r4 r5 r6 r7 h => q_F56 l1 group2 id3 r4 r5 r6 r7 h) (fun g1 k2 values3 r4 h => q_F52 g1 k2 values3 r4 h) (fun l1 i2 g3 r4 h => q_F50 l1 i2 g3 r4 h) l1 group2 id3 r4 r5 h

noncomputable def k67 := (30, chC R_F30) :: k66

theorem s67 : Sound env (mkOrc pfn k67) := by
  refine Sound.cons s66 ⟨Tryz.f30, fn_30, rfl, by kernel_rfl⟩ fun args H rs H2 hc => ?_
  obtain ⟨l1, group2, id3, r4, r5, h, rfl, rfl, hx⟩ := chC_some hc
  cases hx
  exact g_F30 s66 rfl (fun l1 r2 m3 h => q_F32 l1 r2 m3 h) (fun l1 group2 id3 r4 r5 r6 h => q_F58 l1 group2 id3 r4 r5 r6 h) (fun xs i j r y h => q_L_DeleteV xs i j r y h) l1 group2 id3 r4 r5 h

noncomputable def k68 := (31, chC R_F31) :: k67

theorem s68 : Sound env (mkOrc pfn k68) := by
  refine Sound.cons s67 ⟨Tryz.f31, fn_31, rfl, by kernel_rfl⟩ fun args H rs H2 hc => ?_
  obtain ⟨l1, group2, id3, r4, r5, h, rfl, rfl, hx⟩ := chC_some hc
  cases hx
  exact g_F31 s67 rfl (fun l1 group2 id3 r4 r5 r6 h => q_F55 l1 group2 id3 r4 r5 r6 h) (fun g1 k2 r3 h => q_F51 g1 k2 r3 h) (fun l1 i2 g3 r4 h => q_F50 l1 i2 g3 r4 h) l1 group2 id3 r4 r5 h

noncomputable def k69 := (8, chC R_F8) :: k68

theorem s69 : Sound env (mkOrc pfn k69) := by
  refine Sound.cons s68 ⟨Tryz.f8, fn_8, rfl, by kernel_rfl⟩ fun args H rs H2 hc => ?_
  obtain ⟨l1, o2, r3, r4, h, rfl, rfl, hx⟩ := chC_some hc
  cases hx
  exact g_F8 s68 rfl (fun l1 group2 name3 values4 r5 r6 h => q_F14 l1 group2 name3 values4 r5 r6 h) (fun l1 group2 name3 values4 r5 r6 h => q_F22 l1 group2 name3 values4 r5 r6 h) (fun a1 b2 r3 h => q_F23 a1 b2 r3 h) (fun l1 group2 to3 r4 r5 h => q_F13 l1 group2 to3 r4 r5 h) (fun l1 group2 to3 r4 r5 h => q_F24 l1 group2 to3 r4 r5 h) (fun l1 group2 id3 name4 r5 r6 r7 h => q_F25 l1 group2 id3 name4 r5 r6 r7 h) (fun l1 group2 id3 name4 r5 r6 r7 h => q_F26 l1 group2 id3 name4 r5 r6 r7 h) (fun l1 group2 id3 offset4 data5 r6 r7 r8 h => q_F16 l1 group2 id3 offset4 data5 r6 r7 r8 h) (fun l1 group2 id3 offset4 data5 r6 r7 r8 h => q_F27 l1 group2 id3 offset4 data5 r6 r7 r8 h) (fun l1 group2 id3 r4 r5 h => q_F28 l1 group2 id3 r4 r5 h) (fun l1 group2 id3 r4 r5 h => q_F29 l1 group2 id3 r4 r5 h) (fun l1 group2 id3 r4 r5 h => q_F30 l1 group2 id3 r4 r5 h) (fun l1 group2 id3 r4 r5 h => q_F31 l1 group2 id3 r4 r5 h) l1 o2 r3 r4 h

noncomputable def k70 := (3, chC R_F3) :: k69

theorem s70 : Sound env (mkOrc pfn k70) := by
  refine Sound.cons s69 ⟨Tryz.f3, fn_3, rfl, by kernel_rfl⟩ fun args H rs H2 hc => ?_
  obtain ⟨l1, o2, r3, h, rfl, rfl, hx⟩ := chC_some hc
  cases hx
  exact g_F3 s69 rfl (fun l1 r2 h => q_F4 l1 r2 h) (fun o1 r2 h => q_F5 o1 r2 h) (fun l1 r2 h => q_F6 l1 r2 h) (fun r1 h => q_F7 r1 h) (fun l1 o2 r3 r4 h => q_F8 l1 o2 r3 r4 h) l1 o2 r3 h

theorem good_F3 (l1 : List GEnv) (o2 : GOp) (h : F3 l1 o2 = some true) : Good env 3 [.pv (.slice (List.map GEnv.pv l1)), .pv (.agg [.int .i64 o2.kind_, .int .i64 o2.group_, .int .i64 o2.to_, .int .i64 o2.id_, .str o2.name_, .slice (List.map PV.str o2.values_), .int .i64 o2.offset_, .str o2.data_])] [] [.pv (.bool true)] [] := (s70 3 _ _ _ _ (q_F3 l1 o2 true h)).1

end Go.Abs.U2Z
