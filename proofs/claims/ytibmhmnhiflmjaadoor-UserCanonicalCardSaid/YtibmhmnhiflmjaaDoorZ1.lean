/- The layer 5 laws: all of the functions together. -/
import Derived.Test.YtibmhmnhiflmjaaDoorLG
import Derived.Test.YtibmhmnhiflmjaaDoorW1
import Derived.Test.YtibmhmnhiflmjaaDoorW2
import Derived.Test.YtibmhmnhiflmjaaDoorW3
import Derived.Test.YtibmhmnhiflmjaaDoorW4
set_option linter.unusedVariables false
set_option linter.unusedSimpArgs false
namespace Go.Abs.U05
open Go.RowKit Go.Proofs

def R_L_WriteString : List AV → List AObj → List AV × List AObj → Prop := fun args H x => ∃ (b : Str) (s : Str) (n : Int) (c : Str), L_WriteString b s = some (n, c) ∧ args = [.ref 0 0, .pv (.str s)] ∧ H = [.bld b] ∧ x = ([.pv (.int .i64 n), .pv (.nil)], [.bld c])

theorem q_L_WriteString (b : Str) (s : Str) (n : Int) (c : Str) (h : L_WriteString b s = some (n, c)) : chC R_L_WriteString [.ref 0 0, .pv (.str s)] [.bld b] = some ([.pv (.int .i64 n), .pv (.nil)], [.bld c]) := by
  refine chC_eq ⟨b, s, n, c, h, rfl, rfl, rfl⟩ ?_
  rintro y ⟨bp, sp, np, cp, hp, ha, hH, rfl⟩
  simp only [List.cons.injEq, AV.pv.injEq, and_true, true_and] at ha
  have ya0 := ha
  have e_s := str_inj ya0
  simp only [List.cons.injEq, AObj.bld.injEq, AObj.map.injEq, AObj.row.injEq, AObj.var.injEq, AV.pv.injEq, and_true, true_and] at hH
  have yb0 := hH
  have e_b := yb0
  subst e_b
  subst e_s
  rw [h] at hp
  cases hp
  rfl

def R_L_Join : List AV → List AObj → List AV × List AObj → Prop := fun args H x => ∃ (xs : List Str) (sep : Str) (s : Str), L_Join xs sep = some s ∧ args = [.pv (.slice (List.map PV.str xs)), .pv (.str sep)] ∧ H = [] ∧ x = ([.pv (.str s)], [])

theorem q_L_Join (xs : List Str) (sep : Str) (s : Str) (h : L_Join xs sep = some s) : chC R_L_Join [.pv (.slice (List.map PV.str xs)), .pv (.str sep)] [] = some ([.pv (.str s)], []) := by
  refine chC_eq ⟨xs, sep, s, h, rfl, rfl, rfl⟩ ?_
  rintro y ⟨xsp, sepp, sp, hp, ha, hH, rfl⟩
  simp only [List.cons.injEq, AV.pv.injEq, and_true, true_and] at ha
  obtain ⟨ya0, ya1⟩ := ha
  have e_xs := map_inj_of (fun _ _ => str_inj) (PV.slice.inj ya0)
  have e_sep := str_inj ya1
  subst e_xs
  subst e_sep
  rw [h] at hp
  cases hp
  rfl

def R_L_String : List AV → List AObj → List AV × List AObj → Prop := fun args H x => ∃ (b : Str) (s : Str), L_String b = some s ∧ args = [.ref 0 0] ∧ H = [.bld b] ∧ x = ([.pv (.str s)], [.gone])

theorem q_L_String (b : Str) (s : Str) (h : L_String b = some s) : chC R_L_String [.ref 0 0] [.bld b] = some ([.pv (.str s)], [.gone]) := by
  refine chC_eq ⟨b, s, h, rfl, rfl, rfl⟩ ?_
  rintro y ⟨bp, sp, hp, ha, hH, rfl⟩
  simp only [List.cons.injEq, AObj.bld.injEq, AObj.map.injEq, AObj.row.injEq, AObj.var.injEq, AV.pv.injEq, and_true, true_and] at hH
  have yb0 := hH
  have e_b := yb0
  subst e_b
  rw [h] at hp
  cases hp
  rfl

def R_L_Clone : List AV → List AObj → List AV × List AObj → Prop := fun args H x => ∃ (xs : List Str) (l : List Str), L_Clone xs = some l ∧ args = [.pv (.slice (List.map PV.str xs))] ∧ H = [] ∧ x = ([.pv (.slice (List.map PV.str l))], [])

theorem q_L_Clone (xs : List Str) (l : List Str) (h : L_Clone xs = some l) : chC R_L_Clone [.pv (.slice (List.map PV.str xs))] [] = some ([.pv (.slice (List.map PV.str l))], []) := by
  refine chC_eq ⟨xs, l, h, rfl, rfl, rfl⟩ ?_
  rintro y ⟨xsp, lp, hp, ha, hH, rfl⟩
  simp only [List.cons.injEq, AV.pv.injEq, and_true, true_and] at ha
  have ya0 := ha
  have e_xs := map_inj_of (fun _ _ => str_inj) (PV.slice.inj ya0)
  subst e_xs
  rw [h] at hp
  cases hp
  rfl

def R_L_Contains : List AV → List AObj → List AV × List AObj → Prop := fun args H x => ∃ (xs : List Str) (s : Str) (ok : Bool), L_Contains xs s = some ok ∧ args = [.pv (.slice (List.map PV.str xs)), .pv (.str s)] ∧ H = [] ∧ x = ([.pv (.bool ok)], [])

theorem q_L_Contains (xs : List Str) (s : Str) (ok : Bool) (h : L_Contains xs s = some ok) : chC R_L_Contains [.pv (.slice (List.map PV.str xs)), .pv (.str s)] [] = some ([.pv (.bool ok)], []) := by
  refine chC_eq ⟨xs, s, ok, h, rfl, rfl, rfl⟩ ?_
  rintro y ⟨xsp, sp, okp, hp, ha, hH, rfl⟩
  simp only [List.cons.injEq, AV.pv.injEq, and_true, true_and] at ha
  obtain ⟨ya0, ya1⟩ := ha
  have e_xs := map_inj_of (fun _ _ => str_inj) (PV.slice.inj ya0)
  have e_s := str_inj ya1
  subst e_xs
  subst e_s
  rw [h] at hp
  cases hp
  rfl

def R_L_Cut : List AV → List AObj → List AV × List AObj → Prop := fun args H x => ∃ (s : Str) (sep : Str) (a : Str) (b : Str) (ok : Bool), L_Cut s sep = some (a, b, ok) ∧ args = [.pv (.str s), .pv (.str sep)] ∧ H = [] ∧ x = ([.pv (.str a), .pv (.str b), .pv (.bool ok)], [])

theorem q_L_Cut (s : Str) (sep : Str) (a : Str) (b : Str) (ok : Bool) (h : L_Cut s sep = some (a, b, ok)) : chC R_L_Cut [.pv (.str s), .pv (.str sep)] [] = some ([.pv (.str a), .pv (.str b), .pv (.bool ok)], []) := by
  refine chC_eq ⟨s, sep, a, b, ok, h, rfl, rfl, rfl⟩ ?_
  rintro y ⟨sp, sepp, ap, bp, okp, hp, ha, hH, rfl⟩
  simp only [List.cons.injEq, AV.pv.injEq, and_true, true_and] at ha
  obtain ⟨ya0, ya1⟩ := ha
  have e_s := str_inj ya0
  have e_sep := str_inj ya1
  subst e_s
  subst e_sep
  rw [h] at hp
  cases hp
  rfl

def R_L_Split : List AV → List AObj → List AV × List AObj → Prop := fun args H x => ∃ (s : Str) (sep : Str) (l : List Str), L_Split s sep = some l ∧ args = [.pv (.str s), .pv (.str sep)] ∧ H = [] ∧ x = ([.pv (.slice (List.map PV.str l))], [])

theorem q_L_Split (s : Str) (sep : Str) (l : List Str) (h : L_Split s sep = some l) : chC R_L_Split [.pv (.str s), .pv (.str sep)] [] = some ([.pv (.slice (List.map PV.str l))], []) := by
  refine chC_eq ⟨s, sep, l, h, rfl, rfl, rfl⟩ ?_
  rintro y ⟨sp, sepp, lp, hp, ha, hH, rfl⟩
  simp only [List.cons.injEq, AV.pv.injEq, and_true, true_and] at ha
  obtain ⟨ya0, ya1⟩ := ha
  have e_s := str_inj ya0
  have e_sep := str_inj ya1
  subst e_s
  subst e_sep
  rw [h] at hp
  cases hp
  rfl

def R_F28 : List AV → List AObj → List AV × List AObj → Prop := fun args H x => ∃ (r1 : List User), F28 = some r1 ∧ args = [] ∧ H = [] ∧ x = ([.pv (.slice (List.map User.pv r1))], [])

theorem q_F28 (r1 : List User) (h : F28 = some r1) : chC R_F28 [] [] = some ([.pv (.slice (List.map User.pv r1))], []) := by
  refine chC_eq ⟨r1, h, rfl, rfl, rfl⟩ ?_
  rintro y ⟨r1p, hp, ha, hH, rfl⟩
  rw [h] at hp
  cases hp
  rfl

def R_F11 : List AV → List AObj → List AV × List AObj → Prop := fun args H x => ∃ (name1 : Str) (r2 : Bool), F11 name1 = some r2 ∧ args = [.pv (.str name1)] ∧ H = [] ∧ x = ([.pv (.bool r2)], [])

theorem q_F11 (name1 : Str) (r2 : Bool) (h : F11 name1 = some r2) : chC R_F11 [.pv (.str name1)] [] = some ([.pv (.bool r2)], []) := by
  refine chC_eq ⟨name1, r2, h, rfl, rfl, rfl⟩ ?_
  rintro y ⟨name1p, r2p, hp, ha, hH, rfl⟩
  simp only [List.cons.injEq, AV.pv.injEq, and_true, true_and] at ha
  have ya0 := ha
  have e_name1 := str_inj ya0
  subst e_name1
  rw [h] at hp
  cases hp
  rfl

def R_F32 : List AV → List AObj → List AV × List AObj → Prop := fun args H x => ∃ (l1 : List Str) (m2 : List (Str × Int)) (r3 : Int), F32 l1 m2 = some r3 ∧ args = [.mref 0, .pv (.slice (List.map PV.str l1))] ∧ H = [.map (mp m2)] ∧ x = ([.pv (.int .i64 r3)], [.map (mp m2)])

theorem q_F32 (l1 : List Str) (m2 : List (Str × Int)) (r3 : Int) (h : F32 l1 m2 = some r3) : chC R_F32 [.mref 0, .pv (.slice (List.map PV.str l1))] [.map (mp m2)] = some ([.pv (.int .i64 r3)], [.map (mp m2)]) := by
  refine chC_eq ⟨l1, m2, r3, h, rfl, rfl, rfl⟩ ?_
  rintro y ⟨l1p, m2p, r3p, hp, ha, hH, rfl⟩
  simp only [List.cons.injEq, AV.pv.injEq, and_true, true_and] at ha
  have ya0 := ha
  have e_l1 := map_inj_of (fun _ _ => str_inj) (PV.slice.inj ya0)
  simp only [List.cons.injEq, AObj.bld.injEq, AObj.map.injEq, AObj.row.injEq, AObj.var.injEq, AV.pv.injEq, and_true, true_and] at hH
  have yb0 := hH
  have e_m2 := mp_inj yb0
  subst e_l1
  subst e_m2
  rw [h] at hp
  cases hp
  rfl

def R_F16 : List AV → List AObj → List AV × List AObj → Prop := fun args H x => ∃ (l1 : List User) (r2 : Int), F16 l1 = some r2 ∧ args = [.pv (.slice (List.map User.pv l1))] ∧ H = [] ∧ x = ([.pv (.int .i64 r2)], [])

theorem q_F16 (l1 : List User) (r2 : Int) (h : F16 l1 = some r2) : chC R_F16 [.pv (.slice (List.map User.pv l1))] [] = some ([.pv (.int .i64 r2)], []) := by
  refine chC_eq ⟨l1, r2, h, rfl, rfl, rfl⟩ ?_
  rintro y ⟨l1p, r2p, hp, ha, hH, rfl⟩
  simp only [List.cons.injEq, AV.pv.injEq, and_true, true_and] at ha
  have ya0 := ha
  have e_l1 := map_inj_of (fun _ _ => User.inj) (PV.slice.inj ya0)
  subst e_l1
  rw [h] at hp
  cases hp
  rfl

def R_F14 : List AV → List AObj → List AV × List AObj → Prop := fun args H x => ∃ (l1 : List User) (r2 : Str) (r3 : Int), F14 l1 = some (r2, r3) ∧ args = [.pv (.slice (List.map User.pv l1))] ∧ H = [] ∧ x = ([.pv (.str r2), .pv (.int .i64 r3)], [])

theorem q_F14 (l1 : List User) (r2 : Str) (r3 : Int) (h : F14 l1 = some (r2, r3)) : chC R_F14 [.pv (.slice (List.map User.pv l1))] [] = some ([.pv (.str r2), .pv (.int .i64 r3)], []) := by
  refine chC_eq ⟨l1, r2, r3, h, rfl, rfl, rfl⟩ ?_
  rintro y ⟨l1p, r2p, r3p, hp, ha, hH, rfl⟩
  simp only [List.cons.injEq, AV.pv.injEq, and_true, true_and] at ha
  have ya0 := ha
  have e_l1 := map_inj_of (fun _ _ => User.inj) (PV.slice.inj ya0)
  subst e_l1
  rw [h] at hp
  cases hp
  rfl

def R_F38 : List AV → List AObj → List AV × List AObj → Prop := fun args H x => ∃ (s1 : Str) (r2 : User) (r3 : Bool), F38 s1 = some (r2, r3) ∧ args = [.pv (.str s1)] ∧ H = [] ∧ x = ([.pv (.agg [.str r2.name_, .str r2.leader_, .slice (List.map PV.str r2.members_)]), .pv (.bool r3)], [])

theorem q_F38 (s1 : Str) (r2 : User) (r3 : Bool) (h : F38 s1 = some (r2, r3)) : chC R_F38 [.pv (.str s1)] [] = some ([.pv (.agg [.str r2.name_, .str r2.leader_, .slice (List.map PV.str r2.members_)]), .pv (.bool r3)], []) := by
  refine chC_eq ⟨s1, r2, r3, h, rfl, rfl, rfl⟩ ?_
  rintro y ⟨s1p, r2p, r3p, hp, ha, hH, rfl⟩
  simp only [List.cons.injEq, AV.pv.injEq, and_true, true_and] at ha
  have ya0 := ha
  have e_s1 := str_inj ya0
  subst e_s1
  rw [h] at hp
  cases hp
  rfl

def R_F25 : List AV → List AObj → List AV × List AObj → Prop := fun args H x => ∃ (s1 : Str) (r2 : List User) (r3 : Int) (r4 : Int), F25 s1 = some (r2, r3, r4) ∧ args = [.pv (.str s1)] ∧ H = [] ∧ x = ([.pv (.slice (List.map User.pv r2)), .pv (.int .i64 r3), .pv (.int .i64 r4)], [])

theorem q_F25 (s1 : Str) (r2 : List User) (r3 : Int) (r4 : Int) (h : F25 s1 = some (r2, r3, r4)) : chC R_F25 [.pv (.str s1)] [] = some ([.pv (.slice (List.map User.pv r2)), .pv (.int .i64 r3), .pv (.int .i64 r4)], []) := by
  refine chC_eq ⟨s1, r2, r3, r4, h, rfl, rfl, rfl⟩ ?_
  rintro y ⟨s1p, r2p, r3p, r4p, hp, ha, hH, rfl⟩
  simp only [List.cons.injEq, AV.pv.injEq, and_true, true_and] at ha
  have ya0 := ha
  have e_s1 := str_inj ya0
  subst e_s1
  rw [h] at hp
  cases hp
  rfl

def R_F20 : List AV → List AObj → List AV × List AObj → Prop := fun args H x => ∃ (a1 : User) (b2 : User) (r3 : Bool), F20 a1 b2 = some r3 ∧ args = [.pv (.agg [.str a1.name_, .str a1.leader_, .slice (List.map PV.str a1.members_)]), .pv (.agg [.str b2.name_, .str b2.leader_, .slice (List.map PV.str b2.members_)])] ∧ H = [] ∧ x = ([.pv (.bool r3)], [])

theorem q_F20 (a1 : User) (b2 : User) (r3 : Bool) (h : F20 a1 b2 = some r3) : chC R_F20 [.pv (.agg [.str a1.name_, .str a1.leader_, .slice (List.map PV.str a1.members_)]), .pv (.agg [.str b2.name_, .str b2.leader_, .slice (List.map PV.str b2.members_)])] [] = some ([.pv (.bool r3)], []) := by
  refine chC_eq ⟨a1, b2, r3, h, rfl, rfl, rfl⟩ ?_
  rintro y ⟨a1p, b2p, r3p, hp, ha, hH, rfl⟩
  simp only [List.cons.injEq, AV.pv.injEq, and_true, true_and] at ha
  obtain ⟨ya0, ya1⟩ := ha
  have e_a1 := User.inj (x := a1) (y := a1p) ya0
  have e_b2 := User.inj (x := b2) (y := b2p) ya1
  subst e_a1
  subst e_b2
  rw [h] at hp
  cases hp
  rfl

def R_F27 : List AV → List AObj → List AV × List AObj → Prop := fun args H x => ∃ (a1 : List User) (b2 : List User) (r3 : Bool), F27 a1 b2 = some r3 ∧ args = [.pv (.slice (List.map User.pv a1)), .pv (.slice (List.map User.pv b2))] ∧ H = [] ∧ x = ([.pv (.bool r3)], [])

theorem q_F27 (a1 : List User) (b2 : List User) (r3 : Bool) (h : F27 a1 b2 = some r3) : chC R_F27 [.pv (.slice (List.map User.pv a1)), .pv (.slice (List.map User.pv b2))] [] = some ([.pv (.bool r3)], []) := by
  refine chC_eq ⟨a1, b2, r3, h, rfl, rfl, rfl⟩ ?_
  rintro y ⟨a1p, b2p, r3p, hp, ha, hH, rfl⟩
  simp only [List.cons.injEq, AV.pv.injEq, and_true, true_and] at ha
  obtain ⟨ya0, ya1⟩ := ha
  have e_a1 := map_inj_of (fun _ _ => User.inj) (PV.slice.inj ya0)
  have e_b2 := map_inj_of (fun _ _ => User.inj) (PV.slice.inj ya1)
  subst e_a1
  subst e_b2
  rw [h] at hp
  cases hp
  rfl

def R_F18 : List AV → List AObj → List AV × List AObj → Prop := fun args H x => ∃ (l1 : List User) (name2 : Str) (r3 : User) (r4 : Bool), F18 l1 name2 = some (r3, r4) ∧ args = [.pv (.slice (List.map User.pv l1)), .pv (.str name2)] ∧ H = [] ∧ x = ([.pv (.agg [.str r3.name_, .str r3.leader_, .slice (List.map PV.str r3.members_)]), .pv (.bool r4)], [])

theorem q_F18 (l1 : List User) (name2 : Str) (r3 : User) (r4 : Bool) (h : F18 l1 name2 = some (r3, r4)) : chC R_F18 [.pv (.slice (List.map User.pv l1)), .pv (.str name2)] [] = some ([.pv (.agg [.str r3.name_, .str r3.leader_, .slice (List.map PV.str r3.members_)]), .pv (.bool r4)], []) := by
  refine chC_eq ⟨l1, name2, r3, r4, h, rfl, rfl, rfl⟩ ?_
  rintro y ⟨l1p, name2p, r3p, r4p, hp, ha, hH, rfl⟩
  simp only [List.cons.injEq, AV.pv.injEq, and_true, true_and] at ha
  obtain ⟨ya0, ya1⟩ := ha
  have e_l1 := map_inj_of (fun _ _ => User.inj) (PV.slice.inj ya0)
  have e_name2 := str_inj ya1
  subst e_l1
  subst e_name2
  rw [h] at hp
  cases hp
  rfl

def R_F21 : List AV → List AObj → List AV × List AObj → Prop := fun args H x => ∃ (l1 : List User) (user2 : Str) (group3 : Str) (r4 : Bool), F21 l1 user2 group3 = some r4 ∧ args = [.pv (.slice (List.map User.pv l1)), .pv (.str user2), .pv (.str group3)] ∧ H = [] ∧ x = ([.pv (.bool r4)], [])

theorem q_F21 (l1 : List User) (user2 : Str) (group3 : Str) (r4 : Bool) (h : F21 l1 user2 group3 = some r4) : chC R_F21 [.pv (.slice (List.map User.pv l1)), .pv (.str user2), .pv (.str group3)] [] = some ([.pv (.bool r4)], []) := by
  refine chC_eq ⟨l1, user2, group3, r4, h, rfl, rfl, rfl⟩ ?_
  rintro y ⟨l1p, user2p, group3p, r4p, hp, ha, hH, rfl⟩
  simp only [List.cons.injEq, AV.pv.injEq, and_true, true_and] at ha
  obtain ⟨ya0, ya1, ya2⟩ := ha
  have e_l1 := map_inj_of (fun _ _ => User.inj) (PV.slice.inj ya0)
  have e_user2 := str_inj ya1
  have e_group3 := str_inj ya2
  subst e_l1
  subst e_user2
  subst e_group3
  rw [h] at hp
  cases hp
  rfl

def R_F23 : List AV → List AObj → List AV × List AObj → Prop := fun args H x => ∃ (l1 : List User) (user2 : Str) (group3 : Str) (r4 : Bool), F23 l1 user2 group3 = some r4 ∧ args = [.pv (.slice (List.map User.pv l1)), .pv (.str user2), .pv (.str group3)] ∧ H = [] ∧ x = ([.pv (.bool r4)], [])

theorem q_F23 (l1 : List User) (user2 : Str) (group3 : Str) (r4 : Bool) (h : F23 l1 user2 group3 = some r4) : chC R_F23 [.pv (.slice (List.map User.pv l1)), .pv (.str user2), .pv (.str group3)] [] = some ([.pv (.bool r4)], []) := by
  refine chC_eq ⟨l1, user2, group3, r4, h, rfl, rfl, rfl⟩ ?_
  rintro y ⟨l1p, user2p, group3p, r4p, hp, ha, hH, rfl⟩
  simp only [List.cons.injEq, AV.pv.injEq, and_true, true_and] at ha
  obtain ⟨ya0, ya1, ya2⟩ := ha
  have e_l1 := map_inj_of (fun _ _ => User.inj) (PV.slice.inj ya0)
  have e_user2 := str_inj ya1
  have e_group3 := str_inj ya2
  subst e_l1
  subst e_user2
  subst e_group3
  rw [h] at hp
  cases hp
  rfl

def R_F10 : List AV → List AObj → List AV × List AObj → Prop := fun args H x => ∃ (r1 : Bool), F10 = some r1 ∧ args = [] ∧ H = [] ∧ x = ([.pv (.bool r1)], [])

theorem q_F10 (r1 : Bool) (h : F10 = some r1) : chC R_F10 [] [] = some ([.pv (.bool r1)], []) := by
  refine chC_eq ⟨r1, h, rfl, rfl, rfl⟩ ?_
  rintro y ⟨r1p, hp, ha, hH, rfl⟩
  rw [h] at hp
  cases hp
  rfl

def R_F12 : List AV → List AObj → List AV × List AObj → Prop := fun args H x => ∃ (name1 : Str) (r2 : Bool), F12 name1 = some r2 ∧ args = [.pv (.str name1)] ∧ H = [] ∧ x = ([.pv (.bool r2)], [])

theorem q_F12 (name1 : Str) (r2 : Bool) (h : F12 name1 = some r2) : chC R_F12 [.pv (.str name1)] [] = some ([.pv (.bool r2)], []) := by
  refine chC_eq ⟨name1, r2, h, rfl, rfl, rfl⟩ ?_
  rintro y ⟨name1p, r2p, hp, ha, hH, rfl⟩
  simp only [List.cons.injEq, AV.pv.injEq, and_true, true_and] at ha
  have ya0 := ha
  have e_name1 := str_inj ya0
  subst e_name1
  rw [h] at hp
  cases hp
  rfl

def R_F3 : List AV → List AObj → List AV × List AObj → Prop := fun args H x => ∃ (name1 : Str) (r2 : Bool), F3 name1 = some r2 ∧ args = [.pv (.str name1)] ∧ H = [] ∧ x = ([.pv (.bool r2)], [])

theorem q_F3 (name1 : Str) (r2 : Bool) (h : F3 name1 = some r2) : chC R_F3 [.pv (.str name1)] [] = some ([.pv (.bool r2)], []) := by
  refine chC_eq ⟨name1, r2, h, rfl, rfl, rfl⟩ ?_
  rintro y ⟨name1p, r2p, hp, ha, hH, rfl⟩
  simp only [List.cons.injEq, AV.pv.injEq, and_true, true_and] at ha
  have ya0 := ha
  have e_name1 := str_inj ya0
  subst e_name1
  rw [h] at hp
  cases hp
  rfl

def R_F13 : List AV → List AObj → List AV × List AObj → Prop := fun args H x => ∃ (l1 : List User) (r2 : Bool), F13 l1 = some r2 ∧ args = [.pv (.slice (List.map User.pv l1))] ∧ H = [] ∧ x = ([.pv (.bool r2)], [])

theorem q_F13 (l1 : List User) (r2 : Bool) (h : F13 l1 = some r2) : chC R_F13 [.pv (.slice (List.map User.pv l1))] [] = some ([.pv (.bool r2)], []) := by
  refine chC_eq ⟨l1, r2, h, rfl, rfl, rfl⟩ ?_
  rintro y ⟨l1p, r2p, hp, ha, hH, rfl⟩
  simp only [List.cons.injEq, AV.pv.injEq, and_true, true_and] at ha
  have ya0 := ha
  have e_l1 := map_inj_of (fun _ _ => User.inj) (PV.slice.inj ya0)
  subst e_l1
  rw [h] at hp
  cases hp
  rfl

def R_F35 : List AV → List AObj → List AV × List AObj → Prop := fun args H x => ∃ (l1 : List User) (name2 : Str) (r3 : Int), F35 l1 name2 = some r3 ∧ args = [.pv (.slice (List.map User.pv l1)), .pv (.str name2)] ∧ H = [] ∧ x = ([.pv (.int .i64 r3)], [])

theorem q_F35 (l1 : List User) (name2 : Str) (r3 : Int) (h : F35 l1 name2 = some r3) : chC R_F35 [.pv (.slice (List.map User.pv l1)), .pv (.str name2)] [] = some ([.pv (.int .i64 r3)], []) := by
  refine chC_eq ⟨l1, name2, r3, h, rfl, rfl, rfl⟩ ?_
  rintro y ⟨l1p, name2p, r3p, hp, ha, hH, rfl⟩
  simp only [List.cons.injEq, AV.pv.injEq, and_true, true_and] at ha
  obtain ⟨ya0, ya1⟩ := ha
  have e_l1 := map_inj_of (fun _ _ => User.inj) (PV.slice.inj ya0)
  have e_name2 := str_inj ya1
  subst e_l1
  subst e_name2
  rw [h] at hp
  cases hp
  rfl

def R_F33 : List AV → List AObj → List AV × List AObj → Prop := fun args H x => ∃ (l1 : List User) (i2 : Int) (r3 : Int), F33 l1 i2 = some r3 ∧ args = [.pv (.slice (List.map User.pv l1)), .pv (.int .i64 i2)] ∧ H = [] ∧ x = ([.pv (.int .i64 r3)], [])

theorem q_F33 (l1 : List User) (i2 : Int) (r3 : Int) (h : F33 l1 i2 = some r3) : chC R_F33 [.pv (.slice (List.map User.pv l1)), .pv (.int .i64 i2)] [] = some ([.pv (.int .i64 r3)], []) := by
  refine chC_eq ⟨l1, i2, r3, h, rfl, rfl, rfl⟩ ?_
  rintro y ⟨l1p, i2p, r3p, hp, ha, hH, rfl⟩
  simp only [List.cons.injEq, AV.pv.injEq, and_true, true_and] at ha
  obtain ⟨ya0, ya1⟩ := ha
  have e_l1 := map_inj_of (fun _ _ => User.inj) (PV.slice.inj ya0)
  have e_i2 := int_inj ya1
  subst e_l1
  subst e_i2
  rw [h] at hp
  cases hp
  rfl

def R_F17 : List AV → List AObj → List AV × List AObj → Prop := fun args H x => ∃ (l1 : List User) (r2 : Int), F17 l1 = some r2 ∧ args = [.pv (.slice (List.map User.pv l1))] ∧ H = [] ∧ x = ([.pv (.int .i64 r2)], [])

theorem q_F17 (l1 : List User) (r2 : Int) (h : F17 l1 = some r2) : chC R_F17 [.pv (.slice (List.map User.pv l1))] [] = some ([.pv (.int .i64 r2)], []) := by
  refine chC_eq ⟨l1, r2, h, rfl, rfl, rfl⟩ ?_
  rintro y ⟨l1p, r2p, hp, ha, hH, rfl⟩
  simp only [List.cons.injEq, AV.pv.injEq, and_true, true_and] at ha
  have ya0 := ha
  have e_l1 := map_inj_of (fun _ _ => User.inj) (PV.slice.inj ya0)
  subst e_l1
  rw [h] at hp
  cases hp
  rfl

def R_F15 : List AV → List AObj → List AV × List AObj → Prop := fun args H x => ∃ (l1 : List User) (r2 : Str) (r3 : Int), F15 l1 = some (r2, r3) ∧ args = [.pv (.slice (List.map User.pv l1))] ∧ H = [] ∧ x = ([.pv (.str r2), .pv (.int .i64 r3)], [])

theorem q_F15 (l1 : List User) (r2 : Str) (r3 : Int) (h : F15 l1 = some (r2, r3)) : chC R_F15 [.pv (.slice (List.map User.pv l1))] [] = some ([.pv (.str r2), .pv (.int .i64 r3)], []) := by
  refine chC_eq ⟨l1, r2, r3, h, rfl, rfl, rfl⟩ ?_
  rintro y ⟨l1p, r2p, r3p, hp, ha, hH, rfl⟩
  simp only [List.cons.injEq, AV.pv.injEq, and_true, true_and] at ha
  have ya0 := ha
  have e_l1 := map_inj_of (fun _ _ => User.inj) (PV.slice.inj ya0)
  subst e_l1
  rw [h] at hp
  cases hp
  rfl

def R_F4 : List AV → List AObj → List AV × List AObj → Prop := fun args H x => ∃ (l1 : List User) (r2 : Bool), F4 l1 = some r2 ∧ args = [.pv (.slice (List.map User.pv l1))] ∧ H = [] ∧ x = ([.pv (.bool r2)], [])

theorem q_F4 (l1 : List User) (r2 : Bool) (h : F4 l1 = some r2) : chC R_F4 [.pv (.slice (List.map User.pv l1))] [] = some ([.pv (.bool r2)], []) := by
  refine chC_eq ⟨l1, r2, h, rfl, rfl, rfl⟩ ?_
  rintro y ⟨l1p, r2p, hp, ha, hH, rfl⟩
  simp only [List.cons.injEq, AV.pv.injEq, and_true, true_and] at ha
  have ya0 := ha
  have e_l1 := map_inj_of (fun _ _ => User.inj) (PV.slice.inj ya0)
  subst e_l1
  rw [h] at hp
  cases hp
  rfl

def R_F19 : List AV → List AObj → List AV × List AObj → Prop := fun args H x => ∃ (l1 : List User) (name2 : Str) (r3 : User) (r4 : Bool), F19 l1 name2 = some (r3, r4) ∧ args = [.pv (.slice (List.map User.pv l1)), .pv (.str name2)] ∧ H = [] ∧ x = ([.pv (.agg [.str r3.name_, .str r3.leader_, .slice (List.map PV.str r3.members_)]), .pv (.bool r4)], [])

theorem q_F19 (l1 : List User) (name2 : Str) (r3 : User) (r4 : Bool) (h : F19 l1 name2 = some (r3, r4)) : chC R_F19 [.pv (.slice (List.map User.pv l1)), .pv (.str name2)] [] = some ([.pv (.agg [.str r3.name_, .str r3.leader_, .slice (List.map PV.str r3.members_)]), .pv (.bool r4)], []) := by
  refine chC_eq ⟨l1, name2, r3, r4, h, rfl, rfl, rfl⟩ ?_
  rintro y ⟨l1p, name2p, r3p, r4p, hp, ha, hH, rfl⟩
  simp only [List.cons.injEq, AV.pv.injEq, and_true, true_and] at ha
  obtain ⟨ya0, ya1⟩ := ha
  have e_l1 := map_inj_of (fun _ _ => User.inj) (PV.slice.inj ya0)
  have e_name2 := str_inj ya1
  subst e_l1
  subst e_name2
  rw [h] at hp
  cases hp
  rfl

def R_F22 : List AV → List AObj → List AV × List AObj → Prop := fun args H x => ∃ (l1 : List User) (user2 : Str) (group3 : Str) (r4 : Bool), F22 l1 user2 group3 = some r4 ∧ args = [.pv (.slice (List.map User.pv l1)), .pv (.str user2), .pv (.str group3)] ∧ H = [] ∧ x = ([.pv (.bool r4)], [])

theorem q_F22 (l1 : List User) (user2 : Str) (group3 : Str) (r4 : Bool) (h : F22 l1 user2 group3 = some r4) : chC R_F22 [.pv (.slice (List.map User.pv l1)), .pv (.str user2), .pv (.str group3)] [] = some ([.pv (.bool r4)], []) := by
  refine chC_eq ⟨l1, user2, group3, r4, h, rfl, rfl, rfl⟩ ?_
  rintro y ⟨l1p, user2p, group3p, r4p, hp, ha, hH, rfl⟩
  simp only [List.cons.injEq, AV.pv.injEq, and_true, true_and] at ha
  obtain ⟨ya0, ya1, ya2⟩ := ha
  have e_l1 := map_inj_of (fun _ _ => User.inj) (PV.slice.inj ya0)
  have e_user2 := str_inj ya1
  have e_group3 := str_inj ya2
  subst e_l1
  subst e_user2
  subst e_group3
  rw [h] at hp
  cases hp
  rfl

def R_F24 : List AV → List AObj → List AV × List AObj → Prop := fun args H x => ∃ (l1 : List User) (user2 : Str) (group3 : Str) (r4 : Bool), F24 l1 user2 group3 = some r4 ∧ args = [.pv (.slice (List.map User.pv l1)), .pv (.str user2), .pv (.str group3)] ∧ H = [] ∧ x = ([.pv (.bool r4)], [])

theorem q_F24 (l1 : List User) (user2 : Str) (group3 : Str) (r4 : Bool) (h : F24 l1 user2 group3 = some r4) : chC R_F24 [.pv (.slice (List.map User.pv l1)), .pv (.str user2), .pv (.str group3)] [] = some ([.pv (.bool r4)], []) := by
  refine chC_eq ⟨l1, user2, group3, r4, h, rfl, rfl, rfl⟩ ?_
  rintro y ⟨l1p, user2p, group3p, r4p, hp, ha, hH, rfl⟩
  simp only [List.cons.injEq, AV.pv.injEq, and_true, true_and] at ha
  obtain ⟨ya0, ya1, ya2⟩ := ha
  have e_l1 := map_inj_of (fun _ _ => User.inj) (PV.slice.inj ya0)
  have e_user2 := str_inj ya1
  have e_group3 := str_inj ya2
  subst e_l1
  subst e_user2
  subst e_group3
  rw [h] at hp
  cases hp
  rfl

def R_F5 : List AV → List AObj → List AV × List AObj → Prop := fun args H x => ∃ (l1 : List User) (name2 : Str) (group3 : Str) (r4 : Bool), F5 l1 name2 group3 = some r4 ∧ args = [.pv (.slice (List.map User.pv l1)), .pv (.str name2), .pv (.str group3)] ∧ H = [] ∧ x = ([.pv (.bool r4)], [])

theorem q_F5 (l1 : List User) (name2 : Str) (group3 : Str) (r4 : Bool) (h : F5 l1 name2 group3 = some r4) : chC R_F5 [.pv (.slice (List.map User.pv l1)), .pv (.str name2), .pv (.str group3)] [] = some ([.pv (.bool r4)], []) := by
  refine chC_eq ⟨l1, name2, group3, r4, h, rfl, rfl, rfl⟩ ?_
  rintro y ⟨l1p, name2p, group3p, r4p, hp, ha, hH, rfl⟩
  simp only [List.cons.injEq, AV.pv.injEq, and_true, true_and] at ha
  obtain ⟨ya0, ya1, ya2⟩ := ha
  have e_l1 := map_inj_of (fun _ _ => User.inj) (PV.slice.inj ya0)
  have e_name2 := str_inj ya1
  have e_group3 := str_inj ya2
  subst e_l1
  subst e_name2
  subst e_group3
  rw [h] at hp
  cases hp
  rfl

def R_F39 : List AV → List AObj → List AV × List AObj → Prop := fun args H x => ∃ (s1 : Str) (separator2 : Int) (r3 : List Str), F39 s1 separator2 = some r3 ∧ args = [.pv (.str s1), .pv (.int .u8 separator2)] ∧ H = [] ∧ x = ([.pv (.slice (List.map PV.str r3))], [])

theorem q_F39 (s1 : Str) (separator2 : Int) (r3 : List Str) (h : F39 s1 separator2 = some r3) : chC R_F39 [.pv (.str s1), .pv (.int .u8 separator2)] [] = some ([.pv (.slice (List.map PV.str r3))], []) := by
  refine chC_eq ⟨s1, separator2, r3, h, rfl, rfl, rfl⟩ ?_
  rintro y ⟨s1p, separator2p, r3p, hp, ha, hH, rfl⟩
  simp only [List.cons.injEq, AV.pv.injEq, and_true, true_and] at ha
  obtain ⟨ya0, ya1⟩ := ha
  have e_s1 := str_inj ya0
  have e_separator2 := int_inj ya1
  subst e_s1
  subst e_separator2
  rw [h] at hp
  cases hp
  rfl

def R_F40 : List AV → List AObj → List AV × List AObj → Prop := fun args H x => ∃ (s1 : Str) (r2 : User) (r3 : Bool), F40 s1 = some (r2, r3) ∧ args = [.pv (.str s1)] ∧ H = [] ∧ x = ([.pv (.agg [.str r2.name_, .str r2.leader_, .slice (List.map PV.str r2.members_)]), .pv (.bool r3)], [])

theorem q_F40 (s1 : Str) (r2 : User) (r3 : Bool) (h : F40 s1 = some (r2, r3)) : chC R_F40 [.pv (.str s1)] [] = some ([.pv (.agg [.str r2.name_, .str r2.leader_, .slice (List.map PV.str r2.members_)]), .pv (.bool r3)], []) := by
  refine chC_eq ⟨s1, r2, r3, h, rfl, rfl, rfl⟩ ?_
  rintro y ⟨s1p, r2p, r3p, hp, ha, hH, rfl⟩
  simp only [List.cons.injEq, AV.pv.injEq, and_true, true_and] at ha
  have ya0 := ha
  have e_s1 := str_inj ya0
  subst e_s1
  rw [h] at hp
  cases hp
  rfl

def R_F26 : List AV → List AObj → List AV × List AObj → Prop := fun args H x => ∃ (s1 : Str) (r2 : List User) (r3 : Int) (r4 : Int), F26 s1 = some (r2, r3, r4) ∧ args = [.pv (.str s1)] ∧ H = [] ∧ x = ([.pv (.slice (List.map User.pv r2)), .pv (.int .i64 r3), .pv (.int .i64 r4)], [])

theorem q_F26 (s1 : Str) (r2 : List User) (r3 : Int) (r4 : Int) (h : F26 s1 = some (r2, r3, r4)) : chC R_F26 [.pv (.str s1)] [] = some ([.pv (.slice (List.map User.pv r2)), .pv (.int .i64 r3), .pv (.int .i64 r4)], []) := by
  refine chC_eq ⟨s1, r2, r3, r4, h, rfl, rfl, rfl⟩ ?_
  rintro y ⟨s1p, r2p, r3p, r4p, hp, ha, hH, rfl⟩
  simp only [List.cons.injEq, AV.pv.injEq, and_true, true_and] at ha
  have ya0 := ha
  have e_s1 := str_inj ya0
  subst e_s1
  rw [h] at hp
  cases hp
  rfl

def R_F6 : List AV → List AObj → List AV × List AObj → Prop := fun args H x => ∃ (s1 : Str) (r2 : Bool), F6 s1 = some r2 ∧ args = [.pv (.str s1)] ∧ H = [] ∧ x = ([.pv (.bool r2)], [])

theorem q_F6 (s1 : Str) (r2 : Bool) (h : F6 s1 = some r2) : chC R_F6 [.pv (.str s1)] [] = some ([.pv (.bool r2)], []) := by
  refine chC_eq ⟨s1, r2, h, rfl, rfl, rfl⟩ ?_
  rintro y ⟨s1p, r2p, hp, ha, hH, rfl⟩
  simp only [List.cons.injEq, AV.pv.injEq, and_true, true_and] at ha
  have ya0 := ha
  have e_s1 := str_inj ya0
  subst e_s1
  rw [h] at hp
  cases hp
  rfl

def R_F7 : List AV → List AObj → List AV × List AObj → Prop := fun args H x => ∃ (l1 : List User) (r2 : Bool), F7 l1 = some r2 ∧ args = [.pv (.slice (List.map User.pv l1))] ∧ H = [] ∧ x = ([.pv (.bool r2)], [])

theorem q_F7 (l1 : List User) (r2 : Bool) (h : F7 l1 = some r2) : chC R_F7 [.pv (.slice (List.map User.pv l1))] [] = some ([.pv (.bool r2)], []) := by
  refine chC_eq ⟨l1, r2, h, rfl, rfl, rfl⟩ ?_
  rintro y ⟨l1p, r2p, hp, ha, hH, rfl⟩
  simp only [List.cons.injEq, AV.pv.injEq, and_true, true_and] at ha
  have ya0 := ha
  have e_l1 := map_inj_of (fun _ _ => User.inj) (PV.slice.inj ya0)
  subst e_l1
  rw [h] at hp
  cases hp
  rfl

def R_F8 : List AV → List AObj → List AV × List AObj → Prop := fun args H x => ∃ (s1 : Str) (r2 : Bool), F8 s1 = some r2 ∧ args = [.pv (.str s1)] ∧ H = [] ∧ x = ([.pv (.bool r2)], [])

theorem q_F8 (s1 : Str) (r2 : Bool) (h : F8 s1 = some r2) : chC R_F8 [.pv (.str s1)] [] = some ([.pv (.bool r2)], []) := by
  refine chC_eq ⟨s1, r2, h, rfl, rfl, rfl⟩ ?_
  rintro y ⟨s1p, r2p, hp, ha, hH, rfl⟩
  simp only [List.cons.injEq, AV.pv.injEq, and_true, true_and] at ha
  have ya0 := ha
  have e_s1 := str_inj ya0
  subst e_s1
  rw [h] at hp
  cases hp
  rfl

def R_F9 : List AV → List AObj → List AV × List AObj → Prop := fun args H x => ∃ (l1 : List User) (k2 : Int) (name3 : Str) (r4 : Bool), F9 l1 k2 name3 = some r4 ∧ args = [.pv (.slice (List.map User.pv l1)), .pv (.int .i64 k2), .pv (.str name3)] ∧ H = [] ∧ x = ([.pv (.bool r4)], [])

theorem q_F9 (l1 : List User) (k2 : Int) (name3 : Str) (r4 : Bool) (h : F9 l1 k2 name3 = some r4) : chC R_F9 [.pv (.slice (List.map User.pv l1)), .pv (.int .i64 k2), .pv (.str name3)] [] = some ([.pv (.bool r4)], []) := by
  refine chC_eq ⟨l1, k2, name3, r4, h, rfl, rfl, rfl⟩ ?_
  rintro y ⟨l1p, k2p, name3p, r4p, hp, ha, hH, rfl⟩
  simp only [List.cons.injEq, AV.pv.injEq, and_true, true_and] at ha
  obtain ⟨ya0, ya1, ya2⟩ := ha
  have e_l1 := map_inj_of (fun _ _ => User.inj) (PV.slice.inj ya0)
  have e_k2 := int_inj ya1
  have e_name3 := str_inj ya2
  subst e_l1
  subst e_k2
  subst e_name3
  rw [h] at hp
  cases hp
  rfl

noncomputable def k0 : List (FuncId × (List AV → List AObj → Option (List AV × List AObj))) := []

theorem s0 : Sound env (mkOrc pfn k0) := Sound.nil pfn

noncomputable def k1 := (29, chC R_L_WriteString) :: k0

theorem s1 : Sound env (mkOrc pfn k1) := by
  refine Sound.cons s0 ⟨Tryd.f29, rfl, rfl, by kernel_rfl⟩ fun args H rs H2 hc => ?_
  obtain ⟨b, s, n, c, h, rfl, rfl, hx⟩ := chC_some hc
  cases hx
  exact g_L_WriteString  b s n c h

noncomputable def k2 := (30, chC R_L_Join) :: k1

theorem s2 : Sound env (mkOrc pfn k2) := by
  refine Sound.cons s1 ⟨Tryd.f30, rfl, rfl, by kernel_rfl⟩ fun args H rs H2 hc => ?_
  obtain ⟨xs, sep, s, h, rfl, rfl, hx⟩ := chC_some hc
  cases hx
  exact g_L_Join  xs sep s h

noncomputable def k3 := (31, chC R_L_String) :: k2

theorem s3 : Sound env (mkOrc pfn k3) := by
  refine Sound.cons s2 ⟨Tryd.f31, rfl, rfl, by kernel_rfl⟩ fun args H rs H2 hc => ?_
  obtain ⟨b, s, h, rfl, rfl, hx⟩ := chC_some hc
  cases hx
  exact g_L_String  b s h

noncomputable def k4 := (34, chC R_L_Clone) :: k3

theorem s4 : Sound env (mkOrc pfn k4) := by
  refine Sound.cons s3 ⟨Tryd.f34, rfl, rfl, by kernel_rfl⟩ fun args H rs H2 hc => ?_
  obtain ⟨xs, l, h, rfl, rfl, hx⟩ := chC_some hc
  cases hx
  exact g_L_Clone  xs l h

noncomputable def k5 := (36, chC R_L_Contains) :: k4

theorem s5 : Sound env (mkOrc pfn k5) := by
  refine Sound.cons s4 ⟨Tryd.f36, rfl, rfl, by kernel_rfl⟩ fun args H rs H2 hc => ?_
  obtain ⟨xs, s, ok, h, rfl, rfl, hx⟩ := chC_some hc
  cases hx
  exact g_L_Contains  xs s ok h

noncomputable def k6 := (37, chC R_L_Cut) :: k5

theorem s6 : Sound env (mkOrc pfn k6) := by
  refine Sound.cons s5 ⟨Tryd.f37, rfl, rfl, by kernel_rfl⟩ fun args H rs H2 hc => ?_
  obtain ⟨s, sep, a, b, ok, h, rfl, rfl, hx⟩ := chC_some hc
  cases hx
  exact g_L_Cut  s sep a b ok h

noncomputable def k7 := (45, chC R_L_Split) :: k6

theorem s7 : Sound env (mkOrc pfn k7) := by
  refine Sound.cons s6 ⟨Tryd.f45, rfl, rfl, by kernel_rfl⟩ fun args H rs H2 hc => ?_
  obtain ⟨s, sep, l, h, rfl, rfl, hx⟩ := chC_some hc
  cases hx
  exact g_L_Split  s sep l h

noncomputable def k8 := (28, chC R_F28) :: k7

theorem s8 : Sound env (mkOrc pfn k8) := by
  refine Sound.cons s7 ⟨Tryd.f28, rfl, rfl, by kernel_rfl⟩ fun args H rs H2 hc => ?_
  obtain ⟨r1, h, rfl, rfl, hx⟩ := chC_some hc
  cases hx
  exact g_F28 s7 rfl r1 h

noncomputable def k9 := (11, chC R_F11) :: k8

theorem s9 : Sound env (mkOrc pfn k9) := by
  refine Sound.cons s8 ⟨Tryd.f11, rfl, rfl, by kernel_rfl⟩ fun args H rs H2 hc => ?_
  obtain ⟨name1, r2, h, rfl, rfl, hx⟩ := chC_some hc
  cases hx
  exact g_F11 s8 rfl name1 r2 h

noncomputable def k10 := (32, chC R_F32) :: k9

theorem s10 : Sound env (mkOrc pfn k10) := by
  refine Sound.cons s9 ⟨Tryd.f32, rfl, rfl, by kernel_rfl⟩ fun args H rs H2 hc => ?_
  obtain ⟨l1, m2, r3, h, rfl, rfl, hx⟩ := chC_some hc
  cases hx
  exact g_F32 s9 rfl l1 m2 r3 h

noncomputable def k11 := (16, chC R_F16) :: k10

theorem s11 : Sound env (mkOrc pfn k11) := by
  refine Sound.cons s10 ⟨Tryd.f16, rfl, rfl, by kernel_rfl⟩ fun args H rs H2 hc => ?_
  obtain ⟨l1, r2, h, rfl, rfl, hx⟩ := chC_some hc
  cases hx
  exact g_F16 s10 rfl (fun name1 r2 h => q_F11 name1 r2 h) (fun l1 m2 r3 h => q_F32 l1 m2 r3 h) l1 r2 h

noncomputable def k12 := (14, chC R_F14) :: k11

theorem s12 : Sound env (mkOrc pfn k12) := by
  refine Sound.cons s11 ⟨Tryd.f14, rfl, rfl, by kernel_rfl⟩ fun args H rs H2 hc => ?_
  obtain ⟨l1, r2, r3, h, rfl, rfl, hx⟩ := chC_some hc
  cases hx
  exact g_F14 s11 rfl (fun l1 r2 h => q_F16 l1 r2 h) (fun xs sep s h => q_L_Join xs sep s h) (fun b s n c h => q_L_WriteString b s n c h) (fun b s h => q_L_String b s h) l1 r2 r3 h

noncomputable def k13 := (38, chC R_F38) :: k12

theorem s13 : Sound env (mkOrc pfn k13) := by
  refine Sound.cons s12 ⟨Tryd.f38, rfl, rfl, by kernel_rfl⟩ fun args H rs H2 hc => ?_
  obtain ⟨s1, r2, r3, h, rfl, rfl, hx⟩ := chC_some hc
  cases hx
  exact g_F38 s12 rfl (fun s sep l h => q_L_Split s sep l h) (fun xs s ok h => q_L_Contains xs s ok h) s1 r2 r3 h

noncomputable def k14 := (25, chC R_F25) :: k13

theorem s14 : Sound env (mkOrc pfn k14) := by
  refine Sound.cons s13 ⟨Tryd.f25, rfl, rfl, by kernel_rfl⟩ fun args H rs H2 hc => ?_
  obtain ⟨s1, r2, r3, r4, h, rfl, rfl, hx⟩ := chC_some hc
  cases hx
  exact g_F25 s13 rfl (fun s sep a b ok h => q_L_Cut s sep a b ok h) (fun s1 r2 r3 h => q_F38 s1 r2 r3 h) (fun l1 r2 h => q_F16 l1 r2 h) s1 r2 r3 r4 h

noncomputable def k15 := (20, chC R_F20) :: k14

theorem s15 : Sound env (mkOrc pfn k15) := by
  refine Sound.cons s14 ⟨Tryd.f20, rfl, rfl, by kernel_rfl⟩ fun args H rs H2 hc => ?_
  obtain ⟨a1, b2, r3, h, rfl, rfl, hx⟩ := chC_some hc
  cases hx
  exact g_F20 s14 rfl a1 b2 r3 h

noncomputable def k16 := (27, chC R_F27) :: k15

theorem s16 : Sound env (mkOrc pfn k16) := by
  refine Sound.cons s15 ⟨Tryd.f27, rfl, rfl, by kernel_rfl⟩ fun args H rs H2 hc => ?_
  obtain ⟨a1, b2, r3, h, rfl, rfl, hx⟩ := chC_some hc
  cases hx
  exact g_F27 s15 rfl (fun a1 b2 r3 h => q_F20 a1 b2 r3 h) a1 b2 r3 h

noncomputable def k17 := (18, chC R_F18) :: k16

theorem s17 : Sound env (mkOrc pfn k17) := by
  refine Sound.cons s16 ⟨Tryd.f18, rfl, rfl, by kernel_rfl⟩ fun args H rs H2 hc => ?_
  obtain ⟨l1, name2, r3, r4, h, rfl, rfl, hx⟩ := chC_some hc
  cases hx
  exact g_F18 s16 rfl (fun xs l h => q_L_Clone xs l h) l1 name2 r3 r4 h

noncomputable def k18 := (21, chC R_F21) :: k17

theorem s18 : Sound env (mkOrc pfn k18) := by
  refine Sound.cons s17 ⟨Tryd.f21, rfl, rfl, by kernel_rfl⟩ fun args H rs H2 hc => ?_
  obtain ⟨l1, user2, group3, r4, h, rfl, rfl, hx⟩ := chC_some hc
  cases hx
  exact g_F21 s17 rfl (fun l1 name2 r3 r4 h => q_F18 l1 name2 r3 r4 h) (fun xs s ok h => q_L_Contains xs s ok h) l1 user2 group3 r4 h

noncomputable def k19 := (23, chC R_F23) :: k18

theorem s19 : Sound env (mkOrc pfn k19) := by
  refine Sound.cons s18 ⟨Tryd.f23, rfl, rfl, by kernel_rfl⟩ fun args H rs H2 hc => ?_
  obtain ⟨l1, user2, group3, r4, h, rfl, rfl, hx⟩ := chC_some hc
  cases hx
  exact g_F23 s18 rfl (fun l1 name2 r3 r4 h => q_F18 l1 name2 r3 r4 h) (fun l1 user2 group3 r4 h => q_F21 l1 user2 group3 r4 h) l1 user2 group3 r4 h

noncomputable def k20 := (10, chC R_F10) :: k19

theorem s20 : Sound env (mkOrc pfn k20) := by
  refine Sound.cons s19 ⟨Tryd.f10, rfl, rfl, by kernel_rfl⟩ fun args H rs H2 hc => ?_
  obtain ⟨r1, h, rfl, rfl, hx⟩ := chC_some hc
  cases hx
  exact g_F10 s19 rfl (fun r1 h => q_F28 r1 h) (fun l1 r2 r3 h => q_F14 l1 r2 r3 h) (fun s1 r2 r3 r4 h => q_F25 s1 r2 r3 r4 h) (fun a1 b2 r3 h => q_F27 a1 b2 r3 h) (fun l1 name2 r3 r4 h => q_F18 l1 name2 r3 r4 h) (fun name1 r2 h => q_F11 name1 r2 h) (fun l1 r2 h => q_F16 l1 r2 h) (fun l1 user2 group3 r4 h => q_F21 l1 user2 group3 r4 h) (fun l1 user2 group3 r4 h => q_F23 l1 user2 group3 r4 h) r1 h

noncomputable def k21 := (12, chC R_F12) :: k20

theorem s21 : Sound env (mkOrc pfn k21) := by
  refine Sound.cons s20 ⟨Tryd.f12, rfl, rfl, by kernel_rfl⟩ fun args H rs H2 hc => ?_
  obtain ⟨name1, r2, h, rfl, rfl, hx⟩ := chC_some hc
  cases hx
  exact g_F12 s20 rfl name1 r2 h

noncomputable def k22 := (3, chC R_F3) :: k21

theorem s22 : Sound env (mkOrc pfn k22) := by
  refine Sound.cons s21 ⟨Tryd.f3, rfl, rfl, by kernel_rfl⟩ fun args H rs H2 hc => ?_
  obtain ⟨name1, r2, h, rfl, rfl, hx⟩ := chC_some hc
  cases hx
  exact g_F3 s21 rfl (fun r1 h => q_F10 r1 h) (fun name1 r2 h => q_F11 name1 r2 h) (fun name1 r2 h => q_F12 name1 r2 h) name1 r2 h

noncomputable def k23 := (13, chC R_F13) :: k22

theorem s23 : Sound env (mkOrc pfn k23) := by
  refine Sound.cons s22 ⟨Tryd.f13, rfl, rfl, by kernel_rfl⟩ fun args H rs H2 hc => ?_
  obtain ⟨l1, r2, h, rfl, rfl, hx⟩ := chC_some hc
  cases hx
  exact g_F13 s22 rfl l1 r2 h

noncomputable def k24 := (35, chC R_F35) :: k23

theorem s24 : Sound env (mkOrc pfn k24) := by
  refine Sound.cons s23 ⟨Tryd.f35, rfl, rfl, by kernel_rfl⟩ fun args H rs H2 hc => ?_
  obtain ⟨l1, name2, r3, h, rfl, rfl, hx⟩ := chC_some hc
  cases hx
  exact g_F35 s23 rfl l1 name2 r3 h

noncomputable def k25 := (33, chC R_F33) :: k24

theorem s25 : Sound env (mkOrc pfn k25) := by
  refine Sound.cons s24 ⟨Tryd.f33, rfl, rfl, by kernel_rfl⟩ fun args H rs H2 hc => ?_
  obtain ⟨l1, i2, r3, h, rfl, rfl, hx⟩ := chC_some hc
  cases hx
  exact g_F33 s24 rfl (fun name1 r2 h => q_F12 name1 r2 h) (fun l1 name2 r3 h => q_F35 l1 name2 r3 h) l1 i2 r3 h

noncomputable def k26 := (17, chC R_F17) :: k25

theorem s26 : Sound env (mkOrc pfn k26) := by
  refine Sound.cons s25 ⟨Tryd.f17, rfl, rfl, by kernel_rfl⟩ fun args H rs H2 hc => ?_
  obtain ⟨l1, r2, h, rfl, rfl, hx⟩ := chC_some hc
  cases hx
  exact g_F17 s25 rfl (fun l1 i2 r3 h => q_F33 l1 i2 r3 h) l1 r2 h

noncomputable def k27 := (15, chC R_F15) :: k26

theorem s27 : Sound env (mkOrc pfn k27) := by
  refine Sound.cons s26 ⟨Tryd.f15, rfl, rfl, by kernel_rfl⟩ fun args H rs H2 hc => ?_
  obtain ⟨l1, r2, r3, h, rfl, rfl, hx⟩ := chC_some hc
  cases hx
  exact g_F15 s26 rfl (fun l1 r2 h => q_F17 l1 r2 h) l1 r2 r3 h

noncomputable def k28 := (4, chC R_F4) :: k27

theorem s28 : Sound env (mkOrc pfn k28) := by
  refine Sound.cons s27 ⟨Tryd.f4, rfl, rfl, by kernel_rfl⟩ fun args H rs H2 hc => ?_
  obtain ⟨l1, r2, h, rfl, rfl, hx⟩ := chC_some hc
  cases hx
  exact g_F4 s27 rfl (fun l1 r2 h => q_F13 l1 r2 h) (fun r1 h => q_F10 r1 h) (fun l1 r2 r3 h => q_F14 l1 r2 r3 h) (fun l1 r2 r3 h => q_F15 l1 r2 r3 h) (fun l1 r2 h => q_F16 l1 r2 h) (fun l1 r2 h => q_F17 l1 r2 h) l1 r2 h

noncomputable def k29 := (19, chC R_F19) :: k28

theorem s29 : Sound env (mkOrc pfn k29) := by
  refine Sound.cons s28 ⟨Tryd.f19, rfl, rfl, by kernel_rfl⟩ fun args H rs H2 hc => ?_
  obtain ⟨l1, name2, r3, r4, h, rfl, rfl, hx⟩ := chC_some hc
  cases hx
  exact g_F19 s28 rfl (fun l1 name2 r3 h => q_F35 l1 name2 r3 h) l1 name2 r3 r4 h

noncomputable def k30 := (22, chC R_F22) :: k29

theorem s30 : Sound env (mkOrc pfn k30) := by
  refine Sound.cons s29 ⟨Tryd.f22, rfl, rfl, by kernel_rfl⟩ fun args H rs H2 hc => ?_
  obtain ⟨l1, user2, group3, r4, h, rfl, rfl, hx⟩ := chC_some hc
  cases hx
  exact g_F22 s29 rfl (fun l1 name2 r3 r4 h => q_F19 l1 name2 r3 r4 h) l1 user2 group3 r4 h

noncomputable def k31 := (24, chC R_F24) :: k30

theorem s31 : Sound env (mkOrc pfn k31) := by
  refine Sound.cons s30 ⟨Tryd.f24, rfl, rfl, by kernel_rfl⟩ fun args H rs H2 hc => ?_
  obtain ⟨l1, user2, group3, r4, h, rfl, rfl, hx⟩ := chC_some hc
  cases hx
  exact g_F24 s30 rfl (fun l1 name2 r3 r4 h => q_F19 l1 name2 r3 r4 h) (fun l1 user2 group3 r4 h => q_F22 l1 user2 group3 r4 h) l1 user2 group3 r4 h

noncomputable def k32 := (5, chC R_F5) :: k31

theorem s32 : Sound env (mkOrc pfn k32) := by
  refine Sound.cons s31 ⟨Tryd.f5, rfl, rfl, by kernel_rfl⟩ fun args H rs H2 hc => ?_
  obtain ⟨l1, name2, group3, r4, h, rfl, rfl, hx⟩ := chC_some hc
  cases hx
  exact g_F5 s31 rfl (fun l1 r2 h => q_F13 l1 r2 h) (fun r1 h => q_F10 r1 h) (fun l1 name2 r3 r4 h => q_F18 l1 name2 r3 r4 h) (fun l1 name2 r3 r4 h => q_F19 l1 name2 r3 r4 h) (fun a1 b2 r3 h => q_F20 a1 b2 r3 h) (fun l1 user2 group3 r4 h => q_F21 l1 user2 group3 r4 h) (fun l1 user2 group3 r4 h => q_F22 l1 user2 group3 r4 h) (fun l1 user2 group3 r4 h => q_F23 l1 user2 group3 r4 h) (fun l1 user2 group3 r4 h => q_F24 l1 user2 group3 r4 h) l1 name2 group3 r4 h

noncomputable def k33 := (39, chC R_F39) :: k32

theorem s33 : Sound env (mkOrc pfn k33) := by
  refine Sound.cons s32 ⟨Tryd.f39, rfl, rfl, by kernel_rfl⟩ fun args H rs H2 hc => ?_
  obtain ⟨s1, separator2, r3, h, rfl, rfl, hx⟩ := chC_some hc
  cases hx
  exact g_F39 s32 rfl s1 separator2 r3 h

noncomputable def k34 := (40, chC R_F40) :: k33

theorem s34 : Sound env (mkOrc pfn k34) := by
  refine Sound.cons s33 ⟨Tryd.f40, rfl, rfl, by kernel_rfl⟩ fun args H rs H2 hc => ?_
  obtain ⟨s1, r2, r3, h, rfl, rfl, hx⟩ := chC_some hc
  cases hx
  exact g_F40 s33 rfl (fun s1 separator2 r3 h => q_F39 s1 separator2 r3 h) s1 r2 r3 h

noncomputable def k35 := (26, chC R_F26) :: k34

theorem s35 : Sound env (mkOrc pfn k35) := by
  refine Sound.cons s34 ⟨Tryd.f26, rfl, rfl, by kernel_rfl⟩ fun args H rs H2 hc => ?_
  obtain ⟨s1, r2, r3, r4, h, rfl, rfl, hx⟩ := chC_some hc
  cases hx
  exact g_F26 s34 rfl (fun s1 separator2 r3 h => q_F39 s1 separator2 r3 h) (fun s1 r2 r3 h => q_F40 s1 r2 r3 h) (fun l1 r2 h => q_F17 l1 r2 h) s1 r2 r3 r4 h

noncomputable def k36 := (6, chC R_F6) :: k35

theorem s36 : Sound env (mkOrc pfn k36) := by
  refine Sound.cons s35 ⟨Tryd.f6, rfl, rfl, by kernel_rfl⟩ fun args H rs H2 hc => ?_
  obtain ⟨s1, r2, h, rfl, rfl, hx⟩ := chC_some hc
  cases hx
  exact g_F6 s35 rfl (fun r1 h => q_F10 r1 h) (fun s1 r2 r3 r4 h => q_F25 s1 r2 r3 r4 h) (fun s1 r2 r3 r4 h => q_F26 s1 r2 r3 r4 h) (fun a1 b2 r3 h => q_F27 a1 b2 r3 h) s1 r2 h

noncomputable def k37 := (7, chC R_F7) :: k36

theorem s37 : Sound env (mkOrc pfn k37) := by
  refine Sound.cons s36 ⟨Tryd.f7, rfl, rfl, by kernel_rfl⟩ fun args H rs H2 hc => ?_
  obtain ⟨l1, r2, h, rfl, rfl, hx⟩ := chC_some hc
  cases hx
  exact g_F7 s36 rfl (fun l1 r2 h => q_F13 l1 r2 h) (fun r1 h => q_F10 r1 h) (fun l1 r2 r3 h => q_F14 l1 r2 r3 h) (fun l1 r2 h => q_F16 l1 r2 h) (fun s1 r2 r3 r4 h => q_F25 s1 r2 r3 r4 h) (fun a1 b2 r3 h => q_F27 a1 b2 r3 h) l1 r2 h

noncomputable def k38 := (8, chC R_F8) :: k37

theorem s38 : Sound env (mkOrc pfn k38) := by
  refine Sound.cons s37 ⟨Tryd.f8, rfl, rfl, by kernel_rfl⟩ fun args H rs H2 hc => ?_
  obtain ⟨s1, r2, h, rfl, rfl, hx⟩ := chC_some hc
  cases hx
  exact g_F8 s37 rfl (fun r1 h => q_F10 r1 h) (fun s1 r2 r3 r4 h => q_F25 s1 r2 r3 r4 h) (fun l1 r2 r3 h => q_F14 l1 r2 r3 h) (fun l1 r2 h => q_F16 l1 r2 h) s1 r2 h

noncomputable def k39 := (9, chC R_F9) :: k38

theorem s39 : Sound env (mkOrc pfn k39) := by
  refine Sound.cons s38 ⟨Tryd.f9, rfl, rfl, by kernel_rfl⟩ fun args H rs H2 hc => ?_
  obtain ⟨l1, k2, name3, r4, h, rfl, rfl, hx⟩ := chC_some hc
  cases hx
  exact g_F9 s38 rfl (fun l1 r2 h => q_F13 l1 r2 h) (fun l1 r2 h => q_F16 l1 r2 h) (fun r1 h => q_F10 r1 h) (fun l1 user2 group3 r4 h => q_F23 l1 user2 group3 r4 h) (fun l1 user2 group3 r4 h => q_F21 l1 user2 group3 r4 h) l1 k2 name3 r4 h

theorem good_F3 (name1 : Str) (h : F3 name1 = some true) : Good env 3 [.pv (.str name1)] [] [.pv (.bool true)] [] := (s39 3 _ _ _ _ (q_F3 name1 true h)).1

theorem good_F4 (l1 : List User) (h : F4 l1 = some true) : Good env 4 [.pv (.slice (List.map User.pv l1))] [] [.pv (.bool true)] [] := (s39 4 _ _ _ _ (q_F4 l1 true h)).1

theorem good_F5 (l1 : List User) (name2 : Str) (group3 : Str) (h : F5 l1 name2 group3 = some true) : Good env 5 [.pv (.slice (List.map User.pv l1)), .pv (.str name2), .pv (.str group3)] [] [.pv (.bool true)] [] := (s39 5 _ _ _ _ (q_F5 l1 name2 group3 true h)).1

theorem good_F6 (s1 : Str) (h : F6 s1 = some true) : Good env 6 [.pv (.str s1)] [] [.pv (.bool true)] [] := (s39 6 _ _ _ _ (q_F6 s1 true h)).1

theorem good_F7 (l1 : List User) (h : F7 l1 = some true) : Good env 7 [.pv (.slice (List.map User.pv l1))] [] [.pv (.bool true)] [] := (s39 7 _ _ _ _ (q_F7 l1 true h)).1

theorem good_F8 (s1 : Str) (h : F8 s1 = some true) : Good env 8 [.pv (.str s1)] [] [.pv (.bool true)] [] := (s39 8 _ _ _ _ (q_F8 s1 true h)).1

theorem good_F9 (l1 : List User) (k2 : Int) (name3 : Str) (h : F9 l1 k2 name3 = some true) : Good env 9 [.pv (.slice (List.map User.pv l1)), .pv (.int .i64 k2), .pv (.str name3)] [] [.pv (.bool true)] [] := (s39 9 _ _ _ _ (q_F9 l1 k2 name3 true h)).1

end Go.Abs.U05
