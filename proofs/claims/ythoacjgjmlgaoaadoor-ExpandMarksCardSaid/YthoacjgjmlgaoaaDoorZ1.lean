/- The layer 50 laws: all of the functions together. -/
import Derived.Test.YthoacjgjmlgaoaaDoorLG
import Derived.Test.YthoacjgjmlgaoaaDoorW1
import Derived.Test.YthoacjgjmlgaoaaDoorW2
import Derived.Test.YthoacjgjmlgaoaaDoorW3
set_option linter.unusedVariables false
set_option linter.unusedSimpArgs false
namespace Go.Abs.U50
open Go.RowKit Go.Proofs

def R_L_Len : List AV → List AObj → List AV × List AObj → Prop := fun args H x => ∃ (b : Str) (n : Int), L_Len b = some n ∧ args = [.ref 0 0] ∧ H = [.bld b] ∧ x = ([.pv (.int .i64 n)], [.bld b])

theorem q_L_Len (b : Str) (n : Int) (h : L_Len b = some n) : chC (R_L_Len) [.ref 0 0] [.bld b] = some ([.pv (.int .i64 n)], [.bld b]) := by
  refine chC_eq ⟨b, n, h, rfl, rfl, rfl⟩ ?_
  rintro y ⟨bp, np, hp, ha, hH, rfl⟩
  simp only [List.cons.injEq, AObj.bld.injEq, AObj.map.injEq, AObj.row.injEq, AObj.var.injEq, AV.pv.injEq, AV.vec.injEq, and_true, true_and, and_assoc] at hH
  have yb0 := hH
  have e_b := yb0
  subst e_b
  rw [h] at hp
  cases hp
  rfl

def R_L_Cut : List AV → List AObj → List AV × List AObj → Prop := fun args H x => ∃ (s : Str) (sep : Str) (a : Str) (b : Str) (ok : Bool), L_Cut s sep = some (a, b, ok) ∧ args = [.pv (.str s), .pv (.str sep)] ∧ H = [] ∧ x = ([.pv (.str a), .pv (.str b), .pv (.bool ok)], [])

theorem q_L_Cut (s : Str) (sep : Str) (a : Str) (b : Str) (ok : Bool) (h : L_Cut s sep = some (a, b, ok)) : chC (R_L_Cut) [.pv (.str s), .pv (.str sep)] [] = some ([.pv (.str a), .pv (.str b), .pv (.bool ok)], []) := by
  refine chC_eq ⟨s, sep, a, b, ok, h, rfl, rfl, rfl⟩ ?_
  rintro y ⟨sp, sepp, ap, bp, okp, hp, ha, hH, rfl⟩
  simp only [List.cons.injEq, AV.pv.injEq, AV.agg.injEq, AV.vec.injEq, and_true, true_and, and_assoc] at ha
  obtain ⟨ya0, ya1⟩ := ha
  have e_s := str_inj ya0
  have e_sep := str_inj ya1
  subst e_s
  subst e_sep
  rw [h] at hp
  cases hp
  rfl

def R_L_WriteString : List AV → List AObj → List AV × List AObj → Prop := fun args H x => ∃ (b : Str) (s : Str) (n : Int) (c : Str), L_WriteString b s = some (n, c) ∧ args = [.ref 0 0, .pv (.str s)] ∧ H = [.bld b] ∧ x = ([.pv (.int .i64 n), .pv (.nil)], [.bld c])

theorem q_L_WriteString (b : Str) (s : Str) (n : Int) (c : Str) (h : L_WriteString b s = some (n, c)) : chC (R_L_WriteString) [.ref 0 0, .pv (.str s)] [.bld b] = some ([.pv (.int .i64 n), .pv (.nil)], [.bld c]) := by
  refine chC_eq ⟨b, s, n, c, h, rfl, rfl, rfl⟩ ?_
  rintro y ⟨bp, sp, np, cp, hp, ha, hH, rfl⟩
  simp only [List.cons.injEq, AV.pv.injEq, AV.agg.injEq, AV.vec.injEq, and_true, true_and, and_assoc] at ha
  have ya0 := ha
  have e_s := str_inj ya0
  simp only [List.cons.injEq, AObj.bld.injEq, AObj.map.injEq, AObj.row.injEq, AObj.var.injEq, AV.pv.injEq, AV.vec.injEq, and_true, true_and, and_assoc] at hH
  have yb0 := hH
  have e_b := yb0
  subst e_b
  subst e_s
  rw [h] at hp
  cases hp
  rfl

def R_L_Join : List AV → List AObj → List AV × List AObj → Prop := fun args H x => ∃ (xs : List Str) (sep : Str) (s : Str), L_Join xs sep = some s ∧ args = [.pv (.slice (List.map PV.str xs)), .pv (.str sep)] ∧ H = [] ∧ x = ([.pv (.str s)], [])

theorem q_L_Join (xs : List Str) (sep : Str) (s : Str) (h : L_Join xs sep = some s) : chC (R_L_Join) [.pv (.slice (List.map PV.str xs)), .pv (.str sep)] [] = some ([.pv (.str s)], []) := by
  refine chC_eq ⟨xs, sep, s, h, rfl, rfl, rfl⟩ ?_
  rintro y ⟨xsp, sepp, sp, hp, ha, hH, rfl⟩
  simp only [List.cons.injEq, AV.pv.injEq, AV.agg.injEq, AV.vec.injEq, and_true, true_and, and_assoc] at ha
  obtain ⟨ya0, ya1⟩ := ha
  have e_xs := map_inj_of (fun _ _ => str_inj) (PV.slice.inj ya0)
  have e_sep := str_inj ya1
  subst e_xs
  subst e_sep
  rw [h] at hp
  cases hp
  rfl

def R_L_String : List AV → List AObj → List AV × List AObj → Prop := fun args H x => ∃ (b : Str) (s : Str), L_String b = some s ∧ args = [.ref 0 0] ∧ H = [.bld b] ∧ x = ([.pv (.str s)], [.gone])

theorem q_L_String (b : Str) (s : Str) (h : L_String b = some s) : chC (R_L_String) [.ref 0 0] [.bld b] = some ([.pv (.str s)], [.gone]) := by
  refine chC_eq ⟨b, s, h, rfl, rfl, rfl⟩ ?_
  rintro y ⟨bp, sp, hp, ha, hH, rfl⟩
  simp only [List.cons.injEq, AObj.bld.injEq, AObj.map.injEq, AObj.row.injEq, AObj.var.injEq, AV.pv.injEq, AV.vec.injEq, and_true, true_and, and_assoc] at hH
  have yb0 := hH
  have e_b := yb0
  subst e_b
  rw [h] at hp
  cases hp
  rfl

def R_L_IndexByte : List AV → List AObj → List AV × List AObj → Prop := fun args H x => ∃ (s : Str) (c : Int) (n : Int), L_IndexByte s c = some n ∧ args = [.pv (.str s), .pv (.int .u8 c)] ∧ H = [] ∧ x = ([.pv (.int .i64 n)], [])

theorem q_L_IndexByte (s : Str) (c : Int) (n : Int) (h : L_IndexByte s c = some n) : chC (R_L_IndexByte) [.pv (.str s), .pv (.int .u8 c)] [] = some ([.pv (.int .i64 n)], []) := by
  refine chC_eq ⟨s, c, n, h, rfl, rfl, rfl⟩ ?_
  rintro y ⟨sp, cp, np, hp, ha, hH, rfl⟩
  simp only [List.cons.injEq, AV.pv.injEq, AV.agg.injEq, AV.vec.injEq, and_true, true_and, and_assoc] at ha
  obtain ⟨ya0, ya1⟩ := ha
  have e_s := str_inj ya0
  have e_c := int_inj ya1
  subst e_s
  subst e_c
  rw [h] at hp
  cases hp
  rfl

def R_L_Atoi : List AV → List AObj → List AV × List AObj → Prop := fun args H x => ∃ (s : Str) (n : Int) (bad : Bool), L_Atoi s = some (n, bad) ∧ args = [.pv (.str s)] ∧ H = [] ∧ x = ([.pv (.int .i64 n), .pv ((bif bad then PV.ifc else PV.nil))], [])

theorem q_L_Atoi (s : Str) (n : Int) (bad : Bool) (h : L_Atoi s = some (n, bad)) : chC (R_L_Atoi) [.pv (.str s)] [] = some ([.pv (.int .i64 n), .pv ((bif bad then PV.ifc else PV.nil))], []) := by
  refine chC_eq ⟨s, n, bad, h, rfl, rfl, rfl⟩ ?_
  rintro y ⟨sp, np, badp, hp, ha, hH, rfl⟩
  simp only [List.cons.injEq, AV.pv.injEq, AV.agg.injEq, AV.vec.injEq, and_true, true_and, and_assoc] at ha
  have ya0 := ha
  have e_s := str_inj ya0
  subst e_s
  rw [h] at hp
  cases hp
  rfl

def R_L_Itoa : List AV → List AObj → List AV × List AObj → Prop := fun args H x => ∃ (n : Int) (s : Str), L_Itoa n = some s ∧ args = [.pv (.int .i64 n)] ∧ H = [] ∧ x = ([.pv (.str s)], [])

theorem q_L_Itoa (n : Int) (s : Str) (h : L_Itoa n = some s) : chC (R_L_Itoa) [.pv (.int .i64 n)] [] = some ([.pv (.str s)], []) := by
  refine chC_eq ⟨n, s, h, rfl, rfl, rfl⟩ ?_
  rintro y ⟨np, sp, hp, ha, hH, rfl⟩
  simp only [List.cons.injEq, AV.pv.injEq, AV.agg.injEq, AV.vec.injEq, and_true, true_and, and_assoc] at ha
  have ya0 := ha
  have e_n := int_inj ya0
  subst e_n
  rw [h] at hp
  cases hp
  rfl

def R_L_Repeat : List AV → List AObj → List AV × List AObj → Prop := fun args H x => ∃ (s : Str) (n : Int) (t : Str), L_Repeat s n = some t ∧ args = [.pv (.str s), .pv (.int .i64 n)] ∧ H = [] ∧ x = ([.pv (.str t)], [])

theorem q_L_Repeat (s : Str) (n : Int) (t : Str) (h : L_Repeat s n = some t) : chC (R_L_Repeat) [.pv (.str s), .pv (.int .i64 n)] [] = some ([.pv (.str t)], []) := by
  refine chC_eq ⟨s, n, t, h, rfl, rfl, rfl⟩ ?_
  rintro y ⟨sp, np, tp, hp, ha, hH, rfl⟩
  simp only [List.cons.injEq, AV.pv.injEq, AV.agg.injEq, AV.vec.injEq, and_true, true_and, and_assoc] at ha
  obtain ⟨ya0, ya1⟩ := ha
  have e_s := str_inj ya0
  have e_n := int_inj ya1
  subst e_s
  subst e_n
  rw [h] at hp
  cases hp
  rfl

def R_L_Clone : List AV → List AObj → List AV × List AObj → Prop := fun args H x => ∃ (xs : List Str) (l : List Str), L_Clone xs = some l ∧ args = [.pv (.slice (List.map PV.str xs))] ∧ H = [] ∧ x = ([.pv (.slice (List.map PV.str l))], [])

theorem q_L_Clone (xs : List Str) (l : List Str) (h : L_Clone xs = some l) : chC (R_L_Clone) [.pv (.slice (List.map PV.str xs))] [] = some ([.pv (.slice (List.map PV.str l))], []) := by
  refine chC_eq ⟨xs, l, h, rfl, rfl, rfl⟩ ?_
  rintro y ⟨xsp, lp, hp, ha, hH, rfl⟩
  simp only [List.cons.injEq, AV.pv.injEq, AV.agg.injEq, AV.vec.injEq, and_true, true_and, and_assoc] at ha
  have ya0 := ha
  have e_xs := map_inj_of (fun _ _ => str_inj) (PV.slice.inj ya0)
  subst e_xs
  rw [h] at hp
  cases hp
  rfl

def R_F7 : List AV → List AObj → List AV × List AObj → Prop := fun args H x => ∃ (l1 : List Str) (most2 : Int) (r3 : Bool), F7 l1 most2 = some r3 ∧ args = [.pv (.slice (List.map PV.str l1)), .pv (.int .i64 most2)] ∧ H = [] ∧ x = ([.pv (.bool r3)], [])

theorem q_F7 (l1 : List Str) (most2 : Int) (r3 : Bool) (h : F7 l1 most2 = some r3) : chC (R_F7) [.pv (.slice (List.map PV.str l1)), .pv (.int .i64 most2)] [] = some ([.pv (.bool r3)], []) := by
  refine chC_eq ⟨l1, most2, r3, h, rfl, rfl, rfl⟩ ?_
  rintro y ⟨l1p, most2p, r3p, hp, ha, hH, rfl⟩
  simp only [List.cons.injEq, AV.pv.injEq, AV.agg.injEq, AV.vec.injEq, and_true, true_and, and_assoc] at ha
  obtain ⟨ya0, ya1⟩ := ha
  have e_l1 := map_inj_of (fun _ _ => str_inj) (PV.slice.inj ya0)
  have e_most2 := int_inj ya1
  subst e_l1
  subst e_most2
  rw [h] at hp
  cases hp
  rfl

def R_F22 : List AV → List AObj → List AV × List AObj → Prop := fun args H x => ∃ (l1 : List Str) (r2 : List GValue), F22 l1 = some r2 ∧ args = [.pv (.slice (List.map PV.str l1))] ∧ H = [] ∧ x = ([.pv (.slice (List.map GValue.pv r2))], [])

theorem q_F22 (l1 : List Str) (r2 : List GValue) (h : F22 l1 = some r2) : chC (R_F22) [.pv (.slice (List.map PV.str l1))] [] = some ([.pv (.slice (List.map GValue.pv r2))], []) := by
  refine chC_eq ⟨l1, r2, h, rfl, rfl, rfl⟩ ?_
  rintro y ⟨l1p, r2p, hp, ha, hH, rfl⟩
  simp only [List.cons.injEq, AV.pv.injEq, AV.agg.injEq, AV.vec.injEq, and_true, true_and, and_assoc] at ha
  have ya0 := ha
  have e_l1 := map_inj_of (fun _ _ => str_inj) (PV.slice.inj ya0)
  subst e_l1
  rw [h] at hp
  cases hp
  rfl

def R_F40 : List AV → List AObj → List AV × List AObj → Prop := fun args H x => ∃ (a1 : GValue) (b2 : GValue) (r3 : GValue) (r4 : Int), F40 a1 b2 = some (r3, r4) ∧ args = [.pv (.agg [.str a1.text_, .str a1.marks_]), .pv (.agg [.str b2.text_, .str b2.marks_])] ∧ H = [] ∧ x = ([.pv (.agg [.str r3.text_, .str r3.marks_]), .pv (.int .i64 r4)], [])

theorem q_F40 (a1 : GValue) (b2 : GValue) (r3 : GValue) (r4 : Int) (h : F40 a1 b2 = some (r3, r4)) : chC (R_F40) [.pv (.agg [.str a1.text_, .str a1.marks_]), .pv (.agg [.str b2.text_, .str b2.marks_])] [] = some ([.pv (.agg [.str r3.text_, .str r3.marks_]), .pv (.int .i64 r4)], []) := by
  refine chC_eq ⟨a1, b2, r3, r4, h, rfl, rfl, rfl⟩ ?_
  rintro y ⟨a1p, b2p, r3p, r4p, hp, ha, hH, rfl⟩
  simp only [List.cons.injEq, AV.pv.injEq, AV.agg.injEq, AV.vec.injEq, and_true, true_and, and_assoc] at ha
  obtain ⟨ya0, ya1⟩ := ha
  have e_a1 := GValue.inj (x := a1) (y := a1p) ya0
  have e_b2 := GValue.inj (x := b2) (y := b2p) ya1
  subst e_a1
  subst e_b2
  rw [h] at hp
  cases hp
  rfl

def R_F21 : List AV → List AObj → List AV × List AObj → Prop := fun args H x => ∃ (a1 : List GValue) (b2 : List GValue) (r3 : List GValue) (r4 : Int), F21 a1 b2 = some (r3, r4) ∧ args = [.pv (.slice (List.map GValue.pv a1)), .pv (.slice (List.map GValue.pv b2))] ∧ H = [] ∧ x = ([.pv (.slice (List.map GValue.pv r3)), .pv (.int .i64 r4)], [])

theorem q_F21 (a1 : List GValue) (b2 : List GValue) (r3 : List GValue) (r4 : Int) (h : F21 a1 b2 = some (r3, r4)) : chC (R_F21) [.pv (.slice (List.map GValue.pv a1)), .pv (.slice (List.map GValue.pv b2))] [] = some ([.pv (.slice (List.map GValue.pv r3)), .pv (.int .i64 r4)], []) := by
  refine chC_eq ⟨a1, b2, r3, r4, h, rfl, rfl, rfl⟩ ?_
  rintro y ⟨a1p, b2p, r3p, r4p, hp, ha, hH, rfl⟩
  simp only [List.cons.injEq, AV.pv.injEq, AV.agg.injEq, AV.vec.injEq, and_true, true_and, and_assoc] at ha
  obtain ⟨ya0, ya1⟩ := ha
  have e_a1 := map_inj_of (fun _ _ => GValue.inj) (PV.slice.inj ya0)
  have e_b2 := map_inj_of (fun _ _ => GValue.inj) (PV.slice.inj ya1)
  subst e_a1
  subst e_b2
  rw [h] at hp
  cases hp
  rfl

def R_F23 : List AV → List AObj → List AV × List AObj → Prop := fun args H x => ∃ (l1 : List GValue) (r2 : List Str), F23 l1 = some r2 ∧ args = [.pv (.slice (List.map GValue.pv l1))] ∧ H = [] ∧ x = ([.pv (.slice (List.map PV.str r2))], [])

theorem q_F23 (l1 : List GValue) (r2 : List Str) (h : F23 l1 = some r2) : chC (R_F23) [.pv (.slice (List.map GValue.pv l1))] [] = some ([.pv (.slice (List.map PV.str r2))], []) := by
  refine chC_eq ⟨l1, r2, h, rfl, rfl, rfl⟩ ?_
  rintro y ⟨l1p, r2p, hp, ha, hH, rfl⟩
  simp only [List.cons.injEq, AV.pv.injEq, AV.agg.injEq, AV.vec.injEq, and_true, true_and, and_assoc] at ha
  have ya0 := ha
  have e_l1 := map_inj_of (fun _ _ => GValue.inj) (PV.slice.inj ya0)
  subst e_l1
  rw [h] at hp
  cases hp
  rfl

def R_F9 : List AV → List AObj → List AV × List AObj → Prop := fun args H x => ∃ (a1 : List Str) (b2 : List Str) (r3 : List Str) (r4 : Int), F9 a1 b2 = some (r3, r4) ∧ args = [.pv (.slice (List.map PV.str a1)), .pv (.slice (List.map PV.str b2))] ∧ H = [] ∧ x = ([.pv (.slice (List.map PV.str r3)), .pv (.int .i64 r4)], [])

theorem q_F9 (a1 : List Str) (b2 : List Str) (r3 : List Str) (r4 : Int) (h : F9 a1 b2 = some (r3, r4)) : chC (R_F9) [.pv (.slice (List.map PV.str a1)), .pv (.slice (List.map PV.str b2))] [] = some ([.pv (.slice (List.map PV.str r3)), .pv (.int .i64 r4)], []) := by
  refine chC_eq ⟨a1, b2, r3, r4, h, rfl, rfl, rfl⟩ ?_
  rintro y ⟨a1p, b2p, r3p, r4p, hp, ha, hH, rfl⟩
  simp only [List.cons.injEq, AV.pv.injEq, AV.agg.injEq, AV.vec.injEq, and_true, true_and, and_assoc] at ha
  obtain ⟨ya0, ya1⟩ := ha
  have e_a1 := map_inj_of (fun _ _ => str_inj) (PV.slice.inj ya0)
  have e_b2 := map_inj_of (fun _ _ => str_inj) (PV.slice.inj ya1)
  subst e_a1
  subst e_b2
  rw [h] at hp
  cases hp
  rfl

def R_F20 : List AV → List AObj → List AV × List AObj → Prop := fun args H x => ∃ (r1 : List GEnv), F20 = some r1 ∧ args = [] ∧ H = [] ∧ x = ([.pv (.slice (List.map GEnv.pv r1))], [])

theorem q_F20 (r1 : List GEnv) (h : F20 = some r1) : chC (R_F20) [] [] = some ([.pv (.slice (List.map GEnv.pv r1))], []) := by
  refine chC_eq ⟨r1, h, rfl, rfl, rfl⟩ ?_
  rintro y ⟨r1p, hp, ha, hH, rfl⟩
  rw [h] at hp
  cases hp
  rfl

def R_F24 : List AV → List AObj → List AV × List AObj → Prop := fun args H x => ∃ (s1 : Str) (r2 : Int) (r3 : Bool), F24 s1 = some (r2, r3) ∧ args = [.pv (.str s1)] ∧ H = [] ∧ x = ([.pv (.int .i64 r2), .pv (.bool r3)], [])

theorem q_F24 (s1 : Str) (r2 : Int) (r3 : Bool) (h : F24 s1 = some (r2, r3)) : chC (R_F24) [.pv (.str s1)] [] = some ([.pv (.int .i64 r2), .pv (.bool r3)], []) := by
  refine chC_eq ⟨s1, r2, r3, h, rfl, rfl, rfl⟩ ?_
  rintro y ⟨s1p, r2p, r3p, hp, ha, hH, rfl⟩
  simp only [List.cons.injEq, AV.pv.injEq, AV.agg.injEq, AV.vec.injEq, and_true, true_and, and_assoc] at ha
  have ya0 := ha
  have e_s1 := str_inj ya0
  subst e_s1
  rw [h] at hp
  cases hp
  rfl

def R_F76 : List AV → List AObj → List AV × List AObj → Prop := fun args H x => ∃ (g1 : GEnv) (x2 : Int) (r3 : Bool), F76 g1 x2 = some r3 ∧ args = [.pv (.agg [.int .i64 g1.id_, .int .i64 g1.next_, .slice (List.map Var.pv g1.vars_)]), .ref 0 0] ∧ H = [.var [.pv (.int .i64 x2)]] ∧ x = ([.pv (.bool r3)], [.var [.pv (.int .i64 x2)]])

theorem q_F76 (g1 : GEnv) (x2 : Int) (r3 : Bool) (h : F76 g1 x2 = some r3) : chC (R_F76) [.pv (.agg [.int .i64 g1.id_, .int .i64 g1.next_, .slice (List.map Var.pv g1.vars_)]), .ref 0 0] [.var [.pv (.int .i64 x2)]] = some ([.pv (.bool r3)], [.var [.pv (.int .i64 x2)]]) := by
  refine chC_eq ⟨g1, x2, r3, h, rfl, rfl, rfl⟩ ?_
  rintro y ⟨g1p, x2p, r3p, hp, ha, hH, rfl⟩
  simp only [List.cons.injEq, AV.pv.injEq, AV.agg.injEq, AV.vec.injEq, and_true, true_and, and_assoc] at ha
  have ya0 := ha
  have e_g1 := GEnv.inj (x := g1) (y := g1p) ya0
  simp only [List.cons.injEq, AObj.bld.injEq, AObj.map.injEq, AObj.row.injEq, AObj.var.injEq, AV.pv.injEq, AV.vec.injEq, and_true, true_and, and_assoc] at hH
  have yb0 := hH
  have e_x2 := int_inj yb0
  subst e_g1
  subst e_x2
  rw [h] at hp
  cases hp
  rfl

def R_F75 : List AV → List AObj → List AV × List AObj → Prop := fun args H x => ∃ (s1 : List GEnv) (x2 : Int) (r3 : Int), F75 s1 x2 = some r3 ∧ args = [.pv (.slice (List.map GEnv.pv s1)), .fn 76 [0]] ∧ H = [.var [.pv (.int .i64 x2)]] ∧ x = ([.pv (.int .i64 r3)], [.var [.pv (.int .i64 x2)]])

theorem q_F75 (s1 : List GEnv) (x2 : Int) (r3 : Int) (h : F75 s1 x2 = some r3) : chC (R_F75) [.pv (.slice (List.map GEnv.pv s1)), .fn 76 [0]] [.var [.pv (.int .i64 x2)]] = some ([.pv (.int .i64 r3)], [.var [.pv (.int .i64 x2)]]) := by
  refine chC_eq ⟨s1, x2, r3, h, rfl, rfl, rfl⟩ ?_
  rintro y ⟨s1p, x2p, r3p, hp, ha, hH, rfl⟩
  simp only [List.cons.injEq, AV.pv.injEq, AV.agg.injEq, AV.vec.injEq, and_true, true_and, and_assoc] at ha
  have ya0 := ha
  have e_s1 := map_inj_of (fun _ _ => GEnv.inj) (PV.slice.inj ya0)
  simp only [List.cons.injEq, AObj.bld.injEq, AObj.map.injEq, AObj.row.injEq, AObj.var.injEq, AV.pv.injEq, AV.vec.injEq, and_true, true_and, and_assoc] at hH
  have yb0 := hH
  have e_x2 := int_inj yb0
  subst e_s1
  subst e_x2
  rw [h] at hp
  cases hp
  rfl

def R_F60 : List AV → List AObj → List AV × List AObj → Prop := fun args H x => ∃ (l1 : List GEnv) (group2 : Int) (r3 : Int), F60 l1 group2 = some r3 ∧ args = [.pv (.slice (List.map GEnv.pv l1)), .pv (.int .i64 group2)] ∧ H = [] ∧ x = ([.pv (.int .i64 r3)], [])

theorem q_F60 (l1 : List GEnv) (group2 : Int) (r3 : Int) (h : F60 l1 group2 = some r3) : chC (R_F60) [.pv (.slice (List.map GEnv.pv l1)), .pv (.int .i64 group2)] [] = some ([.pv (.int .i64 r3)], []) := by
  refine chC_eq ⟨l1, group2, r3, h, rfl, rfl, rfl⟩ ?_
  rintro y ⟨l1p, group2p, r3p, hp, ha, hH, rfl⟩
  simp only [List.cons.injEq, AV.pv.injEq, AV.agg.injEq, AV.vec.injEq, and_true, true_and, and_assoc] at ha
  obtain ⟨ya0, ya1⟩ := ha
  have e_l1 := map_inj_of (fun _ _ => GEnv.inj) (PV.slice.inj ya0)
  have e_group2 := int_inj ya1
  subst e_l1
  subst e_group2
  rw [h] at hp
  cases hp
  rfl

def R_F78 : List AV → List AObj → List AV × List AObj → Prop := fun args H x => ∃ (v1 : Var) (x2 : Str) (r3 : Bool), F78 v1 x2 = some r3 ∧ args = [.pv (.agg [.int .i64 v1.id_, .str v1.name_, .slice (List.map PV.str v1.values_)]), .ref 0 0] ∧ H = [.var [.pv (.str x2)]] ∧ x = ([.pv (.bool r3)], [.var [.pv (.str x2)]])

theorem q_F78 (v1 : Var) (x2 : Str) (r3 : Bool) (h : F78 v1 x2 = some r3) : chC (R_F78) [.pv (.agg [.int .i64 v1.id_, .str v1.name_, .slice (List.map PV.str v1.values_)]), .ref 0 0] [.var [.pv (.str x2)]] = some ([.pv (.bool r3)], [.var [.pv (.str x2)]]) := by
  refine chC_eq ⟨v1, x2, r3, h, rfl, rfl, rfl⟩ ?_
  rintro y ⟨v1p, x2p, r3p, hp, ha, hH, rfl⟩
  simp only [List.cons.injEq, AV.pv.injEq, AV.agg.injEq, AV.vec.injEq, and_true, true_and, and_assoc] at ha
  have ya0 := ha
  have e_v1 := Var.inj (x := v1) (y := v1p) ya0
  simp only [List.cons.injEq, AObj.bld.injEq, AObj.map.injEq, AObj.row.injEq, AObj.var.injEq, AV.pv.injEq, AV.vec.injEq, and_true, true_and, and_assoc] at hH
  have yb0 := hH
  have e_x2 := str_inj yb0
  subst e_v1
  subst e_x2
  rw [h] at hp
  cases hp
  rfl

def R_F77 : List AV → List AObj → List AV × List AObj → Prop := fun args H x => ∃ (s1 : List Var) (x2 : Str) (r3 : Int), F77 s1 x2 = some r3 ∧ args = [.pv (.slice (List.map Var.pv s1)), .fn 78 [0]] ∧ H = [.var [.pv (.str x2)]] ∧ x = ([.pv (.int .i64 r3)], [.var [.pv (.str x2)]])

theorem q_F77 (s1 : List Var) (x2 : Str) (r3 : Int) (h : F77 s1 x2 = some r3) : chC (R_F77) [.pv (.slice (List.map Var.pv s1)), .fn 78 [0]] [.var [.pv (.str x2)]] = some ([.pv (.int .i64 r3)], [.var [.pv (.str x2)]]) := by
  refine chC_eq ⟨s1, x2, r3, h, rfl, rfl, rfl⟩ ?_
  rintro y ⟨s1p, x2p, r3p, hp, ha, hH, rfl⟩
  simp only [List.cons.injEq, AV.pv.injEq, AV.agg.injEq, AV.vec.injEq, and_true, true_and, and_assoc] at ha
  have ya0 := ha
  have e_s1 := map_inj_of (fun _ _ => Var.inj) (PV.slice.inj ya0)
  simp only [List.cons.injEq, AObj.bld.injEq, AObj.map.injEq, AObj.row.injEq, AObj.var.injEq, AV.pv.injEq, AV.vec.injEq, and_true, true_and, and_assoc] at hH
  have yb0 := hH
  have e_x2 := str_inj yb0
  subst e_s1
  subst e_x2
  rw [h] at hp
  cases hp
  rfl

def R_F61 : List AV → List AObj → List AV × List AObj → Prop := fun args H x => ∃ (g1 : GEnv) (name2 : Str) (r3 : Int), F61 g1 name2 = some r3 ∧ args = [.pv (.agg [.int .i64 g1.id_, .int .i64 g1.next_, .slice (List.map Var.pv g1.vars_)]), .pv (.str name2)] ∧ H = [] ∧ x = ([.pv (.int .i64 r3)], [])

theorem q_F61 (g1 : GEnv) (name2 : Str) (r3 : Int) (h : F61 g1 name2 = some r3) : chC (R_F61) [.pv (.agg [.int .i64 g1.id_, .int .i64 g1.next_, .slice (List.map Var.pv g1.vars_)]), .pv (.str name2)] [] = some ([.pv (.int .i64 r3)], []) := by
  refine chC_eq ⟨g1, name2, r3, h, rfl, rfl, rfl⟩ ?_
  rintro y ⟨g1p, name2p, r3p, hp, ha, hH, rfl⟩
  simp only [List.cons.injEq, AV.pv.injEq, AV.agg.injEq, AV.vec.injEq, and_true, true_and, and_assoc] at ha
  obtain ⟨ya0, ya1⟩ := ha
  have e_g1 := GEnv.inj (x := g1) (y := g1p) ya0
  have e_name2 := str_inj ya1
  subst e_g1
  subst e_name2
  rw [h] at hp
  cases hp
  rfl

def R_F50 : List AV → List AObj → List AV × List AObj → Prop := fun args H x => ∃ (l1 : List GEnv) (group2 : Int) (name3 : Str) (r4 : List Str) (r5 : Bool), F50 l1 group2 name3 = some (r4, r5) ∧ args = [.pv (.slice (List.map GEnv.pv l1)), .pv (.int .i64 group2), .pv (.str name3)] ∧ H = [] ∧ x = ([.pv (.slice (List.map PV.str r4)), .pv (.bool r5)], [])

theorem q_F50 (l1 : List GEnv) (group2 : Int) (name3 : Str) (r4 : List Str) (r5 : Bool) (h : F50 l1 group2 name3 = some (r4, r5)) : chC (R_F50) [.pv (.slice (List.map GEnv.pv l1)), .pv (.int .i64 group2), .pv (.str name3)] [] = some ([.pv (.slice (List.map PV.str r4)), .pv (.bool r5)], []) := by
  refine chC_eq ⟨l1, group2, name3, r4, r5, h, rfl, rfl, rfl⟩ ?_
  rintro y ⟨l1p, group2p, name3p, r4p, r5p, hp, ha, hH, rfl⟩
  simp only [List.cons.injEq, AV.pv.injEq, AV.agg.injEq, AV.vec.injEq, and_true, true_and, and_assoc] at ha
  obtain ⟨ya0, ya1, ya2⟩ := ha
  have e_l1 := map_inj_of (fun _ _ => GEnv.inj) (PV.slice.inj ya0)
  have e_group2 := int_inj ya1
  have e_name3 := str_inj ya2
  subst e_l1
  subst e_group2
  subst e_name3
  rw [h] at hp
  cases hp
  rfl

def R_F36 : List AV → List AObj → List AV × List AObj → Prop := fun args H x => ∃ (l1 : List GEnv) (group2 : Int) (name3 : Str) (r4 : List Str), F36 l1 group2 name3 = some r4 ∧ args = [.pv (.slice (List.map GEnv.pv l1)), .pv (.int .i64 group2), .pv (.str name3)] ∧ H = [] ∧ x = ([.pv (.slice (List.map PV.str r4))], [])

theorem q_F36 (l1 : List GEnv) (group2 : Int) (name3 : Str) (r4 : List Str) (h : F36 l1 group2 name3 = some r4) : chC (R_F36) [.pv (.slice (List.map GEnv.pv l1)), .pv (.int .i64 group2), .pv (.str name3)] [] = some ([.pv (.slice (List.map PV.str r4))], []) := by
  refine chC_eq ⟨l1, group2, name3, r4, h, rfl, rfl, rfl⟩ ?_
  rintro y ⟨l1p, group2p, name3p, r4p, hp, ha, hH, rfl⟩
  simp only [List.cons.injEq, AV.pv.injEq, AV.agg.injEq, AV.vec.injEq, and_true, true_and, and_assoc] at ha
  obtain ⟨ya0, ya1, ya2⟩ := ha
  have e_l1 := map_inj_of (fun _ _ => GEnv.inj) (PV.slice.inj ya0)
  have e_group2 := int_inj ya1
  have e_name3 := str_inj ya2
  subst e_l1
  subst e_group2
  subst e_name3
  rw [h] at hp
  cases hp
  rfl

def R_F43 : List AV → List AObj → List AV × List AObj → Prop := fun args H x => ∃ (l1 : List Str) (r2 : List GValue), F43 l1 = some r2 ∧ args = [.pv (.slice (List.map PV.str l1))] ∧ H = [] ∧ x = ([.pv (.slice (List.map GValue.pv r2))], [])

theorem q_F43 (l1 : List Str) (r2 : List GValue) (h : F43 l1 = some r2) : chC (R_F43) [.pv (.slice (List.map PV.str l1))] [] = some ([.pv (.slice (List.map GValue.pv r2))], []) := by
  refine chC_eq ⟨l1, r2, h, rfl, rfl, rfl⟩ ?_
  rintro y ⟨l1p, r2p, hp, ha, hH, rfl⟩
  simp only [List.cons.injEq, AV.pv.injEq, AV.agg.injEq, AV.vec.injEq, and_true, true_and, and_assoc] at ha
  have ya0 := ha
  have e_l1 := map_inj_of (fun _ _ => str_inj) (PV.slice.inj ya0)
  subst e_l1
  rw [h] at hp
  cases hp
  rfl

def R_F11 : List AV → List AObj → List AV × List AObj → Prop := fun args H x => ∃ (l1 : List Str) (idx2 : List Str) (r3 : List Str) (r4 : Int), F11 l1 idx2 = some (r3, r4) ∧ args = [.pv (.slice (List.map PV.str l1)), .pv (.slice (List.map PV.str idx2))] ∧ H = [] ∧ x = ([.pv (.slice (List.map PV.str r3)), .pv (.int .i64 r4)], [])

theorem q_F11 (l1 : List Str) (idx2 : List Str) (r3 : List Str) (r4 : Int) (h : F11 l1 idx2 = some (r3, r4)) : chC (R_F11) [.pv (.slice (List.map PV.str l1)), .pv (.slice (List.map PV.str idx2))] [] = some ([.pv (.slice (List.map PV.str r3)), .pv (.int .i64 r4)], []) := by
  refine chC_eq ⟨l1, idx2, r3, r4, h, rfl, rfl, rfl⟩ ?_
  rintro y ⟨l1p, idx2p, r3p, r4p, hp, ha, hH, rfl⟩
  simp only [List.cons.injEq, AV.pv.injEq, AV.agg.injEq, AV.vec.injEq, and_true, true_and, and_assoc] at ha
  obtain ⟨ya0, ya1⟩ := ha
  have e_l1 := map_inj_of (fun _ _ => str_inj) (PV.slice.inj ya0)
  have e_idx2 := map_inj_of (fun _ _ => str_inj) (PV.slice.inj ya1)
  subst e_l1
  subst e_idx2
  rw [h] at hp
  cases hp
  rfl

def R_F44 (w29 : (List GEnv) → Int → Word → Option ((List GValue) × Int)) : List AV → List AObj → List AV × List AObj → Prop := fun args H x => ∃ (l1 : List GEnv) (group2 : Int) (words3 : List Word) (r4 : List GValue) (r5 : Int), F44 w29 l1 group2 words3 = some (r4, r5) ∧ args = [.pv (.slice (List.map GEnv.pv l1)), .pv (.int .i64 group2), .pv (.slice (List.map Word.pv words3))] ∧ H = [] ∧ x = ([.pv (.slice (List.map GValue.pv r4)), .pv (.int .i64 r5)], [])

theorem q_F44 (w29 : (List GEnv) → Int → Word → Option ((List GValue) × Int)) (l1 : List GEnv) (group2 : Int) (words3 : List Word) (r4 : List GValue) (r5 : Int) (h : F44 w29 l1 group2 words3 = some (r4, r5)) : chC (R_F44 w29) [.pv (.slice (List.map GEnv.pv l1)), .pv (.int .i64 group2), .pv (.slice (List.map Word.pv words3))] [] = some ([.pv (.slice (List.map GValue.pv r4)), .pv (.int .i64 r5)], []) := by
  refine chC_eq ⟨l1, group2, words3, r4, r5, h, rfl, rfl, rfl⟩ ?_
  rintro y ⟨l1p, group2p, words3p, r4p, r5p, hp, ha, hH, rfl⟩
  simp only [List.cons.injEq, AV.pv.injEq, AV.agg.injEq, AV.vec.injEq, and_true, true_and, and_assoc] at ha
  obtain ⟨ya0, ya1, ya2⟩ := ha
  have e_l1 := map_inj_of (fun _ _ => GEnv.inj) (PV.slice.inj ya0)
  have e_group2 := int_inj ya1
  have e_words3 := map_inj_of (fun _ _ => Word.inj) (PV.slice.inj ya2)
  subst e_l1
  subst e_group2
  subst e_words3
  rw [h] at hp
  cases hp
  rfl

def R_F45 (w29 : (List GEnv) → Int → Word → Option ((List GValue) × Int)) : List AV → List AObj → List AV × List AObj → Prop := fun args H x => ∃ (l1 : List GEnv) (group2 : Int) (words3 : List Word) (r4 : List GValue) (r5 : Int), F45 w29 l1 group2 words3 = some (r4, r5) ∧ args = [.pv (.slice (List.map GEnv.pv l1)), .pv (.int .i64 group2), .pv (.slice (List.map Word.pv words3))] ∧ H = [] ∧ x = ([.pv (.slice (List.map GValue.pv r4)), .pv (.int .i64 r5)], [])

theorem q_F45 (w29 : (List GEnv) → Int → Word → Option ((List GValue) × Int)) (l1 : List GEnv) (group2 : Int) (words3 : List Word) (r4 : List GValue) (r5 : Int) (h : F45 w29 l1 group2 words3 = some (r4, r5)) : chC (R_F45 w29) [.pv (.slice (List.map GEnv.pv l1)), .pv (.int .i64 group2), .pv (.slice (List.map Word.pv words3))] [] = some ([.pv (.slice (List.map GValue.pv r4)), .pv (.int .i64 r5)], []) := by
  refine chC_eq ⟨l1, group2, words3, r4, r5, h, rfl, rfl, rfl⟩ ?_
  rintro y ⟨l1p, group2p, words3p, r4p, r5p, hp, ha, hH, rfl⟩
  simp only [List.cons.injEq, AV.pv.injEq, AV.agg.injEq, AV.vec.injEq, and_true, true_and, and_assoc] at ha
  obtain ⟨ya0, ya1, ya2⟩ := ha
  have e_l1 := map_inj_of (fun _ _ => GEnv.inj) (PV.slice.inj ya0)
  have e_group2 := int_inj ya1
  have e_words3 := map_inj_of (fun _ _ => Word.inj) (PV.slice.inj ya2)
  subst e_l1
  subst e_group2
  subst e_words3
  rw [h] at hp
  cases hp
  rfl

def R_w29 (w29 : (List GEnv) → Int → Word → Option ((List GValue) × Int)) : List AV → List AObj → List AV × List AObj → Prop := fun args H x => ∃ (a0 : List GEnv) (a1 : Int) (a2 : Word) (r0 : List GValue) (r1 : Int), w29 a0 a1 a2 = some (r0, r1) ∧ args = [.pv (.slice (List.map GEnv.pv a0)), .pv (.int .i64 a1), .pv (.agg [.int .i64 a2.kind_, .str a2.text_, .str a2.quoted_, .slice (List.map Word.pv a2.words_), .slice (List.map Cmd.pv a2.cmd_)])] ∧ H = [] ∧ x = ([.pv (.slice (List.map GValue.pv r0)), .pv (.int .i64 r1)], [])

theorem q_w29 (w29 : (List GEnv) → Int → Word → Option ((List GValue) × Int)) (a0 : List GEnv) (a1 : Int) (a2 : Word) (r0 : List GValue) (r1 : Int) (h : w29 a0 a1 a2 = some (r0, r1)) : chC (R_w29 w29) [.pv (.slice (List.map GEnv.pv a0)), .pv (.int .i64 a1), .pv (.agg [.int .i64 a2.kind_, .str a2.text_, .str a2.quoted_, .slice (List.map Word.pv a2.words_), .slice (List.map Cmd.pv a2.cmd_)])] [] = some ([.pv (.slice (List.map GValue.pv r0)), .pv (.int .i64 r1)], []) := by
  refine chC_eq ⟨a0, a1, a2, r0, r1, h, rfl, rfl, rfl⟩ ?_
  rintro y ⟨a0p, a1p, a2p, r0p, r1p, hp, ha, hH, rfl⟩
  simp only [List.cons.injEq, AV.pv.injEq, AV.agg.injEq, AV.vec.injEq, and_true, true_and, and_assoc] at ha
  obtain ⟨ya0, ya1, ya2⟩ := ha
  have e_a0 := map_inj_of (fun _ _ => GEnv.inj) (PV.slice.inj ya0)
  have e_a1 := int_inj ya1
  have e_a2 := Word.injA (x := a2) (y := a2p) ya2
  subst e_a0
  subst e_a1
  subst e_a2
  rw [h] at hp
  cases hp
  rfl

def R_F17 : List AV → List AObj → List AV × List AObj → Prop := fun args H x => ∃ (l1 : List GEnv) (group2 : Int) (w3 : Word) (r4 : List Str) (r5 : List Str) (r6 : Int), F17 l1 group2 w3 = some (r4, r5, r6) ∧ args = [.pv (.slice (List.map GEnv.pv l1)), .pv (.int .i64 group2), .pv (.agg [.int .i64 w3.kind_, .str w3.text_, .str w3.quoted_, .slice (List.map Word.pv w3.words_), .slice (List.map Cmd.pv w3.cmd_)])] ∧ H = [] ∧ x = ([.pv (.slice (List.map PV.str r4)), .pv (.slice (List.map PV.str r5)), .pv (.int .i64 r6)], [])

theorem q_F17 (l1 : List GEnv) (group2 : Int) (w3 : Word) (r4 : List Str) (r5 : List Str) (r6 : Int) (h : F17 l1 group2 w3 = some (r4, r5, r6)) : chC (R_F17) [.pv (.slice (List.map GEnv.pv l1)), .pv (.int .i64 group2), .pv (.agg [.int .i64 w3.kind_, .str w3.text_, .str w3.quoted_, .slice (List.map Word.pv w3.words_), .slice (List.map Cmd.pv w3.cmd_)])] [] = some ([.pv (.slice (List.map PV.str r4)), .pv (.slice (List.map PV.str r5)), .pv (.int .i64 r6)], []) := by
  refine chC_eq ⟨l1, group2, w3, r4, r5, r6, h, rfl, rfl, rfl⟩ ?_
  rintro y ⟨l1p, group2p, w3p, r4p, r5p, r6p, hp, ha, hH, rfl⟩
  simp only [List.cons.injEq, AV.pv.injEq, AV.agg.injEq, AV.vec.injEq, and_true, true_and, and_assoc] at ha
  obtain ⟨ya0, ya1, ya2⟩ := ha
  have e_l1 := map_inj_of (fun _ _ => GEnv.inj) (PV.slice.inj ya0)
  have e_group2 := int_inj ya1
  have e_w3 := Word.injA (x := w3) (y := w3p) ya2
  subst e_l1
  subst e_group2
  subst e_w3
  rw [h] at hp
  cases hp
  rfl

def R_F33 : List AV → List AObj → List AV × List AObj → Prop := fun args H x => ∃ (c1 : Int) (r2 : Bool), F33 c1 = some r2 ∧ args = [.pv (.int .u8 c1)] ∧ H = [] ∧ x = ([.pv (.bool r2)], [])

theorem q_F33 (c1 : Int) (r2 : Bool) (h : F33 c1 = some r2) : chC (R_F33) [.pv (.int .u8 c1)] [] = some ([.pv (.bool r2)], []) := by
  refine chC_eq ⟨c1, r2, h, rfl, rfl, rfl⟩ ?_
  rintro y ⟨c1p, r2p, hp, ha, hH, rfl⟩
  simp only [List.cons.injEq, AV.pv.injEq, AV.agg.injEq, AV.vec.injEq, and_true, true_and, and_assoc] at ha
  have ya0 := ha
  have e_c1 := int_inj ya0
  subst e_c1
  rw [h] at hp
  cases hp
  rfl

def R_F48 : List AV → List AObj → List AV × List AObj → Prop := fun args H x => ∃ (s1 : Str) (prefix2 : Str) (r3 : Bool), F48 s1 prefix2 = some r3 ∧ args = [.pv (.str s1), .pv (.str prefix2)] ∧ H = [] ∧ x = ([.pv (.bool r3)], [])

theorem q_F48 (s1 : Str) (prefix2 : Str) (r3 : Bool) (h : F48 s1 prefix2 = some r3) : chC (R_F48) [.pv (.str s1), .pv (.str prefix2)] [] = some ([.pv (.bool r3)], []) := by
  refine chC_eq ⟨s1, prefix2, r3, h, rfl, rfl, rfl⟩ ?_
  rintro y ⟨s1p, prefix2p, r3p, hp, ha, hH, rfl⟩
  simp only [List.cons.injEq, AV.pv.injEq, AV.agg.injEq, AV.vec.injEq, and_true, true_and, and_assoc] at ha
  obtain ⟨ya0, ya1⟩ := ha
  have e_s1 := str_inj ya0
  have e_prefix2 := str_inj ya1
  subst e_s1
  subst e_prefix2
  rw [h] at hp
  cases hp
  rfl

def R_F34 : List AV → List AObj → List AV × List AObj → Prop := fun args H x => ∃ (s1 : Str) (prefix2 : Str) (r3 : Bool), F34 s1 prefix2 = some r3 ∧ args = [.pv (.str s1), .pv (.str prefix2)] ∧ H = [] ∧ x = ([.pv (.bool r3)], [])

theorem q_F34 (s1 : Str) (prefix2 : Str) (r3 : Bool) (h : F34 s1 prefix2 = some r3) : chC (R_F34) [.pv (.str s1), .pv (.str prefix2)] [] = some ([.pv (.bool r3)], []) := by
  refine chC_eq ⟨s1, prefix2, r3, h, rfl, rfl, rfl⟩ ?_
  rintro y ⟨s1p, prefix2p, r3p, hp, ha, hH, rfl⟩
  simp only [List.cons.injEq, AV.pv.injEq, AV.agg.injEq, AV.vec.injEq, and_true, true_and, and_assoc] at ha
  obtain ⟨ya0, ya1⟩ := ha
  have e_s1 := str_inj ya0
  have e_prefix2 := str_inj ya1
  subst e_s1
  subst e_prefix2
  rw [h] at hp
  cases hp
  rfl

def R_F51 : List AV → List AObj → List AV × List AObj → Prop := fun args H x => ∃ (s1 : Str) (prefix2 : Str) (r3 : Str), F51 s1 prefix2 = some r3 ∧ args = [.pv (.str s1), .pv (.str prefix2)] ∧ H = [] ∧ x = ([.pv (.str r3)], [])

theorem q_F51 (s1 : Str) (prefix2 : Str) (r3 : Str) (h : F51 s1 prefix2 = some r3) : chC (R_F51) [.pv (.str s1), .pv (.str prefix2)] [] = some ([.pv (.str r3)], []) := by
  refine chC_eq ⟨s1, prefix2, r3, h, rfl, rfl, rfl⟩ ?_
  rintro y ⟨s1p, prefix2p, r3p, hp, ha, hH, rfl⟩
  simp only [List.cons.injEq, AV.pv.injEq, AV.agg.injEq, AV.vec.injEq, and_true, true_and, and_assoc] at ha
  obtain ⟨ya0, ya1⟩ := ha
  have e_s1 := str_inj ya0
  have e_prefix2 := str_inj ya1
  subst e_s1
  subst e_prefix2
  rw [h] at hp
  cases hp
  rfl

def R_F37 : List AV → List AObj → List AV × List AObj → Prop := fun args H x => ∃ (s1 : Str) (prefix2 : Str) (r3 : Str), F37 s1 prefix2 = some r3 ∧ args = [.pv (.str s1), .pv (.str prefix2)] ∧ H = [] ∧ x = ([.pv (.str r3)], [])

theorem q_F37 (s1 : Str) (prefix2 : Str) (r3 : Str) (h : F37 s1 prefix2 = some r3) : chC (R_F37) [.pv (.str s1), .pv (.str prefix2)] [] = some ([.pv (.str r3)], []) := by
  refine chC_eq ⟨s1, prefix2, r3, h, rfl, rfl, rfl⟩ ?_
  rintro y ⟨s1p, prefix2p, r3p, hp, ha, hH, rfl⟩
  simp only [List.cons.injEq, AV.pv.injEq, AV.agg.injEq, AV.vec.injEq, and_true, true_and, and_assoc] at ha
  obtain ⟨ya0, ya1⟩ := ha
  have e_s1 := str_inj ya0
  have e_prefix2 := str_inj ya1
  subst e_s1
  subst e_prefix2
  rw [h] at hp
  cases hp
  rfl

def R_F18 : List AV → List AObj → List AV × List AObj → Prop := fun args H x => ∃ (l1 : List GEnv) (group2 : Int) (s3 : Str) (r4 : Str) (r5 : Int), F18 l1 group2 s3 = some (r4, r5) ∧ args = [.pv (.slice (List.map GEnv.pv l1)), .pv (.int .i64 group2), .pv (.str s3)] ∧ H = [] ∧ x = ([.pv (.str r4), .pv (.int .i64 r5)], [])

theorem q_F18 (l1 : List GEnv) (group2 : Int) (s3 : Str) (r4 : Str) (r5 : Int) (h : F18 l1 group2 s3 = some (r4, r5)) : chC (R_F18) [.pv (.slice (List.map GEnv.pv l1)), .pv (.int .i64 group2), .pv (.str s3)] [] = some ([.pv (.str r4), .pv (.int .i64 r5)], []) := by
  refine chC_eq ⟨l1, group2, s3, r4, r5, h, rfl, rfl, rfl⟩ ?_
  rintro y ⟨l1p, group2p, s3p, r4p, r5p, hp, ha, hH, rfl⟩
  simp only [List.cons.injEq, AV.pv.injEq, AV.agg.injEq, AV.vec.injEq, and_true, true_and, and_assoc] at ha
  obtain ⟨ya0, ya1, ya2⟩ := ha
  have e_l1 := map_inj_of (fun _ _ => GEnv.inj) (PV.slice.inj ya0)
  have e_group2 := int_inj ya1
  have e_s3 := str_inj ya2
  subst e_l1
  subst e_group2
  subst e_s3
  rw [h] at hp
  cases hp
  rfl

def R_F13 : List AV → List AObj → List AV × List AObj → Prop := fun args H x => ∃ (a1 : List Str) (b2 : List Str) (r3 : Bool), F13 a1 b2 = some r3 ∧ args = [.pv (.slice (List.map PV.str a1)), .pv (.slice (List.map PV.str b2))] ∧ H = [] ∧ x = ([.pv (.bool r3)], [])

theorem q_F13 (a1 : List Str) (b2 : List Str) (r3 : Bool) (h : F13 a1 b2 = some r3) : chC (R_F13) [.pv (.slice (List.map PV.str a1)), .pv (.slice (List.map PV.str b2))] [] = some ([.pv (.bool r3)], []) := by
  refine chC_eq ⟨a1, b2, r3, h, rfl, rfl, rfl⟩ ?_
  rintro y ⟨a1p, b2p, r3p, hp, ha, hH, rfl⟩
  simp only [List.cons.injEq, AV.pv.injEq, AV.agg.injEq, AV.vec.injEq, and_true, true_and, and_assoc] at ha
  obtain ⟨ya0, ya1⟩ := ha
  have e_a1 := map_inj_of (fun _ _ => str_inj) (PV.slice.inj ya0)
  have e_b2 := map_inj_of (fun _ _ => str_inj) (PV.slice.inj ya1)
  subst e_a1
  subst e_b2
  rw [h] at hp
  cases hp
  rfl

def R_F19 : List AV → List AObj → List AV × List AObj → Prop := fun args H x => ∃ (s1 : Str) (ifs2 : Str) (r3 : List Str), F19 s1 ifs2 = some r3 ∧ args = [.pv (.str s1), .pv (.str ifs2)] ∧ H = [] ∧ x = ([.pv (.slice (List.map PV.str r3))], [])

theorem q_F19 (s1 : Str) (ifs2 : Str) (r3 : List Str) (h : F19 s1 ifs2 = some r3) : chC (R_F19) [.pv (.str s1), .pv (.str ifs2)] [] = some ([.pv (.slice (List.map PV.str r3))], []) := by
  refine chC_eq ⟨s1, ifs2, r3, h, rfl, rfl, rfl⟩ ?_
  rintro y ⟨s1p, ifs2p, r3p, hp, ha, hH, rfl⟩
  simp only [List.cons.injEq, AV.pv.injEq, AV.agg.injEq, AV.vec.injEq, and_true, true_and, and_assoc] at ha
  obtain ⟨ya0, ya1⟩ := ha
  have e_s1 := str_inj ya0
  have e_ifs2 := str_inj ya1
  subst e_s1
  subst e_ifs2
  rw [h] at hp
  cases hp
  rfl

def R_F8 : List AV → List AObj → List AV × List AObj → Prop := fun args H x => ∃ (r1 : Bool), F8 = some r1 ∧ args = [] ∧ H = [] ∧ x = ([.pv (.bool r1)], [])

theorem q_F8 (r1 : Bool) (h : F8 = some r1) : chC (R_F8) [] [] = some ([.pv (.bool r1)], []) := by
  refine chC_eq ⟨r1, h, rfl, rfl, rfl⟩ ?_
  rintro y ⟨r1p, hp, ha, hH, rfl⟩
  rw [h] at hp
  cases hp
  rfl

def R_F10 : List AV → List AObj → List AV × List AObj → Prop := fun args H x => ∃ (a1 : List Str) (b2 : List Str) (r3 : List Str) (r4 : Int), F10 a1 b2 = some (r3, r4) ∧ args = [.pv (.slice (List.map PV.str a1)), .pv (.slice (List.map PV.str b2))] ∧ H = [] ∧ x = ([.pv (.slice (List.map PV.str r3)), .pv (.int .i64 r4)], [])

theorem q_F10 (a1 : List Str) (b2 : List Str) (r3 : List Str) (r4 : Int) (h : F10 a1 b2 = some (r3, r4)) : chC (R_F10) [.pv (.slice (List.map PV.str a1)), .pv (.slice (List.map PV.str b2))] [] = some ([.pv (.slice (List.map PV.str r3)), .pv (.int .i64 r4)], []) := by
  refine chC_eq ⟨a1, b2, r3, r4, h, rfl, rfl, rfl⟩ ?_
  rintro y ⟨a1p, b2p, r3p, r4p, hp, ha, hH, rfl⟩
  simp only [List.cons.injEq, AV.pv.injEq, AV.agg.injEq, AV.vec.injEq, and_true, true_and, and_assoc] at ha
  obtain ⟨ya0, ya1⟩ := ha
  have e_a1 := map_inj_of (fun _ _ => str_inj) (PV.slice.inj ya0)
  have e_b2 := map_inj_of (fun _ _ => str_inj) (PV.slice.inj ya1)
  subst e_a1
  subst e_b2
  rw [h] at hp
  cases hp
  rfl

def R_F25 : List AV → List AObj → List AV × List AObj → Prop := fun args H x => ∃ (s1 : Str) (r2 : Int) (r3 : Bool), F25 s1 = some (r2, r3) ∧ args = [.pv (.str s1)] ∧ H = [] ∧ x = ([.pv (.int .i64 r2), .pv (.bool r3)], [])

theorem q_F25 (s1 : Str) (r2 : Int) (r3 : Bool) (h : F25 s1 = some (r2, r3)) : chC (R_F25) [.pv (.str s1)] [] = some ([.pv (.int .i64 r2), .pv (.bool r3)], []) := by
  refine chC_eq ⟨s1, r2, r3, h, rfl, rfl, rfl⟩ ?_
  rintro y ⟨s1p, r2p, r3p, hp, ha, hH, rfl⟩
  simp only [List.cons.injEq, AV.pv.injEq, AV.agg.injEq, AV.vec.injEq, and_true, true_and, and_assoc] at ha
  have ya0 := ha
  have e_s1 := str_inj ya0
  subst e_s1
  rw [h] at hp
  cases hp
  rfl

def R_F12 : List AV → List AObj → List AV × List AObj → Prop := fun args H x => ∃ (values1 : List Str) (idx2 : List Str) (r3 : List Str) (r4 : Int), F12 values1 idx2 = some (r3, r4) ∧ args = [.pv (.slice (List.map PV.str values1)), .pv (.slice (List.map PV.str idx2))] ∧ H = [] ∧ x = ([.pv (.slice (List.map PV.str r3)), .pv (.int .i64 r4)], [])

theorem q_F12 (values1 : List Str) (idx2 : List Str) (r3 : List Str) (r4 : Int) (h : F12 values1 idx2 = some (r3, r4)) : chC (R_F12) [.pv (.slice (List.map PV.str values1)), .pv (.slice (List.map PV.str idx2))] [] = some ([.pv (.slice (List.map PV.str r3)), .pv (.int .i64 r4)], []) := by
  refine chC_eq ⟨values1, idx2, r3, r4, h, rfl, rfl, rfl⟩ ?_
  rintro y ⟨values1p, idx2p, r3p, r4p, hp, ha, hH, rfl⟩
  simp only [List.cons.injEq, AV.pv.injEq, AV.agg.injEq, AV.vec.injEq, and_true, true_and, and_assoc] at ha
  obtain ⟨ya0, ya1⟩ := ha
  have e_values1 := map_inj_of (fun _ _ => str_inj) (PV.slice.inj ya0)
  have e_idx2 := map_inj_of (fun _ _ => str_inj) (PV.slice.inj ya1)
  subst e_values1
  subst e_idx2
  rw [h] at hp
  cases hp
  rfl

def R_F3 : List AV → List AObj → List AV × List AObj → Prop := fun args H x => ∃ (a1 : List Str) (b2 : List Str) (idx3 : List Str) (r4 : Bool), F3 a1 b2 idx3 = some r4 ∧ args = [.pv (.slice (List.map PV.str a1)), .pv (.slice (List.map PV.str b2)), .pv (.slice (List.map PV.str idx3))] ∧ H = [] ∧ x = ([.pv (.bool r4)], [])

theorem q_F3 (a1 : List Str) (b2 : List Str) (idx3 : List Str) (r4 : Bool) (h : F3 a1 b2 idx3 = some r4) : chC (R_F3) [.pv (.slice (List.map PV.str a1)), .pv (.slice (List.map PV.str b2)), .pv (.slice (List.map PV.str idx3))] [] = some ([.pv (.bool r4)], []) := by
  refine chC_eq ⟨a1, b2, idx3, r4, h, rfl, rfl, rfl⟩ ?_
  rintro y ⟨a1p, b2p, idx3p, r4p, hp, ha, hH, rfl⟩
  simp only [List.cons.injEq, AV.pv.injEq, AV.agg.injEq, AV.vec.injEq, and_true, true_and, and_assoc] at ha
  obtain ⟨ya0, ya1, ya2⟩ := ha
  have e_a1 := map_inj_of (fun _ _ => str_inj) (PV.slice.inj ya0)
  have e_b2 := map_inj_of (fun _ _ => str_inj) (PV.slice.inj ya1)
  have e_idx3 := map_inj_of (fun _ _ => str_inj) (PV.slice.inj ya2)
  subst e_a1
  subst e_b2
  subst e_idx3
  rw [h] at hp
  cases hp
  rfl

def R_F14 : List AV → List AObj → List AV × List AObj → Prop := fun args H x => ∃ (l1 : List GEnv) (r2 : Bool), F14 l1 = some r2 ∧ args = [.pv (.slice (List.map GEnv.pv l1))] ∧ H = [] ∧ x = ([.pv (.bool r2)], [])

theorem q_F14 (l1 : List GEnv) (r2 : Bool) (h : F14 l1 = some r2) : chC (R_F14) [.pv (.slice (List.map GEnv.pv l1))] [] = some ([.pv (.bool r2)], []) := by
  refine chC_eq ⟨l1, r2, h, rfl, rfl, rfl⟩ ?_
  rintro y ⟨l1p, r2p, hp, ha, hH, rfl⟩
  simp only [List.cons.injEq, AV.pv.injEq, AV.agg.injEq, AV.vec.injEq, and_true, true_and, and_assoc] at ha
  have ya0 := ha
  have e_l1 := map_inj_of (fun _ _ => GEnv.inj) (PV.slice.inj ya0)
  subst e_l1
  rw [h] at hp
  cases hp
  rfl

def R_w15 (w15 : Word → Int → Int → Option Int) : List AV → List AObj → List AV × List AObj → Prop := fun args H x => ∃ (a0 : Word) (a1 : Int) (a2 : Int) (r0 : Int), w15 a0 a1 a2 = some r0 ∧ args = [.pv (.agg [.int .i64 a0.kind_, .str a0.text_, .str a0.quoted_, .slice (List.map Word.pv a0.words_), .slice (List.map Cmd.pv a0.cmd_)]), .pv (.int .i64 a1), .pv (.int .i64 a2)] ∧ H = [] ∧ x = ([.pv (.int .i64 r0)], [])

theorem q_w15 (w15 : Word → Int → Int → Option Int) (a0 : Word) (a1 : Int) (a2 : Int) (r0 : Int) (h : w15 a0 a1 a2 = some r0) : chC (R_w15 w15) [.pv (.agg [.int .i64 a0.kind_, .str a0.text_, .str a0.quoted_, .slice (List.map Word.pv a0.words_), .slice (List.map Cmd.pv a0.cmd_)]), .pv (.int .i64 a1), .pv (.int .i64 a2)] [] = some ([.pv (.int .i64 r0)], []) := by
  refine chC_eq ⟨a0, a1, a2, r0, h, rfl, rfl, rfl⟩ ?_
  rintro y ⟨a0p, a1p, a2p, r0p, hp, ha, hH, rfl⟩
  simp only [List.cons.injEq, AV.pv.injEq, AV.agg.injEq, AV.vec.injEq, and_true, true_and, and_assoc] at ha
  obtain ⟨ya0, ya1, ya2⟩ := ha
  have e_a0 := Word.injA (x := a0) (y := a0p) ya0
  have e_a1 := int_inj ya1
  have e_a2 := int_inj ya2
  subst e_a0
  subst e_a1
  subst e_a2
  rw [h] at hp
  cases hp
  rfl

def R_F26 : List AV → List AObj → List AV × List AObj → Prop := fun args H x => ∃ (values1 : List Str) (r2 : Str) (r3 : Int), F26 values1 = some (r2, r3) ∧ args = [.pv (.slice (List.map PV.str values1))] ∧ H = [] ∧ x = ([.pv (.str r2), .pv (.int .i64 r3)], [])

theorem q_F26 (values1 : List Str) (r2 : Str) (r3 : Int) (h : F26 values1 = some (r2, r3)) : chC (R_F26) [.pv (.slice (List.map PV.str values1))] [] = some ([.pv (.str r2), .pv (.int .i64 r3)], []) := by
  refine chC_eq ⟨values1, r2, r3, h, rfl, rfl, rfl⟩ ?_
  rintro y ⟨values1p, r2p, r3p, hp, ha, hH, rfl⟩
  simp only [List.cons.injEq, AV.pv.injEq, AV.agg.injEq, AV.vec.injEq, and_true, true_and, and_assoc] at ha
  have ya0 := ha
  have e_values1 := map_inj_of (fun _ _ => str_inj) (PV.slice.inj ya0)
  subst e_values1
  rw [h] at hp
  cases hp
  rfl

def R_F27 : List AV → List AObj → List AV × List AObj → Prop := fun args H x => ∃ (name1 : Str) (r2 : Bool), F27 name1 = some r2 ∧ args = [.pv (.str name1)] ∧ H = [] ∧ x = ([.pv (.bool r2)], [])

theorem q_F27 (name1 : Str) (r2 : Bool) (h : F27 name1 = some r2) : chC (R_F27) [.pv (.str name1)] [] = some ([.pv (.bool r2)], []) := by
  refine chC_eq ⟨name1, r2, h, rfl, rfl, rfl⟩ ?_
  rintro y ⟨name1p, r2p, hp, ha, hH, rfl⟩
  simp only [List.cons.injEq, AV.pv.injEq, AV.agg.injEq, AV.vec.injEq, and_true, true_and, and_assoc] at ha
  have ya0 := ha
  have e_name1 := str_inj ya0
  subst e_name1
  rw [h] at hp
  cases hp
  rfl

def R_F28 : List AV → List AObj → List AV × List AObj → Prop := fun args H x => ∃ (g1 : GEnv) (name2 : Str) (r3 : Int), F28 g1 name2 = some r3 ∧ args = [.pv (.agg [.int .i64 g1.id_, .int .i64 g1.next_, .slice (List.map Var.pv g1.vars_)]), .pv (.str name2)] ∧ H = [] ∧ x = ([.pv (.int .i64 r3)], [])

theorem q_F28 (g1 : GEnv) (name2 : Str) (r3 : Int) (h : F28 g1 name2 = some r3) : chC (R_F28) [.pv (.agg [.int .i64 g1.id_, .int .i64 g1.next_, .slice (List.map Var.pv g1.vars_)]), .pv (.str name2)] [] = some ([.pv (.int .i64 r3)], []) := by
  refine chC_eq ⟨g1, name2, r3, h, rfl, rfl, rfl⟩ ?_
  rintro y ⟨g1p, name2p, r3p, hp, ha, hH, rfl⟩
  simp only [List.cons.injEq, AV.pv.injEq, AV.agg.injEq, AV.vec.injEq, and_true, true_and, and_assoc] at ha
  obtain ⟨ya0, ya1⟩ := ha
  have e_g1 := GEnv.inj (x := g1) (y := g1p) ya0
  have e_name2 := str_inj ya1
  subst e_g1
  subst e_name2
  rw [h] at hp
  cases hp
  rfl

def R_F16 : List AV → List AObj → List AV × List AObj → Prop := fun args H x => ∃ (l1 : List GEnv) (r2 : Bool), F16 l1 = some r2 ∧ args = [.pv (.slice (List.map GEnv.pv l1))] ∧ H = [] ∧ x = ([.pv (.bool r2)], [])

theorem q_F16 (l1 : List GEnv) (r2 : Bool) (h : F16 l1 = some r2) : chC (R_F16) [.pv (.slice (List.map GEnv.pv l1))] [] = some ([.pv (.bool r2)], []) := by
  refine chC_eq ⟨l1, r2, h, rfl, rfl, rfl⟩ ?_
  rintro y ⟨l1p, r2p, hp, ha, hH, rfl⟩
  simp only [List.cons.injEq, AV.pv.injEq, AV.agg.injEq, AV.vec.injEq, and_true, true_and, and_assoc] at ha
  have ya0 := ha
  have e_l1 := map_inj_of (fun _ _ => GEnv.inj) (PV.slice.inj ya0)
  subst e_l1
  rw [h] at hp
  cases hp
  rfl

def R_F4 : List AV → List AObj → List AV × List AObj → Prop := fun args H x => ∃ (l1 : List GEnv) (n2 : Int) (w3 : Word) (r4 : Bool), F4 l1 n2 w3 = some r4 ∧ args = [.pv (.slice (List.map GEnv.pv l1)), .pv (.int .i64 n2), .pv (.agg [.int .i64 w3.kind_, .str w3.text_, .str w3.quoted_, .slice (List.map Word.pv w3.words_), .slice (List.map Cmd.pv w3.cmd_)])] ∧ H = [] ∧ x = ([.pv (.bool r4)], [])

theorem q_F4 (l1 : List GEnv) (n2 : Int) (w3 : Word) (r4 : Bool) (h : F4 l1 n2 w3 = some r4) : chC (R_F4) [.pv (.slice (List.map GEnv.pv l1)), .pv (.int .i64 n2), .pv (.agg [.int .i64 w3.kind_, .str w3.text_, .str w3.quoted_, .slice (List.map Word.pv w3.words_), .slice (List.map Cmd.pv w3.cmd_)])] [] = some ([.pv (.bool r4)], []) := by
  refine chC_eq ⟨l1, n2, w3, r4, h, rfl, rfl, rfl⟩ ?_
  rintro y ⟨l1p, n2p, w3p, r4p, hp, ha, hH, rfl⟩
  simp only [List.cons.injEq, AV.pv.injEq, AV.agg.injEq, AV.vec.injEq, and_true, true_and, and_assoc] at ha
  obtain ⟨ya0, ya1, ya2⟩ := ha
  have e_l1 := map_inj_of (fun _ _ => GEnv.inj) (PV.slice.inj ya0)
  have e_n2 := int_inj ya1
  have e_w3 := Word.injA (x := w3) (y := w3p) ya2
  subst e_l1
  subst e_n2
  subst e_w3
  rw [h] at hp
  cases hp
  rfl

def R_F5 : List AV → List AObj → List AV × List AObj → Prop := fun args H x => ∃ (a1 : List Str) (b2 : List Str) (c3 : List Str) (r4 : Bool), F5 a1 b2 c3 = some r4 ∧ args = [.pv (.slice (List.map PV.str a1)), .pv (.slice (List.map PV.str b2)), .pv (.slice (List.map PV.str c3))] ∧ H = [] ∧ x = ([.pv (.bool r4)], [])

theorem q_F5 (a1 : List Str) (b2 : List Str) (c3 : List Str) (r4 : Bool) (h : F5 a1 b2 c3 = some r4) : chC (R_F5) [.pv (.slice (List.map PV.str a1)), .pv (.slice (List.map PV.str b2)), .pv (.slice (List.map PV.str c3))] [] = some ([.pv (.bool r4)], []) := by
  refine chC_eq ⟨a1, b2, c3, r4, h, rfl, rfl, rfl⟩ ?_
  rintro y ⟨a1p, b2p, c3p, r4p, hp, ha, hH, rfl⟩
  simp only [List.cons.injEq, AV.pv.injEq, AV.agg.injEq, AV.vec.injEq, and_true, true_and, and_assoc] at ha
  obtain ⟨ya0, ya1, ya2⟩ := ha
  have e_a1 := map_inj_of (fun _ _ => str_inj) (PV.slice.inj ya0)
  have e_b2 := map_inj_of (fun _ _ => str_inj) (PV.slice.inj ya1)
  have e_c3 := map_inj_of (fun _ _ => str_inj) (PV.slice.inj ya2)
  subst e_a1
  subst e_b2
  subst e_c3
  rw [h] at hp
  cases hp
  rfl

def R_F6 : List AV → List AObj → List AV × List AObj → Prop := fun args H x => ∃ (s1 : Str) (l2 : List Str) (r3 : Bool), F6 s1 l2 = some r3 ∧ args = [.pv (.str s1), .pv (.slice (List.map PV.str l2))] ∧ H = [] ∧ x = ([.pv (.bool r3)], [])

theorem q_F6 (s1 : Str) (l2 : List Str) (r3 : Bool) (h : F6 s1 l2 = some r3) : chC (R_F6) [.pv (.str s1), .pv (.slice (List.map PV.str l2))] [] = some ([.pv (.bool r3)], []) := by
  refine chC_eq ⟨s1, l2, r3, h, rfl, rfl, rfl⟩ ?_
  rintro y ⟨s1p, l2p, r3p, hp, ha, hH, rfl⟩
  simp only [List.cons.injEq, AV.pv.injEq, AV.agg.injEq, AV.vec.injEq, and_true, true_and, and_assoc] at ha
  obtain ⟨ya0, ya1⟩ := ha
  have e_s1 := str_inj ya0
  have e_l2 := map_inj_of (fun _ _ => str_inj) (PV.slice.inj ya1)
  subst e_s1
  subst e_l2
  rw [h] at hp
  cases hp
  rfl

noncomputable def k0 : List (FuncId × (List AV → List AObj → Option (List AV × List AObj))) := []

theorem s0 : Sound env (mkOrc pfn k0) := Sound.nil pfn

noncomputable def k1 := (30, chC R_L_Len) :: k0

theorem s1 : Sound env (mkOrc pfn k1) := by
  refine Sound.cons s0 ⟨Tryd.f30, fn_30, rfl, by kernel_rfl⟩ fun args H rs H2 hc => ?_
  obtain ⟨b, n, h, rfl, rfl, hx⟩ := chC_some hc
  cases hx
  exact g_L_Len  b n h

noncomputable def k2 := (31, chC R_L_Cut) :: k1

theorem s2 : Sound env (mkOrc pfn k2) := by
  refine Sound.cons s1 ⟨Tryd.f31, fn_31, rfl, by kernel_rfl⟩ fun args H rs H2 hc => ?_
  obtain ⟨s, sep, a, b, ok, h, rfl, rfl, hx⟩ := chC_some hc
  cases hx
  exact g_L_Cut  s sep a b ok h

noncomputable def k3 := (32, chC R_L_WriteString) :: k2

theorem s3 : Sound env (mkOrc pfn k3) := by
  refine Sound.cons s2 ⟨Tryd.f32, fn_32, rfl, by kernel_rfl⟩ fun args H rs H2 hc => ?_
  obtain ⟨b, s, n, c, h, rfl, rfl, hx⟩ := chC_some hc
  cases hx
  exact g_L_WriteString  b s n c h

noncomputable def k4 := (35, chC R_L_Join) :: k3

theorem s4 : Sound env (mkOrc pfn k4) := by
  refine Sound.cons s3 ⟨Tryd.f35, fn_35, rfl, by kernel_rfl⟩ fun args H rs H2 hc => ?_
  obtain ⟨xs, sep, s, h, rfl, rfl, hx⟩ := chC_some hc
  cases hx
  exact g_L_Join  xs sep s h

noncomputable def k5 := (38, chC R_L_String) :: k4

theorem s5 : Sound env (mkOrc pfn k5) := by
  refine Sound.cons s4 ⟨Tryd.f38, fn_38, rfl, by kernel_rfl⟩ fun args H rs H2 hc => ?_
  obtain ⟨b, s, h, rfl, rfl, hx⟩ := chC_some hc
  cases hx
  exact g_L_String  b s h

noncomputable def k6 := (39, chC R_L_IndexByte) :: k5

theorem s6 : Sound env (mkOrc pfn k6) := by
  refine Sound.cons s5 ⟨Tryd.f39, fn_39, rfl, by kernel_rfl⟩ fun args H rs H2 hc => ?_
  obtain ⟨s, c, n, h, rfl, rfl, hx⟩ := chC_some hc
  cases hx
  exact g_L_IndexByte  s c n h

noncomputable def k7 := (41, chC R_L_Atoi) :: k6

theorem s7 : Sound env (mkOrc pfn k7) := by
  refine Sound.cons s6 ⟨Tryd.f41, fn_41, rfl, by kernel_rfl⟩ fun args H rs H2 hc => ?_
  obtain ⟨s, n, bad, h, rfl, rfl, hx⟩ := chC_some hc
  cases hx
  exact g_L_Atoi  s n bad h

noncomputable def k8 := (42, chC R_L_Itoa) :: k7

theorem s8 : Sound env (mkOrc pfn k8) := by
  refine Sound.cons s7 ⟨Tryd.f42, fn_42, rfl, by kernel_rfl⟩ fun args H rs H2 hc => ?_
  obtain ⟨n, s, h, rfl, rfl, hx⟩ := chC_some hc
  cases hx
  exact g_L_Itoa  n s h

noncomputable def k9 := (56, chC R_L_Repeat) :: k8

theorem s9 : Sound env (mkOrc pfn k9) := by
  refine Sound.cons s8 ⟨Tryd.f56, fn_56, rfl, by kernel_rfl⟩ fun args H rs H2 hc => ?_
  obtain ⟨s, n, t, h, rfl, rfl, hx⟩ := chC_some hc
  cases hx
  exact g_L_Repeat  s n t h

noncomputable def k10 := (62, chC R_L_Clone) :: k9

theorem s10 : Sound env (mkOrc pfn k10) := by
  refine Sound.cons s9 ⟨Tryd.f62, fn_62, rfl, by kernel_rfl⟩ fun args H rs H2 hc => ?_
  obtain ⟨xs, l, h, rfl, rfl, hx⟩ := chC_some hc
  cases hx
  exact g_L_Clone  xs l h

noncomputable def k11 := (7, chC R_F7) :: k10

theorem s11 : Sound env (mkOrc pfn k11) := by
  refine Sound.cons s10 ⟨Tryd.f7, fn_7, rfl, by kernel_rfl⟩ fun args H rs H2 hc => ?_
  obtain ⟨l1, most2, r3, h, rfl, rfl, hx⟩ := chC_some hc
  cases hx
  exact g_F7 s10 rfl l1 most2 r3 h

noncomputable def k12 := (22, chC R_F22) :: k11

theorem s12 : Sound env (mkOrc pfn k12) := by
  refine Sound.cons s11 ⟨Tryd.f22, fn_22, rfl, by kernel_rfl⟩ fun args H rs H2 hc => ?_
  obtain ⟨l1, r2, h, rfl, rfl, hx⟩ := chC_some hc
  cases hx
  exact g_F22 s11 rfl l1 r2 h

noncomputable def k13 := (40, chC R_F40) :: k12

theorem s13 : Sound env (mkOrc pfn k13) := by
  refine Sound.cons s12 ⟨Tryd.f40, fn_40, rfl, by kernel_rfl⟩ fun args H rs H2 hc => ?_
  obtain ⟨a1, b2, r3, r4, h, rfl, rfl, hx⟩ := chC_some hc
  cases hx
  exact g_F40 s12 rfl a1 b2 r3 r4 h

noncomputable def k14 := (21, chC R_F21) :: k13

theorem s14 : Sound env (mkOrc pfn k14) := by
  refine Sound.cons s13 ⟨Tryd.f21, fn_21, rfl, by kernel_rfl⟩ fun args H rs H2 hc => ?_
  obtain ⟨a1, b2, r3, r4, h, rfl, rfl, hx⟩ := chC_some hc
  cases hx
  exact g_F21 s13 rfl (fun a1 b2 r3 r4 h => q_F40 a1 b2 r3 r4 h) a1 b2 r3 r4 h

noncomputable def k15 := (23, chC R_F23) :: k14

theorem s15 : Sound env (mkOrc pfn k15) := by
  refine Sound.cons s14 ⟨Tryd.f23, fn_23, rfl, by kernel_rfl⟩ fun args H rs H2 hc => ?_
  obtain ⟨l1, r2, h, rfl, rfl, hx⟩ := chC_some hc
  cases hx
  exact g_F23 s14 rfl l1 r2 h

noncomputable def k16 := (9, chC R_F9) :: k15

theorem s16 : Sound env (mkOrc pfn k16) := by
  refine Sound.cons s15 ⟨Tryd.f9, fn_9, rfl, by kernel_rfl⟩ fun args H rs H2 hc => ?_
  obtain ⟨a1, b2, r3, r4, h, rfl, rfl, hx⟩ := chC_some hc
  cases hx
  exact g_F9 s15 rfl (fun l1 r2 h => q_F22 l1 r2 h) (fun a1 b2 r3 r4 h => q_F21 a1 b2 r3 r4 h) (fun l1 r2 h => q_F23 l1 r2 h) a1 b2 r3 r4 h

noncomputable def k17 := (20, chC R_F20) :: k16

theorem s17 : Sound env (mkOrc pfn k17) := by
  refine Sound.cons s16 ⟨Tryd.f20, fn_20, rfl, by kernel_rfl⟩ fun args H rs H2 hc => ?_
  obtain ⟨r1, h, rfl, rfl, hx⟩ := chC_some hc
  cases hx
  exact g_F20 s16 rfl r1 h

noncomputable def k18 := (24, chC R_F24) :: k17

theorem s18 : Sound env (mkOrc pfn k18) := by
  refine Sound.cons s17 ⟨Tryd.f24, fn_24, rfl, by kernel_rfl⟩ fun args H rs H2 hc => ?_
  obtain ⟨s1, r2, r3, h, rfl, rfl, hx⟩ := chC_some hc
  cases hx
  exact g_F24 s17 rfl (fun s n bad h => q_L_Atoi s n bad h) (fun n s h => q_L_Itoa n s h) s1 r2 r3 h

noncomputable def k19 := (76, chC R_F76) :: k18

theorem s19 : Sound env (mkOrc pfn k19) := by
  refine Sound.cons s18 ⟨Tryd.f76, fn_76, rfl, by kernel_rfl⟩ fun args H rs H2 hc => ?_
  obtain ⟨g1, x2, r3, h, rfl, rfl, hx⟩ := chC_some hc
  cases hx
  exact g_F76 s18 rfl g1 x2 r3 h

noncomputable def k20 := (75, chC R_F75) :: k19

theorem s20 : Sound env (mkOrc pfn k20) := by
  refine Sound.cons s19 ⟨Tryd.f75, fn_75, rfl, by kernel_rfl⟩ fun args H rs H2 hc => ?_
  obtain ⟨s1, x2, r3, h, rfl, rfl, hx⟩ := chC_some hc
  cases hx
  exact g_F75 s19 rfl (fun g1 x2 r3 h => q_F76 g1 x2 r3 h) s1 x2 r3 h

noncomputable def k21 := (60, chC R_F60) :: k20

theorem s21 : Sound env (mkOrc pfn k21) := by
  refine Sound.cons s20 ⟨Tryd.f60, fn_60, rfl, by kernel_rfl⟩ fun args H rs H2 hc => ?_
  obtain ⟨l1, group2, r3, h, rfl, rfl, hx⟩ := chC_some hc
  cases hx
  exact g_F60 s20 rfl (fun s1 x2 r3 h => q_F75 s1 x2 r3 h) l1 group2 r3 h

noncomputable def k22 := (78, chC R_F78) :: k21

theorem s22 : Sound env (mkOrc pfn k22) := by
  refine Sound.cons s21 ⟨Tryd.f78, fn_78, rfl, by kernel_rfl⟩ fun args H rs H2 hc => ?_
  obtain ⟨v1, x2, r3, h, rfl, rfl, hx⟩ := chC_some hc
  cases hx
  exact g_F78 s21 rfl v1 x2 r3 h

noncomputable def k23 := (77, chC R_F77) :: k22

theorem s23 : Sound env (mkOrc pfn k23) := by
  refine Sound.cons s22 ⟨Tryd.f77, fn_77, rfl, by kernel_rfl⟩ fun args H rs H2 hc => ?_
  obtain ⟨s1, x2, r3, h, rfl, rfl, hx⟩ := chC_some hc
  cases hx
  exact g_F77 s22 rfl (fun v1 x2 r3 h => q_F78 v1 x2 r3 h) s1 x2 r3 h

noncomputable def k24 := (61, chC R_F61) :: k23

theorem s24 : Sound env (mkOrc pfn k24) := by
  refine Sound.cons s23 ⟨Tryd.f61, fn_61, rfl, by kernel_rfl⟩ fun args H rs H2 hc => ?_
  obtain ⟨g1, name2, r3, h, rfl, rfl, hx⟩ := chC_some hc
  cases hx
  exact g_F61 s23 rfl (fun s1 x2 r3 h => q_F77 s1 x2 r3 h) g1 name2 r3 h

noncomputable def k25 := (50, chC R_F50) :: k24

theorem s25 : Sound env (mkOrc pfn k25) := by
  refine Sound.cons s24 ⟨Tryd.f50, fn_50, rfl, by kernel_rfl⟩ fun args H rs H2 hc => ?_
  obtain ⟨l1, group2, name3, r4, r5, h, rfl, rfl, hx⟩ := chC_some hc
  cases hx
  exact g_F50 s24 rfl (fun l1 group2 r3 h => q_F60 l1 group2 r3 h) (fun g1 name2 r3 h => q_F61 g1 name2 r3 h) (fun xs l h => q_L_Clone xs l h) l1 group2 name3 r4 r5 h

noncomputable def k26 := (36, chC R_F36) :: k25

theorem s26 : Sound env (mkOrc pfn k26) := by
  refine Sound.cons s25 ⟨Tryd.f36, fn_36, rfl, by kernel_rfl⟩ fun args H rs H2 hc => ?_
  obtain ⟨l1, group2, name3, r4, h, rfl, rfl, hx⟩ := chC_some hc
  cases hx
  exact g_F36 s25 rfl (fun s1 r2 r3 h => q_F24 s1 r2 r3 h) (fun l1 group2 name3 r4 r5 h => q_F50 l1 group2 name3 r4 r5 h) l1 group2 name3 r4 h

noncomputable def k27 := (43, chC R_F43) :: k26

theorem s27 : Sound env (mkOrc pfn k27) := by
  refine Sound.cons s26 ⟨Tryd.f43, fn_43, rfl, by kernel_rfl⟩ fun args H rs H2 hc => ?_
  obtain ⟨l1, r2, h, rfl, rfl, hx⟩ := chC_some hc
  cases hx
  exact g_F43 s26 rfl (fun s n t h => q_L_Repeat s n t h) l1 r2 h

noncomputable def k28 := (11, chC R_F11) :: k27

theorem s28 : Sound env (mkOrc pfn k28) := by
  refine Sound.cons s27 ⟨Tryd.f11, fn_11, rfl, by kernel_rfl⟩ fun args H rs H2 hc => ?_
  obtain ⟨l1, idx2, r3, r4, h, rfl, rfl, hx⟩ := chC_some hc
  cases hx
  exact g_F11 s27 rfl (fun s1 r2 r3 h => q_F24 s1 r2 r3 h) l1 idx2 r3 r4 h

noncomputable def rest29 : Nat → List (FuncId × (List AV → List AObj → Option (List AV × List AObj)))
  | 0 => k28
  | n + 1 => (45, chC (R_F45 (K29 n))) :: (44, chC (R_F44 (K29 n))) :: (29, chC (R_w29 (K29 n))) :: rest29 n

theorem rest29_C (f : FuncId) (h29 : (29 == f) = false) (h44 : (44 == f) = false) (h45 : (45 == f) = false) : ∀ n, (mkOrc pfn (rest29 n)).C f = (mkOrc pfn k28).C f
  | 0 => rfl
  | n + 1 => by
    rw [← rest29_C f h29 h44 h45 n]
    funext args H
    simp [mkOrc, rest29, List.find?_cons, h29, h44, h45]

theorem rs29 : ∀ n, Sound env (mkOrc pfn ((29, chC (R_w29 (K29 n))) :: rest29 n))
  | 0 => Sound.cons (cl := rest29 0) s28 ⟨Tryd.f29, fn_29, rfl, by kernel_rfl⟩ fun args H rs H2 hc => by
    obtain ⟨a0, a1, a2, r0, r1, h, rfl, rfl, hx⟩ := chC_some hc
    cases h
  | kn + 1 => by
    have hs := rs29 kn
    have hF44 := Sound.cons (c := chC (R_F44 (K29 kn))) hs ⟨Tryd.f44, fn_44, rfl, by kernel_rfl⟩ fun args H rs H2 hc => by
        obtain ⟨l1, group2, words3, r4, r5, h, rfl, rfl, hx⟩ := chC_some hc
        cases hx
        exact g_F44 hs rfl (K29 kn) (fun a0 a1 a2 r0 r1 h => q_w29 (K29 kn) a0 a1 a2 r0 r1 h) l1 group2 words3 r4 r5 h
    have hF45 := Sound.cons (c := chC (R_F45 (K29 kn))) hF44 ⟨Tryd.f45, fn_45, rfl, by kernel_rfl⟩ fun args H rs H2 hc => by
        obtain ⟨l1, group2, words3, r4, r5, h, rfl, rfl, hx⟩ := chC_some hc
        cases hx
        exact g_F45 hF44 rfl (K29 kn) (fun a0 a1 a2 r0 r1 h => q_w29 (K29 kn) a0 a1 a2 r0 r1 h) (fun a1 b2 r3 r4 h => (congrFun (congrFun (rest29_C 21 rfl rfl rfl kn) _) _).trans (q_F21 a1 b2 r3 r4 h)) l1 group2 words3 r4 r5 h
    refine Sound.cons (c := chC (R_w29 (K29 (kn + 1)))) hF45 ⟨Tryd.f29, fn_29, rfl, by kernel_rfl⟩ fun args H rs H2 hc => ?_
    obtain ⟨l1, group2, w3, r4, r5, h, rfl, rfl, hx⟩ := chC_some hc
    cases hx
    exact g_F29 hF45 rfl (K29 kn) (fun l1 group2 name3 r4 h => (congrFun (congrFun (rest29_C 36 rfl rfl rfl kn) _) _).trans (q_F36 l1 group2 name3 r4 h)) (fun l1 r2 h => (congrFun (congrFun (rest29_C 43 rfl rfl rfl kn) _) _).trans (q_F43 l1 r2 h)) (fun n s h => (congrFun (congrFun (rest29_C 42 rfl rfl rfl kn) _) _).trans (q_L_Itoa n s h)) (fun l1 group2 words3 r4 r5 h => q_F44 (K29 kn) l1 group2 words3 r4 r5 h) (fun l1 r2 h => (congrFun (congrFun (rest29_C 23 rfl rfl rfl kn) _) _).trans (q_F23 l1 r2 h)) (fun l1 idx2 r3 r4 h => (congrFun (congrFun (rest29_C 11 rfl rfl rfl kn) _) _).trans (q_F11 l1 idx2 r3 r4 h)) (fun l1 group2 words3 r4 r5 h => q_F45 (K29 kn) l1 group2 words3 r4 r5 h) l1 group2 w3 r4 r5 h

noncomputable def k29 := (29, chC (R_w29 (K29 BIG))) :: k28

theorem s29 : Sound env (mkOrc pfn k29) :=
  Sound.cons s28 ⟨Tryd.f29, fn_29, rfl, by kernel_rfl⟩ fun args H rs H2 hc => (rs29 BIG 29 args H rs H2 hc).1

noncomputable def k30 := (17, chC R_F17) :: k29

theorem s30 : Sound env (mkOrc pfn k30) := by
  refine Sound.cons s29 ⟨Tryd.f17, fn_17, rfl, by kernel_rfl⟩ fun args H rs H2 hc => ?_
  obtain ⟨l1, group2, w3, r4, r5, r6, h, rfl, rfl, hx⟩ := chC_some hc
  cases hx
  exact g_F17 s29 rfl (fun l1 group2 w3 r4 r5 h => q_w29 (K29 BIG) l1 group2 w3 r4 r5 h) (fun l1 r2 h => q_F23 l1 r2 h) l1 group2 w3 r4 r5 r6 h

noncomputable def k31 := (33, chC R_F33) :: k30

theorem s31 : Sound env (mkOrc pfn k31) := by
  refine Sound.cons s30 ⟨Tryd.f33, fn_33, rfl, by kernel_rfl⟩ fun args H rs H2 hc => ?_
  obtain ⟨c1, r2, h, rfl, rfl, hx⟩ := chC_some hc
  cases hx
  exact g_F33 s30 rfl c1 r2 h

noncomputable def k32 := (48, chC R_F48) :: k31

theorem s32 : Sound env (mkOrc pfn k32) := by
  refine Sound.cons s31 ⟨Tryd.f48, fn_48, rfl, by kernel_rfl⟩ fun args H rs H2 hc => ?_
  obtain ⟨s1, prefix2, r3, h, rfl, rfl, hx⟩ := chC_some hc
  cases hx
  exact g_F48 s31 rfl s1 prefix2 r3 h

noncomputable def k33 := (34, chC R_F34) :: k32

theorem s33 : Sound env (mkOrc pfn k33) := by
  refine Sound.cons s32 ⟨Tryd.f34, fn_34, rfl, by kernel_rfl⟩ fun args H rs H2 hc => ?_
  obtain ⟨s1, prefix2, r3, h, rfl, rfl, hx⟩ := chC_some hc
  cases hx
  exact g_F34 s32 rfl (fun s1 prefix2 r3 h => q_F48 s1 prefix2 r3 h) s1 prefix2 r3 h

noncomputable def k34 := (51, chC R_F51) :: k33

theorem s34 : Sound env (mkOrc pfn k34) := by
  refine Sound.cons s33 ⟨Tryd.f51, fn_51, rfl, by kernel_rfl⟩ fun args H rs H2 hc => ?_
  obtain ⟨s1, prefix2, r3, h, rfl, rfl, hx⟩ := chC_some hc
  cases hx
  exact g_F51 s33 rfl (fun s1 prefix2 r3 h => q_F48 s1 prefix2 r3 h) s1 prefix2 r3 h

noncomputable def k35 := (37, chC R_F37) :: k34

theorem s35 : Sound env (mkOrc pfn k35) := by
  refine Sound.cons s34 ⟨Tryd.f37, fn_37, rfl, by kernel_rfl⟩ fun args H rs H2 hc => ?_
  obtain ⟨s1, prefix2, r3, h, rfl, rfl, hx⟩ := chC_some hc
  cases hx
  exact g_F37 s34 rfl (fun s1 prefix2 r3 h => q_F51 s1 prefix2 r3 h) s1 prefix2 r3 h

noncomputable def k36 := (18, chC R_F18) :: k35

theorem s36 : Sound env (mkOrc pfn k36) := by
  refine Sound.cons s35 ⟨Tryd.f18, fn_18, rfl, by kernel_rfl⟩ fun args H rs H2 hc => ?_
  obtain ⟨l1, group2, s3, r4, r5, h, rfl, rfl, hx⟩ := chC_some hc
  cases hx
  exact g_F18 s35 rfl (fun b n h => q_L_Len b n h) (fun s sep a b ok h => q_L_Cut s sep a b ok h) (fun b s n c h => q_L_WriteString b s n c h) (fun c1 r2 h => q_F33 c1 r2 h) (fun s1 prefix2 r3 h => q_F34 s1 prefix2 r3 h) (fun l1 group2 name3 r4 h => q_F36 l1 group2 name3 r4 h) (fun xs sep s h => q_L_Join xs sep s h) (fun s1 prefix2 r3 h => q_F37 s1 prefix2 r3 h) (fun b s h => q_L_String b s h) l1 group2 s3 r4 r5 h

noncomputable def k37 := (13, chC R_F13) :: k36

theorem s37 : Sound env (mkOrc pfn k37) := by
  refine Sound.cons s36 ⟨Tryd.f13, fn_13, rfl, by kernel_rfl⟩ fun args H rs H2 hc => ?_
  obtain ⟨a1, b2, r3, h, rfl, rfl, hx⟩ := chC_some hc
  cases hx
  exact g_F13 s36 rfl a1 b2 r3 h

noncomputable def k38 := (19, chC R_F19) :: k37

theorem s38 : Sound env (mkOrc pfn k38) := by
  refine Sound.cons s37 ⟨Tryd.f19, fn_19, rfl, by kernel_rfl⟩ fun args H rs H2 hc => ?_
  obtain ⟨s1, ifs2, r3, h, rfl, rfl, hx⟩ := chC_some hc
  cases hx
  exact g_F19 s37 rfl (fun s c n h => q_L_IndexByte s c n h) s1 ifs2 r3 h

noncomputable def k39 := (8, chC R_F8) :: k38

theorem s39 : Sound env (mkOrc pfn k39) := by
  refine Sound.cons s38 ⟨Tryd.f8, fn_8, rfl, by kernel_rfl⟩ fun args H rs H2 hc => ?_
  obtain ⟨r1, h, rfl, rfl, hx⟩ := chC_some hc
  cases hx
  exact g_F8 s38 rfl (fun a1 b2 r3 r4 h => q_F9 a1 b2 r3 r4 h) (fun r1 h => q_F20 r1 h) (fun l1 group2 w3 r4 r5 r6 h => q_F17 l1 group2 w3 r4 r5 r6 h) (fun l1 idx2 r3 r4 h => q_F11 l1 idx2 r3 r4 h) (fun l1 group2 s3 r4 r5 h => q_F18 l1 group2 s3 r4 r5 h) (fun a1 b2 r3 h => q_F13 a1 b2 r3 h) (fun s1 ifs2 r3 h => q_F19 s1 ifs2 r3 h) r1 h

noncomputable def k40 := (10, chC R_F10) :: k39

theorem s40 : Sound env (mkOrc pfn k40) := by
  refine Sound.cons s39 ⟨Tryd.f10, fn_10, rfl, by kernel_rfl⟩ fun args H rs H2 hc => ?_
  obtain ⟨a1, b2, r3, r4, h, rfl, rfl, hx⟩ := chC_some hc
  cases hx
  exact g_F10 s39 rfl a1 b2 r3 r4 h

noncomputable def k41 := (25, chC R_F25) :: k40

theorem s41 : Sound env (mkOrc pfn k41) := by
  refine Sound.cons s40 ⟨Tryd.f25, fn_25, rfl, by kernel_rfl⟩ fun args H rs H2 hc => ?_
  obtain ⟨s1, r2, r3, h, rfl, rfl, hx⟩ := chC_some hc
  cases hx
  exact g_F25 s40 rfl s1 r2 r3 h

noncomputable def k42 := (12, chC R_F12) :: k41

theorem s42 : Sound env (mkOrc pfn k42) := by
  refine Sound.cons s41 ⟨Tryd.f12, fn_12, rfl, by kernel_rfl⟩ fun args H rs H2 hc => ?_
  obtain ⟨values1, idx2, r3, r4, h, rfl, rfl, hx⟩ := chC_some hc
  cases hx
  exact g_F12 s41 rfl (fun s1 r2 r3 h => q_F25 s1 r2 r3 h) values1 idx2 r3 r4 h

noncomputable def k43 := (3, chC R_F3) :: k42

theorem s43 : Sound env (mkOrc pfn k43) := by
  refine Sound.cons s42 ⟨Tryd.f3, fn_3, rfl, by kernel_rfl⟩ fun args H rs H2 hc => ?_
  obtain ⟨a1, b2, idx3, r4, h, rfl, rfl, hx⟩ := chC_some hc
  cases hx
  exact g_F3 s42 rfl (fun l1 most2 r3 h => q_F7 l1 most2 r3 h) (fun r1 h => q_F8 r1 h) (fun a1 b2 r3 r4 h => q_F9 a1 b2 r3 r4 h) (fun a1 b2 r3 r4 h => q_F10 a1 b2 r3 r4 h) (fun l1 idx2 r3 r4 h => q_F11 l1 idx2 r3 r4 h) (fun values1 idx2 r3 r4 h => q_F12 values1 idx2 r3 r4 h) (fun a1 b2 r3 h => q_F13 a1 b2 r3 h) a1 b2 idx3 r4 h

noncomputable def k44 := (14, chC R_F14) :: k43

theorem s44 : Sound env (mkOrc pfn k44) := by
  refine Sound.cons s43 ⟨Tryd.f14, fn_14, rfl, by kernel_rfl⟩ fun args H rs H2 hc => ?_
  obtain ⟨l1, r2, h, rfl, rfl, hx⟩ := chC_some hc
  cases hx
  exact g_F14 s43 rfl (fun l1 most2 r3 h => q_F7 l1 most2 r3 h) l1 r2 h

noncomputable def rest15 : Nat → List (FuncId × (List AV → List AObj → Option (List AV × List AObj)))
  | 0 => k44
  | n + 1 => (15, chC (R_w15 (K15 n))) :: rest15 n

theorem rest15_C (f : FuncId) (h15 : (15 == f) = false) : ∀ n, (mkOrc pfn (rest15 n)).C f = (mkOrc pfn k44).C f
  | 0 => rfl
  | n + 1 => by
    rw [← rest15_C f h15 n]
    funext args H
    simp [mkOrc, rest15, List.find?_cons, h15]

theorem rs15 : ∀ n, Sound env (mkOrc pfn ((15, chC (R_w15 (K15 n))) :: rest15 n))
  | 0 => Sound.cons (cl := rest15 0) s44 ⟨Tryd.f15, fn_15, rfl, by kernel_rfl⟩ fun args H rs H2 hc => by
    obtain ⟨a0, a1, a2, r0, h, rfl, rfl, hx⟩ := chC_some hc
    cases h
  | kn + 1 => by
    have hs := rs15 kn
    refine Sound.cons (c := chC (R_w15 (K15 (kn + 1)))) hs ⟨Tryd.f15, fn_15, rfl, by kernel_rfl⟩ fun args H rs H2 hc => ?_
    obtain ⟨w1, left2, deep3, r4, h, rfl, rfl, hx⟩ := chC_some hc
    cases hx
    exact g_F15 hs rfl (K15 kn) (fun a0 a1 a2 r0 h => q_w15 (K15 kn) a0 a1 a2 r0 h) w1 left2 deep3 r4 h

noncomputable def k45 := (15, chC (R_w15 (K15 BIG))) :: k44

theorem s45 : Sound env (mkOrc pfn k45) :=
  Sound.cons s44 ⟨Tryd.f15, fn_15, rfl, by kernel_rfl⟩ fun args H rs H2 hc => (rs15 BIG 15 args H rs H2 hc).1

noncomputable def k46 := (26, chC R_F26) :: k45

theorem s46 : Sound env (mkOrc pfn k46) := by
  refine Sound.cons s45 ⟨Tryd.f26, fn_26, rfl, by kernel_rfl⟩ fun args H rs H2 hc => ?_
  obtain ⟨values1, r2, r3, h, rfl, rfl, hx⟩ := chC_some hc
  cases hx
  exact g_F26 s45 rfl values1 r2 r3 h

noncomputable def k47 := (27, chC R_F27) :: k46

theorem s47 : Sound env (mkOrc pfn k47) := by
  refine Sound.cons s46 ⟨Tryd.f27, fn_27, rfl, by kernel_rfl⟩ fun args H rs H2 hc => ?_
  obtain ⟨name1, r2, h, rfl, rfl, hx⟩ := chC_some hc
  cases hx
  exact g_F27 s46 rfl name1 r2 h

noncomputable def k48 := (28, chC R_F28) :: k47

theorem s48 : Sound env (mkOrc pfn k48) := by
  refine Sound.cons s47 ⟨Tryd.f28, fn_28, rfl, by kernel_rfl⟩ fun args H rs H2 hc => ?_
  obtain ⟨g1, name2, r3, h, rfl, rfl, hx⟩ := chC_some hc
  cases hx
  exact g_F28 s47 rfl g1 name2 r3 h

noncomputable def k49 := (16, chC R_F16) :: k48

theorem s49 : Sound env (mkOrc pfn k49) := by
  refine Sound.cons s48 ⟨Tryd.f16, fn_16, rfl, by kernel_rfl⟩ fun args H rs H2 hc => ?_
  obtain ⟨l1, r2, h, rfl, rfl, hx⟩ := chC_some hc
  cases hx
  exact g_F16 s48 rfl (fun values1 r2 r3 h => q_F26 values1 r2 r3 h) (fun name1 r2 h => q_F27 name1 r2 h) (fun g1 name2 r3 h => q_F28 g1 name2 r3 h) l1 r2 h

noncomputable def k50 := (4, chC R_F4) :: k49

theorem s50 : Sound env (mkOrc pfn k50) := by
  refine Sound.cons s49 ⟨Tryd.f4, fn_4, rfl, by kernel_rfl⟩ fun args H rs H2 hc => ?_
  obtain ⟨l1, n2, w3, r4, h, rfl, rfl, hx⟩ := chC_some hc
  cases hx
  exact g_F4 s49 rfl (fun l1 r2 h => q_F14 l1 r2 h) (fun w1 left2 deep3 r4 h => q_w15 (K15 BIG) w1 left2 deep3 r4 h) (fun l1 r2 h => q_F16 l1 r2 h) (fun r1 h => q_F8 r1 h) (fun l1 group2 w3 r4 r5 r6 h => q_F17 l1 group2 w3 r4 r5 r6 h) l1 n2 w3 r4 h

noncomputable def k51 := (5, chC R_F5) :: k50

theorem s51 : Sound env (mkOrc pfn k51) := by
  refine Sound.cons s50 ⟨Tryd.f5, fn_5, rfl, by kernel_rfl⟩ fun args H rs H2 hc => ?_
  obtain ⟨a1, b2, c3, r4, h, rfl, rfl, hx⟩ := chC_some hc
  cases hx
  exact g_F5 s50 rfl (fun l1 most2 r3 h => q_F7 l1 most2 r3 h) (fun r1 h => q_F8 r1 h) (fun a1 b2 r3 r4 h => q_F9 a1 b2 r3 r4 h) (fun a1 b2 r3 h => q_F13 a1 b2 r3 h) a1 b2 c3 r4 h

noncomputable def k52 := (6, chC R_F6) :: k51

theorem s52 : Sound env (mkOrc pfn k52) := by
  refine Sound.cons s51 ⟨Tryd.f6, fn_6, rfl, by kernel_rfl⟩ fun args H rs H2 hc => ?_
  obtain ⟨s1, l2, r3, h, rfl, rfl, hx⟩ := chC_some hc
  cases hx
  exact g_F6 s51 rfl (fun l1 most2 r3 h => q_F7 l1 most2 r3 h) (fun r1 h => q_F8 r1 h) (fun l1 group2 s3 r4 r5 h => q_F18 l1 group2 s3 r4 r5 h) (fun s1 ifs2 r3 h => q_F19 s1 ifs2 r3 h) (fun a1 b2 r3 h => q_F13 a1 b2 r3 h) s1 l2 r3 h

theorem good_F3 (a1 : List Str) (b2 : List Str) (idx3 : List Str) (h : F3 a1 b2 idx3 = some true) : Good env 3 [.pv (.slice (List.map PV.str a1)), .pv (.slice (List.map PV.str b2)), .pv (.slice (List.map PV.str idx3))] [] [.pv (.bool true)] [] := (s52 3 _ _ _ _ (q_F3 a1 b2 idx3 true h)).1

theorem good_F4 (l1 : List GEnv) (n2 : Int) (w3 : Word) (h : F4 l1 n2 w3 = some true) : Good env 4 [.pv (.slice (List.map GEnv.pv l1)), .pv (.int .i64 n2), .pv (.agg [.int .i64 w3.kind_, .str w3.text_, .str w3.quoted_, .slice (List.map Word.pv w3.words_), .slice (List.map Cmd.pv w3.cmd_)])] [] [.pv (.bool true)] [] := (s52 4 _ _ _ _ (q_F4 l1 n2 w3 true h)).1

theorem good_F5 (a1 : List Str) (b2 : List Str) (c3 : List Str) (h : F5 a1 b2 c3 = some true) : Good env 5 [.pv (.slice (List.map PV.str a1)), .pv (.slice (List.map PV.str b2)), .pv (.slice (List.map PV.str c3))] [] [.pv (.bool true)] [] := (s52 5 _ _ _ _ (q_F5 a1 b2 c3 true h)).1

theorem good_F6 (s1 : Str) (l2 : List Str) (h : F6 s1 l2 = some true) : Good env 6 [.pv (.str s1), .pv (.slice (List.map PV.str l2))] [] [.pv (.bool true)] [] := (s52 6 _ _ _ _ (q_F6 s1 l2 true h)).1

end Go.Abs.U50
