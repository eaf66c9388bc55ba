/- The layer 50 laws: all of the functions together. -/
import Derived.Test.YthoacjgjmlgaoaaGreatDoorLG
import Derived.Test.YthoacjgjmlgaoaaGreatDoorW1
import Derived.Test.YthoacjgjmlgaoaaGreatDoorW2
import Derived.Test.YthoacjgjmlgaoaaGreatDoorW3
set_option linter.unusedVariables false
set_option linter.unusedSimpArgs false
namespace Go.Abs.U5Z
open Go.RowKit Go.Proofs

def R_L_Len : List AV → List AObj → List AV × List AObj → Prop := fun args H x => ∃ (b : Str) (n : Int), L_Len b = some n ∧ args = [.ref 0 0] ∧ H = [.bld b] ∧ x = ([.pv (.int .i64 n)], [.bld b])

theorem q_L_Len (b : Str) (n : Int) (h : L_Len b = some n) : chC (R_L_Len) [.ref 0 0] [.bld b] = some ([.pv (.int .i64 n)], [.bld b]) := by
  refine chC_eq ⟨b, n, h, rfl, rfl, rfl⟩ ?_
  rintro y ⟨bp, np, hp, ha, hH, rfl⟩
  simp only [List.cons.injEq, AObj.bld.injEq, AObj.map.injEq, AObj.row.injEq, AObj.var.injEq, AV.pv.injEq, AV.vec.injEq, and_true, true_and, and_assoc] at hH
  have yb0 := hH
  have e_b := yb0
  subst e_b
  rw [h] at hp
  cases hp
  rfl

def R_L_Cut : List AV → List AObj → List AV × List AObj → Prop := fun args H x => ∃ (s : Str) (sep : Str) (a : Str) (b : Str) (ok : Bool), L_Cut s sep = some (a, b, ok) ∧ args = [.pv (.str s), .pv (.str sep)] ∧ H = [] ∧ x = ([.pv (.str a), .pv (.str b), .pv (.bool ok)], [])

theorem q_L_Cut (s : Str) (sep : Str) (a : Str) (b : Str) (ok : Bool) (h : L_Cut s sep = some (a, b, ok)) : chC (R_L_Cut) [.pv (.str s), .pv (.str sep)] [] = some ([.pv (.str a), .pv (.str b), .pv (.bool ok)], []) := by
  refine chC_eq ⟨s, sep, a, b, ok, h, rfl, rfl, rfl⟩ ?_
  rintro y ⟨sp, sepp, ap, bp, okp, hp, ha, hH, rfl⟩
  simp only [List.cons.injEq, AV.pv.injEq, AV.agg.injEq, AV.vec.injEq, and_true, true_and, and_assoc] at ha
  obtain ⟨ya0, ya1⟩ := ha
  have e_s := str_inj ya0
  have e_sep := str_inj ya1
  subst e_s
  subst e_sep
  rw [h] at hp
  cases hp
  rfl

def R_L_WriteString : List AV → List AObj → List AV × List AObj → Prop := fun args H x => ∃ (b : Str) (s : Str) (n : Int) (c : Str), L_WriteString b s = some (n, c) ∧ args = [.ref 0 0, .pv (.str s)] ∧ H = [.bld b] ∧ x = ([.pv (.int .i64 n), .pv (.nil)], [.bld c])

theorem q_L_WriteString (b : Str) (s : Str) (n : Int) (c : Str) (h : L_WriteString b s = some (n, c)) : chC (R_L_WriteString) [.ref 0 0, .pv (.str s)] [.bld b] = some ([.pv (.int .i64 n), .pv (.nil)], [.bld c]) := by
  refine chC_eq ⟨b, s, n, c, h, rfl, rfl, rfl⟩ ?_
  rintro y ⟨bp, sp, np, cp, hp, ha, hH, rfl⟩
  simp only [List.cons.injEq, AV.pv.injEq, AV.agg.injEq, AV.vec.injEq, and_true, true_and, and_assoc] at ha
  have ya0 := ha
  have e_s := str_inj ya0
  simp only [List.cons.injEq, AObj.bld.injEq, AObj.map.injEq, AObj.row.injEq, AObj.var.injEq, AV.pv.injEq, AV.vec.injEq, and_true, true_and, and_assoc] at hH
  have yb0 := hH
  have e_b := yb0
  subst e_b
  subst e_s
  rw [h] at hp
  cases hp
  rfl

def R_L_Join : List AV → List AObj → List AV × List AObj → Prop := fun args H x => ∃ (xs : List Str) (sep : Str) (s : Str), L_Join xs sep = some s ∧ args = [.pv (.slice (List.map PV.str xs)), .pv (.str sep)] ∧ H = [] ∧ x = ([.pv (.str s)], [])

theorem q_L_Join (xs : List Str) (sep : Str) (s : Str) (h : L_Join xs sep = some s) : chC (R_L_Join) [.pv (.slice (List.map PV.str xs)), .pv (.str sep)] [] = some ([.pv (.str s)], []) := by
  refine chC_eq ⟨xs, sep, s, h, rfl, rfl, rfl⟩ ?_
  rintro y ⟨xsp, sepp, sp, hp, ha, hH, rfl⟩
  simp only [List.cons.injEq, AV.pv.injEq, AV.agg.injEq, AV.vec.injEq, and_true, true_and, and_assoc] at ha
  obtain ⟨ya0, ya1⟩ := ha
  have e_xs := map_inj_of (fun _ _ => str_inj) (PV.slice.inj ya0)
  have e_sep := str_inj ya1
  subst e_xs
  subst e_sep
  rw [h] at hp
  cases hp
  rfl

def R_L_String : List AV → List AObj → List AV × List AObj → Prop := fun args H x => ∃ (b : Str) (s : Str), L_String b = some s ∧ args = [.ref 0 0] ∧ H = [.bld b] ∧ x = ([.pv (.str s)], [.gone])

theorem q_L_String (b : Str) (s : Str) (h : L_String b = some s) : chC (R_L_String) [.ref 0 0] [.bld b] = some ([.pv (.str s)], [.gone]) := by
  refine chC_eq ⟨b, s, h, rfl, rfl, rfl⟩ ?_
  rintro y ⟨bp, sp, hp, ha, hH, rfl⟩
  simp only [List.cons.injEq, AObj.bld.injEq, AObj.map.injEq, AObj.row.injEq, AObj.var.injEq, AV.pv.injEq, AV.vec.injEq, and_true, true_and, and_assoc] at hH
  have yb0 := hH
  have e_b := yb0
  subst e_b
  rw [h] at hp
  cases hp
  rfl

def R_L_IndexByte : List AV → List AObj → List AV × List AObj → Prop := fun args H x => ∃ (s : Str) (c : Int) (n : Int), L_IndexByte s c = some n ∧ args = [.pv (.str s), .pv (.int .u8 c)] ∧ H = [] ∧ x = ([.pv (.int .i64 n)], [])

theorem q_L_IndexByte (s : Str) (c : Int) (n : Int) (h : L_IndexByte s c = some n) : chC (R_L_IndexByte) [.pv (.str s), .pv (.int .u8 c)] [] = some ([.pv (.int .i64 n)], []) := by
  refine chC_eq ⟨s, c, n, h, rfl, rfl, rfl⟩ ?_
  rintro y ⟨sp, cp, np, hp, ha, hH, rfl⟩
  simp only [List.cons.injEq, AV.pv.injEq, AV.agg.injEq, AV.vec.injEq, and_true, true_and, and_assoc] at ha
  obtain ⟨ya0, ya1⟩ := ha
  have e_s := str_inj ya0
  have e_c := int_inj ya1
  subst e_s
  subst e_c
  rw [h] at hp
  cases hp
  rfl

def R_L_Itoa : List AV → List AObj → List AV × List AObj → Prop := fun args H x => ∃ (n : Int) (s : Str), L_Itoa n = some s ∧ args = [.pv (.int .i64 n)] ∧ H = [] ∧ x = ([.pv (.str s)], [])

theorem q_L_Itoa (n : Int) (s : Str) (h : L_Itoa n = some s) : chC (R_L_Itoa) [.pv (.int .i64 n)] [] = some ([.pv (.str s)], []) := by
  refine chC_eq ⟨n, s, h, rfl, rfl, rfl⟩ ?_
  rintro y ⟨np, sp, hp, ha, hH, rfl⟩
  simp only [List.cons.injEq, AV.pv.injEq, AV.agg.injEq, AV.vec.injEq, and_true, true_and, and_assoc] at ha
  have ya0 := ha
  have e_n := int_inj ya0
  subst e_n
  rw [h] at hp
  cases hp
  rfl

def R_L_Atoi : List AV → List AObj → List AV × List AObj → Prop := fun args H x => ∃ (s : Str) (n : Int) (bad : Bool), L_Atoi s = some (n, bad) ∧ args = [.pv (.str s)] ∧ H = [] ∧ x = ([.pv (.int .i64 n), .pv ((bif bad then PV.ifc else PV.nil))], [])

theorem q_L_Atoi (s : Str) (n : Int) (bad : Bool) (h : L_Atoi s = some (n, bad)) : chC (R_L_Atoi) [.pv (.str s)] [] = some ([.pv (.int .i64 n), .pv ((bif bad then PV.ifc else PV.nil))], []) := by
  refine chC_eq ⟨s, n, bad, h, rfl, rfl, rfl⟩ ?_
  rintro y ⟨sp, np, badp, hp, ha, hH, rfl⟩
  simp only [List.cons.injEq, AV.pv.injEq, AV.agg.injEq, AV.vec.injEq, and_true, true_and, and_assoc] at ha
  have ya0 := ha
  have e_s := str_inj ya0
  subst e_s
  rw [h] at hp
  cases hp
  rfl

def R_L_Clone : List AV → List AObj → List AV × List AObj → Prop := fun args H x => ∃ (xs : List Str) (l : List Str), L_Clone xs = some l ∧ args = [.pv (.slice (List.map PV.str xs))] ∧ H = [] ∧ x = ([.pv (.slice (List.map PV.str l))], [])

theorem q_L_Clone (xs : List Str) (l : List Str) (h : L_Clone xs = some l) : chC (R_L_Clone) [.pv (.slice (List.map PV.str xs))] [] = some ([.pv (.slice (List.map PV.str l))], []) := by
  refine chC_eq ⟨xs, l, h, rfl, rfl, rfl⟩ ?_
  rintro y ⟨xsp, lp, hp, ha, hH, rfl⟩
  simp only [List.cons.injEq, AV.pv.injEq, AV.agg.injEq, AV.vec.injEq, and_true, true_and, and_assoc] at ha
  have ya0 := ha
  have e_xs := map_inj_of (fun _ _ => str_inj) (PV.slice.inj ya0)
  subst e_xs
  rw [h] at hp
  cases hp
  rfl

def R_L_Repeat : List AV → List AObj → List AV × List AObj → Prop := fun args H x => ∃ (s : Str) (n : Int) (t : Str), L_Repeat s n = some t ∧ args = [.pv (.str s), .pv (.int .i64 n)] ∧ H = [] ∧ x = ([.pv (.str t)], [])

theorem q_L_Repeat (s : Str) (n : Int) (t : Str) (h : L_Repeat s n = some t) : chC (R_L_Repeat) [.pv (.str s), .pv (.int .i64 n)] [] = some ([.pv (.str t)], []) := by
  refine chC_eq ⟨s, n, t, h, rfl, rfl, rfl⟩ ?_
  rintro y ⟨sp, np, tp, hp, ha, hH, rfl⟩
  simp only [List.cons.injEq, AV.pv.injEq, AV.agg.injEq, AV.vec.injEq, and_true, true_and, and_assoc] at ha
  obtain ⟨ya0, ya1⟩ := ha
  have e_s := str_inj ya0
  have e_n := int_inj ya1
  subst e_s
  subst e_n
  rw [h] at hp
  cases hp
  rfl

def R_F12 : List AV → List AObj → List AV × List AObj → Prop := fun args H x => ∃ (l1 : List Str) (most2 : Int) (r3 : Bool), F12 l1 most2 = some r3 ∧ args = [.pv (.slice (List.map PV.str l1)), .pv (.int .i64 most2)] ∧ H = [] ∧ x = ([.pv (.bool r3)], [])

theorem q_F12 (l1 : List Str) (most2 : Int) (r3 : Bool) (h : F12 l1 most2 = some r3) : chC (R_F12) [.pv (.slice (List.map PV.str l1)), .pv (.int .i64 most2)] [] = some ([.pv (.bool r3)], []) := by
  refine chC_eq ⟨l1, most2, r3, h, rfl, rfl, rfl⟩ ?_
  rintro y ⟨l1p, most2p, r3p, hp, ha, hH, rfl⟩
  simp only [List.cons.injEq, AV.pv.injEq, AV.agg.injEq, AV.vec.injEq, and_true, true_and, and_assoc] at ha
  obtain ⟨ya0, ya1⟩ := ha
  have e_l1 := map_inj_of (fun _ _ => str_inj) (PV.slice.inj ya0)
  have e_most2 := int_inj ya1
  subst e_l1
  subst e_most2
  rw [h] at hp
  cases hp
  rfl

def R_F4 : List AV → List AObj → List AV × List AObj → Prop := fun args H x => ∃ (l1 : List GEnv) (r2 : Bool), F4 l1 = some r2 ∧ args = [.pv (.slice (List.map GEnv.pv l1))] ∧ H = [] ∧ x = ([.pv (.bool r2)], [])

theorem q_F4 (l1 : List GEnv) (r2 : Bool) (h : F4 l1 = some r2) : chC (R_F4) [.pv (.slice (List.map GEnv.pv l1))] [] = some ([.pv (.bool r2)], []) := by
  refine chC_eq ⟨l1, r2, h, rfl, rfl, rfl⟩ ?_
  rintro y ⟨l1p, r2p, hp, ha, hH, rfl⟩
  simp only [List.cons.injEq, AV.pv.injEq, AV.agg.injEq, AV.vec.injEq, and_true, true_and, and_assoc] at ha
  have ya0 := ha
  have e_l1 := map_inj_of (fun _ _ => GEnv.inj) (PV.slice.inj ya0)
  subst e_l1
  rw [h] at hp
  cases hp
  rfl

def R_F13 : List AV → List AObj → List AV × List AObj → Prop := fun args H x => ∃ (values1 : List Str) (r2 : Str) (r3 : Int), F13 values1 = some (r2, r3) ∧ args = [.pv (.slice (List.map PV.str values1))] ∧ H = [] ∧ x = ([.pv (.str r2), .pv (.int .i64 r3)], [])

theorem q_F13 (values1 : List Str) (r2 : Str) (r3 : Int) (h : F13 values1 = some (r2, r3)) : chC (R_F13) [.pv (.slice (List.map PV.str values1))] [] = some ([.pv (.str r2), .pv (.int .i64 r3)], []) := by
  refine chC_eq ⟨values1, r2, r3, h, rfl, rfl, rfl⟩ ?_
  rintro y ⟨values1p, r2p, r3p, hp, ha, hH, rfl⟩
  simp only [List.cons.injEq, AV.pv.injEq, AV.agg.injEq, AV.vec.injEq, and_true, true_and, and_assoc] at ha
  have ya0 := ha
  have e_values1 := map_inj_of (fun _ _ => str_inj) (PV.slice.inj ya0)
  subst e_values1
  rw [h] at hp
  cases hp
  rfl

def R_F14 : List AV → List AObj → List AV × List AObj → Prop := fun args H x => ∃ (name1 : Str) (r2 : Bool), F14 name1 = some r2 ∧ args = [.pv (.str name1)] ∧ H = [] ∧ x = ([.pv (.bool r2)], [])

theorem q_F14 (name1 : Str) (r2 : Bool) (h : F14 name1 = some r2) : chC (R_F14) [.pv (.str name1)] [] = some ([.pv (.bool r2)], []) := by
  refine chC_eq ⟨name1, r2, h, rfl, rfl, rfl⟩ ?_
  rintro y ⟨name1p, r2p, hp, ha, hH, rfl⟩
  simp only [List.cons.injEq, AV.pv.injEq, AV.agg.injEq, AV.vec.injEq, and_true, true_and, and_assoc] at ha
  have ya0 := ha
  have e_name1 := str_inj ya0
  subst e_name1
  rw [h] at hp
  cases hp
  rfl

def R_F15 : List AV → List AObj → List AV × List AObj → Prop := fun args H x => ∃ (g1 : GEnv) (name2 : Str) (r3 : Int), F15 g1 name2 = some r3 ∧ args = [.pv (.agg [.int .i64 g1.id_, .int .i64 g1.next_, .slice (List.map Var.pv g1.vars_)]), .pv (.str name2)] ∧ H = [] ∧ x = ([.pv (.int .i64 r3)], [])

theorem q_F15 (g1 : GEnv) (name2 : Str) (r3 : Int) (h : F15 g1 name2 = some r3) : chC (R_F15) [.pv (.agg [.int .i64 g1.id_, .int .i64 g1.next_, .slice (List.map Var.pv g1.vars_)]), .pv (.str name2)] [] = some ([.pv (.int .i64 r3)], []) := by
  refine chC_eq ⟨g1, name2, r3, h, rfl, rfl, rfl⟩ ?_
  rintro y ⟨g1p, name2p, r3p, hp, ha, hH, rfl⟩
  simp only [List.cons.injEq, AV.pv.injEq, AV.agg.injEq, AV.vec.injEq, and_true, true_and, and_assoc] at ha
  obtain ⟨ya0, ya1⟩ := ha
  have e_g1 := GEnv.inj (x := g1) (y := g1p) ya0
  have e_name2 := str_inj ya1
  subst e_g1
  subst e_name2
  rw [h] at hp
  cases hp
  rfl

def R_F5 : List AV → List AObj → List AV × List AObj → Prop := fun args H x => ∃ (l1 : List GEnv) (r2 : Bool), F5 l1 = some r2 ∧ args = [.pv (.slice (List.map GEnv.pv l1))] ∧ H = [] ∧ x = ([.pv (.bool r2)], [])

theorem q_F5 (l1 : List GEnv) (r2 : Bool) (h : F5 l1 = some r2) : chC (R_F5) [.pv (.slice (List.map GEnv.pv l1))] [] = some ([.pv (.bool r2)], []) := by
  refine chC_eq ⟨l1, r2, h, rfl, rfl, rfl⟩ ?_
  rintro y ⟨l1p, r2p, hp, ha, hH, rfl⟩
  simp only [List.cons.injEq, AV.pv.injEq, AV.agg.injEq, AV.vec.injEq, and_true, true_and, and_assoc] at ha
  have ya0 := ha
  have e_l1 := map_inj_of (fun _ _ => GEnv.inj) (PV.slice.inj ya0)
  subst e_l1
  rw [h] at hp
  cases hp
  rfl

def R_F34 : List AV → List AObj → List AV × List AObj → Prop := fun args H x => ∃ (l1 : List Str) (r2 : List GValue), F34 l1 = some r2 ∧ args = [.pv (.slice (List.map PV.str l1))] ∧ H = [] ∧ x = ([.pv (.slice (List.map GValue.pv r2))], [])

theorem q_F34 (l1 : List Str) (r2 : List GValue) (h : F34 l1 = some r2) : chC (R_F34) [.pv (.slice (List.map PV.str l1))] [] = some ([.pv (.slice (List.map GValue.pv r2))], []) := by
  refine chC_eq ⟨l1, r2, h, rfl, rfl, rfl⟩ ?_
  rintro y ⟨l1p, r2p, hp, ha, hH, rfl⟩
  simp only [List.cons.injEq, AV.pv.injEq, AV.agg.injEq, AV.vec.injEq, and_true, true_and, and_assoc] at ha
  have ya0 := ha
  have e_l1 := map_inj_of (fun _ _ => str_inj) (PV.slice.inj ya0)
  subst e_l1
  rw [h] at hp
  cases hp
  rfl

def R_F47 : List AV → List AObj → List AV × List AObj → Prop := fun args H x => ∃ (a1 : GValue) (b2 : GValue) (r3 : GValue) (r4 : Int), F47 a1 b2 = some (r3, r4) ∧ args = [.pv (.agg [.str a1.text_, .str a1.marks_]), .pv (.agg [.str b2.text_, .str b2.marks_])] ∧ H = [] ∧ x = ([.pv (.agg [.str r3.text_, .str r3.marks_]), .pv (.int .i64 r4)], [])

theorem q_F47 (a1 : GValue) (b2 : GValue) (r3 : GValue) (r4 : Int) (h : F47 a1 b2 = some (r3, r4)) : chC (R_F47) [.pv (.agg [.str a1.text_, .str a1.marks_]), .pv (.agg [.str b2.text_, .str b2.marks_])] [] = some ([.pv (.agg [.str r3.text_, .str r3.marks_]), .pv (.int .i64 r4)], []) := by
  refine chC_eq ⟨a1, b2, r3, r4, h, rfl, rfl, rfl⟩ ?_
  rintro y ⟨a1p, b2p, r3p, r4p, hp, ha, hH, rfl⟩
  simp only [List.cons.injEq, AV.pv.injEq, AV.agg.injEq, AV.vec.injEq, and_true, true_and, and_assoc] at ha
  obtain ⟨ya0, ya1⟩ := ha
  have e_a1 := GValue.inj (x := a1) (y := a1p) ya0
  have e_b2 := GValue.inj (x := b2) (y := b2p) ya1
  subst e_a1
  subst e_b2
  rw [h] at hp
  cases hp
  rfl

def R_F33 : List AV → List AObj → List AV × List AObj → Prop := fun args H x => ∃ (a1 : List GValue) (b2 : List GValue) (r3 : List GValue) (r4 : Int), F33 a1 b2 = some (r3, r4) ∧ args = [.pv (.slice (List.map GValue.pv a1)), .pv (.slice (List.map GValue.pv b2))] ∧ H = [] ∧ x = ([.pv (.slice (List.map GValue.pv r3)), .pv (.int .i64 r4)], [])

theorem q_F33 (a1 : List GValue) (b2 : List GValue) (r3 : List GValue) (r4 : Int) (h : F33 a1 b2 = some (r3, r4)) : chC (R_F33) [.pv (.slice (List.map GValue.pv a1)), .pv (.slice (List.map GValue.pv b2))] [] = some ([.pv (.slice (List.map GValue.pv r3)), .pv (.int .i64 r4)], []) := by
  refine chC_eq ⟨a1, b2, r3, r4, h, rfl, rfl, rfl⟩ ?_
  rintro y ⟨a1p, b2p, r3p, r4p, hp, ha, hH, rfl⟩
  simp only [List.cons.injEq, AV.pv.injEq, AV.agg.injEq, AV.vec.injEq, and_true, true_and, and_assoc] at ha
  obtain ⟨ya0, ya1⟩ := ha
  have e_a1 := map_inj_of (fun _ _ => GValue.inj) (PV.slice.inj ya0)
  have e_b2 := map_inj_of (fun _ _ => GValue.inj) (PV.slice.inj ya1)
  subst e_a1
  subst e_b2
  rw [h] at hp
  cases hp
  rfl

def R_F35 : List AV → List AObj → List AV × List AObj → Prop := fun args H x => ∃ (l1 : List GValue) (r2 : List Str), F35 l1 = some r2 ∧ args = [.pv (.slice (List.map GValue.pv l1))] ∧ H = [] ∧ x = ([.pv (.slice (List.map PV.str r2))], [])

theorem q_F35 (l1 : List GValue) (r2 : List Str) (h : F35 l1 = some r2) : chC (R_F35) [.pv (.slice (List.map GValue.pv l1))] [] = some ([.pv (.slice (List.map PV.str r2))], []) := by
  refine chC_eq ⟨l1, r2, h, rfl, rfl, rfl⟩ ?_
  rintro y ⟨l1p, r2p, hp, ha, hH, rfl⟩
  simp only [List.cons.injEq, AV.pv.injEq, AV.agg.injEq, AV.vec.injEq, and_true, true_and, and_assoc] at ha
  have ya0 := ha
  have e_l1 := map_inj_of (fun _ _ => GValue.inj) (PV.slice.inj ya0)
  subst e_l1
  rw [h] at hp
  cases hp
  rfl

def R_F16 : List AV → List AObj → List AV × List AObj → Prop := fun args H x => ∃ (a1 : List Str) (b2 : List Str) (r3 : List Str) (r4 : Int), F16 a1 b2 = some (r3, r4) ∧ args = [.pv (.slice (List.map PV.str a1)), .pv (.slice (List.map PV.str b2))] ∧ H = [] ∧ x = ([.pv (.slice (List.map PV.str r3)), .pv (.int .i64 r4)], [])

theorem q_F16 (a1 : List Str) (b2 : List Str) (r3 : List Str) (r4 : Int) (h : F16 a1 b2 = some (r3, r4)) : chC (R_F16) [.pv (.slice (List.map PV.str a1)), .pv (.slice (List.map PV.str b2))] [] = some ([.pv (.slice (List.map PV.str r3)), .pv (.int .i64 r4)], []) := by
  refine chC_eq ⟨a1, b2, r3, r4, h, rfl, rfl, rfl⟩ ?_
  rintro y ⟨a1p, b2p, r3p, r4p, hp, ha, hH, rfl⟩
  simp only [List.cons.injEq, AV.pv.injEq, AV.agg.injEq, AV.vec.injEq, and_true, true_and, and_assoc] at ha
  obtain ⟨ya0, ya1⟩ := ha
  have e_a1 := map_inj_of (fun _ _ => str_inj) (PV.slice.inj ya0)
  have e_b2 := map_inj_of (fun _ _ => str_inj) (PV.slice.inj ya1)
  subst e_a1
  subst e_b2
  rw [h] at hp
  cases hp
  rfl

def R_F18 : List AV → List AObj → List AV × List AObj → Prop := fun args H x => ∃ (r1 : List GEnv), F18 = some r1 ∧ args = [] ∧ H = [] ∧ x = ([.pv (.slice (List.map GEnv.pv r1))], [])

theorem q_F18 (r1 : List GEnv) (h : F18 = some r1) : chC (R_F18) [] [] = some ([.pv (.slice (List.map GEnv.pv r1))], []) := by
  refine chC_eq ⟨r1, h, rfl, rfl, rfl⟩ ?_
  rintro y ⟨r1p, hp, ha, hH, rfl⟩
  rw [h] at hp
  cases hp
  rfl

def R_F37 : List AV → List AObj → List AV × List AObj → Prop := fun args H x => ∃ (s1 : Str) (r2 : Int) (r3 : Bool), F37 s1 = some (r2, r3) ∧ args = [.pv (.str s1)] ∧ H = [] ∧ x = ([.pv (.int .i64 r2), .pv (.bool r3)], [])

theorem q_F37 (s1 : Str) (r2 : Int) (r3 : Bool) (h : F37 s1 = some (r2, r3)) : chC (R_F37) [.pv (.str s1)] [] = some ([.pv (.int .i64 r2), .pv (.bool r3)], []) := by
  refine chC_eq ⟨s1, r2, r3, h, rfl, rfl, rfl⟩ ?_
  rintro y ⟨s1p, r2p, r3p, hp, ha, hH, rfl⟩
  simp only [List.cons.injEq, AV.pv.injEq, AV.agg.injEq, AV.vec.injEq, and_true, true_and, and_assoc] at ha
  have ya0 := ha
  have e_s1 := str_inj ya0
  subst e_s1
  rw [h] at hp
  cases hp
  rfl

def R_F71 : List AV → List AObj → List AV × List AObj → Prop := fun args H x => ∃ (g1 : GEnv) (x2 : Int) (r3 : Bool), F71 g1 x2 = some r3 ∧ args = [.pv (.agg [.int .i64 g1.id_, .int .i64 g1.next_, .slice (List.map Var.pv g1.vars_)]), .ref 0 0] ∧ H = [.var [.pv (.int .i64 x2)]] ∧ x = ([.pv (.bool r3)], [.var [.pv (.int .i64 x2)]])

theorem q_F71 (g1 : GEnv) (x2 : Int) (r3 : Bool) (h : F71 g1 x2 = some r3) : chC (R_F71) [.pv (.agg [.int .i64 g1.id_, .int .i64 g1.next_, .slice (List.map Var.pv g1.vars_)]), .ref 0 0] [.var [.pv (.int .i64 x2)]] = some ([.pv (.bool r3)], [.var [.pv (.int .i64 x2)]]) := by
  refine chC_eq ⟨g1, x2, r3, h, rfl, rfl, rfl⟩ ?_
  rintro y ⟨g1p, x2p, r3p, hp, ha, hH, rfl⟩
  simp only [List.cons.injEq, AV.pv.injEq, AV.agg.injEq, AV.vec.injEq, and_true, true_and, and_assoc] at ha
  have ya0 := ha
  have e_g1 := GEnv.inj (x := g1) (y := g1p) ya0
  simp only [List.cons.injEq, AObj.bld.injEq, AObj.map.injEq, AObj.row.injEq, AObj.var.injEq, AV.pv.injEq, AV.vec.injEq, and_true, true_and, and_assoc] at hH
  have yb0 := hH
  have e_x2 := int_inj yb0
  subst e_g1
  subst e_x2
  rw [h] at hp
  cases hp
  rfl

def R_F70 : List AV → List AObj → List AV × List AObj → Prop := fun args H x => ∃ (s1 : List GEnv) (x2 : Int) (r3 : Int), F70 s1 x2 = some r3 ∧ args = [.pv (.slice (List.map GEnv.pv s1)), .fn 71 [0]] ∧ H = [.var [.pv (.int .i64 x2)]] ∧ x = ([.pv (.int .i64 r3)], [.var [.pv (.int .i64 x2)]])

theorem q_F70 (s1 : List GEnv) (x2 : Int) (r3 : Int) (h : F70 s1 x2 = some r3) : chC (R_F70) [.pv (.slice (List.map GEnv.pv s1)), .fn 71 [0]] [.var [.pv (.int .i64 x2)]] = some ([.pv (.int .i64 r3)], [.var [.pv (.int .i64 x2)]]) := by
  refine chC_eq ⟨s1, x2, r3, h, rfl, rfl, rfl⟩ ?_
  rintro y ⟨s1p, x2p, r3p, hp, ha, hH, rfl⟩
  simp only [List.cons.injEq, AV.pv.injEq, AV.agg.injEq, AV.vec.injEq, and_true, true_and, and_assoc] at ha
  have ya0 := ha
  have e_s1 := map_inj_of (fun _ _ => GEnv.inj) (PV.slice.inj ya0)
  simp only [List.cons.injEq, AObj.bld.injEq, AObj.map.injEq, AObj.row.injEq, AObj.var.injEq, AV.pv.injEq, AV.vec.injEq, and_true, true_and, and_assoc] at hH
  have yb0 := hH
  have e_x2 := int_inj yb0
  subst e_s1
  subst e_x2
  rw [h] at hp
  cases hp
  rfl

def R_F56 : List AV → List AObj → List AV × List AObj → Prop := fun args H x => ∃ (l1 : List GEnv) (group2 : Int) (r3 : Int), F56 l1 group2 = some r3 ∧ args = [.pv (.slice (List.map GEnv.pv l1)), .pv (.int .i64 group2)] ∧ H = [] ∧ x = ([.pv (.int .i64 r3)], [])

theorem q_F56 (l1 : List GEnv) (group2 : Int) (r3 : Int) (h : F56 l1 group2 = some r3) : chC (R_F56) [.pv (.slice (List.map GEnv.pv l1)), .pv (.int .i64 group2)] [] = some ([.pv (.int .i64 r3)], []) := by
  refine chC_eq ⟨l1, group2, r3, h, rfl, rfl, rfl⟩ ?_
  rintro y ⟨l1p, group2p, r3p, hp, ha, hH, rfl⟩
  simp only [List.cons.injEq, AV.pv.injEq, AV.agg.injEq, AV.vec.injEq, and_true, true_and, and_assoc] at ha
  obtain ⟨ya0, ya1⟩ := ha
  have e_l1 := map_inj_of (fun _ _ => GEnv.inj) (PV.slice.inj ya0)
  have e_group2 := int_inj ya1
  subst e_l1
  subst e_group2
  rw [h] at hp
  cases hp
  rfl

def R_F73 : List AV → List AObj → List AV × List AObj → Prop := fun args H x => ∃ (v1 : Var) (x2 : Str) (r3 : Bool), F73 v1 x2 = some r3 ∧ args = [.pv (.agg [.int .i64 v1.id_, .str v1.name_, .slice (List.map PV.str v1.values_)]), .ref 0 0] ∧ H = [.var [.pv (.str x2)]] ∧ x = ([.pv (.bool r3)], [.var [.pv (.str x2)]])

theorem q_F73 (v1 : Var) (x2 : Str) (r3 : Bool) (h : F73 v1 x2 = some r3) : chC (R_F73) [.pv (.agg [.int .i64 v1.id_, .str v1.name_, .slice (List.map PV.str v1.values_)]), .ref 0 0] [.var [.pv (.str x2)]] = some ([.pv (.bool r3)], [.var [.pv (.str x2)]]) := by
  refine chC_eq ⟨v1, x2, r3, h, rfl, rfl, rfl⟩ ?_
  rintro y ⟨v1p, x2p, r3p, hp, ha, hH, rfl⟩
  simp only [List.cons.injEq, AV.pv.injEq, AV.agg.injEq, AV.vec.injEq, and_true, true_and, and_assoc] at ha
  have ya0 := ha
  have e_v1 := Var.inj (x := v1) (y := v1p) ya0
  simp only [List.cons.injEq, AObj.bld.injEq, AObj.map.injEq, AObj.row.injEq, AObj.var.injEq, AV.pv.injEq, AV.vec.injEq, and_true, true_and, and_assoc] at hH
  have yb0 := hH
  have e_x2 := str_inj yb0
  subst e_v1
  subst e_x2
  rw [h] at hp
  cases hp
  rfl

def R_F72 : List AV → List AObj → List AV × List AObj → Prop := fun args H x => ∃ (s1 : List Var) (x2 : Str) (r3 : Int), F72 s1 x2 = some r3 ∧ args = [.pv (.slice (List.map Var.pv s1)), .fn 73 [0]] ∧ H = [.var [.pv (.str x2)]] ∧ x = ([.pv (.int .i64 r3)], [.var [.pv (.str x2)]])

theorem q_F72 (s1 : List Var) (x2 : Str) (r3 : Int) (h : F72 s1 x2 = some r3) : chC (R_F72) [.pv (.slice (List.map Var.pv s1)), .fn 73 [0]] [.var [.pv (.str x2)]] = some ([.pv (.int .i64 r3)], [.var [.pv (.str x2)]]) := by
  refine chC_eq ⟨s1, x2, r3, h, rfl, rfl, rfl⟩ ?_
  rintro y ⟨s1p, x2p, r3p, hp, ha, hH, rfl⟩
  simp only [List.cons.injEq, AV.pv.injEq, AV.agg.injEq, AV.vec.injEq, and_true, true_and, and_assoc] at ha
  have ya0 := ha
  have e_s1 := map_inj_of (fun _ _ => Var.inj) (PV.slice.inj ya0)
  simp only [List.cons.injEq, AObj.bld.injEq, AObj.map.injEq, AObj.row.injEq, AObj.var.injEq, AV.pv.injEq, AV.vec.injEq, and_true, true_and, and_assoc] at hH
  have yb0 := hH
  have e_x2 := str_inj yb0
  subst e_s1
  subst e_x2
  rw [h] at hp
  cases hp
  rfl

def R_F57 : List AV → List AObj → List AV × List AObj → Prop := fun args H x => ∃ (g1 : GEnv) (name2 : Str) (r3 : Int), F57 g1 name2 = some r3 ∧ args = [.pv (.agg [.int .i64 g1.id_, .int .i64 g1.next_, .slice (List.map Var.pv g1.vars_)]), .pv (.str name2)] ∧ H = [] ∧ x = ([.pv (.int .i64 r3)], [])

theorem q_F57 (g1 : GEnv) (name2 : Str) (r3 : Int) (h : F57 g1 name2 = some r3) : chC (R_F57) [.pv (.agg [.int .i64 g1.id_, .int .i64 g1.next_, .slice (List.map Var.pv g1.vars_)]), .pv (.str name2)] [] = some ([.pv (.int .i64 r3)], []) := by
  refine chC_eq ⟨g1, name2, r3, h, rfl, rfl, rfl⟩ ?_
  rintro y ⟨g1p, name2p, r3p, hp, ha, hH, rfl⟩
  simp only [List.cons.injEq, AV.pv.injEq, AV.agg.injEq, AV.vec.injEq, and_true, true_and, and_assoc] at ha
  obtain ⟨ya0, ya1⟩ := ha
  have e_g1 := GEnv.inj (x := g1) (y := g1p) ya0
  have e_name2 := str_inj ya1
  subst e_g1
  subst e_name2
  rw [h] at hp
  cases hp
  rfl

def R_F42 : List AV → List AObj → List AV × List AObj → Prop := fun args H x => ∃ (l1 : List GEnv) (group2 : Int) (name3 : Str) (r4 : List Str) (r5 : Bool), F42 l1 group2 name3 = some (r4, r5) ∧ args = [.pv (.slice (List.map GEnv.pv l1)), .pv (.int .i64 group2), .pv (.str name3)] ∧ H = [] ∧ x = ([.pv (.slice (List.map PV.str r4)), .pv (.bool r5)], [])

theorem q_F42 (l1 : List GEnv) (group2 : Int) (name3 : Str) (r4 : List Str) (r5 : Bool) (h : F42 l1 group2 name3 = some (r4, r5)) : chC (R_F42) [.pv (.slice (List.map GEnv.pv l1)), .pv (.int .i64 group2), .pv (.str name3)] [] = some ([.pv (.slice (List.map PV.str r4)), .pv (.bool r5)], []) := by
  refine chC_eq ⟨l1, group2, name3, r4, r5, h, rfl, rfl, rfl⟩ ?_
  rintro y ⟨l1p, group2p, name3p, r4p, r5p, hp, ha, hH, rfl⟩
  simp only [List.cons.injEq, AV.pv.injEq, AV.agg.injEq, AV.vec.injEq, and_true, true_and, and_assoc] at ha
  obtain ⟨ya0, ya1, ya2⟩ := ha
  have e_l1 := map_inj_of (fun _ _ => GEnv.inj) (PV.slice.inj ya0)
  have e_group2 := int_inj ya1
  have e_name3 := str_inj ya2
  subst e_l1
  subst e_group2
  subst e_name3
  rw [h] at hp
  cases hp
  rfl

def R_F26 : List AV → List AObj → List AV × List AObj → Prop := fun args H x => ∃ (l1 : List GEnv) (group2 : Int) (name3 : Str) (r4 : List Str), F26 l1 group2 name3 = some r4 ∧ args = [.pv (.slice (List.map GEnv.pv l1)), .pv (.int .i64 group2), .pv (.str name3)] ∧ H = [] ∧ x = ([.pv (.slice (List.map PV.str r4))], [])

theorem q_F26 (l1 : List GEnv) (group2 : Int) (name3 : Str) (r4 : List Str) (h : F26 l1 group2 name3 = some r4) : chC (R_F26) [.pv (.slice (List.map GEnv.pv l1)), .pv (.int .i64 group2), .pv (.str name3)] [] = some ([.pv (.slice (List.map PV.str r4))], []) := by
  refine chC_eq ⟨l1, group2, name3, r4, h, rfl, rfl, rfl⟩ ?_
  rintro y ⟨l1p, group2p, name3p, r4p, hp, ha, hH, rfl⟩
  simp only [List.cons.injEq, AV.pv.injEq, AV.agg.injEq, AV.vec.injEq, and_true, true_and, and_assoc] at ha
  obtain ⟨ya0, ya1, ya2⟩ := ha
  have e_l1 := map_inj_of (fun _ _ => GEnv.inj) (PV.slice.inj ya0)
  have e_group2 := int_inj ya1
  have e_name3 := str_inj ya2
  subst e_l1
  subst e_group2
  subst e_name3
  rw [h] at hp
  cases hp
  rfl

def R_F48 : List AV → List AObj → List AV × List AObj → Prop := fun args H x => ∃ (l1 : List Str) (r2 : List GValue), F48 l1 = some r2 ∧ args = [.pv (.slice (List.map PV.str l1))] ∧ H = [] ∧ x = ([.pv (.slice (List.map GValue.pv r2))], [])

theorem q_F48 (l1 : List Str) (r2 : List GValue) (h : F48 l1 = some r2) : chC (R_F48) [.pv (.slice (List.map PV.str l1))] [] = some ([.pv (.slice (List.map GValue.pv r2))], []) := by
  refine chC_eq ⟨l1, r2, h, rfl, rfl, rfl⟩ ?_
  rintro y ⟨l1p, r2p, hp, ha, hH, rfl⟩
  simp only [List.cons.injEq, AV.pv.injEq, AV.agg.injEq, AV.vec.injEq, and_true, true_and, and_assoc] at ha
  have ya0 := ha
  have e_l1 := map_inj_of (fun _ _ => str_inj) (PV.slice.inj ya0)
  subst e_l1
  rw [h] at hp
  cases hp
  rfl

def R_F19 : List AV → List AObj → List AV × List AObj → Prop := fun args H x => ∃ (l1 : List Str) (idx2 : List Str) (r3 : List Str) (r4 : Int), F19 l1 idx2 = some (r3, r4) ∧ args = [.pv (.slice (List.map PV.str l1)), .pv (.slice (List.map PV.str idx2))] ∧ H = [] ∧ x = ([.pv (.slice (List.map PV.str r3)), .pv (.int .i64 r4)], [])

theorem q_F19 (l1 : List Str) (idx2 : List Str) (r3 : List Str) (r4 : Int) (h : F19 l1 idx2 = some (r3, r4)) : chC (R_F19) [.pv (.slice (List.map PV.str l1)), .pv (.slice (List.map PV.str idx2))] [] = some ([.pv (.slice (List.map PV.str r3)), .pv (.int .i64 r4)], []) := by
  refine chC_eq ⟨l1, idx2, r3, r4, h, rfl, rfl, rfl⟩ ?_
  rintro y ⟨l1p, idx2p, r3p, r4p, hp, ha, hH, rfl⟩
  simp only [List.cons.injEq, AV.pv.injEq, AV.agg.injEq, AV.vec.injEq, and_true, true_and, and_assoc] at ha
  obtain ⟨ya0, ya1⟩ := ha
  have e_l1 := map_inj_of (fun _ _ => str_inj) (PV.slice.inj ya0)
  have e_idx2 := map_inj_of (fun _ _ => str_inj) (PV.slice.inj ya1)
  subst e_l1
  subst e_idx2
  rw [h] at hp
  cases hp
  rfl

def R_F50 (w36 : (List GEnv) → Int → Word → Option ((List GValue) × Int)) : List AV → List AObj → List AV × List AObj → Prop := fun args H x => ∃ (l1 : List GEnv) (group2 : Int) (words3 : List Word) (r4 : List GValue) (r5 : Int), F50 w36 l1 group2 words3 = some (r4, r5) ∧ args = [.pv (.slice (List.map GEnv.pv l1)), .pv (.int .i64 group2), .pv (.slice (List.map Word.pv words3))] ∧ H = [] ∧ x = ([.pv (.slice (List.map GValue.pv r4)), .pv (.int .i64 r5)], [])

theorem q_F50 (w36 : (List GEnv) → Int → Word → Option ((List GValue) × Int)) (l1 : List GEnv) (group2 : Int) (words3 : List Word) (r4 : List GValue) (r5 : Int) (h : F50 w36 l1 group2 words3 = some (r4, r5)) : chC (R_F50 w36) [.pv (.slice (List.map GEnv.pv l1)), .pv (.int .i64 group2), .pv (.slice (List.map Word.pv words3))] [] = some ([.pv (.slice (List.map GValue.pv r4)), .pv (.int .i64 r5)], []) := by
  refine chC_eq ⟨l1, group2, words3, r4, r5, h, rfl, rfl, rfl⟩ ?_
  rintro y ⟨l1p, group2p, words3p, r4p, r5p, hp, ha, hH, rfl⟩
  simp only [List.cons.injEq, AV.pv.injEq, AV.agg.injEq, AV.vec.injEq, and_true, true_and, and_assoc] at ha
  obtain ⟨ya0, ya1, ya2⟩ := ha
  have e_l1 := map_inj_of (fun _ _ => GEnv.inj) (PV.slice.inj ya0)
  have e_group2 := int_inj ya1
  have e_words3 := map_inj_of (fun _ _ => Word.inj) (PV.slice.inj ya2)
  subst e_l1
  subst e_group2
  subst e_words3
  rw [h] at hp
  cases hp
  rfl

def R_F51 (w36 : (List GEnv) → Int → Word → Option ((List GValue) × Int)) : List AV → List AObj → List AV × List AObj → Prop := fun args H x => ∃ (l1 : List GEnv) (group2 : Int) (words3 : List Word) (r4 : List GValue) (r5 : Int), F51 w36 l1 group2 words3 = some (r4, r5) ∧ args = [.pv (.slice (List.map GEnv.pv l1)), .pv (.int .i64 group2), .pv (.slice (List.map Word.pv words3))] ∧ H = [] ∧ x = ([.pv (.slice (List.map GValue.pv r4)), .pv (.int .i64 r5)], [])

theorem q_F51 (w36 : (List GEnv) → Int → Word → Option ((List GValue) × Int)) (l1 : List GEnv) (group2 : Int) (words3 : List Word) (r4 : List GValue) (r5 : Int) (h : F51 w36 l1 group2 words3 = some (r4, r5)) : chC (R_F51 w36) [.pv (.slice (List.map GEnv.pv l1)), .pv (.int .i64 group2), .pv (.slice (List.map Word.pv words3))] [] = some ([.pv (.slice (List.map GValue.pv r4)), .pv (.int .i64 r5)], []) := by
  refine chC_eq ⟨l1, group2, words3, r4, r5, h, rfl, rfl, rfl⟩ ?_
  rintro y ⟨l1p, group2p, words3p, r4p, r5p, hp, ha, hH, rfl⟩
  simp only [List.cons.injEq, AV.pv.injEq, AV.agg.injEq, AV.vec.injEq, and_true, true_and, and_assoc] at ha
  obtain ⟨ya0, ya1, ya2⟩ := ha
  have e_l1 := map_inj_of (fun _ _ => GEnv.inj) (PV.slice.inj ya0)
  have e_group2 := int_inj ya1
  have e_words3 := map_inj_of (fun _ _ => Word.inj) (PV.slice.inj ya2)
  subst e_l1
  subst e_group2
  subst e_words3
  rw [h] at hp
  cases hp
  rfl

def R_w36 (w36 : (List GEnv) → Int → Word → Option ((List GValue) × Int)) : List AV → List AObj → List AV × List AObj → Prop := fun args H x => ∃ (a0 : List GEnv) (a1 : Int) (a2 : Word) (r0 : List GValue) (r1 : Int), w36 a0 a1 a2 = some (r0, r1) ∧ args = [.pv (.slice (List.map GEnv.pv a0)), .pv (.int .i64 a1), .pv (.agg [.int .i64 a2.kind_, .str a2.text_, .str a2.quoted_, .slice (List.map Word.pv a2.words_), .slice (List.map Cmd.pv a2.cmd_)])] ∧ H = [] ∧ x = ([.pv (.slice (List.map GValue.pv r0)), .pv (.int .i64 r1)], [])

theorem q_w36 (w36 : (List GEnv) → Int → Word → Option ((List GValue) × Int)) (a0 : List GEnv) (a1 : Int) (a2 : Word) (r0 : List GValue) (r1 : Int) (h : w36 a0 a1 a2 = some (r0, r1)) : chC (R_w36 w36) [.pv (.slice (List.map GEnv.pv a0)), .pv (.int .i64 a1), .pv (.agg [.int .i64 a2.kind_, .str a2.text_, .str a2.quoted_, .slice (List.map Word.pv a2.words_), .slice (List.map Cmd.pv a2.cmd_)])] [] = some ([.pv (.slice (List.map GValue.pv r0)), .pv (.int .i64 r1)], []) := by
  refine chC_eq ⟨a0, a1, a2, r0, r1, h, rfl, rfl, rfl⟩ ?_
  rintro y ⟨a0p, a1p, a2p, r0p, r1p, hp, ha, hH, rfl⟩
  simp only [List.cons.injEq, AV.pv.injEq, AV.agg.injEq, AV.vec.injEq, and_true, true_and, and_assoc] at ha
  obtain ⟨ya0, ya1, ya2⟩ := ha
  have e_a0 := map_inj_of (fun _ _ => GEnv.inj) (PV.slice.inj ya0)
  have e_a1 := int_inj ya1
  have e_a2 := Word.injA (x := a2) (y := a2p) ya2
  subst e_a0
  subst e_a1
  subst e_a2
  rw [h] at hp
  cases hp
  rfl

def R_F17 : List AV → List AObj → List AV × List AObj → Prop := fun args H x => ∃ (l1 : List GEnv) (group2 : Int) (w3 : Word) (r4 : List Str) (r5 : List Str) (r6 : Int), F17 l1 group2 w3 = some (r4, r5, r6) ∧ args = [.pv (.slice (List.map GEnv.pv l1)), .pv (.int .i64 group2), .pv (.agg [.int .i64 w3.kind_, .str w3.text_, .str w3.quoted_, .slice (List.map Word.pv w3.words_), .slice (List.map Cmd.pv w3.cmd_)])] ∧ H = [] ∧ x = ([.pv (.slice (List.map PV.str r4)), .pv (.slice (List.map PV.str r5)), .pv (.int .i64 r6)], [])

theorem q_F17 (l1 : List GEnv) (group2 : Int) (w3 : Word) (r4 : List Str) (r5 : List Str) (r6 : Int) (h : F17 l1 group2 w3 = some (r4, r5, r6)) : chC (R_F17) [.pv (.slice (List.map GEnv.pv l1)), .pv (.int .i64 group2), .pv (.agg [.int .i64 w3.kind_, .str w3.text_, .str w3.quoted_, .slice (List.map Word.pv w3.words_), .slice (List.map Cmd.pv w3.cmd_)])] [] = some ([.pv (.slice (List.map PV.str r4)), .pv (.slice (List.map PV.str r5)), .pv (.int .i64 r6)], []) := by
  refine chC_eq ⟨l1, group2, w3, r4, r5, r6, h, rfl, rfl, rfl⟩ ?_
  rintro y ⟨l1p, group2p, w3p, r4p, r5p, r6p, hp, ha, hH, rfl⟩
  simp only [List.cons.injEq, AV.pv.injEq, AV.agg.injEq, AV.vec.injEq, and_true, true_and, and_assoc] at ha
  obtain ⟨ya0, ya1, ya2⟩ := ha
  have e_l1 := map_inj_of (fun _ _ => GEnv.inj) (PV.slice.inj ya0)
  have e_group2 := int_inj ya1
  have e_w3 := Word.injA (x := w3) (y := w3p) ya2
  subst e_l1
  subst e_group2
  subst e_w3
  rw [h] at hp
  cases hp
  rfl

def R_F23 : List AV → List AObj → List AV × List AObj → Prop := fun args H x => ∃ (c1 : Int) (r2 : Bool), F23 c1 = some r2 ∧ args = [.pv (.int .u8 c1)] ∧ H = [] ∧ x = ([.pv (.bool r2)], [])

theorem q_F23 (c1 : Int) (r2 : Bool) (h : F23 c1 = some r2) : chC (R_F23) [.pv (.int .u8 c1)] [] = some ([.pv (.bool r2)], []) := by
  refine chC_eq ⟨c1, r2, h, rfl, rfl, rfl⟩ ?_
  rintro y ⟨c1p, r2p, hp, ha, hH, rfl⟩
  simp only [List.cons.injEq, AV.pv.injEq, AV.agg.injEq, AV.vec.injEq, and_true, true_and, and_assoc] at ha
  have ya0 := ha
  have e_c1 := int_inj ya0
  subst e_c1
  rw [h] at hp
  cases hp
  rfl

def R_F40 : List AV → List AObj → List AV × List AObj → Prop := fun args H x => ∃ (s1 : Str) (prefix2 : Str) (r3 : Bool), F40 s1 prefix2 = some r3 ∧ args = [.pv (.str s1), .pv (.str prefix2)] ∧ H = [] ∧ x = ([.pv (.bool r3)], [])

theorem q_F40 (s1 : Str) (prefix2 : Str) (r3 : Bool) (h : F40 s1 prefix2 = some r3) : chC (R_F40) [.pv (.str s1), .pv (.str prefix2)] [] = some ([.pv (.bool r3)], []) := by
  refine chC_eq ⟨s1, prefix2, r3, h, rfl, rfl, rfl⟩ ?_
  rintro y ⟨s1p, prefix2p, r3p, hp, ha, hH, rfl⟩
  simp only [List.cons.injEq, AV.pv.injEq, AV.agg.injEq, AV.vec.injEq, and_true, true_and, and_assoc] at ha
  obtain ⟨ya0, ya1⟩ := ha
  have e_s1 := str_inj ya0
  have e_prefix2 := str_inj ya1
  subst e_s1
  subst e_prefix2
  rw [h] at hp
  cases hp
  rfl

def R_F24 : List AV → List AObj → List AV × List AObj → Prop := fun args H x => ∃ (s1 : Str) (prefix2 : Str) (r3 : Bool), F24 s1 prefix2 = some r3 ∧ args = [.pv (.str s1), .pv (.str prefix2)] ∧ H = [] ∧ x = ([.pv (.bool r3)], [])

theorem q_F24 (s1 : Str) (prefix2 : Str) (r3 : Bool) (h : F24 s1 prefix2 = some r3) : chC (R_F24) [.pv (.str s1), .pv (.str prefix2)] [] = some ([.pv (.bool r3)], []) := by
  refine chC_eq ⟨s1, prefix2, r3, h, rfl, rfl, rfl⟩ ?_
  rintro y ⟨s1p, prefix2p, r3p, hp, ha, hH, rfl⟩
  simp only [List.cons.injEq, AV.pv.injEq, AV.agg.injEq, AV.vec.injEq, and_true, true_and, and_assoc] at ha
  obtain ⟨ya0, ya1⟩ := ha
  have e_s1 := str_inj ya0
  have e_prefix2 := str_inj ya1
  subst e_s1
  subst e_prefix2
  rw [h] at hp
  cases hp
  rfl

def R_F43 : List AV → List AObj → List AV × List AObj → Prop := fun args H x => ∃ (s1 : Str) (prefix2 : Str) (r3 : Str), F43 s1 prefix2 = some r3 ∧ args = [.pv (.str s1), .pv (.str prefix2)] ∧ H = [] ∧ x = ([.pv (.str r3)], [])

theorem q_F43 (s1 : Str) (prefix2 : Str) (r3 : Str) (h : F43 s1 prefix2 = some r3) : chC (R_F43) [.pv (.str s1), .pv (.str prefix2)] [] = some ([.pv (.str r3)], []) := by
  refine chC_eq ⟨s1, prefix2, r3, h, rfl, rfl, rfl⟩ ?_
  rintro y ⟨s1p, prefix2p, r3p, hp, ha, hH, rfl⟩
  simp only [List.cons.injEq, AV.pv.injEq, AV.agg.injEq, AV.vec.injEq, and_true, true_and, and_assoc] at ha
  obtain ⟨ya0, ya1⟩ := ha
  have e_s1 := str_inj ya0
  have e_prefix2 := str_inj ya1
  subst e_s1
  subst e_prefix2
  rw [h] at hp
  cases hp
  rfl

def R_F27 : List AV → List AObj → List AV × List AObj → Prop := fun args H x => ∃ (s1 : Str) (prefix2 : Str) (r3 : Str), F27 s1 prefix2 = some r3 ∧ args = [.pv (.str s1), .pv (.str prefix2)] ∧ H = [] ∧ x = ([.pv (.str r3)], [])

theorem q_F27 (s1 : Str) (prefix2 : Str) (r3 : Str) (h : F27 s1 prefix2 = some r3) : chC (R_F27) [.pv (.str s1), .pv (.str prefix2)] [] = some ([.pv (.str r3)], []) := by
  refine chC_eq ⟨s1, prefix2, r3, h, rfl, rfl, rfl⟩ ?_
  rintro y ⟨s1p, prefix2p, r3p, hp, ha, hH, rfl⟩
  simp only [List.cons.injEq, AV.pv.injEq, AV.agg.injEq, AV.vec.injEq, and_true, true_and, and_assoc] at ha
  obtain ⟨ya0, ya1⟩ := ha
  have e_s1 := str_inj ya0
  have e_prefix2 := str_inj ya1
  subst e_s1
  subst e_prefix2
  rw [h] at hp
  cases hp
  rfl

def R_F7 : List AV → List AObj → List AV × List AObj → Prop := fun args H x => ∃ (l1 : List GEnv) (group2 : Int) (s3 : Str) (r4 : Str) (r5 : Int), F7 l1 group2 s3 = some (r4, r5) ∧ args = [.pv (.slice (List.map GEnv.pv l1)), .pv (.int .i64 group2), .pv (.str s3)] ∧ H = [] ∧ x = ([.pv (.str r4), .pv (.int .i64 r5)], [])

theorem q_F7 (l1 : List GEnv) (group2 : Int) (s3 : Str) (r4 : Str) (r5 : Int) (h : F7 l1 group2 s3 = some (r4, r5)) : chC (R_F7) [.pv (.slice (List.map GEnv.pv l1)), .pv (.int .i64 group2), .pv (.str s3)] [] = some ([.pv (.str r4), .pv (.int .i64 r5)], []) := by
  refine chC_eq ⟨l1, group2, s3, r4, r5, h, rfl, rfl, rfl⟩ ?_
  rintro y ⟨l1p, group2p, s3p, r4p, r5p, hp, ha, hH, rfl⟩
  simp only [List.cons.injEq, AV.pv.injEq, AV.agg.injEq, AV.vec.injEq, and_true, true_and, and_assoc] at ha
  obtain ⟨ya0, ya1, ya2⟩ := ha
  have e_l1 := map_inj_of (fun _ _ => GEnv.inj) (PV.slice.inj ya0)
  have e_group2 := int_inj ya1
  have e_s3 := str_inj ya2
  subst e_l1
  subst e_group2
  subst e_s3
  rw [h] at hp
  cases hp
  rfl

def R_F9 : List AV → List AObj → List AV × List AObj → Prop := fun args H x => ∃ (a1 : List Str) (b2 : List Str) (r3 : Bool), F9 a1 b2 = some r3 ∧ args = [.pv (.slice (List.map PV.str a1)), .pv (.slice (List.map PV.str b2))] ∧ H = [] ∧ x = ([.pv (.bool r3)], [])

theorem q_F9 (a1 : List Str) (b2 : List Str) (r3 : Bool) (h : F9 a1 b2 = some r3) : chC (R_F9) [.pv (.slice (List.map PV.str a1)), .pv (.slice (List.map PV.str b2))] [] = some ([.pv (.bool r3)], []) := by
  refine chC_eq ⟨a1, b2, r3, h, rfl, rfl, rfl⟩ ?_
  rintro y ⟨a1p, b2p, r3p, hp, ha, hH, rfl⟩
  simp only [List.cons.injEq, AV.pv.injEq, AV.agg.injEq, AV.vec.injEq, and_true, true_and, and_assoc] at ha
  obtain ⟨ya0, ya1⟩ := ha
  have e_a1 := map_inj_of (fun _ _ => str_inj) (PV.slice.inj ya0)
  have e_b2 := map_inj_of (fun _ _ => str_inj) (PV.slice.inj ya1)
  subst e_a1
  subst e_b2
  rw [h] at hp
  cases hp
  rfl

def R_F10 : List AV → List AObj → List AV × List AObj → Prop := fun args H x => ∃ (s1 : Str) (ifs2 : Str) (r3 : List Str), F10 s1 ifs2 = some r3 ∧ args = [.pv (.str s1), .pv (.str ifs2)] ∧ H = [] ∧ x = ([.pv (.slice (List.map PV.str r3))], [])

theorem q_F10 (s1 : Str) (ifs2 : Str) (r3 : List Str) (h : F10 s1 ifs2 = some r3) : chC (R_F10) [.pv (.str s1), .pv (.str ifs2)] [] = some ([.pv (.slice (List.map PV.str r3))], []) := by
  refine chC_eq ⟨s1, ifs2, r3, h, rfl, rfl, rfl⟩ ?_
  rintro y ⟨s1p, ifs2p, r3p, hp, ha, hH, rfl⟩
  simp only [List.cons.injEq, AV.pv.injEq, AV.agg.injEq, AV.vec.injEq, and_true, true_and, and_assoc] at ha
  obtain ⟨ya0, ya1⟩ := ha
  have e_s1 := str_inj ya0
  have e_ifs2 := str_inj ya1
  subst e_s1
  subst e_ifs2
  rw [h] at hp
  cases hp
  rfl

def R_F6 : List AV → List AObj → List AV × List AObj → Prop := fun args H x => ∃ (r1 : Bool), F6 = some r1 ∧ args = [] ∧ H = [] ∧ x = ([.pv (.bool r1)], [])

theorem q_F6 (r1 : Bool) (h : F6 = some r1) : chC (R_F6) [] [] = some ([.pv (.bool r1)], []) := by
  refine chC_eq ⟨r1, h, rfl, rfl, rfl⟩ ?_
  rintro y ⟨r1p, hp, ha, hH, rfl⟩
  rw [h] at hp
  cases hp
  rfl

def R_F29 : List AV → List AObj → List AV × List AObj → Prop := fun args H x => ∃ (c1 : Int) (r2 : Bool), F29 c1 = some r2 ∧ args = [.pv (.int .u8 c1)] ∧ H = [] ∧ x = ([.pv (.bool r2)], [])

theorem q_F29 (c1 : Int) (r2 : Bool) (h : F29 c1 = some r2) : chC (R_F29) [.pv (.int .u8 c1)] [] = some ([.pv (.bool r2)], []) := by
  refine chC_eq ⟨c1, r2, h, rfl, rfl, rfl⟩ ?_
  rintro y ⟨c1p, r2p, hp, ha, hH, rfl⟩
  simp only [List.cons.injEq, AV.pv.injEq, AV.agg.injEq, AV.vec.injEq, and_true, true_and, and_assoc] at ha
  have ya0 := ha
  have e_c1 := int_inj ya0
  subst e_c1
  rw [h] at hp
  cases hp
  rfl

def R_F44 : List AV → List AObj → List AV × List AObj → Prop := fun args H x => ∃ (s1 : Str) (r2 : Int) (r3 : Bool), F44 s1 = some (r2, r3) ∧ args = [.pv (.str s1)] ∧ H = [] ∧ x = ([.pv (.int .i64 r2), .pv (.bool r3)], [])

theorem q_F44 (s1 : Str) (r2 : Int) (r3 : Bool) (h : F44 s1 = some (r2, r3)) : chC (R_F44) [.pv (.str s1)] [] = some ([.pv (.int .i64 r2), .pv (.bool r3)], []) := by
  refine chC_eq ⟨s1, r2, r3, h, rfl, rfl, rfl⟩ ?_
  rintro y ⟨s1p, r2p, r3p, hp, ha, hH, rfl⟩
  simp only [List.cons.injEq, AV.pv.injEq, AV.agg.injEq, AV.vec.injEq, and_true, true_and, and_assoc] at ha
  have ya0 := ha
  have e_s1 := str_inj ya0
  subst e_s1
  rw [h] at hp
  cases hp
  rfl

def R_F59 : List AV → List AObj → List AV × List AObj → Prop := fun args H x => ∃ (l1 : List GEnv) (group2 : Int) (r3 : Int), F59 l1 group2 = some r3 ∧ args = [.pv (.slice (List.map GEnv.pv l1)), .pv (.int .i64 group2)] ∧ H = [] ∧ x = ([.pv (.int .i64 r3)], [])

theorem q_F59 (l1 : List GEnv) (group2 : Int) (r3 : Int) (h : F59 l1 group2 = some r3) : chC (R_F59) [.pv (.slice (List.map GEnv.pv l1)), .pv (.int .i64 group2)] [] = some ([.pv (.int .i64 r3)], []) := by
  refine chC_eq ⟨l1, group2, r3, h, rfl, rfl, rfl⟩ ?_
  rintro y ⟨l1p, group2p, r3p, hp, ha, hH, rfl⟩
  simp only [List.cons.injEq, AV.pv.injEq, AV.agg.injEq, AV.vec.injEq, and_true, true_and, and_assoc] at ha
  obtain ⟨ya0, ya1⟩ := ha
  have e_l1 := map_inj_of (fun _ _ => GEnv.inj) (PV.slice.inj ya0)
  have e_group2 := int_inj ya1
  subst e_l1
  subst e_group2
  rw [h] at hp
  cases hp
  rfl

def R_F60 : List AV → List AObj → List AV × List AObj → Prop := fun args H x => ∃ (l1 : List Str) (r2 : List Str), F60 l1 = some r2 ∧ args = [.pv (.slice (List.map PV.str l1))] ∧ H = [] ∧ x = ([.pv (.slice (List.map PV.str r2))], [])

theorem q_F60 (l1 : List Str) (r2 : List Str) (h : F60 l1 = some r2) : chC (R_F60) [.pv (.slice (List.map PV.str l1))] [] = some ([.pv (.slice (List.map PV.str r2))], []) := by
  refine chC_eq ⟨l1, r2, h, rfl, rfl, rfl⟩ ?_
  rintro y ⟨l1p, r2p, hp, ha, hH, rfl⟩
  simp only [List.cons.injEq, AV.pv.injEq, AV.agg.injEq, AV.vec.injEq, and_true, true_and, and_assoc] at ha
  have ya0 := ha
  have e_l1 := map_inj_of (fun _ _ => str_inj) (PV.slice.inj ya0)
  subst e_l1
  rw [h] at hp
  cases hp
  rfl

def R_F45 : List AV → List AObj → List AV × List AObj → Prop := fun args H x => ∃ (l1 : List GEnv) (group2 : Int) (name3 : Str) (r4 : List Str) (r5 : Bool), F45 l1 group2 name3 = some (r4, r5) ∧ args = [.pv (.slice (List.map GEnv.pv l1)), .pv (.int .i64 group2), .pv (.str name3)] ∧ H = [] ∧ x = ([.pv (.slice (List.map PV.str r4)), .pv (.bool r5)], [])

theorem q_F45 (l1 : List GEnv) (group2 : Int) (name3 : Str) (r4 : List Str) (r5 : Bool) (h : F45 l1 group2 name3 = some (r4, r5)) : chC (R_F45) [.pv (.slice (List.map GEnv.pv l1)), .pv (.int .i64 group2), .pv (.str name3)] [] = some ([.pv (.slice (List.map PV.str r4)), .pv (.bool r5)], []) := by
  refine chC_eq ⟨l1, group2, name3, r4, r5, h, rfl, rfl, rfl⟩ ?_
  rintro y ⟨l1p, group2p, name3p, r4p, r5p, hp, ha, hH, rfl⟩
  simp only [List.cons.injEq, AV.pv.injEq, AV.agg.injEq, AV.vec.injEq, and_true, true_and, and_assoc] at ha
  obtain ⟨ya0, ya1, ya2⟩ := ha
  have e_l1 := map_inj_of (fun _ _ => GEnv.inj) (PV.slice.inj ya0)
  have e_group2 := int_inj ya1
  have e_name3 := str_inj ya2
  subst e_l1
  subst e_group2
  subst e_name3
  rw [h] at hp
  cases hp
  rfl

def R_F30 : List AV → List AObj → List AV × List AObj → Prop := fun args H x => ∃ (env1 : List GEnv) (group2 : Int) (name3 : Str) (r4 : List Str), F30 env1 group2 name3 = some r4 ∧ args = [.pv (.slice (List.map GEnv.pv env1)), .pv (.int .i64 group2), .pv (.str name3)] ∧ H = [] ∧ x = ([.pv (.slice (List.map PV.str r4))], [])

theorem q_F30 (env1 : List GEnv) (group2 : Int) (name3 : Str) (r4 : List Str) (h : F30 env1 group2 name3 = some r4) : chC (R_F30) [.pv (.slice (List.map GEnv.pv env1)), .pv (.int .i64 group2), .pv (.str name3)] [] = some ([.pv (.slice (List.map PV.str r4))], []) := by
  refine chC_eq ⟨env1, group2, name3, r4, h, rfl, rfl, rfl⟩ ?_
  rintro y ⟨env1p, group2p, name3p, r4p, hp, ha, hH, rfl⟩
  simp only [List.cons.injEq, AV.pv.injEq, AV.agg.injEq, AV.vec.injEq, and_true, true_and, and_assoc] at ha
  obtain ⟨ya0, ya1, ya2⟩ := ha
  have e_env1 := map_inj_of (fun _ _ => GEnv.inj) (PV.slice.inj ya0)
  have e_group2 := int_inj ya1
  have e_name3 := str_inj ya2
  subst e_env1
  subst e_group2
  subst e_name3
  rw [h] at hp
  cases hp
  rfl

def R_F8 : List AV → List AObj → List AV × List AObj → Prop := fun args H x => ∃ (env1 : List GEnv) (group2 : Int) (s3 : Str) (r4 : Str) (r5 : Int), F8 env1 group2 s3 = some (r4, r5) ∧ args = [.pv (.slice (List.map GEnv.pv env1)), .pv (.int .i64 group2), .pv (.str s3)] ∧ H = [] ∧ x = ([.pv (.str r4), .pv (.int .i64 r5)], [])

theorem q_F8 (env1 : List GEnv) (group2 : Int) (s3 : Str) (r4 : Str) (r5 : Int) (h : F8 env1 group2 s3 = some (r4, r5)) : chC (R_F8) [.pv (.slice (List.map GEnv.pv env1)), .pv (.int .i64 group2), .pv (.str s3)] [] = some ([.pv (.str r4), .pv (.int .i64 r5)], []) := by
  refine chC_eq ⟨env1, group2, s3, r4, r5, h, rfl, rfl, rfl⟩ ?_
  rintro y ⟨env1p, group2p, s3p, r4p, r5p, hp, ha, hH, rfl⟩
  simp only [List.cons.injEq, AV.pv.injEq, AV.agg.injEq, AV.vec.injEq, and_true, true_and, and_assoc] at ha
  obtain ⟨ya0, ya1, ya2⟩ := ha
  have e_env1 := map_inj_of (fun _ _ => GEnv.inj) (PV.slice.inj ya0)
  have e_group2 := int_inj ya1
  have e_s3 := str_inj ya2
  subst e_env1
  subst e_group2
  subst e_s3
  rw [h] at hp
  cases hp
  rfl

def R_F32 : List AV → List AObj → List AV × List AObj → Prop := fun args H x => ∃ (c1 : Int) (s2 : Str) (r3 : Bool), F32 c1 s2 = some r3 ∧ args = [.pv (.int .u8 c1), .pv (.str s2)] ∧ H = [] ∧ x = ([.pv (.bool r3)], [])

theorem q_F32 (c1 : Int) (s2 : Str) (r3 : Bool) (h : F32 c1 s2 = some r3) : chC (R_F32) [.pv (.int .u8 c1), .pv (.str s2)] [] = some ([.pv (.bool r3)], []) := by
  refine chC_eq ⟨c1, s2, r3, h, rfl, rfl, rfl⟩ ?_
  rintro y ⟨c1p, s2p, r3p, hp, ha, hH, rfl⟩
  simp only [List.cons.injEq, AV.pv.injEq, AV.agg.injEq, AV.vec.injEq, and_true, true_and, and_assoc] at ha
  obtain ⟨ya0, ya1⟩ := ha
  have e_c1 := int_inj ya0
  have e_s2 := str_inj ya1
  subst e_c1
  subst e_s2
  rw [h] at hp
  cases hp
  rfl

def R_F11 : List AV → List AObj → List AV × List AObj → Prop := fun args H x => ∃ (s1 : Str) (ifs2 : Str) (r3 : List Str), F11 s1 ifs2 = some r3 ∧ args = [.pv (.str s1), .pv (.str ifs2)] ∧ H = [] ∧ x = ([.pv (.slice (List.map PV.str r3))], [])

theorem q_F11 (s1 : Str) (ifs2 : Str) (r3 : List Str) (h : F11 s1 ifs2 = some r3) : chC (R_F11) [.pv (.str s1), .pv (.str ifs2)] [] = some ([.pv (.slice (List.map PV.str r3))], []) := by
  refine chC_eq ⟨s1, ifs2, r3, h, rfl, rfl, rfl⟩ ?_
  rintro y ⟨s1p, ifs2p, r3p, hp, ha, hH, rfl⟩
  simp only [List.cons.injEq, AV.pv.injEq, AV.agg.injEq, AV.vec.injEq, and_true, true_and, and_assoc] at ha
  obtain ⟨ya0, ya1⟩ := ha
  have e_s1 := str_inj ya0
  have e_ifs2 := str_inj ya1
  subst e_s1
  subst e_ifs2
  rw [h] at hp
  cases hp
  rfl

def R_F3 : List AV → List AObj → List AV × List AObj → Prop := fun args H x => ∃ (l1 : List GEnv) (s2 : Str) (ifs3 : Str) (r4 : Bool), F3 l1 s2 ifs3 = some r4 ∧ args = [.pv (.slice (List.map GEnv.pv l1)), .pv (.str s2), .pv (.str ifs3)] ∧ H = [] ∧ x = ([.pv (.bool r4)], [])

theorem q_F3 (l1 : List GEnv) (s2 : Str) (ifs3 : Str) (r4 : Bool) (h : F3 l1 s2 ifs3 = some r4) : chC (R_F3) [.pv (.slice (List.map GEnv.pv l1)), .pv (.str s2), .pv (.str ifs3)] [] = some ([.pv (.bool r4)], []) := by
  refine chC_eq ⟨l1, s2, ifs3, r4, h, rfl, rfl, rfl⟩ ?_
  rintro y ⟨l1p, s2p, ifs3p, r4p, hp, ha, hH, rfl⟩
  simp only [List.cons.injEq, AV.pv.injEq, AV.agg.injEq, AV.vec.injEq, and_true, true_and, and_assoc] at ha
  obtain ⟨ya0, ya1, ya2⟩ := ha
  have e_l1 := map_inj_of (fun _ _ => GEnv.inj) (PV.slice.inj ya0)
  have e_s2 := str_inj ya1
  have e_ifs3 := str_inj ya2
  subst e_l1
  subst e_s2
  subst e_ifs3
  rw [h] at hp
  cases hp
  rfl

noncomputable def k0 : List (FuncId × (List AV → List AObj → Option (List AV × List AObj))) := []

theorem s0 : Sound env (mkOrc pfn k0) := Sound.nil pfn

noncomputable def k1 := (20, chC R_L_Len) :: k0

theorem s1 : Sound env (mkOrc pfn k1) := by
  refine Sound.cons s0 ⟨Tryz.f20, fn_20, rfl, by kernel_rfl⟩ fun args H rs H2 hc => ?_
  obtain ⟨b, n, h, rfl, rfl, hx⟩ := chC_some hc
  cases hx
  exact g_L_Len  b n h

noncomputable def k2 := (21, chC R_L_Cut) :: k1

theorem s2 : Sound env (mkOrc pfn k2) := by
  refine Sound.cons s1 ⟨Tryz.f21, fn_21, rfl, by kernel_rfl⟩ fun args H rs H2 hc => ?_
  obtain ⟨s, sep, a, b, ok, h, rfl, rfl, hx⟩ := chC_some hc
  cases hx
  exact g_L_Cut  s sep a b ok h

noncomputable def k3 := (22, chC R_L_WriteString) :: k2

theorem s3 : Sound env (mkOrc pfn k3) := by
  refine Sound.cons s2 ⟨Tryz.f22, fn_22, rfl, by kernel_rfl⟩ fun args H rs H2 hc => ?_
  obtain ⟨b, s, n, c, h, rfl, rfl, hx⟩ := chC_some hc
  cases hx
  exact g_L_WriteString  b s n c h

noncomputable def k4 := (25, chC R_L_Join) :: k3

theorem s4 : Sound env (mkOrc pfn k4) := by
  refine Sound.cons s3 ⟨Tryz.f25, fn_25, rfl, by kernel_rfl⟩ fun args H rs H2 hc => ?_
  obtain ⟨xs, sep, s, h, rfl, rfl, hx⟩ := chC_some hc
  cases hx
  exact g_L_Join  xs sep s h

noncomputable def k5 := (28, chC R_L_String) :: k4

theorem s5 : Sound env (mkOrc pfn k5) := by
  refine Sound.cons s4 ⟨Tryz.f28, fn_28, rfl, by kernel_rfl⟩ fun args H rs H2 hc => ?_
  obtain ⟨b, s, h, rfl, rfl, hx⟩ := chC_some hc
  cases hx
  exact g_L_String  b s h

noncomputable def k6 := (31, chC R_L_IndexByte) :: k5

theorem s6 : Sound env (mkOrc pfn k6) := by
  refine Sound.cons s5 ⟨Tryz.f31, fn_31, rfl, by kernel_rfl⟩ fun args H rs H2 hc => ?_
  obtain ⟨s, c, n, h, rfl, rfl, hx⟩ := chC_some hc
  cases hx
  exact g_L_IndexByte  s c n h

noncomputable def k7 := (49, chC R_L_Itoa) :: k6

theorem s7 : Sound env (mkOrc pfn k7) := by
  refine Sound.cons s6 ⟨Tryz.f49, fn_49, rfl, by kernel_rfl⟩ fun args H rs H2 hc => ?_
  obtain ⟨n, s, h, rfl, rfl, hx⟩ := chC_some hc
  cases hx
  exact g_L_Itoa  n s h

noncomputable def k8 := (52, chC R_L_Atoi) :: k7

theorem s8 : Sound env (mkOrc pfn k8) := by
  refine Sound.cons s7 ⟨Tryz.f52, fn_52, rfl, by kernel_rfl⟩ fun args H rs H2 hc => ?_
  obtain ⟨s, n, bad, h, rfl, rfl, hx⟩ := chC_some hc
  cases hx
  exact g_L_Atoi  s n bad h

noncomputable def k9 := (58, chC R_L_Clone) :: k8

theorem s9 : Sound env (mkOrc pfn k9) := by
  refine Sound.cons s8 ⟨Tryz.f58, fn_58, rfl, by kernel_rfl⟩ fun args H rs H2 hc => ?_
  obtain ⟨xs, l, h, rfl, rfl, hx⟩ := chC_some hc
  cases hx
  exact g_L_Clone  xs l h

noncomputable def k10 := (62, chC R_L_Repeat) :: k9

theorem s10 : Sound env (mkOrc pfn k10) := by
  refine Sound.cons s9 ⟨Tryz.f62, fn_62, rfl, by kernel_rfl⟩ fun args H rs H2 hc => ?_
  obtain ⟨s, n, t, h, rfl, rfl, hx⟩ := chC_some hc
  cases hx
  exact g_L_Repeat  s n t h

noncomputable def k11 := (12, chC R_F12) :: k10

theorem s11 : Sound env (mkOrc pfn k11) := by
  refine Sound.cons s10 ⟨Tryz.f12, fn_12, rfl, by kernel_rfl⟩ fun args H rs H2 hc => ?_
  obtain ⟨l1, most2, r3, h, rfl, rfl, hx⟩ := chC_some hc
  cases hx
  exact g_F12 s10 rfl l1 most2 r3 h

noncomputable def k12 := (4, chC R_F4) :: k11

theorem s12 : Sound env (mkOrc pfn k12) := by
  refine Sound.cons s11 ⟨Tryz.f4, fn_4, rfl, by kernel_rfl⟩ fun args H rs H2 hc => ?_
  obtain ⟨l1, r2, h, rfl, rfl, hx⟩ := chC_some hc
  cases hx
  exact g_F4 s11 rfl (fun l1 most2 r3 h => q_F12 l1 most2 r3 h) l1 r2 h

noncomputable def k13 := (13, chC R_F13) :: k12

theorem s13 : Sound env (mkOrc pfn k13) := by
  refine Sound.cons s12 ⟨Tryz.f13, fn_13, rfl, by kernel_rfl⟩ fun args H rs H2 hc => ?_
  obtain ⟨values1, r2, r3, h, rfl, rfl, hx⟩ := chC_some hc
  cases hx
  exact g_F13 s12 rfl values1 r2 r3 h

noncomputable def k14 := (14, chC R_F14) :: k13

theorem s14 : Sound env (mkOrc pfn k14) := by
  refine Sound.cons s13 ⟨Tryz.f14, fn_14, rfl, by kernel_rfl⟩ fun args H rs H2 hc => ?_
  obtain ⟨name1, r2, h, rfl, rfl, hx⟩ := chC_some hc
  cases hx
  exact g_F14 s13 rfl name1 r2 h

noncomputable def k15 := (15, chC R_F15) :: k14

theorem s15 : Sound env (mkOrc pfn k15) := by
  refine Sound.cons s14 ⟨Tryz.f15, fn_15, rfl, by kernel_rfl⟩ fun args H rs H2 hc => ?_
  obtain ⟨g1, name2, r3, h, rfl, rfl, hx⟩ := chC_some hc
  cases hx
  exact g_F15 s14 rfl g1 name2 r3 h

noncomputable def k16 := (5, chC R_F5) :: k15

theorem s16 : Sound env (mkOrc pfn k16) := by
  refine Sound.cons s15 ⟨Tryz.f5, fn_5, rfl, by kernel_rfl⟩ fun args H rs H2 hc => ?_
  obtain ⟨l1, r2, h, rfl, rfl, hx⟩ := chC_some hc
  cases hx
  exact g_F5 s15 rfl (fun values1 r2 r3 h => q_F13 values1 r2 r3 h) (fun name1 r2 h => q_F14 name1 r2 h) (fun g1 name2 r3 h => q_F15 g1 name2 r3 h) l1 r2 h

noncomputable def k17 := (34, chC R_F34) :: k16

theorem s17 : Sound env (mkOrc pfn k17) := by
  refine Sound.cons s16 ⟨Tryz.f34, fn_34, rfl, by kernel_rfl⟩ fun args H rs H2 hc => ?_
  obtain ⟨l1, r2, h, rfl, rfl, hx⟩ := chC_some hc
  cases hx
  exact g_F34 s16 rfl l1 r2 h

noncomputable def k18 := (47, chC R_F47) :: k17

theorem s18 : Sound env (mkOrc pfn k18) := by
  refine Sound.cons s17 ⟨Tryz.f47, fn_47, rfl, by kernel_rfl⟩ fun args H rs H2 hc => ?_
  obtain ⟨a1, b2, r3, r4, h, rfl, rfl, hx⟩ := chC_some hc
  cases hx
  exact g_F47 s17 rfl a1 b2 r3 r4 h

noncomputable def k19 := (33, chC R_F33) :: k18

theorem s19 : Sound env (mkOrc pfn k19) := by
  refine Sound.cons s18 ⟨Tryz.f33, fn_33, rfl, by kernel_rfl⟩ fun args H rs H2 hc => ?_
  obtain ⟨a1, b2, r3, r4, h, rfl, rfl, hx⟩ := chC_some hc
  cases hx
  exact g_F33 s18 rfl (fun a1 b2 r3 r4 h => q_F47 a1 b2 r3 r4 h) a1 b2 r3 r4 h

noncomputable def k20 := (35, chC R_F35) :: k19

theorem s20 : Sound env (mkOrc pfn k20) := by
  refine Sound.cons s19 ⟨Tryz.f35, fn_35, rfl, by kernel_rfl⟩ fun args H rs H2 hc => ?_
  obtain ⟨l1, r2, h, rfl, rfl, hx⟩ := chC_some hc
  cases hx
  exact g_F35 s19 rfl l1 r2 h

noncomputable def k21 := (16, chC R_F16) :: k20

theorem s21 : Sound env (mkOrc pfn k21) := by
  refine Sound.cons s20 ⟨Tryz.f16, fn_16, rfl, by kernel_rfl⟩ fun args H rs H2 hc => ?_
  obtain ⟨a1, b2, r3, r4, h, rfl, rfl, hx⟩ := chC_some hc
  cases hx
  exact g_F16 s20 rfl (fun l1 r2 h => q_F34 l1 r2 h) (fun a1 b2 r3 r4 h => q_F33 a1 b2 r3 r4 h) (fun l1 r2 h => q_F35 l1 r2 h) a1 b2 r3 r4 h

noncomputable def k22 := (18, chC R_F18) :: k21

theorem s22 : Sound env (mkOrc pfn k22) := by
  refine Sound.cons s21 ⟨Tryz.f18, fn_18, rfl, by kernel_rfl⟩ fun args H rs H2 hc => ?_
  obtain ⟨r1, h, rfl, rfl, hx⟩ := chC_some hc
  cases hx
  exact g_F18 s21 rfl r1 h

noncomputable def k23 := (37, chC R_F37) :: k22

theorem s23 : Sound env (mkOrc pfn k23) := by
  refine Sound.cons s22 ⟨Tryz.f37, fn_37, rfl, by kernel_rfl⟩ fun args H rs H2 hc => ?_
  obtain ⟨s1, r2, r3, h, rfl, rfl, hx⟩ := chC_some hc
  cases hx
  exact g_F37 s22 rfl (fun s n bad h => q_L_Atoi s n bad h) (fun n s h => q_L_Itoa n s h) s1 r2 r3 h

noncomputable def k24 := (71, chC R_F71) :: k23

theorem s24 : Sound env (mkOrc pfn k24) := by
  refine Sound.cons s23 ⟨Tryz.f71, fn_71, rfl, by kernel_rfl⟩ fun args H rs H2 hc => ?_
  obtain ⟨g1, x2, r3, h, rfl, rfl, hx⟩ := chC_some hc
  cases hx
  exact g_F71 s23 rfl g1 x2 r3 h

noncomputable def k25 := (70, chC R_F70) :: k24

theorem s25 : Sound env (mkOrc pfn k25) := by
  refine Sound.cons s24 ⟨Tryz.f70, fn_70, rfl, by kernel_rfl⟩ fun args H rs H2 hc => ?_
  obtain ⟨s1, x2, r3, h, rfl, rfl, hx⟩ := chC_some hc
  cases hx
  exact g_F70 s24 rfl (fun g1 x2 r3 h => q_F71 g1 x2 r3 h) s1 x2 r3 h

noncomputable def k26 := (56, chC R_F56) :: k25

theorem s26 : Sound env (mkOrc pfn k26) := by
  refine Sound.cons s25 ⟨Tryz.f56, fn_56, rfl, by kernel_rfl⟩ fun args H rs H2 hc => ?_
  obtain ⟨l1, group2, r3, h, rfl, rfl, hx⟩ := chC_some hc
  cases hx
  exact g_F56 s25 rfl (fun s1 x2 r3 h => q_F70 s1 x2 r3 h) l1 group2 r3 h

noncomputable def k27 := (73, chC R_F73) :: k26

theorem s27 : Sound env (mkOrc pfn k27) := by
  refine Sound.cons s26 ⟨Tryz.f73, fn_73, rfl, by kernel_rfl⟩ fun args H rs H2 hc => ?_
  obtain ⟨v1, x2, r3, h, rfl, rfl, hx⟩ := chC_some hc
  cases hx
  exact g_F73 s26 rfl v1 x2 r3 h

noncomputable def k28 := (72, chC R_F72) :: k27

theorem s28 : Sound env (mkOrc pfn k28) := by
  refine Sound.cons s27 ⟨Tryz.f72, fn_72, rfl, by kernel_rfl⟩ fun args H rs H2 hc => ?_
  obtain ⟨s1, x2, r3, h, rfl, rfl, hx⟩ := chC_some hc
  cases hx
  exact g_F72 s27 rfl (fun v1 x2 r3 h => q_F73 v1 x2 r3 h) s1 x2 r3 h

noncomputable def k29 := (57, chC R_F57) :: k28

theorem s29 : Sound env (mkOrc pfn k29) := by
  refine Sound.cons s28 ⟨Tryz.f57, fn_57, rfl, by kernel_rfl⟩ fun args H rs H2 hc => ?_
  obtain ⟨g1, name2, r3, h, rfl, rfl, hx⟩ := chC_some hc
  cases hx
  exact g_F57 s28 rfl (fun s1 x2 r3 h => q_F72 s1 x2 r3 h) g1 name2 r3 h

noncomputable def k30 := (42, chC R_F42) :: k29

theorem s30 : Sound env (mkOrc pfn k30) := by
  refine Sound.cons s29 ⟨Tryz.f42, fn_42, rfl, by kernel_rfl⟩ fun args H rs H2 hc => ?_
  obtain ⟨l1, group2, name3, r4, r5, h, rfl, rfl, hx⟩ := chC_some hc
  cases hx
  exact g_F42 s29 rfl (fun l1 group2 r3 h => q_F56 l1 group2 r3 h) (fun g1 name2 r3 h => q_F57 g1 name2 r3 h) (fun xs l h => q_L_Clone xs l h) l1 group2 name3 r4 r5 h

noncomputable def k31 := (26, chC R_F26) :: k30

theorem s31 : Sound env (mkOrc pfn k31) := by
  refine Sound.cons s30 ⟨Tryz.f26, fn_26, rfl, by kernel_rfl⟩ fun args H rs H2 hc => ?_
  obtain ⟨l1, group2, name3, r4, h, rfl, rfl, hx⟩ := chC_some hc
  cases hx
  exact g_F26 s30 rfl (fun s1 r2 r3 h => q_F37 s1 r2 r3 h) (fun l1 group2 name3 r4 r5 h => q_F42 l1 group2 name3 r4 r5 h) l1 group2 name3 r4 h

noncomputable def k32 := (48, chC R_F48) :: k31

theorem s32 : Sound env (mkOrc pfn k32) := by
  refine Sound.cons s31 ⟨Tryz.f48, fn_48, rfl, by kernel_rfl⟩ fun args H rs H2 hc => ?_
  obtain ⟨l1, r2, h, rfl, rfl, hx⟩ := chC_some hc
  cases hx
  exact g_F48 s31 rfl (fun s n t h => q_L_Repeat s n t h) l1 r2 h

noncomputable def k33 := (19, chC R_F19) :: k32

theorem s33 : Sound env (mkOrc pfn k33) := by
  refine Sound.cons s32 ⟨Tryz.f19, fn_19, rfl, by kernel_rfl⟩ fun args H rs H2 hc => ?_
  obtain ⟨l1, idx2, r3, r4, h, rfl, rfl, hx⟩ := chC_some hc
  cases hx
  exact g_F19 s32 rfl (fun s1 r2 r3 h => q_F37 s1 r2 r3 h) l1 idx2 r3 r4 h

noncomputable def rest36 : Nat → List (FuncId × (List AV → List AObj → Option (List AV × List AObj)))
  | 0 => k33
  | n + 1 => (51, chC (R_F51 (K36 n))) :: (50, chC (R_F50 (K36 n))) :: (36, chC (R_w36 (K36 n))) :: rest36 n

theorem rest36_C (f : FuncId) (h36 : (36 == f) = false) (h50 : (50 == f) = false) (h51 : (51 == f) = false) : ∀ n, (mkOrc pfn (rest36 n)).C f = (mkOrc pfn k33).C f
  | 0 => rfl
  | n + 1 => by
    rw [← rest36_C f h36 h50 h51 n]
    funext args H
    simp [mkOrc, rest36, List.find?_cons, h36, h50, h51]

theorem rs36 : ∀ n, Sound env (mkOrc pfn ((36, chC (R_w36 (K36 n))) :: rest36 n))
  | 0 => Sound.cons (cl := rest36 0) s33 ⟨Tryz.f36, fn_36, rfl, by kernel_rfl⟩ fun args H rs H2 hc => by
    obtain ⟨a0, a1, a2, r0, r1, h, rfl, rfl, hx⟩ := chC_some hc
    cases h
  | kn + 1 => by
    have hs := rs36 kn
    have hF50 := Sound.cons (c := chC (R_F50 (K36 kn))) hs ⟨Tryz.f50, fn_50, rfl, by kernel_rfl⟩ fun args H rs H2 hc => by
        obtain ⟨l1, group2, words3, r4, r5, h, rfl, rfl, hx⟩ := chC_some hc
        cases hx
        exact g_F50 hs rfl (K36 kn) (fun a0 a1 a2 r0 r1 h => q_w36 (K36 kn) a0 a1 a2 r0 r1 h) l1 group2 words3 r4 r5 h
    have hF51 := Sound.cons (c := chC (R_F51 (K36 kn))) hF50 ⟨Tryz.f51, fn_51, rfl, by kernel_rfl⟩ fun args H rs H2 hc => by
        obtain ⟨l1, group2, words3, r4, r5, h, rfl, rfl, hx⟩ := chC_some hc
        cases hx
        exact g_F51 hF50 rfl (K36 kn) (fun a0 a1 a2 r0 r1 h => q_w36 (K36 kn) a0 a1 a2 r0 r1 h) (fun a1 b2 r3 r4 h => (congrFun (congrFun (rest36_C 33 rfl rfl rfl kn) _) _).trans (q_F33 a1 b2 r3 r4 h)) l1 group2 words3 r4 r5 h
    refine Sound.cons (c := chC (R_w36 (K36 (kn + 1)))) hF51 ⟨Tryz.f36, fn_36, rfl, by kernel_rfl⟩ fun args H rs H2 hc => ?_
    obtain ⟨l1, group2, w3, r4, r5, h, rfl, rfl, hx⟩ := chC_some hc
    cases hx
    exact g_F36 hF51 rfl (K36 kn) (fun l1 group2 name3 r4 h => (congrFun (congrFun (rest36_C 26 rfl rfl rfl kn) _) _).trans (q_F26 l1 group2 name3 r4 h)) (fun l1 r2 h => (congrFun (congrFun (rest36_C 48 rfl rfl rfl kn) _) _).trans (q_F48 l1 r2 h)) (fun n s h => (congrFun (congrFun (rest36_C 49 rfl rfl rfl kn) _) _).trans (q_L_Itoa n s h)) (fun l1 group2 words3 r4 r5 h => q_F50 (K36 kn) l1 group2 words3 r4 r5 h) (fun l1 r2 h => (congrFun (congrFun (rest36_C 35 rfl rfl rfl kn) _) _).trans (q_F35 l1 r2 h)) (fun l1 idx2 r3 r4 h => (congrFun (congrFun (rest36_C 19 rfl rfl rfl kn) _) _).trans (q_F19 l1 idx2 r3 r4 h)) (fun l1 group2 words3 r4 r5 h => q_F51 (K36 kn) l1 group2 words3 r4 r5 h) l1 group2 w3 r4 r5 h

noncomputable def k34 := (36, chC (R_w36 (K36 BIG))) :: k33

theorem s34 : Sound env (mkOrc pfn k34) :=
  Sound.cons s33 ⟨Tryz.f36, fn_36, rfl, by kernel_rfl⟩ fun args H rs H2 hc => (rs36 BIG 36 args H rs H2 hc).1

noncomputable def k35 := (17, chC R_F17) :: k34

theorem s35 : Sound env (mkOrc pfn k35) := by
  refine Sound.cons s34 ⟨Tryz.f17, fn_17, rfl, by kernel_rfl⟩ fun args H rs H2 hc => ?_
  obtain ⟨l1, group2, w3, r4, r5, r6, h, rfl, rfl, hx⟩ := chC_some hc
  cases hx
  exact g_F17 s34 rfl (fun l1 group2 w3 r4 r5 h => q_w36 (K36 BIG) l1 group2 w3 r4 r5 h) (fun l1 r2 h => q_F35 l1 r2 h) l1 group2 w3 r4 r5 r6 h

noncomputable def k36 := (23, chC R_F23) :: k35

theorem s36 : Sound env (mkOrc pfn k36) := by
  refine Sound.cons s35 ⟨Tryz.f23, fn_23, rfl, by kernel_rfl⟩ fun args H rs H2 hc => ?_
  obtain ⟨c1, r2, h, rfl, rfl, hx⟩ := chC_some hc
  cases hx
  exact g_F23 s35 rfl c1 r2 h

noncomputable def k37 := (40, chC R_F40) :: k36

theorem s37 : Sound env (mkOrc pfn k37) := by
  refine Sound.cons s36 ⟨Tryz.f40, fn_40, rfl, by kernel_rfl⟩ fun args H rs H2 hc => ?_
  obtain ⟨s1, prefix2, r3, h, rfl, rfl, hx⟩ := chC_some hc
  cases hx
  exact g_F40 s36 rfl s1 prefix2 r3 h

noncomputable def k38 := (24, chC R_F24) :: k37

theorem s38 : Sound env (mkOrc pfn k38) := by
  refine Sound.cons s37 ⟨Tryz.f24, fn_24, rfl, by kernel_rfl⟩ fun args H rs H2 hc => ?_
  obtain ⟨s1, prefix2, r3, h, rfl, rfl, hx⟩ := chC_some hc
  cases hx
  exact g_F24 s37 rfl (fun s1 prefix2 r3 h => q_F40 s1 prefix2 r3 h) s1 prefix2 r3 h

noncomputable def k39 := (43, chC R_F43) :: k38

theorem s39 : Sound env (mkOrc pfn k39) := by
  refine Sound.cons s38 ⟨Tryz.f43, fn_43, rfl, by kernel_rfl⟩ fun args H rs H2 hc => ?_
  obtain ⟨s1, prefix2, r3, h, rfl, rfl, hx⟩ := chC_some hc
  cases hx
  exact g_F43 s38 rfl (fun s1 prefix2 r3 h => q_F40 s1 prefix2 r3 h) s1 prefix2 r3 h

noncomputable def k40 := (27, chC R_F27) :: k39

theorem s40 : Sound env (mkOrc pfn k40) := by
  refine Sound.cons s39 ⟨Tryz.f27, fn_27, rfl, by kernel_rfl⟩ fun args H rs H2 hc => ?_
  obtain ⟨s1, prefix2, r3, h, rfl, rfl, hx⟩ := chC_some hc
  cases hx
  exact g_F27 s39 rfl (fun s1 prefix2 r3 h => q_F43 s1 prefix2 r3 h) s1 prefix2 r3 h

noncomputable def k41 := (7, chC R_F7) :: k40

theorem s41 : Sound env (mkOrc pfn k41) := by
  refine Sound.cons s40 ⟨Tryz.f7, fn_7, rfl, by kernel_rfl⟩ fun args H rs H2 hc => ?_
  obtain ⟨l1, group2, s3, r4, r5, h, rfl, rfl, hx⟩ := chC_some hc
  cases hx
  exact g_F7 s40 rfl (fun b n h => q_L_Len b n h) (fun s sep a b ok h => q_L_Cut s sep a b ok h) (fun b s n c h => q_L_WriteString b s n c h) (fun c1 r2 h => q_F23 c1 r2 h) (fun s1 prefix2 r3 h => q_F24 s1 prefix2 r3 h) (fun l1 group2 name3 r4 h => q_F26 l1 group2 name3 r4 h) (fun xs sep s h => q_L_Join xs sep s h) (fun s1 prefix2 r3 h => q_F27 s1 prefix2 r3 h) (fun b s h => q_L_String b s h) l1 group2 s3 r4 r5 h

noncomputable def k42 := (9, chC R_F9) :: k41

theorem s42 : Sound env (mkOrc pfn k42) := by
  refine Sound.cons s41 ⟨Tryz.f9, fn_9, rfl, by kernel_rfl⟩ fun args H rs H2 hc => ?_
  obtain ⟨a1, b2, r3, h, rfl, rfl, hx⟩ := chC_some hc
  cases hx
  exact g_F9 s41 rfl a1 b2 r3 h

noncomputable def k43 := (10, chC R_F10) :: k42

theorem s43 : Sound env (mkOrc pfn k43) := by
  refine Sound.cons s42 ⟨Tryz.f10, fn_10, rfl, by kernel_rfl⟩ fun args H rs H2 hc => ?_
  obtain ⟨s1, ifs2, r3, h, rfl, rfl, hx⟩ := chC_some hc
  cases hx
  exact g_F10 s42 rfl (fun s c n h => q_L_IndexByte s c n h) s1 ifs2 r3 h

noncomputable def k44 := (6, chC R_F6) :: k43

theorem s44 : Sound env (mkOrc pfn k44) := by
  refine Sound.cons s43 ⟨Tryz.f6, fn_6, rfl, by kernel_rfl⟩ fun args H rs H2 hc => ?_
  obtain ⟨r1, h, rfl, rfl, hx⟩ := chC_some hc
  cases hx
  exact g_F6 s43 rfl (fun a1 b2 r3 r4 h => q_F16 a1 b2 r3 r4 h) (fun r1 h => q_F18 r1 h) (fun l1 group2 w3 r4 r5 r6 h => q_F17 l1 group2 w3 r4 r5 r6 h) (fun l1 idx2 r3 r4 h => q_F19 l1 idx2 r3 r4 h) (fun l1 group2 s3 r4 r5 h => q_F7 l1 group2 s3 r4 r5 h) (fun a1 b2 r3 h => q_F9 a1 b2 r3 h) (fun s1 ifs2 r3 h => q_F10 s1 ifs2 r3 h) r1 h

noncomputable def k45 := (29, chC R_F29) :: k44

theorem s45 : Sound env (mkOrc pfn k45) := by
  refine Sound.cons s44 ⟨Tryz.f29, fn_29, rfl, by kernel_rfl⟩ fun args H rs H2 hc => ?_
  obtain ⟨c1, r2, h, rfl, rfl, hx⟩ := chC_some hc
  cases hx
  exact g_F29 s44 rfl c1 r2 h

noncomputable def k46 := (44, chC R_F44) :: k45

theorem s46 : Sound env (mkOrc pfn k46) := by
  refine Sound.cons s45 ⟨Tryz.f44, fn_44, rfl, by kernel_rfl⟩ fun args H rs H2 hc => ?_
  obtain ⟨s1, r2, r3, h, rfl, rfl, hx⟩ := chC_some hc
  cases hx
  exact g_F44 s45 rfl s1 r2 r3 h

noncomputable def k47 := (59, chC R_F59) :: k46

theorem s47 : Sound env (mkOrc pfn k47) := by
  refine Sound.cons s46 ⟨Tryz.f59, fn_59, rfl, by kernel_rfl⟩ fun args H rs H2 hc => ?_
  obtain ⟨l1, group2, r3, h, rfl, rfl, hx⟩ := chC_some hc
  cases hx
  exact g_F59 s46 rfl l1 group2 r3 h

noncomputable def k48 := (60, chC R_F60) :: k47

theorem s48 : Sound env (mkOrc pfn k48) := by
  refine Sound.cons s47 ⟨Tryz.f60, fn_60, rfl, by kernel_rfl⟩ fun args H rs H2 hc => ?_
  obtain ⟨l1, r2, h, rfl, rfl, hx⟩ := chC_some hc
  cases hx
  exact g_F60 s47 rfl l1 r2 h

noncomputable def k49 := (45, chC R_F45) :: k48

theorem s49 : Sound env (mkOrc pfn k49) := by
  refine Sound.cons s48 ⟨Tryz.f45, fn_45, rfl, by kernel_rfl⟩ fun args H rs H2 hc => ?_
  obtain ⟨l1, group2, name3, r4, r5, h, rfl, rfl, hx⟩ := chC_some hc
  cases hx
  exact g_F45 s48 rfl (fun l1 group2 r3 h => q_F59 l1 group2 r3 h) (fun g1 name2 r3 h => q_F15 g1 name2 r3 h) (fun l1 r2 h => q_F60 l1 r2 h) l1 group2 name3 r4 r5 h

noncomputable def k50 := (30, chC R_F30) :: k49

theorem s50 : Sound env (mkOrc pfn k50) := by
  refine Sound.cons s49 ⟨Tryz.f30, fn_30, rfl, by kernel_rfl⟩ fun args H rs H2 hc => ?_
  obtain ⟨env1, group2, name3, r4, h, rfl, rfl, hx⟩ := chC_some hc
  cases hx
  exact g_F30 s49 rfl (fun s1 r2 r3 h => q_F44 s1 r2 r3 h) (fun l1 group2 name3 r4 r5 h => q_F45 l1 group2 name3 r4 r5 h) env1 group2 name3 r4 h

noncomputable def k51 := (8, chC R_F8) :: k50

theorem s51 : Sound env (mkOrc pfn k51) := by
  refine Sound.cons s50 ⟨Tryz.f8, fn_8, rfl, by kernel_rfl⟩ fun args H rs H2 hc => ?_
  obtain ⟨env1, group2, s3, r4, r5, h, rfl, rfl, hx⟩ := chC_some hc
  cases hx
  exact g_F8 s50 rfl (fun c1 r2 h => q_F29 c1 r2 h) (fun env1 group2 name3 r4 h => q_F30 env1 group2 name3 r4 h) env1 group2 s3 r4 r5 h

noncomputable def k52 := (32, chC R_F32) :: k51

theorem s52 : Sound env (mkOrc pfn k52) := by
  refine Sound.cons s51 ⟨Tryz.f32, fn_32, rfl, by kernel_rfl⟩ fun args H rs H2 hc => ?_
  obtain ⟨c1, s2, r3, h, rfl, rfl, hx⟩ := chC_some hc
  cases hx
  exact g_F32 s51 rfl c1 s2 r3 h

noncomputable def k53 := (11, chC R_F11) :: k52

theorem s53 : Sound env (mkOrc pfn k53) := by
  refine Sound.cons s52 ⟨Tryz.f11, fn_11, rfl, by kernel_rfl⟩ fun args H rs H2 hc => ?_
  obtain ⟨s1, ifs2, r3, h, rfl, rfl, hx⟩ := chC_some hc
  cases hx
  exact g_F11 s52 rfl (fun c1 s2 r3 h => q_F32 c1 s2 r3 h) s1 ifs2 r3 h

noncomputable def k54 := (3, chC R_F3) :: k53

theorem s54 : Sound env (mkOrc pfn k54) := by
  refine Sound.cons s53 ⟨Tryz.f3, fn_3, rfl, by kernel_rfl⟩ fun args H rs H2 hc => ?_
  obtain ⟨l1, s2, ifs3, r4, h, rfl, rfl, hx⟩ := chC_some hc
  cases hx
  exact g_F3 s53 rfl (fun l1 r2 h => q_F4 l1 r2 h) (fun l1 r2 h => q_F5 l1 r2 h) (fun r1 h => q_F6 r1 h) (fun l1 group2 s3 r4 r5 h => q_F7 l1 group2 s3 r4 r5 h) (fun env1 group2 s3 r4 r5 h => q_F8 env1 group2 s3 r4 r5 h) (fun s1 ifs2 r3 h => q_F10 s1 ifs2 r3 h) (fun s1 ifs2 r3 h => q_F11 s1 ifs2 r3 h) (fun a1 b2 r3 h => q_F9 a1 b2 r3 h) l1 s2 ifs3 r4 h

theorem good_F3 (l1 : List GEnv) (s2 : Str) (ifs3 : Str) (h : F3 l1 s2 ifs3 = some true) : Good env 3 [.pv (.slice (List.map GEnv.pv l1)), .pv (.str s2), .pv (.str ifs3)] [] [.pv (.bool true)] [] := (s54 3 _ _ _ _ (q_F3 l1 s2 ifs3 true h)).1

end Go.Abs.U5Z
