/- The layer 47 laws: all of the functions together. -/
import Derived.Test.YtdmihmnegakgbaaGreatDoorLG
import Derived.Test.YtdmihmnegakgbaaGreatDoorW1
import Derived.Test.YtdmihmnegakgbaaGreatDoorW2
import Derived.Test.YtdmihmnegakgbaaGreatDoorW3
import Derived.Test.YtdmihmnegakgbaaGreatDoorW4
set_option linter.unusedVariables false
set_option linter.unusedSimpArgs false
namespace Go.Abs.U47
open Go.RowKit Go.Proofs

def R_L_IndexByte : List AV → List AObj → List AV × List AObj → Prop := fun args H x => ∃ (s : Str) (c : Int) (n : Int), L_IndexByte s c = some n ∧ args = [.pv (.str s), .pv (.int .u8 c)] ∧ H = [] ∧ x = ([.pv (.int .i64 n)], [])

theorem q_L_IndexByte (s : Str) (c : Int) (n : Int) (h : L_IndexByte s c = some n) : chC R_L_IndexByte [.pv (.str s), .pv (.int .u8 c)] [] = some ([.pv (.int .i64 n)], []) := by
  refine chC_eq ⟨s, c, n, h, rfl, rfl, rfl⟩ ?_
  rintro y ⟨sp, cp, np, hp, ha, hH, rfl⟩
  simp only [List.cons.injEq, AV.pv.injEq, AV.agg.injEq, AV.vec.injEq, and_true, true_and, and_assoc] at ha
  obtain ⟨ya0, ya1⟩ := ha
  have e_s := str_inj ya0
  have e_c := int_inj ya1
  subst e_s
  subst e_c
  rw [h] at hp
  cases hp
  rfl

def R_L_Join : List AV → List AObj → List AV × List AObj → Prop := fun args H x => ∃ (xs : List Str) (sep : Str) (s : Str), L_Join xs sep = some s ∧ args = [.pv (.slice (List.map PV.str xs)), .pv (.str sep)] ∧ H = [] ∧ x = ([.pv (.str s)], [])

theorem q_L_Join (xs : List Str) (sep : Str) (s : Str) (h : L_Join xs sep = some s) : chC R_L_Join [.pv (.slice (List.map PV.str xs)), .pv (.str sep)] [] = some ([.pv (.str s)], []) := by
  refine chC_eq ⟨xs, sep, s, h, rfl, rfl, rfl⟩ ?_
  rintro y ⟨xsp, sepp, sp, hp, ha, hH, rfl⟩
  simp only [List.cons.injEq, AV.pv.injEq, AV.agg.injEq, AV.vec.injEq, and_true, true_and, and_assoc] at ha
  obtain ⟨ya0, ya1⟩ := ha
  have e_xs := map_inj_of (fun _ _ => str_inj) (PV.slice.inj ya0)
  have e_sep := str_inj ya1
  subst e_xs
  subst e_sep
  rw [h] at hp
  cases hp
  rfl

def R_L_ReplaceAll : List AV → List AObj → List AV × List AObj → Prop := fun args H x => ∃ (s : Str) (a : Str) (b : Str) (t : Str), L_ReplaceAll s a b = some t ∧ args = [.pv (.str s), .pv (.str a), .pv (.str b)] ∧ H = [] ∧ x = ([.pv (.str t)], [])

theorem q_L_ReplaceAll (s : Str) (a : Str) (b : Str) (t : Str) (h : L_ReplaceAll s a b = some t) : chC R_L_ReplaceAll [.pv (.str s), .pv (.str a), .pv (.str b)] [] = some ([.pv (.str t)], []) := by
  refine chC_eq ⟨s, a, b, t, h, rfl, rfl, rfl⟩ ?_
  rintro y ⟨sp, ap, bp, tp, hp, ha, hH, rfl⟩
  simp only [List.cons.injEq, AV.pv.injEq, AV.agg.injEq, AV.vec.injEq, and_true, true_and, and_assoc] at ha
  obtain ⟨ya0, ya1, ya2⟩ := ha
  have e_s := str_inj ya0
  have e_a := str_inj ya1
  have e_b := str_inj ya2
  subst e_s
  subst e_a
  subst e_b
  rw [h] at hp
  cases hp
  rfl

def R_L_Cut : List AV → List AObj → List AV × List AObj → Prop := fun args H x => ∃ (s : Str) (sep : Str) (a : Str) (b : Str) (ok : Bool), L_Cut s sep = some (a, b, ok) ∧ args = [.pv (.str s), .pv (.str sep)] ∧ H = [] ∧ x = ([.pv (.str a), .pv (.str b), .pv (.bool ok)], [])

theorem q_L_Cut (s : Str) (sep : Str) (a : Str) (b : Str) (ok : Bool) (h : L_Cut s sep = some (a, b, ok)) : chC R_L_Cut [.pv (.str s), .pv (.str sep)] [] = some ([.pv (.str a), .pv (.str b), .pv (.bool ok)], []) := by
  refine chC_eq ⟨s, sep, a, b, ok, h, rfl, rfl, rfl⟩ ?_
  rintro y ⟨sp, sepp, ap, bp, okp, hp, ha, hH, rfl⟩
  simp only [List.cons.injEq, AV.pv.injEq, AV.agg.injEq, AV.vec.injEq, and_true, true_and, and_assoc] at ha
  obtain ⟨ya0, ya1⟩ := ha
  have e_s := str_inj ya0
  have e_sep := str_inj ya1
  subst e_s
  subst e_sep
  rw [h] at hp
  cases hp
  rfl

def R_L_WriteString : List AV → List AObj → List AV × List AObj → Prop := fun args H x => ∃ (b : Str) (s : Str) (n : Int) (c : Str), L_WriteString b s = some (n, c) ∧ args = [.ref 0 0, .pv (.str s)] ∧ H = [.bld b] ∧ x = ([.pv (.int .i64 n), .pv (.nil)], [.bld c])

theorem q_L_WriteString (b : Str) (s : Str) (n : Int) (c : Str) (h : L_WriteString b s = some (n, c)) : chC R_L_WriteString [.ref 0 0, .pv (.str s)] [.bld b] = some ([.pv (.int .i64 n), .pv (.nil)], [.bld c]) := by
  refine chC_eq ⟨b, s, n, c, h, rfl, rfl, rfl⟩ ?_
  rintro y ⟨bp, sp, np, cp, hp, ha, hH, rfl⟩
  simp only [List.cons.injEq, AV.pv.injEq, AV.agg.injEq, AV.vec.injEq, and_true, true_and, and_assoc] at ha
  have ya0 := ha
  have e_s := str_inj ya0
  simp only [List.cons.injEq, AObj.bld.injEq, AObj.map.injEq, AObj.row.injEq, AObj.var.injEq, AV.pv.injEq, AV.vec.injEq, and_true, true_and, and_assoc] at hH
  have yb0 := hH
  have e_b := yb0
  subst e_b
  subst e_s
  rw [h] at hp
  cases hp
  rfl

def R_L_String : List AV → List AObj → List AV × List AObj → Prop := fun args H x => ∃ (b : Str) (s : Str), L_String b = some s ∧ args = [.ref 0 0] ∧ H = [.bld b] ∧ x = ([.pv (.str s)], [.gone])

theorem q_L_String (b : Str) (s : Str) (h : L_String b = some s) : chC R_L_String [.ref 0 0] [.bld b] = some ([.pv (.str s)], [.gone]) := by
  refine chC_eq ⟨b, s, h, rfl, rfl, rfl⟩ ?_
  rintro y ⟨bp, sp, hp, ha, hH, rfl⟩
  simp only [List.cons.injEq, AObj.bld.injEq, AObj.map.injEq, AObj.row.injEq, AObj.var.injEq, AV.pv.injEq, AV.vec.injEq, and_true, true_and, and_assoc] at hH
  have yb0 := hH
  have e_b := yb0
  subst e_b
  rw [h] at hp
  cases hp
  rfl

def R_L_WriteByte : List AV → List AObj → List AV × List AObj → Prop := fun args H x => ∃ (b : Str) (c : Int) (d : Str), L_WriteByte b c = some d ∧ args = [.ref 0 0, .pv (.int .u8 c)] ∧ H = [.bld b] ∧ x = ([.pv (.nil)], [.bld d])

theorem q_L_WriteByte (b : Str) (c : Int) (d : Str) (h : L_WriteByte b c = some d) : chC R_L_WriteByte [.ref 0 0, .pv (.int .u8 c)] [.bld b] = some ([.pv (.nil)], [.bld d]) := by
  refine chC_eq ⟨b, c, d, h, rfl, rfl, rfl⟩ ?_
  rintro y ⟨bp, cp, dp, hp, ha, hH, rfl⟩
  simp only [List.cons.injEq, AV.pv.injEq, AV.agg.injEq, AV.vec.injEq, and_true, true_and, and_assoc] at ha
  have ya0 := ha
  have e_c := int_inj ya0
  simp only [List.cons.injEq, AObj.bld.injEq, AObj.map.injEq, AObj.row.injEq, AObj.var.injEq, AV.pv.injEq, AV.vec.injEq, and_true, true_and, and_assoc] at hH
  have yb0 := hH
  have e_b := yb0
  subst e_b
  subst e_c
  rw [h] at hp
  cases hp
  rfl

def R_L_Repeat : List AV → List AObj → List AV × List AObj → Prop := fun args H x => ∃ (s : Str) (n : Int) (t : Str), L_Repeat s n = some t ∧ args = [.pv (.str s), .pv (.int .i64 n)] ∧ H = [] ∧ x = ([.pv (.str t)], [])

theorem q_L_Repeat (s : Str) (n : Int) (t : Str) (h : L_Repeat s n = some t) : chC R_L_Repeat [.pv (.str s), .pv (.int .i64 n)] [] = some ([.pv (.str t)], []) := by
  refine chC_eq ⟨s, n, t, h, rfl, rfl, rfl⟩ ?_
  rintro y ⟨sp, np, tp, hp, ha, hH, rfl⟩
  simp only [List.cons.injEq, AV.pv.injEq, AV.agg.injEq, AV.vec.injEq, and_true, true_and, and_assoc] at ha
  obtain ⟨ya0, ya1⟩ := ha
  have e_s := str_inj ya0
  have e_n := int_inj ya1
  subst e_s
  subst e_n
  rw [h] at hp
  cases hp
  rfl

def R_L_Atoi : List AV → List AObj → List AV × List AObj → Prop := fun args H x => ∃ (s : Str) (n : Int) (bad : Bool), L_Atoi s = some (n, bad) ∧ args = [.pv (.str s)] ∧ H = [] ∧ x = ([.pv (.int .i64 n), .pv ((bif bad then PV.ifc else PV.nil))], [])

theorem q_L_Atoi (s : Str) (n : Int) (bad : Bool) (h : L_Atoi s = some (n, bad)) : chC R_L_Atoi [.pv (.str s)] [] = some ([.pv (.int .i64 n), .pv ((bif bad then PV.ifc else PV.nil))], []) := by
  refine chC_eq ⟨s, n, bad, h, rfl, rfl, rfl⟩ ?_
  rintro y ⟨sp, np, badp, hp, ha, hH, rfl⟩
  simp only [List.cons.injEq, AV.pv.injEq, AV.agg.injEq, AV.vec.injEq, and_true, true_and, and_assoc] at ha
  have ya0 := ha
  have e_s := str_inj ya0
  subst e_s
  rw [h] at hp
  cases hp
  rfl

def R_L_Itoa : List AV → List AObj → List AV × List AObj → Prop := fun args H x => ∃ (n : Int) (s : Str), L_Itoa n = some s ∧ args = [.pv (.int .i64 n)] ∧ H = [] ∧ x = ([.pv (.str s)], [])

theorem q_L_Itoa (n : Int) (s : Str) (h : L_Itoa n = some s) : chC R_L_Itoa [.pv (.int .i64 n)] [] = some ([.pv (.str s)], []) := by
  refine chC_eq ⟨n, s, h, rfl, rfl, rfl⟩ ?_
  rintro y ⟨np, sp, hp, ha, hH, rfl⟩
  simp only [List.cons.injEq, AV.pv.injEq, AV.agg.injEq, AV.vec.injEq, and_true, true_and, and_assoc] at ha
  have ya0 := ha
  have e_n := int_inj ya0
  subst e_n
  rw [h] at hp
  cases hp
  rfl

def R_F27 : List AV → List AObj → List AV × List AObj → Prop := fun args H x => ∃ (s1 : Str) (prefix2 : Str) (r3 : Bool), F27 s1 prefix2 = some r3 ∧ args = [.pv (.str s1), .pv (.str prefix2)] ∧ H = [] ∧ x = ([.pv (.bool r3)], [])

theorem q_F27 (s1 : Str) (prefix2 : Str) (r3 : Bool) (h : F27 s1 prefix2 = some r3) : chC R_F27 [.pv (.str s1), .pv (.str prefix2)] [] = some ([.pv (.bool r3)], []) := by
  refine chC_eq ⟨s1, prefix2, r3, h, rfl, rfl, rfl⟩ ?_
  rintro y ⟨s1p, prefix2p, r3p, hp, ha, hH, rfl⟩
  simp only [List.cons.injEq, AV.pv.injEq, AV.agg.injEq, AV.vec.injEq, and_true, true_and, and_assoc] at ha
  obtain ⟨ya0, ya1⟩ := ha
  have e_s1 := str_inj ya0
  have e_prefix2 := str_inj ya1
  subst e_s1
  subst e_prefix2
  rw [h] at hp
  cases hp
  rfl

def R_F15 : List AV → List AObj → List AV × List AObj → Prop := fun args H x => ∃ (s1 : Str) (prefix2 : Str) (r3 : Bool), F15 s1 prefix2 = some r3 ∧ args = [.pv (.str s1), .pv (.str prefix2)] ∧ H = [] ∧ x = ([.pv (.bool r3)], [])

theorem q_F15 (s1 : Str) (prefix2 : Str) (r3 : Bool) (h : F15 s1 prefix2 = some r3) : chC R_F15 [.pv (.str s1), .pv (.str prefix2)] [] = some ([.pv (.bool r3)], []) := by
  refine chC_eq ⟨s1, prefix2, r3, h, rfl, rfl, rfl⟩ ?_
  rintro y ⟨s1p, prefix2p, r3p, hp, ha, hH, rfl⟩
  simp only [List.cons.injEq, AV.pv.injEq, AV.agg.injEq, AV.vec.injEq, and_true, true_and, and_assoc] at ha
  obtain ⟨ya0, ya1⟩ := ha
  have e_s1 := str_inj ya0
  have e_prefix2 := str_inj ya1
  subst e_s1
  subst e_prefix2
  rw [h] at hp
  cases hp
  rfl

def R_F20 : List AV → List AObj → List AV × List AObj → Prop := fun args H x => ∃ (s1 : Str) (at2 : Int) (r3 : List Str) (r4 : List Int), F20 s1 at2 = some (r3, r4) ∧ args = [.pv (.str s1), .pv (.int .i64 at2)] ∧ H = [] ∧ x = ([.pv (.slice (List.map PV.str r3)), .pv (.slice (List.map (PV.int .i64) r4))], [])

theorem q_F20 (s1 : Str) (at2 : Int) (r3 : List Str) (r4 : List Int) (h : F20 s1 at2 = some (r3, r4)) : chC R_F20 [.pv (.str s1), .pv (.int .i64 at2)] [] = some ([.pv (.slice (List.map PV.str r3)), .pv (.slice (List.map (PV.int .i64) r4))], []) := by
  refine chC_eq ⟨s1, at2, r3, r4, h, rfl, rfl, rfl⟩ ?_
  rintro y ⟨s1p, at2p, r3p, r4p, hp, ha, hH, rfl⟩
  simp only [List.cons.injEq, AV.pv.injEq, AV.agg.injEq, AV.vec.injEq, and_true, true_and, and_assoc] at ha
  obtain ⟨ya0, ya1⟩ := ha
  have e_s1 := str_inj ya0
  have e_at2 := int_inj ya1
  subst e_s1
  subst e_at2
  rw [h] at hp
  cases hp
  rfl

def R_F21 : List AV → List AObj → List AV × List AObj → Prop := fun args H x => ∃ (s1 : List Str) (v2 : Str) (r3 : Int), F21 s1 v2 = some r3 ∧ args = [.pv (.slice (List.map PV.str s1)), .pv (.str v2)] ∧ H = [] ∧ x = ([.pv (.int .i64 r3)], [])

theorem q_F21 (s1 : List Str) (v2 : Str) (r3 : Int) (h : F21 s1 v2 = some r3) : chC R_F21 [.pv (.slice (List.map PV.str s1)), .pv (.str v2)] [] = some ([.pv (.int .i64 r3)], []) := by
  refine chC_eq ⟨s1, v2, r3, h, rfl, rfl, rfl⟩ ?_
  rintro y ⟨s1p, v2p, r3p, hp, ha, hH, rfl⟩
  simp only [List.cons.injEq, AV.pv.injEq, AV.agg.injEq, AV.vec.injEq, and_true, true_and, and_assoc] at ha
  obtain ⟨ya0, ya1⟩ := ha
  have e_s1 := map_inj_of (fun _ _ => str_inj) (PV.slice.inj ya0)
  have e_v2 := str_inj ya1
  subst e_s1
  subst e_v2
  rw [h] at hp
  cases hp
  rfl

def R_F8 : List AV → List AObj → List AV × List AObj → Prop := fun args H x => ∃ (s1 : Str) (at2 : Int) (end3 : Str) (r4 : Str) (r5 : Int) (r6 : Int), F8 s1 at2 end3 = some (r4, r5, r6) ∧ args = [.pv (.str s1), .pv (.int .i64 at2), .pv (.str end3)] ∧ H = [] ∧ x = ([.pv (.str r4), .pv (.int .i64 r5), .pv (.int .i64 r6)], [])

theorem q_F8 (s1 : Str) (at2 : Int) (end3 : Str) (r4 : Str) (r5 : Int) (r6 : Int) (h : F8 s1 at2 end3 = some (r4, r5, r6)) : chC R_F8 [.pv (.str s1), .pv (.int .i64 at2), .pv (.str end3)] [] = some ([.pv (.str r4), .pv (.int .i64 r5), .pv (.int .i64 r6)], []) := by
  refine chC_eq ⟨s1, at2, end3, r4, r5, r6, h, rfl, rfl, rfl⟩ ?_
  rintro y ⟨s1p, at2p, end3p, r4p, r5p, r6p, hp, ha, hH, rfl⟩
  simp only [List.cons.injEq, AV.pv.injEq, AV.agg.injEq, AV.vec.injEq, and_true, true_and, and_assoc] at ha
  obtain ⟨ya0, ya1, ya2⟩ := ha
  have e_s1 := str_inj ya0
  have e_at2 := int_inj ya1
  have e_end3 := str_inj ya2
  subst e_s1
  subst e_at2
  subst e_end3
  rw [h] at hp
  cases hp
  rfl

def R_F26x2 : List AV → List AObj → List AV × List AObj → Prop := fun args H x => ∃ (off1 : Int) (e2 : Int) (x3 : Str) (x4 : Int) (x5 : Int) (x6 : Int) (x7 : Int) (l8 : List Token) (l9 : List Str) (r10 : Bool) (x11 : Int) (x12 : Int), F26x2 off1 e2 x3 x4 x5 x6 x7 l8 l9 = some (r10, x11, x12) ∧ args = [.ref 0 0, .pv (.int .i64 off1), .pv (.int .i64 e2)] ∧ H = [.var [.pv (.str x3), .pv (.int .i64 x4), .vec 1 (List.length l8), .vec 2 (List.length l9), .pv (.int .i64 x5), .pv (.int .i64 x6), .pv (.int .i64 x7)], .row 32 4 (List.map Token.pv l8) true, .row 9 1 (List.map PV.str l9) true] ∧ x = ([.pv (.bool r10)], [.var [.pv (.str x3), .pv (.int .i64 x4), .vec 1 (List.length l8), .vec 2 (List.length l9), .pv (.int .i64 x5), .pv (.int .i64 x11), .pv (.int .i64 x12)], .row 32 4 (List.map Token.pv l8) true, .row 9 1 (List.map PV.str l9) true])

theorem q_F26x2 (off1 : Int) (e2 : Int) (x3 : Str) (x4 : Int) (x5 : Int) (x6 : Int) (x7 : Int) (l8 : List Token) (l9 : List Str) (r10 : Bool) (x11 : Int) (x12 : Int) (h : F26x2 off1 e2 x3 x4 x5 x6 x7 l8 l9 = some (r10, x11, x12)) : chC R_F26x2 [.ref 0 0, .pv (.int .i64 off1), .pv (.int .i64 e2)] [.var [.pv (.str x3), .pv (.int .i64 x4), .vec 1 (List.length l8), .vec 2 (List.length l9), .pv (.int .i64 x5), .pv (.int .i64 x6), .pv (.int .i64 x7)], .row 32 4 (List.map Token.pv l8) true, .row 9 1 (List.map PV.str l9) true] = some ([.pv (.bool r10)], [.var [.pv (.str x3), .pv (.int .i64 x4), .vec 1 (List.length l8), .vec 2 (List.length l9), .pv (.int .i64 x5), .pv (.int .i64 x11), .pv (.int .i64 x12)], .row 32 4 (List.map Token.pv l8) true, .row 9 1 (List.map PV.str l9) true]) := by
  refine chC_eq ⟨off1, e2, x3, x4, x5, x6, x7, l8, l9, r10, x11, x12, h, rfl, rfl, rfl⟩ ?_
  rintro y ⟨off1p, e2p, x3p, x4p, x5p, x6p, x7p, l8p, l9p, r10p, x11p, x12p, hp, ha, hH, rfl⟩
  simp only [List.cons.injEq, AV.pv.injEq, AV.agg.injEq, AV.vec.injEq, and_true, true_and, and_assoc] at ha
  obtain ⟨ya0, ya1⟩ := ha
  have e_off1 := int_inj ya0
  have e_e2 := int_inj ya1
  simp only [List.cons.injEq, AObj.bld.injEq, AObj.map.injEq, AObj.row.injEq, AObj.var.injEq, AV.pv.injEq, AV.vec.injEq, and_true, true_and, and_assoc] at hH
  obtain ⟨yb0, yb1, yb2, yb3, yb4, yb5, yb6, yb7, yb8⟩ := hH
  have e_x3 := str_inj yb0
  have e_x4 := int_inj yb1
  have e_x5 := int_inj yb4
  have e_x6 := int_inj yb5
  have e_x7 := int_inj yb6
  have e_l8 := map_inj_of (fun _ _ => Token.inj) yb7
  have e_l9 := map_inj_of (fun _ _ => str_inj) yb8
  subst e_off1
  subst e_e2
  subst e_x3
  subst e_x4
  subst e_x5
  subst e_x6
  subst e_x7
  subst e_l8
  subst e_l9
  rw [h] at hp
  cases hp
  rfl

def R_F25x1 : List AV → List AObj → List AV × List AObj → Prop := fun args H x => ∃ (t1 : Token) (x2 : Str) (x3 : Int) (x4 : Int) (x5 : Int) (x6 : Int) (l7 : List Token) (l8 : List Str) (r9 : Bool) (x10 : Int) (x11 : Int) (o12 : List Token), F25x1 t1 x2 x3 x4 x5 x6 l7 l8 = some (r9, x10, x11, o12) ∧ args = [.ref 0 0, .pv (.agg [.int .i64 t1.kind_, .int .i64 t1.at_, .str t1.text_, .str t1.quoted_])] ∧ H = [.var [.pv (.str x2), .pv (.int .i64 x3), .vec 1 (List.length l7), .vec 2 (List.length l8), .pv (.int .i64 x4), .pv (.int .i64 x5), .pv (.int .i64 x6)], .row 32 4 (List.map Token.pv l7) true, .row 9 1 (List.map PV.str l8) true] ∧ x = ([.pv (.bool r9)], [.var [.pv (.str x2), .pv (.int .i64 x3), .vec 1 (List.length o12), .vec 2 (List.length l8), .pv (.int .i64 x4), .pv (.int .i64 x10), .pv (.int .i64 x11)], .row 32 4 (List.map Token.pv o12) true, .row 9 1 (List.map PV.str l8) true])

theorem q_F25x1 (t1 : Token) (x2 : Str) (x3 : Int) (x4 : Int) (x5 : Int) (x6 : Int) (l7 : List Token) (l8 : List Str) (r9 : Bool) (x10 : Int) (x11 : Int) (o12 : List Token) (h : F25x1 t1 x2 x3 x4 x5 x6 l7 l8 = some (r9, x10, x11, o12)) : chC R_F25x1 [.ref 0 0, .pv (.agg [.int .i64 t1.kind_, .int .i64 t1.at_, .str t1.text_, .str t1.quoted_])] [.var [.pv (.str x2), .pv (.int .i64 x3), .vec 1 (List.length l7), .vec 2 (List.length l8), .pv (.int .i64 x4), .pv (.int .i64 x5), .pv (.int .i64 x6)], .row 32 4 (List.map Token.pv l7) true, .row 9 1 (List.map PV.str l8) true] = some ([.pv (.bool r9)], [.var [.pv (.str x2), .pv (.int .i64 x3), .vec 1 (List.length o12), .vec 2 (List.length l8), .pv (.int .i64 x4), .pv (.int .i64 x10), .pv (.int .i64 x11)], .row 32 4 (List.map Token.pv o12) true, .row 9 1 (List.map PV.str l8) true]) := by
  refine chC_eq ⟨t1, x2, x3, x4, x5, x6, l7, l8, r9, x10, x11, o12, h, rfl, rfl, rfl⟩ ?_
  rintro y ⟨t1p, x2p, x3p, x4p, x5p, x6p, l7p, l8p, r9p, x10p, x11p, o12p, hp, ha, hH, rfl⟩
  simp only [List.cons.injEq, AV.pv.injEq, AV.agg.injEq, AV.vec.injEq, and_true, true_and, and_assoc] at ha
  have ya0 := ha
  have e_t1 := Token.inj (x := t1) (y := t1p) ya0
  simp only [List.cons.injEq, AObj.bld.injEq, AObj.map.injEq, AObj.row.injEq, AObj.var.injEq, AV.pv.injEq, AV.vec.injEq, and_true, true_and, and_assoc] at hH
  obtain ⟨yb0, yb1, yb2, yb3, yb4, yb5, yb6, yb7, yb8⟩ := hH
  have e_x2 := str_inj yb0
  have e_x3 := int_inj yb1
  have e_x4 := int_inj yb4
  have e_x5 := int_inj yb5
  have e_x6 := int_inj yb6
  have e_l7 := map_inj_of (fun _ _ => Token.inj) yb7
  have e_l8 := map_inj_of (fun _ _ => str_inj) yb8
  subst e_t1
  subst e_x2
  subst e_x3
  subst e_x4
  subst e_x5
  subst e_x6
  subst e_l7
  subst e_l8
  rw [h] at hp
  cases hp
  rfl

def R_F12x2 : List AV → List AObj → List AV × List AObj → Prop := fun args H x => ∃ (x1 : Str) (x2 : Int) (x3 : Int) (x4 : Int) (x5 : Int) (l6 : List Token) (l7 : List Str) (r8 : Str), F12x2 x1 x2 x3 x4 x5 l6 l7 = some r8 ∧ args = [.ref 0 0] ∧ H = [.var [.pv (.str x1), .pv (.int .i64 x2), .vec 1 (List.length l6), .vec 2 (List.length l7), .pv (.int .i64 x3), .pv (.int .i64 x4), .pv (.int .i64 x5)], .row 32 4 (List.map Token.pv l6) true, .row 9 1 (List.map PV.str l7) true] ∧ x = ([.pv (.str r8)], [.var [.pv (.str x1), .pv (.int .i64 x2), .vec 1 (List.length l6), .vec 2 (List.length l7), .pv (.int .i64 x3), .pv (.int .i64 x4), .pv (.int .i64 x5)], .row 32 4 (List.map Token.pv l6) true, .row 9 1 (List.map PV.str l7) true])

theorem q_F12x2 (x1 : Str) (x2 : Int) (x3 : Int) (x4 : Int) (x5 : Int) (l6 : List Token) (l7 : List Str) (r8 : Str) (h : F12x2 x1 x2 x3 x4 x5 l6 l7 = some r8) : chC R_F12x2 [.ref 0 0] [.var [.pv (.str x1), .pv (.int .i64 x2), .vec 1 (List.length l6), .vec 2 (List.length l7), .pv (.int .i64 x3), .pv (.int .i64 x4), .pv (.int .i64 x5)], .row 32 4 (List.map Token.pv l6) true, .row 9 1 (List.map PV.str l7) true] = some ([.pv (.str r8)], [.var [.pv (.str x1), .pv (.int .i64 x2), .vec 1 (List.length l6), .vec 2 (List.length l7), .pv (.int .i64 x3), .pv (.int .i64 x4), .pv (.int .i64 x5)], .row 32 4 (List.map Token.pv l6) true, .row 9 1 (List.map PV.str l7) true]) := by
  refine chC_eq ⟨x1, x2, x3, x4, x5, l6, l7, r8, h, rfl, rfl, rfl⟩ ?_
  rintro y ⟨x1p, x2p, x3p, x4p, x5p, l6p, l7p, r8p, hp, ha, hH, rfl⟩
  simp only [List.cons.injEq, AObj.bld.injEq, AObj.map.injEq, AObj.row.injEq, AObj.var.injEq, AV.pv.injEq, AV.vec.injEq, and_true, true_and, and_assoc] at hH
  obtain ⟨yb0, yb1, yb2, yb3, yb4, yb5, yb6, yb7, yb8⟩ := hH
  have e_x1 := str_inj yb0
  have e_x2 := int_inj yb1
  have e_x3 := int_inj yb4
  have e_x4 := int_inj yb5
  have e_x5 := int_inj yb6
  have e_l6 := map_inj_of (fun _ _ => Token.inj) yb7
  have e_l7 := map_inj_of (fun _ _ => str_inj) yb8
  subst e_x1
  subst e_x2
  subst e_x3
  subst e_x4
  subst e_x5
  subst e_l6
  subst e_l7
  rw [h] at hp
  cases hp
  rfl

def R_F11x2 : List AV → List AObj → List AV × List AObj → Prop := fun args H x => ∃ (x1 : Str) (x2 : Int) (x3 : Int) (x4 : Int) (x5 : Int) (l6 : List Token) (l7 : List Str) (x8 : Int), F11x2 x1 x2 x3 x4 x5 l6 l7 = some x8 ∧ args = [.ref 0 0] ∧ H = [.var [.pv (.str x1), .pv (.int .i64 x2), .vec 1 (List.length l6), .vec 2 (List.length l7), .pv (.int .i64 x3), .pv (.int .i64 x4), .pv (.int .i64 x5)], .row 32 4 (List.map Token.pv l6) true, .row 9 1 (List.map PV.str l7) true] ∧ x = ([], [.var [.pv (.str x1), .pv (.int .i64 x8), .vec 1 (List.length l6), .vec 2 (List.length l7), .pv (.int .i64 x3), .pv (.int .i64 x4), .pv (.int .i64 x5)], .row 32 4 (List.map Token.pv l6) true, .row 9 1 (List.map PV.str l7) true])

theorem q_F11x2 (x1 : Str) (x2 : Int) (x3 : Int) (x4 : Int) (x5 : Int) (l6 : List Token) (l7 : List Str) (x8 : Int) (h : F11x2 x1 x2 x3 x4 x5 l6 l7 = some x8) : chC R_F11x2 [.ref 0 0] [.var [.pv (.str x1), .pv (.int .i64 x2), .vec 1 (List.length l6), .vec 2 (List.length l7), .pv (.int .i64 x3), .pv (.int .i64 x4), .pv (.int .i64 x5)], .row 32 4 (List.map Token.pv l6) true, .row 9 1 (List.map PV.str l7) true] = some ([], [.var [.pv (.str x1), .pv (.int .i64 x8), .vec 1 (List.length l6), .vec 2 (List.length l7), .pv (.int .i64 x3), .pv (.int .i64 x4), .pv (.int .i64 x5)], .row 32 4 (List.map Token.pv l6) true, .row 9 1 (List.map PV.str l7) true]) := by
  refine chC_eq ⟨x1, x2, x3, x4, x5, l6, l7, x8, h, rfl, rfl, rfl⟩ ?_
  rintro y ⟨x1p, x2p, x3p, x4p, x5p, l6p, l7p, x8p, hp, ha, hH, rfl⟩
  simp only [List.cons.injEq, AObj.bld.injEq, AObj.map.injEq, AObj.row.injEq, AObj.var.injEq, AV.pv.injEq, AV.vec.injEq, and_true, true_and, and_assoc] at hH
  obtain ⟨yb0, yb1, yb2, yb3, yb4, yb5, yb6, yb7, yb8⟩ := hH
  have e_x1 := str_inj yb0
  have e_x2 := int_inj yb1
  have e_x3 := int_inj yb4
  have e_x4 := int_inj yb5
  have e_x5 := int_inj yb6
  have e_l6 := map_inj_of (fun _ _ => Token.inj) yb7
  have e_l7 := map_inj_of (fun _ _ => str_inj) yb8
  subst e_x1
  subst e_x2
  subst e_x3
  subst e_x4
  subst e_x5
  subst e_l6
  subst e_l7
  rw [h] at hp
  cases hp
  rfl

def R_F14x1 : List AV → List AObj → List AV × List AObj → Prop := fun args H x => ∃ (x1 : Str) (x2 : Int) (x3 : Int) (x4 : Int) (x5 : Int) (l6 : List Token) (l7 : List Str) (tag8 : Bool) (r9 : Bool) (x10 : Int) (x11 : Int) (x12 : Int) (o13 : List Token), F14x1 x1 x2 x3 x4 x5 l6 l7 = some (tag8, r9, x10, x11, x12, o13) ∧ args = [.ref 0 0] ∧ H = [.var [.pv (.str x1), .pv (.int .i64 x2), .vec 1 (List.length l6), .vec 2 (List.length l7), .pv (.int .i64 x3), .pv (.int .i64 x4), .pv (.int .i64 x5)], .row 32 4 (List.map Token.pv l6) true, .row 9 1 (List.map PV.str l7) true] ∧ x = ([.pv (.bool r9)], (bif tag8 then [.var [.pv (.str x1), .pv (.int .i64 x10), .vec 1 (List.length o13), .nils, .pv (.int .i64 x3), .pv (.int .i64 x11), .pv (.int .i64 x12)], .row 32 4 (List.map Token.pv o13) true, .row 9 1 (List.map PV.str l7) true] else [.var [.pv (.str x1), .pv (.int .i64 x10), .vec 1 (List.length o13), .vec 2 (List.length l7), .pv (.int .i64 x3), .pv (.int .i64 x11), .pv (.int .i64 x12)], .row 32 4 (List.map Token.pv o13) true, .row 9 1 (List.map PV.str l7) true]))

theorem q_F14x1 (x1 : Str) (x2 : Int) (x3 : Int) (x4 : Int) (x5 : Int) (l6 : List Token) (l7 : List Str) (tag8 : Bool) (r9 : Bool) (x10 : Int) (x11 : Int) (x12 : Int) (o13 : List Token) (h : F14x1 x1 x2 x3 x4 x5 l6 l7 = some (tag8, r9, x10, x11, x12, o13)) : chC R_F14x1 [.ref 0 0] [.var [.pv (.str x1), .pv (.int .i64 x2), .vec 1 (List.length l6), .vec 2 (List.length l7), .pv (.int .i64 x3), .pv (.int .i64 x4), .pv (.int .i64 x5)], .row 32 4 (List.map Token.pv l6) true, .row 9 1 (List.map PV.str l7) true] = some ([.pv (.bool r9)], (bif tag8 then [.var [.pv (.str x1), .pv (.int .i64 x10), .vec 1 (List.length o13), .nils, .pv (.int .i64 x3), .pv (.int .i64 x11), .pv (.int .i64 x12)], .row 32 4 (List.map Token.pv o13) true, .row 9 1 (List.map PV.str l7) true] else [.var [.pv (.str x1), .pv (.int .i64 x10), .vec 1 (List.length o13), .vec 2 (List.length l7), .pv (.int .i64 x3), .pv (.int .i64 x11), .pv (.int .i64 x12)], .row 32 4 (List.map Token.pv o13) true, .row 9 1 (List.map PV.str l7) true])) := by
  refine chC_eq ⟨x1, x2, x3, x4, x5, l6, l7, tag8, r9, x10, x11, x12, o13, h, rfl, rfl, rfl⟩ ?_
  rintro y ⟨x1p, x2p, x3p, x4p, x5p, l6p, l7p, tag8p, r9p, x10p, x11p, x12p, o13p, hp, ha, hH, rfl⟩
  simp only [List.cons.injEq, AObj.bld.injEq, AObj.map.injEq, AObj.row.injEq, AObj.var.injEq, AV.pv.injEq, AV.vec.injEq, and_true, true_and, and_assoc] at hH
  obtain ⟨yb0, yb1, yb2, yb3, yb4, yb5, yb6, yb7, yb8⟩ := hH
  have e_x1 := str_inj yb0
  have e_x2 := int_inj yb1
  have e_x3 := int_inj yb4
  have e_x4 := int_inj yb5
  have e_x5 := int_inj yb6
  have e_l6 := map_inj_of (fun _ _ => Token.inj) yb7
  have e_l7 := map_inj_of (fun _ _ => str_inj) yb8
  subst e_x1
  subst e_x2
  subst e_x3
  subst e_x4
  subst e_x5
  subst e_l6
  subst e_l7
  rw [h] at hp
  cases hp
  rfl

def R_F47x1 : List AV → List AObj → List AV × List AObj → Prop := fun args H x => ∃ (x1 : Str) (x2 : Int) (x3 : Int) (x4 : Int) (x5 : Int) (l6 : List Token) (l7 : List Str) (r8 : Bool), F47x1 x1 x2 x3 x4 x5 l6 l7 = some r8 ∧ args = [.ref 0 0] ∧ H = [.var [.pv (.str x1), .pv (.int .i64 x2), .vec 1 (List.length l6), .vec 2 (List.length l7), .pv (.int .i64 x3), .pv (.int .i64 x4), .pv (.int .i64 x5)], .row 32 4 (List.map Token.pv l6) true, .row 9 1 (List.map PV.str l7) true] ∧ x = ([.pv (.bool r8)], [.var [.pv (.str x1), .pv (.int .i64 x2), .vec 1 (List.length l6), .vec 2 (List.length l7), .pv (.int .i64 x3), .pv (.int .i64 x4), .pv (.int .i64 x5)], .row 32 4 (List.map Token.pv l6) true, .row 9 1 (List.map PV.str l7) true])

theorem q_F47x1 (x1 : Str) (x2 : Int) (x3 : Int) (x4 : Int) (x5 : Int) (l6 : List Token) (l7 : List Str) (r8 : Bool) (h : F47x1 x1 x2 x3 x4 x5 l6 l7 = some r8) : chC R_F47x1 [.ref 0 0] [.var [.pv (.str x1), .pv (.int .i64 x2), .vec 1 (List.length l6), .vec 2 (List.length l7), .pv (.int .i64 x3), .pv (.int .i64 x4), .pv (.int .i64 x5)], .row 32 4 (List.map Token.pv l6) true, .row 9 1 (List.map PV.str l7) true] = some ([.pv (.bool r8)], [.var [.pv (.str x1), .pv (.int .i64 x2), .vec 1 (List.length l6), .vec 2 (List.length l7), .pv (.int .i64 x3), .pv (.int .i64 x4), .pv (.int .i64 x5)], .row 32 4 (List.map Token.pv l6) true, .row 9 1 (List.map PV.str l7) true]) := by
  refine chC_eq ⟨x1, x2, x3, x4, x5, l6, l7, r8, h, rfl, rfl, rfl⟩ ?_
  rintro y ⟨x1p, x2p, x3p, x4p, x5p, l6p, l7p, r8p, hp, ha, hH, rfl⟩
  simp only [List.cons.injEq, AObj.bld.injEq, AObj.map.injEq, AObj.row.injEq, AObj.var.injEq, AV.pv.injEq, AV.vec.injEq, and_true, true_and, and_assoc] at hH
  obtain ⟨yb0, yb1, yb2, yb3, yb4, yb5, yb6, yb7, yb8⟩ := hH
  have e_x1 := str_inj yb0
  have e_x2 := int_inj yb1
  have e_x3 := int_inj yb4
  have e_x4 := int_inj yb5
  have e_x5 := int_inj yb6
  have e_l6 := map_inj_of (fun _ _ => Token.inj) yb7
  have e_l7 := map_inj_of (fun _ _ => str_inj) yb8
  subst e_x1
  subst e_x2
  subst e_x3
  subst e_x4
  subst e_x5
  subst e_l6
  subst e_l7
  rw [h] at hp
  cases hp
  rfl

def R_F49x1 : List AV → List AObj → List AV × List AObj → Prop := fun args H x => ∃ (x1 : Str) (x2 : Int) (x3 : Int) (x4 : Int) (x5 : Int) (l6 : List Token) (l7 : List Str) (r8 : Str) (r9 : Bool) (x10 : Int) (x11 : Int) (x12 : Int), F49x1 x1 x2 x3 x4 x5 l6 l7 = some (r8, r9, x10, x11, x12) ∧ args = [.ref 0 0] ∧ H = [.var [.pv (.str x1), .pv (.int .i64 x2), .vec 1 (List.length l6), .vec 2 (List.length l7), .pv (.int .i64 x3), .pv (.int .i64 x4), .pv (.int .i64 x5)], .row 32 4 (List.map Token.pv l6) true, .row 9 1 (List.map PV.str l7) true] ∧ x = ([.pv (.str r8), .pv (.bool r9)], [.var [.pv (.str x1), .pv (.int .i64 x10), .vec 1 (List.length l6), .vec 2 (List.length l7), .pv (.int .i64 x3), .pv (.int .i64 x11), .pv (.int .i64 x12)], .row 32 4 (List.map Token.pv l6) true, .row 9 1 (List.map PV.str l7) true])

theorem q_F49x1 (x1 : Str) (x2 : Int) (x3 : Int) (x4 : Int) (x5 : Int) (l6 : List Token) (l7 : List Str) (r8 : Str) (r9 : Bool) (x10 : Int) (x11 : Int) (x12 : Int) (h : F49x1 x1 x2 x3 x4 x5 l6 l7 = some (r8, r9, x10, x11, x12)) : chC R_F49x1 [.ref 0 0] [.var [.pv (.str x1), .pv (.int .i64 x2), .vec 1 (List.length l6), .vec 2 (List.length l7), .pv (.int .i64 x3), .pv (.int .i64 x4), .pv (.int .i64 x5)], .row 32 4 (List.map Token.pv l6) true, .row 9 1 (List.map PV.str l7) true] = some ([.pv (.str r8), .pv (.bool r9)], [.var [.pv (.str x1), .pv (.int .i64 x10), .vec 1 (List.length l6), .vec 2 (List.length l7), .pv (.int .i64 x3), .pv (.int .i64 x11), .pv (.int .i64 x12)], .row 32 4 (List.map Token.pv l6) true, .row 9 1 (List.map PV.str l7) true]) := by
  refine chC_eq ⟨x1, x2, x3, x4, x5, l6, l7, r8, r9, x10, x11, x12, h, rfl, rfl, rfl⟩ ?_
  rintro y ⟨x1p, x2p, x3p, x4p, x5p, l6p, l7p, r8p, r9p, x10p, x11p, x12p, hp, ha, hH, rfl⟩
  simp only [List.cons.injEq, AObj.bld.injEq, AObj.map.injEq, AObj.row.injEq, AObj.var.injEq, AV.pv.injEq, AV.vec.injEq, and_true, true_and, and_assoc] at hH
  obtain ⟨yb0, yb1, yb2, yb3, yb4, yb5, yb6, yb7, yb8⟩ := hH
  have e_x1 := str_inj yb0
  have e_x2 := int_inj yb1
  have e_x3 := int_inj yb4
  have e_x4 := int_inj yb5
  have e_x5 := int_inj yb6
  have e_l6 := map_inj_of (fun _ _ => Token.inj) yb7
  have e_l7 := map_inj_of (fun _ _ => str_inj) yb8
  subst e_x1
  subst e_x2
  subst e_x3
  subst e_x4
  subst e_x5
  subst e_l6
  subst e_l7
  rw [h] at hp
  cases hp
  rfl

def R_F28x1 : List AV → List AObj → List AV × List AObj → Prop := fun args H x => ∃ (x1 : Str) (x2 : Int) (x3 : Int) (x4 : Int) (x5 : Int) (l6 : List Token) (l7 : List Str) (r8 : Str) (r9 : Str) (r10 : Bool) (x11 : Int) (x12 : Int) (x13 : Int), F28x1 x1 x2 x3 x4 x5 l6 l7 = some (r8, r9, r10, x11, x12, x13) ∧ args = [.ref 0 0] ∧ H = [.var [.pv (.str x1), .pv (.int .i64 x2), .vec 1 (List.length l6), .vec 2 (List.length l7), .pv (.int .i64 x3), .pv (.int .i64 x4), .pv (.int .i64 x5)], .row 32 4 (List.map Token.pv l6) true, .row 9 1 (List.map PV.str l7) true] ∧ x = ([.pv (.str r8), .pv (.str r9), .pv (.bool r10)], [.var [.pv (.str x1), .pv (.int .i64 x11), .vec 1 (List.length l6), .vec 2 (List.length l7), .pv (.int .i64 x3), .pv (.int .i64 x12), .pv (.int .i64 x13)], .row 32 4 (List.map Token.pv l6) true, .row 9 1 (List.map PV.str l7) true])

theorem q_F28x1 (x1 : Str) (x2 : Int) (x3 : Int) (x4 : Int) (x5 : Int) (l6 : List Token) (l7 : List Str) (r8 : Str) (r9 : Str) (r10 : Bool) (x11 : Int) (x12 : Int) (x13 : Int) (h : F28x1 x1 x2 x3 x4 x5 l6 l7 = some (r8, r9, r10, x11, x12, x13)) : chC R_F28x1 [.ref 0 0] [.var [.pv (.str x1), .pv (.int .i64 x2), .vec 1 (List.length l6), .vec 2 (List.length l7), .pv (.int .i64 x3), .pv (.int .i64 x4), .pv (.int .i64 x5)], .row 32 4 (List.map Token.pv l6) true, .row 9 1 (List.map PV.str l7) true] = some ([.pv (.str r8), .pv (.str r9), .pv (.bool r10)], [.var [.pv (.str x1), .pv (.int .i64 x11), .vec 1 (List.length l6), .vec 2 (List.length l7), .pv (.int .i64 x3), .pv (.int .i64 x12), .pv (.int .i64 x13)], .row 32 4 (List.map Token.pv l6) true, .row 9 1 (List.map PV.str l7) true]) := by
  refine chC_eq ⟨x1, x2, x3, x4, x5, l6, l7, r8, r9, r10, x11, x12, x13, h, rfl, rfl, rfl⟩ ?_
  rintro y ⟨x1p, x2p, x3p, x4p, x5p, l6p, l7p, r8p, r9p, r10p, x11p, x12p, x13p, hp, ha, hH, rfl⟩
  simp only [List.cons.injEq, AObj.bld.injEq, AObj.map.injEq, AObj.row.injEq, AObj.var.injEq, AV.pv.injEq, AV.vec.injEq, and_true, true_and, and_assoc] at hH
  obtain ⟨yb0, yb1, yb2, yb3, yb4, yb5, yb6, yb7, yb8⟩ := hH
  have e_x1 := str_inj yb0
  have e_x2 := int_inj yb1
  have e_x3 := int_inj yb4
  have e_x4 := int_inj yb5
  have e_x5 := int_inj yb6
  have e_l6 := map_inj_of (fun _ _ => Token.inj) yb7
  have e_l7 := map_inj_of (fun _ _ => str_inj) yb8
  subst e_x1
  subst e_x2
  subst e_x3
  subst e_x4
  subst e_x5
  subst e_l6
  subst e_l7
  rw [h] at hp
  cases hp
  rfl

def R_F16 : List AV → List AObj → List AV × List AObj → Prop := fun args H x => ∃ (x1 : Str) (x2 : Int) (x3 : Int) (x4 : Int) (x5 : Int) (l6 : List Token) (l7 : List Str) (r8 : Bool) (x9 : Int) (x10 : Int) (x11 : Int) (o12 : List Token) (o13 : List Str), F16 x1 x2 x3 x4 x5 l6 l7 = some (r8, x9, x10, x11, o12, o13) ∧ args = [.ref 0 0] ∧ H = [.var [.pv (.str x1), .pv (.int .i64 x2), .vec 1 (List.length l6), .vec 2 (List.length l7), .pv (.int .i64 x3), .pv (.int .i64 x4), .pv (.int .i64 x5)], .row 32 4 (List.map Token.pv l6) true, .row 9 1 (List.map PV.str l7) true] ∧ x = ([.pv (.bool r8)], [.var [.pv (.str x1), .pv (.int .i64 x9), .vec 1 (List.length o12), .vec 2 (List.length o13), .pv (.int .i64 x3), .pv (.int .i64 x10), .pv (.int .i64 x11)], .row 32 4 (List.map Token.pv o12) true, .row 9 1 (List.map PV.str o13) true])

theorem q_F16 (x1 : Str) (x2 : Int) (x3 : Int) (x4 : Int) (x5 : Int) (l6 : List Token) (l7 : List Str) (r8 : Bool) (x9 : Int) (x10 : Int) (x11 : Int) (o12 : List Token) (o13 : List Str) (h : F16 x1 x2 x3 x4 x5 l6 l7 = some (r8, x9, x10, x11, o12, o13)) : chC R_F16 [.ref 0 0] [.var [.pv (.str x1), .pv (.int .i64 x2), .vec 1 (List.length l6), .vec 2 (List.length l7), .pv (.int .i64 x3), .pv (.int .i64 x4), .pv (.int .i64 x5)], .row 32 4 (List.map Token.pv l6) true, .row 9 1 (List.map PV.str l7) true] = some ([.pv (.bool r8)], [.var [.pv (.str x1), .pv (.int .i64 x9), .vec 1 (List.length o12), .vec 2 (List.length o13), .pv (.int .i64 x3), .pv (.int .i64 x10), .pv (.int .i64 x11)], .row 32 4 (List.map Token.pv o12) true, .row 9 1 (List.map PV.str o13) true]) := by
  refine chC_eq ⟨x1, x2, x3, x4, x5, l6, l7, r8, x9, x10, x11, o12, o13, h, rfl, rfl, rfl⟩ ?_
  rintro y ⟨x1p, x2p, x3p, x4p, x5p, l6p, l7p, r8p, x9p, x10p, x11p, o12p, o13p, hp, ha, hH, rfl⟩
  simp only [List.cons.injEq, AObj.bld.injEq, AObj.map.injEq, AObj.row.injEq, AObj.var.injEq, AV.pv.injEq, AV.vec.injEq, and_true, true_and, and_assoc] at hH
  obtain ⟨yb0, yb1, yb2, yb3, yb4, yb5, yb6, yb7, yb8⟩ := hH
  have e_x1 := str_inj yb0
  have e_x2 := int_inj yb1
  have e_x3 := int_inj yb4
  have e_x4 := int_inj yb5
  have e_x5 := int_inj yb6
  have e_l6 := map_inj_of (fun _ _ => Token.inj) yb7
  have e_l7 := map_inj_of (fun _ _ => str_inj) yb8
  subst e_x1
  subst e_x2
  subst e_x3
  subst e_x4
  subst e_x5
  subst e_l6
  subst e_l7
  rw [h] at hp
  cases hp
  rfl

def R_F29 : List AV → List AObj → List AV × List AObj → Prop := fun args H x => ∃ (x1 : Str) (x2 : Int) (x3 : Int) (x4 : Int) (x5 : Int) (l6 : List Token) (l7 : List Str) (r8 : Bool), F29 x1 x2 x3 x4 x5 l6 l7 = some r8 ∧ args = [.ref 0 0] ∧ H = [.var [.pv (.str x1), .pv (.int .i64 x2), .vec 1 (List.length l6), .vec 2 (List.length l7), .pv (.int .i64 x3), .pv (.int .i64 x4), .pv (.int .i64 x5)], .row 32 4 (List.map Token.pv l6) true, .row 9 1 (List.map PV.str l7) true] ∧ x = ([.pv (.bool r8)], [.var [.pv (.str x1), .pv (.int .i64 x2), .vec 1 (List.length l6), .vec 2 (List.length l7), .pv (.int .i64 x3), .pv (.int .i64 x4), .pv (.int .i64 x5)], .row 32 4 (List.map Token.pv l6) true, .row 9 1 (List.map PV.str l7) true])

theorem q_F29 (x1 : Str) (x2 : Int) (x3 : Int) (x4 : Int) (x5 : Int) (l6 : List Token) (l7 : List Str) (r8 : Bool) (h : F29 x1 x2 x3 x4 x5 l6 l7 = some r8) : chC R_F29 [.ref 0 0] [.var [.pv (.str x1), .pv (.int .i64 x2), .vec 1 (List.length l6), .vec 2 (List.length l7), .pv (.int .i64 x3), .pv (.int .i64 x4), .pv (.int .i64 x5)], .row 32 4 (List.map Token.pv l6) true, .row 9 1 (List.map PV.str l7) true] = some ([.pv (.bool r8)], [.var [.pv (.str x1), .pv (.int .i64 x2), .vec 1 (List.length l6), .vec 2 (List.length l7), .pv (.int .i64 x3), .pv (.int .i64 x4), .pv (.int .i64 x5)], .row 32 4 (List.map Token.pv l6) true, .row 9 1 (List.map PV.str l7) true]) := by
  refine chC_eq ⟨x1, x2, x3, x4, x5, l6, l7, r8, h, rfl, rfl, rfl⟩ ?_
  rintro y ⟨x1p, x2p, x3p, x4p, x5p, l6p, l7p, r8p, hp, ha, hH, rfl⟩
  simp only [List.cons.injEq, AObj.bld.injEq, AObj.map.injEq, AObj.row.injEq, AObj.var.injEq, AV.pv.injEq, AV.vec.injEq, and_true, true_and, and_assoc] at hH
  obtain ⟨yb0, yb1, yb2, yb3, yb4, yb5, yb6, yb7, yb8⟩ := hH
  have e_x1 := str_inj yb0
  have e_x2 := int_inj yb1
  have e_x3 := int_inj yb4
  have e_x4 := int_inj yb5
  have e_x5 := int_inj yb6
  have e_l6 := map_inj_of (fun _ _ => Token.inj) yb7
  have e_l7 := map_inj_of (fun _ _ => str_inj) yb8
  subst e_x1
  subst e_x2
  subst e_x3
  subst e_x4
  subst e_x5
  subst e_l6
  subst e_l7
  rw [h] at hp
  cases hp
  rfl

def R_F67 : List AV → List AObj → List AV × List AObj → Prop := fun args H x => ∃ (s1 : Str) (r2 : Bool), F67 s1 = some r2 ∧ args = [.pv (.str s1)] ∧ H = [] ∧ x = ([.pv (.bool r2)], [])

theorem q_F67 (s1 : Str) (r2 : Bool) (h : F67 s1 = some r2) : chC R_F67 [.pv (.str s1)] [] = some ([.pv (.bool r2)], []) := by
  refine chC_eq ⟨s1, r2, h, rfl, rfl, rfl⟩ ?_
  rintro y ⟨s1p, r2p, hp, ha, hH, rfl⟩
  simp only [List.cons.injEq, AV.pv.injEq, AV.agg.injEq, AV.vec.injEq, and_true, true_and, and_assoc] at ha
  have ya0 := ha
  have e_s1 := str_inj ya0
  subst e_s1
  rw [h] at hp
  cases hp
  rfl

def R_F51 : List AV → List AObj → List AV × List AObj → Prop := fun args H x => ∃ (s1 : Str) (pair2 : Bool) (r3 : Int), F51 s1 pair2 = some r3 ∧ args = [.pv (.str s1), .pv (.bool pair2)] ∧ H = [] ∧ x = ([.pv (.int .i64 r3)], [])

theorem q_F51 (s1 : Str) (pair2 : Bool) (r3 : Int) (h : F51 s1 pair2 = some r3) : chC R_F51 [.pv (.str s1), .pv (.bool pair2)] [] = some ([.pv (.int .i64 r3)], []) := by
  refine chC_eq ⟨s1, pair2, r3, h, rfl, rfl, rfl⟩ ?_
  rintro y ⟨s1p, pair2p, r3p, hp, ha, hH, rfl⟩
  simp only [List.cons.injEq, AV.pv.injEq, AV.agg.injEq, AV.vec.injEq, and_true, true_and, and_assoc] at ha
  obtain ⟨ya0, ya1⟩ := ha
  have e_s1 := str_inj ya0
  have e_pair2 := bool_inj ya1
  subst e_s1
  subst e_pair2
  rw [h] at hp
  cases hp
  rfl

def R_F30 : List AV → List AObj → List AV × List AObj → Prop := fun args H x => ∃ (x1 : Str) (x2 : Int) (x3 : Int) (x4 : Int) (x5 : Int) (l6 : List Token) (l7 : List Str) (r8 : Str) (r9 : Bool) (x10 : Int) (x11 : Int), F30 x1 x2 x3 x4 x5 l6 l7 = some (r8, r9, x10, x11) ∧ args = [.ref 0 0] ∧ H = [.var [.pv (.str x1), .pv (.int .i64 x2), .vec 1 (List.length l6), .vec 2 (List.length l7), .pv (.int .i64 x3), .pv (.int .i64 x4), .pv (.int .i64 x5)], .row 32 4 (List.map Token.pv l6) true, .row 9 1 (List.map PV.str l7) true] ∧ x = ([.pv (.str r8), .pv (.bool r9)], [.var [.pv (.str x1), .pv (.int .i64 x2), .vec 1 (List.length l6), .vec 2 (List.length l7), .pv (.int .i64 x3), .pv (.int .i64 x10), .pv (.int .i64 x11)], .row 32 4 (List.map Token.pv l6) true, .row 9 1 (List.map PV.str l7) true])

theorem q_F30 (x1 : Str) (x2 : Int) (x3 : Int) (x4 : Int) (x5 : Int) (l6 : List Token) (l7 : List Str) (r8 : Str) (r9 : Bool) (x10 : Int) (x11 : Int) (h : F30 x1 x2 x3 x4 x5 l6 l7 = some (r8, r9, x10, x11)) : chC R_F30 [.ref 0 0] [.var [.pv (.str x1), .pv (.int .i64 x2), .vec 1 (List.length l6), .vec 2 (List.length l7), .pv (.int .i64 x3), .pv (.int .i64 x4), .pv (.int .i64 x5)], .row 32 4 (List.map Token.pv l6) true, .row 9 1 (List.map PV.str l7) true] = some ([.pv (.str r8), .pv (.bool r9)], [.var [.pv (.str x1), .pv (.int .i64 x2), .vec 1 (List.length l6), .vec 2 (List.length l7), .pv (.int .i64 x3), .pv (.int .i64 x10), .pv (.int .i64 x11)], .row 32 4 (List.map Token.pv l6) true, .row 9 1 (List.map PV.str l7) true]) := by
  refine chC_eq ⟨x1, x2, x3, x4, x5, l6, l7, r8, r9, x10, x11, h, rfl, rfl, rfl⟩ ?_
  rintro y ⟨x1p, x2p, x3p, x4p, x5p, l6p, l7p, r8p, r9p, x10p, x11p, hp, ha, hH, rfl⟩
  simp only [List.cons.injEq, AObj.bld.injEq, AObj.map.injEq, AObj.row.injEq, AObj.var.injEq, AV.pv.injEq, AV.vec.injEq, and_true, true_and, and_assoc] at hH
  obtain ⟨yb0, yb1, yb2, yb3, yb4, yb5, yb6, yb7, yb8⟩ := hH
  have e_x1 := str_inj yb0
  have e_x2 := int_inj yb1
  have e_x3 := int_inj yb4
  have e_x4 := int_inj yb5
  have e_x5 := int_inj yb6
  have e_l6 := map_inj_of (fun _ _ => Token.inj) yb7
  have e_l7 := map_inj_of (fun _ _ => str_inj) yb8
  subst e_x1
  subst e_x2
  subst e_x3
  subst e_x4
  subst e_x5
  subst e_l6
  subst e_l7
  rw [h] at hp
  cases hp
  rfl

def R_F31 : List AV → List AObj → List AV × List AObj → Prop := fun args H x => ∃ (t1 : Token) (touches2 : Bool) (x3 : Str) (x4 : Int) (x5 : Int) (x6 : Int) (x7 : Int) (l8 : List Token) (l9 : List Str) (r10 : Bool) (x11 : Int) (x12 : Int) (o13 : List Token), F31 t1 touches2 x3 x4 x5 x6 x7 l8 l9 = some (r10, x11, x12, o13) ∧ args = [.ref 0 0, .pv (.agg [.int .i64 t1.kind_, .int .i64 t1.at_, .str t1.text_, .str t1.quoted_]), .pv (.bool touches2)] ∧ H = [.var [.pv (.str x3), .pv (.int .i64 x4), .vec 1 (List.length l8), .vec 2 (List.length l9), .pv (.int .i64 x5), .pv (.int .i64 x6), .pv (.int .i64 x7)], .row 32 4 (List.map Token.pv l8) true, .row 9 1 (List.map PV.str l9) true] ∧ x = ([.pv (.bool r10)], [.var [.pv (.str x3), .pv (.int .i64 x4), .vec 1 (List.length o13), .vec 2 (List.length l9), .pv (.int .i64 x5), .pv (.int .i64 x11), .pv (.int .i64 x12)], .row 32 4 (List.map Token.pv o13) true, .row 9 1 (List.map PV.str l9) true])

theorem q_F31 (t1 : Token) (touches2 : Bool) (x3 : Str) (x4 : Int) (x5 : Int) (x6 : Int) (x7 : Int) (l8 : List Token) (l9 : List Str) (r10 : Bool) (x11 : Int) (x12 : Int) (o13 : List Token) (h : F31 t1 touches2 x3 x4 x5 x6 x7 l8 l9 = some (r10, x11, x12, o13)) : chC R_F31 [.ref 0 0, .pv (.agg [.int .i64 t1.kind_, .int .i64 t1.at_, .str t1.text_, .str t1.quoted_]), .pv (.bool touches2)] [.var [.pv (.str x3), .pv (.int .i64 x4), .vec 1 (List.length l8), .vec 2 (List.length l9), .pv (.int .i64 x5), .pv (.int .i64 x6), .pv (.int .i64 x7)], .row 32 4 (List.map Token.pv l8) true, .row 9 1 (List.map PV.str l9) true] = some ([.pv (.bool r10)], [.var [.pv (.str x3), .pv (.int .i64 x4), .vec 1 (List.length o13), .vec 2 (List.length l9), .pv (.int .i64 x5), .pv (.int .i64 x11), .pv (.int .i64 x12)], .row 32 4 (List.map Token.pv o13) true, .row 9 1 (List.map PV.str l9) true]) := by
  refine chC_eq ⟨t1, touches2, x3, x4, x5, x6, x7, l8, l9, r10, x11, x12, o13, h, rfl, rfl, rfl⟩ ?_
  rintro y ⟨t1p, touches2p, x3p, x4p, x5p, x6p, x7p, l8p, l9p, r10p, x11p, x12p, o13p, hp, ha, hH, rfl⟩
  simp only [List.cons.injEq, AV.pv.injEq, AV.agg.injEq, AV.vec.injEq, and_true, true_and, and_assoc] at ha
  obtain ⟨ya0, ya1⟩ := ha
  have e_t1 := Token.inj (x := t1) (y := t1p) ya0
  have e_touches2 := bool_inj ya1
  simp only [List.cons.injEq, AObj.bld.injEq, AObj.map.injEq, AObj.row.injEq, AObj.var.injEq, AV.pv.injEq, AV.vec.injEq, and_true, true_and, and_assoc] at hH
  obtain ⟨yb0, yb1, yb2, yb3, yb4, yb5, yb6, yb7, yb8⟩ := hH
  have e_x3 := str_inj yb0
  have e_x4 := int_inj yb1
  have e_x5 := int_inj yb4
  have e_x6 := int_inj yb5
  have e_x7 := int_inj yb6
  have e_l8 := map_inj_of (fun _ _ => Token.inj) yb7
  have e_l9 := map_inj_of (fun _ _ => str_inj) yb8
  subst e_t1
  subst e_touches2
  subst e_x3
  subst e_x4
  subst e_x5
  subst e_x6
  subst e_x7
  subst e_l8
  subst e_l9
  rw [h] at hp
  cases hp
  rfl

def R_F52 : List AV → List AObj → List AV × List AObj → Prop := fun args H x => ∃ (c1 : Int) (r2 : Bool), F52 c1 = some r2 ∧ args = [.pv (.int .u8 c1)] ∧ H = [] ∧ x = ([.pv (.bool r2)], [])

theorem q_F52 (c1 : Int) (r2 : Bool) (h : F52 c1 = some r2) : chC R_F52 [.pv (.int .u8 c1)] [] = some ([.pv (.bool r2)], []) := by
  refine chC_eq ⟨c1, r2, h, rfl, rfl, rfl⟩ ?_
  rintro y ⟨c1p, r2p, hp, ha, hH, rfl⟩
  simp only [List.cons.injEq, AV.pv.injEq, AV.agg.injEq, AV.vec.injEq, and_true, true_and, and_assoc] at ha
  have ya0 := ha
  have e_c1 := int_inj ya0
  subst e_c1
  rw [h] at hp
  cases hp
  rfl

def R_F32 : List AV → List AObj → List AV × List AObj → Prop := fun args H x => ∃ (x1 : Str) (x2 : Int) (x3 : Int) (x4 : Int) (x5 : Int) (l6 : List Token) (l7 : List Str) (r8 : Bool) (x9 : Int) (x10 : Int) (x11 : Int) (o12 : List Token), F32 x1 x2 x3 x4 x5 l6 l7 = some (r8, x9, x10, x11, o12) ∧ args = [.ref 0 0] ∧ H = [.var [.pv (.str x1), .pv (.int .i64 x2), .vec 1 (List.length l6), .vec 2 (List.length l7), .pv (.int .i64 x3), .pv (.int .i64 x4), .pv (.int .i64 x5)], .row 32 4 (List.map Token.pv l6) true, .row 9 1 (List.map PV.str l7) true] ∧ x = ([.pv (.bool r8)], [.var [.pv (.str x1), .pv (.int .i64 x9), .vec 1 (List.length o12), .vec 2 (List.length l7), .pv (.int .i64 x3), .pv (.int .i64 x10), .pv (.int .i64 x11)], .row 32 4 (List.map Token.pv o12) true, .row 9 1 (List.map PV.str l7) true])

theorem q_F32 (x1 : Str) (x2 : Int) (x3 : Int) (x4 : Int) (x5 : Int) (l6 : List Token) (l7 : List Str) (r8 : Bool) (x9 : Int) (x10 : Int) (x11 : Int) (o12 : List Token) (h : F32 x1 x2 x3 x4 x5 l6 l7 = some (r8, x9, x10, x11, o12)) : chC R_F32 [.ref 0 0] [.var [.pv (.str x1), .pv (.int .i64 x2), .vec 1 (List.length l6), .vec 2 (List.length l7), .pv (.int .i64 x3), .pv (.int .i64 x4), .pv (.int .i64 x5)], .row 32 4 (List.map Token.pv l6) true, .row 9 1 (List.map PV.str l7) true] = some ([.pv (.bool r8)], [.var [.pv (.str x1), .pv (.int .i64 x9), .vec 1 (List.length o12), .vec 2 (List.length l7), .pv (.int .i64 x3), .pv (.int .i64 x10), .pv (.int .i64 x11)], .row 32 4 (List.map Token.pv o12) true, .row 9 1 (List.map PV.str l7) true]) := by
  refine chC_eq ⟨x1, x2, x3, x4, x5, l6, l7, r8, x9, x10, x11, o12, h, rfl, rfl, rfl⟩ ?_
  rintro y ⟨x1p, x2p, x3p, x4p, x5p, l6p, l7p, r8p, x9p, x10p, x11p, o12p, hp, ha, hH, rfl⟩
  simp only [List.cons.injEq, AObj.bld.injEq, AObj.map.injEq, AObj.row.injEq, AObj.var.injEq, AV.pv.injEq, AV.vec.injEq, and_true, true_and, and_assoc] at hH
  obtain ⟨yb0, yb1, yb2, yb3, yb4, yb5, yb6, yb7, yb8⟩ := hH
  have e_x1 := str_inj yb0
  have e_x2 := int_inj yb1
  have e_x3 := int_inj yb4
  have e_x4 := int_inj yb5
  have e_x5 := int_inj yb6
  have e_l6 := map_inj_of (fun _ _ => Token.inj) yb7
  have e_l7 := map_inj_of (fun _ _ => str_inj) yb8
  subst e_x1
  subst e_x2
  subst e_x3
  subst e_x4
  subst e_x5
  subst e_l6
  subst e_l7
  rw [h] at hp
  cases hp
  rfl

def R_F17 : List AV → List AObj → List AV × List AObj → Prop := fun args H x => ∃ (x1 : Str) (x2 : Int) (x3 : Int) (x4 : Int) (x5 : Int) (l6 : List Token) (l7 : List Str) (r8 : Bool) (x9 : Int) (x10 : Int) (x11 : Int) (o12 : List Token), F17 x1 x2 x3 x4 x5 l6 l7 = some (r8, x9, x10, x11, o12) ∧ args = [.ref 0 0] ∧ H = [.var [.pv (.str x1), .pv (.int .i64 x2), .vec 1 (List.length l6), .vec 2 (List.length l7), .pv (.int .i64 x3), .pv (.int .i64 x4), .pv (.int .i64 x5)], .row 32 4 (List.map Token.pv l6) true, .row 9 1 (List.map PV.str l7) true] ∧ x = ([.pv (.bool r8)], [.var [.pv (.str x1), .pv (.int .i64 x9), .vec 1 (List.length o12), .vec 2 (List.length l7), .pv (.int .i64 x3), .pv (.int .i64 x10), .pv (.int .i64 x11)], .row 32 4 (List.map Token.pv o12) true, .row 9 1 (List.map PV.str l7) true])

theorem q_F17 (x1 : Str) (x2 : Int) (x3 : Int) (x4 : Int) (x5 : Int) (l6 : List Token) (l7 : List Str) (r8 : Bool) (x9 : Int) (x10 : Int) (x11 : Int) (o12 : List Token) (h : F17 x1 x2 x3 x4 x5 l6 l7 = some (r8, x9, x10, x11, o12)) : chC R_F17 [.ref 0 0] [.var [.pv (.str x1), .pv (.int .i64 x2), .vec 1 (List.length l6), .vec 2 (List.length l7), .pv (.int .i64 x3), .pv (.int .i64 x4), .pv (.int .i64 x5)], .row 32 4 (List.map Token.pv l6) true, .row 9 1 (List.map PV.str l7) true] = some ([.pv (.bool r8)], [.var [.pv (.str x1), .pv (.int .i64 x9), .vec 1 (List.length o12), .vec 2 (List.length l7), .pv (.int .i64 x3), .pv (.int .i64 x10), .pv (.int .i64 x11)], .row 32 4 (List.map Token.pv o12) true, .row 9 1 (List.map PV.str l7) true]) := by
  refine chC_eq ⟨x1, x2, x3, x4, x5, l6, l7, r8, x9, x10, x11, o12, h, rfl, rfl, rfl⟩ ?_
  rintro y ⟨x1p, x2p, x3p, x4p, x5p, l6p, l7p, r8p, x9p, x10p, x11p, o12p, hp, ha, hH, rfl⟩
  simp only [List.cons.injEq, AObj.bld.injEq, AObj.map.injEq, AObj.row.injEq, AObj.var.injEq, AV.pv.injEq, AV.vec.injEq, and_true, true_and, and_assoc] at hH
  obtain ⟨yb0, yb1, yb2, yb3, yb4, yb5, yb6, yb7, yb8⟩ := hH
  have e_x1 := str_inj yb0
  have e_x2 := int_inj yb1
  have e_x3 := int_inj yb4
  have e_x4 := int_inj yb5
  have e_x5 := int_inj yb6
  have e_l6 := map_inj_of (fun _ _ => Token.inj) yb7
  have e_l7 := map_inj_of (fun _ _ => str_inj) yb8
  subst e_x1
  subst e_x2
  subst e_x3
  subst e_x4
  subst e_x5
  subst e_l6
  subst e_l7
  rw [h] at hp
  cases hp
  rfl

def R_F5 : List AV → List AObj → List AV × List AObj → Prop := fun args H x => ∃ (s1 : Str) (r2 : List Token) (r3 : Int) (r4 : Int), F5 s1 = some (r2, r3, r4) ∧ args = [.pv (.str s1)] ∧ H = [] ∧ x = ([.pv (.slice (List.map Token.pv r2)), .pv (.int .i64 r3), .pv (.int .i64 r4)], [])

theorem q_F5 (s1 : Str) (r2 : List Token) (r3 : Int) (r4 : Int) (h : F5 s1 = some (r2, r3, r4)) : chC R_F5 [.pv (.str s1)] [] = some ([.pv (.slice (List.map Token.pv r2)), .pv (.int .i64 r3), .pv (.int .i64 r4)], []) := by
  refine chC_eq ⟨s1, r2, r3, r4, h, rfl, rfl, rfl⟩ ?_
  rintro y ⟨s1p, r2p, r3p, r4p, hp, ha, hH, rfl⟩
  simp only [List.cons.injEq, AV.pv.injEq, AV.agg.injEq, AV.vec.injEq, and_true, true_and, and_assoc] at ha
  have ya0 := ha
  have e_s1 := str_inj ya0
  subst e_s1
  rw [h] at hp
  cases hp
  rfl

def R_F10 : List AV → List AObj → List AV × List AObj → Prop := fun args H x => ∃ (s1 : Str) (r2 : Bool), F10 s1 = some r2 ∧ args = [.pv (.str s1)] ∧ H = [] ∧ x = ([.pv (.bool r2)], [])

theorem q_F10 (s1 : Str) (r2 : Bool) (h : F10 s1 = some r2) : chC R_F10 [.pv (.str s1)] [] = some ([.pv (.bool r2)], []) := by
  refine chC_eq ⟨s1, r2, h, rfl, rfl, rfl⟩ ?_
  rintro y ⟨s1p, r2p, hp, ha, hH, rfl⟩
  simp only [List.cons.injEq, AV.pv.injEq, AV.agg.injEq, AV.vec.injEq, and_true, true_and, and_assoc] at ha
  have ya0 := ha
  have e_s1 := str_inj ya0
  subst e_s1
  rw [h] at hp
  cases hp
  rfl

def R_F9 : List AV → List AObj → List AV × List AObj → Prop := fun args H x => ∃ (s1 : Str) (r2 : Str), F9 s1 = some r2 ∧ args = [.pv (.str s1)] ∧ H = [] ∧ x = ([.pv (.str r2)], [])

theorem q_F9 (s1 : Str) (r2 : Str) (h : F9 s1 = some r2) : chC R_F9 [.pv (.str s1)] [] = some ([.pv (.str r2)], []) := by
  refine chC_eq ⟨s1, r2, h, rfl, rfl, rfl⟩ ?_
  rintro y ⟨s1p, r2p, hp, ha, hH, rfl⟩
  simp only [List.cons.injEq, AV.pv.injEq, AV.agg.injEq, AV.vec.injEq, and_true, true_and, and_assoc] at ha
  have ya0 := ha
  have e_s1 := str_inj ya0
  subst e_s1
  rw [h] at hp
  cases hp
  rfl

def R_F4 : List AV → List AObj → List AV × List AObj → Prop := fun args H x => ∃ (r1 : Bool), F4 = some r1 ∧ args = [] ∧ H = [] ∧ x = ([.pv (.bool r1)], [])

theorem q_F4 (r1 : Bool) (h : F4 = some r1) : chC R_F4 [] [] = some ([.pv (.bool r1)], []) := by
  refine chC_eq ⟨r1, h, rfl, rfl, rfl⟩ ?_
  rintro y ⟨r1p, hp, ha, hH, rfl⟩
  rw [h] at hp
  cases hp
  rfl

def R_F53 : List AV → List AObj → List AV × List AObj → Prop := fun args H x => ∃ (c1 : Int) (r2 : Bool), F53 c1 = some r2 ∧ args = [.pv (.int .u8 c1)] ∧ H = [] ∧ x = ([.pv (.bool r2)], [])

theorem q_F53 (c1 : Int) (r2 : Bool) (h : F53 c1 = some r2) : chC R_F53 [.pv (.int .u8 c1)] [] = some ([.pv (.bool r2)], []) := by
  refine chC_eq ⟨c1, r2, h, rfl, rfl, rfl⟩ ?_
  rintro y ⟨c1p, r2p, hp, ha, hH, rfl⟩
  simp only [List.cons.injEq, AV.pv.injEq, AV.agg.injEq, AV.vec.injEq, and_true, true_and, and_assoc] at ha
  have ya0 := ha
  have e_c1 := int_inj ya0
  subst e_c1
  rw [h] at hp
  cases hp
  rfl

def R_F19 : List AV → List AObj → List AV × List AObj → Prop := fun args H x => ∃ (xat1 : Int) (xend2 : Int) (xname3 : Bool) (xe4 : Int) (xoff5 : Int) (e6 : Int) (off7 : Int) (l8 : List Token) (l9 : List Str) (at10 : Int) (end11 : Int) (name12 : Bool) (e13 : Int) (off14 : Int), F19 xat1 xend2 xname3 xe4 xoff5 e6 off7 l8 l9 = some (at10, end11, name12, e13, off14) ∧ args = [.agg [.pv (.int .i64 xat1), .vec 0 (List.length l8), .pv (.int .i64 xend2), .pv (.bool xname3), .vec 1 (List.length l9), .pv (.int .i64 xe4), .pv (.int .i64 xoff5)], .pv (.int .i64 e6), .pv (.int .i64 off7)] ∧ H = [.row 32 4 (List.map Token.pv l8) true, .row 9 1 (List.map PV.str l9) true] ∧ x = ([.agg [.pv (.int .i64 at10), .vec 0 (List.length l8), .pv (.int .i64 end11), .pv (.bool name12), .vec 1 (List.length l9), .pv (.int .i64 e13), .pv (.int .i64 off14)]], [.row 32 4 (List.map Token.pv l8) true, .row 9 1 (List.map PV.str l9) true])

theorem q_F19 (xat1 : Int) (xend2 : Int) (xname3 : Bool) (xe4 : Int) (xoff5 : Int) (e6 : Int) (off7 : Int) (l8 : List Token) (l9 : List Str) (at10 : Int) (end11 : Int) (name12 : Bool) (e13 : Int) (off14 : Int) (h : F19 xat1 xend2 xname3 xe4 xoff5 e6 off7 l8 l9 = some (at10, end11, name12, e13, off14)) : chC R_F19 [.agg [.pv (.int .i64 xat1), .vec 0 (List.length l8), .pv (.int .i64 xend2), .pv (.bool xname3), .vec 1 (List.length l9), .pv (.int .i64 xe4), .pv (.int .i64 xoff5)], .pv (.int .i64 e6), .pv (.int .i64 off7)] [.row 32 4 (List.map Token.pv l8) true, .row 9 1 (List.map PV.str l9) true] = some ([.agg [.pv (.int .i64 at10), .vec 0 (List.length l8), .pv (.int .i64 end11), .pv (.bool name12), .vec 1 (List.length l9), .pv (.int .i64 e13), .pv (.int .i64 off14)]], [.row 32 4 (List.map Token.pv l8) true, .row 9 1 (List.map PV.str l9) true]) := by
  refine chC_eq ⟨xat1, xend2, xname3, xe4, xoff5, e6, off7, l8, l9, at10, end11, name12, e13, off14, h, rfl, rfl, rfl⟩ ?_
  rintro y ⟨xat1p, xend2p, xname3p, xe4p, xoff5p, e6p, off7p, l8p, l9p, at10p, end11p, name12p, e13p, off14p, hp, ha, hH, rfl⟩
  simp only [List.cons.injEq, AV.pv.injEq, AV.agg.injEq, AV.vec.injEq, and_true, true_and, and_assoc] at ha
  obtain ⟨ya0, ya1, ya2, ya3, ya4, ya5, ya6, ya7, ya8⟩ := ha
  have e_xat1 := int_inj ya0
  have e_xend2 := int_inj ya2
  have e_xname3 := bool_inj ya3
  have e_xe4 := int_inj ya5
  have e_xoff5 := int_inj ya6
  have e_e6 := int_inj ya7
  have e_off7 := int_inj ya8
  simp only [List.cons.injEq, AObj.bld.injEq, AObj.map.injEq, AObj.row.injEq, AObj.var.injEq, AV.pv.injEq, AV.vec.injEq, and_true, true_and, and_assoc] at hH
  obtain ⟨yb0, yb1⟩ := hH
  have e_l8 := map_inj_of (fun _ _ => Token.inj) yb0
  have e_l9 := map_inj_of (fun _ _ => str_inj) yb1
  subst e_xat1
  subst e_xend2
  subst e_xname3
  subst e_xe4
  subst e_xoff5
  subst e_e6
  subst e_off7
  subst e_l8
  subst e_l9
  rw [h] at hp
  cases hp
  rfl

def R_F35 : List AV → List AObj → List AV × List AObj → Prop := fun args H x => ∃ (xat1 : Int) (xend2 : Int) (xname3 : Bool) (xe4 : Int) (xoff5 : Int) (t6 : Token) (l7 : List Token) (l8 : List Str) (at9 : Int) (end10 : Int) (name11 : Bool) (e12 : Int) (off13 : Int) (o14 : List Token), F35 xat1 xend2 xname3 xe4 xoff5 t6 l7 l8 = some (at9, end10, name11, e12, off13, o14) ∧ args = [.agg [.pv (.int .i64 xat1), .vec 0 (List.length l7), .pv (.int .i64 xend2), .pv (.bool xname3), .vec 1 (List.length l8), .pv (.int .i64 xe4), .pv (.int .i64 xoff5)], .pv (.agg [.int .i64 t6.kind_, .int .i64 t6.at_, .str t6.text_, .str t6.quoted_])] ∧ H = [.row 32 4 (List.map Token.pv l7) true, .row 9 1 (List.map PV.str l8) true] ∧ x = ([.agg [.pv (.int .i64 at9), .vec 0 (List.length o14), .pv (.int .i64 end10), .pv (.bool name11), .vec 1 (List.length l8), .pv (.int .i64 e12), .pv (.int .i64 off13)]], [.row 32 4 (List.map Token.pv o14) true, .row 9 1 (List.map PV.str l8) true])

theorem q_F35 (xat1 : Int) (xend2 : Int) (xname3 : Bool) (xe4 : Int) (xoff5 : Int) (t6 : Token) (l7 : List Token) (l8 : List Str) (at9 : Int) (end10 : Int) (name11 : Bool) (e12 : Int) (off13 : Int) (o14 : List Token) (h : F35 xat1 xend2 xname3 xe4 xoff5 t6 l7 l8 = some (at9, end10, name11, e12, off13, o14)) : chC R_F35 [.agg [.pv (.int .i64 xat1), .vec 0 (List.length l7), .pv (.int .i64 xend2), .pv (.bool xname3), .vec 1 (List.length l8), .pv (.int .i64 xe4), .pv (.int .i64 xoff5)], .pv (.agg [.int .i64 t6.kind_, .int .i64 t6.at_, .str t6.text_, .str t6.quoted_])] [.row 32 4 (List.map Token.pv l7) true, .row 9 1 (List.map PV.str l8) true] = some ([.agg [.pv (.int .i64 at9), .vec 0 (List.length o14), .pv (.int .i64 end10), .pv (.bool name11), .vec 1 (List.length l8), .pv (.int .i64 e12), .pv (.int .i64 off13)]], [.row 32 4 (List.map Token.pv o14) true, .row 9 1 (List.map PV.str l8) true]) := by
  refine chC_eq ⟨xat1, xend2, xname3, xe4, xoff5, t6, l7, l8, at9, end10, name11, e12, off13, o14, h, rfl, rfl, rfl⟩ ?_
  rintro y ⟨xat1p, xend2p, xname3p, xe4p, xoff5p, t6p, l7p, l8p, at9p, end10p, name11p, e12p, off13p, o14p, hp, ha, hH, rfl⟩
  simp only [List.cons.injEq, AV.pv.injEq, AV.agg.injEq, AV.vec.injEq, and_true, true_and, and_assoc] at ha
  obtain ⟨ya0, ya1, ya2, ya3, ya4, ya5, ya6, ya7⟩ := ha
  have e_xat1 := int_inj ya0
  have e_xend2 := int_inj ya2
  have e_xname3 := bool_inj ya3
  have e_xe4 := int_inj ya5
  have e_xoff5 := int_inj ya6
  have e_t6 := Token.inj (x := t6) (y := t6p) ya7
  simp only [List.cons.injEq, AObj.bld.injEq, AObj.map.injEq, AObj.row.injEq, AObj.var.injEq, AV.pv.injEq, AV.vec.injEq, and_true, true_and, and_assoc] at hH
  obtain ⟨yb0, yb1⟩ := hH
  have e_l7 := map_inj_of (fun _ _ => Token.inj) yb0
  have e_l8 := map_inj_of (fun _ _ => str_inj) yb1
  subst e_xat1
  subst e_xend2
  subst e_xname3
  subst e_xe4
  subst e_xoff5
  subst e_t6
  subst e_l7
  subst e_l8
  rw [h] at hp
  cases hp
  rfl

def R_F33 : List AV → List AObj → List AV × List AObj → Prop := fun args H x => ∃ (s1 : Str) (xat2 : Int) (xend3 : Int) (xname4 : Bool) (xe5 : Int) (xoff6 : Int) (l7 : List Token) (l8 : List Str) (at9 : Int) (end10 : Int) (name11 : Bool) (e12 : Int) (off13 : Int) (o14 : List Token), F33 s1 xat2 xend3 xname4 xe5 xoff6 l7 l8 = some (at9, end10, name11, e12, off13, o14) ∧ args = [.pv (.str s1), .agg [.pv (.int .i64 xat2), .vec 0 (List.length l7), .pv (.int .i64 xend3), .pv (.bool xname4), .vec 1 (List.length l8), .pv (.int .i64 xe5), .pv (.int .i64 xoff6)]] ∧ H = [.row 32 4 (List.map Token.pv l7) true, .row 9 1 (List.map PV.str l8) true] ∧ x = ([.agg [.pv (.int .i64 at9), .vec 0 (List.length o14), .pv (.int .i64 end10), .pv (.bool name11), .vec 1 (List.length l8), .pv (.int .i64 e12), .pv (.int .i64 off13)]], [.row 32 4 (List.map Token.pv o14) true, .row 9 1 (List.map PV.str l8) true])

theorem q_F33 (s1 : Str) (xat2 : Int) (xend3 : Int) (xname4 : Bool) (xe5 : Int) (xoff6 : Int) (l7 : List Token) (l8 : List Str) (at9 : Int) (end10 : Int) (name11 : Bool) (e12 : Int) (off13 : Int) (o14 : List Token) (h : F33 s1 xat2 xend3 xname4 xe5 xoff6 l7 l8 = some (at9, end10, name11, e12, off13, o14)) : chC R_F33 [.pv (.str s1), .agg [.pv (.int .i64 xat2), .vec 0 (List.length l7), .pv (.int .i64 xend3), .pv (.bool xname4), .vec 1 (List.length l8), .pv (.int .i64 xe5), .pv (.int .i64 xoff6)]] [.row 32 4 (List.map Token.pv l7) true, .row 9 1 (List.map PV.str l8) true] = some ([.agg [.pv (.int .i64 at9), .vec 0 (List.length o14), .pv (.int .i64 end10), .pv (.bool name11), .vec 1 (List.length l8), .pv (.int .i64 e12), .pv (.int .i64 off13)]], [.row 32 4 (List.map Token.pv o14) true, .row 9 1 (List.map PV.str l8) true]) := by
  refine chC_eq ⟨s1, xat2, xend3, xname4, xe5, xoff6, l7, l8, at9, end10, name11, e12, off13, o14, h, rfl, rfl, rfl⟩ ?_
  rintro y ⟨s1p, xat2p, xend3p, xname4p, xe5p, xoff6p, l7p, l8p, at9p, end10p, name11p, e12p, off13p, o14p, hp, ha, hH, rfl⟩
  simp only [List.cons.injEq, AV.pv.injEq, AV.agg.injEq, AV.vec.injEq, and_true, true_and, and_assoc] at ha
  obtain ⟨ya0, ya1, ya2, ya3, ya4, ya5, ya6, ya7⟩ := ha
  have e_s1 := str_inj ya0
  have e_xat2 := int_inj ya1
  have e_xend3 := int_inj ya3
  have e_xname4 := bool_inj ya4
  have e_xe5 := int_inj ya6
  have e_xoff6 := int_inj ya7
  simp only [List.cons.injEq, AObj.bld.injEq, AObj.map.injEq, AObj.row.injEq, AObj.var.injEq, AV.pv.injEq, AV.vec.injEq, and_true, true_and, and_assoc] at hH
  obtain ⟨yb0, yb1⟩ := hH
  have e_l7 := map_inj_of (fun _ _ => Token.inj) yb0
  have e_l8 := map_inj_of (fun _ _ => str_inj) yb1
  subst e_s1
  subst e_xat2
  subst e_xend3
  subst e_xname4
  subst e_xe5
  subst e_xoff6
  subst e_l7
  subst e_l8
  rw [h] at hp
  cases hp
  rfl

def R_F34 : List AV → List AObj → List AV × List AObj → Prop := fun args H x => ∃ (s1 : Str) (at2 : Int) (r3 : Int), F34 s1 at2 = some r3 ∧ args = [.pv (.str s1), .pv (.int .i64 at2)] ∧ H = [] ∧ x = ([.pv (.int .i64 r3)], [])

theorem q_F34 (s1 : Str) (at2 : Int) (r3 : Int) (h : F34 s1 at2 = some r3) : chC R_F34 [.pv (.str s1), .pv (.int .i64 at2)] [] = some ([.pv (.int .i64 r3)], []) := by
  refine chC_eq ⟨s1, at2, r3, h, rfl, rfl, rfl⟩ ?_
  rintro y ⟨s1p, at2p, r3p, hp, ha, hH, rfl⟩
  simp only [List.cons.injEq, AV.pv.injEq, AV.agg.injEq, AV.vec.injEq, and_true, true_and, and_assoc] at ha
  obtain ⟨ya0, ya1⟩ := ha
  have e_s1 := str_inj ya0
  have e_at2 := int_inj ya1
  subst e_s1
  subst e_at2
  rw [h] at hp
  cases hp
  rfl

def R_F54 : List AV → List AObj → List AV × List AObj → Prop := fun args H x => ∃ (s1 : Str) (at2 : Int) (end3 : Str) (r4 : Str) (r5 : Int) (r6 : Int), F54 s1 at2 end3 = some (r4, r5, r6) ∧ args = [.pv (.str s1), .pv (.int .i64 at2), .pv (.str end3)] ∧ H = [] ∧ x = ([.pv (.str r4), .pv (.int .i64 r5), .pv (.int .i64 r6)], [])

theorem q_F54 (s1 : Str) (at2 : Int) (end3 : Str) (r4 : Str) (r5 : Int) (r6 : Int) (h : F54 s1 at2 end3 = some (r4, r5, r6)) : chC R_F54 [.pv (.str s1), .pv (.int .i64 at2), .pv (.str end3)] [] = some ([.pv (.str r4), .pv (.int .i64 r5), .pv (.int .i64 r6)], []) := by
  refine chC_eq ⟨s1, at2, end3, r4, r5, r6, h, rfl, rfl, rfl⟩ ?_
  rintro y ⟨s1p, at2p, end3p, r4p, r5p, r6p, hp, ha, hH, rfl⟩
  simp only [List.cons.injEq, AV.pv.injEq, AV.agg.injEq, AV.vec.injEq, and_true, true_and, and_assoc] at ha
  obtain ⟨ya0, ya1, ya2⟩ := ha
  have e_s1 := str_inj ya0
  have e_at2 := int_inj ya1
  have e_end3 := str_inj ya2
  subst e_s1
  subst e_at2
  subst e_end3
  rw [h] at hp
  cases hp
  rfl

def R_F36 : List AV → List AObj → List AV × List AObj → Prop := fun args H x => ∃ (s1 : Str) (xat2 : Int) (xend3 : Int) (xname4 : Bool) (xe5 : Int) (xoff6 : Int) (l7 : List Token) (l8 : List Str) (at9 : Int) (end10 : Int) (name11 : Bool) (e12 : Int) (off13 : Int), F36 s1 xat2 xend3 xname4 xe5 xoff6 l7 l8 = some (at9, end10, name11, e12, off13) ∧ args = [.pv (.str s1), .agg [.pv (.int .i64 xat2), .vec 0 (List.length l7), .pv (.int .i64 xend3), .pv (.bool xname4), .vec 1 (List.length l8), .pv (.int .i64 xe5), .pv (.int .i64 xoff6)]] ∧ H = [.row 32 4 (List.map Token.pv l7) true, .row 9 1 (List.map PV.str l8) true] ∧ x = ([.agg [.pv (.int .i64 at9), .vec 0 (List.length l7), .pv (.int .i64 end10), .pv (.bool name11), .nils, .pv (.int .i64 e12), .pv (.int .i64 off13)]], [.row 32 4 (List.map Token.pv l7) true, .row 9 1 (List.map PV.str l8) true])

theorem q_F36 (s1 : Str) (xat2 : Int) (xend3 : Int) (xname4 : Bool) (xe5 : Int) (xoff6 : Int) (l7 : List Token) (l8 : List Str) (at9 : Int) (end10 : Int) (name11 : Bool) (e12 : Int) (off13 : Int) (h : F36 s1 xat2 xend3 xname4 xe5 xoff6 l7 l8 = some (at9, end10, name11, e12, off13)) : chC R_F36 [.pv (.str s1), .agg [.pv (.int .i64 xat2), .vec 0 (List.length l7), .pv (.int .i64 xend3), .pv (.bool xname4), .vec 1 (List.length l8), .pv (.int .i64 xe5), .pv (.int .i64 xoff6)]] [.row 32 4 (List.map Token.pv l7) true, .row 9 1 (List.map PV.str l8) true] = some ([.agg [.pv (.int .i64 at9), .vec 0 (List.length l7), .pv (.int .i64 end10), .pv (.bool name11), .nils, .pv (.int .i64 e12), .pv (.int .i64 off13)]], [.row 32 4 (List.map Token.pv l7) true, .row 9 1 (List.map PV.str l8) true]) := by
  refine chC_eq ⟨s1, xat2, xend3, xname4, xe5, xoff6, l7, l8, at9, end10, name11, e12, off13, h, rfl, rfl, rfl⟩ ?_
  rintro y ⟨s1p, xat2p, xend3p, xname4p, xe5p, xoff6p, l7p, l8p, at9p, end10p, name11p, e12p, off13p, hp, ha, hH, rfl⟩
  simp only [List.cons.injEq, AV.pv.injEq, AV.agg.injEq, AV.vec.injEq, and_true, true_and, and_assoc] at ha
  obtain ⟨ya0, ya1, ya2, ya3, ya4, ya5, ya6, ya7⟩ := ha
  have e_s1 := str_inj ya0
  have e_xat2 := int_inj ya1
  have e_xend3 := int_inj ya3
  have e_xname4 := bool_inj ya4
  have e_xe5 := int_inj ya6
  have e_xoff6 := int_inj ya7
  simp only [List.cons.injEq, AObj.bld.injEq, AObj.map.injEq, AObj.row.injEq, AObj.var.injEq, AV.pv.injEq, AV.vec.injEq, and_true, true_and, and_assoc] at hH
  obtain ⟨yb0, yb1⟩ := hH
  have e_l7 := map_inj_of (fun _ _ => Token.inj) yb0
  have e_l8 := map_inj_of (fun _ _ => str_inj) yb1
  subst e_s1
  subst e_xat2
  subst e_xend3
  subst e_xname4
  subst e_xe5
  subst e_xoff6
  subst e_l7
  subst e_l8
  rw [h] at hp
  cases hp
  rfl

def R_F55 : List AV → List AObj → List AV × List AObj → Prop := fun args H x => ∃ (c1 : Int) (all2 : Str) (r3 : Bool), F55 c1 all2 = some r3 ∧ args = [.pv (.int .u8 c1), .pv (.str all2)] ∧ H = [] ∧ x = ([.pv (.bool r3)], [])

theorem q_F55 (c1 : Int) (all2 : Str) (r3 : Bool) (h : F55 c1 all2 = some r3) : chC R_F55 [.pv (.int .u8 c1), .pv (.str all2)] [] = some ([.pv (.bool r3)], []) := by
  refine chC_eq ⟨c1, all2, r3, h, rfl, rfl, rfl⟩ ?_
  rintro y ⟨c1p, all2p, r3p, hp, ha, hH, rfl⟩
  simp only [List.cons.injEq, AV.pv.injEq, AV.agg.injEq, AV.vec.injEq, and_true, true_and, and_assoc] at ha
  obtain ⟨ya0, ya1⟩ := ha
  have e_c1 := int_inj ya0
  have e_all2 := str_inj ya1
  subst e_c1
  subst e_all2
  rw [h] at hp
  cases hp
  rfl

def R_F57 : List AV → List AObj → List AV × List AObj → Prop := fun args H x => ∃ (s1 : Str) (at2 : Int) (r3 : Bool), F57 s1 at2 = some r3 ∧ args = [.pv (.str s1), .pv (.int .i64 at2)] ∧ H = [] ∧ x = ([.pv (.bool r3)], [])

theorem q_F57 (s1 : Str) (at2 : Int) (r3 : Bool) (h : F57 s1 at2 = some r3) : chC R_F57 [.pv (.str s1), .pv (.int .i64 at2)] [] = some ([.pv (.bool r3)], []) := by
  refine chC_eq ⟨s1, at2, r3, h, rfl, rfl, rfl⟩ ?_
  rintro y ⟨s1p, at2p, r3p, hp, ha, hH, rfl⟩
  simp only [List.cons.injEq, AV.pv.injEq, AV.agg.injEq, AV.vec.injEq, and_true, true_and, and_assoc] at ha
  obtain ⟨ya0, ya1⟩ := ha
  have e_s1 := str_inj ya0
  have e_at2 := int_inj ya1
  subst e_s1
  subst e_at2
  rw [h] at hp
  cases hp
  rfl

def R_F58 : List AV → List AObj → List AV × List AObj → Prop := fun args H x => ∃ (s1 : Str) (at2 : Int) (r3 : Part), F58 s1 at2 = some r3 ∧ args = [.pv (.str s1), .pv (.int .i64 at2)] ∧ H = [] ∧ x = ([.pv (.agg [.str r3.text_, .str r3.quoted_, .int .i64 r3.to_, .bool r3.ok_])], [])

theorem q_F58 (s1 : Str) (at2 : Int) (r3 : Part) (h : F58 s1 at2 = some r3) : chC R_F58 [.pv (.str s1), .pv (.int .i64 at2)] [] = some ([.pv (.agg [.str r3.text_, .str r3.quoted_, .int .i64 r3.to_, .bool r3.ok_])], []) := by
  refine chC_eq ⟨s1, at2, r3, h, rfl, rfl, rfl⟩ ?_
  rintro y ⟨s1p, at2p, r3p, hp, ha, hH, rfl⟩
  simp only [List.cons.injEq, AV.pv.injEq, AV.agg.injEq, AV.vec.injEq, and_true, true_and, and_assoc] at ha
  obtain ⟨ya0, ya1⟩ := ha
  have e_s1 := str_inj ya0
  have e_at2 := int_inj ya1
  subst e_s1
  subst e_at2
  rw [h] at hp
  cases hp
  rfl

def R_F40 : List AV → List AObj → List AV × List AObj → Prop := fun args H x => ∃ (s1 : Str) (at2 : Int) (r3 : Part), F40 s1 at2 = some r3 ∧ args = [.pv (.str s1), .pv (.int .i64 at2)] ∧ H = [] ∧ x = ([.pv (.agg [.str r3.text_, .str r3.quoted_, .int .i64 r3.to_, .bool r3.ok_])], [])

theorem q_F40 (s1 : Str) (at2 : Int) (r3 : Part) (h : F40 s1 at2 = some r3) : chC R_F40 [.pv (.str s1), .pv (.int .i64 at2)] [] = some ([.pv (.agg [.str r3.text_, .str r3.quoted_, .int .i64 r3.to_, .bool r3.ok_])], []) := by
  refine chC_eq ⟨s1, at2, r3, h, rfl, rfl, rfl⟩ ?_
  rintro y ⟨s1p, at2p, r3p, hp, ha, hH, rfl⟩
  simp only [List.cons.injEq, AV.pv.injEq, AV.agg.injEq, AV.vec.injEq, and_true, true_and, and_assoc] at ha
  obtain ⟨ya0, ya1⟩ := ha
  have e_s1 := str_inj ya0
  have e_at2 := int_inj ya1
  subst e_s1
  subst e_at2
  rw [h] at hp
  cases hp
  rfl

def R_F37 : List AV → List AObj → List AV × List AObj → Prop := fun args H x => ∃ (s1 : Str) (xat2 : Int) (xend3 : Int) (xname4 : Bool) (xe5 : Int) (xoff6 : Int) (l7 : List Token) (l8 : List Str) (at9 : Int) (end10 : Int) (name11 : Bool) (e12 : Int) (off13 : Int) (o14 : List Token) (o15 : List Str), F37 s1 xat2 xend3 xname4 xe5 xoff6 l7 l8 = some (at9, end10, name11, e12, off13, o14, o15) ∧ args = [.pv (.str s1), .agg [.pv (.int .i64 xat2), .vec 0 (List.length l7), .pv (.int .i64 xend3), .pv (.bool xname4), .vec 1 (List.length l8), .pv (.int .i64 xe5), .pv (.int .i64 xoff6)]] ∧ H = [.row 32 4 (List.map Token.pv l7) true, .row 9 1 (List.map PV.str l8) true] ∧ x = ([.agg [.pv (.int .i64 at9), .vec 0 (List.length o14), .pv (.int .i64 end10), .pv (.bool name11), .vec 1 (List.length o15), .pv (.int .i64 e12), .pv (.int .i64 off13)]], [.row 32 4 (List.map Token.pv o14) true, .row 9 1 (List.map PV.str o15) true])

theorem q_F37 (s1 : Str) (xat2 : Int) (xend3 : Int) (xname4 : Bool) (xe5 : Int) (xoff6 : Int) (l7 : List Token) (l8 : List Str) (at9 : Int) (end10 : Int) (name11 : Bool) (e12 : Int) (off13 : Int) (o14 : List Token) (o15 : List Str) (h : F37 s1 xat2 xend3 xname4 xe5 xoff6 l7 l8 = some (at9, end10, name11, e12, off13, o14, o15)) : chC R_F37 [.pv (.str s1), .agg [.pv (.int .i64 xat2), .vec 0 (List.length l7), .pv (.int .i64 xend3), .pv (.bool xname4), .vec 1 (List.length l8), .pv (.int .i64 xe5), .pv (.int .i64 xoff6)]] [.row 32 4 (List.map Token.pv l7) true, .row 9 1 (List.map PV.str l8) true] = some ([.agg [.pv (.int .i64 at9), .vec 0 (List.length o14), .pv (.int .i64 end10), .pv (.bool name11), .vec 1 (List.length o15), .pv (.int .i64 e12), .pv (.int .i64 off13)]], [.row 32 4 (List.map Token.pv o14) true, .row 9 1 (List.map PV.str o15) true]) := by
  refine chC_eq ⟨s1, xat2, xend3, xname4, xe5, xoff6, l7, l8, at9, end10, name11, e12, off13, o14, o15, h, rfl, rfl, rfl⟩ ?_
  rintro y ⟨s1p, xat2p, xend3p, xname4p, xe5p, xoff6p, l7p, l8p, at9p, end10p, name11p, e12p, off13p, o14p, o15p, hp, ha, hH, rfl⟩
  simp only [List.cons.injEq, AV.pv.injEq, AV.agg.injEq, AV.vec.injEq, and_true, true_and, and_assoc] at ha
  obtain ⟨ya0, ya1, ya2, ya3, ya4, ya5, ya6, ya7⟩ := ha
  have e_s1 := str_inj ya0
  have e_xat2 := int_inj ya1
  have e_xend3 := int_inj ya3
  have e_xname4 := bool_inj ya4
  have e_xe5 := int_inj ya6
  have e_xoff6 := int_inj ya7
  simp only [List.cons.injEq, AObj.bld.injEq, AObj.map.injEq, AObj.row.injEq, AObj.var.injEq, AV.pv.injEq, AV.vec.injEq, and_true, true_and, and_assoc] at hH
  obtain ⟨yb0, yb1⟩ := hH
  have e_l7 := map_inj_of (fun _ _ => Token.inj) yb0
  have e_l8 := map_inj_of (fun _ _ => str_inj) yb1
  subst e_s1
  subst e_xat2
  subst e_xend3
  subst e_xname4
  subst e_xe5
  subst e_xoff6
  subst e_l7
  subst e_l8
  rw [h] at hp
  cases hp
  rfl

def R_F68 : List AV → List AObj → List AV × List AObj → Prop := fun args H x => ∃ (s1 : Str) (at2 : Int) (r3 : Int), F68 s1 at2 = some r3 ∧ args = [.pv (.str s1), .pv (.int .i64 at2)] ∧ H = [] ∧ x = ([.pv (.int .i64 r3)], [])

theorem q_F68 (s1 : Str) (at2 : Int) (r3 : Int) (h : F68 s1 at2 = some r3) : chC R_F68 [.pv (.str s1), .pv (.int .i64 at2)] [] = some ([.pv (.int .i64 r3)], []) := by
  refine chC_eq ⟨s1, at2, r3, h, rfl, rfl, rfl⟩ ?_
  rintro y ⟨s1p, at2p, r3p, hp, ha, hH, rfl⟩
  simp only [List.cons.injEq, AV.pv.injEq, AV.agg.injEq, AV.vec.injEq, and_true, true_and, and_assoc] at ha
  obtain ⟨ya0, ya1⟩ := ha
  have e_s1 := str_inj ya0
  have e_at2 := int_inj ya1
  subst e_s1
  subst e_at2
  rw [h] at hp
  cases hp
  rfl

def R_F56 : List AV → List AObj → List AV × List AObj → Prop := fun args H x => ∃ (s1 : Str) (at2 : Int) (equal3 : Bool) (r4 : Int), F56 s1 at2 equal3 = some r4 ∧ args = [.pv (.str s1), .pv (.int .i64 at2), .pv (.bool equal3)] ∧ H = [] ∧ x = ([.pv (.int .i64 r4)], [])

theorem q_F56 (s1 : Str) (at2 : Int) (equal3 : Bool) (r4 : Int) (h : F56 s1 at2 equal3 = some r4) : chC R_F56 [.pv (.str s1), .pv (.int .i64 at2), .pv (.bool equal3)] [] = some ([.pv (.int .i64 r4)], []) := by
  refine chC_eq ⟨s1, at2, equal3, r4, h, rfl, rfl, rfl⟩ ?_
  rintro y ⟨s1p, at2p, equal3p, r4p, hp, ha, hH, rfl⟩
  simp only [List.cons.injEq, AV.pv.injEq, AV.agg.injEq, AV.vec.injEq, and_true, true_and, and_assoc] at ha
  obtain ⟨ya0, ya1, ya2⟩ := ha
  have e_s1 := str_inj ya0
  have e_at2 := int_inj ya1
  have e_equal3 := bool_inj ya2
  subst e_s1
  subst e_at2
  subst e_equal3
  rw [h] at hp
  cases hp
  rfl

def R_F38 : List AV → List AObj → List AV × List AObj → Prop := fun args H x => ∃ (s1 : Str) (at2 : Int) (r3 : Int), F38 s1 at2 = some r3 ∧ args = [.pv (.str s1), .pv (.int .i64 at2)] ∧ H = [] ∧ x = ([.pv (.int .i64 r3)], [])

theorem q_F38 (s1 : Str) (at2 : Int) (r3 : Int) (h : F38 s1 at2 = some r3) : chC R_F38 [.pv (.str s1), .pv (.int .i64 at2)] [] = some ([.pv (.int .i64 r3)], []) := by
  refine chC_eq ⟨s1, at2, r3, h, rfl, rfl, rfl⟩ ?_
  rintro y ⟨s1p, at2p, r3p, hp, ha, hH, rfl⟩
  simp only [List.cons.injEq, AV.pv.injEq, AV.agg.injEq, AV.vec.injEq, and_true, true_and, and_assoc] at ha
  obtain ⟨ya0, ya1⟩ := ha
  have e_s1 := str_inj ya0
  have e_at2 := int_inj ya1
  subst e_s1
  subst e_at2
  rw [h] at hp
  cases hp
  rfl

def R_F39 : List AV → List AObj → List AV × List AObj → Prop := fun args H x => ∃ (xat1 : Int) (xend2 : Int) (xname3 : Bool) (xe4 : Int) (xoff5 : Int) (l6 : List Token) (l7 : List Str) (at8 : Int) (end9 : Int) (name10 : Bool) (e11 : Int) (off12 : Int) (o13 : List Token), F39 xat1 xend2 xname3 xe4 xoff5 l6 l7 = some (at8, end9, name10, e11, off12, o13) ∧ args = [.agg [.pv (.int .i64 xat1), .vec 0 (List.length l6), .pv (.int .i64 xend2), .pv (.bool xname3), .vec 1 (List.length l7), .pv (.int .i64 xe4), .pv (.int .i64 xoff5)]] ∧ H = [.row 32 4 (List.map Token.pv l6) true, .row 9 1 (List.map PV.str l7) true] ∧ x = ([.agg [.pv (.int .i64 at8), .vec 0 (List.length o13), .pv (.int .i64 end9), .pv (.bool name10), .vec 1 (List.length l7), .pv (.int .i64 e11), .pv (.int .i64 off12)]], [.row 32 4 (List.map Token.pv o13) true, .row 9 1 (List.map PV.str l7) true])

theorem q_F39 (xat1 : Int) (xend2 : Int) (xname3 : Bool) (xe4 : Int) (xoff5 : Int) (l6 : List Token) (l7 : List Str) (at8 : Int) (end9 : Int) (name10 : Bool) (e11 : Int) (off12 : Int) (o13 : List Token) (h : F39 xat1 xend2 xname3 xe4 xoff5 l6 l7 = some (at8, end9, name10, e11, off12, o13)) : chC R_F39 [.agg [.pv (.int .i64 xat1), .vec 0 (List.length l6), .pv (.int .i64 xend2), .pv (.bool xname3), .vec 1 (List.length l7), .pv (.int .i64 xe4), .pv (.int .i64 xoff5)]] [.row 32 4 (List.map Token.pv l6) true, .row 9 1 (List.map PV.str l7) true] = some ([.agg [.pv (.int .i64 at8), .vec 0 (List.length o13), .pv (.int .i64 end9), .pv (.bool name10), .vec 1 (List.length l7), .pv (.int .i64 e11), .pv (.int .i64 off12)]], [.row 32 4 (List.map Token.pv o13) true, .row 9 1 (List.map PV.str l7) true]) := by
  refine chC_eq ⟨xat1, xend2, xname3, xe4, xoff5, l6, l7, at8, end9, name10, e11, off12, o13, h, rfl, rfl, rfl⟩ ?_
  rintro y ⟨xat1p, xend2p, xname3p, xe4p, xoff5p, l6p, l7p, at8p, end9p, name10p, e11p, off12p, o13p, hp, ha, hH, rfl⟩
  simp only [List.cons.injEq, AV.pv.injEq, AV.agg.injEq, AV.vec.injEq, and_true, true_and, and_assoc] at ha
  obtain ⟨ya0, ya1, ya2, ya3, ya4, ya5, ya6⟩ := ha
  have e_xat1 := int_inj ya0
  have e_xend2 := int_inj ya2
  have e_xname3 := bool_inj ya3
  have e_xe4 := int_inj ya5
  have e_xoff5 := int_inj ya6
  simp only [List.cons.injEq, AObj.bld.injEq, AObj.map.injEq, AObj.row.injEq, AObj.var.injEq, AV.pv.injEq, AV.vec.injEq, and_true, true_and, and_assoc] at hH
  obtain ⟨yb0, yb1⟩ := hH
  have e_l6 := map_inj_of (fun _ _ => Token.inj) yb0
  have e_l7 := map_inj_of (fun _ _ => str_inj) yb1
  subst e_xat1
  subst e_xend2
  subst e_xname3
  subst e_xe4
  subst e_xoff5
  subst e_l6
  subst e_l7
  rw [h] at hp
  cases hp
  rfl

def R_F18 : List AV → List AObj → List AV × List AObj → Prop := fun args H x => ∃ (s1 : Str) (xat2 : Int) (xend3 : Int) (xname4 : Bool) (xe5 : Int) (xoff6 : Int) (l7 : List Token) (l8 : List Str) (tag9 : Bool) (at10 : Int) (end11 : Int) (name12 : Bool) (e13 : Int) (off14 : Int) (o15 : List Token) (o16 : List Str), F18 s1 xat2 xend3 xname4 xe5 xoff6 l7 l8 = some (tag9, at10, end11, name12, e13, off14, o15, o16) ∧ args = [.pv (.str s1), .agg [.pv (.int .i64 xat2), .vec 0 (List.length l7), .pv (.int .i64 xend3), .pv (.bool xname4), .vec 1 (List.length l8), .pv (.int .i64 xe5), .pv (.int .i64 xoff6)]] ∧ H = [.row 32 4 (List.map Token.pv l7) true, .row 9 1 (List.map PV.str l8) true] ∧ x = ((bif tag9 then [.agg [.pv (.int .i64 at10), .vec 0 (List.length o15), .pv (.int .i64 end11), .pv (.bool name12), .vec 1 (List.length o16), .pv (.int .i64 e13), .pv (.int .i64 off14)]] else [.agg [.pv (.int .i64 at10), .vec 0 (List.length o15), .pv (.int .i64 end11), .pv (.bool name12), .nils, .pv (.int .i64 e13), .pv (.int .i64 off14)]]), (bif tag9 then [.row 32 4 (List.map Token.pv o15) true, .row 9 1 (List.map PV.str o16) true] else [.row 32 4 (List.map Token.pv o15) true, .row 9 1 (List.map PV.str o16) true]))

theorem q_F18 (s1 : Str) (xat2 : Int) (xend3 : Int) (xname4 : Bool) (xe5 : Int) (xoff6 : Int) (l7 : List Token) (l8 : List Str) (tag9 : Bool) (at10 : Int) (end11 : Int) (name12 : Bool) (e13 : Int) (off14 : Int) (o15 : List Token) (o16 : List Str) (h : F18 s1 xat2 xend3 xname4 xe5 xoff6 l7 l8 = some (tag9, at10, end11, name12, e13, off14, o15, o16)) : chC R_F18 [.pv (.str s1), .agg [.pv (.int .i64 xat2), .vec 0 (List.length l7), .pv (.int .i64 xend3), .pv (.bool xname4), .vec 1 (List.length l8), .pv (.int .i64 xe5), .pv (.int .i64 xoff6)]] [.row 32 4 (List.map Token.pv l7) true, .row 9 1 (List.map PV.str l8) true] = some ((bif tag9 then [.agg [.pv (.int .i64 at10), .vec 0 (List.length o15), .pv (.int .i64 end11), .pv (.bool name12), .vec 1 (List.length o16), .pv (.int .i64 e13), .pv (.int .i64 off14)]] else [.agg [.pv (.int .i64 at10), .vec 0 (List.length o15), .pv (.int .i64 end11), .pv (.bool name12), .nils, .pv (.int .i64 e13), .pv (.int .i64 off14)]]), (bif tag9 then [.row 32 4 (List.map Token.pv o15) true, .row 9 1 (List.map PV.str o16) true] else [.row 32 4 (List.map Token.pv o15) true, .row 9 1 (List.map PV.str o16) true])) := by
  refine chC_eq ⟨s1, xat2, xend3, xname4, xe5, xoff6, l7, l8, tag9, at10, end11, name12, e13, off14, o15, o16, h, rfl, rfl, rfl⟩ ?_
  rintro y ⟨s1p, xat2p, xend3p, xname4p, xe5p, xoff6p, l7p, l8p, tag9p, at10p, end11p, name12p, e13p, off14p, o15p, o16p, hp, ha, hH, rfl⟩
  simp only [List.cons.injEq, AV.pv.injEq, AV.agg.injEq, AV.vec.injEq, and_true, true_and, and_assoc] at ha
  obtain ⟨ya0, ya1, ya2, ya3, ya4, ya5, ya6, ya7⟩ := ha
  have e_s1 := str_inj ya0
  have e_xat2 := int_inj ya1
  have e_xend3 := int_inj ya3
  have e_xname4 := bool_inj ya4
  have e_xe5 := int_inj ya6
  have e_xoff6 := int_inj ya7
  simp only [List.cons.injEq, AObj.bld.injEq, AObj.map.injEq, AObj.row.injEq, AObj.var.injEq, AV.pv.injEq, AV.vec.injEq, and_true, true_and, and_assoc] at hH
  obtain ⟨yb0, yb1⟩ := hH
  have e_l7 := map_inj_of (fun _ _ => Token.inj) yb0
  have e_l8 := map_inj_of (fun _ _ => str_inj) yb1
  subst e_s1
  subst e_xat2
  subst e_xend3
  subst e_xname4
  subst e_xe5
  subst e_xoff6
  subst e_l7
  subst e_l8
  rw [h] at hp
  cases hp
  rfl

def R_F6 : List AV → List AObj → List AV × List AObj → Prop := fun args H x => ∃ (s1 : Str) (r2 : List Token) (r3 : Int) (r4 : Int), F6 s1 = some (r2, r3, r4) ∧ args = [.pv (.str s1)] ∧ H = [] ∧ x = ([.pv (.slice (List.map Token.pv r2)), .pv (.int .i64 r3), .pv (.int .i64 r4)], [])

theorem q_F6 (s1 : Str) (r2 : List Token) (r3 : Int) (r4 : Int) (h : F6 s1 = some (r2, r3, r4)) : chC R_F6 [.pv (.str s1)] [] = some ([.pv (.slice (List.map Token.pv r2)), .pv (.int .i64 r3), .pv (.int .i64 r4)], []) := by
  refine chC_eq ⟨s1, r2, r3, r4, h, rfl, rfl, rfl⟩ ?_
  rintro y ⟨s1p, r2p, r3p, r4p, hp, ha, hH, rfl⟩
  simp only [List.cons.injEq, AV.pv.injEq, AV.agg.injEq, AV.vec.injEq, and_true, true_and, and_assoc] at ha
  have ya0 := ha
  have e_s1 := str_inj ya0
  subst e_s1
  rw [h] at hp
  cases hp
  rfl

def R_F7 : List AV → List AObj → List AV × List AObj → Prop := fun args H x => ∃ (a1 : List Token) (b2 : List Token) (r3 : Bool), F7 a1 b2 = some r3 ∧ args = [.pv (.slice (List.map Token.pv a1)), .pv (.slice (List.map Token.pv b2))] ∧ H = [] ∧ x = ([.pv (.bool r3)], [])

theorem q_F7 (a1 : List Token) (b2 : List Token) (r3 : Bool) (h : F7 a1 b2 = some r3) : chC R_F7 [.pv (.slice (List.map Token.pv a1)), .pv (.slice (List.map Token.pv b2))] [] = some ([.pv (.bool r3)], []) := by
  refine chC_eq ⟨a1, b2, r3, h, rfl, rfl, rfl⟩ ?_
  rintro y ⟨a1p, b2p, r3p, hp, ha, hH, rfl⟩
  simp only [List.cons.injEq, AV.pv.injEq, AV.agg.injEq, AV.vec.injEq, and_true, true_and, and_assoc] at ha
  obtain ⟨ya0, ya1⟩ := ha
  have e_a1 := map_inj_of (fun _ _ => Token.inj) (PV.slice.inj ya0)
  have e_b2 := map_inj_of (fun _ _ => Token.inj) (PV.slice.inj ya1)
  subst e_a1
  subst e_b2
  rw [h] at hp
  cases hp
  rfl

def R_F3 : List AV → List AObj → List AV × List AObj → Prop := fun args H x => ∃ (s1 : Str) (r2 : Bool), F3 s1 = some r2 ∧ args = [.pv (.str s1)] ∧ H = [] ∧ x = ([.pv (.bool r2)], [])

theorem q_F3 (s1 : Str) (r2 : Bool) (h : F3 s1 = some r2) : chC R_F3 [.pv (.str s1)] [] = some ([.pv (.bool r2)], []) := by
  refine chC_eq ⟨s1, r2, h, rfl, rfl, rfl⟩ ?_
  rintro y ⟨s1p, r2p, hp, ha, hH, rfl⟩
  simp only [List.cons.injEq, AV.pv.injEq, AV.agg.injEq, AV.vec.injEq, and_true, true_and, and_assoc] at ha
  have ya0 := ha
  have e_s1 := str_inj ya0
  subst e_s1
  rw [h] at hp
  cases hp
  rfl

noncomputable def k0 : List (FuncId × (List AV → List AObj → Option (List AV × List AObj))) := []

theorem s0 : Sound env (mkOrc pfn k0) := Sound.nil pfn

noncomputable def k1 := (13, chC R_L_IndexByte) :: k0

theorem s1 : Sound env (mkOrc pfn k1) := by
  refine Sound.cons s0 ⟨Tryz.f13, fn_13, rfl, by kernel_rfl⟩ fun args H rs H2 hc => ?_
  obtain ⟨s, c, n, h, rfl, rfl, hx⟩ := chC_some hc
  cases hx
  exact g_L_IndexByte  s c n h

noncomputable def k2 := (22, chC R_L_Join) :: k1

theorem s2 : Sound env (mkOrc pfn k2) := by
  refine Sound.cons s1 ⟨Tryz.f22, fn_22, rfl, by kernel_rfl⟩ fun args H rs H2 hc => ?_
  obtain ⟨xs, sep, s, h, rfl, rfl, hx⟩ := chC_some hc
  cases hx
  exact g_L_Join  xs sep s h

noncomputable def k3 := (23, chC R_L_ReplaceAll) :: k2

theorem s3 : Sound env (mkOrc pfn k3) := by
  refine Sound.cons s2 ⟨Tryz.f23, fn_23, rfl, by kernel_rfl⟩ fun args H rs H2 hc => ?_
  obtain ⟨s, a, b, t, h, rfl, rfl, hx⟩ := chC_some hc
  cases hx
  exact g_L_ReplaceAll  s a b t h

noncomputable def k4 := (41, chC R_L_Cut) :: k3

theorem s4 : Sound env (mkOrc pfn k4) := by
  refine Sound.cons s3 ⟨Tryz.f41, fn_41, rfl, by kernel_rfl⟩ fun args H rs H2 hc => ?_
  obtain ⟨s, sep, a, b, ok, h, rfl, rfl, hx⟩ := chC_some hc
  cases hx
  exact g_L_Cut  s sep a b ok h

noncomputable def k5 := (43, chC R_L_WriteString) :: k4

theorem s5 : Sound env (mkOrc pfn k5) := by
  refine Sound.cons s4 ⟨Tryz.f43, fn_43, rfl, by kernel_rfl⟩ fun args H rs H2 hc => ?_
  obtain ⟨b, s, n, c, h, rfl, rfl, hx⟩ := chC_some hc
  cases hx
  exact g_L_WriteString  b s n c h

noncomputable def k6 := (44, chC R_L_String) :: k5

theorem s6 : Sound env (mkOrc pfn k6) := by
  refine Sound.cons s5 ⟨Tryz.f44, fn_44, rfl, by kernel_rfl⟩ fun args H rs H2 hc => ?_
  obtain ⟨b, s, h, rfl, rfl, hx⟩ := chC_some hc
  cases hx
  exact g_L_String  b s h

noncomputable def k7 := (48, chC R_L_WriteByte) :: k6

theorem s7 : Sound env (mkOrc pfn k7) := by
  refine Sound.cons s6 ⟨Tryz.f48, fn_48, rfl, by kernel_rfl⟩ fun args H rs H2 hc => ?_
  obtain ⟨b, c, d, h, rfl, rfl, hx⟩ := chC_some hc
  cases hx
  exact g_L_WriteByte  b c d h

noncomputable def k8 := (50, chC R_L_Repeat) :: k7

theorem s8 : Sound env (mkOrc pfn k8) := by
  refine Sound.cons s7 ⟨Tryz.f50, fn_50, rfl, by kernel_rfl⟩ fun args H rs H2 hc => ?_
  obtain ⟨s, n, t, h, rfl, rfl, hx⟩ := chC_some hc
  cases hx
  exact g_L_Repeat  s n t h

noncomputable def k9 := (77, chC R_L_Atoi) :: k8

theorem s9 : Sound env (mkOrc pfn k9) := by
  refine Sound.cons s8 ⟨Tryz.f77, fn_77, rfl, by kernel_rfl⟩ fun args H rs H2 hc => ?_
  obtain ⟨s, n, bad, h, rfl, rfl, hx⟩ := chC_some hc
  cases hx
  exact g_L_Atoi  s n bad h

noncomputable def k10 := (78, chC R_L_Itoa) :: k9

theorem s10 : Sound env (mkOrc pfn k10) := by
  refine Sound.cons s9 ⟨Tryz.f78, fn_78, rfl, by kernel_rfl⟩ fun args H rs H2 hc => ?_
  obtain ⟨n, s, h, rfl, rfl, hx⟩ := chC_some hc
  cases hx
  exact g_L_Itoa  n s h

noncomputable def k11 := (27, chC R_F27) :: k10

theorem s11 : Sound env (mkOrc pfn k11) := by
  refine Sound.cons s10 ⟨Tryz.f27, fn_27, rfl, by kernel_rfl⟩ fun args H rs H2 hc => ?_
  obtain ⟨s1, prefix2, r3, h, rfl, rfl, hx⟩ := chC_some hc
  cases hx
  exact g_F27 s10 rfl s1 prefix2 r3 h

noncomputable def k12 := (15, chC R_F15) :: k11

theorem s12 : Sound env (mkOrc pfn k12) := by
  refine Sound.cons s11 ⟨Tryz.f15, fn_15, rfl, by kernel_rfl⟩ fun args H rs H2 hc => ?_
  obtain ⟨s1, prefix2, r3, h, rfl, rfl, hx⟩ := chC_some hc
  cases hx
  exact g_F15 s11 rfl (fun s1 prefix2 r3 h => q_F27 s1 prefix2 r3 h) s1 prefix2 r3 h

noncomputable def k13 := (20, chC R_F20) :: k12

theorem s13 : Sound env (mkOrc pfn k13) := by
  refine Sound.cons s12 ⟨Tryz.f20, fn_20, rfl, by kernel_rfl⟩ fun args H rs H2 hc => ?_
  obtain ⟨s1, at2, r3, r4, h, rfl, rfl, hx⟩ := chC_some hc
  cases hx
  exact g_F20 s12 rfl (fun s sep a b ok h => q_L_Cut s sep a b ok h) s1 at2 r3 r4 h

noncomputable def k14 := (21, chC R_F21) :: k13

theorem s14 : Sound env (mkOrc pfn k14) := by
  refine Sound.cons s13 ⟨Tryz.f21, fn_21, rfl, by kernel_rfl⟩ fun args H rs H2 hc => ?_
  obtain ⟨s1, v2, r3, h, rfl, rfl, hx⟩ := chC_some hc
  cases hx
  exact g_F21 s13 rfl s1 v2 r3 h

noncomputable def k15 := (8, chC R_F8) :: k14

theorem s15 : Sound env (mkOrc pfn k15) := by
  refine Sound.cons s14 ⟨Tryz.f8, fn_8, rfl, by kernel_rfl⟩ fun args H rs H2 hc => ?_
  obtain ⟨s1, at2, end3, r4, r5, r6, h, rfl, rfl, hx⟩ := chC_some hc
  cases hx
  exact g_F8 s14 rfl (fun s1 at2 r3 r4 h => q_F20 s1 at2 r3 r4 h) (fun s1 v2 r3 h => q_F21 s1 v2 r3 h) (fun xs sep s h => q_L_Join xs sep s h) s1 at2 end3 r4 r5 r6 h

noncomputable def k16 := (26, chC R_F26x2) :: k15

theorem s16 : Sound env (mkOrc pfn k16) := by
  refine Sound.cons s15 ⟨Tryz.f26, fn_26, rfl, by kernel_rfl⟩ fun args H rs H2 hc => ?_
  obtain ⟨off1, e2, x3, x4, x5, x6, x7, l8, l9, r10, x11, x12, h, rfl, rfl, hx⟩ := chC_some hc
  cases hx
  exact g_F26x2 s15 rfl off1 e2 x3 x4 x5 x6 x7 l8 l9 r10 x11 x12 h

noncomputable def k17 := (25, chC R_F25x1) :: k16

theorem s17 : Sound env (mkOrc pfn k17) := by
  refine Sound.cons s16 ⟨Tryz.f25, fn_25, rfl, by kernel_rfl⟩ fun args H rs H2 hc => ?_
  obtain ⟨t1, x2, x3, x4, x5, x6, l7, l8, r9, x10, x11, o12, h, rfl, rfl, hx⟩ := chC_some hc
  cases hx
  exact g_F25x1 s16 rfl (fun off1 e2 x3 x4 x5 x6 x7 l8 l9 r10 x11 x12 h => q_F26x2 off1 e2 x3 x4 x5 x6 x7 l8 l9 r10 x11 x12 h) t1 x2 x3 x4 x5 x6 l7 l8 r9 x10 x11 o12 h

noncomputable def k18 := (12, chC R_F12x2) :: k17

theorem s18 : Sound env (mkOrc pfn k18) := by
  refine Sound.cons s17 ⟨Tryz.f12, fn_12, rfl, by kernel_rfl⟩ fun args H rs H2 hc => ?_
  obtain ⟨x1, x2, x3, x4, x5, l6, l7, r8, h, rfl, rfl, hx⟩ := chC_some hc
  cases hx
  exact g_F12x2 s17 rfl x1 x2 x3 x4 x5 l6 l7 r8 h

noncomputable def k19 := (11, chC R_F11x2) :: k18

theorem s19 : Sound env (mkOrc pfn k19) := by
  refine Sound.cons s18 ⟨Tryz.f11, fn_11, rfl, by kernel_rfl⟩ fun args H rs H2 hc => ?_
  obtain ⟨x1, x2, x3, x4, x5, l6, l7, x8, h, rfl, rfl, hx⟩ := chC_some hc
  cases hx
  exact g_F11x2 s18 rfl (fun x1 x2 x3 x4 x5 l6 l7 r8 h => q_F12x2 x1 x2 x3 x4 x5 l6 l7 r8 h) (fun s1 prefix2 r3 h => q_F15 s1 prefix2 r3 h) x1 x2 x3 x4 x5 l6 l7 x8 h

noncomputable def k20 := (14, chC R_F14x1) :: k19

theorem s20 : Sound env (mkOrc pfn k20) := by
  refine Sound.cons s19 ⟨Tryz.f14, fn_14, rfl, by kernel_rfl⟩ fun args H rs H2 hc => ?_
  obtain ⟨x1, x2, x3, x4, x5, l6, l7, tag8, r9, x10, x11, x12, o13, h, rfl, rfl, hx⟩ := chC_some hc
  cases hx
  exact g_F14x1 s19 rfl (fun t1 x2 x3 x4 x5 x6 l7 l8 r9 x10 x11 o12 h => q_F25x1 t1 x2 x3 x4 x5 x6 l7 l8 r9 x10 x11 o12 h) (fun s1 at2 end3 r4 r5 r6 h => q_F8 s1 at2 end3 r4 r5 r6 h) (fun off1 e2 x3 x4 x5 x6 x7 l8 l9 r10 x11 x12 h => q_F26x2 off1 e2 x3 x4 x5 x6 x7 l8 l9 r10 x11 x12 h) x1 x2 x3 x4 x5 l6 l7 tag8 r9 x10 x11 x12 o13 h

noncomputable def k21 := (47, chC R_F47x1) :: k20

theorem s21 : Sound env (mkOrc pfn k21) := by
  refine Sound.cons s20 ⟨Tryz.f47, fn_47, rfl, by kernel_rfl⟩ fun args H rs H2 hc => ?_
  obtain ⟨x1, x2, x3, x4, x5, l6, l7, r8, h, rfl, rfl, hx⟩ := chC_some hc
  cases hx
  exact g_F47x1 s20 rfl (fun x1 x2 x3 x4 x5 l6 l7 r8 h => q_F12x2 x1 x2 x3 x4 x5 l6 l7 r8 h) (fun s c n h => q_L_IndexByte s c n h) (fun s1 prefix2 r3 h => q_F15 s1 prefix2 r3 h) x1 x2 x3 x4 x5 l6 l7 r8 h

noncomputable def k22 := (49, chC R_F49x1) :: k21

theorem s22 : Sound env (mkOrc pfn k22) := by
  refine Sound.cons s21 ⟨Tryz.f49, fn_49, rfl, by kernel_rfl⟩ fun args H rs H2 hc => ?_
  obtain ⟨x1, x2, x3, x4, x5, l6, l7, r8, r9, x10, x11, x12, h, rfl, rfl, hx⟩ := chC_some hc
  cases hx
  exact g_F49x1 s21 rfl (fun x1 x2 x3 x4 x5 l6 l7 r8 h => q_F12x2 x1 x2 x3 x4 x5 l6 l7 r8 h) (fun s c n h => q_L_IndexByte s c n h) (fun off1 e2 x3 x4 x5 x6 x7 l8 l9 r10 x11 x12 h => q_F26x2 off1 e2 x3 x4 x5 x6 x7 l8 l9 r10 x11 x12 h) (fun b s n c h => q_L_WriteString b s n c h) (fun s1 prefix2 r3 h => q_F15 s1 prefix2 r3 h) (fun b s h => q_L_String b s h) (fun b c d h => q_L_WriteByte b c d h) x1 x2 x3 x4 x5 l6 l7 r8 r9 x10 x11 x12 h

noncomputable def k23 := (28, chC R_F28x1) :: k22

theorem s23 : Sound env (mkOrc pfn k23) := by
  refine Sound.cons s22 ⟨Tryz.f28, fn_28, rfl, by kernel_rfl⟩ fun args H rs H2 hc => ?_
  obtain ⟨x1, x2, x3, x4, x5, l6, l7, r8, r9, r10, x11, x12, x13, h, rfl, rfl, hx⟩ := chC_some hc
  cases hx
  exact g_F28x1 s22 rfl (fun x1 x2 x3 x4 x5 l6 l7 r8 h => q_F47x1 x1 x2 x3 x4 x5 l6 l7 r8 h) (fun b c d h => q_L_WriteByte b c d h) (fun x1 x2 x3 x4 x5 l6 l7 r8 h => q_F12x2 x1 x2 x3 x4 x5 l6 l7 r8 h) (fun s1 prefix2 r3 h => q_F15 s1 prefix2 r3 h) (fun x1 x2 x3 x4 x5 l6 l7 r8 r9 x10 x11 x12 h => q_F49x1 x1 x2 x3 x4 x5 l6 l7 r8 r9 x10 x11 x12 h) (fun b s n c h => q_L_WriteString b s n c h) (fun s n t h => q_L_Repeat s n t h) (fun b s h => q_L_String b s h) x1 x2 x3 x4 x5 l6 l7 r8 r9 r10 x11 x12 x13 h

noncomputable def k24 := (16, chC R_F16) :: k23

theorem s24 : Sound env (mkOrc pfn k24) := by
  refine Sound.cons s23 ⟨Tryz.f16, fn_16, rfl, by kernel_rfl⟩ fun args H rs H2 hc => ?_
  obtain ⟨x1, x2, x3, x4, x5, l6, l7, r8, x9, x10, x11, o12, o13, h, rfl, rfl, hx⟩ := chC_some hc
  cases hx
  exact g_F16 s23 rfl (fun x1 x2 x3 x4 x5 l6 l7 x8 h => q_F11x2 x1 x2 x3 x4 x5 l6 l7 x8 h) (fun x1 x2 x3 x4 x5 l6 l7 r8 r9 r10 x11 x12 x13 h => q_F28x1 x1 x2 x3 x4 x5 l6 l7 r8 r9 r10 x11 x12 x13 h) (fun off1 e2 x3 x4 x5 x6 x7 l8 l9 r10 x11 x12 h => q_F26x2 off1 e2 x3 x4 x5 x6 x7 l8 l9 r10 x11 x12 h) (fun t1 x2 x3 x4 x5 x6 l7 l8 r9 x10 x11 o12 h => q_F25x1 t1 x2 x3 x4 x5 x6 l7 l8 r9 x10 x11 o12 h) x1 x2 x3 x4 x5 l6 l7 r8 x9 x10 x11 o12 o13 h

noncomputable def k25 := (29, chC R_F29) :: k24

theorem s25 : Sound env (mkOrc pfn k25) := by
  refine Sound.cons s24 ⟨Tryz.f29, fn_29, rfl, by kernel_rfl⟩ fun args H rs H2 hc => ?_
  obtain ⟨x1, x2, x3, x4, x5, l6, l7, r8, h, rfl, rfl, hx⟩ := chC_some hc
  cases hx
  exact g_F29 s24 rfl x1 x2 x3 x4 x5 l6 l7 r8 h

noncomputable def k26 := (67, chC R_F67) :: k25

theorem s26 : Sound env (mkOrc pfn k26) := by
  refine Sound.cons s25 ⟨Tryz.f67, fn_67, rfl, by kernel_rfl⟩ fun args H rs H2 hc => ?_
  obtain ⟨s1, r2, h, rfl, rfl, hx⟩ := chC_some hc
  cases hx
  exact g_F67 s25 rfl (fun s n bad h => q_L_Atoi s n bad h) (fun n s h => q_L_Itoa n s h) s1 r2 h

noncomputable def k27 := (51, chC R_F51) :: k26

theorem s27 : Sound env (mkOrc pfn k27) := by
  refine Sound.cons s26 ⟨Tryz.f51, fn_51, rfl, by kernel_rfl⟩ fun args H rs H2 hc => ?_
  obtain ⟨s1, pair2, r3, h, rfl, rfl, hx⟩ := chC_some hc
  cases hx
  exact g_F51 s26 rfl (fun s c n h => q_L_IndexByte s c n h) (fun s sep a b ok h => q_L_Cut s sep a b ok h) (fun s1 r2 h => q_F67 s1 r2 h) s1 pair2 r3 h

noncomputable def k28 := (30, chC R_F30) :: k27

theorem s28 : Sound env (mkOrc pfn k28) := by
  refine Sound.cons s27 ⟨Tryz.f30, fn_30, rfl, by kernel_rfl⟩ fun args H rs H2 hc => ?_
  obtain ⟨x1, x2, x3, x4, x5, l6, l7, r8, r9, x10, x11, h, rfl, rfl, hx⟩ := chC_some hc
  cases hx
  exact g_F30 s27 rfl (fun x1 x2 x3 x4 x5 l6 l7 r8 h => q_F12x2 x1 x2 x3 x4 x5 l6 l7 r8 h) (fun s1 prefix2 r3 h => q_F15 s1 prefix2 r3 h) (fun s c n h => q_L_IndexByte s c n h) (fun s1 pair2 r3 h => q_F51 s1 pair2 r3 h) (fun off1 e2 x3 x4 x5 x6 x7 l8 l9 r10 x11 x12 h => q_F26x2 off1 e2 x3 x4 x5 x6 x7 l8 l9 r10 x11 x12 h) x1 x2 x3 x4 x5 l6 l7 r8 r9 x10 x11 h

noncomputable def k29 := (31, chC R_F31) :: k28

theorem s29 : Sound env (mkOrc pfn k29) := by
  refine Sound.cons s28 ⟨Tryz.f31, fn_31, rfl, by kernel_rfl⟩ fun args H rs H2 hc => ?_
  obtain ⟨t1, touches2, x3, x4, x5, x6, x7, l8, l9, r10, x11, x12, o13, h, rfl, rfl, hx⟩ := chC_some hc
  cases hx
  exact g_F31 s28 rfl (fun s c n h => q_L_IndexByte s c n h) (fun t1 x2 x3 x4 x5 x6 l7 l8 r9 x10 x11 o12 h => q_F25x1 t1 x2 x3 x4 x5 x6 l7 l8 r9 x10 x11 o12 h) t1 touches2 x3 x4 x5 x6 x7 l8 l9 r10 x11 x12 o13 h

noncomputable def k30 := (52, chC R_F52) :: k29

theorem s30 : Sound env (mkOrc pfn k30) := by
  refine Sound.cons s29 ⟨Tryz.f52, fn_52, rfl, by kernel_rfl⟩ fun args H rs H2 hc => ?_
  obtain ⟨c1, r2, h, rfl, rfl, hx⟩ := chC_some hc
  cases hx
  exact g_F52 s29 rfl c1 r2 h

noncomputable def k31 := (32, chC R_F32) :: k30

theorem s31 : Sound env (mkOrc pfn k31) := by
  refine Sound.cons s30 ⟨Tryz.f32, fn_32, rfl, by kernel_rfl⟩ fun args H rs H2 hc => ?_
  obtain ⟨x1, x2, x3, x4, x5, l6, l7, r8, x9, x10, x11, o12, h, rfl, rfl, hx⟩ := chC_some hc
  cases hx
  exact g_F32 s30 rfl (fun c1 r2 h => q_F52 c1 r2 h) (fun off1 e2 x3 x4 x5 x6 x7 l8 l9 r10 x11 x12 h => q_F26x2 off1 e2 x3 x4 x5 x6 x7 l8 l9 r10 x11 x12 h) (fun s n t h => q_L_Repeat s n t h) (fun t1 x2 x3 x4 x5 x6 l7 l8 r9 x10 x11 o12 h => q_F25x1 t1 x2 x3 x4 x5 x6 l7 l8 r9 x10 x11 o12 h) x1 x2 x3 x4 x5 l6 l7 r8 x9 x10 x11 o12 h

noncomputable def k32 := (17, chC R_F17) :: k31

theorem s32 : Sound env (mkOrc pfn k32) := by
  refine Sound.cons s31 ⟨Tryz.f17, fn_17, rfl, by kernel_rfl⟩ fun args H rs H2 hc => ?_
  obtain ⟨x1, x2, x3, x4, x5, l6, l7, r8, x9, x10, x11, o12, h, rfl, rfl, hx⟩ := chC_some hc
  cases hx
  exact g_F17 s31 rfl (fun x1 x2 x3 x4 x5 l6 l7 r8 h => q_F29 x1 x2 x3 x4 x5 l6 l7 r8 h) (fun x1 x2 x3 x4 x5 l6 l7 r8 r9 x10 x11 h => q_F30 x1 x2 x3 x4 x5 l6 l7 r8 r9 x10 x11 h) (fun t1 touches2 x3 x4 x5 x6 x7 l8 l9 r10 x11 x12 o13 h => q_F31 t1 touches2 x3 x4 x5 x6 x7 l8 l9 r10 x11 x12 o13 h) (fun x1 x2 x3 x4 x5 l6 l7 r8 x9 x10 x11 o12 h => q_F32 x1 x2 x3 x4 x5 l6 l7 r8 x9 x10 x11 o12 h) (fun x1 x2 x3 x4 x5 l6 l7 r8 r9 r10 x11 x12 x13 h => q_F28x1 x1 x2 x3 x4 x5 l6 l7 r8 r9 r10 x11 x12 x13 h) x1 x2 x3 x4 x5 l6 l7 r8 x9 x10 x11 o12 h

noncomputable def k33 := (5, chC R_F5) :: k32

theorem s33 : Sound env (mkOrc pfn k33) := by
  refine Sound.cons s32 ⟨Tryz.f5, fn_5, rfl, by kernel_rfl⟩ fun args H rs H2 hc => ?_
  obtain ⟨s1, r2, r3, r4, h, rfl, rfl, hx⟩ := chC_some hc
  cases hx
  exact g_F5 s32 rfl (fun x1 x2 x3 x4 x5 l6 l7 x8 h => q_F11x2 x1 x2 x3 x4 x5 l6 l7 x8 h) (fun x1 x2 x3 x4 x5 l6 l7 r8 h => q_F12x2 x1 x2 x3 x4 x5 l6 l7 r8 h) (fun s c n h => q_L_IndexByte s c n h) (fun x1 x2 x3 x4 x5 l6 l7 tag8 r9 x10 x11 x12 o13 h => q_F14x1 x1 x2 x3 x4 x5 l6 l7 tag8 r9 x10 x11 x12 o13 h) (fun s1 prefix2 r3 h => q_F15 s1 prefix2 r3 h) (fun x1 x2 x3 x4 x5 l6 l7 r8 x9 x10 x11 o12 o13 h => q_F16 x1 x2 x3 x4 x5 l6 l7 r8 x9 x10 x11 o12 o13 h) (fun x1 x2 x3 x4 x5 l6 l7 r8 x9 x10 x11 o12 h => q_F17 x1 x2 x3 x4 x5 l6 l7 r8 x9 x10 x11 o12 h) s1 r2 r3 r4 h

noncomputable def k34 := (10, chC R_F10) :: k33

theorem s34 : Sound env (mkOrc pfn k34) := by
  refine Sound.cons s33 ⟨Tryz.f10, fn_10, rfl, by kernel_rfl⟩ fun args H rs H2 hc => ?_
  obtain ⟨s1, r2, h, rfl, rfl, hx⟩ := chC_some hc
  cases hx
  exact g_F10 s33 rfl (fun s c n h => q_L_IndexByte s c n h) s1 r2 h

noncomputable def k35 := (9, chC R_F9) :: k34

theorem s35 : Sound env (mkOrc pfn k35) := by
  refine Sound.cons s34 ⟨Tryz.f9, fn_9, rfl, by kernel_rfl⟩ fun args H rs H2 hc => ?_
  obtain ⟨s1, r2, h, rfl, rfl, hx⟩ := chC_some hc
  cases hx
  exact g_F9 s34 rfl (fun s1 r2 h => q_F10 s1 r2 h) (fun s a b t h => q_L_ReplaceAll s a b t h) s1 r2 h

noncomputable def k36 := (4, chC R_F4) :: k35

theorem s36 : Sound env (mkOrc pfn k36) := by
  refine Sound.cons s35 ⟨Tryz.f4, fn_4, rfl, by kernel_rfl⟩ fun args H rs H2 hc => ?_
  obtain ⟨r1, h, rfl, rfl, hx⟩ := chC_some hc
  cases hx
  exact g_F4 s35 rfl (fun s1 r2 r3 r4 h => q_F5 s1 r2 r3 r4 h) (fun s1 at2 end3 r4 r5 r6 h => q_F8 s1 at2 end3 r4 r5 r6 h) (fun s1 r2 h => q_F9 s1 r2 h) (fun s1 r2 h => q_F10 s1 r2 h) r1 h

noncomputable def k37 := (53, chC R_F53) :: k36

theorem s37 : Sound env (mkOrc pfn k37) := by
  refine Sound.cons s36 ⟨Tryz.f53, fn_53, rfl, by kernel_rfl⟩ fun args H rs H2 hc => ?_
  obtain ⟨c1, r2, h, rfl, rfl, hx⟩ := chC_some hc
  cases hx
  exact g_F53 s36 rfl c1 r2 h

noncomputable def k38 := (19, chC R_F19) :: k37

theorem s38 : Sound env (mkOrc pfn k38) := by
  refine Sound.cons s37 ⟨Tryz.f19, fn_19, rfl, by kernel_rfl⟩ fun args H rs H2 hc => ?_
  obtain ⟨xat1, xend2, xname3, xe4, xoff5, e6, off7, l8, l9, at10, end11, name12, e13, off14, h, rfl, rfl, hx⟩ := chC_some hc
  cases hx
  exact g_F19 s37 rfl xat1 xend2 xname3 xe4 xoff5 e6 off7 l8 l9 at10 end11 name12 e13 off14 h

noncomputable def k39 := (35, chC R_F35) :: k38

theorem s39 : Sound env (mkOrc pfn k39) := by
  refine Sound.cons s38 ⟨Tryz.f35, fn_35, rfl, by kernel_rfl⟩ fun args H rs H2 hc => ?_
  obtain ⟨xat1, xend2, xname3, xe4, xoff5, t6, l7, l8, at9, end10, name11, e12, off13, o14, h, rfl, rfl, hx⟩ := chC_some hc
  cases hx
  exact g_F35 s38 rfl (fun xat1 xend2 xname3 xe4 xoff5 e6 off7 l8 l9 at10 end11 name12 e13 off14 h => q_F19 xat1 xend2 xname3 xe4 xoff5 e6 off7 l8 l9 at10 end11 name12 e13 off14 h) xat1 xend2 xname3 xe4 xoff5 t6 l7 l8 at9 end10 name11 e12 off13 o14 h

noncomputable def k40 := (33, chC R_F33) :: k39

theorem s40 : Sound env (mkOrc pfn k40) := by
  refine Sound.cons s39 ⟨Tryz.f33, fn_33, rfl, by kernel_rfl⟩ fun args H rs H2 hc => ?_
  obtain ⟨s1, xat2, xend3, xname4, xe5, xoff6, l7, l8, at9, end10, name11, e12, off13, o14, h, rfl, rfl, hx⟩ := chC_some hc
  cases hx
  exact g_F33 s39 rfl (fun c1 r2 h => q_F53 c1 r2 h) (fun xat1 xend2 xname3 xe4 xoff5 e6 off7 l8 l9 at10 end11 name12 e13 off14 h => q_F19 xat1 xend2 xname3 xe4 xoff5 e6 off7 l8 l9 at10 end11 name12 e13 off14 h) (fun xat1 xend2 xname3 xe4 xoff5 t6 l7 l8 at9 end10 name11 e12 off13 o14 h => q_F35 xat1 xend2 xname3 xe4 xoff5 t6 l7 l8 at9 end10 name11 e12 off13 o14 h) s1 xat2 xend3 xname4 xe5 xoff6 l7 l8 at9 end10 name11 e12 off13 o14 h

noncomputable def k41 := (34, chC R_F34) :: k40

theorem s41 : Sound env (mkOrc pfn k41) := by
  refine Sound.cons s40 ⟨Tryz.f34, fn_34, rfl, by kernel_rfl⟩ fun args H rs H2 hc => ?_
  obtain ⟨s1, at2, r3, h, rfl, rfl, hx⟩ := chC_some hc
  cases hx
  exact g_F34 s40 rfl s1 at2 r3 h

noncomputable def k42 := (54, chC R_F54) :: k41

theorem s42 : Sound env (mkOrc pfn k42) := by
  refine Sound.cons s41 ⟨Tryz.f54, fn_54, rfl, by kernel_rfl⟩ fun args H rs H2 hc => ?_
  obtain ⟨s1, at2, end3, r4, r5, r6, h, rfl, rfl, hx⟩ := chC_some hc
  cases hx
  exact g_F54 s41 rfl s1 at2 end3 r4 r5 r6 h

noncomputable def k43 := (36, chC R_F36) :: k42

theorem s43 : Sound env (mkOrc pfn k43) := by
  refine Sound.cons s42 ⟨Tryz.f36, fn_36, rfl, by kernel_rfl⟩ fun args H rs H2 hc => ?_
  obtain ⟨s1, xat2, xend3, xname4, xe5, xoff6, l7, l8, at9, end10, name11, e12, off13, h, rfl, rfl, hx⟩ := chC_some hc
  cases hx
  exact g_F36 s42 rfl (fun s1 at2 end3 r4 r5 r6 h => q_F54 s1 at2 end3 r4 r5 r6 h) (fun xat1 xend2 xname3 xe4 xoff5 e6 off7 l8 l9 at10 end11 name12 e13 off14 h => q_F19 xat1 xend2 xname3 xe4 xoff5 e6 off7 l8 l9 at10 end11 name12 e13 off14 h) s1 xat2 xend3 xname4 xe5 xoff6 l7 l8 at9 end10 name11 e12 off13 h

noncomputable def k44 := (55, chC R_F55) :: k43

theorem s44 : Sound env (mkOrc pfn k44) := by
  refine Sound.cons s43 ⟨Tryz.f55, fn_55, rfl, by kernel_rfl⟩ fun args H rs H2 hc => ?_
  obtain ⟨c1, all2, r3, h, rfl, rfl, hx⟩ := chC_some hc
  cases hx
  exact g_F55 s43 rfl c1 all2 r3 h

noncomputable def k45 := (57, chC R_F57) :: k44

theorem s45 : Sound env (mkOrc pfn k45) := by
  refine Sound.cons s44 ⟨Tryz.f57, fn_57, rfl, by kernel_rfl⟩ fun args H rs H2 hc => ?_
  obtain ⟨s1, at2, r3, h, rfl, rfl, hx⟩ := chC_some hc
  cases hx
  exact g_F57 s44 rfl (fun s1 at2 r3 h => q_F34 s1 at2 r3 h) (fun c1 all2 r3 h => q_F55 c1 all2 r3 h) s1 at2 r3 h

noncomputable def k46 := (58, chC R_F58) :: k45

theorem s46 : Sound env (mkOrc pfn k46) := by
  refine Sound.cons s45 ⟨Tryz.f58, fn_58, rfl, by kernel_rfl⟩ fun args H rs H2 hc => ?_
  obtain ⟨s1, at2, r3, h, rfl, rfl, hx⟩ := chC_some hc
  cases hx
  exact g_F58 s45 rfl s1 at2 r3 h

noncomputable def k47 := (40, chC R_F40) :: k46

theorem s47 : Sound env (mkOrc pfn k47) := by
  refine Sound.cons s46 ⟨Tryz.f40, fn_40, rfl, by kernel_rfl⟩ fun args H rs H2 hc => ?_
  obtain ⟨s1, at2, r3, h, rfl, rfl, hx⟩ := chC_some hc
  cases hx
  exact g_F40 s46 rfl (fun s1 at2 r3 h => q_F57 s1 at2 r3 h) (fun s1 at2 r3 h => q_F58 s1 at2 r3 h) s1 at2 r3 h

noncomputable def k48 := (37, chC R_F37) :: k47

theorem s48 : Sound env (mkOrc pfn k48) := by
  refine Sound.cons s47 ⟨Tryz.f37, fn_37, rfl, by kernel_rfl⟩ fun args H rs H2 hc => ?_
  obtain ⟨s1, xat2, xend3, xname4, xe5, xoff6, l7, l8, at9, end10, name11, e12, off13, o14, o15, h, rfl, rfl, hx⟩ := chC_some hc
  cases hx
  exact g_F37 s47 rfl (fun s1 at2 r3 h => q_F34 s1 at2 r3 h) (fun s1 at2 r3 h => q_F40 s1 at2 r3 h) (fun xat1 xend2 xname3 xe4 xoff5 e6 off7 l8 l9 at10 end11 name12 e13 off14 h => q_F19 xat1 xend2 xname3 xe4 xoff5 e6 off7 l8 l9 at10 end11 name12 e13 off14 h) (fun xat1 xend2 xname3 xe4 xoff5 t6 l7 l8 at9 end10 name11 e12 off13 o14 h => q_F35 xat1 xend2 xname3 xe4 xoff5 t6 l7 l8 at9 end10 name11 e12 off13 o14 h) s1 xat2 xend3 xname4 xe5 xoff6 l7 l8 at9 end10 name11 e12 off13 o14 o15 h

noncomputable def k49 := (68, chC R_F68) :: k48

theorem s49 : Sound env (mkOrc pfn k49) := by
  refine Sound.cons s48 ⟨Tryz.f68, fn_68, rfl, by kernel_rfl⟩ fun args H rs H2 hc => ?_
  obtain ⟨s1, at2, r3, h, rfl, rfl, hx⟩ := chC_some hc
  cases hx
  exact g_F68 s48 rfl s1 at2 r3 h

noncomputable def k50 := (56, chC R_F56) :: k49

theorem s50 : Sound env (mkOrc pfn k50) := by
  refine Sound.cons s49 ⟨Tryz.f56, fn_56, rfl, by kernel_rfl⟩ fun args H rs H2 hc => ?_
  obtain ⟨s1, at2, equal3, r4, h, rfl, rfl, hx⟩ := chC_some hc
  cases hx
  exact g_F56 s49 rfl (fun s1 at2 r3 h => q_F68 s1 at2 r3 h) s1 at2 equal3 r4 h

noncomputable def k51 := (38, chC R_F38) :: k50

theorem s51 : Sound env (mkOrc pfn k51) := by
  refine Sound.cons s50 ⟨Tryz.f38, fn_38, rfl, by kernel_rfl⟩ fun args H rs H2 hc => ?_
  obtain ⟨s1, at2, r3, h, rfl, rfl, hx⟩ := chC_some hc
  cases hx
  exact g_F38 s50 rfl (fun c1 all2 r3 h => q_F55 c1 all2 r3 h) (fun s1 at2 equal3 r4 h => q_F56 s1 at2 equal3 r4 h) s1 at2 r3 h

noncomputable def k52 := (39, chC R_F39) :: k51

theorem s52 : Sound env (mkOrc pfn k52) := by
  refine Sound.cons s51 ⟨Tryz.f39, fn_39, rfl, by kernel_rfl⟩ fun args H rs H2 hc => ?_
  obtain ⟨xat1, xend2, xname3, xe4, xoff5, l6, l7, at8, end9, name10, e11, off12, o13, h, rfl, rfl, hx⟩ := chC_some hc
  cases hx
  exact g_F39 s51 rfl (fun xat1 xend2 xname3 xe4 xoff5 t6 l7 l8 at9 end10 name11 e12 off13 o14 h => q_F35 xat1 xend2 xname3 xe4 xoff5 t6 l7 l8 at9 end10 name11 e12 off13 o14 h) xat1 xend2 xname3 xe4 xoff5 l6 l7 at8 end9 name10 e11 off12 o13 h

noncomputable def k53 := (18, chC R_F18) :: k52

theorem s53 : Sound env (mkOrc pfn k53) := by
  refine Sound.cons s52 ⟨Tryz.f18, fn_18, rfl, by kernel_rfl⟩ fun args H rs H2 hc => ?_
  obtain ⟨s1, xat2, xend3, xname4, xe5, xoff6, l7, l8, tag9, at10, end11, name12, e13, off14, o15, o16, h, rfl, rfl, hx⟩ := chC_some hc
  cases hx
  exact g_F18 s52 rfl (fun s1 xat2 xend3 xname4 xe5 xoff6 l7 l8 at9 end10 name11 e12 off13 o14 h => q_F33 s1 xat2 xend3 xname4 xe5 xoff6 l7 l8 at9 end10 name11 e12 off13 o14 h) (fun s1 at2 r3 h => q_F34 s1 at2 r3 h) (fun xat1 xend2 xname3 xe4 xoff5 t6 l7 l8 at9 end10 name11 e12 off13 o14 h => q_F35 xat1 xend2 xname3 xe4 xoff5 t6 l7 l8 at9 end10 name11 e12 off13 o14 h) (fun s1 xat2 xend3 xname4 xe5 xoff6 l7 l8 at9 end10 name11 e12 off13 h => q_F36 s1 xat2 xend3 xname4 xe5 xoff6 l7 l8 at9 end10 name11 e12 off13 h) (fun s1 xat2 xend3 xname4 xe5 xoff6 l7 l8 at9 end10 name11 e12 off13 o14 o15 h => q_F37 s1 xat2 xend3 xname4 xe5 xoff6 l7 l8 at9 end10 name11 e12 off13 o14 o15 h) (fun s1 at2 r3 h => q_F38 s1 at2 r3 h) (fun xat1 xend2 xname3 xe4 xoff5 e6 off7 l8 l9 at10 end11 name12 e13 off14 h => q_F19 xat1 xend2 xname3 xe4 xoff5 e6 off7 l8 l9 at10 end11 name12 e13 off14 h) (fun xat1 xend2 xname3 xe4 xoff5 l6 l7 at8 end9 name10 e11 off12 o13 h => q_F39 xat1 xend2 xname3 xe4 xoff5 l6 l7 at8 end9 name10 e11 off12 o13 h) (fun s1 at2 r3 h => q_F40 s1 at2 r3 h) s1 xat2 xend3 xname4 xe5 xoff6 l7 l8 tag9 at10 end11 name12 e13 off14 o15 o16 h

noncomputable def k54 := (6, chC R_F6) :: k53

theorem s54 : Sound env (mkOrc pfn k54) := by
  refine Sound.cons s53 ⟨Tryz.f6, fn_6, rfl, by kernel_rfl⟩ fun args H rs H2 hc => ?_
  obtain ⟨s1, r2, r3, r4, h, rfl, rfl, hx⟩ := chC_some hc
  cases hx
  exact g_F6 s53 rfl (fun s1 xat2 xend3 xname4 xe5 xoff6 l7 l8 tag9 at10 end11 name12 e13 off14 o15 o16 h => q_F18 s1 xat2 xend3 xname4 xe5 xoff6 l7 l8 tag9 at10 end11 name12 e13 off14 o15 o16 h) (fun xat1 xend2 xname3 xe4 xoff5 e6 off7 l8 l9 at10 end11 name12 e13 off14 h => q_F19 xat1 xend2 xname3 xe4 xoff5 e6 off7 l8 l9 at10 end11 name12 e13 off14 h) s1 r2 r3 r4 h

noncomputable def k55 := (7, chC R_F7) :: k54

theorem s55 : Sound env (mkOrc pfn k55) := by
  refine Sound.cons s54 ⟨Tryz.f7, fn_7, rfl, by kernel_rfl⟩ fun args H rs H2 hc => ?_
  obtain ⟨a1, b2, r3, h, rfl, rfl, hx⟩ := chC_some hc
  cases hx
  exact g_F7 s54 rfl a1 b2 r3 h

noncomputable def k56 := (3, chC R_F3) :: k55

theorem s56 : Sound env (mkOrc pfn k56) := by
  refine Sound.cons s55 ⟨Tryz.f3, fn_3, rfl, by kernel_rfl⟩ fun args H rs H2 hc => ?_
  obtain ⟨s1, r2, h, rfl, rfl, hx⟩ := chC_some hc
  cases hx
  exact g_F3 s55 rfl (fun r1 h => q_F4 r1 h) (fun s1 r2 r3 r4 h => q_F5 s1 r2 r3 r4 h) (fun s1 r2 r3 r4 h => q_F6 s1 r2 r3 r4 h) (fun a1 b2 r3 h => q_F7 a1 b2 r3 h) s1 r2 h

theorem good_F3 (s1 : Str) (h : F3 s1 = some true) : Good env 3 [.pv (.str s1)] [] [.pv (.bool true)] [] := (s56 3 _ _ _ _ (q_F3 s1 true h)).1

end Go.Abs.U47
