/- The layer 47 laws: all of the functions together. -/
import Derived.Test.YtdmihmnegakgbaaDoorLG
import Derived.Test.YtdmihmnegakgbaaDoorW1
import Derived.Test.YtdmihmnegakgbaaDoorW2
import Derived.Test.YtdmihmnegakgbaaDoorW3
set_option linter.unusedVariables false
set_option linter.unusedSimpArgs false
namespace Go.Abs.U47
open Go.RowKit Go.Proofs

def R_L_ReplaceAll : List AV → List AObj → List AV × List AObj → Prop := fun args H x => ∃ (s : Str) (a : Str) (b : Str) (t : Str), L_ReplaceAll s a b = some t ∧ args = [.pv (.str s), .pv (.str a), .pv (.str b)] ∧ H = [] ∧ x = ([.pv (.str t)], [])

theorem q_L_ReplaceAll (s : Str) (a : Str) (b : Str) (t : Str) (h : L_ReplaceAll s a b = some t) : chC R_L_ReplaceAll [.pv (.str s), .pv (.str a), .pv (.str b)] [] = some ([.pv (.str t)], []) := by
  refine chC_eq ⟨s, a, b, t, h, rfl, rfl, rfl⟩ ?_
  rintro y ⟨sp, ap, bp, tp, hp, ha, hH, rfl⟩
  simp only [List.cons.injEq, AV.pv.injEq, and_true, true_and] at ha
  obtain ⟨ya0, ya1, ya2⟩ := ha
  have e_s := str_inj ya0
  have e_a := str_inj ya1
  have e_b := str_inj ya2
  subst e_s
  subst e_a
  subst e_b
  rw [h] at hp
  cases hp
  rfl

def R_L_IndexByte : List AV → List AObj → List AV × List AObj → Prop := fun args H x => ∃ (s : Str) (c : Int) (n : Int), L_IndexByte s c = some n ∧ args = [.pv (.str s), .pv (.int .u8 c)] ∧ H = [] ∧ x = ([.pv (.int .i64 n)], [])

theorem q_L_IndexByte (s : Str) (c : Int) (n : Int) (h : L_IndexByte s c = some n) : chC R_L_IndexByte [.pv (.str s), .pv (.int .u8 c)] [] = some ([.pv (.int .i64 n)], []) := by
  refine chC_eq ⟨s, c, n, h, rfl, rfl, rfl⟩ ?_
  rintro y ⟨sp, cp, np, hp, ha, hH, rfl⟩
  simp only [List.cons.injEq, AV.pv.injEq, and_true, true_and] at ha
  obtain ⟨ya0, ya1⟩ := ha
  have e_s := str_inj ya0
  have e_c := int_inj ya1
  subst e_s
  subst e_c
  rw [h] at hp
  cases hp
  rfl

def R_L_Join : List AV → List AObj → List AV × List AObj → Prop := fun args H x => ∃ (xs : List Str) (sep : Str) (s : Str), L_Join xs sep = some s ∧ args = [.pv (.slice (List.map PV.str xs)), .pv (.str sep)] ∧ H = [] ∧ x = ([.pv (.str s)], [])

theorem q_L_Join (xs : List Str) (sep : Str) (s : Str) (h : L_Join xs sep = some s) : chC R_L_Join [.pv (.slice (List.map PV.str xs)), .pv (.str sep)] [] = some ([.pv (.str s)], []) := by
  refine chC_eq ⟨xs, sep, s, h, rfl, rfl, rfl⟩ ?_
  rintro y ⟨xsp, sepp, sp, hp, ha, hH, rfl⟩
  simp only [List.cons.injEq, AV.pv.injEq, and_true, true_and] at ha
  obtain ⟨ya0, ya1⟩ := ha
  have e_xs := map_inj_of (fun _ _ => str_inj) (PV.slice.inj ya0)
  have e_sep := str_inj ya1
  subst e_xs
  subst e_sep
  rw [h] at hp
  cases hp
  rfl

def R_L_Cut : List AV → List AObj → List AV × List AObj → Prop := fun args H x => ∃ (s : Str) (sep : Str) (a : Str) (b : Str) (ok : Bool), L_Cut s sep = some (a, b, ok) ∧ args = [.pv (.str s), .pv (.str sep)] ∧ H = [] ∧ x = ([.pv (.str a), .pv (.str b), .pv (.bool ok)], [])

theorem q_L_Cut (s : Str) (sep : Str) (a : Str) (b : Str) (ok : Bool) (h : L_Cut s sep = some (a, b, ok)) : chC R_L_Cut [.pv (.str s), .pv (.str sep)] [] = some ([.pv (.str a), .pv (.str b), .pv (.bool ok)], []) := by
  refine chC_eq ⟨s, sep, a, b, ok, h, rfl, rfl, rfl⟩ ?_
  rintro y ⟨sp, sepp, ap, bp, okp, hp, ha, hH, rfl⟩
  simp only [List.cons.injEq, AV.pv.injEq, and_true, true_and] at ha
  obtain ⟨ya0, ya1⟩ := ha
  have e_s := str_inj ya0
  have e_sep := str_inj ya1
  subst e_s
  subst e_sep
  rw [h] at hp
  cases hp
  rfl

def R_L_WriteString : List AV → List AObj → List AV × List AObj → Prop := fun args H x => ∃ (b : Str) (s : Str) (n : Int) (c : Str), L_WriteString b s = some (n, c) ∧ args = [.ref 0 0, .pv (.str s)] ∧ H = [.bld b] ∧ x = ([.pv (.int .i64 n), .pv (.nil)], [.bld c])

theorem q_L_WriteString (b : Str) (s : Str) (n : Int) (c : Str) (h : L_WriteString b s = some (n, c)) : chC R_L_WriteString [.ref 0 0, .pv (.str s)] [.bld b] = some ([.pv (.int .i64 n), .pv (.nil)], [.bld c]) := by
  refine chC_eq ⟨b, s, n, c, h, rfl, rfl, rfl⟩ ?_
  rintro y ⟨bp, sp, np, cp, hp, ha, hH, rfl⟩
  simp only [List.cons.injEq, AV.pv.injEq, and_true, true_and] at ha
  have ya0 := ha
  have e_s := str_inj ya0
  simp only [List.cons.injEq, AObj.bld.injEq, AObj.map.injEq, AObj.row.injEq, AObj.var.injEq, AV.pv.injEq, AV.vec.injEq, and_true, true_and, and_assoc] at hH
  have yb0 := hH
  have e_b := yb0
  subst e_b
  subst e_s
  rw [h] at hp
  cases hp
  rfl

def R_L_String : List AV → List AObj → List AV × List AObj → Prop := fun args H x => ∃ (b : Str) (s : Str), L_String b = some s ∧ args = [.ref 0 0] ∧ H = [.bld b] ∧ x = ([.pv (.str s)], [.gone])

theorem q_L_String (b : Str) (s : Str) (h : L_String b = some s) : chC R_L_String [.ref 0 0] [.bld b] = some ([.pv (.str s)], [.gone]) := by
  refine chC_eq ⟨b, s, h, rfl, rfl, rfl⟩ ?_
  rintro y ⟨bp, sp, hp, ha, hH, rfl⟩
  simp only [List.cons.injEq, AObj.bld.injEq, AObj.map.injEq, AObj.row.injEq, AObj.var.injEq, AV.pv.injEq, AV.vec.injEq, and_true, true_and, and_assoc] at hH
  have yb0 := hH
  have e_b := yb0
  subst e_b
  rw [h] at hp
  cases hp
  rfl

def R_L_WriteByte : List AV → List AObj → List AV × List AObj → Prop := fun args H x => ∃ (b : Str) (c : Int) (d : Str), L_WriteByte b c = some d ∧ args = [.ref 0 0, .pv (.int .u8 c)] ∧ H = [.bld b] ∧ x = ([.pv (.nil)], [.bld d])

theorem q_L_WriteByte (b : Str) (c : Int) (d : Str) (h : L_WriteByte b c = some d) : chC R_L_WriteByte [.ref 0 0, .pv (.int .u8 c)] [.bld b] = some ([.pv (.nil)], [.bld d]) := by
  refine chC_eq ⟨b, c, d, h, rfl, rfl, rfl⟩ ?_
  rintro y ⟨bp, cp, dp, hp, ha, hH, rfl⟩
  simp only [List.cons.injEq, AV.pv.injEq, and_true, true_and] at ha
  have ya0 := ha
  have e_c := int_inj ya0
  simp only [List.cons.injEq, AObj.bld.injEq, AObj.map.injEq, AObj.row.injEq, AObj.var.injEq, AV.pv.injEq, AV.vec.injEq, and_true, true_and, and_assoc] at hH
  have yb0 := hH
  have e_b := yb0
  subst e_b
  subst e_c
  rw [h] at hp
  cases hp
  rfl

def R_L_Repeat : List AV → List AObj → List AV × List AObj → Prop := fun args H x => ∃ (s : Str) (n : Int) (t : Str), L_Repeat s n = some t ∧ args = [.pv (.str s), .pv (.int .i64 n)] ∧ H = [] ∧ x = ([.pv (.str t)], [])

theorem q_L_Repeat (s : Str) (n : Int) (t : Str) (h : L_Repeat s n = some t) : chC R_L_Repeat [.pv (.str s), .pv (.int .i64 n)] [] = some ([.pv (.str t)], []) := by
  refine chC_eq ⟨s, n, t, h, rfl, rfl, rfl⟩ ?_
  rintro y ⟨sp, np, tp, hp, ha, hH, rfl⟩
  simp only [List.cons.injEq, AV.pv.injEq, and_true, true_and] at ha
  obtain ⟨ya0, ya1⟩ := ha
  have e_s := str_inj ya0
  have e_n := int_inj ya1
  subst e_s
  subst e_n
  rw [h] at hp
  cases hp
  rfl

def R_L_Atoi : List AV → List AObj → List AV × List AObj → Prop := fun args H x => ∃ (s : Str) (n : Int) (bad : Bool), L_Atoi s = some (n, bad) ∧ args = [.pv (.str s)] ∧ H = [] ∧ x = ([.pv (.int .i64 n), .pv ((bif bad then PV.ifc else PV.nil))], [])

theorem q_L_Atoi (s : Str) (n : Int) (bad : Bool) (h : L_Atoi s = some (n, bad)) : chC R_L_Atoi [.pv (.str s)] [] = some ([.pv (.int .i64 n), .pv ((bif bad then PV.ifc else PV.nil))], []) := by
  refine chC_eq ⟨s, n, bad, h, rfl, rfl, rfl⟩ ?_
  rintro y ⟨sp, np, badp, hp, ha, hH, rfl⟩
  simp only [List.cons.injEq, AV.pv.injEq, and_true, true_and] at ha
  have ya0 := ha
  have e_s := str_inj ya0
  subst e_s
  rw [h] at hp
  cases hp
  rfl

def R_L_Itoa : List AV → List AObj → List AV × List AObj → Prop := fun args H x => ∃ (n : Int) (s : Str), L_Itoa n = some s ∧ args = [.pv (.int .i64 n)] ∧ H = [] ∧ x = ([.pv (.str s)], [])

theorem q_L_Itoa (n : Int) (s : Str) (h : L_Itoa n = some s) : chC R_L_Itoa [.pv (.int .i64 n)] [] = some ([.pv (.str s)], []) := by
  refine chC_eq ⟨n, s, h, rfl, rfl, rfl⟩ ?_
  rintro y ⟨np, sp, hp, ha, hH, rfl⟩
  simp only [List.cons.injEq, AV.pv.injEq, and_true, true_and] at ha
  have ya0 := ha
  have e_n := int_inj ya0
  subst e_n
  rw [h] at hp
  cases hp
  rfl

def R_F35 : List AV → List AObj → List AV × List AObj → Prop := fun args H x => ∃ (s1 : Str) (prefix2 : Str) (r3 : Bool), F35 s1 prefix2 = some r3 ∧ args = [.pv (.str s1), .pv (.str prefix2)] ∧ H = [] ∧ x = ([.pv (.bool r3)], [])

theorem q_F35 (s1 : Str) (prefix2 : Str) (r3 : Bool) (h : F35 s1 prefix2 = some r3) : chC R_F35 [.pv (.str s1), .pv (.str prefix2)] [] = some ([.pv (.bool r3)], []) := by
  refine chC_eq ⟨s1, prefix2, r3, h, rfl, rfl, rfl⟩ ?_
  rintro y ⟨s1p, prefix2p, r3p, hp, ha, hH, rfl⟩
  simp only [List.cons.injEq, AV.pv.injEq, and_true, true_and] at ha
  obtain ⟨ya0, ya1⟩ := ha
  have e_s1 := str_inj ya0
  have e_prefix2 := str_inj ya1
  subst e_s1
  subst e_prefix2
  rw [h] at hp
  cases hp
  rfl

def R_F23 : List AV → List AObj → List AV × List AObj → Prop := fun args H x => ∃ (s1 : Str) (prefix2 : Str) (r3 : Bool), F23 s1 prefix2 = some r3 ∧ args = [.pv (.str s1), .pv (.str prefix2)] ∧ H = [] ∧ x = ([.pv (.bool r3)], [])

theorem q_F23 (s1 : Str) (prefix2 : Str) (r3 : Bool) (h : F23 s1 prefix2 = some r3) : chC R_F23 [.pv (.str s1), .pv (.str prefix2)] [] = some ([.pv (.bool r3)], []) := by
  refine chC_eq ⟨s1, prefix2, r3, h, rfl, rfl, rfl⟩ ?_
  rintro y ⟨s1p, prefix2p, r3p, hp, ha, hH, rfl⟩
  simp only [List.cons.injEq, AV.pv.injEq, and_true, true_and] at ha
  obtain ⟨ya0, ya1⟩ := ha
  have e_s1 := str_inj ya0
  have e_prefix2 := str_inj ya1
  subst e_s1
  subst e_prefix2
  rw [h] at hp
  cases hp
  rfl

def R_F28 : List AV → List AObj → List AV × List AObj → Prop := fun args H x => ∃ (s1 : Str) (at2 : Int) (r3 : List Str) (r4 : List Int), F28 s1 at2 = some (r3, r4) ∧ args = [.pv (.str s1), .pv (.int .i64 at2)] ∧ H = [] ∧ x = ([.pv (.slice (List.map PV.str r3)), .pv (.slice (List.map (PV.int .i64) r4))], [])

theorem q_F28 (s1 : Str) (at2 : Int) (r3 : List Str) (r4 : List Int) (h : F28 s1 at2 = some (r3, r4)) : chC R_F28 [.pv (.str s1), .pv (.int .i64 at2)] [] = some ([.pv (.slice (List.map PV.str r3)), .pv (.slice (List.map (PV.int .i64) r4))], []) := by
  refine chC_eq ⟨s1, at2, r3, r4, h, rfl, rfl, rfl⟩ ?_
  rintro y ⟨s1p, at2p, r3p, r4p, hp, ha, hH, rfl⟩
  simp only [List.cons.injEq, AV.pv.injEq, and_true, true_and] at ha
  obtain ⟨ya0, ya1⟩ := ha
  have e_s1 := str_inj ya0
  have e_at2 := int_inj ya1
  subst e_s1
  subst e_at2
  rw [h] at hp
  cases hp
  rfl

def R_F29 : List AV → List AObj → List AV × List AObj → Prop := fun args H x => ∃ (s1 : List Str) (v2 : Str) (r3 : Int), F29 s1 v2 = some r3 ∧ args = [.pv (.slice (List.map PV.str s1)), .pv (.str v2)] ∧ H = [] ∧ x = ([.pv (.int .i64 r3)], [])

theorem q_F29 (s1 : List Str) (v2 : Str) (r3 : Int) (h : F29 s1 v2 = some r3) : chC R_F29 [.pv (.slice (List.map PV.str s1)), .pv (.str v2)] [] = some ([.pv (.int .i64 r3)], []) := by
  refine chC_eq ⟨s1, v2, r3, h, rfl, rfl, rfl⟩ ?_
  rintro y ⟨s1p, v2p, r3p, hp, ha, hH, rfl⟩
  simp only [List.cons.injEq, AV.pv.injEq, and_true, true_and] at ha
  obtain ⟨ya0, ya1⟩ := ha
  have e_s1 := map_inj_of (fun _ _ => str_inj) (PV.slice.inj ya0)
  have e_v2 := str_inj ya1
  subst e_s1
  subst e_v2
  rw [h] at hp
  cases hp
  rfl

def R_F14 : List AV → List AObj → List AV × List AObj → Prop := fun args H x => ∃ (s1 : Str) (at2 : Int) (end3 : Str) (r4 : Str) (r5 : Int) (r6 : Int), F14 s1 at2 end3 = some (r4, r5, r6) ∧ args = [.pv (.str s1), .pv (.int .i64 at2), .pv (.str end3)] ∧ H = [] ∧ x = ([.pv (.str r4), .pv (.int .i64 r5), .pv (.int .i64 r6)], [])

theorem q_F14 (s1 : Str) (at2 : Int) (end3 : Str) (r4 : Str) (r5 : Int) (r6 : Int) (h : F14 s1 at2 end3 = some (r4, r5, r6)) : chC R_F14 [.pv (.str s1), .pv (.int .i64 at2), .pv (.str end3)] [] = some ([.pv (.str r4), .pv (.int .i64 r5), .pv (.int .i64 r6)], []) := by
  refine chC_eq ⟨s1, at2, end3, r4, r5, r6, h, rfl, rfl, rfl⟩ ?_
  rintro y ⟨s1p, at2p, end3p, r4p, r5p, r6p, hp, ha, hH, rfl⟩
  simp only [List.cons.injEq, AV.pv.injEq, and_true, true_and] at ha
  obtain ⟨ya0, ya1, ya2⟩ := ha
  have e_s1 := str_inj ya0
  have e_at2 := int_inj ya1
  have e_end3 := str_inj ya2
  subst e_s1
  subst e_at2
  subst e_end3
  rw [h] at hp
  cases hp
  rfl

def R_F34x2 : List AV → List AObj → List AV × List AObj → Prop := fun args H x => ∃ (off1 : Int) (e2 : Int) (x3 : Str) (x4 : Int) (x5 : Int) (x6 : Int) (x7 : Int) (l8 : List Token) (l9 : List Str) (r10 : Bool) (x11 : Int) (x12 : Int), F34x2 off1 e2 x3 x4 x5 x6 x7 l8 l9 = some (r10, x11, x12) ∧ args = [.ref 0 0, .pv (.int .i64 off1), .pv (.int .i64 e2)] ∧ H = [.var [.pv (.str x3), .pv (.int .i64 x4), .vec 1 (List.length l8), .vec 2 (List.length l9), .pv (.int .i64 x5), .pv (.int .i64 x6), .pv (.int .i64 x7)], .row 30 4 (List.map Token.pv l8) true, .row 9 1 (List.map PV.str l9) true] ∧ x = ([.pv (.bool r10)], [.var [.pv (.str x3), .pv (.int .i64 x4), .vec 1 (List.length l8), .vec 2 (List.length l9), .pv (.int .i64 x5), .pv (.int .i64 x11), .pv (.int .i64 x12)], .row 30 4 (List.map Token.pv l8) true, .row 9 1 (List.map PV.str l9) true])

theorem q_F34x2 (off1 : Int) (e2 : Int) (x3 : Str) (x4 : Int) (x5 : Int) (x6 : Int) (x7 : Int) (l8 : List Token) (l9 : List Str) (r10 : Bool) (x11 : Int) (x12 : Int) (h : F34x2 off1 e2 x3 x4 x5 x6 x7 l8 l9 = some (r10, x11, x12)) : chC R_F34x2 [.ref 0 0, .pv (.int .i64 off1), .pv (.int .i64 e2)] [.var [.pv (.str x3), .pv (.int .i64 x4), .vec 1 (List.length l8), .vec 2 (List.length l9), .pv (.int .i64 x5), .pv (.int .i64 x6), .pv (.int .i64 x7)], .row 30 4 (List.map Token.pv l8) true, .row 9 1 (List.map PV.str l9) true] = some ([.pv (.bool r10)], [.var [.pv (.str x3), .pv (.int .i64 x4), .vec 1 (List.length l8), .vec 2 (List.length l9), .pv (.int .i64 x5), .pv (.int .i64 x11), .pv (.int .i64 x12)], .row 30 4 (List.map Token.pv l8) true, .row 9 1 (List.map PV.str l9) true]) := by
  refine chC_eq ⟨off1, e2, x3, x4, x5, x6, x7, l8, l9, r10, x11, x12, h, rfl, rfl, rfl⟩ ?_
  rintro y ⟨off1p, e2p, x3p, x4p, x5p, x6p, x7p, l8p, l9p, r10p, x11p, x12p, hp, ha, hH, rfl⟩
  simp only [List.cons.injEq, AV.pv.injEq, and_true, true_and] at ha
  obtain ⟨ya0, ya1⟩ := ha
  have e_off1 := int_inj ya0
  have e_e2 := int_inj ya1
  simp only [List.cons.injEq, AObj.bld.injEq, AObj.map.injEq, AObj.row.injEq, AObj.var.injEq, AV.pv.injEq, AV.vec.injEq, and_true, true_and, and_assoc] at hH
  obtain ⟨yb0, yb1, yb2, yb3, yb4, yb5, yb6, yb7, yb8⟩ := hH
  have e_x3 := str_inj yb0
  have e_x4 := int_inj yb1
  have e_x5 := int_inj yb4
  have e_x6 := int_inj yb5
  have e_x7 := int_inj yb6
  have e_l8 := map_inj_of (fun _ _ => Token.inj) yb7
  have e_l9 := map_inj_of (fun _ _ => str_inj) yb8
  subst e_off1
  subst e_e2
  subst e_x3
  subst e_x4
  subst e_x5
  subst e_x6
  subst e_x7
  subst e_l8
  subst e_l9
  rw [h] at hp
  cases hp
  rfl

def R_F33x1 : List AV → List AObj → List AV × List AObj → Prop := fun args H x => ∃ (t1 : Token) (x2 : Str) (x3 : Int) (x4 : Int) (x5 : Int) (x6 : Int) (l7 : List Token) (l8 : List Str) (r9 : Bool) (x10 : Int) (x11 : Int) (o12 : List Token), F33x1 t1 x2 x3 x4 x5 x6 l7 l8 = some (r9, x10, x11, o12) ∧ args = [.ref 0 0, .pv (.agg [.int .i64 t1.kind_, .int .i64 t1.at_, .str t1.text_, .str t1.quoted_])] ∧ H = [.var [.pv (.str x2), .pv (.int .i64 x3), .vec 1 (List.length l7), .vec 2 (List.length l8), .pv (.int .i64 x4), .pv (.int .i64 x5), .pv (.int .i64 x6)], .row 30 4 (List.map Token.pv l7) true, .row 9 1 (List.map PV.str l8) true] ∧ x = ([.pv (.bool r9)], [.var [.pv (.str x2), .pv (.int .i64 x3), .vec 1 (List.length o12), .vec 2 (List.length l8), .pv (.int .i64 x4), .pv (.int .i64 x10), .pv (.int .i64 x11)], .row 30 4 (List.map Token.pv o12) true, .row 9 1 (List.map PV.str l8) true])

theorem q_F33x1 (t1 : Token) (x2 : Str) (x3 : Int) (x4 : Int) (x5 : Int) (x6 : Int) (l7 : List Token) (l8 : List Str) (r9 : Bool) (x10 : Int) (x11 : Int) (o12 : List Token) (h : F33x1 t1 x2 x3 x4 x5 x6 l7 l8 = some (r9, x10, x11, o12)) : chC R_F33x1 [.ref 0 0, .pv (.agg [.int .i64 t1.kind_, .int .i64 t1.at_, .str t1.text_, .str t1.quoted_])] [.var [.pv (.str x2), .pv (.int .i64 x3), .vec 1 (List.length l7), .vec 2 (List.length l8), .pv (.int .i64 x4), .pv (.int .i64 x5), .pv (.int .i64 x6)], .row 30 4 (List.map Token.pv l7) true, .row 9 1 (List.map PV.str l8) true] = some ([.pv (.bool r9)], [.var [.pv (.str x2), .pv (.int .i64 x3), .vec 1 (List.length o12), .vec 2 (List.length l8), .pv (.int .i64 x4), .pv (.int .i64 x10), .pv (.int .i64 x11)], .row 30 4 (List.map Token.pv o12) true, .row 9 1 (List.map PV.str l8) true]) := by
  refine chC_eq ⟨t1, x2, x3, x4, x5, x6, l7, l8, r9, x10, x11, o12, h, rfl, rfl, rfl⟩ ?_
  rintro y ⟨t1p, x2p, x3p, x4p, x5p, x6p, l7p, l8p, r9p, x10p, x11p, o12p, hp, ha, hH, rfl⟩
  simp only [List.cons.injEq, AV.pv.injEq, and_true, true_and] at ha
  have ya0 := ha
  have e_t1 := Token.inj (x := t1) (y := t1p) ya0
  simp only [List.cons.injEq, AObj.bld.injEq, AObj.map.injEq, AObj.row.injEq, AObj.var.injEq, AV.pv.injEq, AV.vec.injEq, and_true, true_and, and_assoc] at hH
  obtain ⟨yb0, yb1, yb2, yb3, yb4, yb5, yb6, yb7, yb8⟩ := hH
  have e_x2 := str_inj yb0
  have e_x3 := int_inj yb1
  have e_x4 := int_inj yb4
  have e_x5 := int_inj yb5
  have e_x6 := int_inj yb6
  have e_l7 := map_inj_of (fun _ _ => Token.inj) yb7
  have e_l8 := map_inj_of (fun _ _ => str_inj) yb8
  subst e_t1
  subst e_x2
  subst e_x3
  subst e_x4
  subst e_x5
  subst e_x6
  subst e_l7
  subst e_l8
  rw [h] at hp
  cases hp
  rfl

def R_F20x2 : List AV → List AObj → List AV × List AObj → Prop := fun args H x => ∃ (x1 : Str) (x2 : Int) (x3 : Int) (x4 : Int) (x5 : Int) (l6 : List Token) (l7 : List Str) (r8 : Str), F20x2 x1 x2 x3 x4 x5 l6 l7 = some r8 ∧ args = [.ref 0 0] ∧ H = [.var [.pv (.str x1), .pv (.int .i64 x2), .vec 1 (List.length l6), .vec 2 (List.length l7), .pv (.int .i64 x3), .pv (.int .i64 x4), .pv (.int .i64 x5)], .row 30 4 (List.map Token.pv l6) true, .row 9 1 (List.map PV.str l7) true] ∧ x = ([.pv (.str r8)], [.var [.pv (.str x1), .pv (.int .i64 x2), .vec 1 (List.length l6), .vec 2 (List.length l7), .pv (.int .i64 x3), .pv (.int .i64 x4), .pv (.int .i64 x5)], .row 30 4 (List.map Token.pv l6) true, .row 9 1 (List.map PV.str l7) true])

theorem q_F20x2 (x1 : Str) (x2 : Int) (x3 : Int) (x4 : Int) (x5 : Int) (l6 : List Token) (l7 : List Str) (r8 : Str) (h : F20x2 x1 x2 x3 x4 x5 l6 l7 = some r8) : chC R_F20x2 [.ref 0 0] [.var [.pv (.str x1), .pv (.int .i64 x2), .vec 1 (List.length l6), .vec 2 (List.length l7), .pv (.int .i64 x3), .pv (.int .i64 x4), .pv (.int .i64 x5)], .row 30 4 (List.map Token.pv l6) true, .row 9 1 (List.map PV.str l7) true] = some ([.pv (.str r8)], [.var [.pv (.str x1), .pv (.int .i64 x2), .vec 1 (List.length l6), .vec 2 (List.length l7), .pv (.int .i64 x3), .pv (.int .i64 x4), .pv (.int .i64 x5)], .row 30 4 (List.map Token.pv l6) true, .row 9 1 (List.map PV.str l7) true]) := by
  refine chC_eq ⟨x1, x2, x3, x4, x5, l6, l7, r8, h, rfl, rfl, rfl⟩ ?_
  rintro y ⟨x1p, x2p, x3p, x4p, x5p, l6p, l7p, r8p, hp, ha, hH, rfl⟩
  simp only [List.cons.injEq, AObj.bld.injEq, AObj.map.injEq, AObj.row.injEq, AObj.var.injEq, AV.pv.injEq, AV.vec.injEq, and_true, true_and, and_assoc] at hH
  obtain ⟨yb0, yb1, yb2, yb3, yb4, yb5, yb6, yb7, yb8⟩ := hH
  have e_x1 := str_inj yb0
  have e_x2 := int_inj yb1
  have e_x3 := int_inj yb4
  have e_x4 := int_inj yb5
  have e_x5 := int_inj yb6
  have e_l6 := map_inj_of (fun _ _ => Token.inj) yb7
  have e_l7 := map_inj_of (fun _ _ => str_inj) yb8
  subst e_x1
  subst e_x2
  subst e_x3
  subst e_x4
  subst e_x5
  subst e_l6
  subst e_l7
  rw [h] at hp
  cases hp
  rfl

def R_F19x2 : List AV → List AObj → List AV × List AObj → Prop := fun args H x => ∃ (x1 : Str) (x2 : Int) (x3 : Int) (x4 : Int) (x5 : Int) (l6 : List Token) (l7 : List Str) (x8 : Int), F19x2 x1 x2 x3 x4 x5 l6 l7 = some x8 ∧ args = [.ref 0 0] ∧ H = [.var [.pv (.str x1), .pv (.int .i64 x2), .vec 1 (List.length l6), .vec 2 (List.length l7), .pv (.int .i64 x3), .pv (.int .i64 x4), .pv (.int .i64 x5)], .row 30 4 (List.map Token.pv l6) true, .row 9 1 (List.map PV.str l7) true] ∧ x = ([], [.var [.pv (.str x1), .pv (.int .i64 x8), .vec 1 (List.length l6), .vec 2 (List.length l7), .pv (.int .i64 x3), .pv (.int .i64 x4), .pv (.int .i64 x5)], .row 30 4 (List.map Token.pv l6) true, .row 9 1 (List.map PV.str l7) true])

theorem q_F19x2 (x1 : Str) (x2 : Int) (x3 : Int) (x4 : Int) (x5 : Int) (l6 : List Token) (l7 : List Str) (x8 : Int) (h : F19x2 x1 x2 x3 x4 x5 l6 l7 = some x8) : chC R_F19x2 [.ref 0 0] [.var [.pv (.str x1), .pv (.int .i64 x2), .vec 1 (List.length l6), .vec 2 (List.length l7), .pv (.int .i64 x3), .pv (.int .i64 x4), .pv (.int .i64 x5)], .row 30 4 (List.map Token.pv l6) true, .row 9 1 (List.map PV.str l7) true] = some ([], [.var [.pv (.str x1), .pv (.int .i64 x8), .vec 1 (List.length l6), .vec 2 (List.length l7), .pv (.int .i64 x3), .pv (.int .i64 x4), .pv (.int .i64 x5)], .row 30 4 (List.map Token.pv l6) true, .row 9 1 (List.map PV.str l7) true]) := by
  refine chC_eq ⟨x1, x2, x3, x4, x5, l6, l7, x8, h, rfl, rfl, rfl⟩ ?_
  rintro y ⟨x1p, x2p, x3p, x4p, x5p, l6p, l7p, x8p, hp, ha, hH, rfl⟩
  simp only [List.cons.injEq, AObj.bld.injEq, AObj.map.injEq, AObj.row.injEq, AObj.var.injEq, AV.pv.injEq, AV.vec.injEq, and_true, true_and, and_assoc] at hH
  obtain ⟨yb0, yb1, yb2, yb3, yb4, yb5, yb6, yb7, yb8⟩ := hH
  have e_x1 := str_inj yb0
  have e_x2 := int_inj yb1
  have e_x3 := int_inj yb4
  have e_x4 := int_inj yb5
  have e_x5 := int_inj yb6
  have e_l6 := map_inj_of (fun _ _ => Token.inj) yb7
  have e_l7 := map_inj_of (fun _ _ => str_inj) yb8
  subst e_x1
  subst e_x2
  subst e_x3
  subst e_x4
  subst e_x5
  subst e_l6
  subst e_l7
  rw [h] at hp
  cases hp
  rfl

def R_F22x1 : List AV → List AObj → List AV × List AObj → Prop := fun args H x => ∃ (x1 : Str) (x2 : Int) (x3 : Int) (x4 : Int) (x5 : Int) (l6 : List Token) (l7 : List Str) (tag8 : Bool) (r9 : Bool) (x10 : Int) (x11 : Int) (x12 : Int) (o13 : List Token), F22x1 x1 x2 x3 x4 x5 l6 l7 = some (tag8, r9, x10, x11, x12, o13) ∧ args = [.ref 0 0] ∧ H = [.var [.pv (.str x1), .pv (.int .i64 x2), .vec 1 (List.length l6), .vec 2 (List.length l7), .pv (.int .i64 x3), .pv (.int .i64 x4), .pv (.int .i64 x5)], .row 30 4 (List.map Token.pv l6) true, .row 9 1 (List.map PV.str l7) true] ∧ x = ([.pv (.bool r9)], (bif tag8 then [.var [.pv (.str x1), .pv (.int .i64 x10), .vec 1 (List.length o13), .nils, .pv (.int .i64 x3), .pv (.int .i64 x11), .pv (.int .i64 x12)], .row 30 4 (List.map Token.pv o13) true, .row 9 1 (List.map PV.str l7) true] else [.var [.pv (.str x1), .pv (.int .i64 x10), .vec 1 (List.length o13), .vec 2 (List.length l7), .pv (.int .i64 x3), .pv (.int .i64 x11), .pv (.int .i64 x12)], .row 30 4 (List.map Token.pv o13) true, .row 9 1 (List.map PV.str l7) true]))

theorem q_F22x1 (x1 : Str) (x2 : Int) (x3 : Int) (x4 : Int) (x5 : Int) (l6 : List Token) (l7 : List Str) (tag8 : Bool) (r9 : Bool) (x10 : Int) (x11 : Int) (x12 : Int) (o13 : List Token) (h : F22x1 x1 x2 x3 x4 x5 l6 l7 = some (tag8, r9, x10, x11, x12, o13)) : chC R_F22x1 [.ref 0 0] [.var [.pv (.str x1), .pv (.int .i64 x2), .vec 1 (List.length l6), .vec 2 (List.length l7), .pv (.int .i64 x3), .pv (.int .i64 x4), .pv (.int .i64 x5)], .row 30 4 (List.map Token.pv l6) true, .row 9 1 (List.map PV.str l7) true] = some ([.pv (.bool r9)], (bif tag8 then [.var [.pv (.str x1), .pv (.int .i64 x10), .vec 1 (List.length o13), .nils, .pv (.int .i64 x3), .pv (.int .i64 x11), .pv (.int .i64 x12)], .row 30 4 (List.map Token.pv o13) true, .row 9 1 (List.map PV.str l7) true] else [.var [.pv (.str x1), .pv (.int .i64 x10), .vec 1 (List.length o13), .vec 2 (List.length l7), .pv (.int .i64 x3), .pv (.int .i64 x11), .pv (.int .i64 x12)], .row 30 4 (List.map Token.pv o13) true, .row 9 1 (List.map PV.str l7) true])) := by
  refine chC_eq ⟨x1, x2, x3, x4, x5, l6, l7, tag8, r9, x10, x11, x12, o13, h, rfl, rfl, rfl⟩ ?_
  rintro y ⟨x1p, x2p, x3p, x4p, x5p, l6p, l7p, tag8p, r9p, x10p, x11p, x12p, o13p, hp, ha, hH, rfl⟩
  simp only [List.cons.injEq, AObj.bld.injEq, AObj.map.injEq, AObj.row.injEq, AObj.var.injEq, AV.pv.injEq, AV.vec.injEq, and_true, true_and, and_assoc] at hH
  obtain ⟨yb0, yb1, yb2, yb3, yb4, yb5, yb6, yb7, yb8⟩ := hH
  have e_x1 := str_inj yb0
  have e_x2 := int_inj yb1
  have e_x3 := int_inj yb4
  have e_x4 := int_inj yb5
  have e_x5 := int_inj yb6
  have e_l6 := map_inj_of (fun _ _ => Token.inj) yb7
  have e_l7 := map_inj_of (fun _ _ => str_inj) yb8
  subst e_x1
  subst e_x2
  subst e_x3
  subst e_x4
  subst e_x5
  subst e_l6
  subst e_l7
  rw [h] at hp
  cases hp
  rfl

def R_F50x1 : List AV → List AObj → List AV × List AObj → Prop := fun args H x => ∃ (x1 : Str) (x2 : Int) (x3 : Int) (x4 : Int) (x5 : Int) (l6 : List Token) (l7 : List Str) (r8 : Bool), F50x1 x1 x2 x3 x4 x5 l6 l7 = some r8 ∧ args = [.ref 0 0] ∧ H = [.var [.pv (.str x1), .pv (.int .i64 x2), .vec 1 (List.length l6), .vec 2 (List.length l7), .pv (.int .i64 x3), .pv (.int .i64 x4), .pv (.int .i64 x5)], .row 30 4 (List.map Token.pv l6) true, .row 9 1 (List.map PV.str l7) true] ∧ x = ([.pv (.bool r8)], [.var [.pv (.str x1), .pv (.int .i64 x2), .vec 1 (List.length l6), .vec 2 (List.length l7), .pv (.int .i64 x3), .pv (.int .i64 x4), .pv (.int .i64 x5)], .row 30 4 (List.map Token.pv l6) true, .row 9 1 (List.map PV.str l7) true])

theorem q_F50x1 (x1 : Str) (x2 : Int) (x3 : Int) (x4 : Int) (x5 : Int) (l6 : List Token) (l7 : List Str) (r8 : Bool) (h : F50x1 x1 x2 x3 x4 x5 l6 l7 = some r8) : chC R_F50x1 [.ref 0 0] [.var [.pv (.str x1), .pv (.int .i64 x2), .vec 1 (List.length l6), .vec 2 (List.length l7), .pv (.int .i64 x3), .pv (.int .i64 x4), .pv (.int .i64 x5)], .row 30 4 (List.map Token.pv l6) true, .row 9 1 (List.map PV.str l7) true] = some ([.pv (.bool r8)], [.var [.pv (.str x1), .pv (.int .i64 x2), .vec 1 (List.length l6), .vec 2 (List.length l7), .pv (.int .i64 x3), .pv (.int .i64 x4), .pv (.int .i64 x5)], .row 30 4 (List.map Token.pv l6) true, .row 9 1 (List.map PV.str l7) true]) := by
  refine chC_eq ⟨x1, x2, x3, x4, x5, l6, l7, r8, h, rfl, rfl, rfl⟩ ?_
  rintro y ⟨x1p, x2p, x3p, x4p, x5p, l6p, l7p, r8p, hp, ha, hH, rfl⟩
  simp only [List.cons.injEq, AObj.bld.injEq, AObj.map.injEq, AObj.row.injEq, AObj.var.injEq, AV.pv.injEq, AV.vec.injEq, and_true, true_and, and_assoc] at hH
  obtain ⟨yb0, yb1, yb2, yb3, yb4, yb5, yb6, yb7, yb8⟩ := hH
  have e_x1 := str_inj yb0
  have e_x2 := int_inj yb1
  have e_x3 := int_inj yb4
  have e_x4 := int_inj yb5
  have e_x5 := int_inj yb6
  have e_l6 := map_inj_of (fun _ _ => Token.inj) yb7
  have e_l7 := map_inj_of (fun _ _ => str_inj) yb8
  subst e_x1
  subst e_x2
  subst e_x3
  subst e_x4
  subst e_x5
  subst e_l6
  subst e_l7
  rw [h] at hp
  cases hp
  rfl

def R_F52x1 : List AV → List AObj → List AV × List AObj → Prop := fun args H x => ∃ (x1 : Str) (x2 : Int) (x3 : Int) (x4 : Int) (x5 : Int) (l6 : List Token) (l7 : List Str) (r8 : Str) (r9 : Bool) (x10 : Int) (x11 : Int) (x12 : Int), F52x1 x1 x2 x3 x4 x5 l6 l7 = some (r8, r9, x10, x11, x12) ∧ args = [.ref 0 0] ∧ H = [.var [.pv (.str x1), .pv (.int .i64 x2), .vec 1 (List.length l6), .vec 2 (List.length l7), .pv (.int .i64 x3), .pv (.int .i64 x4), .pv (.int .i64 x5)], .row 30 4 (List.map Token.pv l6) true, .row 9 1 (List.map PV.str l7) true] ∧ x = ([.pv (.str r8), .pv (.bool r9)], [.var [.pv (.str x1), .pv (.int .i64 x10), .vec 1 (List.length l6), .vec 2 (List.length l7), .pv (.int .i64 x3), .pv (.int .i64 x11), .pv (.int .i64 x12)], .row 30 4 (List.map Token.pv l6) true, .row 9 1 (List.map PV.str l7) true])

theorem q_F52x1 (x1 : Str) (x2 : Int) (x3 : Int) (x4 : Int) (x5 : Int) (l6 : List Token) (l7 : List Str) (r8 : Str) (r9 : Bool) (x10 : Int) (x11 : Int) (x12 : Int) (h : F52x1 x1 x2 x3 x4 x5 l6 l7 = some (r8, r9, x10, x11, x12)) : chC R_F52x1 [.ref 0 0] [.var [.pv (.str x1), .pv (.int .i64 x2), .vec 1 (List.length l6), .vec 2 (List.length l7), .pv (.int .i64 x3), .pv (.int .i64 x4), .pv (.int .i64 x5)], .row 30 4 (List.map Token.pv l6) true, .row 9 1 (List.map PV.str l7) true] = some ([.pv (.str r8), .pv (.bool r9)], [.var [.pv (.str x1), .pv (.int .i64 x10), .vec 1 (List.length l6), .vec 2 (List.length l7), .pv (.int .i64 x3), .pv (.int .i64 x11), .pv (.int .i64 x12)], .row 30 4 (List.map Token.pv l6) true, .row 9 1 (List.map PV.str l7) true]) := by
  refine chC_eq ⟨x1, x2, x3, x4, x5, l6, l7, r8, r9, x10, x11, x12, h, rfl, rfl, rfl⟩ ?_
  rintro y ⟨x1p, x2p, x3p, x4p, x5p, l6p, l7p, r8p, r9p, x10p, x11p, x12p, hp, ha, hH, rfl⟩
  simp only [List.cons.injEq, AObj.bld.injEq, AObj.map.injEq, AObj.row.injEq, AObj.var.injEq, AV.pv.injEq, AV.vec.injEq, and_true, true_and, and_assoc] at hH
  obtain ⟨yb0, yb1, yb2, yb3, yb4, yb5, yb6, yb7, yb8⟩ := hH
  have e_x1 := str_inj yb0
  have e_x2 := int_inj yb1
  have e_x3 := int_inj yb4
  have e_x4 := int_inj yb5
  have e_x5 := int_inj yb6
  have e_l6 := map_inj_of (fun _ _ => Token.inj) yb7
  have e_l7 := map_inj_of (fun _ _ => str_inj) yb8
  subst e_x1
  subst e_x2
  subst e_x3
  subst e_x4
  subst e_x5
  subst e_l6
  subst e_l7
  rw [h] at hp
  cases hp
  rfl

def R_F36x1 : List AV → List AObj → List AV × List AObj → Prop := fun args H x => ∃ (x1 : Str) (x2 : Int) (x3 : Int) (x4 : Int) (x5 : Int) (l6 : List Token) (l7 : List Str) (r8 : Str) (r9 : Str) (r10 : Bool) (x11 : Int) (x12 : Int) (x13 : Int), F36x1 x1 x2 x3 x4 x5 l6 l7 = some (r8, r9, r10, x11, x12, x13) ∧ args = [.ref 0 0] ∧ H = [.var [.pv (.str x1), .pv (.int .i64 x2), .vec 1 (List.length l6), .vec 2 (List.length l7), .pv (.int .i64 x3), .pv (.int .i64 x4), .pv (.int .i64 x5)], .row 30 4 (List.map Token.pv l6) true, .row 9 1 (List.map PV.str l7) true] ∧ x = ([.pv (.str r8), .pv (.str r9), .pv (.bool r10)], [.var [.pv (.str x1), .pv (.int .i64 x11), .vec 1 (List.length l6), .vec 2 (List.length l7), .pv (.int .i64 x3), .pv (.int .i64 x12), .pv (.int .i64 x13)], .row 30 4 (List.map Token.pv l6) true, .row 9 1 (List.map PV.str l7) true])

theorem q_F36x1 (x1 : Str) (x2 : Int) (x3 : Int) (x4 : Int) (x5 : Int) (l6 : List Token) (l7 : List Str) (r8 : Str) (r9 : Str) (r10 : Bool) (x11 : Int) (x12 : Int) (x13 : Int) (h : F36x1 x1 x2 x3 x4 x5 l6 l7 = some (r8, r9, r10, x11, x12, x13)) : chC R_F36x1 [.ref 0 0] [.var [.pv (.str x1), .pv (.int .i64 x2), .vec 1 (List.length l6), .vec 2 (List.length l7), .pv (.int .i64 x3), .pv (.int .i64 x4), .pv (.int .i64 x5)], .row 30 4 (List.map Token.pv l6) true, .row 9 1 (List.map PV.str l7) true] = some ([.pv (.str r8), .pv (.str r9), .pv (.bool r10)], [.var [.pv (.str x1), .pv (.int .i64 x11), .vec 1 (List.length l6), .vec 2 (List.length l7), .pv (.int .i64 x3), .pv (.int .i64 x12), .pv (.int .i64 x13)], .row 30 4 (List.map Token.pv l6) true, .row 9 1 (List.map PV.str l7) true]) := by
  refine chC_eq ⟨x1, x2, x3, x4, x5, l6, l7, r8, r9, r10, x11, x12, x13, h, rfl, rfl, rfl⟩ ?_
  rintro y ⟨x1p, x2p, x3p, x4p, x5p, l6p, l7p, r8p, r9p, r10p, x11p, x12p, x13p, hp, ha, hH, rfl⟩
  simp only [List.cons.injEq, AObj.bld.injEq, AObj.map.injEq, AObj.row.injEq, AObj.var.injEq, AV.pv.injEq, AV.vec.injEq, and_true, true_and, and_assoc] at hH
  obtain ⟨yb0, yb1, yb2, yb3, yb4, yb5, yb6, yb7, yb8⟩ := hH
  have e_x1 := str_inj yb0
  have e_x2 := int_inj yb1
  have e_x3 := int_inj yb4
  have e_x4 := int_inj yb5
  have e_x5 := int_inj yb6
  have e_l6 := map_inj_of (fun _ _ => Token.inj) yb7
  have e_l7 := map_inj_of (fun _ _ => str_inj) yb8
  subst e_x1
  subst e_x2
  subst e_x3
  subst e_x4
  subst e_x5
  subst e_l6
  subst e_l7
  rw [h] at hp
  cases hp
  rfl

def R_F24 : List AV → List AObj → List AV × List AObj → Prop := fun args H x => ∃ (x1 : Str) (x2 : Int) (x3 : Int) (x4 : Int) (x5 : Int) (l6 : List Token) (l7 : List Str) (r8 : Bool) (x9 : Int) (x10 : Int) (x11 : Int) (o12 : List Token) (o13 : List Str), F24 x1 x2 x3 x4 x5 l6 l7 = some (r8, x9, x10, x11, o12, o13) ∧ args = [.ref 0 0] ∧ H = [.var [.pv (.str x1), .pv (.int .i64 x2), .vec 1 (List.length l6), .vec 2 (List.length l7), .pv (.int .i64 x3), .pv (.int .i64 x4), .pv (.int .i64 x5)], .row 30 4 (List.map Token.pv l6) true, .row 9 1 (List.map PV.str l7) true] ∧ x = ([.pv (.bool r8)], [.var [.pv (.str x1), .pv (.int .i64 x9), .vec 1 (List.length o12), .vec 2 (List.length o13), .pv (.int .i64 x3), .pv (.int .i64 x10), .pv (.int .i64 x11)], .row 30 4 (List.map Token.pv o12) true, .row 9 1 (List.map PV.str o13) true])

theorem q_F24 (x1 : Str) (x2 : Int) (x3 : Int) (x4 : Int) (x5 : Int) (l6 : List Token) (l7 : List Str) (r8 : Bool) (x9 : Int) (x10 : Int) (x11 : Int) (o12 : List Token) (o13 : List Str) (h : F24 x1 x2 x3 x4 x5 l6 l7 = some (r8, x9, x10, x11, o12, o13)) : chC R_F24 [.ref 0 0] [.var [.pv (.str x1), .pv (.int .i64 x2), .vec 1 (List.length l6), .vec 2 (List.length l7), .pv (.int .i64 x3), .pv (.int .i64 x4), .pv (.int .i64 x5)], .row 30 4 (List.map Token.pv l6) true, .row 9 1 (List.map PV.str l7) true] = some ([.pv (.bool r8)], [.var [.pv (.str x1), .pv (.int .i64 x9), .vec 1 (List.length o12), .vec 2 (List.length o13), .pv (.int .i64 x3), .pv (.int .i64 x10), .pv (.int .i64 x11)], .row 30 4 (List.map Token.pv o12) true, .row 9 1 (List.map PV.str o13) true]) := by
  refine chC_eq ⟨x1, x2, x3, x4, x5, l6, l7, r8, x9, x10, x11, o12, o13, h, rfl, rfl, rfl⟩ ?_
  rintro y ⟨x1p, x2p, x3p, x4p, x5p, l6p, l7p, r8p, x9p, x10p, x11p, o12p, o13p, hp, ha, hH, rfl⟩
  simp only [List.cons.injEq, AObj.bld.injEq, AObj.map.injEq, AObj.row.injEq, AObj.var.injEq, AV.pv.injEq, AV.vec.injEq, and_true, true_and, and_assoc] at hH
  obtain ⟨yb0, yb1, yb2, yb3, yb4, yb5, yb6, yb7, yb8⟩ := hH
  have e_x1 := str_inj yb0
  have e_x2 := int_inj yb1
  have e_x3 := int_inj yb4
  have e_x4 := int_inj yb5
  have e_x5 := int_inj yb6
  have e_l6 := map_inj_of (fun _ _ => Token.inj) yb7
  have e_l7 := map_inj_of (fun _ _ => str_inj) yb8
  subst e_x1
  subst e_x2
  subst e_x3
  subst e_x4
  subst e_x5
  subst e_l6
  subst e_l7
  rw [h] at hp
  cases hp
  rfl

def R_F37 : List AV → List AObj → List AV × List AObj → Prop := fun args H x => ∃ (x1 : Str) (x2 : Int) (x3 : Int) (x4 : Int) (x5 : Int) (l6 : List Token) (l7 : List Str) (r8 : Bool), F37 x1 x2 x3 x4 x5 l6 l7 = some r8 ∧ args = [.ref 0 0] ∧ H = [.var [.pv (.str x1), .pv (.int .i64 x2), .vec 1 (List.length l6), .vec 2 (List.length l7), .pv (.int .i64 x3), .pv (.int .i64 x4), .pv (.int .i64 x5)], .row 30 4 (List.map Token.pv l6) true, .row 9 1 (List.map PV.str l7) true] ∧ x = ([.pv (.bool r8)], [.var [.pv (.str x1), .pv (.int .i64 x2), .vec 1 (List.length l6), .vec 2 (List.length l7), .pv (.int .i64 x3), .pv (.int .i64 x4), .pv (.int .i64 x5)], .row 30 4 (List.map Token.pv l6) true, .row 9 1 (List.map PV.str l7) true])

theorem q_F37 (x1 : Str) (x2 : Int) (x3 : Int) (x4 : Int) (x5 : Int) (l6 : List Token) (l7 : List Str) (r8 : Bool) (h : F37 x1 x2 x3 x4 x5 l6 l7 = some r8) : chC R_F37 [.ref 0 0] [.var [.pv (.str x1), .pv (.int .i64 x2), .vec 1 (List.length l6), .vec 2 (List.length l7), .pv (.int .i64 x3), .pv (.int .i64 x4), .pv (.int .i64 x5)], .row 30 4 (List.map Token.pv l6) true, .row 9 1 (List.map PV.str l7) true] = some ([.pv (.bool r8)], [.var [.pv (.str x1), .pv (.int .i64 x2), .vec 1 (List.length l6), .vec 2 (List.length l7), .pv (.int .i64 x3), .pv (.int .i64 x4), .pv (.int .i64 x5)], .row 30 4 (List.map Token.pv l6) true, .row 9 1 (List.map PV.str l7) true]) := by
  refine chC_eq ⟨x1, x2, x3, x4, x5, l6, l7, r8, h, rfl, rfl, rfl⟩ ?_
  rintro y ⟨x1p, x2p, x3p, x4p, x5p, l6p, l7p, r8p, hp, ha, hH, rfl⟩
  simp only [List.cons.injEq, AObj.bld.injEq, AObj.map.injEq, AObj.row.injEq, AObj.var.injEq, AV.pv.injEq, AV.vec.injEq, and_true, true_and, and_assoc] at hH
  obtain ⟨yb0, yb1, yb2, yb3, yb4, yb5, yb6, yb7, yb8⟩ := hH
  have e_x1 := str_inj yb0
  have e_x2 := int_inj yb1
  have e_x3 := int_inj yb4
  have e_x4 := int_inj yb5
  have e_x5 := int_inj yb6
  have e_l6 := map_inj_of (fun _ _ => Token.inj) yb7
  have e_l7 := map_inj_of (fun _ _ => str_inj) yb8
  subst e_x1
  subst e_x2
  subst e_x3
  subst e_x4
  subst e_x5
  subst e_l6
  subst e_l7
  rw [h] at hp
  cases hp
  rfl

def R_F65 : List AV → List AObj → List AV × List AObj → Prop := fun args H x => ∃ (s1 : Str) (r2 : Bool), F65 s1 = some r2 ∧ args = [.pv (.str s1)] ∧ H = [] ∧ x = ([.pv (.bool r2)], [])

theorem q_F65 (s1 : Str) (r2 : Bool) (h : F65 s1 = some r2) : chC R_F65 [.pv (.str s1)] [] = some ([.pv (.bool r2)], []) := by
  refine chC_eq ⟨s1, r2, h, rfl, rfl, rfl⟩ ?_
  rintro y ⟨s1p, r2p, hp, ha, hH, rfl⟩
  simp only [List.cons.injEq, AV.pv.injEq, and_true, true_and] at ha
  have ya0 := ha
  have e_s1 := str_inj ya0
  subst e_s1
  rw [h] at hp
  cases hp
  rfl

def R_F54 : List AV → List AObj → List AV × List AObj → Prop := fun args H x => ∃ (s1 : Str) (pair2 : Bool) (r3 : Int), F54 s1 pair2 = some r3 ∧ args = [.pv (.str s1), .pv (.bool pair2)] ∧ H = [] ∧ x = ([.pv (.int .i64 r3)], [])

theorem q_F54 (s1 : Str) (pair2 : Bool) (r3 : Int) (h : F54 s1 pair2 = some r3) : chC R_F54 [.pv (.str s1), .pv (.bool pair2)] [] = some ([.pv (.int .i64 r3)], []) := by
  refine chC_eq ⟨s1, pair2, r3, h, rfl, rfl, rfl⟩ ?_
  rintro y ⟨s1p, pair2p, r3p, hp, ha, hH, rfl⟩
  simp only [List.cons.injEq, AV.pv.injEq, and_true, true_and] at ha
  obtain ⟨ya0, ya1⟩ := ha
  have e_s1 := str_inj ya0
  have e_pair2 := bool_inj ya1
  subst e_s1
  subst e_pair2
  rw [h] at hp
  cases hp
  rfl

def R_F38 : List AV → List AObj → List AV × List AObj → Prop := fun args H x => ∃ (x1 : Str) (x2 : Int) (x3 : Int) (x4 : Int) (x5 : Int) (l6 : List Token) (l7 : List Str) (r8 : Str) (r9 : Bool) (x10 : Int) (x11 : Int), F38 x1 x2 x3 x4 x5 l6 l7 = some (r8, r9, x10, x11) ∧ args = [.ref 0 0] ∧ H = [.var [.pv (.str x1), .pv (.int .i64 x2), .vec 1 (List.length l6), .vec 2 (List.length l7), .pv (.int .i64 x3), .pv (.int .i64 x4), .pv (.int .i64 x5)], .row 30 4 (List.map Token.pv l6) true, .row 9 1 (List.map PV.str l7) true] ∧ x = ([.pv (.str r8), .pv (.bool r9)], [.var [.pv (.str x1), .pv (.int .i64 x2), .vec 1 (List.length l6), .vec 2 (List.length l7), .pv (.int .i64 x3), .pv (.int .i64 x10), .pv (.int .i64 x11)], .row 30 4 (List.map Token.pv l6) true, .row 9 1 (List.map PV.str l7) true])

theorem q_F38 (x1 : Str) (x2 : Int) (x3 : Int) (x4 : Int) (x5 : Int) (l6 : List Token) (l7 : List Str) (r8 : Str) (r9 : Bool) (x10 : Int) (x11 : Int) (h : F38 x1 x2 x3 x4 x5 l6 l7 = some (r8, r9, x10, x11)) : chC R_F38 [.ref 0 0] [.var [.pv (.str x1), .pv (.int .i64 x2), .vec 1 (List.length l6), .vec 2 (List.length l7), .pv (.int .i64 x3), .pv (.int .i64 x4), .pv (.int .i64 x5)], .row 30 4 (List.map Token.pv l6) true, .row 9 1 (List.map PV.str l7) true] = some ([.pv (.str r8), .pv (.bool r9)], [.var [.pv (.str x1), .pv (.int .i64 x2), .vec 1 (List.length l6), .vec 2 (List.length l7), .pv (.int .i64 x3), .pv (.int .i64 x10), .pv (.int .i64 x11)], .row 30 4 (List.map Token.pv l6) true, .row 9 1 (List.map PV.str l7) true]) := by
  refine chC_eq ⟨x1, x2, x3, x4, x5, l6, l7, r8, r9, x10, x11, h, rfl, rfl, rfl⟩ ?_
  rintro y ⟨x1p, x2p, x3p, x4p, x5p, l6p, l7p, r8p, r9p, x10p, x11p, hp, ha, hH, rfl⟩
  simp only [List.cons.injEq, AObj.bld.injEq, AObj.map.injEq, AObj.row.injEq, AObj.var.injEq, AV.pv.injEq, AV.vec.injEq, and_true, true_and, and_assoc] at hH
  obtain ⟨yb0, yb1, yb2, yb3, yb4, yb5, yb6, yb7, yb8⟩ := hH
  have e_x1 := str_inj yb0
  have e_x2 := int_inj yb1
  have e_x3 := int_inj yb4
  have e_x4 := int_inj yb5
  have e_x5 := int_inj yb6
  have e_l6 := map_inj_of (fun _ _ => Token.inj) yb7
  have e_l7 := map_inj_of (fun _ _ => str_inj) yb8
  subst e_x1
  subst e_x2
  subst e_x3
  subst e_x4
  subst e_x5
  subst e_l6
  subst e_l7
  rw [h] at hp
  cases hp
  rfl

def R_F39 : List AV → List AObj → List AV × List AObj → Prop := fun args H x => ∃ (t1 : Token) (touches2 : Bool) (x3 : Str) (x4 : Int) (x5 : Int) (x6 : Int) (x7 : Int) (l8 : List Token) (l9 : List Str) (r10 : Bool) (x11 : Int) (x12 : Int) (o13 : List Token), F39 t1 touches2 x3 x4 x5 x6 x7 l8 l9 = some (r10, x11, x12, o13) ∧ args = [.ref 0 0, .pv (.agg [.int .i64 t1.kind_, .int .i64 t1.at_, .str t1.text_, .str t1.quoted_]), .pv (.bool touches2)] ∧ H = [.var [.pv (.str x3), .pv (.int .i64 x4), .vec 1 (List.length l8), .vec 2 (List.length l9), .pv (.int .i64 x5), .pv (.int .i64 x6), .pv (.int .i64 x7)], .row 30 4 (List.map Token.pv l8) true, .row 9 1 (List.map PV.str l9) true] ∧ x = ([.pv (.bool r10)], [.var [.pv (.str x3), .pv (.int .i64 x4), .vec 1 (List.length o13), .vec 2 (List.length l9), .pv (.int .i64 x5), .pv (.int .i64 x11), .pv (.int .i64 x12)], .row 30 4 (List.map Token.pv o13) true, .row 9 1 (List.map PV.str l9) true])

theorem q_F39 (t1 : Token) (touches2 : Bool) (x3 : Str) (x4 : Int) (x5 : Int) (x6 : Int) (x7 : Int) (l8 : List Token) (l9 : List Str) (r10 : Bool) (x11 : Int) (x12 : Int) (o13 : List Token) (h : F39 t1 touches2 x3 x4 x5 x6 x7 l8 l9 = some (r10, x11, x12, o13)) : chC R_F39 [.ref 0 0, .pv (.agg [.int .i64 t1.kind_, .int .i64 t1.at_, .str t1.text_, .str t1.quoted_]), .pv (.bool touches2)] [.var [.pv (.str x3), .pv (.int .i64 x4), .vec 1 (List.length l8), .vec 2 (List.length l9), .pv (.int .i64 x5), .pv (.int .i64 x6), .pv (.int .i64 x7)], .row 30 4 (List.map Token.pv l8) true, .row 9 1 (List.map PV.str l9) true] = some ([.pv (.bool r10)], [.var [.pv (.str x3), .pv (.int .i64 x4), .vec 1 (List.length o13), .vec 2 (List.length l9), .pv (.int .i64 x5), .pv (.int .i64 x11), .pv (.int .i64 x12)], .row 30 4 (List.map Token.pv o13) true, .row 9 1 (List.map PV.str l9) true]) := by
  refine chC_eq ⟨t1, touches2, x3, x4, x5, x6, x7, l8, l9, r10, x11, x12, o13, h, rfl, rfl, rfl⟩ ?_
  rintro y ⟨t1p, touches2p, x3p, x4p, x5p, x6p, x7p, l8p, l9p, r10p, x11p, x12p, o13p, hp, ha, hH, rfl⟩
  simp only [List.cons.injEq, AV.pv.injEq, and_true, true_and] at ha
  obtain ⟨ya0, ya1⟩ := ha
  have e_t1 := Token.inj (x := t1) (y := t1p) ya0
  have e_touches2 := bool_inj ya1
  simp only [List.cons.injEq, AObj.bld.injEq, AObj.map.injEq, AObj.row.injEq, AObj.var.injEq, AV.pv.injEq, AV.vec.injEq, and_true, true_and, and_assoc] at hH
  obtain ⟨yb0, yb1, yb2, yb3, yb4, yb5, yb6, yb7, yb8⟩ := hH
  have e_x3 := str_inj yb0
  have e_x4 := int_inj yb1
  have e_x5 := int_inj yb4
  have e_x6 := int_inj yb5
  have e_x7 := int_inj yb6
  have e_l8 := map_inj_of (fun _ _ => Token.inj) yb7
  have e_l9 := map_inj_of (fun _ _ => str_inj) yb8
  subst e_t1
  subst e_touches2
  subst e_x3
  subst e_x4
  subst e_x5
  subst e_x6
  subst e_x7
  subst e_l8
  subst e_l9
  rw [h] at hp
  cases hp
  rfl

def R_F55 : List AV → List AObj → List AV × List AObj → Prop := fun args H x => ∃ (c1 : Int) (r2 : Bool), F55 c1 = some r2 ∧ args = [.pv (.int .u8 c1)] ∧ H = [] ∧ x = ([.pv (.bool r2)], [])

theorem q_F55 (c1 : Int) (r2 : Bool) (h : F55 c1 = some r2) : chC R_F55 [.pv (.int .u8 c1)] [] = some ([.pv (.bool r2)], []) := by
  refine chC_eq ⟨c1, r2, h, rfl, rfl, rfl⟩ ?_
  rintro y ⟨c1p, r2p, hp, ha, hH, rfl⟩
  simp only [List.cons.injEq, AV.pv.injEq, and_true, true_and] at ha
  have ya0 := ha
  have e_c1 := int_inj ya0
  subst e_c1
  rw [h] at hp
  cases hp
  rfl

def R_F40 : List AV → List AObj → List AV × List AObj → Prop := fun args H x => ∃ (x1 : Str) (x2 : Int) (x3 : Int) (x4 : Int) (x5 : Int) (l6 : List Token) (l7 : List Str) (r8 : Bool) (x9 : Int) (x10 : Int) (x11 : Int) (o12 : List Token), F40 x1 x2 x3 x4 x5 l6 l7 = some (r8, x9, x10, x11, o12) ∧ args = [.ref 0 0] ∧ H = [.var [.pv (.str x1), .pv (.int .i64 x2), .vec 1 (List.length l6), .vec 2 (List.length l7), .pv (.int .i64 x3), .pv (.int .i64 x4), .pv (.int .i64 x5)], .row 30 4 (List.map Token.pv l6) true, .row 9 1 (List.map PV.str l7) true] ∧ x = ([.pv (.bool r8)], [.var [.pv (.str x1), .pv (.int .i64 x9), .vec 1 (List.length o12), .vec 2 (List.length l7), .pv (.int .i64 x3), .pv (.int .i64 x10), .pv (.int .i64 x11)], .row 30 4 (List.map Token.pv o12) true, .row 9 1 (List.map PV.str l7) true])

theorem q_F40 (x1 : Str) (x2 : Int) (x3 : Int) (x4 : Int) (x5 : Int) (l6 : List Token) (l7 : List Str) (r8 : Bool) (x9 : Int) (x10 : Int) (x11 : Int) (o12 : List Token) (h : F40 x1 x2 x3 x4 x5 l6 l7 = some (r8, x9, x10, x11, o12)) : chC R_F40 [.ref 0 0] [.var [.pv (.str x1), .pv (.int .i64 x2), .vec 1 (List.length l6), .vec 2 (List.length l7), .pv (.int .i64 x3), .pv (.int .i64 x4), .pv (.int .i64 x5)], .row 30 4 (List.map Token.pv l6) true, .row 9 1 (List.map PV.str l7) true] = some ([.pv (.bool r8)], [.var [.pv (.str x1), .pv (.int .i64 x9), .vec 1 (List.length o12), .vec 2 (List.length l7), .pv (.int .i64 x3), .pv (.int .i64 x10), .pv (.int .i64 x11)], .row 30 4 (List.map Token.pv o12) true, .row 9 1 (List.map PV.str l7) true]) := by
  refine chC_eq ⟨x1, x2, x3, x4, x5, l6, l7, r8, x9, x10, x11, o12, h, rfl, rfl, rfl⟩ ?_
  rintro y ⟨x1p, x2p, x3p, x4p, x5p, l6p, l7p, r8p, x9p, x10p, x11p, o12p, hp, ha, hH, rfl⟩
  simp only [List.cons.injEq, AObj.bld.injEq, AObj.map.injEq, AObj.row.injEq, AObj.var.injEq, AV.pv.injEq, AV.vec.injEq, and_true, true_and, and_assoc] at hH
  obtain ⟨yb0, yb1, yb2, yb3, yb4, yb5, yb6, yb7, yb8⟩ := hH
  have e_x1 := str_inj yb0
  have e_x2 := int_inj yb1
  have e_x3 := int_inj yb4
  have e_x4 := int_inj yb5
  have e_x5 := int_inj yb6
  have e_l6 := map_inj_of (fun _ _ => Token.inj) yb7
  have e_l7 := map_inj_of (fun _ _ => str_inj) yb8
  subst e_x1
  subst e_x2
  subst e_x3
  subst e_x4
  subst e_x5
  subst e_l6
  subst e_l7
  rw [h] at hp
  cases hp
  rfl

def R_F25 : List AV → List AObj → List AV × List AObj → Prop := fun args H x => ∃ (x1 : Str) (x2 : Int) (x3 : Int) (x4 : Int) (x5 : Int) (l6 : List Token) (l7 : List Str) (r8 : Bool) (x9 : Int) (x10 : Int) (x11 : Int) (o12 : List Token), F25 x1 x2 x3 x4 x5 l6 l7 = some (r8, x9, x10, x11, o12) ∧ args = [.ref 0 0] ∧ H = [.var [.pv (.str x1), .pv (.int .i64 x2), .vec 1 (List.length l6), .vec 2 (List.length l7), .pv (.int .i64 x3), .pv (.int .i64 x4), .pv (.int .i64 x5)], .row 30 4 (List.map Token.pv l6) true, .row 9 1 (List.map PV.str l7) true] ∧ x = ([.pv (.bool r8)], [.var [.pv (.str x1), .pv (.int .i64 x9), .vec 1 (List.length o12), .vec 2 (List.length l7), .pv (.int .i64 x3), .pv (.int .i64 x10), .pv (.int .i64 x11)], .row 30 4 (List.map Token.pv o12) true, .row 9 1 (List.map PV.str l7) true])

theorem q_F25 (x1 : Str) (x2 : Int) (x3 : Int) (x4 : Int) (x5 : Int) (l6 : List Token) (l7 : List Str) (r8 : Bool) (x9 : Int) (x10 : Int) (x11 : Int) (o12 : List Token) (h : F25 x1 x2 x3 x4 x5 l6 l7 = some (r8, x9, x10, x11, o12)) : chC R_F25 [.ref 0 0] [.var [.pv (.str x1), .pv (.int .i64 x2), .vec 1 (List.length l6), .vec 2 (List.length l7), .pv (.int .i64 x3), .pv (.int .i64 x4), .pv (.int .i64 x5)], .row 30 4 (List.map Token.pv l6) true, .row 9 1 (List.map PV.str l7) true] = some ([.pv (.bool r8)], [.var [.pv (.str x1), .pv (.int .i64 x9), .vec 1 (List.length o12), .vec 2 (List.length l7), .pv (.int .i64 x3), .pv (.int .i64 x10), .pv (.int .i64 x11)], .row 30 4 (List.map Token.pv o12) true, .row 9 1 (List.map PV.str l7) true]) := by
  refine chC_eq ⟨x1, x2, x3, x4, x5, l6, l7, r8, x9, x10, x11, o12, h, rfl, rfl, rfl⟩ ?_
  rintro y ⟨x1p, x2p, x3p, x4p, x5p, l6p, l7p, r8p, x9p, x10p, x11p, o12p, hp, ha, hH, rfl⟩
  simp only [List.cons.injEq, AObj.bld.injEq, AObj.map.injEq, AObj.row.injEq, AObj.var.injEq, AV.pv.injEq, AV.vec.injEq, and_true, true_and, and_assoc] at hH
  obtain ⟨yb0, yb1, yb2, yb3, yb4, yb5, yb6, yb7, yb8⟩ := hH
  have e_x1 := str_inj yb0
  have e_x2 := int_inj yb1
  have e_x3 := int_inj yb4
  have e_x4 := int_inj yb5
  have e_x5 := int_inj yb6
  have e_l6 := map_inj_of (fun _ _ => Token.inj) yb7
  have e_l7 := map_inj_of (fun _ _ => str_inj) yb8
  subst e_x1
  subst e_x2
  subst e_x3
  subst e_x4
  subst e_x5
  subst e_l6
  subst e_l7
  rw [h] at hp
  cases hp
  rfl

def R_F10 : List AV → List AObj → List AV × List AObj → Prop := fun args H x => ∃ (s1 : Str) (r2 : List Token) (r3 : Int) (r4 : Int), F10 s1 = some (r2, r3, r4) ∧ args = [.pv (.str s1)] ∧ H = [] ∧ x = ([.pv (.slice (List.map Token.pv r2)), .pv (.int .i64 r3), .pv (.int .i64 r4)], [])

theorem q_F10 (s1 : Str) (r2 : List Token) (r3 : Int) (r4 : Int) (h : F10 s1 = some (r2, r3, r4)) : chC R_F10 [.pv (.str s1)] [] = some ([.pv (.slice (List.map Token.pv r2)), .pv (.int .i64 r3), .pv (.int .i64 r4)], []) := by
  refine chC_eq ⟨s1, r2, r3, r4, h, rfl, rfl, rfl⟩ ?_
  rintro y ⟨s1p, r2p, r3p, r4p, hp, ha, hH, rfl⟩
  simp only [List.cons.injEq, AV.pv.injEq, and_true, true_and] at ha
  have ya0 := ha
  have e_s1 := str_inj ya0
  subst e_s1
  rw [h] at hp
  cases hp
  rfl

def R_F12 : List AV → List AObj → List AV × List AObj → Prop := fun args H x => ∃ (s1 : Str) (r2 : Bool), F12 s1 = some r2 ∧ args = [.pv (.str s1)] ∧ H = [] ∧ x = ([.pv (.bool r2)], [])

theorem q_F12 (s1 : Str) (r2 : Bool) (h : F12 s1 = some r2) : chC R_F12 [.pv (.str s1)] [] = some ([.pv (.bool r2)], []) := by
  refine chC_eq ⟨s1, r2, h, rfl, rfl, rfl⟩ ?_
  rintro y ⟨s1p, r2p, hp, ha, hH, rfl⟩
  simp only [List.cons.injEq, AV.pv.injEq, and_true, true_and] at ha
  have ya0 := ha
  have e_s1 := str_inj ya0
  subst e_s1
  rw [h] at hp
  cases hp
  rfl

def R_F9 : List AV → List AObj → List AV × List AObj → Prop := fun args H x => ∃ (s1 : Str) (r2 : Str), F9 s1 = some r2 ∧ args = [.pv (.str s1)] ∧ H = [] ∧ x = ([.pv (.str r2)], [])

theorem q_F9 (s1 : Str) (r2 : Str) (h : F9 s1 = some r2) : chC R_F9 [.pv (.str s1)] [] = some ([.pv (.str r2)], []) := by
  refine chC_eq ⟨s1, r2, h, rfl, rfl, rfl⟩ ?_
  rintro y ⟨s1p, r2p, hp, ha, hH, rfl⟩
  simp only [List.cons.injEq, AV.pv.injEq, and_true, true_and] at ha
  have ya0 := ha
  have e_s1 := str_inj ya0
  subst e_s1
  rw [h] at hp
  cases hp
  rfl

def R_F8 : List AV → List AObj → List AV × List AObj → Prop := fun args H x => ∃ (r1 : Bool), F8 = some r1 ∧ args = [] ∧ H = [] ∧ x = ([.pv (.bool r1)], [])

theorem q_F8 (r1 : Bool) (h : F8 = some r1) : chC R_F8 [] [] = some ([.pv (.bool r1)], []) := by
  refine chC_eq ⟨r1, h, rfl, rfl, rfl⟩ ?_
  rintro y ⟨r1p, hp, ha, hH, rfl⟩
  rw [h] at hp
  cases hp
  rfl

def R_F41 : List AV → List AObj → List AV × List AObj → Prop := fun args H x => ∃ (s1 : Str) (at2 : Int) (r3 : Int), F41 s1 at2 = some r3 ∧ args = [.pv (.str s1), .pv (.int .i64 at2)] ∧ H = [] ∧ x = ([.pv (.int .i64 r3)], [])

theorem q_F41 (s1 : Str) (at2 : Int) (r3 : Int) (h : F41 s1 at2 = some r3) : chC R_F41 [.pv (.str s1), .pv (.int .i64 at2)] [] = some ([.pv (.int .i64 r3)], []) := by
  refine chC_eq ⟨s1, at2, r3, h, rfl, rfl, rfl⟩ ?_
  rintro y ⟨s1p, at2p, r3p, hp, ha, hH, rfl⟩
  simp only [List.cons.injEq, AV.pv.injEq, and_true, true_and] at ha
  obtain ⟨ya0, ya1⟩ := ha
  have e_s1 := str_inj ya0
  have e_at2 := int_inj ya1
  subst e_s1
  subst e_at2
  rw [h] at hp
  cases hp
  rfl

def R_F27 : List AV → List AObj → List AV × List AObj → Prop := fun args H x => ∃ (c1 : Int) (all2 : Str) (r3 : Bool), F27 c1 all2 = some r3 ∧ args = [.pv (.int .u8 c1), .pv (.str all2)] ∧ H = [] ∧ x = ([.pv (.bool r3)], [])

theorem q_F27 (c1 : Int) (all2 : Str) (r3 : Bool) (h : F27 c1 all2 = some r3) : chC R_F27 [.pv (.int .u8 c1), .pv (.str all2)] [] = some ([.pv (.bool r3)], []) := by
  refine chC_eq ⟨c1, all2, r3, h, rfl, rfl, rfl⟩ ?_
  rintro y ⟨c1p, all2p, r3p, hp, ha, hH, rfl⟩
  simp only [List.cons.injEq, AV.pv.injEq, and_true, true_and] at ha
  obtain ⟨ya0, ya1⟩ := ha
  have e_c1 := int_inj ya0
  have e_all2 := str_inj ya1
  subst e_c1
  subst e_all2
  rw [h] at hp
  cases hp
  rfl

def R_F26 : List AV → List AObj → List AV × List AObj → Prop := fun args H x => ∃ (s1 : Str) (at2 : Int) (r3 : Bool), F26 s1 at2 = some r3 ∧ args = [.pv (.str s1), .pv (.int .i64 at2)] ∧ H = [] ∧ x = ([.pv (.bool r3)], [])

theorem q_F26 (s1 : Str) (at2 : Int) (r3 : Bool) (h : F26 s1 at2 = some r3) : chC R_F26 [.pv (.str s1), .pv (.int .i64 at2)] [] = some ([.pv (.bool r3)], []) := by
  refine chC_eq ⟨s1, at2, r3, h, rfl, rfl, rfl⟩ ?_
  rintro y ⟨s1p, at2p, r3p, hp, ha, hH, rfl⟩
  simp only [List.cons.injEq, AV.pv.injEq, and_true, true_and] at ha
  obtain ⟨ya0, ya1⟩ := ha
  have e_s1 := str_inj ya0
  have e_at2 := int_inj ya1
  subst e_s1
  subst e_at2
  rw [h] at hp
  cases hp
  rfl

def R_F13 : List AV → List AObj → List AV × List AObj → Prop := fun args H x => ∃ (s1 : Str) (r2 : Bool), F13 s1 = some r2 ∧ args = [.pv (.str s1)] ∧ H = [] ∧ x = ([.pv (.bool r2)], [])

theorem q_F13 (s1 : Str) (r2 : Bool) (h : F13 s1 = some r2) : chC R_F13 [.pv (.str s1)] [] = some ([.pv (.bool r2)], []) := by
  refine chC_eq ⟨s1, r2, h, rfl, rfl, rfl⟩ ?_
  rintro y ⟨s1p, r2p, hp, ha, hH, rfl⟩
  simp only [List.cons.injEq, AV.pv.injEq, and_true, true_and] at ha
  have ya0 := ha
  have e_s1 := str_inj ya0
  subst e_s1
  rw [h] at hp
  cases hp
  rfl

def R_F11 : List AV → List AObj → List AV × List AObj → Prop := fun args H x => ∃ (s1 : Str) (r2 : Str), F11 s1 = some r2 ∧ args = [.pv (.str s1)] ∧ H = [] ∧ x = ([.pv (.str r2)], [])

theorem q_F11 (s1 : Str) (r2 : Str) (h : F11 s1 = some r2) : chC R_F11 [.pv (.str s1)] [] = some ([.pv (.str r2)], []) := by
  refine chC_eq ⟨s1, r2, h, rfl, rfl, rfl⟩ ?_
  rintro y ⟨s1p, r2p, hp, ha, hH, rfl⟩
  simp only [List.cons.injEq, AV.pv.injEq, and_true, true_and] at ha
  have ya0 := ha
  have e_s1 := str_inj ya0
  subst e_s1
  rw [h] at hp
  cases hp
  rfl

def R_F3 : List AV → List AObj → List AV × List AObj → Prop := fun args H x => ∃ (s1 : Str) (r2 : Bool), F3 s1 = some r2 ∧ args = [.pv (.str s1)] ∧ H = [] ∧ x = ([.pv (.bool r2)], [])

theorem q_F3 (s1 : Str) (r2 : Bool) (h : F3 s1 = some r2) : chC R_F3 [.pv (.str s1)] [] = some ([.pv (.bool r2)], []) := by
  refine chC_eq ⟨s1, r2, h, rfl, rfl, rfl⟩ ?_
  rintro y ⟨s1p, r2p, hp, ha, hH, rfl⟩
  simp only [List.cons.injEq, AV.pv.injEq, and_true, true_and] at ha
  have ya0 := ha
  have e_s1 := str_inj ya0
  subst e_s1
  rw [h] at hp
  cases hp
  rfl

def R_F15 : List AV → List AObj → List AV × List AObj → Prop := fun args H x => ∃ (s1 : Str) (at2 : Int) (end3 : Str) (r4 : Str) (r5 : Int) (r6 : Int), F15 s1 at2 end3 = some (r4, r5, r6) ∧ args = [.pv (.str s1), .pv (.int .i64 at2), .pv (.str end3)] ∧ H = [] ∧ x = ([.pv (.str r4), .pv (.int .i64 r5), .pv (.int .i64 r6)], [])

theorem q_F15 (s1 : Str) (at2 : Int) (end3 : Str) (r4 : Str) (r5 : Int) (r6 : Int) (h : F15 s1 at2 end3 = some (r4, r5, r6)) : chC R_F15 [.pv (.str s1), .pv (.int .i64 at2), .pv (.str end3)] [] = some ([.pv (.str r4), .pv (.int .i64 r5), .pv (.int .i64 r6)], []) := by
  refine chC_eq ⟨s1, at2, end3, r4, r5, r6, h, rfl, rfl, rfl⟩ ?_
  rintro y ⟨s1p, at2p, end3p, r4p, r5p, r6p, hp, ha, hH, rfl⟩
  simp only [List.cons.injEq, AV.pv.injEq, and_true, true_and] at ha
  obtain ⟨ya0, ya1, ya2⟩ := ha
  have e_s1 := str_inj ya0
  have e_at2 := int_inj ya1
  have e_end3 := str_inj ya2
  subst e_s1
  subst e_at2
  subst e_end3
  rw [h] at hp
  cases hp
  rfl

def R_F4 : List AV → List AObj → List AV × List AObj → Prop := fun args H x => ∃ (s1 : Str) (at2 : Int) (end3 : Str) (r4 : Bool), F4 s1 at2 end3 = some r4 ∧ args = [.pv (.str s1), .pv (.int .i64 at2), .pv (.str end3)] ∧ H = [] ∧ x = ([.pv (.bool r4)], [])

theorem q_F4 (s1 : Str) (at2 : Int) (end3 : Str) (r4 : Bool) (h : F4 s1 at2 end3 = some r4) : chC R_F4 [.pv (.str s1), .pv (.int .i64 at2), .pv (.str end3)] [] = some ([.pv (.bool r4)], []) := by
  refine chC_eq ⟨s1, at2, end3, r4, h, rfl, rfl, rfl⟩ ?_
  rintro y ⟨s1p, at2p, end3p, r4p, hp, ha, hH, rfl⟩
  simp only [List.cons.injEq, AV.pv.injEq, and_true, true_and] at ha
  obtain ⟨ya0, ya1, ya2⟩ := ha
  have e_s1 := str_inj ya0
  have e_at2 := int_inj ya1
  have e_end3 := str_inj ya2
  subst e_s1
  subst e_at2
  subst e_end3
  rw [h] at hp
  cases hp
  rfl

def R_F5 : List AV → List AObj → List AV × List AObj → Prop := fun args H x => ∃ (s1 : Str) (r2 : Bool), F5 s1 = some r2 ∧ args = [.pv (.str s1)] ∧ H = [] ∧ x = ([.pv (.bool r2)], [])

theorem q_F5 (s1 : Str) (r2 : Bool) (h : F5 s1 = some r2) : chC R_F5 [.pv (.str s1)] [] = some ([.pv (.bool r2)], []) := by
  refine chC_eq ⟨s1, r2, h, rfl, rfl, rfl⟩ ?_
  rintro y ⟨s1p, r2p, hp, ha, hH, rfl⟩
  simp only [List.cons.injEq, AV.pv.injEq, and_true, true_and] at ha
  have ya0 := ha
  have e_s1 := str_inj ya0
  subst e_s1
  rw [h] at hp
  cases hp
  rfl

def R_F17 : List AV → List AObj → List AV × List AObj → Prop := fun args H x => ∃ (l1 : List Token) (n2 : Int) (r3 : List Token), F17 l1 n2 = some r3 ∧ args = [.pv (.slice (List.map Token.pv l1)), .pv (.int .i64 n2)] ∧ H = [] ∧ x = ([.pv (.slice (List.map Token.pv r3))], [])

theorem q_F17 (l1 : List Token) (n2 : Int) (r3 : List Token) (h : F17 l1 n2 = some r3) : chC R_F17 [.pv (.slice (List.map Token.pv l1)), .pv (.int .i64 n2)] [] = some ([.pv (.slice (List.map Token.pv r3))], []) := by
  refine chC_eq ⟨l1, n2, r3, h, rfl, rfl, rfl⟩ ?_
  rintro y ⟨l1p, n2p, r3p, hp, ha, hH, rfl⟩
  simp only [List.cons.injEq, AV.pv.injEq, and_true, true_and] at ha
  obtain ⟨ya0, ya1⟩ := ha
  have e_l1 := map_inj_of (fun _ _ => Token.inj) (PV.slice.inj ya0)
  have e_n2 := int_inj ya1
  subst e_l1
  subst e_n2
  rw [h] at hp
  cases hp
  rfl

def R_F16 : List AV → List AObj → List AV × List AObj → Prop := fun args H x => ∃ (a1 : List Token) (b2 : List Token) (r3 : Bool), F16 a1 b2 = some r3 ∧ args = [.pv (.slice (List.map Token.pv a1)), .pv (.slice (List.map Token.pv b2))] ∧ H = [] ∧ x = ([.pv (.bool r3)], [])

theorem q_F16 (a1 : List Token) (b2 : List Token) (r3 : Bool) (h : F16 a1 b2 = some r3) : chC R_F16 [.pv (.slice (List.map Token.pv a1)), .pv (.slice (List.map Token.pv b2))] [] = some ([.pv (.bool r3)], []) := by
  refine chC_eq ⟨a1, b2, r3, h, rfl, rfl, rfl⟩ ?_
  rintro y ⟨a1p, b2p, r3p, hp, ha, hH, rfl⟩
  simp only [List.cons.injEq, AV.pv.injEq, and_true, true_and] at ha
  obtain ⟨ya0, ya1⟩ := ha
  have e_a1 := map_inj_of (fun _ _ => Token.inj) (PV.slice.inj ya0)
  have e_b2 := map_inj_of (fun _ _ => Token.inj) (PV.slice.inj ya1)
  subst e_a1
  subst e_b2
  rw [h] at hp
  cases hp
  rfl

def R_F6 : List AV → List AObj → List AV × List AObj → Prop := fun args H x => ∃ (s1 : Str) (which2 : Int) (r3 : Bool), F6 s1 which2 = some r3 ∧ args = [.pv (.str s1), .pv (.int .u8 which2)] ∧ H = [] ∧ x = ([.pv (.bool r3)], [])

theorem q_F6 (s1 : Str) (which2 : Int) (r3 : Bool) (h : F6 s1 which2 = some r3) : chC R_F6 [.pv (.str s1), .pv (.int .u8 which2)] [] = some ([.pv (.bool r3)], []) := by
  refine chC_eq ⟨s1, which2, r3, h, rfl, rfl, rfl⟩ ?_
  rintro y ⟨s1p, which2p, r3p, hp, ha, hH, rfl⟩
  simp only [List.cons.injEq, AV.pv.injEq, and_true, true_and] at ha
  obtain ⟨ya0, ya1⟩ := ha
  have e_s1 := str_inj ya0
  have e_which2 := int_inj ya1
  subst e_s1
  subst e_which2
  rw [h] at hp
  cases hp
  rfl

def R_F7 : List AV → List AObj → List AV × List AObj → Prop := fun args H x => ∃ (a1 : Str) (b2 : Str) (r3 : Bool), F7 a1 b2 = some r3 ∧ args = [.pv (.str a1), .pv (.str b2)] ∧ H = [] ∧ x = ([.pv (.bool r3)], [])

theorem q_F7 (a1 : Str) (b2 : Str) (r3 : Bool) (h : F7 a1 b2 = some r3) : chC R_F7 [.pv (.str a1), .pv (.str b2)] [] = some ([.pv (.bool r3)], []) := by
  refine chC_eq ⟨a1, b2, r3, h, rfl, rfl, rfl⟩ ?_
  rintro y ⟨a1p, b2p, r3p, hp, ha, hH, rfl⟩
  simp only [List.cons.injEq, AV.pv.injEq, and_true, true_and] at ha
  obtain ⟨ya0, ya1⟩ := ha
  have e_a1 := str_inj ya0
  have e_b2 := str_inj ya1
  subst e_a1
  subst e_b2
  rw [h] at hp
  cases hp
  rfl

noncomputable def k0 : List (FuncId × (List AV → List AObj → Option (List AV × List AObj))) := []

theorem s0 : Sound env (mkOrc pfn k0) := Sound.nil pfn

noncomputable def k1 := (18, chC R_L_ReplaceAll) :: k0

theorem s1 : Sound env (mkOrc pfn k1) := by
  refine Sound.cons s0 ⟨Tryd.f18, fn_18, rfl, by kernel_rfl⟩ fun args H rs H2 hc => ?_
  obtain ⟨s, a, b, t, h, rfl, rfl, hx⟩ := chC_some hc
  cases hx
  exact g_L_ReplaceAll  s a b t h

noncomputable def k2 := (21, chC R_L_IndexByte) :: k1

theorem s2 : Sound env (mkOrc pfn k2) := by
  refine Sound.cons s1 ⟨Tryd.f21, fn_21, rfl, by kernel_rfl⟩ fun args H rs H2 hc => ?_
  obtain ⟨s, c, n, h, rfl, rfl, hx⟩ := chC_some hc
  cases hx
  exact g_L_IndexByte  s c n h

noncomputable def k3 := (30, chC R_L_Join) :: k2

theorem s3 : Sound env (mkOrc pfn k3) := by
  refine Sound.cons s2 ⟨Tryd.f30, fn_30, rfl, by kernel_rfl⟩ fun args H rs H2 hc => ?_
  obtain ⟨xs, sep, s, h, rfl, rfl, hx⟩ := chC_some hc
  cases hx
  exact g_L_Join  xs sep s h

noncomputable def k4 := (42, chC R_L_Cut) :: k3

theorem s4 : Sound env (mkOrc pfn k4) := by
  refine Sound.cons s3 ⟨Tryd.f42, fn_42, rfl, by kernel_rfl⟩ fun args H rs H2 hc => ?_
  obtain ⟨s, sep, a, b, ok, h, rfl, rfl, hx⟩ := chC_some hc
  cases hx
  exact g_L_Cut  s sep a b ok h

noncomputable def k5 := (44, chC R_L_WriteString) :: k4

theorem s5 : Sound env (mkOrc pfn k5) := by
  refine Sound.cons s4 ⟨Tryd.f44, fn_44, rfl, by kernel_rfl⟩ fun args H rs H2 hc => ?_
  obtain ⟨b, s, n, c, h, rfl, rfl, hx⟩ := chC_some hc
  cases hx
  exact g_L_WriteString  b s n c h

noncomputable def k6 := (45, chC R_L_String) :: k5

theorem s6 : Sound env (mkOrc pfn k6) := by
  refine Sound.cons s5 ⟨Tryd.f45, fn_45, rfl, by kernel_rfl⟩ fun args H rs H2 hc => ?_
  obtain ⟨b, s, h, rfl, rfl, hx⟩ := chC_some hc
  cases hx
  exact g_L_String  b s h

noncomputable def k7 := (51, chC R_L_WriteByte) :: k6

theorem s7 : Sound env (mkOrc pfn k7) := by
  refine Sound.cons s6 ⟨Tryd.f51, fn_51, rfl, by kernel_rfl⟩ fun args H rs H2 hc => ?_
  obtain ⟨b, c, d, h, rfl, rfl, hx⟩ := chC_some hc
  cases hx
  exact g_L_WriteByte  b c d h

noncomputable def k8 := (53, chC R_L_Repeat) :: k7

theorem s8 : Sound env (mkOrc pfn k8) := by
  refine Sound.cons s7 ⟨Tryd.f53, fn_53, rfl, by kernel_rfl⟩ fun args H rs H2 hc => ?_
  obtain ⟨s, n, t, h, rfl, rfl, hx⟩ := chC_some hc
  cases hx
  exact g_L_Repeat  s n t h

noncomputable def k9 := (73, chC R_L_Atoi) :: k8

theorem s9 : Sound env (mkOrc pfn k9) := by
  refine Sound.cons s8 ⟨Tryd.f73, fn_73, rfl, by kernel_rfl⟩ fun args H rs H2 hc => ?_
  obtain ⟨s, n, bad, h, rfl, rfl, hx⟩ := chC_some hc
  cases hx
  exact g_L_Atoi  s n bad h

noncomputable def k10 := (74, chC R_L_Itoa) :: k9

theorem s10 : Sound env (mkOrc pfn k10) := by
  refine Sound.cons s9 ⟨Tryd.f74, fn_74, rfl, by kernel_rfl⟩ fun args H rs H2 hc => ?_
  obtain ⟨n, s, h, rfl, rfl, hx⟩ := chC_some hc
  cases hx
  exact g_L_Itoa  n s h

noncomputable def k11 := (35, chC R_F35) :: k10

theorem s11 : Sound env (mkOrc pfn k11) := by
  refine Sound.cons s10 ⟨Tryd.f35, fn_35, rfl, by kernel_rfl⟩ fun args H rs H2 hc => ?_
  obtain ⟨s1, prefix2, r3, h, rfl, rfl, hx⟩ := chC_some hc
  cases hx
  exact g_F35 s10 rfl s1 prefix2 r3 h

noncomputable def k12 := (23, chC R_F23) :: k11

theorem s12 : Sound env (mkOrc pfn k12) := by
  refine Sound.cons s11 ⟨Tryd.f23, fn_23, rfl, by kernel_rfl⟩ fun args H rs H2 hc => ?_
  obtain ⟨s1, prefix2, r3, h, rfl, rfl, hx⟩ := chC_some hc
  cases hx
  exact g_F23 s11 rfl (fun s1 prefix2 r3 h => q_F35 s1 prefix2 r3 h) s1 prefix2 r3 h

noncomputable def k13 := (28, chC R_F28) :: k12

theorem s13 : Sound env (mkOrc pfn k13) := by
  refine Sound.cons s12 ⟨Tryd.f28, fn_28, rfl, by kernel_rfl⟩ fun args H rs H2 hc => ?_
  obtain ⟨s1, at2, r3, r4, h, rfl, rfl, hx⟩ := chC_some hc
  cases hx
  exact g_F28 s12 rfl (fun s sep a b ok h => q_L_Cut s sep a b ok h) s1 at2 r3 r4 h

noncomputable def k14 := (29, chC R_F29) :: k13

theorem s14 : Sound env (mkOrc pfn k14) := by
  refine Sound.cons s13 ⟨Tryd.f29, fn_29, rfl, by kernel_rfl⟩ fun args H rs H2 hc => ?_
  obtain ⟨s1, v2, r3, h, rfl, rfl, hx⟩ := chC_some hc
  cases hx
  exact g_F29 s13 rfl s1 v2 r3 h

noncomputable def k15 := (14, chC R_F14) :: k14

theorem s15 : Sound env (mkOrc pfn k15) := by
  refine Sound.cons s14 ⟨Tryd.f14, fn_14, rfl, by kernel_rfl⟩ fun args H rs H2 hc => ?_
  obtain ⟨s1, at2, end3, r4, r5, r6, h, rfl, rfl, hx⟩ := chC_some hc
  cases hx
  exact g_F14 s14 rfl (fun s1 at2 r3 r4 h => q_F28 s1 at2 r3 r4 h) (fun s1 v2 r3 h => q_F29 s1 v2 r3 h) (fun xs sep s h => q_L_Join xs sep s h) s1 at2 end3 r4 r5 r6 h

noncomputable def k16 := (34, chC R_F34x2) :: k15

theorem s16 : Sound env (mkOrc pfn k16) := by
  refine Sound.cons s15 ⟨Tryd.f34, fn_34, rfl, by kernel_rfl⟩ fun args H rs H2 hc => ?_
  obtain ⟨off1, e2, x3, x4, x5, x6, x7, l8, l9, r10, x11, x12, h, rfl, rfl, hx⟩ := chC_some hc
  cases hx
  exact g_F34x2 s15 rfl off1 e2 x3 x4 x5 x6 x7 l8 l9 r10 x11 x12 h

noncomputable def k17 := (33, chC R_F33x1) :: k16

theorem s17 : Sound env (mkOrc pfn k17) := by
  refine Sound.cons s16 ⟨Tryd.f33, fn_33, rfl, by kernel_rfl⟩ fun args H rs H2 hc => ?_
  obtain ⟨t1, x2, x3, x4, x5, x6, l7, l8, r9, x10, x11, o12, h, rfl, rfl, hx⟩ := chC_some hc
  cases hx
  exact g_F33x1 s16 rfl (fun off1 e2 x3 x4 x5 x6 x7 l8 l9 r10 x11 x12 h => q_F34x2 off1 e2 x3 x4 x5 x6 x7 l8 l9 r10 x11 x12 h) t1 x2 x3 x4 x5 x6 l7 l8 r9 x10 x11 o12 h

noncomputable def k18 := (20, chC R_F20x2) :: k17

theorem s18 : Sound env (mkOrc pfn k18) := by
  refine Sound.cons s17 ⟨Tryd.f20, fn_20, rfl, by kernel_rfl⟩ fun args H rs H2 hc => ?_
  obtain ⟨x1, x2, x3, x4, x5, l6, l7, r8, h, rfl, rfl, hx⟩ := chC_some hc
  cases hx
  exact g_F20x2 s17 rfl x1 x2 x3 x4 x5 l6 l7 r8 h

noncomputable def k19 := (19, chC R_F19x2) :: k18

theorem s19 : Sound env (mkOrc pfn k19) := by
  refine Sound.cons s18 ⟨Tryd.f19, fn_19, rfl, by kernel_rfl⟩ fun args H rs H2 hc => ?_
  obtain ⟨x1, x2, x3, x4, x5, l6, l7, x8, h, rfl, rfl, hx⟩ := chC_some hc
  cases hx
  exact g_F19x2 s18 rfl (fun x1 x2 x3 x4 x5 l6 l7 r8 h => q_F20x2 x1 x2 x3 x4 x5 l6 l7 r8 h) (fun s1 prefix2 r3 h => q_F23 s1 prefix2 r3 h) x1 x2 x3 x4 x5 l6 l7 x8 h

noncomputable def k20 := (22, chC R_F22x1) :: k19

theorem s20 : Sound env (mkOrc pfn k20) := by
  refine Sound.cons s19 ⟨Tryd.f22, fn_22, rfl, by kernel_rfl⟩ fun args H rs H2 hc => ?_
  obtain ⟨x1, x2, x3, x4, x5, l6, l7, tag8, r9, x10, x11, x12, o13, h, rfl, rfl, hx⟩ := chC_some hc
  cases hx
  exact g_F22x1 s19 rfl (fun t1 x2 x3 x4 x5 x6 l7 l8 r9 x10 x11 o12 h => q_F33x1 t1 x2 x3 x4 x5 x6 l7 l8 r9 x10 x11 o12 h) (fun s1 at2 end3 r4 r5 r6 h => q_F14 s1 at2 end3 r4 r5 r6 h) (fun off1 e2 x3 x4 x5 x6 x7 l8 l9 r10 x11 x12 h => q_F34x2 off1 e2 x3 x4 x5 x6 x7 l8 l9 r10 x11 x12 h) x1 x2 x3 x4 x5 l6 l7 tag8 r9 x10 x11 x12 o13 h

noncomputable def k21 := (50, chC R_F50x1) :: k20

theorem s21 : Sound env (mkOrc pfn k21) := by
  refine Sound.cons s20 ⟨Tryd.f50, fn_50, rfl, by kernel_rfl⟩ fun args H rs H2 hc => ?_
  obtain ⟨x1, x2, x3, x4, x5, l6, l7, r8, h, rfl, rfl, hx⟩ := chC_some hc
  cases hx
  exact g_F50x1 s20 rfl (fun x1 x2 x3 x4 x5 l6 l7 r8 h => q_F20x2 x1 x2 x3 x4 x5 l6 l7 r8 h) (fun s c n h => q_L_IndexByte s c n h) (fun s1 prefix2 r3 h => q_F23 s1 prefix2 r3 h) x1 x2 x3 x4 x5 l6 l7 r8 h

noncomputable def k22 := (52, chC R_F52x1) :: k21

theorem s22 : Sound env (mkOrc pfn k22) := by
  refine Sound.cons s21 ⟨Tryd.f52, fn_52, rfl, by kernel_rfl⟩ fun args H rs H2 hc => ?_
  obtain ⟨x1, x2, x3, x4, x5, l6, l7, r8, r9, x10, x11, x12, h, rfl, rfl, hx⟩ := chC_some hc
  cases hx
  exact g_F52x1 s21 rfl (fun x1 x2 x3 x4 x5 l6 l7 r8 h => q_F20x2 x1 x2 x3 x4 x5 l6 l7 r8 h) (fun s c n h => q_L_IndexByte s c n h) (fun off1 e2 x3 x4 x5 x6 x7 l8 l9 r10 x11 x12 h => q_F34x2 off1 e2 x3 x4 x5 x6 x7 l8 l9 r10 x11 x12 h) (fun b s n c h => q_L_WriteString b s n c h) (fun s1 prefix2 r3 h => q_F23 s1 prefix2 r3 h) (fun b s h => q_L_String b s h) (fun b c d h => q_L_WriteByte b c d h) x1 x2 x3 x4 x5 l6 l7 r8 r9 x10 x11 x12 h

noncomputable def k23 := (36, chC R_F36x1) :: k22

theorem s23 : Sound env (mkOrc pfn k23) := by
  refine Sound.cons s22 ⟨Tryd.f36, fn_36, rfl, by kernel_rfl⟩ fun args H rs H2 hc => ?_
  obtain ⟨x1, x2, x3, x4, x5, l6, l7, r8, r9, r10, x11, x12, x13, h, rfl, rfl, hx⟩ := chC_some hc
  cases hx
  exact g_F36x1 s22 rfl (fun x1 x2 x3 x4 x5 l6 l7 r8 h => q_F50x1 x1 x2 x3 x4 x5 l6 l7 r8 h) (fun b c d h => q_L_WriteByte b c d h) (fun x1 x2 x3 x4 x5 l6 l7 r8 h => q_F20x2 x1 x2 x3 x4 x5 l6 l7 r8 h) (fun s1 prefix2 r3 h => q_F23 s1 prefix2 r3 h) (fun x1 x2 x3 x4 x5 l6 l7 r8 r9 x10 x11 x12 h => q_F52x1 x1 x2 x3 x4 x5 l6 l7 r8 r9 x10 x11 x12 h) (fun b s n c h => q_L_WriteString b s n c h) (fun s n t h => q_L_Repeat s n t h) (fun b s h => q_L_String b s h) x1 x2 x3 x4 x5 l6 l7 r8 r9 r10 x11 x12 x13 h

noncomputable def k24 := (24, chC R_F24) :: k23

theorem s24 : Sound env (mkOrc pfn k24) := by
  refine Sound.cons s23 ⟨Tryd.f24, fn_24, rfl, by kernel_rfl⟩ fun args H rs H2 hc => ?_
  obtain ⟨x1, x2, x3, x4, x5, l6, l7, r8, x9, x10, x11, o12, o13, h, rfl, rfl, hx⟩ := chC_some hc
  cases hx
  exact g_F24 s23 rfl (fun x1 x2 x3 x4 x5 l6 l7 x8 h => q_F19x2 x1 x2 x3 x4 x5 l6 l7 x8 h) (fun x1 x2 x3 x4 x5 l6 l7 r8 r9 r10 x11 x12 x13 h => q_F36x1 x1 x2 x3 x4 x5 l6 l7 r8 r9 r10 x11 x12 x13 h) (fun off1 e2 x3 x4 x5 x6 x7 l8 l9 r10 x11 x12 h => q_F34x2 off1 e2 x3 x4 x5 x6 x7 l8 l9 r10 x11 x12 h) (fun t1 x2 x3 x4 x5 x6 l7 l8 r9 x10 x11 o12 h => q_F33x1 t1 x2 x3 x4 x5 x6 l7 l8 r9 x10 x11 o12 h) x1 x2 x3 x4 x5 l6 l7 r8 x9 x10 x11 o12 o13 h

noncomputable def k25 := (37, chC R_F37) :: k24

theorem s25 : Sound env (mkOrc pfn k25) := by
  refine Sound.cons s24 ⟨Tryd.f37, fn_37, rfl, by kernel_rfl⟩ fun args H rs H2 hc => ?_
  obtain ⟨x1, x2, x3, x4, x5, l6, l7, r8, h, rfl, rfl, hx⟩ := chC_some hc
  cases hx
  exact g_F37 s24 rfl x1 x2 x3 x4 x5 l6 l7 r8 h

noncomputable def k26 := (65, chC R_F65) :: k25

theorem s26 : Sound env (mkOrc pfn k26) := by
  refine Sound.cons s25 ⟨Tryd.f65, fn_65, rfl, by kernel_rfl⟩ fun args H rs H2 hc => ?_
  obtain ⟨s1, r2, h, rfl, rfl, hx⟩ := chC_some hc
  cases hx
  exact g_F65 s25 rfl (fun s n bad h => q_L_Atoi s n bad h) (fun n s h => q_L_Itoa n s h) s1 r2 h

noncomputable def k27 := (54, chC R_F54) :: k26

theorem s27 : Sound env (mkOrc pfn k27) := by
  refine Sound.cons s26 ⟨Tryd.f54, fn_54, rfl, by kernel_rfl⟩ fun args H rs H2 hc => ?_
  obtain ⟨s1, pair2, r3, h, rfl, rfl, hx⟩ := chC_some hc
  cases hx
  exact g_F54 s26 rfl (fun s c n h => q_L_IndexByte s c n h) (fun s sep a b ok h => q_L_Cut s sep a b ok h) (fun s1 r2 h => q_F65 s1 r2 h) s1 pair2 r3 h

noncomputable def k28 := (38, chC R_F38) :: k27

theorem s28 : Sound env (mkOrc pfn k28) := by
  refine Sound.cons s27 ⟨Tryd.f38, fn_38, rfl, by kernel_rfl⟩ fun args H rs H2 hc => ?_
  obtain ⟨x1, x2, x3, x4, x5, l6, l7, r8, r9, x10, x11, h, rfl, rfl, hx⟩ := chC_some hc
  cases hx
  exact g_F38 s27 rfl (fun x1 x2 x3 x4 x5 l6 l7 r8 h => q_F20x2 x1 x2 x3 x4 x5 l6 l7 r8 h) (fun s1 prefix2 r3 h => q_F23 s1 prefix2 r3 h) (fun s c n h => q_L_IndexByte s c n h) (fun s1 pair2 r3 h => q_F54 s1 pair2 r3 h) (fun off1 e2 x3 x4 x5 x6 x7 l8 l9 r10 x11 x12 h => q_F34x2 off1 e2 x3 x4 x5 x6 x7 l8 l9 r10 x11 x12 h) x1 x2 x3 x4 x5 l6 l7 r8 r9 x10 x11 h

noncomputable def k29 := (39, chC R_F39) :: k28

theorem s29 : Sound env (mkOrc pfn k29) := by
  refine Sound.cons s28 ⟨Tryd.f39, fn_39, rfl, by kernel_rfl⟩ fun args H rs H2 hc => ?_
  obtain ⟨t1, touches2, x3, x4, x5, x6, x7, l8, l9, r10, x11, x12, o13, h, rfl, rfl, hx⟩ := chC_some hc
  cases hx
  exact g_F39 s28 rfl (fun s c n h => q_L_IndexByte s c n h) (fun t1 x2 x3 x4 x5 x6 l7 l8 r9 x10 x11 o12 h => q_F33x1 t1 x2 x3 x4 x5 x6 l7 l8 r9 x10 x11 o12 h) t1 touches2 x3 x4 x5 x6 x7 l8 l9 r10 x11 x12 o13 h

noncomputable def k30 := (55, chC R_F55) :: k29

theorem s30 : Sound env (mkOrc pfn k30) := by
  refine Sound.cons s29 ⟨Tryd.f55, fn_55, rfl, by kernel_rfl⟩ fun args H rs H2 hc => ?_
  obtain ⟨c1, r2, h, rfl, rfl, hx⟩ := chC_some hc
  cases hx
  exact g_F55 s29 rfl c1 r2 h

noncomputable def k31 := (40, chC R_F40) :: k30

theorem s31 : Sound env (mkOrc pfn k31) := by
  refine Sound.cons s30 ⟨Tryd.f40, fn_40, rfl, by kernel_rfl⟩ fun args H rs H2 hc => ?_
  obtain ⟨x1, x2, x3, x4, x5, l6, l7, r8, x9, x10, x11, o12, h, rfl, rfl, hx⟩ := chC_some hc
  cases hx
  exact g_F40 s30 rfl (fun c1 r2 h => q_F55 c1 r2 h) (fun off1 e2 x3 x4 x5 x6 x7 l8 l9 r10 x11 x12 h => q_F34x2 off1 e2 x3 x4 x5 x6 x7 l8 l9 r10 x11 x12 h) (fun s n t h => q_L_Repeat s n t h) (fun t1 x2 x3 x4 x5 x6 l7 l8 r9 x10 x11 o12 h => q_F33x1 t1 x2 x3 x4 x5 x6 l7 l8 r9 x10 x11 o12 h) x1 x2 x3 x4 x5 l6 l7 r8 x9 x10 x11 o12 h

noncomputable def k32 := (25, chC R_F25) :: k31

theorem s32 : Sound env (mkOrc pfn k32) := by
  refine Sound.cons s31 ⟨Tryd.f25, fn_25, rfl, by kernel_rfl⟩ fun args H rs H2 hc => ?_
  obtain ⟨x1, x2, x3, x4, x5, l6, l7, r8, x9, x10, x11, o12, h, rfl, rfl, hx⟩ := chC_some hc
  cases hx
  exact g_F25 s31 rfl (fun x1 x2 x3 x4 x5 l6 l7 r8 h => q_F37 x1 x2 x3 x4 x5 l6 l7 r8 h) (fun x1 x2 x3 x4 x5 l6 l7 r8 r9 x10 x11 h => q_F38 x1 x2 x3 x4 x5 l6 l7 r8 r9 x10 x11 h) (fun t1 touches2 x3 x4 x5 x6 x7 l8 l9 r10 x11 x12 o13 h => q_F39 t1 touches2 x3 x4 x5 x6 x7 l8 l9 r10 x11 x12 o13 h) (fun x1 x2 x3 x4 x5 l6 l7 r8 x9 x10 x11 o12 h => q_F40 x1 x2 x3 x4 x5 l6 l7 r8 x9 x10 x11 o12 h) (fun x1 x2 x3 x4 x5 l6 l7 r8 r9 r10 x11 x12 x13 h => q_F36x1 x1 x2 x3 x4 x5 l6 l7 r8 r9 r10 x11 x12 x13 h) x1 x2 x3 x4 x5 l6 l7 r8 x9 x10 x11 o12 h

noncomputable def k33 := (10, chC R_F10) :: k32

theorem s33 : Sound env (mkOrc pfn k33) := by
  refine Sound.cons s32 ⟨Tryd.f10, fn_10, rfl, by kernel_rfl⟩ fun args H rs H2 hc => ?_
  obtain ⟨s1, r2, r3, r4, h, rfl, rfl, hx⟩ := chC_some hc
  cases hx
  exact g_F10 s32 rfl (fun x1 x2 x3 x4 x5 l6 l7 x8 h => q_F19x2 x1 x2 x3 x4 x5 l6 l7 x8 h) (fun x1 x2 x3 x4 x5 l6 l7 r8 h => q_F20x2 x1 x2 x3 x4 x5 l6 l7 r8 h) (fun s c n h => q_L_IndexByte s c n h) (fun x1 x2 x3 x4 x5 l6 l7 tag8 r9 x10 x11 x12 o13 h => q_F22x1 x1 x2 x3 x4 x5 l6 l7 tag8 r9 x10 x11 x12 o13 h) (fun s1 prefix2 r3 h => q_F23 s1 prefix2 r3 h) (fun x1 x2 x3 x4 x5 l6 l7 r8 x9 x10 x11 o12 o13 h => q_F24 x1 x2 x3 x4 x5 l6 l7 r8 x9 x10 x11 o12 o13 h) (fun x1 x2 x3 x4 x5 l6 l7 r8 x9 x10 x11 o12 h => q_F25 x1 x2 x3 x4 x5 l6 l7 r8 x9 x10 x11 o12 h) s1 r2 r3 r4 h

noncomputable def k34 := (12, chC R_F12) :: k33

theorem s34 : Sound env (mkOrc pfn k34) := by
  refine Sound.cons s33 ⟨Tryd.f12, fn_12, rfl, by kernel_rfl⟩ fun args H rs H2 hc => ?_
  obtain ⟨s1, r2, h, rfl, rfl, hx⟩ := chC_some hc
  cases hx
  exact g_F12 s33 rfl (fun s c n h => q_L_IndexByte s c n h) s1 r2 h

noncomputable def k35 := (9, chC R_F9) :: k34

theorem s35 : Sound env (mkOrc pfn k35) := by
  refine Sound.cons s34 ⟨Tryd.f9, fn_9, rfl, by kernel_rfl⟩ fun args H rs H2 hc => ?_
  obtain ⟨s1, r2, h, rfl, rfl, hx⟩ := chC_some hc
  cases hx
  exact g_F9 s34 rfl (fun s1 r2 h => q_F12 s1 r2 h) (fun s a b t h => q_L_ReplaceAll s a b t h) s1 r2 h

noncomputable def k36 := (8, chC R_F8) :: k35

theorem s36 : Sound env (mkOrc pfn k36) := by
  refine Sound.cons s35 ⟨Tryd.f8, fn_8, rfl, by kernel_rfl⟩ fun args H rs H2 hc => ?_
  obtain ⟨r1, h, rfl, rfl, hx⟩ := chC_some hc
  cases hx
  exact g_F8 s35 rfl (fun s1 r2 r3 r4 h => q_F10 s1 r2 r3 r4 h) (fun s1 at2 end3 r4 r5 r6 h => q_F14 s1 at2 end3 r4 r5 r6 h) (fun s1 r2 h => q_F9 s1 r2 h) (fun s1 r2 h => q_F12 s1 r2 h) r1 h

noncomputable def k37 := (41, chC R_F41) :: k36

theorem s37 : Sound env (mkOrc pfn k37) := by
  refine Sound.cons s36 ⟨Tryd.f41, fn_41, rfl, by kernel_rfl⟩ fun args H rs H2 hc => ?_
  obtain ⟨s1, at2, r3, h, rfl, rfl, hx⟩ := chC_some hc
  cases hx
  exact g_F41 s36 rfl s1 at2 r3 h

noncomputable def k38 := (27, chC R_F27) :: k37

theorem s38 : Sound env (mkOrc pfn k38) := by
  refine Sound.cons s37 ⟨Tryd.f27, fn_27, rfl, by kernel_rfl⟩ fun args H rs H2 hc => ?_
  obtain ⟨c1, all2, r3, h, rfl, rfl, hx⟩ := chC_some hc
  cases hx
  exact g_F27 s37 rfl c1 all2 r3 h

noncomputable def k39 := (26, chC R_F26) :: k38

theorem s39 : Sound env (mkOrc pfn k39) := by
  refine Sound.cons s38 ⟨Tryd.f26, fn_26, rfl, by kernel_rfl⟩ fun args H rs H2 hc => ?_
  obtain ⟨s1, at2, r3, h, rfl, rfl, hx⟩ := chC_some hc
  cases hx
  exact g_F26 s38 rfl (fun s1 at2 r3 h => q_F41 s1 at2 r3 h) (fun c1 all2 r3 h => q_F27 c1 all2 r3 h) s1 at2 r3 h

noncomputable def k40 := (13, chC R_F13) :: k39

theorem s40 : Sound env (mkOrc pfn k40) := by
  refine Sound.cons s39 ⟨Tryd.f13, fn_13, rfl, by kernel_rfl⟩ fun args H rs H2 hc => ?_
  obtain ⟨s1, r2, h, rfl, rfl, hx⟩ := chC_some hc
  cases hx
  exact g_F13 s39 rfl (fun s1 at2 r3 h => q_F26 s1 at2 r3 h) (fun c1 all2 r3 h => q_F27 c1 all2 r3 h) s1 r2 h

noncomputable def k41 := (11, chC R_F11) :: k40

theorem s41 : Sound env (mkOrc pfn k41) := by
  refine Sound.cons s40 ⟨Tryd.f11, fn_11, rfl, by kernel_rfl⟩ fun args H rs H2 hc => ?_
  obtain ⟨s1, r2, h, rfl, rfl, hx⟩ := chC_some hc
  cases hx
  exact g_F11 s40 rfl (fun s1 r2 h => q_F13 s1 r2 h) s1 r2 h

noncomputable def k42 := (3, chC R_F3) :: k41

theorem s42 : Sound env (mkOrc pfn k42) := by
  refine Sound.cons s41 ⟨Tryd.f3, fn_3, rfl, by kernel_rfl⟩ fun args H rs H2 hc => ?_
  obtain ⟨s1, r2, h, rfl, rfl, hx⟩ := chC_some hc
  cases hx
  exact g_F3 s41 rfl (fun r1 h => q_F8 r1 h) (fun s1 r2 h => q_F9 s1 r2 h) (fun s1 r2 r3 r4 h => q_F10 s1 r2 r3 r4 h) (fun s1 r2 h => q_F11 s1 r2 h) (fun s1 r2 h => q_F12 s1 r2 h) (fun s1 r2 h => q_F13 s1 r2 h) s1 r2 h

noncomputable def k43 := (15, chC R_F15) :: k42

theorem s43 : Sound env (mkOrc pfn k43) := by
  refine Sound.cons s42 ⟨Tryd.f15, fn_15, rfl, by kernel_rfl⟩ fun args H rs H2 hc => ?_
  obtain ⟨s1, at2, end3, r4, r5, r6, h, rfl, rfl, hx⟩ := chC_some hc
  cases hx
  exact g_F15 s42 rfl s1 at2 end3 r4 r5 r6 h

noncomputable def k44 := (4, chC R_F4) :: k43

theorem s44 : Sound env (mkOrc pfn k44) := by
  refine Sound.cons s43 ⟨Tryd.f4, fn_4, rfl, by kernel_rfl⟩ fun args H rs H2 hc => ?_
  obtain ⟨s1, at2, end3, r4, h, rfl, rfl, hx⟩ := chC_some hc
  cases hx
  exact g_F4 s43 rfl (fun r1 h => q_F8 r1 h) (fun s1 at2 end3 r4 r5 r6 h => q_F14 s1 at2 end3 r4 r5 r6 h) (fun s1 at2 end3 r4 r5 r6 h => q_F15 s1 at2 end3 r4 r5 r6 h) s1 at2 end3 r4 h

noncomputable def k45 := (5, chC R_F5) :: k44

theorem s45 : Sound env (mkOrc pfn k45) := by
  refine Sound.cons s44 ⟨Tryd.f5, fn_5, rfl, by kernel_rfl⟩ fun args H rs H2 hc => ?_
  obtain ⟨s1, r2, h, rfl, rfl, hx⟩ := chC_some hc
  cases hx
  exact g_F5 s44 rfl (fun r1 h => q_F8 r1 h) (fun s1 r2 r3 r4 h => q_F10 s1 r2 r3 r4 h) s1 r2 h

noncomputable def k46 := (17, chC R_F17) :: k45

theorem s46 : Sound env (mkOrc pfn k46) := by
  refine Sound.cons s45 ⟨Tryd.f17, fn_17, rfl, by kernel_rfl⟩ fun args H rs H2 hc => ?_
  obtain ⟨l1, n2, r3, h, rfl, rfl, hx⟩ := chC_some hc
  cases hx
  exact g_F17 s45 rfl l1 n2 r3 h

noncomputable def k47 := (16, chC R_F16) :: k46

theorem s47 : Sound env (mkOrc pfn k47) := by
  refine Sound.cons s46 ⟨Tryd.f16, fn_16, rfl, by kernel_rfl⟩ fun args H rs H2 hc => ?_
  obtain ⟨a1, b2, r3, h, rfl, rfl, hx⟩ := chC_some hc
  cases hx
  exact g_F16 s46 rfl a1 b2 r3 h

noncomputable def k48 := (6, chC R_F6) :: k47

theorem s48 : Sound env (mkOrc pfn k48) := by
  refine Sound.cons s47 ⟨Tryd.f6, fn_6, rfl, by kernel_rfl⟩ fun args H rs H2 hc => ?_
  obtain ⟨s1, which2, r3, h, rfl, rfl, hx⟩ := chC_some hc
  cases hx
  exact g_F6 s47 rfl (fun r1 h => q_F8 r1 h) (fun s1 r2 r3 r4 h => q_F10 s1 r2 r3 r4 h) (fun l1 n2 r3 h => q_F17 l1 n2 r3 h) (fun a1 b2 r3 h => q_F16 a1 b2 r3 h) s1 which2 r3 h

noncomputable def k49 := (7, chC R_F7) :: k48

theorem s49 : Sound env (mkOrc pfn k49) := by
  refine Sound.cons s48 ⟨Tryd.f7, fn_7, rfl, by kernel_rfl⟩ fun args H rs H2 hc => ?_
  obtain ⟨a1, b2, r3, h, rfl, rfl, hx⟩ := chC_some hc
  cases hx
  exact g_F7 s48 rfl (fun r1 h => q_F8 r1 h) (fun s1 r2 r3 r4 h => q_F10 s1 r2 r3 r4 h) (fun l1 n2 r3 h => q_F17 l1 n2 r3 h) (fun a1 b2 r3 h => q_F16 a1 b2 r3 h) a1 b2 r3 h

theorem good_F3 (s1 : Str) (h : F3 s1 = some true) : Good env 3 [.pv (.str s1)] [] [.pv (.bool true)] [] := (s49 3 _ _ _ _ (q_F3 s1 true h)).1

theorem good_F4 (s1 : Str) (at2 : Int) (end3 : Str) (h : F4 s1 at2 end3 = some true) : Good env 4 [.pv (.str s1), .pv (.int .i64 at2), .pv (.str end3)] [] [.pv (.bool true)] [] := (s49 4 _ _ _ _ (q_F4 s1 at2 end3 true h)).1

theorem good_F5 (s1 : Str) (h : F5 s1 = some true) : Good env 5 [.pv (.str s1)] [] [.pv (.bool true)] [] := (s49 5 _ _ _ _ (q_F5 s1 true h)).1

theorem good_F6 (s1 : Str) (which2 : Int) (h : F6 s1 which2 = some true) : Good env 6 [.pv (.str s1), .pv (.int .u8 which2)] [] [.pv (.bool true)] [] := (s49 6 _ _ _ _ (q_F6 s1 which2 true h)).1

theorem good_F7 (a1 : Str) (b2 : Str) (h : F7 a1 b2 = some true) : Good env 7 [.pv (.str a1), .pv (.str b2)] [] [.pv (.bool true)] [] := (s49 7 _ _ _ _ (q_F7 a1 b2 true h)).1

end Go.Abs.U47
