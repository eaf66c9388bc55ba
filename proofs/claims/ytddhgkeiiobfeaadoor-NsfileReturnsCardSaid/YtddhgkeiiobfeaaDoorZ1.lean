/- The layer 45 laws: all of the functions together. -/
import Derived.Test.YtddhgkeiiobfeaaDoorLG
import Derived.Test.YtddhgkeiiobfeaaDoorW1
import Derived.Test.YtddhgkeiiobfeaaDoorW2
import Derived.Test.YtddhgkeiiobfeaaDoorW3
set_option linter.unusedVariables false
set_option linter.unusedSimpArgs false
namespace Go.Abs.U45
open Go.RowKit Go.Proofs

def R_L_WriteString : List AV → List AObj → List AV × List AObj → Prop := fun args H x => ∃ (b : Str) (s : Str) (n : Int) (c : Str), L_WriteString b s = some (n, c) ∧ args = [.ref 0 0, .pv (.str s)] ∧ H = [.bld b] ∧ x = ([.pv (.int .i64 n), .pv (.nil)], [.bld c])

theorem q_L_WriteString (b : Str) (s : Str) (n : Int) (c : Str) (h : L_WriteString b s = some (n, c)) : chC R_L_WriteString [.ref 0 0, .pv (.str s)] [.bld b] = some ([.pv (.int .i64 n), .pv (.nil)], [.bld c]) := by
  refine chC_eq ⟨b, s, n, c, h, rfl, rfl, rfl⟩ ?_
  rintro y ⟨bp, sp, np, cp, hp, ha, hH, rfl⟩
  simp only [List.cons.injEq, AV.pv.injEq, and_true, true_and] at ha
  have ya0 := ha
  have e_s := str_inj ya0
  simp only [List.cons.injEq, AObj.bld.injEq, AObj.map.injEq, AObj.row.injEq, AObj.var.injEq, AV.pv.injEq, and_true, true_and] at hH
  have yb0 := hH
  have e_b := yb0
  subst e_b
  subst e_s
  rw [h] at hp
  cases hp
  rfl

def R_L_String : List AV → List AObj → List AV × List AObj → Prop := fun args H x => ∃ (b : Str) (s : Str), L_String b = some s ∧ args = [.ref 0 0] ∧ H = [.bld b] ∧ x = ([.pv (.str s)], [.gone])

theorem q_L_String (b : Str) (s : Str) (h : L_String b = some s) : chC R_L_String [.ref 0 0] [.bld b] = some ([.pv (.str s)], [.gone]) := by
  refine chC_eq ⟨b, s, h, rfl, rfl, rfl⟩ ?_
  rintro y ⟨bp, sp, hp, ha, hH, rfl⟩
  simp only [List.cons.injEq, AObj.bld.injEq, AObj.map.injEq, AObj.row.injEq, AObj.var.injEq, AV.pv.injEq, and_true, true_and] at hH
  have yb0 := hH
  have e_b := yb0
  subst e_b
  rw [h] at hp
  cases hp
  rfl

def R_L_Split : List AV → List AObj → List AV × List AObj → Prop := fun args H x => ∃ (s : Str) (sep : Str) (l : List Str), L_Split s sep = some l ∧ args = [.pv (.str s), .pv (.str sep)] ∧ H = [] ∧ x = ([.pv (.slice (List.map PV.str l))], [])

theorem q_L_Split (s : Str) (sep : Str) (l : List Str) (h : L_Split s sep = some l) : chC R_L_Split [.pv (.str s), .pv (.str sep)] [] = some ([.pv (.slice (List.map PV.str l))], []) := by
  refine chC_eq ⟨s, sep, l, h, rfl, rfl, rfl⟩ ?_
  rintro y ⟨sp, sepp, lp, hp, ha, hH, rfl⟩
  simp only [List.cons.injEq, AV.pv.injEq, and_true, true_and] at ha
  obtain ⟨ya0, ya1⟩ := ha
  have e_s := str_inj ya0
  have e_sep := str_inj ya1
  subst e_s
  subst e_sep
  rw [h] at hp
  cases hp
  rfl

def R_L_IndexByte : List AV → List AObj → List AV × List AObj → Prop := fun args H x => ∃ (s : Str) (c : Int) (n : Int), L_IndexByte s c = some n ∧ args = [.pv (.str s), .pv (.int .u8 c)] ∧ H = [] ∧ x = ([.pv (.int .i64 n)], [])

theorem q_L_IndexByte (s : Str) (c : Int) (n : Int) (h : L_IndexByte s c = some n) : chC R_L_IndexByte [.pv (.str s), .pv (.int .u8 c)] [] = some ([.pv (.int .i64 n)], []) := by
  refine chC_eq ⟨s, c, n, h, rfl, rfl, rfl⟩ ?_
  rintro y ⟨sp, cp, np, hp, ha, hH, rfl⟩
  simp only [List.cons.injEq, AV.pv.injEq, and_true, true_and] at ha
  obtain ⟨ya0, ya1⟩ := ha
  have e_s := str_inj ya0
  have e_c := int_inj ya1
  subst e_s
  subst e_c
  rw [h] at hp
  cases hp
  rfl

def R_L_Join : List AV → List AObj → List AV × List AObj → Prop := fun args H x => ∃ (xs : List Str) (sep : Str) (s : Str), L_Join xs sep = some s ∧ args = [.pv (.slice (List.map PV.str xs)), .pv (.str sep)] ∧ H = [] ∧ x = ([.pv (.str s)], [])

theorem q_L_Join (xs : List Str) (sep : Str) (s : Str) (h : L_Join xs sep = some s) : chC R_L_Join [.pv (.slice (List.map PV.str xs)), .pv (.str sep)] [] = some ([.pv (.str s)], []) := by
  refine chC_eq ⟨xs, sep, s, h, rfl, rfl, rfl⟩ ?_
  rintro y ⟨xsp, sepp, sp, hp, ha, hH, rfl⟩
  simp only [List.cons.injEq, AV.pv.injEq, and_true, true_and] at ha
  obtain ⟨ya0, ya1⟩ := ha
  have e_xs := map_inj_of (fun _ _ => str_inj) (PV.slice.inj ya0)
  have e_sep := str_inj ya1
  subst e_xs
  subst e_sep
  rw [h] at hp
  cases hp
  rfl

def R_L_ReplaceAll : List AV → List AObj → List AV × List AObj → Prop := fun args H x => ∃ (s : Str) (a : Str) (b : Str) (t : Str), L_ReplaceAll s a b = some t ∧ args = [.pv (.str s), .pv (.str a), .pv (.str b)] ∧ H = [] ∧ x = ([.pv (.str t)], [])

theorem q_L_ReplaceAll (s : Str) (a : Str) (b : Str) (t : Str) (h : L_ReplaceAll s a b = some t) : chC R_L_ReplaceAll [.pv (.str s), .pv (.str a), .pv (.str b)] [] = some ([.pv (.str t)], []) := by
  refine chC_eq ⟨s, a, b, t, h, rfl, rfl, rfl⟩ ?_
  rintro y ⟨sp, ap, bp, tp, hp, ha, hH, rfl⟩
  simp only [List.cons.injEq, AV.pv.injEq, and_true, true_and] at ha
  obtain ⟨ya0, ya1, ya2⟩ := ha
  have e_s := str_inj ya0
  have e_a := str_inj ya1
  have e_b := str_inj ya2
  subst e_s
  subst e_a
  subst e_b
  rw [h] at hp
  cases hp
  rfl

def R_F8 : List AV → List AObj → List AV × List AObj → Prop := fun args H x => ∃ (op1 : NsOp) (r2 : Bool), F8 op1 = some r2 ∧ args = [.pv (.agg [.int .i64 op1.kind_, .int .i64 op1.flag_, .str op1.new_, .str op1.old_])] ∧ H = [] ∧ x = ([.pv (.bool r2)], [])

theorem q_F8 (op1 : NsOp) (r2 : Bool) (h : F8 op1 = some r2) : chC R_F8 [.pv (.agg [.int .i64 op1.kind_, .int .i64 op1.flag_, .str op1.new_, .str op1.old_])] [] = some ([.pv (.bool r2)], []) := by
  refine chC_eq ⟨op1, r2, h, rfl, rfl, rfl⟩ ?_
  rintro y ⟨op1p, r2p, hp, ha, hH, rfl⟩
  simp only [List.cons.injEq, AV.pv.injEq, and_true, true_and] at ha
  have ya0 := ha
  have e_op1 := NsOp.inj (x := op1) (y := op1p) ya0
  subst e_op1
  rw [h] at hp
  cases hp
  rfl

def R_F33 : List AV → List AObj → List AV × List AObj → Prop := fun args H x => ∃ (n1 : Int) (r2 : Bool), F33 n1 = some r2 ∧ args = [.pv (.int .i64 n1)] ∧ H = [] ∧ x = ([.pv (.bool r2)], [])

theorem q_F33 (n1 : Int) (r2 : Bool) (h : F33 n1 = some r2) : chC R_F33 [.pv (.int .i64 n1)] [] = some ([.pv (.bool r2)], []) := by
  refine chC_eq ⟨n1, r2, h, rfl, rfl, rfl⟩ ?_
  rintro y ⟨n1p, r2p, hp, ha, hH, rfl⟩
  simp only [List.cons.injEq, AV.pv.injEq, and_true, true_and] at ha
  have ya0 := ha
  have e_n1 := int_inj ya0
  subst e_n1
  rw [h] at hp
  cases hp
  rfl

def R_F34 : List AV → List AObj → List AV × List AObj → Prop := fun args H x => ∃ (s1 : Str) (r2 : Bool), F34 s1 = some r2 ∧ args = [.pv (.str s1)] ∧ H = [] ∧ x = ([.pv (.bool r2)], [])

theorem q_F34 (s1 : Str) (r2 : Bool) (h : F34 s1 = some r2) : chC R_F34 [.pv (.str s1)] [] = some ([.pv (.bool r2)], []) := by
  refine chC_eq ⟨s1, r2, h, rfl, rfl, rfl⟩ ?_
  rintro y ⟨s1p, r2p, hp, ha, hH, rfl⟩
  simp only [List.cons.injEq, AV.pv.injEq, and_true, true_and] at ha
  have ya0 := ha
  have e_s1 := str_inj ya0
  subst e_s1
  rw [h] at hp
  cases hp
  rfl

def R_F22 : List AV → List AObj → List AV × List AObj → Prop := fun args H x => ∃ (op1 : NsOp) (r2 : Bool), F22 op1 = some r2 ∧ args = [.pv (.agg [.int .i64 op1.kind_, .int .i64 op1.flag_, .str op1.new_, .str op1.old_])] ∧ H = [] ∧ x = ([.pv (.bool r2)], [])

theorem q_F22 (op1 : NsOp) (r2 : Bool) (h : F22 op1 = some r2) : chC R_F22 [.pv (.agg [.int .i64 op1.kind_, .int .i64 op1.flag_, .str op1.new_, .str op1.old_])] [] = some ([.pv (.bool r2)], []) := by
  refine chC_eq ⟨op1, r2, h, rfl, rfl, rfl⟩ ?_
  rintro y ⟨op1p, r2p, hp, ha, hH, rfl⟩
  simp only [List.cons.injEq, AV.pv.injEq, and_true, true_and] at ha
  have ya0 := ha
  have e_op1 := NsOp.inj (x := op1) (y := op1p) ya0
  subst e_op1
  rw [h] at hp
  cases hp
  rfl

def R_F35 : List AV → List AObj → List AV × List AObj → Prop := fun args H x => ∃ (kind1 : Int) (r2 : Str), F35 kind1 = some r2 ∧ args = [.pv (.int .i64 kind1)] ∧ H = [] ∧ x = ([.pv (.str r2)], [])

theorem q_F35 (kind1 : Int) (r2 : Str) (h : F35 kind1 = some r2) : chC R_F35 [.pv (.int .i64 kind1)] [] = some ([.pv (.str r2)], []) := by
  refine chC_eq ⟨kind1, r2, h, rfl, rfl, rfl⟩ ?_
  rintro y ⟨kind1p, r2p, hp, ha, hH, rfl⟩
  simp only [List.cons.injEq, AV.pv.injEq, and_true, true_and] at ha
  have ya0 := ha
  have e_kind1 := int_inj ya0
  subst e_kind1
  rw [h] at hp
  cases hp
  rfl

def R_F36 : List AV → List AObj → List AV × List AObj → Prop := fun args H x => ∃ (n1 : Int) (r2 : Str), F36 n1 = some r2 ∧ args = [.pv (.int .i64 n1)] ∧ H = [] ∧ x = ([.pv (.str r2)], [])

theorem q_F36 (n1 : Int) (r2 : Str) (h : F36 n1 = some r2) : chC R_F36 [.pv (.int .i64 n1)] [] = some ([.pv (.str r2)], []) := by
  refine chC_eq ⟨n1, r2, h, rfl, rfl, rfl⟩ ?_
  rintro y ⟨n1p, r2p, hp, ha, hH, rfl⟩
  simp only [List.cons.injEq, AV.pv.injEq, and_true, true_and] at ha
  have ya0 := ha
  have e_n1 := int_inj ya0
  subst e_n1
  rw [h] at hp
  cases hp
  rfl

def R_F37 : List AV → List AObj → List AV × List AObj → Prop := fun args H x => ∃ (s1 : Str) (r2 : Str), F37 s1 = some r2 ∧ args = [.pv (.str s1)] ∧ H = [] ∧ x = ([.pv (.str r2)], [])

theorem q_F37 (s1 : Str) (r2 : Str) (h : F37 s1 = some r2) : chC R_F37 [.pv (.str s1)] [] = some ([.pv (.str r2)], []) := by
  refine chC_eq ⟨s1, r2, h, rfl, rfl, rfl⟩ ?_
  rintro y ⟨s1p, r2p, hp, ha, hH, rfl⟩
  simp only [List.cons.injEq, AV.pv.injEq, and_true, true_and] at ha
  have ya0 := ha
  have e_s1 := str_inj ya0
  subst e_s1
  rw [h] at hp
  cases hp
  rfl

def R_F23 : List AV → List AObj → List AV × List AObj → Prop := fun args H x => ∃ (op1 : NsOp) (r2 : Str), F23 op1 = some r2 ∧ args = [.pv (.agg [.int .i64 op1.kind_, .int .i64 op1.flag_, .str op1.new_, .str op1.old_])] ∧ H = [] ∧ x = ([.pv (.str r2)], [])

theorem q_F23 (op1 : NsOp) (r2 : Str) (h : F23 op1 = some r2) : chC R_F23 [.pv (.agg [.int .i64 op1.kind_, .int .i64 op1.flag_, .str op1.new_, .str op1.old_])] [] = some ([.pv (.str r2)], []) := by
  refine chC_eq ⟨op1, r2, h, rfl, rfl, rfl⟩ ?_
  rintro y ⟨op1p, r2p, hp, ha, hH, rfl⟩
  simp only [List.cons.injEq, AV.pv.injEq, and_true, true_and] at ha
  have ya0 := ha
  have e_op1 := NsOp.inj (x := op1) (y := op1p) ya0
  subst e_op1
  rw [h] at hp
  cases hp
  rfl

def R_F10 : List AV → List AObj → List AV × List AObj → Prop := fun args H x => ∃ (op1 : NsOp) (r2 : Str) (r3 : Int), F10 op1 = some (r2, r3) ∧ args = [.pv (.agg [.int .i64 op1.kind_, .int .i64 op1.flag_, .str op1.new_, .str op1.old_])] ∧ H = [] ∧ x = ([.pv (.str r2), .pv (.int .i64 r3)], [])

theorem q_F10 (op1 : NsOp) (r2 : Str) (r3 : Int) (h : F10 op1 = some (r2, r3)) : chC R_F10 [.pv (.agg [.int .i64 op1.kind_, .int .i64 op1.flag_, .str op1.new_, .str op1.old_])] [] = some ([.pv (.str r2), .pv (.int .i64 r3)], []) := by
  refine chC_eq ⟨op1, r2, r3, h, rfl, rfl, rfl⟩ ?_
  rintro y ⟨op1p, r2p, r3p, hp, ha, hH, rfl⟩
  simp only [List.cons.injEq, AV.pv.injEq, and_true, true_and] at ha
  have ya0 := ha
  have e_op1 := NsOp.inj (x := op1) (y := op1p) ya0
  subst e_op1
  rw [h] at hp
  cases hp
  rfl

def R_F42 : List AV → List AObj → List AV × List AObj → Prop := fun args H x => ∃ (s1 : Str) (r2 : Str) (r3 : Int) (r4 : Bool), F42 s1 = some (r2, r3, r4) ∧ args = [.pv (.str s1)] ∧ H = [] ∧ x = ([.pv (.str r2), .pv (.int .i64 r3), .pv (.bool r4)], [])

theorem q_F42 (s1 : Str) (r2 : Str) (r3 : Int) (r4 : Bool) (h : F42 s1 = some (r2, r3, r4)) : chC R_F42 [.pv (.str s1)] [] = some ([.pv (.str r2), .pv (.int .i64 r3), .pv (.bool r4)], []) := by
  refine chC_eq ⟨s1, r2, r3, r4, h, rfl, rfl, rfl⟩ ?_
  rintro y ⟨s1p, r2p, r3p, r4p, hp, ha, hH, rfl⟩
  simp only [List.cons.injEq, AV.pv.injEq, and_true, true_and] at ha
  have ya0 := ha
  have e_s1 := str_inj ya0
  subst e_s1
  rw [h] at hp
  cases hp
  rfl

def R_F29 : List AV → List AObj → List AV × List AObj → Prop := fun args H x => ∃ (s1 : Str) (r2 : List Word) (r3 : Bool), F29 s1 = some (r2, r3) ∧ args = [.pv (.str s1)] ∧ H = [] ∧ x = ([.pv (.slice (List.map Word.pv r2)), .pv (.bool r3)], [])

theorem q_F29 (s1 : Str) (r2 : List Word) (r3 : Bool) (h : F29 s1 = some (r2, r3)) : chC R_F29 [.pv (.str s1)] [] = some ([.pv (.slice (List.map Word.pv r2)), .pv (.bool r3)], []) := by
  refine chC_eq ⟨s1, r2, r3, h, rfl, rfl, rfl⟩ ?_
  rintro y ⟨s1p, r2p, r3p, hp, ha, hH, rfl⟩
  simp only [List.cons.injEq, AV.pv.injEq, and_true, true_and] at ha
  have ya0 := ha
  have e_s1 := str_inj ya0
  subst e_s1
  rw [h] at hp
  cases hp
  rfl

def R_F44 : List AV → List AObj → List AV × List AObj → Prop := fun args H x => ∃ (s1 : Str) (r2 : Int), F44 s1 = some r2 ∧ args = [.pv (.str s1)] ∧ H = [] ∧ x = ([.pv (.int .i64 r2)], [])

theorem q_F44 (s1 : Str) (r2 : Int) (h : F44 s1 = some r2) : chC R_F44 [.pv (.str s1)] [] = some ([.pv (.int .i64 r2)], []) := by
  refine chC_eq ⟨s1, r2, h, rfl, rfl, rfl⟩ ?_
  rintro y ⟨s1p, r2p, hp, ha, hH, rfl⟩
  simp only [List.cons.injEq, AV.pv.injEq, and_true, true_and] at ha
  have ya0 := ha
  have e_s1 := str_inj ya0
  subst e_s1
  rw [h] at hp
  cases hp
  rfl

def R_F56 : List AV → List AObj → List AV × List AObj → Prop := fun args H x => ∃ (s1 : Str) (prefix2 : Str) (r3 : Bool), F56 s1 prefix2 = some r3 ∧ args = [.pv (.str s1), .pv (.str prefix2)] ∧ H = [] ∧ x = ([.pv (.bool r3)], [])

theorem q_F56 (s1 : Str) (prefix2 : Str) (r3 : Bool) (h : F56 s1 prefix2 = some r3) : chC R_F56 [.pv (.str s1), .pv (.str prefix2)] [] = some ([.pv (.bool r3)], []) := by
  refine chC_eq ⟨s1, prefix2, r3, h, rfl, rfl, rfl⟩ ?_
  rintro y ⟨s1p, prefix2p, r3p, hp, ha, hH, rfl⟩
  simp only [List.cons.injEq, AV.pv.injEq, and_true, true_and] at ha
  obtain ⟨ya0, ya1⟩ := ha
  have e_s1 := str_inj ya0
  have e_prefix2 := str_inj ya1
  subst e_s1
  subst e_prefix2
  rw [h] at hp
  cases hp
  rfl

def R_F45 : List AV → List AObj → List AV × List AObj → Prop := fun args H x => ∃ (s1 : Str) (prefix2 : Str) (r3 : Bool), F45 s1 prefix2 = some r3 ∧ args = [.pv (.str s1), .pv (.str prefix2)] ∧ H = [] ∧ x = ([.pv (.bool r3)], [])

theorem q_F45 (s1 : Str) (prefix2 : Str) (r3 : Bool) (h : F45 s1 prefix2 = some r3) : chC R_F45 [.pv (.str s1), .pv (.str prefix2)] [] = some ([.pv (.bool r3)], []) := by
  refine chC_eq ⟨s1, prefix2, r3, h, rfl, rfl, rfl⟩ ?_
  rintro y ⟨s1p, prefix2p, r3p, hp, ha, hH, rfl⟩
  simp only [List.cons.injEq, AV.pv.injEq, and_true, true_and] at ha
  obtain ⟨ya0, ya1⟩ := ha
  have e_s1 := str_inj ya0
  have e_prefix2 := str_inj ya1
  subst e_s1
  subst e_prefix2
  rw [h] at hp
  cases hp
  rfl

def R_F46 : List AV → List AObj → List AV × List AObj → Prop := fun args H x => ∃ (s1 : Str) (r2 : Int) (r3 : Bool), F46 s1 = some (r2, r3) ∧ args = [.pv (.str s1)] ∧ H = [] ∧ x = ([.pv (.int .i64 r2), .pv (.bool r3)], [])

theorem q_F46 (s1 : Str) (r2 : Int) (r3 : Bool) (h : F46 s1 = some (r2, r3)) : chC R_F46 [.pv (.str s1)] [] = some ([.pv (.int .i64 r2), .pv (.bool r3)], []) := by
  refine chC_eq ⟨s1, r2, r3, h, rfl, rfl, rfl⟩ ?_
  rintro y ⟨s1p, r2p, r3p, hp, ha, hH, rfl⟩
  simp only [List.cons.injEq, AV.pv.injEq, and_true, true_and] at ha
  have ya0 := ha
  have e_s1 := str_inj ya0
  subst e_s1
  rw [h] at hp
  cases hp
  rfl

def R_F48 : List AV → List AObj → List AV × List AObj → Prop := fun args H x => ∃ (w1 : Word) (r2 : Bool), F48 w1 = some r2 ∧ args = [.pv (.agg [.str w1.text_, .bool w1.quoted_])] ∧ H = [] ∧ x = ([.pv (.bool r2)], [])

theorem q_F48 (w1 : Word) (r2 : Bool) (h : F48 w1 = some r2) : chC R_F48 [.pv (.agg [.str w1.text_, .bool w1.quoted_])] [] = some ([.pv (.bool r2)], []) := by
  refine chC_eq ⟨w1, r2, h, rfl, rfl, rfl⟩ ?_
  rintro y ⟨w1p, r2p, hp, ha, hH, rfl⟩
  simp only [List.cons.injEq, AV.pv.injEq, and_true, true_and] at ha
  have ya0 := ha
  have e_w1 := Word.inj (x := w1) (y := w1p) ya0
  subst e_w1
  rw [h] at hp
  cases hp
  rfl

def R_F57 : List AV → List AObj → List AV × List AObj → Prop := fun args H x => ∃ (s1 : List Word) (r2 : Int), F57 s1 = some r2 ∧ args = [.pv (.slice (List.map Word.pv s1)), .fn 48 []] ∧ H = [] ∧ x = ([.pv (.int .i64 r2)], [])

theorem q_F57 (s1 : List Word) (r2 : Int) (h : F57 s1 = some r2) : chC R_F57 [.pv (.slice (List.map Word.pv s1)), .fn 48 []] [] = some ([.pv (.int .i64 r2)], []) := by
  refine chC_eq ⟨s1, r2, h, rfl, rfl, rfl⟩ ?_
  rintro y ⟨s1p, r2p, hp, ha, hH, rfl⟩
  simp only [List.cons.injEq, AV.pv.injEq, and_true, true_and] at ha
  have ya0 := ha
  have e_s1 := map_inj_of (fun _ _ => Word.inj) (PV.slice.inj ya0)
  subst e_s1
  rw [h] at hp
  cases hp
  rfl

def R_F47 : List AV → List AObj → List AV × List AObj → Prop := fun args H x => ∃ (s1 : List Word) (r2 : Bool), F47 s1 = some r2 ∧ args = [.pv (.slice (List.map Word.pv s1)), .fn 48 []] ∧ H = [] ∧ x = ([.pv (.bool r2)], [])

theorem q_F47 (s1 : List Word) (r2 : Bool) (h : F47 s1 = some r2) : chC R_F47 [.pv (.slice (List.map Word.pv s1)), .fn 48 []] [] = some ([.pv (.bool r2)], []) := by
  refine chC_eq ⟨s1, r2, h, rfl, rfl, rfl⟩ ?_
  rintro y ⟨s1p, r2p, hp, ha, hH, rfl⟩
  simp only [List.cons.injEq, AV.pv.injEq, and_true, true_and] at ha
  have ya0 := ha
  have e_s1 := map_inj_of (fun _ _ => Word.inj) (PV.slice.inj ya0)
  subst e_s1
  rw [h] at hp
  cases hp
  rfl

def R_F32 : List AV → List AObj → List AV × List AObj → Prop := fun args H x => ∃ (words1 : List Word) (r2 : NsOp) (r3 : Bool), F32 words1 = some (r2, r3) ∧ args = [.pv (.slice (List.map Word.pv words1))] ∧ H = [] ∧ x = ([.pv (.agg [.int .i64 r2.kind_, .int .i64 r2.flag_, .str r2.new_, .str r2.old_]), .pv (.bool r3)], [])

theorem q_F32 (words1 : List Word) (r2 : NsOp) (r3 : Bool) (h : F32 words1 = some (r2, r3)) : chC R_F32 [.pv (.slice (List.map Word.pv words1))] [] = some ([.pv (.agg [.int .i64 r2.kind_, .int .i64 r2.flag_, .str r2.new_, .str r2.old_]), .pv (.bool r3)], []) := by
  refine chC_eq ⟨words1, r2, r3, h, rfl, rfl, rfl⟩ ?_
  rintro y ⟨words1p, r2p, r3p, hp, ha, hH, rfl⟩
  simp only [List.cons.injEq, AV.pv.injEq, and_true, true_and] at ha
  have ya0 := ha
  have e_words1 := map_inj_of (fun _ _ => Word.inj) (PV.slice.inj ya0)
  subst e_words1
  rw [h] at hp
  cases hp
  rfl

def R_F20 : List AV → List AObj → List AV × List AObj → Prop := fun args H x => ∃ (s1 : Str) (r2 : NsOp) (r3 : Int), F20 s1 = some (r2, r3) ∧ args = [.pv (.str s1)] ∧ H = [] ∧ x = ([.pv (.agg [.int .i64 r2.kind_, .int .i64 r2.flag_, .str r2.new_, .str r2.old_]), .pv (.int .i64 r3)], [])

theorem q_F20 (s1 : Str) (r2 : NsOp) (r3 : Int) (h : F20 s1 = some (r2, r3)) : chC R_F20 [.pv (.str s1)] [] = some ([.pv (.agg [.int .i64 r2.kind_, .int .i64 r2.flag_, .str r2.new_, .str r2.old_]), .pv (.int .i64 r3)], []) := by
  refine chC_eq ⟨s1, r2, r3, h, rfl, rfl, rfl⟩ ?_
  rintro y ⟨s1p, r2p, r3p, hp, ha, hH, rfl⟩
  simp only [List.cons.injEq, AV.pv.injEq, and_true, true_and] at ha
  have ya0 := ha
  have e_s1 := str_inj ya0
  subst e_s1
  rw [h] at hp
  cases hp
  rfl

def R_F16 : List AV → List AObj → List AV × List AObj → Prop := fun args H x => ∃ (s1 : Str) (r2 : List NsOp) (r3 : Int) (r4 : Int), F16 s1 = some (r2, r3, r4) ∧ args = [.pv (.str s1)] ∧ H = [] ∧ x = ([.pv (.slice (List.map NsOp.pv r2)), .pv (.int .i64 r3), .pv (.int .i64 r4)], [])

theorem q_F16 (s1 : Str) (r2 : List NsOp) (r3 : Int) (r4 : Int) (h : F16 s1 = some (r2, r3, r4)) : chC R_F16 [.pv (.str s1)] [] = some ([.pv (.slice (List.map NsOp.pv r2)), .pv (.int .i64 r3), .pv (.int .i64 r4)], []) := by
  refine chC_eq ⟨s1, r2, r3, r4, h, rfl, rfl, rfl⟩ ?_
  rintro y ⟨s1p, r2p, r3p, r4p, hp, ha, hH, rfl⟩
  simp only [List.cons.injEq, AV.pv.injEq, and_true, true_and] at ha
  have ya0 := ha
  have e_s1 := str_inj ya0
  subst e_s1
  rw [h] at hp
  cases hp
  rfl

def R_F25 : List AV → List AObj → List AV × List AObj → Prop := fun args H x => ∃ (a1 : Chan) (b2 : Chan) (r3 : Bool), F25 a1 b2 = some r3 ∧ args = [.pv (.agg [.int .i64 a1.dev_, .int .i64 a1.id_, .int .i64 a1.fid_, .str a1.path_, .str a1.name_]), .pv (.agg [.int .i64 b2.dev_, .int .i64 b2.id_, .int .i64 b2.fid_, .str b2.path_, .str b2.name_])] ∧ H = [] ∧ x = ([.pv (.bool r3)], [])

theorem q_F25 (a1 : Chan) (b2 : Chan) (r3 : Bool) (h : F25 a1 b2 = some r3) : chC R_F25 [.pv (.agg [.int .i64 a1.dev_, .int .i64 a1.id_, .int .i64 a1.fid_, .str a1.path_, .str a1.name_]), .pv (.agg [.int .i64 b2.dev_, .int .i64 b2.id_, .int .i64 b2.fid_, .str b2.path_, .str b2.name_])] [] = some ([.pv (.bool r3)], []) := by
  refine chC_eq ⟨a1, b2, r3, h, rfl, rfl, rfl⟩ ?_
  rintro y ⟨a1p, b2p, r3p, hp, ha, hH, rfl⟩
  simp only [List.cons.injEq, AV.pv.injEq, and_true, true_and] at ha
  obtain ⟨ya0, ya1⟩ := ha
  have e_a1 := Chan.inj (x := a1) (y := a1p) ya0
  have e_b2 := Chan.inj (x := b2) (y := b2p) ya1
  subst e_a1
  subst e_b2
  rw [h] at hp
  cases hp
  rfl

def R_F13 : List AV → List AObj → List AV × List AObj → Prop := fun args H x => ∃ (n1 : Ns) (cwd2 : Str) (r3 : Str), F13 n1 cwd2 = some r3 ∧ args = [.pv (.agg [.int .i64 n1.id_, .int .i64 n1.root_.dev_, .int .i64 n1.root_.id_, .int .i64 n1.root_.fid_, .str n1.root_.path_, .str n1.root_.name_, .slice (List.map Mount.pv n1.mounts_)]), .pv (.str cwd2)] ∧ H = [] ∧ x = ([.pv (.str r3)], [])

theorem q_F13 (n1 : Ns) (cwd2 : Str) (r3 : Str) (h : F13 n1 cwd2 = some r3) : chC R_F13 [.pv (.agg [.int .i64 n1.id_, .int .i64 n1.root_.dev_, .int .i64 n1.root_.id_, .int .i64 n1.root_.fid_, .str n1.root_.path_, .str n1.root_.name_, .slice (List.map Mount.pv n1.mounts_)]), .pv (.str cwd2)] [] = some ([.pv (.str r3)], []) := by
  refine chC_eq ⟨n1, cwd2, r3, h, rfl, rfl, rfl⟩ ?_
  rintro y ⟨n1p, cwd2p, r3p, hp, ha, hH, rfl⟩
  simp only [List.cons.injEq, AV.pv.injEq, and_true, true_and] at ha
  obtain ⟨ya0, ya1⟩ := ha
  have e_n1 := Ns.inj (x := n1) (y := n1p) ya0
  have e_cwd2 := str_inj ya1
  subst e_n1
  subst e_cwd2
  rw [h] at hp
  cases hp
  rfl

def R_F9 : List AV → List AObj → List AV × List AObj → Prop := fun args H x => ∃ (r1 : Bool), F9 = some r1 ∧ args = [] ∧ H = [] ∧ x = ([.pv (.bool r1)], [])

theorem q_F9 (r1 : Bool) (h : F9 = some r1) : chC R_F9 [] [] = some ([.pv (.bool r1)], []) := by
  refine chC_eq ⟨r1, h, rfl, rfl, rfl⟩ ?_
  rintro y ⟨r1p, hp, ha, hH, rfl⟩
  rw [h] at hp
  cases hp
  rfl

def R_F30 : List AV → List AObj → List AV × List AObj → Prop := fun args H x => ∃ (n1 : Int) (r2 : Bool), F30 n1 = some r2 ∧ args = [.pv (.int .i64 n1)] ∧ H = [] ∧ x = ([.pv (.bool r2)], [])

theorem q_F30 (n1 : Int) (r2 : Bool) (h : F30 n1 = some r2) : chC R_F30 [.pv (.int .i64 n1)] [] = some ([.pv (.bool r2)], []) := by
  refine chC_eq ⟨n1, r2, h, rfl, rfl, rfl⟩ ?_
  rintro y ⟨n1p, r2p, hp, ha, hH, rfl⟩
  simp only [List.cons.injEq, AV.pv.injEq, and_true, true_and] at ha
  have ya0 := ha
  have e_n1 := int_inj ya0
  subst e_n1
  rw [h] at hp
  cases hp
  rfl

def R_F15 : List AV → List AObj → List AV × List AObj → Prop := fun args H x => ∃ (s1 : Str) (r2 : Bool), F15 s1 = some r2 ∧ args = [.pv (.str s1)] ∧ H = [] ∧ x = ([.pv (.bool r2)], [])

theorem q_F15 (s1 : Str) (r2 : Bool) (h : F15 s1 = some r2) : chC R_F15 [.pv (.str s1)] [] = some ([.pv (.bool r2)], []) := by
  refine chC_eq ⟨s1, r2, h, rfl, rfl, rfl⟩ ?_
  rintro y ⟨s1p, r2p, hp, ha, hH, rfl⟩
  simp only [List.cons.injEq, AV.pv.injEq, and_true, true_and] at ha
  have ya0 := ha
  have e_s1 := str_inj ya0
  subst e_s1
  rw [h] at hp
  cases hp
  rfl

def R_F19 : List AV → List AObj → List AV × List AObj → Prop := fun args H x => ∃ (op1 : NsOp) (r2 : Bool), F19 op1 = some r2 ∧ args = [.pv (.agg [.int .i64 op1.kind_, .int .i64 op1.flag_, .str op1.new_, .str op1.old_])] ∧ H = [] ∧ x = ([.pv (.bool r2)], [])

theorem q_F19 (op1 : NsOp) (r2 : Bool) (h : F19 op1 = some r2) : chC R_F19 [.pv (.agg [.int .i64 op1.kind_, .int .i64 op1.flag_, .str op1.new_, .str op1.old_])] [] = some ([.pv (.bool r2)], []) := by
  refine chC_eq ⟨op1, r2, h, rfl, rfl, rfl⟩ ?_
  rintro y ⟨op1p, r2p, hp, ha, hH, rfl⟩
  simp only [List.cons.injEq, AV.pv.injEq, and_true, true_and] at ha
  have ya0 := ha
  have e_op1 := NsOp.inj (x := op1) (y := op1p) ya0
  subst e_op1
  rw [h] at hp
  cases hp
  rfl

def R_F39 : List AV → List AObj → List AV × List AObj → Prop := fun args H x => ∃ (s1 : Str) (r2 : Str), F39 s1 = some r2 ∧ args = [.pv (.str s1)] ∧ H = [] ∧ x = ([.pv (.str r2)], [])

theorem q_F39 (s1 : Str) (r2 : Str) (h : F39 s1 = some r2) : chC R_F39 [.pv (.str s1)] [] = some ([.pv (.str r2)], []) := by
  refine chC_eq ⟨s1, r2, h, rfl, rfl, rfl⟩ ?_
  rintro y ⟨s1p, r2p, hp, ha, hH, rfl⟩
  simp only [List.cons.injEq, AV.pv.injEq, and_true, true_and] at ha
  have ya0 := ha
  have e_s1 := str_inj ya0
  subst e_s1
  rw [h] at hp
  cases hp
  rfl

def R_F24 : List AV → List AObj → List AV × List AObj → Prop := fun args H x => ∃ (op1 : NsOp) (r2 : Str), F24 op1 = some r2 ∧ args = [.pv (.agg [.int .i64 op1.kind_, .int .i64 op1.flag_, .str op1.new_, .str op1.old_])] ∧ H = [] ∧ x = ([.pv (.str r2)], [])

theorem q_F24 (op1 : NsOp) (r2 : Str) (h : F24 op1 = some r2) : chC R_F24 [.pv (.agg [.int .i64 op1.kind_, .int .i64 op1.flag_, .str op1.new_, .str op1.old_])] [] = some ([.pv (.str r2)], []) := by
  refine chC_eq ⟨op1, r2, h, rfl, rfl, rfl⟩ ?_
  rintro y ⟨op1p, r2p, hp, ha, hH, rfl⟩
  simp only [List.cons.injEq, AV.pv.injEq, and_true, true_and] at ha
  have ya0 := ha
  have e_op1 := NsOp.inj (x := op1) (y := op1p) ya0
  subst e_op1
  rw [h] at hp
  cases hp
  rfl

def R_F11 : List AV → List AObj → List AV × List AObj → Prop := fun args H x => ∃ (op1 : NsOp) (r2 : Str) (r3 : Int), F11 op1 = some (r2, r3) ∧ args = [.pv (.agg [.int .i64 op1.kind_, .int .i64 op1.flag_, .str op1.new_, .str op1.old_])] ∧ H = [] ∧ x = ([.pv (.str r2), .pv (.int .i64 r3)], [])

theorem q_F11 (op1 : NsOp) (r2 : Str) (r3 : Int) (h : F11 op1 = some (r2, r3)) : chC R_F11 [.pv (.agg [.int .i64 op1.kind_, .int .i64 op1.flag_, .str op1.new_, .str op1.old_])] [] = some ([.pv (.str r2), .pv (.int .i64 r3)], []) := by
  refine chC_eq ⟨op1, r2, r3, h, rfl, rfl, rfl⟩ ?_
  rintro y ⟨op1p, r2p, r3p, hp, ha, hH, rfl⟩
  simp only [List.cons.injEq, AV.pv.injEq, and_true, true_and] at ha
  have ya0 := ha
  have e_op1 := NsOp.inj (x := op1) (y := op1p) ya0
  subst e_op1
  rw [h] at hp
  cases hp
  rfl

def R_F3 : List AV → List AObj → List AV × List AObj → Prop := fun args H x => ∃ (op1 : NsOp) (r2 : Bool), F3 op1 = some r2 ∧ args = [.pv (.agg [.int .i64 op1.kind_, .int .i64 op1.flag_, .str op1.new_, .str op1.old_])] ∧ H = [] ∧ x = ([.pv (.bool r2)], [])

theorem q_F3 (op1 : NsOp) (r2 : Bool) (h : F3 op1 = some r2) : chC R_F3 [.pv (.agg [.int .i64 op1.kind_, .int .i64 op1.flag_, .str op1.new_, .str op1.old_])] [] = some ([.pv (.bool r2)], []) := by
  refine chC_eq ⟨op1, r2, h, rfl, rfl, rfl⟩ ?_
  rintro y ⟨op1p, r2p, hp, ha, hH, rfl⟩
  simp only [List.cons.injEq, AV.pv.injEq, and_true, true_and] at ha
  have ya0 := ha
  have e_op1 := NsOp.inj (x := op1) (y := op1p) ya0
  subst e_op1
  rw [h] at hp
  cases hp
  rfl

def R_F12 : List AV → List AObj → List AV × List AObj → Prop := fun args H x => ∃ (n1 : Ns) (r2 : Bool), F12 n1 = some r2 ∧ args = [.pv (.agg [.int .i64 n1.id_, .int .i64 n1.root_.dev_, .int .i64 n1.root_.id_, .int .i64 n1.root_.fid_, .str n1.root_.path_, .str n1.root_.name_, .slice (List.map Mount.pv n1.mounts_)])] ∧ H = [] ∧ x = ([.pv (.bool r2)], [])

theorem q_F12 (n1 : Ns) (r2 : Bool) (h : F12 n1 = some r2) : chC R_F12 [.pv (.agg [.int .i64 n1.id_, .int .i64 n1.root_.dev_, .int .i64 n1.root_.id_, .int .i64 n1.root_.fid_, .str n1.root_.path_, .str n1.root_.name_, .slice (List.map Mount.pv n1.mounts_)])] [] = some ([.pv (.bool r2)], []) := by
  refine chC_eq ⟨n1, r2, h, rfl, rfl, rfl⟩ ?_
  rintro y ⟨n1p, r2p, hp, ha, hH, rfl⟩
  simp only [List.cons.injEq, AV.pv.injEq, and_true, true_and] at ha
  have ya0 := ha
  have e_n1 := Ns.inj (x := n1) (y := n1p) ya0
  subst e_n1
  rw [h] at hp
  cases hp
  rfl

def R_F14 : List AV → List AObj → List AV × List AObj → Prop := fun args H x => ∃ (n1 : Ns) (cwd2 : Str) (r3 : Str), F14 n1 cwd2 = some r3 ∧ args = [.pv (.agg [.int .i64 n1.id_, .int .i64 n1.root_.dev_, .int .i64 n1.root_.id_, .int .i64 n1.root_.fid_, .str n1.root_.path_, .str n1.root_.name_, .slice (List.map Mount.pv n1.mounts_)]), .pv (.str cwd2)] ∧ H = [] ∧ x = ([.pv (.str r3)], [])

theorem q_F14 (n1 : Ns) (cwd2 : Str) (r3 : Str) (h : F14 n1 cwd2 = some r3) : chC R_F14 [.pv (.agg [.int .i64 n1.id_, .int .i64 n1.root_.dev_, .int .i64 n1.root_.id_, .int .i64 n1.root_.fid_, .str n1.root_.path_, .str n1.root_.name_, .slice (List.map Mount.pv n1.mounts_)]), .pv (.str cwd2)] [] = some ([.pv (.str r3)], []) := by
  refine chC_eq ⟨n1, cwd2, r3, h, rfl, rfl, rfl⟩ ?_
  rintro y ⟨n1p, cwd2p, r3p, hp, ha, hH, rfl⟩
  simp only [List.cons.injEq, AV.pv.injEq, and_true, true_and] at ha
  obtain ⟨ya0, ya1⟩ := ha
  have e_n1 := Ns.inj (x := n1) (y := n1p) ya0
  have e_cwd2 := str_inj ya1
  subst e_n1
  subst e_cwd2
  rw [h] at hp
  cases hp
  rfl

def R_F4 : List AV → List AObj → List AV × List AObj → Prop := fun args H x => ∃ (n1 : Ns) (cwd2 : Str) (r3 : Bool), F4 n1 cwd2 = some r3 ∧ args = [.pv (.agg [.int .i64 n1.id_, .int .i64 n1.root_.dev_, .int .i64 n1.root_.id_, .int .i64 n1.root_.fid_, .str n1.root_.path_, .str n1.root_.name_, .slice (List.map Mount.pv n1.mounts_)]), .pv (.str cwd2)] ∧ H = [] ∧ x = ([.pv (.bool r3)], [])

theorem q_F4 (n1 : Ns) (cwd2 : Str) (r3 : Bool) (h : F4 n1 cwd2 = some r3) : chC R_F4 [.pv (.agg [.int .i64 n1.id_, .int .i64 n1.root_.dev_, .int .i64 n1.root_.id_, .int .i64 n1.root_.fid_, .str n1.root_.path_, .str n1.root_.name_, .slice (List.map Mount.pv n1.mounts_)]), .pv (.str cwd2)] [] = some ([.pv (.bool r3)], []) := by
  refine chC_eq ⟨n1, cwd2, r3, h, rfl, rfl, rfl⟩ ?_
  rintro y ⟨n1p, cwd2p, r3p, hp, ha, hH, rfl⟩
  simp only [List.cons.injEq, AV.pv.injEq, and_true, true_and] at ha
  obtain ⟨ya0, ya1⟩ := ha
  have e_n1 := Ns.inj (x := n1) (y := n1p) ya0
  have e_cwd2 := str_inj ya1
  subst e_n1
  subst e_cwd2
  rw [h] at hp
  cases hp
  rfl

def R_F5 : List AV → List AObj → List AV × List AObj → Prop := fun args H x => ∃ (n1 : Ns) (cwd2 : Str) (r3 : Bool), F5 n1 cwd2 = some r3 ∧ args = [.pv (.agg [.int .i64 n1.id_, .int .i64 n1.root_.dev_, .int .i64 n1.root_.id_, .int .i64 n1.root_.fid_, .str n1.root_.path_, .str n1.root_.name_, .slice (List.map Mount.pv n1.mounts_)]), .pv (.str cwd2)] ∧ H = [] ∧ x = ([.pv (.bool r3)], [])

theorem q_F5 (n1 : Ns) (cwd2 : Str) (r3 : Bool) (h : F5 n1 cwd2 = some r3) : chC R_F5 [.pv (.agg [.int .i64 n1.id_, .int .i64 n1.root_.dev_, .int .i64 n1.root_.id_, .int .i64 n1.root_.fid_, .str n1.root_.path_, .str n1.root_.name_, .slice (List.map Mount.pv n1.mounts_)]), .pv (.str cwd2)] [] = some ([.pv (.bool r3)], []) := by
  refine chC_eq ⟨n1, cwd2, r3, h, rfl, rfl, rfl⟩ ?_
  rintro y ⟨n1p, cwd2p, r3p, hp, ha, hH, rfl⟩
  simp only [List.cons.injEq, AV.pv.injEq, and_true, true_and] at ha
  obtain ⟨ya0, ya1⟩ := ha
  have e_n1 := Ns.inj (x := n1) (y := n1p) ya0
  have e_cwd2 := str_inj ya1
  subst e_n1
  subst e_cwd2
  rw [h] at hp
  cases hp
  rfl

def R_F17 : List AV → List AObj → List AV × List AObj → Prop := fun args H x => ∃ (l1 : List NsOp) (r2 : Str) (r3 : Int), F17 l1 = some (r2, r3) ∧ args = [.pv (.slice (List.map NsOp.pv l1))] ∧ H = [] ∧ x = ([.pv (.str r2), .pv (.int .i64 r3)], [])

theorem q_F17 (l1 : List NsOp) (r2 : Str) (r3 : Int) (h : F17 l1 = some (r2, r3)) : chC R_F17 [.pv (.slice (List.map NsOp.pv l1))] [] = some ([.pv (.str r2), .pv (.int .i64 r3)], []) := by
  refine chC_eq ⟨l1, r2, r3, h, rfl, rfl, rfl⟩ ?_
  rintro y ⟨l1p, r2p, r3p, hp, ha, hH, rfl⟩
  simp only [List.cons.injEq, AV.pv.injEq, and_true, true_and] at ha
  have ya0 := ha
  have e_l1 := map_inj_of (fun _ _ => NsOp.inj) (PV.slice.inj ya0)
  subst e_l1
  rw [h] at hp
  cases hp
  rfl

def R_F18 : List AV → List AObj → List AV × List AObj → Prop := fun args H x => ∃ (l1 : List NsOp) (r2 : Str) (r3 : Int), F18 l1 = some (r2, r3) ∧ args = [.pv (.slice (List.map NsOp.pv l1))] ∧ H = [] ∧ x = ([.pv (.str r2), .pv (.int .i64 r3)], [])

theorem q_F18 (l1 : List NsOp) (r2 : Str) (r3 : Int) (h : F18 l1 = some (r2, r3)) : chC R_F18 [.pv (.slice (List.map NsOp.pv l1))] [] = some ([.pv (.str r2), .pv (.int .i64 r3)], []) := by
  refine chC_eq ⟨l1, r2, r3, h, rfl, rfl, rfl⟩ ?_
  rintro y ⟨l1p, r2p, r3p, hp, ha, hH, rfl⟩
  simp only [List.cons.injEq, AV.pv.injEq, and_true, true_and] at ha
  have ya0 := ha
  have e_l1 := map_inj_of (fun _ _ => NsOp.inj) (PV.slice.inj ya0)
  subst e_l1
  rw [h] at hp
  cases hp
  rfl

def R_F6 : List AV → List AObj → List AV × List AObj → Prop := fun args H x => ∃ (l1 : List NsOp) (r2 : Bool), F6 l1 = some r2 ∧ args = [.pv (.slice (List.map NsOp.pv l1))] ∧ H = [] ∧ x = ([.pv (.bool r2)], [])

theorem q_F6 (l1 : List NsOp) (r2 : Bool) (h : F6 l1 = some r2) : chC R_F6 [.pv (.slice (List.map NsOp.pv l1))] [] = some ([.pv (.bool r2)], []) := by
  refine chC_eq ⟨l1, r2, h, rfl, rfl, rfl⟩ ?_
  rintro y ⟨l1p, r2p, hp, ha, hH, rfl⟩
  simp only [List.cons.injEq, AV.pv.injEq, and_true, true_and] at ha
  have ya0 := ha
  have e_l1 := map_inj_of (fun _ _ => NsOp.inj) (PV.slice.inj ya0)
  subst e_l1
  rw [h] at hp
  cases hp
  rfl

def R_F21 : List AV → List AObj → List AV × List AObj → Prop := fun args H x => ∃ (a1 : List NsOp) (b2 : List NsOp) (r3 : Bool), F21 a1 b2 = some r3 ∧ args = [.pv (.slice (List.map NsOp.pv a1)), .pv (.slice (List.map NsOp.pv b2))] ∧ H = [] ∧ x = ([.pv (.bool r3)], [])

theorem q_F21 (a1 : List NsOp) (b2 : List NsOp) (r3 : Bool) (h : F21 a1 b2 = some r3) : chC R_F21 [.pv (.slice (List.map NsOp.pv a1)), .pv (.slice (List.map NsOp.pv b2))] [] = some ([.pv (.bool r3)], []) := by
  refine chC_eq ⟨a1, b2, r3, h, rfl, rfl, rfl⟩ ?_
  rintro y ⟨a1p, b2p, r3p, hp, ha, hH, rfl⟩
  simp only [List.cons.injEq, AV.pv.injEq, and_true, true_and] at ha
  obtain ⟨ya0, ya1⟩ := ha
  have e_a1 := map_inj_of (fun _ _ => NsOp.inj) (PV.slice.inj ya0)
  have e_b2 := map_inj_of (fun _ _ => NsOp.inj) (PV.slice.inj ya1)
  subst e_a1
  subst e_b2
  rw [h] at hp
  cases hp
  rfl

def R_F7 : List AV → List AObj → List AV × List AObj → Prop := fun args H x => ∃ (l1 : List NsOp) (r2 : Bool), F7 l1 = some r2 ∧ args = [.pv (.slice (List.map NsOp.pv l1))] ∧ H = [] ∧ x = ([.pv (.bool r2)], [])

theorem q_F7 (l1 : List NsOp) (r2 : Bool) (h : F7 l1 = some r2) : chC R_F7 [.pv (.slice (List.map NsOp.pv l1))] [] = some ([.pv (.bool r2)], []) := by
  refine chC_eq ⟨l1, r2, h, rfl, rfl, rfl⟩ ?_
  rintro y ⟨l1p, r2p, hp, ha, hH, rfl⟩
  simp only [List.cons.injEq, AV.pv.injEq, and_true, true_and] at ha
  have ya0 := ha
  have e_l1 := map_inj_of (fun _ _ => NsOp.inj) (PV.slice.inj ya0)
  subst e_l1
  rw [h] at hp
  cases hp
  rfl

noncomputable def k0 : List (FuncId × (List AV → List AObj → Option (List AV × List AObj))) := []

theorem s0 : Sound env (mkOrc pfn k0) := Sound.nil pfn

noncomputable def k1 := (26, chC R_L_WriteString) :: k0

theorem s1 : Sound env (mkOrc pfn k1) := by
  refine Sound.cons s0 ⟨Tryd.f26, rfl, rfl, by kernel_rfl⟩ fun args H rs H2 hc => ?_
  obtain ⟨b, s, n, c, h, rfl, rfl, hx⟩ := chC_some hc
  cases hx
  exact g_L_WriteString  b s n c h

noncomputable def k2 := (27, chC R_L_String) :: k1

theorem s2 : Sound env (mkOrc pfn k2) := by
  refine Sound.cons s1 ⟨Tryd.f27, rfl, rfl, by kernel_rfl⟩ fun args H rs H2 hc => ?_
  obtain ⟨b, s, h, rfl, rfl, hx⟩ := chC_some hc
  cases hx
  exact g_L_String  b s h

noncomputable def k3 := (28, chC R_L_Split) :: k2

theorem s3 : Sound env (mkOrc pfn k3) := by
  refine Sound.cons s2 ⟨Tryd.f28, rfl, rfl, by kernel_rfl⟩ fun args H rs H2 hc => ?_
  obtain ⟨s, sep, l, h, rfl, rfl, hx⟩ := chC_some hc
  cases hx
  exact g_L_Split  s sep l h

noncomputable def k4 := (31, chC R_L_IndexByte) :: k3

theorem s4 : Sound env (mkOrc pfn k4) := by
  refine Sound.cons s3 ⟨Tryd.f31, rfl, rfl, by kernel_rfl⟩ fun args H rs H2 hc => ?_
  obtain ⟨s, c, n, h, rfl, rfl, hx⟩ := chC_some hc
  cases hx
  exact g_L_IndexByte  s c n h

noncomputable def k5 := (38, chC R_L_Join) :: k4

theorem s5 : Sound env (mkOrc pfn k5) := by
  refine Sound.cons s4 ⟨Tryd.f38, rfl, rfl, by kernel_rfl⟩ fun args H rs H2 hc => ?_
  obtain ⟨xs, sep, s, h, rfl, rfl, hx⟩ := chC_some hc
  cases hx
  exact g_L_Join  xs sep s h

noncomputable def k6 := (49, chC R_L_ReplaceAll) :: k5

theorem s6 : Sound env (mkOrc pfn k6) := by
  refine Sound.cons s5 ⟨Tryd.f49, rfl, rfl, by kernel_rfl⟩ fun args H rs H2 hc => ?_
  obtain ⟨s, a, b, t, h, rfl, rfl, hx⟩ := chC_some hc
  cases hx
  exact g_L_ReplaceAll  s a b t h

noncomputable def k7 := (8, chC R_F8) :: k6

theorem s7 : Sound env (mkOrc pfn k7) := by
  refine Sound.cons s6 ⟨Tryd.f8, rfl, rfl, by kernel_rfl⟩ fun args H rs H2 hc => ?_
  obtain ⟨op1, r2, h, rfl, rfl, hx⟩ := chC_some hc
  cases hx
  exact g_F8 s6 rfl op1 r2 h

noncomputable def k8 := (33, chC R_F33) :: k7

theorem s8 : Sound env (mkOrc pfn k8) := by
  refine Sound.cons s7 ⟨Tryd.f33, rfl, rfl, by kernel_rfl⟩ fun args H rs H2 hc => ?_
  obtain ⟨n1, r2, h, rfl, rfl, hx⟩ := chC_some hc
  cases hx
  exact g_F33 s7 rfl n1 r2 h

noncomputable def k9 := (34, chC R_F34) :: k8

theorem s9 : Sound env (mkOrc pfn k9) := by
  refine Sound.cons s8 ⟨Tryd.f34, rfl, rfl, by kernel_rfl⟩ fun args H rs H2 hc => ?_
  obtain ⟨s1, r2, h, rfl, rfl, hx⟩ := chC_some hc
  cases hx
  exact g_F34 s8 rfl (fun s c n h => q_L_IndexByte s c n h) s1 r2 h

noncomputable def k10 := (22, chC R_F22) :: k9

theorem s10 : Sound env (mkOrc pfn k10) := by
  refine Sound.cons s9 ⟨Tryd.f22, rfl, rfl, by kernel_rfl⟩ fun args H rs H2 hc => ?_
  obtain ⟨op1, r2, h, rfl, rfl, hx⟩ := chC_some hc
  cases hx
  exact g_F22 s9 rfl (fun n1 r2 h => q_F33 n1 r2 h) (fun s1 r2 h => q_F34 s1 r2 h) op1 r2 h

noncomputable def k11 := (35, chC R_F35) :: k10

theorem s11 : Sound env (mkOrc pfn k11) := by
  refine Sound.cons s10 ⟨Tryd.f35, rfl, rfl, by kernel_rfl⟩ fun args H rs H2 hc => ?_
  obtain ⟨kind1, r2, h, rfl, rfl, hx⟩ := chC_some hc
  cases hx
  exact g_F35 s10 rfl kind1 r2 h

noncomputable def k12 := (36, chC R_F36) :: k11

theorem s12 : Sound env (mkOrc pfn k12) := by
  refine Sound.cons s11 ⟨Tryd.f36, rfl, rfl, by kernel_rfl⟩ fun args H rs H2 hc => ?_
  obtain ⟨n1, r2, h, rfl, rfl, hx⟩ := chC_some hc
  cases hx
  exact g_F36 s11 rfl n1 r2 h

noncomputable def k13 := (37, chC R_F37) :: k12

theorem s13 : Sound env (mkOrc pfn k13) := by
  refine Sound.cons s12 ⟨Tryd.f37, rfl, rfl, by kernel_rfl⟩ fun args H rs H2 hc => ?_
  obtain ⟨s1, r2, h, rfl, rfl, hx⟩ := chC_some hc
  cases hx
  exact g_F37 s12 rfl (fun s a b t h => q_L_ReplaceAll s a b t h) s1 r2 h

noncomputable def k14 := (23, chC R_F23) :: k13

theorem s14 : Sound env (mkOrc pfn k14) := by
  refine Sound.cons s13 ⟨Tryd.f23, rfl, rfl, by kernel_rfl⟩ fun args H rs H2 hc => ?_
  obtain ⟨op1, r2, h, rfl, rfl, hx⟩ := chC_some hc
  cases hx
  exact g_F23 s13 rfl (fun kind1 r2 h => q_F35 kind1 r2 h) (fun n1 r2 h => q_F36 n1 r2 h) (fun s1 r2 h => q_F37 s1 r2 h) (fun xs sep s h => q_L_Join xs sep s h) op1 r2 h

noncomputable def k15 := (10, chC R_F10) :: k14

theorem s15 : Sound env (mkOrc pfn k15) := by
  refine Sound.cons s14 ⟨Tryd.f10, rfl, rfl, by kernel_rfl⟩ fun args H rs H2 hc => ?_
  obtain ⟨op1, r2, r3, h, rfl, rfl, hx⟩ := chC_some hc
  cases hx
  exact g_F10 s14 rfl (fun op1 r2 h => q_F22 op1 r2 h) (fun op1 r2 h => q_F23 op1 r2 h) op1 r2 r3 h

noncomputable def k16 := (42, chC R_F42) :: k15

theorem s16 : Sound env (mkOrc pfn k16) := by
  refine Sound.cons s15 ⟨Tryd.f42, rfl, rfl, by kernel_rfl⟩ fun args H rs H2 hc => ?_
  obtain ⟨s1, r2, r3, r4, h, rfl, rfl, hx⟩ := chC_some hc
  cases hx
  exact g_F42 s15 rfl s1 r2 r3 r4 h

noncomputable def k17 := (29, chC R_F29) :: k16

theorem s17 : Sound env (mkOrc pfn k17) := by
  refine Sound.cons s16 ⟨Tryd.f29, rfl, rfl, by kernel_rfl⟩ fun args H rs H2 hc => ?_
  obtain ⟨s1, r2, r3, h, rfl, rfl, hx⟩ := chC_some hc
  cases hx
  exact g_F29 s16 rfl (fun s1 r2 r3 r4 h => q_F42 s1 r2 r3 r4 h) s1 r2 r3 h

noncomputable def k18 := (44, chC R_F44) :: k17

theorem s18 : Sound env (mkOrc pfn k18) := by
  refine Sound.cons s17 ⟨Tryd.f44, rfl, rfl, by kernel_rfl⟩ fun args H rs H2 hc => ?_
  obtain ⟨s1, r2, h, rfl, rfl, hx⟩ := chC_some hc
  cases hx
  exact g_F44 s17 rfl (fun kind1 r2 h => q_F35 kind1 r2 h) s1 r2 h

noncomputable def k19 := (56, chC R_F56) :: k18

theorem s19 : Sound env (mkOrc pfn k19) := by
  refine Sound.cons s18 ⟨Tryd.f56, rfl, rfl, by kernel_rfl⟩ fun args H rs H2 hc => ?_
  obtain ⟨s1, prefix2, r3, h, rfl, rfl, hx⟩ := chC_some hc
  cases hx
  exact g_F56 s18 rfl s1 prefix2 r3 h

noncomputable def k20 := (45, chC R_F45) :: k19

theorem s20 : Sound env (mkOrc pfn k20) := by
  refine Sound.cons s19 ⟨Tryd.f45, rfl, rfl, by kernel_rfl⟩ fun args H rs H2 hc => ?_
  obtain ⟨s1, prefix2, r3, h, rfl, rfl, hx⟩ := chC_some hc
  cases hx
  exact g_F45 s19 rfl (fun s1 prefix2 r3 h => q_F56 s1 prefix2 r3 h) s1 prefix2 r3 h

noncomputable def k21 := (46, chC R_F46) :: k20

theorem s21 : Sound env (mkOrc pfn k21) := by
  refine Sound.cons s20 ⟨Tryd.f46, rfl, rfl, by kernel_rfl⟩ fun args H rs H2 hc => ?_
  obtain ⟨s1, r2, r3, h, rfl, rfl, hx⟩ := chC_some hc
  cases hx
  exact g_F46 s20 rfl s1 r2 r3 h

noncomputable def k22 := (48, chC R_F48) :: k21

theorem s22 : Sound env (mkOrc pfn k22) := by
  refine Sound.cons s21 ⟨Tryd.f48, rfl, rfl, by kernel_rfl⟩ fun args H rs H2 hc => ?_
  obtain ⟨w1, r2, h, rfl, rfl, hx⟩ := chC_some hc
  cases hx
  exact g_F48 s21 rfl (fun s1 r2 h => q_F34 s1 r2 h) w1 r2 h

noncomputable def k23 := (57, chC R_F57) :: k22

theorem s23 : Sound env (mkOrc pfn k23) := by
  refine Sound.cons s22 ⟨Tryd.f57, rfl, rfl, by kernel_rfl⟩ fun args H rs H2 hc => ?_
  obtain ⟨s1, r2, h, rfl, rfl, hx⟩ := chC_some hc
  cases hx
  exact g_F57 s22 rfl (fun w1 r2 h => q_F48 w1 r2 h) s1 r2 h

noncomputable def k24 := (47, chC R_F47) :: k23

theorem s24 : Sound env (mkOrc pfn k24) := by
  refine Sound.cons s23 ⟨Tryd.f47, rfl, rfl, by kernel_rfl⟩ fun args H rs H2 hc => ?_
  obtain ⟨s1, r2, h, rfl, rfl, hx⟩ := chC_some hc
  cases hx
  exact g_F47 s23 rfl (fun s1 r2 h => q_F57 s1 r2 h) s1 r2 h

noncomputable def k25 := (32, chC R_F32) :: k24

theorem s25 : Sound env (mkOrc pfn k25) := by
  refine Sound.cons s24 ⟨Tryd.f32, rfl, rfl, by kernel_rfl⟩ fun args H rs H2 hc => ?_
  obtain ⟨words1, r2, r3, h, rfl, rfl, hx⟩ := chC_some hc
  cases hx
  exact g_F32 s24 rfl (fun s1 r2 h => q_F44 s1 r2 h) (fun s1 prefix2 r3 h => q_F45 s1 prefix2 r3 h) (fun s1 r2 r3 h => q_F46 s1 r2 r3 h) (fun s1 r2 h => q_F47 s1 r2 h) (fun op1 r2 h => q_F22 op1 r2 h) words1 r2 r3 h

noncomputable def k26 := (20, chC R_F20) :: k25

theorem s26 : Sound env (mkOrc pfn k26) := by
  refine Sound.cons s25 ⟨Tryd.f20, rfl, rfl, by kernel_rfl⟩ fun args H rs H2 hc => ?_
  obtain ⟨s1, r2, r3, h, rfl, rfl, hx⟩ := chC_some hc
  cases hx
  exact g_F20 s25 rfl (fun s c n h => q_L_IndexByte s c n h) (fun s1 r2 r3 h => q_F29 s1 r2 r3 h) (fun words1 r2 r3 h => q_F32 words1 r2 r3 h) s1 r2 r3 h

noncomputable def k27 := (16, chC R_F16) :: k26

theorem s27 : Sound env (mkOrc pfn k27) := by
  refine Sound.cons s26 ⟨Tryd.f16, rfl, rfl, by kernel_rfl⟩ fun args H rs H2 hc => ?_
  obtain ⟨s1, r2, r3, r4, h, rfl, rfl, hx⟩ := chC_some hc
  cases hx
  exact g_F16 s26 rfl (fun s sep l h => q_L_Split s sep l h) (fun s1 r2 r3 h => q_F29 s1 r2 r3 h) (fun s1 r2 r3 h => q_F20 s1 r2 r3 h) s1 r2 r3 r4 h

noncomputable def k28 := (25, chC R_F25) :: k27

theorem s28 : Sound env (mkOrc pfn k28) := by
  refine Sound.cons s27 ⟨Tryd.f25, rfl, rfl, by kernel_rfl⟩ fun args H rs H2 hc => ?_
  obtain ⟨a1, b2, r3, h, rfl, rfl, hx⟩ := chC_some hc
  cases hx
  exact g_F25 s27 rfl a1 b2 r3 h

noncomputable def k29 := (13, chC R_F13) :: k28

theorem s29 : Sound env (mkOrc pfn k29) := by
  refine Sound.cons s28 ⟨Tryd.f13, rfl, rfl, by kernel_rfl⟩ fun args H rs H2 hc => ?_
  obtain ⟨n1, cwd2, r3, h, rfl, rfl, hx⟩ := chC_some hc
  cases hx
  exact g_F13 s28 rfl (fun a1 b2 r3 h => q_F25 a1 b2 r3 h) (fun op1 r2 h => q_F23 op1 r2 h) (fun b s n c h => q_L_WriteString b s n c h) (fun b s h => q_L_String b s h) n1 cwd2 r3 h

noncomputable def k30 := (9, chC R_F9) :: k29

theorem s30 : Sound env (mkOrc pfn k30) := by
  refine Sound.cons s29 ⟨Tryd.f9, rfl, rfl, by kernel_rfl⟩ fun args H rs H2 hc => ?_
  obtain ⟨r1, h, rfl, rfl, hx⟩ := chC_some hc
  cases hx
  exact g_F9 s29 rfl (fun op1 r2 r3 h => q_F10 op1 r2 r3 h) (fun s1 r2 r3 h => q_F20 s1 r2 r3 h) (fun s1 r2 r3 r4 h => q_F16 s1 r2 r3 r4 h) (fun n1 cwd2 r3 h => q_F13 n1 cwd2 r3 h) r1 h

noncomputable def k31 := (30, chC R_F30) :: k30

theorem s31 : Sound env (mkOrc pfn k31) := by
  refine Sound.cons s30 ⟨Tryd.f30, rfl, rfl, by kernel_rfl⟩ fun args H rs H2 hc => ?_
  obtain ⟨n1, r2, h, rfl, rfl, hx⟩ := chC_some hc
  cases hx
  exact g_F30 s30 rfl n1 r2 h

noncomputable def k32 := (15, chC R_F15) :: k31

theorem s32 : Sound env (mkOrc pfn k32) := by
  refine Sound.cons s31 ⟨Tryd.f15, rfl, rfl, by kernel_rfl⟩ fun args H rs H2 hc => ?_
  obtain ⟨s1, r2, h, rfl, rfl, hx⟩ := chC_some hc
  cases hx
  exact g_F15 s31 rfl s1 r2 h

noncomputable def k33 := (19, chC R_F19) :: k32

theorem s33 : Sound env (mkOrc pfn k33) := by
  refine Sound.cons s32 ⟨Tryd.f19, rfl, rfl, by kernel_rfl⟩ fun args H rs H2 hc => ?_
  obtain ⟨op1, r2, h, rfl, rfl, hx⟩ := chC_some hc
  cases hx
  exact g_F19 s32 rfl (fun n1 r2 h => q_F30 n1 r2 h) (fun s1 r2 h => q_F15 s1 r2 h) op1 r2 h

noncomputable def k34 := (39, chC R_F39) :: k33

theorem s34 : Sound env (mkOrc pfn k34) := by
  refine Sound.cons s33 ⟨Tryd.f39, rfl, rfl, by kernel_rfl⟩ fun args H rs H2 hc => ?_
  obtain ⟨s1, r2, h, rfl, rfl, hx⟩ := chC_some hc
  cases hx
  exact g_F39 s33 rfl s1 r2 h

noncomputable def k35 := (24, chC R_F24) :: k34

theorem s35 : Sound env (mkOrc pfn k35) := by
  refine Sound.cons s34 ⟨Tryd.f24, rfl, rfl, by kernel_rfl⟩ fun args H rs H2 hc => ?_
  obtain ⟨op1, r2, h, rfl, rfl, hx⟩ := chC_some hc
  cases hx
  exact g_F24 s34 rfl (fun s1 r2 h => q_F39 s1 r2 h) op1 r2 h

noncomputable def k36 := (11, chC R_F11) :: k35

theorem s36 : Sound env (mkOrc pfn k36) := by
  refine Sound.cons s35 ⟨Tryd.f11, rfl, rfl, by kernel_rfl⟩ fun args H rs H2 hc => ?_
  obtain ⟨op1, r2, r3, h, rfl, rfl, hx⟩ := chC_some hc
  cases hx
  exact g_F11 s35 rfl (fun op1 r2 h => q_F19 op1 r2 h) (fun op1 r2 h => q_F24 op1 r2 h) op1 r2 r3 h

noncomputable def k37 := (3, chC R_F3) :: k36

theorem s37 : Sound env (mkOrc pfn k37) := by
  refine Sound.cons s36 ⟨Tryd.f3, rfl, rfl, by kernel_rfl⟩ fun args H rs H2 hc => ?_
  obtain ⟨op1, r2, h, rfl, rfl, hx⟩ := chC_some hc
  cases hx
  exact g_F3 s36 rfl (fun op1 r2 h => q_F8 op1 r2 h) (fun r1 h => q_F9 r1 h) (fun op1 r2 r3 h => q_F10 op1 r2 r3 h) (fun op1 r2 r3 h => q_F11 op1 r2 r3 h) op1 r2 h

noncomputable def k38 := (12, chC R_F12) :: k37

theorem s38 : Sound env (mkOrc pfn k38) := by
  refine Sound.cons s37 ⟨Tryd.f12, rfl, rfl, by kernel_rfl⟩ fun args H rs H2 hc => ?_
  obtain ⟨n1, r2, h, rfl, rfl, hx⟩ := chC_some hc
  cases hx
  exact g_F12 s37 rfl n1 r2 h

noncomputable def k39 := (14, chC R_F14) :: k38

theorem s39 : Sound env (mkOrc pfn k39) := by
  refine Sound.cons s38 ⟨Tryd.f14, rfl, rfl, by kernel_rfl⟩ fun args H rs H2 hc => ?_
  obtain ⟨n1, cwd2, r3, h, rfl, rfl, hx⟩ := chC_some hc
  cases hx
  exact g_F14 s38 rfl (fun op1 r2 h => q_F24 op1 r2 h) n1 cwd2 r3 h

noncomputable def k40 := (4, chC R_F4) :: k39

theorem s40 : Sound env (mkOrc pfn k40) := by
  refine Sound.cons s39 ⟨Tryd.f4, rfl, rfl, by kernel_rfl⟩ fun args H rs H2 hc => ?_
  obtain ⟨n1, cwd2, r3, h, rfl, rfl, hx⟩ := chC_some hc
  cases hx
  exact g_F4 s39 rfl (fun n1 r2 h => q_F12 n1 r2 h) (fun r1 h => q_F9 r1 h) (fun n1 cwd2 r3 h => q_F13 n1 cwd2 r3 h) (fun n1 cwd2 r3 h => q_F14 n1 cwd2 r3 h) n1 cwd2 r3 h

noncomputable def k41 := (5, chC R_F5) :: k40

theorem s41 : Sound env (mkOrc pfn k41) := by
  refine Sound.cons s40 ⟨Tryd.f5, rfl, rfl, by kernel_rfl⟩ fun args H rs H2 hc => ?_
  obtain ⟨n1, cwd2, r3, h, rfl, rfl, hx⟩ := chC_some hc
  cases hx
  exact g_F5 s40 rfl (fun n1 r2 h => q_F12 n1 r2 h) (fun s1 r2 h => q_F15 s1 r2 h) (fun r1 h => q_F9 r1 h) (fun n1 cwd2 r3 h => q_F13 n1 cwd2 r3 h) (fun s1 r2 r3 r4 h => q_F16 s1 r2 r3 r4 h) n1 cwd2 r3 h

noncomputable def k42 := (17, chC R_F17) :: k41

theorem s42 : Sound env (mkOrc pfn k42) := by
  refine Sound.cons s41 ⟨Tryd.f17, rfl, rfl, by kernel_rfl⟩ fun args H rs H2 hc => ?_
  obtain ⟨l1, r2, r3, h, rfl, rfl, hx⟩ := chC_some hc
  cases hx
  exact g_F17 s41 rfl (fun op1 r2 r3 h => q_F10 op1 r2 r3 h) (fun b s n c h => q_L_WriteString b s n c h) (fun b s h => q_L_String b s h) l1 r2 r3 h

noncomputable def k43 := (18, chC R_F18) :: k42

theorem s43 : Sound env (mkOrc pfn k43) := by
  refine Sound.cons s42 ⟨Tryd.f18, rfl, rfl, by kernel_rfl⟩ fun args H rs H2 hc => ?_
  obtain ⟨l1, r2, r3, h, rfl, rfl, hx⟩ := chC_some hc
  cases hx
  exact g_F18 s42 rfl (fun op1 r2 r3 h => q_F11 op1 r2 r3 h) l1 r2 r3 h

noncomputable def k44 := (6, chC R_F6) :: k43

theorem s44 : Sound env (mkOrc pfn k44) := by
  refine Sound.cons s43 ⟨Tryd.f6, rfl, rfl, by kernel_rfl⟩ fun args H rs H2 hc => ?_
  obtain ⟨l1, r2, h, rfl, rfl, hx⟩ := chC_some hc
  cases hx
  exact g_F6 s43 rfl (fun r1 h => q_F9 r1 h) (fun op1 r2 h => q_F8 op1 r2 h) (fun l1 r2 r3 h => q_F17 l1 r2 r3 h) (fun l1 r2 r3 h => q_F18 l1 r2 r3 h) l1 r2 h

noncomputable def k45 := (21, chC R_F21) :: k44

theorem s45 : Sound env (mkOrc pfn k45) := by
  refine Sound.cons s44 ⟨Tryd.f21, rfl, rfl, by kernel_rfl⟩ fun args H rs H2 hc => ?_
  obtain ⟨a1, b2, r3, h, rfl, rfl, hx⟩ := chC_some hc
  cases hx
  exact g_F21 s44 rfl a1 b2 r3 h

noncomputable def k46 := (7, chC R_F7) :: k45

theorem s46 : Sound env (mkOrc pfn k46) := by
  refine Sound.cons s45 ⟨Tryd.f7, rfl, rfl, by kernel_rfl⟩ fun args H rs H2 hc => ?_
  obtain ⟨l1, r2, h, rfl, rfl, hx⟩ := chC_some hc
  cases hx
  exact g_F7 s45 rfl (fun r1 h => q_F9 r1 h) (fun op1 r2 h => q_F8 op1 r2 h) (fun op1 r2 h => q_F19 op1 r2 h) (fun op1 r2 r3 h => q_F10 op1 r2 r3 h) (fun s1 r2 r3 h => q_F20 s1 r2 r3 h) (fun l1 r2 r3 h => q_F17 l1 r2 r3 h) (fun s1 r2 r3 r4 h => q_F16 s1 r2 r3 r4 h) (fun a1 b2 r3 h => q_F21 a1 b2 r3 h) l1 r2 h

theorem good_F3 (op1 : NsOp) (h : F3 op1 = some true) : Good env 3 [.pv (.agg [.int .i64 op1.kind_, .int .i64 op1.flag_, .str op1.new_, .str op1.old_])] [] [.pv (.bool true)] [] := (s46 3 _ _ _ _ (q_F3 op1 true h)).1

theorem good_F4 (n1 : Ns) (cwd2 : Str) (h : F4 n1 cwd2 = some true) : Good env 4 [.pv (.agg [.int .i64 n1.id_, .int .i64 n1.root_.dev_, .int .i64 n1.root_.id_, .int .i64 n1.root_.fid_, .str n1.root_.path_, .str n1.root_.name_, .slice (List.map Mount.pv n1.mounts_)]), .pv (.str cwd2)] [] [.pv (.bool true)] [] := (s46 4 _ _ _ _ (q_F4 n1 cwd2 true h)).1

theorem good_F5 (n1 : Ns) (cwd2 : Str) (h : F5 n1 cwd2 = some true) : Good env 5 [.pv (.agg [.int .i64 n1.id_, .int .i64 n1.root_.dev_, .int .i64 n1.root_.id_, .int .i64 n1.root_.fid_, .str n1.root_.path_, .str n1.root_.name_, .slice (List.map Mount.pv n1.mounts_)]), .pv (.str cwd2)] [] [.pv (.bool true)] [] := (s46 5 _ _ _ _ (q_F5 n1 cwd2 true h)).1

theorem good_F6 (l1 : List NsOp) (h : F6 l1 = some true) : Good env 6 [.pv (.slice (List.map NsOp.pv l1))] [] [.pv (.bool true)] [] := (s46 6 _ _ _ _ (q_F6 l1 true h)).1

theorem good_F7 (l1 : List NsOp) (h : F7 l1 = some true) : Good env 7 [.pv (.slice (List.map NsOp.pv l1))] [] [.pv (.bool true)] [] := (s46 7 _ _ _ _ (q_F7 l1 true h)).1

end Go.Abs.U45
