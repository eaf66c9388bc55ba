/- The layer 50 laws: what the functions compute. -/
import Derived.Test.YthoacjgjmlgaoaaDoorLB
set_option linter.unusedVariables false
namespace Go.Abs.U50
open Go.RowKit Go.Proofs

def C_L_Len (O : Orc) : Prop := ∀ (b : Str) (n : Int), L_Len b = some n → O.C 30 [.ref 0 0] [.bld b] = some ([.pv (.int .i64 n)], [.bld b])

def C_L_Cut (O : Orc) : Prop := ∀ (s : Str) (sep : Str) (a : Str) (b : Str) (ok : Bool), L_Cut s sep = some (a, b, ok) → O.C 31 [.pv (.str s), .pv (.str sep)] [] = some ([.pv (.str a), .pv (.str b), .pv (.bool ok)], [])

def C_L_WriteString (O : Orc) : Prop := ∀ (b : Str) (s : Str) (n : Int) (c : Str), L_WriteString b s = some (n, c) → O.C 32 [.ref 0 0, .pv (.str s)] [.bld b] = some ([.pv (.int .i64 n), .pv (.nil)], [.bld c])

def C_L_Join (O : Orc) : Prop := ∀ (xs : List Str) (sep : Str) (s : Str), L_Join xs sep = some s → O.C 35 [.pv (.slice (List.map PV.str xs)), .pv (.str sep)] [] = some ([.pv (.str s)], [])

def C_L_String (O : Orc) : Prop := ∀ (b : Str) (s : Str), L_String b = some s → O.C 38 [.ref 0 0] [.bld b] = some ([.pv (.str s)], [.gone])

def C_L_IndexByte (O : Orc) : Prop := ∀ (s : Str) (c : Int) (n : Int), L_IndexByte s c = some n → O.C 39 [.pv (.str s), .pv (.int .u8 c)] [] = some ([.pv (.int .i64 n)], [])

def C_L_Atoi (O : Orc) : Prop := ∀ (s : Str) (n : Int) (bad : Bool), L_Atoi s = some (n, bad) → O.C 41 [.pv (.str s)] [] = some ([.pv (.int .i64 n), .pv ((bif bad then PV.ifc else PV.nil))], [])

def C_L_Itoa (O : Orc) : Prop := ∀ (n : Int) (s : Str), L_Itoa n = some s → O.C 42 [.pv (.int .i64 n)] [] = some ([.pv (.str s)], [])

def C_L_Repeat (O : Orc) : Prop := ∀ (s : Str) (n : Int) (t : Str), L_Repeat s n = some t → O.C 56 [.pv (.str s), .pv (.int .i64 n)] [] = some ([.pv (.str t)], [])

def C_L_Clone (O : Orc) : Prop := ∀ (xs : List Str) (l : List Str), L_Clone xs = some l → O.C 62 [.pv (.slice (List.map PV.str xs))] [] = some ([.pv (.slice (List.map PV.str l))], [])

def F7_b1 (l1 : List Str) (most2 : Int) (again6 : (Int × Int) → Option Bool) : (Int × Int) → Option Bool := fun (n4, i5) =>
  (bif decide (i5 < (l1.length : Int)) then
    (lidx l1 i5).bind fun w10 =>
    again6 (IntKind.wrap .i64 (n4 + (imin (w10.length : Int) 1048576)), IntKind.wrap .i64 (i5 + 1))
  else
    some (decide (n4 ≤ most2) && decide ((l1.length : Int) ≤ 400)))

def F7 (l1 : List Str) (most2 : Int) : Option Bool :=
  iter (F7_b1 l1 most2) BIG (0, 0)

def C_F7 (O : Orc) : Prop := ∀ (l1 : List Str) (most2 : Int) (r3 : Bool), F7 l1 most2 = some r3 → O.C 7 [.pv (.slice (List.map PV.str l1)), .pv (.int .i64 most2)] [] = some ([.pv (.bool r3)], [])

def F22_b1 (l1 : List Str) (again5 : (Int × (List GValue)) → Option (List GValue)) : (Int × (List GValue)) → Option (List GValue) := fun (i3, l4) =>
  (bif decide (i3 < (l1.length : Int)) then
    (lidx l1 i3).bind fun w9 =>
    (appO 32 l4 [GValue.mk w9 []]).bind fun out12 =>
    again5 (IntKind.wrap .i64 (i3 + 1), out12)
  else
    some l4)

def F22 (l1 : List Str) : Option (List GValue) :=
  iter (F22_b1 l1) BIG (0, ([] : List GValue))

def C_F22 (O : Orc) : Prop := ∀ (l1 : List Str) (r2 : List GValue), F22 l1 = some r2 → O.C 22 [.pv (.slice (List.map PV.str l1))] [] = some ([.pv (.slice (List.map GValue.pv r2))], [])

def F40 (a1 : GValue) (b2 : GValue) : Option (GValue × Int) :=
  (bif decide (65536 < IntKind.wrap .i64 ((a1.text_.length : Int) + (b2.text_.length : Int))) then
    some (GValue.mk [] [], 4)
  else
    (catO a1.text_ b2.text_).bind fun s6 =>
    (catO a1.marks_ b2.marks_).bind fun s9 =>
    some (GValue.mk s6 s9, 0))

def C_F40 (O : Orc) : Prop := ∀ (a1 : GValue) (b2 : GValue) (r3 : GValue) (r4 : Int), F40 a1 b2 = some (r3, r4) → O.C 40 [.pv (.agg [.str a1.text_, .str a1.marks_]), .pv (.agg [.str b2.text_, .str b2.marks_])] [] = some ([.pv (.agg [.str r3.text_, .str r3.marks_]), .pv (.int .i64 r4)], [])

def F21_b1 (a1 : List GValue) (b2 : List GValue) (again8 : (Int × (List GValue)) → Option ((List GValue) × Int)) : (Int × (List GValue)) → Option ((List GValue) × Int) := fun (i6, l7) =>
  (bif decide (i6 < imax (a1.length : Int) (b2.length : Int)) then
    (lidx a1 (imin i6 (IntKind.wrap .i64 ((a1.length : Int) - 1)))).bind fun u12 =>
    (lidx b2 (imin i6 (IntKind.wrap .i64 ((b2.length : Int) - 1)))).bind fun u15 =>
    (F40 u12 u15).bind fun (r18, r19) =>
    (bif !decide (r19 = 0) then
      some ([], r19)
    else
      (appO 32 l7 [r18]).bind fun out23 =>
      again8 (IntKind.wrap .i64 (i6 + 1), out23))
  else
    some (l7, 0))

def F21 (a1 : List GValue) (b2 : List GValue) : Option ((List GValue) × Int) :=
  (bif (!decide ((a1.length : Int) = (b2.length : Int)) && !decide (imin (a1.length : Int) (b2.length : Int) = 1)) then
    some ([], 1)
  else
    iter (F21_b1 a1 b2) BIG (0, ([] : List GValue)))

def C_F21 (O : Orc) : Prop := ∀ (a1 : List GValue) (b2 : List GValue) (r3 : List GValue) (r4 : Int), F21 a1 b2 = some (r3, r4) → O.C 21 [.pv (.slice (List.map GValue.pv a1)), .pv (.slice (List.map GValue.pv b2))] [] = some ([.pv (.slice (List.map GValue.pv r3)), .pv (.int .i64 r4)], [])

def F23_b1 (l1 : List GValue) (again5 : (Int × (List Str)) → Option (List Str)) : (Int × (List Str)) → Option (List Str) := fun (i3, l4) =>
  (bif decide (i3 < (l1.length : Int)) then
    (lidx l1 i3).bind fun u9 =>
    (appO 16 l4 [u9.text_]).bind fun out12 =>
    again5 (IntKind.wrap .i64 (i3 + 1), out12)
  else
    some l4)

def F23 (l1 : List GValue) : Option (List Str) :=
  iter (F23_b1 l1) BIG (0, ([] : List Str))

def C_F23 (O : Orc) : Prop := ∀ (l1 : List GValue) (r2 : List Str), F23 l1 = some r2 → O.C 23 [.pv (.slice (List.map GValue.pv l1))] [] = some ([.pv (.slice (List.map PV.str r2))], [])

def F9 (a1 : List Str) (b2 : List Str) : Option ((List Str) × Int) :=
  (F22 a1).bind fun r5 =>
  (F22 b2).bind fun r8 =>
  (F21 r5 r8).bind fun (r11, r12) =>
  (bif !decide (r12 = 0) then
    some ([], r12)
  else
    (F23 r11).bind fun r16 =>
    some (r16, 0))

def C_F9 (O : Orc) : Prop := ∀ (a1 : List Str) (b2 : List Str) (r3 : List Str) (r4 : Int), F9 a1 b2 = some (r3, r4) → O.C 9 [.pv (.slice (List.map PV.str a1)), .pv (.slice (List.map PV.str b2))] [] = some ([.pv (.slice (List.map PV.str r3)), .pv (.int .i64 r4)], [])

def F20 : Option (List GEnv) :=
  some [GEnv.mk 1 4 [Var.mk 2 [120] [[49], [50]], Var.mk 3 [42] [[97], [98], [99]]]]

def C_F20 (O : Orc) : Prop := ∀  (r1 : List GEnv), F20 = some r1 → O.C 20 [] [] = some ([.pv (.slice (List.map GEnv.pv r1))], [])

def F24 (s1 : Str) : Option (Int × Bool) :=
  (L_Atoi s1).bind fun (n4, bad5) =>
  (guardO ((!bad5 && decide (1 ≤ n4)) && decide (n4 ≤ 256)) (L_Itoa n4)).bind fun s8 =>
  some (n4, (((!bad5 && decide (1 ≤ n4)) && decide (n4 ≤ 256)) && decide (s8 = s1)))

def C_F24 (O : Orc) : Prop := ∀ (s1 : Str) (r2 : Int) (r3 : Bool), F24 s1 = some (r2, r3) → O.C 24 [.pv (.str s1)] [] = some ([.pv (.int .i64 r2), .pv (.bool r3)], [])

def F76 (g1 : GEnv) (x2 : Int) : Option Bool :=
  some (decide (g1.id_ = x2))

def C_F76 (O : Orc) : Prop := ∀ (g1 : GEnv) (x2 : Int) (r3 : Bool), F76 g1 x2 = some r3 → O.C 76 [.pv (.agg [.int .i64 g1.id_, .int .i64 g1.next_, .slice (List.map Var.pv g1.vars_)]), .ref 0 0] [.var [.pv (.int .i64 x2)]] = some ([.pv (.bool r3)], [.var [.pv (.int .i64 x2)]])

def F75_b1 (s1 : List GEnv) (x2 : Int) (again5 : Int → Option Int) : Int → Option Int := fun i4 =>
  (bif decide (i4 < (s1.length : Int)) then
    (lidx s1 i4).bind fun u9 =>
    (F76 u9 x2).bind fun r12 =>
    (bif r12 then
      some i4
    else
      again5 (IntKind.wrap .i64 (i4 + 1)))
  else
    some (-1))

def F75 (s1 : List GEnv) (x2 : Int) : Option Int :=
  iter (F75_b1 s1 x2) BIG 0

def C_F75 (O : Orc) : Prop := ∀ (s1 : List GEnv) (x2 : Int) (r3 : Int), F75 s1 x2 = some r3 → O.C 75 [.pv (.slice (List.map GEnv.pv s1)), .fn 76 [0]] [.var [.pv (.int .i64 x2)]] = some ([.pv (.int .i64 r3)], [.var [.pv (.int .i64 x2)]])

def F60 (l1 : List GEnv) (group2 : Int) : Option Int :=
  (F75 l1 group2).bind fun r4 =>
  some r4

def C_F60 (O : Orc) : Prop := ∀ (l1 : List GEnv) (group2 : Int) (r3 : Int), F60 l1 group2 = some r3 → O.C 60 [.pv (.slice (List.map GEnv.pv l1)), .pv (.int .i64 group2)] [] = some ([.pv (.int .i64 r3)], [])

def F78 (v1 : Var) (x2 : Str) : Option Bool :=
  some (decide (v1.name_ = x2))

def C_F78 (O : Orc) : Prop := ∀ (v1 : Var) (x2 : Str) (r3 : Bool), F78 v1 x2 = some r3 → O.C 78 [.pv (.agg [.int .i64 v1.id_, .str v1.name_, .slice (List.map PV.str v1.values_)]), .ref 0 0] [.var [.pv (.str x2)]] = some ([.pv (.bool r3)], [.var [.pv (.str x2)]])

def F77_b1 (s1 : List Var) (x2 : Str) (again5 : Int → Option Int) : Int → Option Int := fun i4 =>
  (bif decide (i4 < (s1.length : Int)) then
    (lidx s1 i4).bind fun u9 =>
    (F78 u9 x2).bind fun r12 =>
    (bif r12 then
      some i4
    else
      again5 (IntKind.wrap .i64 (i4 + 1)))
  else
    some (-1))

def F77 (s1 : List Var) (x2 : Str) : Option Int :=
  iter (F77_b1 s1 x2) BIG 0

def C_F77 (O : Orc) : Prop := ∀ (s1 : List Var) (x2 : Str) (r3 : Int), F77 s1 x2 = some r3 → O.C 77 [.pv (.slice (List.map Var.pv s1)), .fn 78 [0]] [.var [.pv (.str x2)]] = some ([.pv (.int .i64 r3)], [.var [.pv (.str x2)]])

def F61 (g1 : GEnv) (name2 : Str) : Option Int :=
  (F77 g1.vars_ name2).bind fun r4 =>
  some r4

def C_F61 (O : Orc) : Prop := ∀ (g1 : GEnv) (name2 : Str) (r3 : Int), F61 g1 name2 = some r3 → O.C 61 [.pv (.agg [.int .i64 g1.id_, .int .i64 g1.next_, .slice (List.map Var.pv g1.vars_)]), .pv (.str name2)] [] = some ([.pv (.int .i64 r3)], [])

def F50 (l1 : List GEnv) (group2 : Int) (name3 : Str) : Option ((List Str) × Bool) :=
  (F60 l1 group2).bind fun r6 =>
  (bif decide (r6 < 0) then
    some ([], false)
  else
    (lidx l1 r6).bind fun u10 =>
    (F61 u10 name3).bind fun r13 =>
    (bif decide (r13 < 0) then
      some ([], false)
    else
      (lidx u10.vars_ r13).bind fun u17 =>
      (L_Clone u17.values_).bind fun l20 =>
      some (l20, true)))

def C_F50 (O : Orc) : Prop := ∀ (l1 : List GEnv) (group2 : Int) (name3 : Str) (r4 : List Str) (r5 : Bool), F50 l1 group2 name3 = some (r4, r5) → O.C 50 [.pv (.slice (List.map GEnv.pv l1)), .pv (.int .i64 group2), .pv (.str name3)] [] = some ([.pv (.slice (List.map PV.str r4)), .pv (.bool r5)], [])

def F36 (l1 : List GEnv) (group2 : Int) (name3 : Str) : Option (List Str) :=
  (F24 name3).bind fun (r5, r6) =>
  (bif r6 then
    (F50 l1 group2 [42]).bind fun (r10, r11) =>
    (bif decide ((r10.length : Int) < r5) then
      some []
    else
      (lslice r10 (IntKind.wrap .i64 (r5 - 1)) r5).bind fun l15 =>
      some l15)
  else
    (F50 l1 group2 name3).bind fun (r18, r19) =>
    some r18)

def C_F36 (O : Orc) : Prop := ∀ (l1 : List GEnv) (group2 : Int) (name3 : Str) (r4 : List Str), F36 l1 group2 name3 = some r4 → O.C 36 [.pv (.slice (List.map GEnv.pv l1)), .pv (.int .i64 group2), .pv (.str name3)] [] = some ([.pv (.slice (List.map PV.str r4))], [])

def F43_b1 (l1 : List Str) (again5 : (Int × (List GValue)) → Option (List GValue)) : (Int × (List GValue)) → Option (List GValue) := fun (i3, l4) =>
  (bif decide (i3 < (l1.length : Int)) then
    (lidx l1 i3).bind fun w9 =>
    (L_Repeat [49] (w9.length : Int)).bind fun t12 =>
    (appO 32 l4 [GValue.mk w9 t12]).bind fun out15 =>
    again5 (IntKind.wrap .i64 (i3 + 1), out15)
  else
    some l4)

def F43 (l1 : List Str) : Option (List GValue) :=
  iter (F43_b1 l1) BIG (0, ([] : List GValue))

def C_F43 (O : Orc) : Prop := ∀ (l1 : List Str) (r2 : List GValue), F43 l1 = some r2 → O.C 43 [.pv (.slice (List.map PV.str l1))] [] = some ([.pv (.slice (List.map GValue.pv r2))], [])

def F44_b1 (words3 : List Word) (w29 : (List GEnv) → Int → Word → Option ((List GValue) × Int)) (l1 : List GEnv) (group2 : Int) (again8 : (Int × (List GValue)) → Option ((List GValue) × Int)) : (Int × (List GValue)) → Option ((List GValue) × Int) := fun (i6, l7) =>
  (bif decide (i6 < (words3.length : Int)) then
    (lidx words3 i6).bind fun u12 =>
    (w29 l1 group2 u12).bind fun (r15, r16) =>
    (bif !decide (r16 = 0) then
      some ([], r16)
    else
      (appO 32 l7 r15).bind fun out20 =>
      (bif decide (256 < (out20.length : Int)) then
        some ([], 22)
      else
        again8 (IntKind.wrap .i64 (i6 + 1), out20)))
  else
    some (l7, 0))

def F44 (w29 : (List GEnv) → Int → Word → Option ((List GValue) × Int)) (l1 : List GEnv) (group2 : Int) (words3 : List Word) : Option ((List GValue) × Int) :=
  iter (F44_b1 words3 w29 l1 group2) BIG (0, ([] : List GValue))

def C_F44 (w29 : (List GEnv) → Int → Word → Option ((List GValue) × Int)) (O : Orc) : Prop := ∀ (l1 : List GEnv) (group2 : Int) (words3 : List Word) (r4 : List GValue) (r5 : Int), F44 w29 l1 group2 words3 = some (r4, r5) → O.C 44 [.pv (.slice (List.map GEnv.pv l1)), .pv (.int .i64 group2), .pv (.slice (List.map Word.pv words3))] [] = some ([.pv (.slice (List.map GValue.pv r4)), .pv (.int .i64 r5)], [])

def F11_b1 (idx2 : List Str) (l1 : List Str) (again7 : (Int × (List Str)) → Option ((List Str) × Int)) : (Int × (List Str)) → Option ((List Str) × Int) := fun (i5, l6) =>
  (bif decide (i5 < (idx2.length : Int)) then
    (lidx idx2 i5).bind fun w11 =>
    (F24 w11).bind fun (r14, r15) =>
    (bif !r15 then
      some ([], 5)
    else
      (bif decide (r14 ≤ (l1.length : Int)) then
        (lidx l1 (IntKind.wrap .i64 (r14 - 1))).bind fun w20 =>
        (appO 16 l6 [w20]).bind fun out23 =>
        again7 (IntKind.wrap .i64 (i5 + 1), out23)
      else
        again7 (IntKind.wrap .i64 (i5 + 1), l6)))
  else
    some (l6, 0))

def F11 (l1 : List Str) (idx2 : List Str) : Option ((List Str) × Int) :=
  iter (F11_b1 idx2 l1) BIG (0, ([] : List Str))

def C_F11 (O : Orc) : Prop := ∀ (l1 : List Str) (idx2 : List Str) (r3 : List Str) (r4 : Int), F11 l1 idx2 = some (r3, r4) → O.C 11 [.pv (.slice (List.map PV.str l1)), .pv (.slice (List.map PV.str idx2))] [] = some ([.pv (.slice (List.map PV.str r3)), .pv (.int .i64 r4)], [])

def F45_j3 (again8 : ((List GValue) × Int) → Option ((List GValue) × Int)) (i7 : Int) : ((List GValue) × Int) → Option ((List GValue) × Int) := fun (v19, e20) =>
  (bif !decide (e20 = 0) then
    some ([], e20)
  else
    again8 (v19, IntKind.wrap .i64 (i7 + 1)))

def F45_b2 (words3 : List Word) (w29 : (List GEnv) → Int → Word → Option ((List GValue) × Int)) (l1 : List GEnv) (group2 : Int) (again8 : ((List GValue) × Int) → Option ((List GValue) × Int)) : ((List GValue) × Int) → Option ((List GValue) × Int) := fun (out6, i7) =>
  (bif decide (i7 < (words3.length : Int)) then
    (lidx words3 i7).bind fun u12 =>
    (w29 l1 group2 u12).bind fun (r15, r16) =>
    (bif (decide (r16 = 0) && decide (0 < i7)) then
      (F21 out6 r15).bind fun (r23, r24) =>
      F45_j3 again8 i7 (r23, r24)
    else
      F45_j3 again8 i7 (r15, r16))
  else
    some (out6, 0))

def F45 (w29 : (List GEnv) → Int → Word → Option ((List GValue) × Int)) (l1 : List GEnv) (group2 : Int) (words3 : List Word) : Option ((List GValue) × Int) :=
  iter (F45_b2 words3 w29 l1 group2) BIG (([] : List GValue), 0)

def C_F45 (w29 : (List GEnv) → Int → Word → Option ((List GValue) × Int)) (O : Orc) : Prop := ∀ (l1 : List GEnv) (group2 : Int) (words3 : List Word) (r4 : List GValue) (r5 : Int), F45 w29 l1 group2 words3 = some (r4, r5) → O.C 45 [.pv (.slice (List.map GEnv.pv l1)), .pv (.int .i64 group2), .pv (.slice (List.map Word.pv words3))] [] = some ([.pv (.slice (List.map GValue.pv r4)), .pv (.int .i64 r5)], [])

def F29 (w29 : (List GEnv) → Int → Word → Option ((List GValue) × Int)) (l1 : List GEnv) (group2 : Int) (w3 : Word) : Option ((List GValue) × Int) :=
  (bif decide (w3.kind_ = 1) then
    (bif !decide ((w3.text_.length : Int) = (w3.quoted_.length : Int)) then
      some ([], 1)
    else
      some ([GValue.mk w3.text_ w3.quoted_], 0))
  else
    (bif decide (w3.kind_ = 2) then
      (F36 l1 group2 w3.text_).bind fun r9 =>
      (F43 r9).bind fun r12 =>
      some (r12, 0)
    else
      (bif decide (w3.kind_ = 3) then
        (F36 l1 group2 w3.text_).bind fun r16 =>
        (L_Itoa (r16.length : Int)).bind fun s19 =>
        (F43 [s19]).bind fun r22 =>
        some (r22, 0)
      else
        (bif decide (w3.kind_ = 7) then
          (F44 w29 l1 group2 w3.words_).bind fun (r26, r27) =>
          (bif !decide (r27 = 0) then
            some ([], r27)
          else
            (F36 l1 group2 w3.text_).bind fun r31 =>
            (F23 r26).bind fun r34 =>
            (F11 r31 r34).bind fun (r37, r38) =>
            (F43 r37).bind fun r41 =>
            some (r41, r38))
        else
          (bif decide (w3.kind_ = 4) then
            (F45 w29 l1 group2 w3.words_).bind fun (r45, r46) =>
            some (r45, r46)
          else
            (bif decide (w3.kind_ = 5) then
              (F44 w29 l1 group2 w3.words_).bind fun (r50, r51) =>
              some (r50, r51)
            else
              some ([], 1)))))))

/-- The function, to a depth. -/
def K29 : Nat → (List GEnv) → Int → Word → Option ((List GValue) × Int)
  | 0 => fun _ _ _ => none
  | n + 1 => F29 (K29 n)

def C_F29 (w29 : (List GEnv) → Int → Word → Option ((List GValue) × Int)) (O : Orc) : Prop := ∀ (l1 : List GEnv) (group2 : Int) (w3 : Word) (r4 : List GValue) (r5 : Int), F29 w29 l1 group2 w3 = some (r4, r5) → O.C 29 [.pv (.slice (List.map GEnv.pv l1)), .pv (.int .i64 group2), .pv (.agg [.int .i64 w3.kind_, .str w3.text_, .str w3.quoted_, .slice (List.map Word.pv w3.words_), .slice (List.map Cmd.pv w3.cmd_)])] [] = some ([.pv (.slice (List.map GValue.pv r4)), .pv (.int .i64 r5)], [])

def C_w29 (w29 : (List GEnv) → Int → Word → Option ((List GValue) × Int)) (O : Orc) : Prop := ∀ (a0 : List GEnv) (a1 : Int) (a2 : Word) (r0 : List GValue) (r1 : Int), w29 a0 a1 a2 = some (r0, r1) → O.C 29 [.pv (.slice (List.map GEnv.pv a0)), .pv (.int .i64 a1), .pv (.agg [.int .i64 a2.kind_, .str a2.text_, .str a2.quoted_, .slice (List.map Word.pv a2.words_), .slice (List.map Cmd.pv a2.cmd_)])] [] = some ([.pv (.slice (List.map GValue.pv r0)), .pv (.int .i64 r1)], [])

def C_K29 (O : Orc) : Prop := ∀ (l1 : List GEnv) (group2 : Int) (w3 : Word) (r4 : List GValue) (r5 : Int), K29 BIG l1 group2 w3 = some (r4, r5) → O.C 29 [.pv (.slice (List.map GEnv.pv l1)), .pv (.int .i64 group2), .pv (.agg [.int .i64 w3.kind_, .str w3.text_, .str w3.quoted_, .slice (List.map Word.pv w3.words_), .slice (List.map Cmd.pv w3.cmd_)])] [] = some ([.pv (.slice (List.map GValue.pv r4)), .pv (.int .i64 r5)], [])

def F17_b1 (r7 : List GValue) (again14 : (Int × (List Str)) → Option ((List Str) × (List Str) × Int)) : (Int × (List Str)) → Option ((List Str) × (List Str) × Int) := fun (i12, l13) =>
  (bif decide (i12 < (r7.length : Int)) then
    (lidx r7 i12).bind fun u18 =>
    (appO 16 l13 [u18.marks_]).bind fun out21 =>
    again14 (IntKind.wrap .i64 (i12 + 1), out21)
  else
    (F23 r7).bind fun r24 =>
    some (r24, l13, 0))

def F17 (l1 : List GEnv) (group2 : Int) (w3 : Word) : Option ((List Str) × (List Str) × Int) :=
  (K29 BIG l1 group2 w3).bind fun (r7, r8) =>
  (bif !decide (r8 = 0) then
    some ([], [], r8)
  else
    iter (F17_b1 r7) BIG (0, ([] : List Str)))

def C_F17 (O : Orc) : Prop := ∀ (l1 : List GEnv) (group2 : Int) (w3 : Word) (r4 : List Str) (r5 : List Str) (r6 : Int), F17 l1 group2 w3 = some (r4, r5, r6) → O.C 17 [.pv (.slice (List.map GEnv.pv l1)), .pv (.int .i64 group2), .pv (.agg [.int .i64 w3.kind_, .str w3.text_, .str w3.quoted_, .slice (List.map Word.pv w3.words_), .slice (List.map Cmd.pv w3.cmd_)])] [] = some ([.pv (.slice (List.map PV.str r4)), .pv (.slice (List.map PV.str r5)), .pv (.int .i64 r6)], [])

def F33 (c1 : Int) : Option Bool :=
  some (((((decide (97 ≤ c1) && decide (c1 ≤ 122)) || (decide (65 ≤ c1) && decide (c1 ≤ 90))) || (decide (48 ≤ c1) && decide (c1 ≤ 57))) || decide (c1 = 95)) || decide (c1 = 42))

def C_F33 (O : Orc) : Prop := ∀ (c1 : Int) (r2 : Bool), F33 c1 = some r2 → O.C 33 [.pv (.int .u8 c1)] [] = some ([.pv (.bool r2)], [])

def F48 (s1 : Str) (prefix2 : Str) : Option Bool :=
  (guardO (decide ((prefix2.length : Int) ≤ (s1.length : Int))) (sslice s1 0 (prefix2.length : Int))).bind fun t4 =>
  some (decide ((prefix2.length : Int) ≤ (s1.length : Int)) && decide (t4 = prefix2))

def C_F48 (O : Orc) : Prop := ∀ (s1 : Str) (prefix2 : Str) (r3 : Bool), F48 s1 prefix2 = some r3 → O.C 48 [.pv (.str s1), .pv (.str prefix2)] [] = some ([.pv (.bool r3)], [])

def F34 (s1 : Str) (prefix2 : Str) : Option Bool :=
  (F48 s1 prefix2).bind fun r4 =>
  some r4

def C_F34 (O : Orc) : Prop := ∀ (s1 : Str) (prefix2 : Str) (r3 : Bool), F34 s1 prefix2 = some r3 → O.C 34 [.pv (.str s1), .pv (.str prefix2)] [] = some ([.pv (.bool r3)], [])

def F51 (s1 : Str) (prefix2 : Str) : Option Str :=
  (F48 s1 prefix2).bind fun r4 =>
  (bif r4 then
    (sslice s1 (prefix2.length : Int) (s1.length : Int)).bind fun t8 =>
    some t8
  else
    some s1)

def C_F51 (O : Orc) : Prop := ∀ (s1 : Str) (prefix2 : Str) (r3 : Str), F51 s1 prefix2 = some r3 → O.C 51 [.pv (.str s1), .pv (.str prefix2)] [] = some ([.pv (.str r3)], [])

def F37 (s1 : Str) (prefix2 : Str) : Option Str :=
  (F51 s1 prefix2).bind fun r4 =>
  some r4

def C_F37 (O : Orc) : Prop := ∀ (s1 : Str) (prefix2 : Str) (r3 : Str), F37 s1 prefix2 = some r3 → O.C 37 [.pv (.str s1), .pv (.str prefix2)] [] = some ([.pv (.str r3)], [])

def F18_j4 : Str → Option (Str × Int) := fun b6 =>
  (L_Len b6).bind fun n7 =>
  (bif decide (65536 < n7) then
    some ([], 4)
  else
    (L_String b6).bind fun s12 =>
    some (s12, 0))

def F18_b7 (b27 : Str) (c32 : Str) (again18 : (Str × Str) → Option (Str × Int)) (l1 : List GEnv) (group2 : Int) (again38 : Int → Option (Str × Int)) : Int → Option (Str × Int) := fun n37 =>
  (guardO (decide (n37 < (b27.length : Int))) (sidx b27 n37)).bind fun c41 =>
  (guardO (decide (n37 < (b27.length : Int))) (F33 c41)).bind fun r44 =>
  (bif (decide (n37 < (b27.length : Int)) && r44) then
    again38 (IntKind.wrap .i64 (n37 + 1))
  else
    (F34 b27 [36]).bind fun r48 =>
    (bif r48 then
      (L_WriteString c32 [36]).bind fun (n52, c53) =>
      (sslice b27 1 (b27.length : Int)).bind fun t57 =>
      again18 (t57, c53)
    else
      (bif decide (n37 = 0) then
        (L_WriteString c32 [36]).bind fun (n61, c62) =>
        again18 (b27, c62)
      else
        (sslice b27 0 n37).bind fun t66 =>
        (F36 l1 group2 t66).bind fun r69 =>
        (L_Join r69 [32]).bind fun s72 =>
        (L_WriteString c32 s72).bind fun (n75, c76) =>
        (sslice b27 n37 (b27.length : Int)).bind fun t80 =>
        (F37 t80 [94]).bind fun r83 =>
        again18 (r83, c76))))

def F18_b6 (l1 : List GEnv) (group2 : Int) (again18 : (Str × Str) → Option (Str × Int)) : (Str × Str) → Option (Str × Int) := fun (s16, b17) =>
  (bif !decide (s16 = []) then
    (L_Len b17).bind fun n21 =>
    (bif decide (n21 ≤ 65536) then
      (L_Cut s16 [36]).bind fun (a26, b27, ok28) =>
      (L_WriteString b17 a26).bind fun (n31, c32) =>
      (bif !ok28 then
        F18_j4 c32
      else
        iter (F18_b7 b27 c32 again18 l1 group2) BIG 0)
    else
      F18_j4 b17)
  else
    F18_j4 b17)

def F18 (l1 : List GEnv) (group2 : Int) (s3 : Str) : Option (Str × Int) :=
  iter (F18_b6 l1 group2) BIG (s3, [])

def C_F18 (O : Orc) : Prop := ∀ (l1 : List GEnv) (group2 : Int) (s3 : Str) (r4 : Str) (r5 : Int), F18 l1 group2 s3 = some (r4, r5) → O.C 18 [.pv (.slice (List.map GEnv.pv l1)), .pv (.int .i64 group2), .pv (.str s3)] [] = some ([.pv (.str r4), .pv (.int .i64 r5)], [])

def F13_b1 (a1 : List Str) (b2 : List Str) (again6 : Int → Option Bool) : Int → Option Bool := fun i5 =>
  (bif decide (i5 < (a1.length : Int)) then
    (lidx a1 i5).bind fun w10 =>
    (lidx b2 i5).bind fun w13 =>
    (bif !decide (w10 = w13) then
      some false
    else
      again6 (IntKind.wrap .i64 (i5 + 1)))
  else
    some true)

def F13 (a1 : List Str) (b2 : List Str) : Option Bool :=
  (bif !decide ((a1.length : Int) = (b2.length : Int)) then
    some false
  else
    iter (F13_b1 a1 b2) BIG 0)

def C_F13 (O : Orc) : Prop := ∀ (a1 : List Str) (b2 : List Str) (r3 : Bool), F13 a1 b2 = some r3 → O.C 13 [.pv (.slice (List.map PV.str a1)), .pv (.slice (List.map PV.str b2))] [] = some ([.pv (.bool r3)], [])

def F19_b1 (s1 : Str) (ifs2 : Str) (again7 : (Int × Int × (List Str)) → Option (List Str)) : (Int × Int × (List Str)) → Option (List Str) := fun (from4, i5, l6) =>
  (bif decide (i5 ≤ (s1.length : Int)) then
    (guardO (decide (i5 < (s1.length : Int))) (sidx s1 i5)).bind fun c11 =>
    (guardO (decide (i5 < (s1.length : Int))) (L_IndexByte ifs2 c11)).bind fun n14 =>
    (bif (decide (i5 < (s1.length : Int)) && decide (n14 < 0)) then
      again7 (from4, IntKind.wrap .i64 (i5 + 1), l6)
    else
      (bif decide (from4 < i5) then
        (sslice s1 from4 i5).bind fun t19 =>
        (appO 16 l6 [t19]).bind fun out22 =>
        again7 (IntKind.wrap .i64 (i5 + 1), IntKind.wrap .i64 (i5 + 1), out22)
      else
        again7 (IntKind.wrap .i64 (i5 + 1), IntKind.wrap .i64 (i5 + 1), l6)))
  else
    some l6)

def F19 (s1 : Str) (ifs2 : Str) : Option (List Str) :=
  iter (F19_b1 s1 ifs2) BIG (0, 0, ([] : List Str))

def C_F19 (O : Orc) : Prop := ∀ (s1 : Str) (ifs2 : Str) (r3 : List Str), F19 s1 ifs2 = some r3 → O.C 19 [.pv (.str s1), .pv (.str ifs2)] [] = some ([.pv (.slice (List.map PV.str r3))], [])

def F8 : Option Bool :=
  (F9 [[97], [98]] [[49], [50]]).bind fun (r2, r3) =>
  (F9 [[97]] []).bind fun (r6, r7) =>
  (F20).bind fun r10 =>
  (F17 r10 1 (Word.mk 4 [] [] [Word.mk 1 [97] [48] [] [], Word.mk 2 [120] [] [] []] [])).bind fun (r13, r14, r15) =>
  (F17 r10 1 (Word.mk 3 [42] [] [] [])).bind fun (r18, r19, r20) =>
  (F17 r10 1 (Word.mk 2 [50] [] [] [])).bind fun (r23, r24, r25) =>
  (F11 [[97], [98], [99]] [[51], [49], [55]]).bind fun (r28, r29) =>
  (F18 r10 1 [97, 36, 120, 94, 98, 36, 36, 32, 36]).bind fun (r32, r33) =>
  (F13 r2 [[97, 49], [98, 50]]).bind fun r36 =>
  (guardO ((r36 && decide (r3 = 0)) && decide (r7 = 1)) (F13 r13 [[97, 49], [97, 50]])).bind fun r39 =>
  (guardO (((r36 && decide (r3 = 0)) && decide (r7 = 1)) && r39) (F13 r14 [[48, 49], [48, 49]])).bind fun r42 =>
  (guardO (((((r36 && decide (r3 = 0)) && decide (r7 = 1)) && r39) && r42) && decide (r15 = 0)) (F13 r18 [[51]])).bind fun r45 =>
  (guardO (((((((r36 && decide (r3 = 0)) && decide (r7 = 1)) && r39) && r42) && decide (r15 = 0)) && r45) && decide (r20 = 0)) (F13 r23 [[98]])).bind fun r48 =>
  (guardO (((((((((r36 && decide (r3 = 0)) && decide (r7 = 1)) && r39) && r42) && decide (r15 = 0)) && r45) && decide (r20 = 0)) && r48) && decide (r25 = 0)) (F13 r28 [[99], [97]])).bind fun r51 =>
  (guardO (((((((((((((r36 && decide (r3 = 0)) && decide (r7 = 1)) && r39) && r42) && decide (r15 = 0)) && r45) && decide (r20 = 0)) && r48) && decide (r25 = 0)) && r51) && decide (r29 = 0)) && decide (r32 = [97, 49, 32, 50, 98, 36, 32, 36])) && decide (r33 = 0)) (F19 [32, 97, 32, 32, 98, 99] [32])).bind fun r54 =>
  (guardO (((((((((((((r36 && decide (r3 = 0)) && decide (r7 = 1)) && r39) && r42) && decide (r15 = 0)) && r45) && decide (r20 = 0)) && r48) && decide (r25 = 0)) && r51) && decide (r29 = 0)) && decide (r32 = [97, 49, 32, 50, 98, 36, 32, 36])) && decide (r33 = 0)) (F13 r54 [[97], [98, 99]])).bind fun r57 =>
  some ((((((((((((((r36 && decide (r3 = 0)) && decide (r7 = 1)) && r39) && r42) && decide (r15 = 0)) && r45) && decide (r20 = 0)) && r48) && decide (r25 = 0)) && r51) && decide (r29 = 0)) && decide (r32 = [97, 49, 32, 50, 98, 36, 32, 36])) && decide (r33 = 0)) && r57)

def C_F8 (O : Orc) : Prop := ∀  (r1 : Bool), F8 = some r1 → O.C 8 [] [] = some ([.pv (.bool r1)], [])

def F10_b1 (a1 : List Str) (b2 : List Str) (again9 : (Int × (List Str)) → Option ((List Str) × Int)) : (Int × (List Str)) → Option ((List Str) × Int) := fun (i7, l8) =>
  (bif decide (i7 < (bif decide ((a1.length : Int) = 1) then (b2.length : Int) else (a1.length : Int))) then
    (lidx a1 (imin i7 (IntKind.wrap .i64 ((a1.length : Int) - 1)))).bind fun w13 =>
    (lidx b2 (imin i7 (IntKind.wrap .i64 ((b2.length : Int) - 1)))).bind fun w16 =>
    (catO w13 w16).bind fun s19 =>
    (bif decide (65536 < (s19.length : Int)) then
      some ([], 4)
    else
      (appO 16 l8 [s19]).bind fun out23 =>
      again9 (IntKind.wrap .i64 (i7 + 1), out23))
  else
    some (l8, 0))

def F10 (a1 : List Str) (b2 : List Str) : Option ((List Str) × Int) :=
  (bif (!decide ((a1.length : Int) = (b2.length : Int)) && (((!decide ((a1.length : Int) = 1) && !decide ((b2.length : Int) = 1)) || decide ((a1.length : Int) = 0)) || decide ((b2.length : Int) = 0))) then
    some ([], 1)
  else
    iter (F10_b1 a1 b2) BIG (0, ([] : List Str)))

def C_F10 (O : Orc) : Prop := ∀ (a1 : List Str) (b2 : List Str) (r3 : List Str) (r4 : Int), F10 a1 b2 = some (r3, r4) → O.C 10 [.pv (.slice (List.map PV.str a1)), .pv (.slice (List.map PV.str b2))] [] = some ([.pv (.slice (List.map PV.str r3)), .pv (.int .i64 r4)], [])

def F25_b1 (s1 : Str) (again6 : (Int × Int) → Option (Int × Bool)) : (Int × Int) → Option (Int × Bool) := fun (n4, i5) =>
  (bif (decide (i5 < (s1.length : Int)) && decide (i5 < 4)) then
    (sidx s1 i5).bind fun c10 =>
    (bif (decide (c10 < 48) || decide (57 < c10)) then
      some (0, false)
    else
      again6 (IntKind.wrap .i64 ((IntKind.wrap .i64 (10 * n4)) + (IntKind.wrap .i64 (IntKind.wrap .u8 (c10 - 48)))), IntKind.wrap .i64 (i5 + 1)))
  else
    (guardO ((decide (1 ≤ n4) && decide (n4 ≤ 256)) && decide ((s1.length : Int) < 4)) (sidx s1 0)).bind fun c14 =>
    some (n4, (((decide (1 ≤ n4) && decide (n4 ≤ 256)) && decide ((s1.length : Int) < 4)) && !decide (c14 = 48))))

def F25 (s1 : Str) : Option (Int × Bool) :=
  iter (F25_b1 s1) BIG (0, 0)

def C_F25 (O : Orc) : Prop := ∀ (s1 : Str) (r2 : Int) (r3 : Bool), F25 s1 = some (r2, r3) → O.C 25 [.pv (.str s1)] [] = some ([.pv (.int .i64 r2), .pv (.bool r3)], [])

def F12_b1 (idx2 : List Str) (values1 : List Str) (again7 : (Int × (List Str)) → Option ((List Str) × Int)) : (Int × (List Str)) → Option ((List Str) × Int) := fun (i5, l6) =>
  (bif decide (i5 < (idx2.length : Int)) then
    (lidx idx2 i5).bind fun w11 =>
    (F25 w11).bind fun (r14, r15) =>
    (bif !r15 then
      some ([], 5)
    else
      (bif decide (r14 ≤ (values1.length : Int)) then
        (lidx values1 (IntKind.wrap .i64 (r14 - 1))).bind fun w20 =>
        (appO 16 l6 [w20]).bind fun out23 =>
        again7 (IntKind.wrap .i64 (i5 + 1), out23)
      else
        again7 (IntKind.wrap .i64 (i5 + 1), l6)))
  else
    some (l6, 0))

def F12 (values1 : List Str) (idx2 : List Str) : Option ((List Str) × Int) :=
  iter (F12_b1 idx2 values1) BIG (0, ([] : List Str))

def C_F12 (O : Orc) : Prop := ∀ (values1 : List Str) (idx2 : List Str) (r3 : List Str) (r4 : Int), F12 values1 idx2 = some (r3, r4) → O.C 12 [.pv (.slice (List.map PV.str values1)), .pv (.slice (List.map PV.str idx2))] [] = some ([.pv (.slice (List.map PV.str r3)), .pv (.int .i64 r4)], [])

def F3 (a1 : List Str) (b2 : List Str) (idx3 : List Str) : Option Bool :=
  (F7 a1 70000).bind fun r5 =>
  (guardO r5 (F7 b2 70000)).bind fun r8 =>
  (guardO (!(!r5 || !r8)) (F7 idx3 2000)).bind fun r11 =>
  (bif ((!r5 || !r8) || !r11) then
    (F8).bind fun r15 =>
    some r15
  else
    (F9 a1 b2).bind fun (r18, r19) =>
    (F10 a1 b2).bind fun (r22, r23) =>
    (F11 a1 idx3).bind fun (r26, r27) =>
    (F12 a1 idx3).bind fun (r30, r31) =>
    (F13 r18 r22).bind fun r34 =>
    (guardO (r34 && decide (r19 = r23)) (F13 r26 r30)).bind fun r37 =>
    (guardO (((r34 && decide (r19 = r23)) && r37) && decide (r27 = r31)) (F8)).bind fun r40 =>
    some ((((r34 && decide (r19 = r23)) && r37) && decide (r27 = r31)) && r40))

def C_F3 (O : Orc) : Prop := ∀ (a1 : List Str) (b2 : List Str) (idx3 : List Str) (r4 : Bool), F3 a1 b2 idx3 = some r4 → O.C 3 [.pv (.slice (List.map PV.str a1)), .pv (.slice (List.map PV.str b2)), .pv (.slice (List.map PV.str idx3))] [] = some ([.pv (.bool r4)], [])

def F14_b3 (u9 : GEnv) (again5 : (Int) → Option Bool) (i4 : Int) (again14 : Int → Option Bool) : Int → Option Bool := fun i13 =>
  (bif decide (i13 < (u9.vars_.length : Int)) then
    (lidx u9.vars_ i13).bind fun u18 =>
    (F7 u18.values_ 2000).bind fun r21 =>
    (bif (!r21 || decide (100 < (u18.name_.length : Int))) then
      some false
    else
      again14 (IntKind.wrap .i64 (i13 + 1)))
  else
    again5 (IntKind.wrap .i64 (i4 + 1)))

def F14_b2 (l1 : List GEnv) (again5 : Int → Option Bool) : Int → Option Bool := fun i4 =>
  (bif decide (i4 < (l1.length : Int)) then
    (lidx l1 i4).bind fun u9 =>
    (bif decide (20 < (u9.vars_.length : Int)) then
      some false
    else
      iter (F14_b3 u9 again5 i4) BIG 0)
  else
    some true)

def F14 (l1 : List GEnv) : Option Bool :=
  (bif decide (10 < (l1.length : Int)) then
    some false
  else
    iter (F14_b2 l1) BIG 0)

def C_F14 (O : Orc) : Prop := ∀ (l1 : List GEnv) (r2 : Bool), F14 l1 = some r2 → O.C 14 [.pv (.slice (List.map GEnv.pv l1))] [] = some ([.pv (.bool r2)], [])

def F15_b1 (w1 : Word) (w15 : Word → Int → Int → Option Int) (deep3 : Int) (again8 : (Int × Int) → Option Int) : (Int × Int) → Option Int := fun (left6, i7) =>
  (bif (decide (i7 < (w1.words_.length : Int)) && decide (0 ≤ left6)) then
    (lidx w1.words_ i7).bind fun u12 =>
    (w15 u12 left6 (IntKind.wrap .i64 (deep3 - 1))).bind fun r15 =>
    again8 (r15, IntKind.wrap .i64 (i7 + 1))
  else
    some left6)

def F15 (w15 : Word → Int → Int → Option Int) (w1 : Word) (left2 : Int) (deep3 : Int) : Option Int :=
  (bif decide (deep3 < 1) then
    some (-1)
  else
    iter (F15_b1 w1 w15 deep3) BIG (IntKind.wrap .i64 (left2 - (IntKind.wrap .i64 ((IntKind.wrap .i64 (1 + (IntKind.wrap .i64 (Int.tdiv (w1.text_.length : Int) 20)))) + (IntKind.wrap .i64 (Int.tdiv (w1.quoted_.length : Int) 20))))), 0))

/-- The function, to a depth. -/
def K15 : Nat → Word → Int → Int → Option Int
  | 0 => fun _ _ _ => none
  | n + 1 => F15 (K15 n)

def C_F15 (w15 : Word → Int → Int → Option Int) (O : Orc) : Prop := ∀ (w1 : Word) (left2 : Int) (deep3 : Int) (r4 : Int), F15 w15 w1 left2 deep3 = some r4 → O.C 15 [.pv (.agg [.int .i64 w1.kind_, .str w1.text_, .str w1.quoted_, .slice (List.map Word.pv w1.words_), .slice (List.map Cmd.pv w1.cmd_)]), .pv (.int .i64 left2), .pv (.int .i64 deep3)] [] = some ([.pv (.int .i64 r4)], [])

def C_w15 (w15 : Word → Int → Int → Option Int) (O : Orc) : Prop := ∀ (a0 : Word) (a1 : Int) (a2 : Int) (r0 : Int), w15 a0 a1 a2 = some r0 → O.C 15 [.pv (.agg [.int .i64 a0.kind_, .str a0.text_, .str a0.quoted_, .slice (List.map Word.pv a0.words_), .slice (List.map Cmd.pv a0.cmd_)]), .pv (.int .i64 a1), .pv (.int .i64 a2)] [] = some ([.pv (.int .i64 r0)], [])

def C_K15 (O : Orc) : Prop := ∀ (w1 : Word) (left2 : Int) (deep3 : Int) (r4 : Int), K15 BIG w1 left2 deep3 = some r4 → O.C 15 [.pv (.agg [.int .i64 w1.kind_, .str w1.text_, .str w1.quoted_, .slice (List.map Word.pv w1.words_), .slice (List.map Cmd.pv w1.cmd_)]), .pv (.int .i64 left2), .pv (.int .i64 deep3)] [] = some ([.pv (.int .i64 r4)], [])

def F26_b3 (values1 : List Str) (i7 : Int) (s6 : Str) (again8 : (Str × Int) → Option (Str × Int)) (again13 : Int → Option (Str × Int)) : Int → Option (Str × Int) := fun k12 =>
  (lidx values1 i7).bind fun w16 =>
  (bif decide (k12 < (w16.length : Int)) then
    (sidx w16 k12).bind fun c20 =>
    (bif decide (c20 = 0) then
      some ([], 2)
    else
      again13 (IntKind.wrap .i64 (k12 + 1)))
  else
    (bif decide (0 < i7) then
      (catO s6 [0]).bind fun s25 =>
      (catO s25 w16).bind fun s28 =>
      again8 (s28, IntKind.wrap .i64 (i7 + 1))
    else
      (catO s6 w16).bind fun s31 =>
      again8 (s31, IntKind.wrap .i64 (i7 + 1))))

def F26_b2 (values1 : List Str) (again8 : (Str × Int) → Option (Str × Int)) : (Str × Int) → Option (Str × Int) := fun (s6, i7) =>
  (bif decide (i7 < (values1.length : Int)) then
    iter (F26_b3 values1 i7 s6 again8) BIG 0
  else
    (bif decide (65536 < (s6.length : Int)) then
      some ([], 4)
    else
      some (s6, 0)))

def F26 (values1 : List Str) : Option (Str × Int) :=
  (bif decide ((values1.length : Int) = 0) then
    some ([], 1)
  else
    (bif decide (256 < (values1.length : Int)) then
      some ([], 22)
    else
      iter (F26_b2 values1) BIG ([], 0)))

def C_F26 (O : Orc) : Prop := ∀ (values1 : List Str) (r2 : Str) (r3 : Int), F26 values1 = some (r2, r3) → O.C 26 [.pv (.slice (List.map PV.str values1))] [] = some ([.pv (.str r2), .pv (.int .i64 r3)], [])

def F27_b1 (name1 : Str) (again4 : Int → Option Bool) : Int → Option Bool := fun i3 =>
  (bif decide (i3 < (name1.length : Int)) then
    (sidx name1 i3).bind fun c8 =>
    (bif ((decide (c8 < 33) || decide (126 < c8)) || decide (c8 = 47)) then
      some false
    else
      again4 (IntKind.wrap .i64 (i3 + 1)))
  else
    some (((decide (1 ≤ (name1.length : Int)) && decide ((name1.length : Int) ≤ 64)) && !decide (name1 = [46])) && !decide (name1 = [46, 46])))

def F27 (name1 : Str) : Option Bool :=
  iter (F27_b1 name1) BIG 0

def C_F27 (O : Orc) : Prop := ∀ (name1 : Str) (r2 : Bool), F27 name1 = some r2 → O.C 27 [.pv (.str name1)] [] = some ([.pv (.bool r2)], [])

def F28_b1 (g1 : GEnv) (name2 : Str) (again5 : Int → Option Int) : Int → Option Int := fun i4 =>
  (bif decide (i4 < (g1.vars_.length : Int)) then
    (lidx g1.vars_ i4).bind fun u9 =>
    (bif decide (u9.name_ = name2) then
      some i4
    else
      again5 (IntKind.wrap .i64 (i4 + 1)))
  else
    some (-1))

def F28 (g1 : GEnv) (name2 : Str) : Option Int :=
  iter (F28_b1 g1 name2) BIG 0

def C_F28 (O : Orc) : Prop := ∀ (g1 : GEnv) (name2 : Str) (r3 : Int), F28 g1 name2 = some r3 → O.C 28 [.pv (.agg [.int .i64 g1.id_, .int .i64 g1.next_, .slice (List.map Var.pv g1.vars_)]), .pv (.str name2)] [] = some ([.pv (.int .i64 r3)], [])

def F16_b3 (u9 : GEnv) (again5 : (Int) → Option Bool) (i4 : Int) (again17 : Int → Option Bool) : Int → Option Bool := fun k16 =>
  (bif decide (k16 < (u9.vars_.length : Int)) then
    (lidx u9.vars_ k16).bind fun u21 =>
    (F26 u21.values_).bind fun (r24, r25) =>
    (guardO (decide (r25 = 0)) (F27 u21.name_)).bind fun r28 =>
    (guardO (!(!decide (r25 = 0) || !r28)) (F28 u9 u21.name_)).bind fun r31 =>
    (guardO (!((((!decide (r25 = 0) || !r28) || !decide (r31 = k16)) || decide (u21.id_ < 2)) || decide (u9.next_ ≤ u21.id_)) && decide (0 < k16)) (lidx u9.vars_ (IntKind.wrap .i64 (k16 - 1)))).bind fun u34 =>
    (bif (((((!decide (r25 = 0) || !r28) || !decide (r31 = k16)) || decide (u21.id_ < 2)) || decide (u9.next_ ≤ u21.id_)) || (decide (0 < k16) && decide (u21.id_ ≤ u34.id_))) then
      some false
    else
      again17 (IntKind.wrap .i64 (k16 + 1)))
  else
    again5 (IntKind.wrap .i64 (i4 + 1)))

def F16_b2 (l1 : List GEnv) (again5 : Int → Option Bool) : Int → Option Bool := fun i4 =>
  (bif decide (i4 < (l1.length : Int)) then
    (lidx l1 i4).bind fun u9 =>
    (guardO (!(decide (u9.id_ < 1) || decide (1099511627776 < u9.id_)) && decide (0 < i4)) (lidx l1 (IntKind.wrap .i64 (i4 - 1)))).bind fun u12 =>
    (bif (((((decide (u9.id_ < 1) || decide (1099511627776 < u9.id_)) || (decide (0 < i4) && decide (u9.id_ ≤ u12.id_))) || decide (u9.next_ < 2)) || decide (1048576 < u9.next_)) || decide (64 < (u9.vars_.length : Int))) then
      some false
    else
      iter (F16_b3 u9 again5 i4) BIG 0)
  else
    some true)

def F16 (l1 : List GEnv) : Option Bool :=
  (bif decide (64 < (l1.length : Int)) then
    some false
  else
    iter (F16_b2 l1) BIG 0)

def C_F16 (O : Orc) : Prop := ∀ (l1 : List GEnv) (r2 : Bool), F16 l1 = some r2 → O.C 16 [.pv (.slice (List.map GEnv.pv l1))] [] = some ([.pv (.bool r2)], [])

def F4_b3 (w36 : Str) (w3 : Word) (again29 : (Int) → Option Bool) (i28 : Int) (again41 : Int → Option Bool) : Int → Option Bool := fun i40 =>
  (bif decide (i40 < (w36.length : Int)) then
    (sidx w36 i40).bind fun c45 =>
    (bif (!decide (c45 = 49) && ((decide (w3.kind_ = 2) || decide (w3.kind_ = 3)) || decide (w3.kind_ = 7))) then
      some false
    else
      again41 (IntKind.wrap .i64 (i40 + 1)))
  else
    again29 (IntKind.wrap .i64 (i28 + 1)))

def F4_b2 (r18 : List Str) (r19 : List Str) (w3 : Word) (again29 : Int → Option Bool) : Int → Option Bool := fun i28 =>
  (bif decide (i28 < (r18.length : Int)) then
    (lidx r18 i28).bind fun w33 =>
    (lidx r19 i28).bind fun w36 =>
    (bif !decide ((w33.length : Int) = (w36.length : Int)) then
      some false
    else
      iter (F4_b3 w36 w3 again29 i28) BIG 0)
  else
    (F8).bind fun r50 =>
    some r50)

def F4 (l1 : List GEnv) (n2 : Int) (w3 : Word) : Option Bool :=
  (F14 l1).bind fun r5 =>
  (guardO r5 (K15 BIG w3 60 12)).bind fun r8 =>
  (guardO (!(!r5 || decide (r8 < 0))) (F16 l1)).bind fun r11 =>
  (bif ((!r5 || decide (r8 < 0)) || !r11) then
    (F8).bind fun r15 =>
    some r15
  else
    (F17 l1 n2 w3).bind fun (r18, r19, r20) =>
    (bif !decide (r20 = 0) then
      (guardO (decide ((r18.length : Int) = 0) && decide ((r19.length : Int) = 0)) (F8)).bind fun r24 =>
      some ((decide ((r18.length : Int) = 0) && decide ((r19.length : Int) = 0)) && r24)
    else
      (bif !decide ((r18.length : Int) = (r19.length : Int)) then
        some false
      else
        iter (F4_b2 r18 r19 w3) BIG 0)))

def C_F4 (O : Orc) : Prop := ∀ (l1 : List GEnv) (n2 : Int) (w3 : Word) (r4 : Bool), F4 l1 n2 w3 = some r4 → O.C 4 [.pv (.slice (List.map GEnv.pv l1)), .pv (.int .i64 n2), .pv (.agg [.int .i64 w3.kind_, .str w3.text_, .str w3.quoted_, .slice (List.map Word.pv w3.words_), .slice (List.map Cmd.pv w3.cmd_)])] [] = some ([.pv (.bool r4)], [])

def F5_j1 (a1 : List Str) (b2 : List Str) (c3 : List Str) : Unit → Option Bool := fun _ =>
  (lslice a1 0 (imin (imin (a1.length : Int) (b2.length : Int)) (c3.length : Int))).bind fun l18 =>
  (lslice b2 0 (imin (imin (a1.length : Int) (b2.length : Int)) (c3.length : Int))).bind fun l21 =>
  (lslice c3 0 (imin (imin (a1.length : Int) (b2.length : Int)) (c3.length : Int))).bind fun l24 =>
  (F9 l18 l21).bind fun (r27, r28) =>
  (F9 l21 l24).bind fun (r31, r32) =>
  (F9 r27 l24).bind fun (r35, r36) =>
  (F9 l18 r31).bind fun (r39, r40) =>
  (guardO ((((decide (r28 = 0) && decide (r32 = 0)) && decide (r36 = 0)) && decide (r40 = 0)) && decide ((r35.length : Int) = imin (imin (a1.length : Int) (b2.length : Int)) (c3.length : Int))) (F13 r35 r39)).bind fun r43 =>
  (guardO (((((decide (r28 = 0) && decide (r32 = 0)) && decide (r36 = 0)) && decide (r40 = 0)) && decide ((r35.length : Int) = imin (imin (a1.length : Int) (b2.length : Int)) (c3.length : Int))) && r43) (F8)).bind fun r46 =>
  some ((((((decide (r28 = 0) && decide (r32 = 0)) && decide (r36 = 0)) && decide (r40 = 0)) && decide ((r35.length : Int) = imin (imin (a1.length : Int) (b2.length : Int)) (c3.length : Int))) && r43) && r46)

def F5 (a1 : List Str) (b2 : List Str) (c3 : List Str) : Option Bool :=
  (F7 a1 20000).bind fun r5 =>
  (guardO r5 (F7 b2 20000)).bind fun r8 =>
  (guardO (!(!r5 || !r8)) (F7 c3 20000)).bind fun r11 =>
  (bif ((!r5 || !r8) || !r11) then
    (F8).bind fun r15 =>
    some r15
  else
    (bif decide (0 < (a1.length : Int)) then
      (F9 a1 [[]]).bind fun (r50, r51) =>
      (F9 [[]] a1).bind fun (r54, r55) =>
      (guardO (!(!decide (r51 = 0) || !decide (r55 = 0))) (F13 r50 a1)).bind fun r58 =>
      (guardO (!((!decide (r51 = 0) || !decide (r55 = 0)) || !r58)) (F13 r54 a1)).bind fun r61 =>
      (bif (((!decide (r51 = 0) || !decide (r55 = 0)) || !r58) || !r61) then
        some false
      else
        F5_j1 a1 b2 c3 ())
    else
      F5_j1 a1 b2 c3 ()))

def C_F5 (O : Orc) : Prop := ∀ (a1 : List Str) (b2 : List Str) (c3 : List Str) (r4 : Bool), F5 a1 b2 c3 = some r4 → O.C 5 [.pv (.slice (List.map PV.str a1)), .pv (.slice (List.map PV.str b2)), .pv (.slice (List.map PV.str c3))] [] = some ([.pv (.bool r4)], [])

def F6_b4 (w31 : Str) (t25 : Str) (again27 : (Str × Int) → Option Bool) (i26 : Int) (again39 : Int → Option Bool) : Int → Option Bool := fun i38 =>
  (bif decide (i38 < (w31.length : Int)) then
    (sidx w31 i38).bind fun c43 =>
    (bif (decide (c43 = 32) || decide (c43 = 10)) then
      (F8).bind fun r47 =>
      some r47
    else
      again39 (IntKind.wrap .i64 (i38 + 1)))
  else
    (catO [32, 10] w31).bind fun s50 =>
    (catO t25 s50).bind fun s53 =>
    again27 (s53, IntKind.wrap .i64 (i26 + 1)))

def F6_b3 (l2 : List Str) (again27 : (Str × Int) → Option Bool) : (Str × Int) → Option Bool := fun (t25, i26) =>
  (bif decide (i26 < (l2.length : Int)) then
    (lidx l2 i26).bind fun w31 =>
    (bif decide (w31 = []) then
      (F8).bind fun r35 =>
      some r35
    else
      iter (F6_b4 w31 t25 again27 i26) BIG 0)
  else
    (F19 t25 [10, 32]).bind fun r57 =>
    (F13 r57 l2).bind fun r60 =>
    (guardO r60 (F8)).bind fun r63 =>
    some (r60 && r63))

def F6_b1 (s1 : Str) (l2 : List Str) (again13 : (Bool × Int) → Option Bool) : (Bool × Int) → Option Bool := fun (plain11, i12) =>
  (bif decide (i12 < (s1.length : Int)) then
    (guardO plain11 (sidx s1 i12)).bind fun c17 =>
    again13 ((plain11 && !decide (c17 = 36)), IntKind.wrap .i64 (i12 + 1))
  else
    (F18 [] 1 s1).bind fun (r20, r21) =>
    (bif (plain11 && (!decide (r20 = s1) || !decide (r21 = 0))) then
      some false
    else
      iter (F6_b3 l2) BIG ([], 0)))

def F6 (s1 : Str) (l2 : List Str) : Option Bool :=
  (guardO (!(decide (2000 < (s1.length : Int)))) (F7 l2 2000)).bind fun r4 =>
  (bif (decide (2000 < (s1.length : Int)) || !r4) then
    (F8).bind fun r8 =>
    some r8
  else
    iter (F6_b1 s1 l2) BIG (true, 0))

def C_F6 (O : Orc) : Prop := ∀ (s1 : Str) (l2 : List Str) (r3 : Bool), F6 s1 l2 = some r3 → O.C 6 [.pv (.str s1), .pv (.slice (List.map PV.str l2))] [] = some ([.pv (.bool r3)], [])

end Go.Abs.U50
