/- The layer 50 laws: what the functions compute. -/
import Derived.Test.YthoacjgjmlgaoaaGreatDoorLB
set_option linter.unusedVariables false
namespace Go.Abs.U5Z
open Go.RowKit Go.Proofs

def C_L_Len (O : Orc) : Prop := ∀ (b : Str) (n : Int), L_Len b = some n → O.C 20 [.ref 0 0] [.bld b] = some ([.pv (.int .i64 n)], [.bld b])

def C_L_Cut (O : Orc) : Prop := ∀ (s : Str) (sep : Str) (a : Str) (b : Str) (ok : Bool), L_Cut s sep = some (a, b, ok) → O.C 21 [.pv (.str s), .pv (.str sep)] [] = some ([.pv (.str a), .pv (.str b), .pv (.bool ok)], [])

def C_L_WriteString (O : Orc) : Prop := ∀ (b : Str) (s : Str) (n : Int) (c : Str), L_WriteString b s = some (n, c) → O.C 22 [.ref 0 0, .pv (.str s)] [.bld b] = some ([.pv (.int .i64 n), .pv (.nil)], [.bld c])

def C_L_Join (O : Orc) : Prop := ∀ (xs : List Str) (sep : Str) (s : Str), L_Join xs sep = some s → O.C 25 [.pv (.slice (List.map PV.str xs)), .pv (.str sep)] [] = some ([.pv (.str s)], [])

def C_L_String (O : Orc) : Prop := ∀ (b : Str) (s : Str), L_String b = some s → O.C 28 [.ref 0 0] [.bld b] = some ([.pv (.str s)], [.gone])

def C_L_IndexByte (O : Orc) : Prop := ∀ (s : Str) (c : Int) (n : Int), L_IndexByte s c = some n → O.C 31 [.pv (.str s), .pv (.int .u8 c)] [] = some ([.pv (.int .i64 n)], [])

def C_L_Itoa (O : Orc) : Prop := ∀ (n : Int) (s : Str), L_Itoa n = some s → O.C 49 [.pv (.int .i64 n)] [] = some ([.pv (.str s)], [])

def C_L_Atoi (O : Orc) : Prop := ∀ (s : Str) (n : Int) (bad : Bool), L_Atoi s = some (n, bad) → O.C 52 [.pv (.str s)] [] = some ([.pv (.int .i64 n), .pv ((bif bad then PV.ifc else PV.nil))], [])

def C_L_Clone (O : Orc) : Prop := ∀ (xs : List Str) (l : List Str), L_Clone xs = some l → O.C 58 [.pv (.slice (List.map PV.str xs))] [] = some ([.pv (.slice (List.map PV.str l))], [])

def C_L_Repeat (O : Orc) : Prop := ∀ (s : Str) (n : Int) (t : Str), L_Repeat s n = some t → O.C 62 [.pv (.str s), .pv (.int .i64 n)] [] = some ([.pv (.str t)], [])

def F12_b1 (l1 : List Str) (most2 : Int) (again6 : (Int × Int) → Option Bool) : (Int × Int) → Option Bool := fun (n4, i5) =>
  (bif decide (i5 < (l1.length : Int)) then
    (lidx l1 i5).bind fun w10 =>
    again6 (IntKind.wrap .i64 (n4 + (imin (w10.length : Int) 1048576)), IntKind.wrap .i64 (i5 + 1))
  else
    some (decide (n4 ≤ most2) && decide ((l1.length : Int) ≤ 400)))

def F12 (l1 : List Str) (most2 : Int) : Option Bool :=
  iter (F12_b1 l1 most2) BIG (0, 0)

def C_F12 (O : Orc) : Prop := ∀ (l1 : List Str) (most2 : Int) (r3 : Bool), F12 l1 most2 = some r3 → O.C 12 [.pv (.slice (List.map PV.str l1)), .pv (.int .i64 most2)] [] = some ([.pv (.bool r3)], [])

def F4_b3 (u9 : GEnv) (again5 : (Int) → Option Bool) (i4 : Int) (again14 : Int → Option Bool) : Int → Option Bool := fun i13 =>
  (bif decide (i13 < (u9.vars_.length : Int)) then
    (lidx u9.vars_ i13).bind fun u18 =>
    (F12 u18.values_ 2000).bind fun r21 =>
    (bif (!r21 || decide (100 < (u18.name_.length : Int))) then
      some false
    else
      again14 (IntKind.wrap .i64 (i13 + 1)))
  else
    again5 (IntKind.wrap .i64 (i4 + 1)))

def F4_b2 (l1 : List GEnv) (again5 : Int → Option Bool) : Int → Option Bool := fun i4 =>
  (bif decide (i4 < (l1.length : Int)) then
    (lidx l1 i4).bind fun u9 =>
    (bif decide (20 < (u9.vars_.length : Int)) then
      some false
    else
      iter (F4_b3 u9 again5 i4) BIG 0)
  else
    some true)

def F4 (l1 : List GEnv) : Option Bool :=
  (bif decide (10 < (l1.length : Int)) then
    some false
  else
    iter (F4_b2 l1) BIG 0)

def C_F4 (O : Orc) : Prop := ∀ (l1 : List GEnv) (r2 : Bool), F4 l1 = some r2 → O.C 4 [.pv (.slice (List.map GEnv.pv l1))] [] = some ([.pv (.bool r2)], [])

def F13_b3 (values1 : List Str) (i7 : Int) (s6 : Str) (again8 : (Str × Int) → Option (Str × Int)) (again13 : Int → Option (Str × Int)) : Int → Option (Str × Int) := fun k12 =>
  (lidx values1 i7).bind fun w16 =>
  (bif decide (k12 < (w16.length : Int)) then
    (sidx w16 k12).bind fun c20 =>
    (bif decide (c20 = 0) then
      some ([], 2)
    else
      again13 (IntKind.wrap .i64 (k12 + 1)))
  else
    (bif decide (0 < i7) then
      (catO s6 [0]).bind fun s25 =>
      (catO s25 w16).bind fun s28 =>
      again8 (s28, IntKind.wrap .i64 (i7 + 1))
    else
      (catO s6 w16).bind fun s31 =>
      again8 (s31, IntKind.wrap .i64 (i7 + 1))))

def F13_b2 (values1 : List Str) (again8 : (Str × Int) → Option (Str × Int)) : (Str × Int) → Option (Str × Int) := fun (s6, i7) =>
  (bif decide (i7 < (values1.length : Int)) then
    iter (F13_b3 values1 i7 s6 again8) BIG 0
  else
    (bif decide (65536 < (s6.length : Int)) then
      some ([], 4)
    else
      some (s6, 0)))

def F13 (values1 : List Str) : Option (Str × Int) :=
  (bif decide ((values1.length : Int) = 0) then
    some ([], 1)
  else
    (bif decide (256 < (values1.length : Int)) then
      some ([], 22)
    else
      iter (F13_b2 values1) BIG ([], 0)))

def C_F13 (O : Orc) : Prop := ∀ (values1 : List Str) (r2 : Str) (r3 : Int), F13 values1 = some (r2, r3) → O.C 13 [.pv (.slice (List.map PV.str values1))] [] = some ([.pv (.str r2), .pv (.int .i64 r3)], [])

def F14_b1 (name1 : Str) (again4 : Int → Option Bool) : Int → Option Bool := fun i3 =>
  (bif decide (i3 < (name1.length : Int)) then
    (sidx name1 i3).bind fun c8 =>
    (bif ((decide (c8 < 33) || decide (126 < c8)) || decide (c8 = 47)) then
      some false
    else
      again4 (IntKind.wrap .i64 (i3 + 1)))
  else
    some (((decide (1 ≤ (name1.length : Int)) && decide ((name1.length : Int) ≤ 64)) && !decide (name1 = [46])) && !decide (name1 = [46, 46])))

def F14 (name1 : Str) : Option Bool :=
  iter (F14_b1 name1) BIG 0

def C_F14 (O : Orc) : Prop := ∀ (name1 : Str) (r2 : Bool), F14 name1 = some r2 → O.C 14 [.pv (.str name1)] [] = some ([.pv (.bool r2)], [])

def F15_b1 (g1 : GEnv) (name2 : Str) (again5 : Int → Option Int) : Int → Option Int := fun i4 =>
  (bif decide (i4 < (g1.vars_.length : Int)) then
    (lidx g1.vars_ i4).bind fun u9 =>
    (bif decide (u9.name_ = name2) then
      some i4
    else
      again5 (IntKind.wrap .i64 (i4 + 1)))
  else
    some (-1))

def F15 (g1 : GEnv) (name2 : Str) : Option Int :=
  iter (F15_b1 g1 name2) BIG 0

def C_F15 (O : Orc) : Prop := ∀ (g1 : GEnv) (name2 : Str) (r3 : Int), F15 g1 name2 = some r3 → O.C 15 [.pv (.agg [.int .i64 g1.id_, .int .i64 g1.next_, .slice (List.map Var.pv g1.vars_)]), .pv (.str name2)] [] = some ([.pv (.int .i64 r3)], [])

def F5_b3 (u9 : GEnv) (again5 : (Int) → Option Bool) (i4 : Int) (again17 : Int → Option Bool) : Int → Option Bool := fun k16 =>
  (bif decide (k16 < (u9.vars_.length : Int)) then
    (lidx u9.vars_ k16).bind fun u21 =>
    (F13 u21.values_).bind fun (r24, r25) =>
    (guardO (decide (r25 = 0)) (F14 u21.name_)).bind fun r28 =>
    (guardO (!(!decide (r25 = 0) || !r28)) (F15 u9 u21.name_)).bind fun r31 =>
    (guardO (!((((!decide (r25 = 0) || !r28) || !decide (r31 = k16)) || decide (u21.id_ < 2)) || decide (u9.next_ ≤ u21.id_)) && decide (0 < k16)) (lidx u9.vars_ (IntKind.wrap .i64 (k16 - 1)))).bind fun u34 =>
    (bif (((((!decide (r25 = 0) || !r28) || !decide (r31 = k16)) || decide (u21.id_ < 2)) || decide (u9.next_ ≤ u21.id_)) || (decide (0 < k16) && decide (u21.id_ ≤ u34.id_))) then
      some false
    else
      again17 (IntKind.wrap .i64 (k16 + 1)))
  else
    again5 (IntKind.wrap .i64 (i4 + 1)))

def F5_b2 (l1 : List GEnv) (again5 : Int → Option Bool) : Int → Option Bool := fun i4 =>
  (bif decide (i4 < (l1.length : Int)) then
    (lidx l1 i4).bind fun u9 =>
    (guardO (!(decide (u9.id_ < 1) || decide (1099511627776 < u9.id_)) && decide (0 < i4)) (lidx l1 (IntKind.wrap .i64 (i4 - 1)))).bind fun u12 =>
    (bif (((((decide (u9.id_ < 1) || decide (1099511627776 < u9.id_)) || (decide (0 < i4) && decide (u9.id_ ≤ u12.id_))) || decide (u9.next_ < 2)) || decide (1048576 < u9.next_)) || decide (64 < (u9.vars_.length : Int))) then
      some false
    else
      iter (F5_b3 u9 again5 i4) BIG 0)
  else
    some true)

def F5 (l1 : List GEnv) : Option Bool :=
  (bif decide (64 < (l1.length : Int)) then
    some false
  else
    iter (F5_b2 l1) BIG 0)

def C_F5 (O : Orc) : Prop := ∀ (l1 : List GEnv) (r2 : Bool), F5 l1 = some r2 → O.C 5 [.pv (.slice (List.map GEnv.pv l1))] [] = some ([.pv (.bool r2)], [])

def F34_b1 (l1 : List Str) (again5 : (Int × (List GValue)) → Option (List GValue)) : (Int × (List GValue)) → Option (List GValue) := fun (i3, l4) =>
  (bif decide (i3 < (l1.length : Int)) then
    (lidx l1 i3).bind fun w9 =>
    (appO 32 l4 [GValue.mk w9 []]).bind fun out12 =>
    again5 (IntKind.wrap .i64 (i3 + 1), out12)
  else
    some l4)

def F34 (l1 : List Str) : Option (List GValue) :=
  iter (F34_b1 l1) BIG (0, ([] : List GValue))

def C_F34 (O : Orc) : Prop := ∀ (l1 : List Str) (r2 : List GValue), F34 l1 = some r2 → O.C 34 [.pv (.slice (List.map PV.str l1))] [] = some ([.pv (.slice (List.map GValue.pv r2))], [])

def F47 (a1 : GValue) (b2 : GValue) : Option (GValue × Int) :=
  (bif decide (65536 < IntKind.wrap .i64 ((a1.text_.length : Int) + (b2.text_.length : Int))) then
    some (GValue.mk [] [], 4)
  else
    (catO a1.text_ b2.text_).bind fun s6 =>
    (catO a1.marks_ b2.marks_).bind fun s9 =>
    some (GValue.mk s6 s9, 0))

def C_F47 (O : Orc) : Prop := ∀ (a1 : GValue) (b2 : GValue) (r3 : GValue) (r4 : Int), F47 a1 b2 = some (r3, r4) → O.C 47 [.pv (.agg [.str a1.text_, .str a1.marks_]), .pv (.agg [.str b2.text_, .str b2.marks_])] [] = some ([.pv (.agg [.str r3.text_, .str r3.marks_]), .pv (.int .i64 r4)], [])

def F33_b1 (a1 : List GValue) (b2 : List GValue) (again8 : (Int × (List GValue)) → Option ((List GValue) × Int)) : (Int × (List GValue)) → Option ((List GValue) × Int) := fun (i6, l7) =>
  (bif decide (i6 < imax (a1.length : Int) (b2.length : Int)) then
    (lidx a1 (imin i6 (IntKind.wrap .i64 ((a1.length : Int) - 1)))).bind fun u12 =>
    (lidx b2 (imin i6 (IntKind.wrap .i64 ((b2.length : Int) - 1)))).bind fun u15 =>
    (F47 u12 u15).bind fun (r18, r19) =>
    (bif !decide (r19 = 0) then
      some ([], r19)
    else
      (appO 32 l7 [r18]).bind fun out23 =>
      again8 (IntKind.wrap .i64 (i6 + 1), out23))
  else
    some (l7, 0))

def F33 (a1 : List GValue) (b2 : List GValue) : Option ((List GValue) × Int) :=
  (bif (!decide ((a1.length : Int) = (b2.length : Int)) && !decide (imin (a1.length : Int) (b2.length : Int) = 1)) then
    some ([], 1)
  else
    iter (F33_b1 a1 b2) BIG (0, ([] : List GValue)))

def C_F33 (O : Orc) : Prop := ∀ (a1 : List GValue) (b2 : List GValue) (r3 : List GValue) (r4 : Int), F33 a1 b2 = some (r3, r4) → O.C 33 [.pv (.slice (List.map GValue.pv a1)), .pv (.slice (List.map GValue.pv b2))] [] = some ([.pv (.slice (List.map GValue.pv r3)), .pv (.int .i64 r4)], [])

def F35_b1 (l1 : List GValue) (again5 : (Int × (List Str)) → Option (List Str)) : (Int × (List Str)) → Option (List Str) := fun (i3, l4) =>
  (bif decide (i3 < (l1.length : Int)) then
    (lidx l1 i3).bind fun u9 =>
    (appO 16 l4 [u9.text_]).bind fun out12 =>
    again5 (IntKind.wrap .i64 (i3 + 1), out12)
  else
    some l4)

def F35 (l1 : List GValue) : Option (List Str) :=
  iter (F35_b1 l1) BIG (0, ([] : List Str))

def C_F35 (O : Orc) : Prop := ∀ (l1 : List GValue) (r2 : List Str), F35 l1 = some r2 → O.C 35 [.pv (.slice (List.map GValue.pv l1))] [] = some ([.pv (.slice (List.map PV.str r2))], [])

def F16 (a1 : List Str) (b2 : List Str) : Option ((List Str) × Int) :=
  (F34 a1).bind fun r5 =>
  (F34 b2).bind fun r8 =>
  (F33 r5 r8).bind fun (r11, r12) =>
  (bif !decide (r12 = 0) then
    some ([], r12)
  else
    (F35 r11).bind fun r16 =>
    some (r16, 0))

def C_F16 (O : Orc) : Prop := ∀ (a1 : List Str) (b2 : List Str) (r3 : List Str) (r4 : Int), F16 a1 b2 = some (r3, r4) → O.C 16 [.pv (.slice (List.map PV.str a1)), .pv (.slice (List.map PV.str b2))] [] = some ([.pv (.slice (List.map PV.str r3)), .pv (.int .i64 r4)], [])

def F18 : Option (List GEnv) :=
  some [GEnv.mk 1 4 [Var.mk 2 [120] [[49], [50]], Var.mk 3 [42] [[97], [98], [99]]]]

def C_F18 (O : Orc) : Prop := ∀  (r1 : List GEnv), F18 = some r1 → O.C 18 [] [] = some ([.pv (.slice (List.map GEnv.pv r1))], [])

def F37 (s1 : Str) : Option (Int × Bool) :=
  (L_Atoi s1).bind fun (n4, bad5) =>
  (guardO ((!bad5 && decide (1 ≤ n4)) && decide (n4 ≤ 256)) (L_Itoa n4)).bind fun s8 =>
  some (n4, (((!bad5 && decide (1 ≤ n4)) && decide (n4 ≤ 256)) && decide (s8 = s1)))

def C_F37 (O : Orc) : Prop := ∀ (s1 : Str) (r2 : Int) (r3 : Bool), F37 s1 = some (r2, r3) → O.C 37 [.pv (.str s1)] [] = some ([.pv (.int .i64 r2), .pv (.bool r3)], [])

def F71 (g1 : GEnv) (x2 : Int) : Option Bool :=
  some (decide (g1.id_ = x2))

def C_F71 (O : Orc) : Prop := ∀ (g1 : GEnv) (x2 : Int) (r3 : Bool), F71 g1 x2 = some r3 → O.C 71 [.pv (.agg [.int .i64 g1.id_, .int .i64 g1.next_, .slice (List.map Var.pv g1.vars_)]), .ref 0 0] [.var [.pv (.int .i64 x2)]] = some ([.pv (.bool r3)], [.var [.pv (.int .i64 x2)]])

def F70_b1 (s1 : List GEnv) (x2 : Int) (again5 : Int → Option Int) : Int → Option Int := fun i4 =>
  (bif decide (i4 < (s1.length : Int)) then
    (lidx s1 i4).bind fun u9 =>
    (F71 u9 x2).bind fun r12 =>
    (bif r12 then
      some i4
    else
      again5 (IntKind.wrap .i64 (i4 + 1)))
  else
    some (-1))

def F70 (s1 : List GEnv) (x2 : Int) : Option Int :=
  iter (F70_b1 s1 x2) BIG 0

def C_F70 (O : Orc) : Prop := ∀ (s1 : List GEnv) (x2 : Int) (r3 : Int), F70 s1 x2 = some r3 → O.C 70 [.pv (.slice (List.map GEnv.pv s1)), .fn 71 [0]] [.var [.pv (.int .i64 x2)]] = some ([.pv (.int .i64 r3)], [.var [.pv (.int .i64 x2)]])

def F56 (l1 : List GEnv) (group2 : Int) : Option Int :=
  (F70 l1 group2).bind fun r4 =>
  some r4

def C_F56 (O : Orc) : Prop := ∀ (l1 : List GEnv) (group2 : Int) (r3 : Int), F56 l1 group2 = some r3 → O.C 56 [.pv (.slice (List.map GEnv.pv l1)), .pv (.int .i64 group2)] [] = some ([.pv (.int .i64 r3)], [])

def F73 (v1 : Var) (x2 : Str) : Option Bool :=
  some (decide (v1.name_ = x2))

def C_F73 (O : Orc) : Prop := ∀ (v1 : Var) (x2 : Str) (r3 : Bool), F73 v1 x2 = some r3 → O.C 73 [.pv (.agg [.int .i64 v1.id_, .str v1.name_, .slice (List.map PV.str v1.values_)]), .ref 0 0] [.var [.pv (.str x2)]] = some ([.pv (.bool r3)], [.var [.pv (.str x2)]])

def F72_b1 (s1 : List Var) (x2 : Str) (again5 : Int → Option Int) : Int → Option Int := fun i4 =>
  (bif decide (i4 < (s1.length : Int)) then
    (lidx s1 i4).bind fun u9 =>
    (F73 u9 x2).bind fun r12 =>
    (bif r12 then
      some i4
    else
      again5 (IntKind.wrap .i64 (i4 + 1)))
  else
    some (-1))

def F72 (s1 : List Var) (x2 : Str) : Option Int :=
  iter (F72_b1 s1 x2) BIG 0

def C_F72 (O : Orc) : Prop := ∀ (s1 : List Var) (x2 : Str) (r3 : Int), F72 s1 x2 = some r3 → O.C 72 [.pv (.slice (List.map Var.pv s1)), .fn 73 [0]] [.var [.pv (.str x2)]] = some ([.pv (.int .i64 r3)], [.var [.pv (.str x2)]])

def F57 (g1 : GEnv) (name2 : Str) : Option Int :=
  (F72 g1.vars_ name2).bind fun r4 =>
  some r4

def C_F57 (O : Orc) : Prop := ∀ (g1 : GEnv) (name2 : Str) (r3 : Int), F57 g1 name2 = some r3 → O.C 57 [.pv (.agg [.int .i64 g1.id_, .int .i64 g1.next_, .slice (List.map Var.pv g1.vars_)]), .pv (.str name2)] [] = some ([.pv (.int .i64 r3)], [])

def F42 (l1 : List GEnv) (group2 : Int) (name3 : Str) : Option ((List Str) × Bool) :=
  (F56 l1 group2).bind fun r6 =>
  (bif decide (r6 < 0) then
    some ([], false)
  else
    (lidx l1 r6).bind fun u10 =>
    (F57 u10 name3).bind fun r13 =>
    (bif decide (r13 < 0) then
      some ([], false)
    else
      (lidx u10.vars_ r13).bind fun u17 =>
      (L_Clone u17.values_).bind fun l20 =>
      some (l20, true)))

def C_F42 (O : Orc) : Prop := ∀ (l1 : List GEnv) (group2 : Int) (name3 : Str) (r4 : List Str) (r5 : Bool), F42 l1 group2 name3 = some (r4, r5) → O.C 42 [.pv (.slice (List.map GEnv.pv l1)), .pv (.int .i64 group2), .pv (.str name3)] [] = some ([.pv (.slice (List.map PV.str r4)), .pv (.bool r5)], [])

def F26 (l1 : List GEnv) (group2 : Int) (name3 : Str) : Option (List Str) :=
  (F37 name3).bind fun (r5, r6) =>
  (bif r6 then
    (F42 l1 group2 [42]).bind fun (r10, r11) =>
    (bif decide ((r10.length : Int) < r5) then
      some []
    else
      (lslice r10 (IntKind.wrap .i64 (r5 - 1)) r5).bind fun l15 =>
      some l15)
  else
    (F42 l1 group2 name3).bind fun (r18, r19) =>
    some r18)

def C_F26 (O : Orc) : Prop := ∀ (l1 : List GEnv) (group2 : Int) (name3 : Str) (r4 : List Str), F26 l1 group2 name3 = some r4 → O.C 26 [.pv (.slice (List.map GEnv.pv l1)), .pv (.int .i64 group2), .pv (.str name3)] [] = some ([.pv (.slice (List.map PV.str r4))], [])

def F48_b1 (l1 : List Str) (again5 : (Int × (List GValue)) → Option (List GValue)) : (Int × (List GValue)) → Option (List GValue) := fun (i3, l4) =>
  (bif decide (i3 < (l1.length : Int)) then
    (lidx l1 i3).bind fun w9 =>
    (L_Repeat [49] (w9.length : Int)).bind fun t12 =>
    (appO 32 l4 [GValue.mk w9 t12]).bind fun out15 =>
    again5 (IntKind.wrap .i64 (i3 + 1), out15)
  else
    some l4)

def F48 (l1 : List Str) : Option (List GValue) :=
  iter (F48_b1 l1) BIG (0, ([] : List GValue))

def C_F48 (O : Orc) : Prop := ∀ (l1 : List Str) (r2 : List GValue), F48 l1 = some r2 → O.C 48 [.pv (.slice (List.map PV.str l1))] [] = some ([.pv (.slice (List.map GValue.pv r2))], [])

def F50_b1 (words3 : List Word) (w36 : (List GEnv) → Int → Word → Option ((List GValue) × Int)) (l1 : List GEnv) (group2 : Int) (again8 : (Int × (List GValue)) → Option ((List GValue) × Int)) : (Int × (List GValue)) → Option ((List GValue) × Int) := fun (i6, l7) =>
  (bif decide (i6 < (words3.length : Int)) then
    (lidx words3 i6).bind fun u12 =>
    (w36 l1 group2 u12).bind fun (r15, r16) =>
    (bif !decide (r16 = 0) then
      some ([], r16)
    else
      (appO 32 l7 r15).bind fun out20 =>
      (bif decide (256 < (out20.length : Int)) then
        some ([], 22)
      else
        again8 (IntKind.wrap .i64 (i6 + 1), out20)))
  else
    some (l7, 0))

def F50 (w36 : (List GEnv) → Int → Word → Option ((List GValue) × Int)) (l1 : List GEnv) (group2 : Int) (words3 : List Word) : Option ((List GValue) × Int) :=
  iter (F50_b1 words3 w36 l1 group2) BIG (0, ([] : List GValue))

def C_F50 (w36 : (List GEnv) → Int → Word → Option ((List GValue) × Int)) (O : Orc) : Prop := ∀ (l1 : List GEnv) (group2 : Int) (words3 : List Word) (r4 : List GValue) (r5 : Int), F50 w36 l1 group2 words3 = some (r4, r5) → O.C 50 [.pv (.slice (List.map GEnv.pv l1)), .pv (.int .i64 group2), .pv (.slice (List.map Word.pv words3))] [] = some ([.pv (.slice (List.map GValue.pv r4)), .pv (.int .i64 r5)], [])

def F19_b1 (idx2 : List Str) (l1 : List Str) (again7 : (Int × (List Str)) → Option ((List Str) × Int)) : (Int × (List Str)) → Option ((List Str) × Int) := fun (i5, l6) =>
  (bif decide (i5 < (idx2.length : Int)) then
    (lidx idx2 i5).bind fun w11 =>
    (F37 w11).bind fun (r14, r15) =>
    (bif !r15 then
      some ([], 5)
    else
      (bif decide (r14 ≤ (l1.length : Int)) then
        (lidx l1 (IntKind.wrap .i64 (r14 - 1))).bind fun w20 =>
        (appO 16 l6 [w20]).bind fun out23 =>
        again7 (IntKind.wrap .i64 (i5 + 1), out23)
      else
        again7 (IntKind.wrap .i64 (i5 + 1), l6)))
  else
    some (l6, 0))

def F19 (l1 : List Str) (idx2 : List Str) : Option ((List Str) × Int) :=
  iter (F19_b1 idx2 l1) BIG (0, ([] : List Str))

def C_F19 (O : Orc) : Prop := ∀ (l1 : List Str) (idx2 : List Str) (r3 : List Str) (r4 : Int), F19 l1 idx2 = some (r3, r4) → O.C 19 [.pv (.slice (List.map PV.str l1)), .pv (.slice (List.map PV.str idx2))] [] = some ([.pv (.slice (List.map PV.str r3)), .pv (.int .i64 r4)], [])

def F51_j3 (again8 : ((List GValue) × Int) → Option ((List GValue) × Int)) (i7 : Int) : ((List GValue) × Int) → Option ((List GValue) × Int) := fun (v19, e20) =>
  (bif !decide (e20 = 0) then
    some ([], e20)
  else
    again8 (v19, IntKind.wrap .i64 (i7 + 1)))

def F51_b2 (words3 : List Word) (w36 : (List GEnv) → Int → Word → Option ((List GValue) × Int)) (l1 : List GEnv) (group2 : Int) (again8 : ((List GValue) × Int) → Option ((List GValue) × Int)) : ((List GValue) × Int) → Option ((List GValue) × Int) := fun (out6, i7) =>
  (bif decide (i7 < (words3.length : Int)) then
    (lidx words3 i7).bind fun u12 =>
    (w36 l1 group2 u12).bind fun (r15, r16) =>
    (bif (decide (r16 = 0) && decide (0 < i7)) then
      (F33 out6 r15).bind fun (r23, r24) =>
      F51_j3 again8 i7 (r23, r24)
    else
      F51_j3 again8 i7 (r15, r16))
  else
    some (out6, 0))

def F51 (w36 : (List GEnv) → Int → Word → Option ((List GValue) × Int)) (l1 : List GEnv) (group2 : Int) (words3 : List Word) : Option ((List GValue) × Int) :=
  iter (F51_b2 words3 w36 l1 group2) BIG (([] : List GValue), 0)

def C_F51 (w36 : (List GEnv) → Int → Word → Option ((List GValue) × Int)) (O : Orc) : Prop := ∀ (l1 : List GEnv) (group2 : Int) (words3 : List Word) (r4 : List GValue) (r5 : Int), F51 w36 l1 group2 words3 = some (r4, r5) → O.C 51 [.pv (.slice (List.map GEnv.pv l1)), .pv (.int .i64 group2), .pv (.slice (List.map Word.pv words3))] [] = some ([.pv (.slice (List.map GValue.pv r4)), .pv (.int .i64 r5)], [])

def F36 (w36 : (List GEnv) → Int → Word → Option ((List GValue) × Int)) (l1 : List GEnv) (group2 : Int) (w3 : Word) : Option ((List GValue) × Int) :=
  (bif decide (w3.kind_ = 1) then
    (bif !decide ((w3.text_.length : Int) = (w3.quoted_.length : Int)) then
      some ([], 1)
    else
      some ([GValue.mk w3.text_ w3.quoted_], 0))
  else
    (bif decide (w3.kind_ = 2) then
      (F26 l1 group2 w3.text_).bind fun r9 =>
      (F48 r9).bind fun r12 =>
      some (r12, 0)
    else
      (bif decide (w3.kind_ = 3) then
        (F26 l1 group2 w3.text_).bind fun r16 =>
        (L_Itoa (r16.length : Int)).bind fun s19 =>
        (F48 [s19]).bind fun r22 =>
        some (r22, 0)
      else
        (bif decide (w3.kind_ = 7) then
          (F50 w36 l1 group2 w3.words_).bind fun (r26, r27) =>
          (bif !decide (r27 = 0) then
            some ([], r27)
          else
            (F26 l1 group2 w3.text_).bind fun r31 =>
            (F35 r26).bind fun r34 =>
            (F19 r31 r34).bind fun (r37, r38) =>
            (F48 r37).bind fun r41 =>
            some (r41, r38))
        else
          (bif decide (w3.kind_ = 4) then
            (F51 w36 l1 group2 w3.words_).bind fun (r45, r46) =>
            some (r45, r46)
          else
            (bif decide (w3.kind_ = 5) then
              (F50 w36 l1 group2 w3.words_).bind fun (r50, r51) =>
              some (r50, r51)
            else
              some ([], 1)))))))

/-- The function, to a depth. -/
def K36 : Nat → (List GEnv) → Int → Word → Option ((List GValue) × Int)
  | 0 => fun _ _ _ => none
  | n + 1 => F36 (K36 n)

def C_F36 (w36 : (List GEnv) → Int → Word → Option ((List GValue) × Int)) (O : Orc) : Prop := ∀ (l1 : List GEnv) (group2 : Int) (w3 : Word) (r4 : List GValue) (r5 : Int), F36 w36 l1 group2 w3 = some (r4, r5) → O.C 36 [.pv (.slice (List.map GEnv.pv l1)), .pv (.int .i64 group2), .pv (.agg [.int .i64 w3.kind_, .str w3.text_, .str w3.quoted_, .slice (List.map Word.pv w3.words_), .slice (List.map Cmd.pv w3.cmd_)])] [] = some ([.pv (.slice (List.map GValue.pv r4)), .pv (.int .i64 r5)], [])

def C_w36 (w36 : (List GEnv) → Int → Word → Option ((List GValue) × Int)) (O : Orc) : Prop := ∀ (a0 : List GEnv) (a1 : Int) (a2 : Word) (r0 : List GValue) (r1 : Int), w36 a0 a1 a2 = some (r0, r1) → O.C 36 [.pv (.slice (List.map GEnv.pv a0)), .pv (.int .i64 a1), .pv (.agg [.int .i64 a2.kind_, .str a2.text_, .str a2.quoted_, .slice (List.map Word.pv a2.words_), .slice (List.map Cmd.pv a2.cmd_)])] [] = some ([.pv (.slice (List.map GValue.pv r0)), .pv (.int .i64 r1)], [])

def C_K36 (O : Orc) : Prop := ∀ (l1 : List GEnv) (group2 : Int) (w3 : Word) (r4 : List GValue) (r5 : Int), K36 BIG l1 group2 w3 = some (r4, r5) → O.C 36 [.pv (.slice (List.map GEnv.pv l1)), .pv (.int .i64 group2), .pv (.agg [.int .i64 w3.kind_, .str w3.text_, .str w3.quoted_, .slice (List.map Word.pv w3.words_), .slice (List.map Cmd.pv w3.cmd_)])] [] = some ([.pv (.slice (List.map GValue.pv r4)), .pv (.int .i64 r5)], [])

def F17_b1 (r7 : List GValue) (again14 : (Int × (List Str)) → Option ((List Str) × (List Str) × Int)) : (Int × (List Str)) → Option ((List Str) × (List Str) × Int) := fun (i12, l13) =>
  (bif decide (i12 < (r7.length : Int)) then
    (lidx r7 i12).bind fun u18 =>
    (appO 16 l13 [u18.marks_]).bind fun out21 =>
    again14 (IntKind.wrap .i64 (i12 + 1), out21)
  else
    (F35 r7).bind fun r24 =>
    some (r24, l13, 0))

def F17 (l1 : List GEnv) (group2 : Int) (w3 : Word) : Option ((List Str) × (List Str) × Int) :=
  (K36 BIG l1 group2 w3).bind fun (r7, r8) =>
  (bif !decide (r8 = 0) then
    some ([], [], r8)
  else
    iter (F17_b1 r7) BIG (0, ([] : List Str)))

def C_F17 (O : Orc) : Prop := ∀ (l1 : List GEnv) (group2 : Int) (w3 : Word) (r4 : List Str) (r5 : List Str) (r6 : Int), F17 l1 group2 w3 = some (r4, r5, r6) → O.C 17 [.pv (.slice (List.map GEnv.pv l1)), .pv (.int .i64 group2), .pv (.agg [.int .i64 w3.kind_, .str w3.text_, .str w3.quoted_, .slice (List.map Word.pv w3.words_), .slice (List.map Cmd.pv w3.cmd_)])] [] = some ([.pv (.slice (List.map PV.str r4)), .pv (.slice (List.map PV.str r5)), .pv (.int .i64 r6)], [])

def F23 (c1 : Int) : Option Bool :=
  some (((((decide (97 ≤ c1) && decide (c1 ≤ 122)) || (decide (65 ≤ c1) && decide (c1 ≤ 90))) || (decide (48 ≤ c1) && decide (c1 ≤ 57))) || decide (c1 = 95)) || decide (c1 = 42))

def C_F23 (O : Orc) : Prop := ∀ (c1 : Int) (r2 : Bool), F23 c1 = some r2 → O.C 23 [.pv (.int .u8 c1)] [] = some ([.pv (.bool r2)], [])

def F40 (s1 : Str) (prefix2 : Str) : Option Bool :=
  (guardO (decide ((prefix2.length : Int) ≤ (s1.length : Int))) (sslice s1 0 (prefix2.length : Int))).bind fun t4 =>
  some (decide ((prefix2.length : Int) ≤ (s1.length : Int)) && decide (t4 = prefix2))

def C_F40 (O : Orc) : Prop := ∀ (s1 : Str) (prefix2 : Str) (r3 : Bool), F40 s1 prefix2 = some r3 → O.C 40 [.pv (.str s1), .pv (.str prefix2)] [] = some ([.pv (.bool r3)], [])

def F24 (s1 : Str) (prefix2 : Str) : Option Bool :=
  (F40 s1 prefix2).bind fun r4 =>
  some r4

def C_F24 (O : Orc) : Prop := ∀ (s1 : Str) (prefix2 : Str) (r3 : Bool), F24 s1 prefix2 = some r3 → O.C 24 [.pv (.str s1), .pv (.str prefix2)] [] = some ([.pv (.bool r3)], [])

def F43 (s1 : Str) (prefix2 : Str) : Option Str :=
  (F40 s1 prefix2).bind fun r4 =>
  (bif r4 then
    (sslice s1 (prefix2.length : Int) (s1.length : Int)).bind fun t8 =>
    some t8
  else
    some s1)

def C_F43 (O : Orc) : Prop := ∀ (s1 : Str) (prefix2 : Str) (r3 : Str), F43 s1 prefix2 = some r3 → O.C 43 [.pv (.str s1), .pv (.str prefix2)] [] = some ([.pv (.str r3)], [])

def F27 (s1 : Str) (prefix2 : Str) : Option Str :=
  (F43 s1 prefix2).bind fun r4 =>
  some r4

def C_F27 (O : Orc) : Prop := ∀ (s1 : Str) (prefix2 : Str) (r3 : Str), F27 s1 prefix2 = some r3 → O.C 27 [.pv (.str s1), .pv (.str prefix2)] [] = some ([.pv (.str r3)], [])

def F7_j4 : Str → Option (Str × Int) := fun b6 =>
  (L_Len b6).bind fun n7 =>
  (bif decide (65536 < n7) then
    some ([], 4)
  else
    (L_String b6).bind fun s12 =>
    some (s12, 0))

def F7_b7 (b27 : Str) (c32 : Str) (again18 : (Str × Str) → Option (Str × Int)) (l1 : List GEnv) (group2 : Int) (again38 : Int → Option (Str × Int)) : Int → Option (Str × Int) := fun n37 =>
  (guardO (decide (n37 < (b27.length : Int))) (sidx b27 n37)).bind fun c41 =>
  (guardO (decide (n37 < (b27.length : Int))) (F23 c41)).bind fun r44 =>
  (bif (decide (n37 < (b27.length : Int)) && r44) then
    again38 (IntKind.wrap .i64 (n37 + 1))
  else
    (F24 b27 [36]).bind fun r48 =>
    (bif r48 then
      (L_WriteString c32 [36]).bind fun (n52, c53) =>
      (sslice b27 1 (b27.length : Int)).bind fun t57 =>
      again18 (t57, c53)
    else
      (bif decide (n37 = 0) then
        (L_WriteString c32 [36]).bind fun (n61, c62) =>
        again18 (b27, c62)
      else
        (sslice b27 0 n37).bind fun t66 =>
        (F26 l1 group2 t66).bind fun r69 =>
        (L_Join r69 [32]).bind fun s72 =>
        (L_WriteString c32 s72).bind fun (n75, c76) =>
        (sslice b27 n37 (b27.length : Int)).bind fun t80 =>
        (F27 t80 [94]).bind fun r83 =>
        again18 (r83, c76))))

def F7_b6 (l1 : List GEnv) (group2 : Int) (again18 : (Str × Str) → Option (Str × Int)) : (Str × Str) → Option (Str × Int) := fun (s16, b17) =>
  (bif !decide (s16 = []) then
    (L_Len b17).bind fun n21 =>
    (bif decide (n21 ≤ 65536) then
      (L_Cut s16 [36]).bind fun (a26, b27, ok28) =>
      (L_WriteString b17 a26).bind fun (n31, c32) =>
      (bif !ok28 then
        F7_j4 c32
      else
        iter (F7_b7 b27 c32 again18 l1 group2) BIG 0)
    else
      F7_j4 b17)
  else
    F7_j4 b17)

def F7 (l1 : List GEnv) (group2 : Int) (s3 : Str) : Option (Str × Int) :=
  iter (F7_b6 l1 group2) BIG (s3, [])

def C_F7 (O : Orc) : Prop := ∀ (l1 : List GEnv) (group2 : Int) (s3 : Str) (r4 : Str) (r5 : Int), F7 l1 group2 s3 = some (r4, r5) → O.C 7 [.pv (.slice (List.map GEnv.pv l1)), .pv (.int .i64 group2), .pv (.str s3)] [] = some ([.pv (.str r4), .pv (.int .i64 r5)], [])

def F9_b1 (a1 : List Str) (b2 : List Str) (again6 : Int → Option Bool) : Int → Option Bool := fun i5 =>
  (bif decide (i5 < (a1.length : Int)) then
    (lidx a1 i5).bind fun w10 =>
    (lidx b2 i5).bind fun w13 =>
    (bif !decide (w10 = w13) then
      some false
    else
      again6 (IntKind.wrap .i64 (i5 + 1)))
  else
    some true)

def F9 (a1 : List Str) (b2 : List Str) : Option Bool :=
  (bif !decide ((a1.length : Int) = (b2.length : Int)) then
    some false
  else
    iter (F9_b1 a1 b2) BIG 0)

def C_F9 (O : Orc) : Prop := ∀ (a1 : List Str) (b2 : List Str) (r3 : Bool), F9 a1 b2 = some r3 → O.C 9 [.pv (.slice (List.map PV.str a1)), .pv (.slice (List.map PV.str b2))] [] = some ([.pv (.bool r3)], [])

def F10_b1 (s1 : Str) (ifs2 : Str) (again7 : (Int × Int × (List Str)) → Option (List Str)) : (Int × Int × (List Str)) → Option (List Str) := fun (from4, i5, l6) =>
  (bif decide (i5 ≤ (s1.length : Int)) then
    (guardO (decide (i5 < (s1.length : Int))) (sidx s1 i5)).bind fun c11 =>
    (guardO (decide (i5 < (s1.length : Int))) (L_IndexByte ifs2 c11)).bind fun n14 =>
    (bif (decide (i5 < (s1.length : Int)) && decide (n14 < 0)) then
      again7 (from4, IntKind.wrap .i64 (i5 + 1), l6)
    else
      (bif decide (from4 < i5) then
        (sslice s1 from4 i5).bind fun t19 =>
        (appO 16 l6 [t19]).bind fun out22 =>
        again7 (IntKind.wrap .i64 (i5 + 1), IntKind.wrap .i64 (i5 + 1), out22)
      else
        again7 (IntKind.wrap .i64 (i5 + 1), IntKind.wrap .i64 (i5 + 1), l6)))
  else
    some l6)

def F10 (s1 : Str) (ifs2 : Str) : Option (List Str) :=
  iter (F10_b1 s1 ifs2) BIG (0, 0, ([] : List Str))

def C_F10 (O : Orc) : Prop := ∀ (s1 : Str) (ifs2 : Str) (r3 : List Str), F10 s1 ifs2 = some r3 → O.C 10 [.pv (.str s1), .pv (.str ifs2)] [] = some ([.pv (.slice (List.map PV.str r3))], [])

def F6 : Option Bool :=
  (F16 [[97], [98]] [[49], [50]]).bind fun (r2, r3) =>
  (F16 [[97]] []).bind fun (r6, r7) =>
  (F18).bind fun r10 =>
  (F17 r10 1 (Word.mk 4 [] [] [Word.mk 1 [97] [48] [] [], Word.mk 2 [120] [] [] []] [])).bind fun (r13, r14, r15) =>
  (F17 r10 1 (Word.mk 3 [42] [] [] [])).bind fun (r18, r19, r20) =>
  (F17 r10 1 (Word.mk 2 [50] [] [] [])).bind fun (r23, r24, r25) =>
  (F19 [[97], [98], [99]] [[51], [49], [55]]).bind fun (r28, r29) =>
  (F7 r10 1 [97, 36, 120, 94, 98, 36, 36, 32, 36]).bind fun (r32, r33) =>
  (F9 r2 [[97, 49], [98, 50]]).bind fun r36 =>
  (guardO ((r36 && decide (r3 = 0)) && decide (r7 = 1)) (F9 r13 [[97, 49], [97, 50]])).bind fun r39 =>
  (guardO (((r36 && decide (r3 = 0)) && decide (r7 = 1)) && r39) (F9 r14 [[48, 49], [48, 49]])).bind fun r42 =>
  (guardO (((((r36 && decide (r3 = 0)) && decide (r7 = 1)) && r39) && r42) && decide (r15 = 0)) (F9 r18 [[51]])).bind fun r45 =>
  (guardO (((((((r36 && decide (r3 = 0)) && decide (r7 = 1)) && r39) && r42) && decide (r15 = 0)) && r45) && decide (r20 = 0)) (F9 r23 [[98]])).bind fun r48 =>
  (guardO (((((((((r36 && decide (r3 = 0)) && decide (r7 = 1)) && r39) && r42) && decide (r15 = 0)) && r45) && decide (r20 = 0)) && r48) && decide (r25 = 0)) (F9 r28 [[99], [97]])).bind fun r51 =>
  (guardO (((((((((((((r36 && decide (r3 = 0)) && decide (r7 = 1)) && r39) && r42) && decide (r15 = 0)) && r45) && decide (r20 = 0)) && r48) && decide (r25 = 0)) && r51) && decide (r29 = 0)) && decide (r32 = [97, 49, 32, 50, 98, 36, 32, 36])) && decide (r33 = 0)) (F10 [32, 97, 32, 32, 98, 99] [32])).bind fun r54 =>
  (guardO (((((((((((((r36 && decide (r3 = 0)) && decide (r7 = 1)) && r39) && r42) && decide (r15 = 0)) && r45) && decide (r20 = 0)) && r48) && decide (r25 = 0)) && r51) && decide (r29 = 0)) && decide (r32 = [97, 49, 32, 50, 98, 36, 32, 36])) && decide (r33 = 0)) (F9 r54 [[97], [98, 99]])).bind fun r57 =>
  some ((((((((((((((r36 && decide (r3 = 0)) && decide (r7 = 1)) && r39) && r42) && decide (r15 = 0)) && r45) && decide (r20 = 0)) && r48) && decide (r25 = 0)) && r51) && decide (r29 = 0)) && decide (r32 = [97, 49, 32, 50, 98, 36, 32, 36])) && decide (r33 = 0)) && r57)

def C_F6 (O : Orc) : Prop := ∀  (r1 : Bool), F6 = some r1 → O.C 6 [] [] = some ([.pv (.bool r1)], [])

def F29 (c1 : Int) : Option Bool :=
  some (((((decide (97 ≤ c1) && decide (c1 ≤ 122)) || (decide (65 ≤ c1) && decide (c1 ≤ 90))) || (decide (48 ≤ c1) && decide (c1 ≤ 57))) || decide (c1 = 95)) || decide (c1 = 42))

def C_F29 (O : Orc) : Prop := ∀ (c1 : Int) (r2 : Bool), F29 c1 = some r2 → O.C 29 [.pv (.int .u8 c1)] [] = some ([.pv (.bool r2)], [])

def F44_b1 (s1 : Str) (again6 : (Int × Int) → Option (Int × Bool)) : (Int × Int) → Option (Int × Bool) := fun (n4, i5) =>
  (bif (decide (i5 < (s1.length : Int)) && decide (i5 < 4)) then
    (sidx s1 i5).bind fun c10 =>
    (bif (decide (c10 < 48) || decide (57 < c10)) then
      some (0, false)
    else
      again6 (IntKind.wrap .i64 ((IntKind.wrap .i64 (10 * n4)) + (IntKind.wrap .i64 (IntKind.wrap .u8 (c10 - 48)))), IntKind.wrap .i64 (i5 + 1)))
  else
    (guardO ((decide (1 ≤ n4) && decide (n4 ≤ 256)) && decide ((s1.length : Int) < 4)) (sidx s1 0)).bind fun c14 =>
    some (n4, (((decide (1 ≤ n4) && decide (n4 ≤ 256)) && decide ((s1.length : Int) < 4)) && !decide (c14 = 48))))

def F44 (s1 : Str) : Option (Int × Bool) :=
  iter (F44_b1 s1) BIG (0, 0)

def C_F44 (O : Orc) : Prop := ∀ (s1 : Str) (r2 : Int) (r3 : Bool), F44 s1 = some (r2, r3) → O.C 44 [.pv (.str s1)] [] = some ([.pv (.int .i64 r2), .pv (.bool r3)], [])

def F59_b1 (l1 : List GEnv) (group2 : Int) (again5 : Int → Option Int) : Int → Option Int := fun i4 =>
  (bif decide (i4 < (l1.length : Int)) then
    (lidx l1 i4).bind fun u9 =>
    (bif decide (u9.id_ = group2) then
      some i4
    else
      again5 (IntKind.wrap .i64 (i4 + 1)))
  else
    some (-1))

def F59 (l1 : List GEnv) (group2 : Int) : Option Int :=
  iter (F59_b1 l1 group2) BIG 0

def C_F59 (O : Orc) : Prop := ∀ (l1 : List GEnv) (group2 : Int) (r3 : Int), F59 l1 group2 = some r3 → O.C 59 [.pv (.slice (List.map GEnv.pv l1)), .pv (.int .i64 group2)] [] = some ([.pv (.int .i64 r3)], [])

def F60 (l1 : List Str) : Option (List Str) :=
  (appO 16 ([] : List Str) l1).bind fun out3 =>
  some out3

def C_F60 (O : Orc) : Prop := ∀ (l1 : List Str) (r2 : List Str), F60 l1 = some r2 → O.C 60 [.pv (.slice (List.map PV.str l1))] [] = some ([.pv (.slice (List.map PV.str r2))], [])

def F45 (l1 : List GEnv) (group2 : Int) (name3 : Str) : Option ((List Str) × Bool) :=
  (F59 l1 group2).bind fun r6 =>
  (guardO (!(decide (r6 < 0))) (lidx l1 r6)).bind fun u9 =>
  (guardO (!(decide (r6 < 0))) (F15 u9 name3)).bind fun r12 =>
  (bif (decide (r6 < 0) || decide (r12 < 0)) then
    some ([], false)
  else
    (lidx l1 r6).bind fun u16 =>
    (F15 u16 name3).bind fun r19 =>
    (lidx u16.vars_ r19).bind fun u22 =>
    (F60 u22.values_).bind fun r25 =>
    some (r25, true))

def C_F45 (O : Orc) : Prop := ∀ (l1 : List GEnv) (group2 : Int) (name3 : Str) (r4 : List Str) (r5 : Bool), F45 l1 group2 name3 = some (r4, r5) → O.C 45 [.pv (.slice (List.map GEnv.pv l1)), .pv (.int .i64 group2), .pv (.str name3)] [] = some ([.pv (.slice (List.map PV.str r4)), .pv (.bool r5)], [])

def F30 (env1 : List GEnv) (group2 : Int) (name3 : Str) : Option (List Str) :=
  (F44 name3).bind fun (r5, r6) =>
  (bif r6 then
    (F45 env1 group2 [42]).bind fun (r10, r11) =>
    (bif decide (r5 ≤ (r10.length : Int)) then
      (lslice r10 (IntKind.wrap .i64 (r5 - 1)) r5).bind fun l15 =>
      some l15
    else
      some [])
  else
    (F45 env1 group2 name3).bind fun (r18, r19) =>
    some r18)

def C_F30 (O : Orc) : Prop := ∀ (env1 : List GEnv) (group2 : Int) (name3 : Str) (r4 : List Str), F30 env1 group2 name3 = some r4 → O.C 30 [.pv (.slice (List.map GEnv.pv env1)), .pv (.int .i64 group2), .pv (.str name3)] [] = some ([.pv (.slice (List.map PV.str r4))], [])

def F8_b5 (r30 : List Str) (to12 : Int) (s3 : Str) (again8 : (Str × Int) → Option (Str × Int)) (again35 : (Str × Int) → Option (Str × Int)) : (Str × Int) → Option (Str × Int) := fun (out33, k34) =>
  (bif decide (k34 < (r30.length : Int)) then
    (bif decide (0 < k34) then
      (catO out33 [32]).bind fun s40 =>
      (lidx r30 k34).bind fun w43 =>
      (catO s40 w43).bind fun s46 =>
      again35 (s46, IntKind.wrap .i64 (k34 + 1))
    else
      (lidx r30 k34).bind fun w49 =>
      (catO out33 w49).bind fun s52 =>
      again35 (s52, IntKind.wrap .i64 (k34 + 1)))
  else
    (guardO (decide (to12 < (s3.length : Int))) (sidx s3 to12)).bind fun c55 =>
    (bif (decide (to12 < (s3.length : Int)) && decide (c55 = 94)) then
      again8 (out33, IntKind.wrap .i64 (to12 + 1))
    else
      again8 (out33, to12)))

def F8_b4 (s3 : Str) (i7 : Int) (env1 : List GEnv) (group2 : Int) (again8 : (Str × Int) → Option (Str × Int)) (out6 : Str) (again13 : Int → Option (Str × Int)) : Int → Option (Str × Int) := fun to12 =>
  (sidx s3 i7).bind fun c16 =>
  (guardO (decide (c16 = 36) && decide (to12 < (s3.length : Int))) (sidx s3 to12)).bind fun c19 =>
  (guardO (decide (c16 = 36) && decide (to12 < (s3.length : Int))) (F29 c19)).bind fun r22 =>
  (bif ((decide (c16 = 36) && decide (to12 < (s3.length : Int))) && r22) then
    again13 (IntKind.wrap .i64 (to12 + 1))
  else
    (bif decide (IntKind.wrap .i64 (i7 + 1) < to12) then
      (sslice s3 (IntKind.wrap .i64 (i7 + 1)) to12).bind fun t27 =>
      (F30 env1 group2 t27).bind fun r30 =>
      iter (F8_b5 r30 to12 s3 again8) BIG (out6, 0)
    else
      (bif ((decide (c16 = 36) && decide (to12 < (s3.length : Int))) && decide (c19 = 36)) then
        (catO out6 [36]).bind fun s61 =>
        again8 (s61, IntKind.wrap .i64 (to12 + 1))
      else
        (sslice s3 i7 to12).bind fun t64 =>
        (catO out6 t64).bind fun s67 =>
        again8 (s67, to12))))

def F8_b3 (s3 : Str) (env1 : List GEnv) (group2 : Int) (again8 : (Str × Int) → Option (Str × Int)) : (Str × Int) → Option (Str × Int) := fun (out6, i7) =>
  (bif (decide (i7 < (s3.length : Int)) && decide ((out6.length : Int) ≤ 65536)) then
    iter (F8_b4 s3 i7 env1 group2 again8 out6) BIG (IntKind.wrap .i64 (i7 + 1))
  else
    (bif decide (65536 < (out6.length : Int)) then
      some ([], 4)
    else
      some (out6, 0)))

def F8 (env1 : List GEnv) (group2 : Int) (s3 : Str) : Option (Str × Int) :=
  iter (F8_b3 s3 env1 group2) BIG ([], 0)

def C_F8 (O : Orc) : Prop := ∀ (env1 : List GEnv) (group2 : Int) (s3 : Str) (r4 : Str) (r5 : Int), F8 env1 group2 s3 = some (r4, r5) → O.C 8 [.pv (.slice (List.map GEnv.pv env1)), .pv (.int .i64 group2), .pv (.str s3)] [] = some ([.pv (.str r4), .pv (.int .i64 r5)], [])

def F32_b1 (s2 : Str) (c1 : Int) (again5 : Int → Option Bool) : Int → Option Bool := fun i4 =>
  (bif decide (i4 < (s2.length : Int)) then
    (sidx s2 i4).bind fun c9 =>
    (bif decide (c9 = c1) then
      some true
    else
      again5 (IntKind.wrap .i64 (i4 + 1)))
  else
    some false)

def F32 (c1 : Int) (s2 : Str) : Option Bool :=
  iter (F32_b1 s2 c1) BIG 0

def C_F32 (O : Orc) : Prop := ∀ (c1 : Int) (s2 : Str) (r3 : Bool), F32 c1 s2 = some r3 → O.C 32 [.pv (.int .u8 c1), .pv (.str s2)] [] = some ([.pv (.bool r3)], [])

def F11_b1 (s1 : Str) (ifs2 : Str) (again7 : (Int × Int × (List Str)) → Option (List Str)) : (Int × Int × (List Str)) → Option (List Str) := fun (from4, i5, l6) =>
  (bif decide (i5 ≤ (s1.length : Int)) then
    (guardO (!(decide (i5 = (s1.length : Int)))) (sidx s1 i5)).bind fun c11 =>
    (guardO (!(decide (i5 = (s1.length : Int)))) (F32 c11 ifs2)).bind fun r14 =>
    (bif (decide (i5 = (s1.length : Int)) || r14) then
      (bif decide (from4 < i5) then
        (sslice s1 from4 i5).bind fun t19 =>
        (appO 16 l6 [t19]).bind fun out22 =>
        again7 (IntKind.wrap .i64 (i5 + 1), IntKind.wrap .i64 (i5 + 1), out22)
      else
        again7 (IntKind.wrap .i64 (i5 + 1), IntKind.wrap .i64 (i5 + 1), l6))
    else
      again7 (from4, IntKind.wrap .i64 (i5 + 1), l6))
  else
    some l6)

def F11 (s1 : Str) (ifs2 : Str) : Option (List Str) :=
  iter (F11_b1 s1 ifs2) BIG (0, 0, ([] : List Str))

def C_F11 (O : Orc) : Prop := ∀ (s1 : Str) (ifs2 : Str) (r3 : List Str), F11 s1 ifs2 = some r3 → O.C 11 [.pv (.str s1), .pv (.str ifs2)] [] = some ([.pv (.slice (List.map PV.str r3))], [])

def F3 (l1 : List GEnv) (s2 : Str) (ifs3 : Str) : Option Bool :=
  (F4 l1).bind fun r5 =>
  (guardO (!((!r5 || decide (2000 < (s2.length : Int))) || decide (300 < (ifs3.length : Int)))) (F5 l1)).bind fun r8 =>
  (bif (((!r5 || decide (2000 < (s2.length : Int))) || decide (300 < (ifs3.length : Int))) || !r8) then
    (F6).bind fun r12 =>
    some r12
  else
    (F7 l1 1 s2).bind fun (r15, r16) =>
    (F8 l1 1 s2).bind fun (r19, r20) =>
    (F10 s2 ifs3).bind fun r23 =>
    (F11 s2 ifs3).bind fun r26 =>
    (F9 r23 r26).bind fun r29 =>
    (guardO ((r29 && decide (r15 = r19)) && decide (r16 = r20)) (F6)).bind fun r32 =>
    some (((r29 && decide (r15 = r19)) && decide (r16 = r20)) && r32))

def C_F3 (O : Orc) : Prop := ∀ (l1 : List GEnv) (s2 : Str) (ifs3 : Str) (r4 : Bool), F3 l1 s2 ifs3 = some r4 → O.C 3 [.pv (.slice (List.map GEnv.pv l1)), .pv (.str s2), .pv (.str ifs3)] [] = some ([.pv (.bool r4)], [])

end Go.Abs.U5Z
