/- The layer 29 laws: what the functions compute. -/
import Derived.Test.YtkiajanddmgmnaaGreatDoorLB
set_option linter.unusedVariables false
namespace Go.Abs.U2Z
open Go.RowKit Go.Proofs

def C_L_InsertE (O : Orc) : Prop := ∀ (xs : List GEnv) (i : Int) (v : List GEnv) (r : List GEnv), L_InsertE xs i v = some r → O.C 35 [.vec 0 (List.length xs), .pv (.int .i64 i), .pv (.slice (List.map GEnv.pv v))] [.row 34 3 (List.map GEnv.pv xs) false] = some ([.vec 0 (List.length r)], [.row 34 3 (List.map GEnv.pv r) false])

def C_L_DeleteV (O : Orc) : Prop := ∀ (xs : List Var) (i : Int) (j : Int) (r : List Var) (y : List Var), L_DeleteV xs i j = some (r, y) → O.C 38 [.vec 0 (List.length xs), .pv (.int .i64 i), .pv (.int .i64 j)] [.row 37 3 (List.map Var.pv xs) false] = some ([.pv (.slice (List.map Var.pv r))], [.row 37 3 (List.map Var.pv y) true])

def C_L_Clone (O : Orc) : Prop := ∀ (xs : List Str) (l : List Str), L_Clone xs = some l → O.C 40 [.pv (.slice (List.map PV.str xs))] [] = some ([.pv (.slice (List.map PV.str l))], [])

def C_L_Repeat (O : Orc) : Prop := ∀ (s : Str) (n : Int) (t : Str), L_Repeat s n = some t → O.C 44 [.pv (.str s), .pv (.int .i64 n)] [] = some ([.pv (.str t)], [])

def C_L_Count (O : Orc) : Prop := ∀ (s : Str) (p : Str) (n : Int), L_Count s p = some n → O.C 46 [.pv (.str s), .pv (.str p)] [] = some ([.pv (.int .i64 n)], [])

def C_L_Split (O : Orc) : Prop := ∀ (s : Str) (sep : Str) (l : List Str), L_Split s sep = some l → O.C 47 [.pv (.str s), .pv (.str sep)] [] = some ([.pv (.slice (List.map PV.str l))], [])

def C_L_CloneE (O : Orc) : Prop := ∀ (xs : List GEnv) (l : List GEnv), L_CloneE xs = some l → O.C 59 [.pv (.slice (List.map GEnv.pv xs))] [] = some ([.vec 0 (List.length l)], [.row 34 3 (List.map GEnv.pv l) false])

def C_L_CloneV (O : Orc) : Prop := ∀ (xs : List Var) (l : List Var), L_CloneV xs = some l → O.C 62 [.pv (.slice (List.map Var.pv xs))] [] = some ([.vec 0 (List.length l)], [.row 37 3 (List.map Var.pv l) false])

def C_L_SContains (O : Orc) : Prop := ∀ (s : Str) (p : Str) (ok : Bool), L_SContains s p = some ok → O.C 69 [.pv (.str s), .pv (.str p)] [] = some ([.pv (.bool ok)], [])

def C_L_Join (O : Orc) : Prop := ∀ (xs : List Str) (sep : Str) (s : Str), L_Join xs sep = some s → O.C 70 [.pv (.slice (List.map PV.str xs)), .pv (.str sep)] [] = some ([.pv (.str s)], [])

def F9_b1 (l1 : List Str) (most2 : Int) (again6 : (Int × Int) → Option Bool) : (Int × Int) → Option Bool := fun (n4, i5) =>
  (bif decide (i5 < (l1.length : Int)) then
    (lidx l1 i5).bind fun w10 =>
    again6 (IntKind.wrap .i64 (n4 + (imin (w10.length : Int) 1048576)), IntKind.wrap .i64 (i5 + 1))
  else
    some (decide (n4 ≤ most2) && decide ((l1.length : Int) ≤ 400)))

def F9 (l1 : List Str) (most2 : Int) : Option Bool :=
  iter (F9_b1 l1 most2) BIG (0, 0)

def C_F9 (O : Orc) : Prop := ∀ (l1 : List Str) (most2 : Int) (r3 : Bool), F9 l1 most2 = some r3 → O.C 9 [.pv (.slice (List.map PV.str l1)), .pv (.int .i64 most2)] [] = some ([.pv (.bool r3)], [])

def F4_b3 (u10 : GEnv) (again6 : (Int × Int) → Option Bool) (n4 : Int) (i5 : Int) (again15 : Int → Option Bool) : Int → Option Bool := fun i14 =>
  (bif decide (i14 < (u10.vars_.length : Int)) then
    (lidx u10.vars_ i14).bind fun u19 =>
    (F9 u19.values_ 70000).bind fun r22 =>
    (bif (!r22 || decide (1000 < (u19.name_.length : Int))) then
      some false
    else
      again15 (IntKind.wrap .i64 (i14 + 1)))
  else
    again6 (IntKind.wrap .i64 (n4 + (u10.vars_.length : Int)), IntKind.wrap .i64 (i5 + 1)))

def F4_b2 (l1 : List GEnv) (again6 : (Int × Int) → Option Bool) : (Int × Int) → Option Bool := fun (n4, i5) =>
  (bif decide (i5 < (l1.length : Int)) then
    (lidx l1 i5).bind fun u10 =>
    (bif decide (200 < IntKind.wrap .i64 (n4 + (u10.vars_.length : Int))) then
      some false
    else
      iter (F4_b3 u10 again6 n4 i5) BIG 0)
  else
    some true)

def F4 (l1 : List GEnv) : Option Bool :=
  (bif decide (70 < (l1.length : Int)) then
    some false
  else
    iter (F4_b2 l1) BIG (0, 0))

def C_F4 (O : Orc) : Prop := ∀ (l1 : List GEnv) (r2 : Bool), F4 l1 = some r2 → O.C 4 [.pv (.slice (List.map GEnv.pv l1))] [] = some ([.pv (.bool r2)], [])

def F5 (o1 : GOp) : Option Bool :=
  (guardO (decide ((o1.name_.length : Int) ≤ 1000)) (F9 o1.values_ 70000)).bind fun r3 =>
  some ((decide ((o1.name_.length : Int) ≤ 1000) && r3) && decide ((o1.data_.length : Int) ≤ 70000))

def C_F5 (O : Orc) : Prop := ∀ (o1 : GOp) (r2 : Bool), F5 o1 = some r2 → O.C 5 [.pv (.agg [.int .i64 o1.kind_, .int .i64 o1.group_, .int .i64 o1.to_, .int .i64 o1.id_, .str o1.name_, .slice (List.map PV.str o1.values_), .int .i64 o1.offset_, .str o1.data_])] [] = some ([.pv (.bool r2)], [])

def F10_b3 (values1 : List Str) (i7 : Int) (s6 : Str) (again8 : (Str × Int) → Option (Str × Int)) (again13 : Int → Option (Str × Int)) : Int → Option (Str × Int) := fun k12 =>
  (lidx values1 i7).bind fun w16 =>
  (bif decide (k12 < (w16.length : Int)) then
    (sidx w16 k12).bind fun c20 =>
    (bif decide (c20 = 0) then
      some ([], 2)
    else
      again13 (IntKind.wrap .i64 (k12 + 1)))
  else
    (bif decide (0 < i7) then
      (catO s6 [0]).bind fun s25 =>
      (catO s25 w16).bind fun s28 =>
      again8 (s28, IntKind.wrap .i64 (i7 + 1))
    else
      (catO s6 w16).bind fun s31 =>
      again8 (s31, IntKind.wrap .i64 (i7 + 1))))

def F10_b2 (values1 : List Str) (again8 : (Str × Int) → Option (Str × Int)) : (Str × Int) → Option (Str × Int) := fun (s6, i7) =>
  (bif decide (i7 < (values1.length : Int)) then
    iter (F10_b3 values1 i7 s6 again8) BIG 0
  else
    (bif decide (65536 < (s6.length : Int)) then
      some ([], 4)
    else
      some (s6, 0)))

def F10 (values1 : List Str) : Option (Str × Int) :=
  (bif decide ((values1.length : Int) = 0) then
    some ([], 1)
  else
    (bif decide (256 < (values1.length : Int)) then
      some ([], 22)
    else
      iter (F10_b2 values1) BIG ([], 0)))

def C_F10 (O : Orc) : Prop := ∀ (values1 : List Str) (r2 : Str) (r3 : Int), F10 values1 = some (r2, r3) → O.C 10 [.pv (.slice (List.map PV.str values1))] [] = some ([.pv (.str r2), .pv (.int .i64 r3)], [])

def F11_b1 (name1 : Str) (again4 : Int → Option Bool) : Int → Option Bool := fun i3 =>
  (bif decide (i3 < (name1.length : Int)) then
    (sidx name1 i3).bind fun c8 =>
    (bif ((decide (c8 < 33) || decide (126 < c8)) || decide (c8 = 47)) then
      some false
    else
      again4 (IntKind.wrap .i64 (i3 + 1)))
  else
    some (((decide (1 ≤ (name1.length : Int)) && decide ((name1.length : Int) ≤ 64)) && !decide (name1 = [46])) && !decide (name1 = [46, 46])))

def F11 (name1 : Str) : Option Bool :=
  iter (F11_b1 name1) BIG 0

def C_F11 (O : Orc) : Prop := ∀ (name1 : Str) (r2 : Bool), F11 name1 = some r2 → O.C 11 [.pv (.str name1)] [] = some ([.pv (.bool r2)], [])

def F12_b1 (g1 : GEnv) (name2 : Str) (again5 : Int → Option Int) : Int → Option Int := fun i4 =>
  (bif decide (i4 < (g1.vars_.length : Int)) then
    (lidx g1.vars_ i4).bind fun u9 =>
    (bif decide (u9.name_ = name2) then
      some i4
    else
      again5 (IntKind.wrap .i64 (i4 + 1)))
  else
    some (-1))

def F12 (g1 : GEnv) (name2 : Str) : Option Int :=
  iter (F12_b1 g1 name2) BIG 0

def C_F12 (O : Orc) : Prop := ∀ (g1 : GEnv) (name2 : Str) (r3 : Int), F12 g1 name2 = some r3 → O.C 12 [.pv (.agg [.int .i64 g1.id_, .int .i64 g1.next_, .slice (List.map Var.pv g1.vars_)]), .pv (.str name2)] [] = some ([.pv (.int .i64 r3)], [])

def F6_b3 (u9 : GEnv) (again5 : (Int) → Option Bool) (i4 : Int) (again17 : Int → Option Bool) : Int → Option Bool := fun k16 =>
  (bif decide (k16 < (u9.vars_.length : Int)) then
    (lidx u9.vars_ k16).bind fun u21 =>
    (F10 u21.values_).bind fun (r24, r25) =>
    (guardO (decide (r25 = 0)) (F11 u21.name_)).bind fun r28 =>
    (guardO (!(!decide (r25 = 0) || !r28)) (F12 u9 u21.name_)).bind fun r31 =>
    (guardO (!((((!decide (r25 = 0) || !r28) || !decide (r31 = k16)) || decide (u21.id_ < 2)) || decide (u9.next_ ≤ u21.id_)) && decide (0 < k16)) (lidx u9.vars_ (IntKind.wrap .i64 (k16 - 1)))).bind fun u34 =>
    (bif (((((!decide (r25 = 0) || !r28) || !decide (r31 = k16)) || decide (u21.id_ < 2)) || decide (u9.next_ ≤ u21.id_)) || (decide (0 < k16) && decide (u21.id_ ≤ u34.id_))) then
      some false
    else
      again17 (IntKind.wrap .i64 (k16 + 1)))
  else
    again5 (IntKind.wrap .i64 (i4 + 1)))

def F6_b2 (l1 : List GEnv) (again5 : Int → Option Bool) : Int → Option Bool := fun i4 =>
  (bif decide (i4 < (l1.length : Int)) then
    (lidx l1 i4).bind fun u9 =>
    (guardO (!(decide (u9.id_ < 1) || decide (1099511627776 < u9.id_)) && decide (0 < i4)) (lidx l1 (IntKind.wrap .i64 (i4 - 1)))).bind fun u12 =>
    (bif (((((decide (u9.id_ < 1) || decide (1099511627776 < u9.id_)) || (decide (0 < i4) && decide (u9.id_ ≤ u12.id_))) || decide (u9.next_ < 2)) || decide (1048576 < u9.next_)) || decide (64 < (u9.vars_.length : Int))) then
      some false
    else
      iter (F6_b3 u9 again5 i4) BIG 0)
  else
    some true)

def F6 (l1 : List GEnv) : Option Bool :=
  (bif decide (64 < (l1.length : Int)) then
    some false
  else
    iter (F6_b2 l1) BIG 0)

def C_F6 (O : Orc) : Prop := ∀ (l1 : List GEnv) (r2 : Bool), F6 l1 = some r2 → O.C 6 [.pv (.slice (List.map GEnv.pv l1))] [] = some ([.pv (.bool r2)], [])

def F34_b1 (l3 : List Var) (again9 : (Int × (List Var)) → Option (List Var)) : (Int × (List Var)) → Option (List Var) := fun (i7, l8) =>
  (bif decide (i7 < (l3.length : Int)) then
    (lidx l8 i7).bind fun u13 =>
    (L_Clone u13.values_).bind fun l16 =>
    again9 (IntKind.wrap .i64 (i7 + 1), List.set l8 (Int.toNat i7) (Var.mk u13.id_ u13.name_ l16))
  else
    some l8)

def F34 (l1 : List Var) : Option (List Var) :=
  (L_CloneV l1).bind fun l3 =>
  iter (F34_b1 l3) BIG (0, l3)

def C_F34 (O : Orc) : Prop := ∀ (l1 : List Var) (r2 : List Var), F34 l1 = some r2 → O.C 34 [.pv (.slice (List.map Var.pv l1))] [] = some ([.vec 0 (List.length r2)], [.row 37 3 (List.map Var.pv r2) false])

def F32_b1 (l4 : List GEnv) (again11 : (Int × (List GEnv) × Nat) → Option ((List GEnv) × Nat)) : (Int × (List GEnv) × Nat) → Option ((List GEnv) × Nat) := fun (i8, l9, m10) =>
  (bif decide (i8 < (l4.length : Int)) then
    (lidx l9 i8).bind fun u15 =>
    (eqO (Int.toNat i8) m10).bind fun u18 =>
    (F34 u15.vars_).bind fun r21 =>
    again11 (IntKind.wrap .i64 (i8 + 1), List.set l9 (Int.toNat i8) (GEnv.mk u15.id_ u15.next_ r21), m10 + 1)
  else
    some (l9, m10))

def F32 (l1 : List GEnv) : Option ((List GEnv) × Nat) :=
  (L_CloneE l1).bind fun l4 =>
  iter (F32_b1 l4) BIG (0, l4, 0)

def C_F32 (O : Orc) : Prop := ∀ (l1 : List GEnv) (r2 : List GEnv) (m3 : Nat), F32 l1 = some (r2, m3) → O.C 32 [.pv (.slice (List.map GEnv.pv l1))] [] = some ([.vec 0 (List.length r2)], [.tree 34 3 2 37 3 m3 (List.map GEnv.pv r2)])

def F61 (g1 : GEnv) (x2 : Int) : Option Bool :=
  some (decide (g1.id_ = x2))

def C_F61 (O : Orc) : Prop := ∀ (g1 : GEnv) (x2 : Int) (r3 : Bool), F61 g1 x2 = some r3 → O.C 61 [.pv (.agg [.int .i64 g1.id_, .int .i64 g1.next_, .slice (List.map Var.pv g1.vars_)]), .ref 0 0] [.var [.pv (.int .i64 x2)]] = some ([.pv (.bool r3)], [.var [.pv (.int .i64 x2)]])

def F60_b1 (s1 : List GEnv) (x2 : Int) (again5 : Int → Option Int) : Int → Option Int := fun i4 =>
  (bif decide (i4 < (s1.length : Int)) then
    (lidx s1 i4).bind fun u9 =>
    (F61 u9 x2).bind fun r12 =>
    (bif r12 then
      some i4
    else
      again5 (IntKind.wrap .i64 (i4 + 1)))
  else
    some (-1))

def F60 (s1 : List GEnv) (x2 : Int) : Option Int :=
  iter (F60_b1 s1 x2) BIG 0

def C_F60 (O : Orc) : Prop := ∀ (s1 : List GEnv) (x2 : Int) (r3 : Int), F60 s1 x2 = some r3 → O.C 60 [.pv (.slice (List.map GEnv.pv s1)), .fn 61 [0]] [.var [.pv (.int .i64 x2)]] = some ([.pv (.int .i64 r3)], [.var [.pv (.int .i64 x2)]])

def F33 (l1 : List GEnv) (group2 : Int) : Option Int :=
  (F60 l1 group2).bind fun r4 =>
  some r4

def C_F33 (O : Orc) : Prop := ∀ (l1 : List GEnv) (group2 : Int) (r3 : Int), F33 l1 group2 = some r3 → O.C 33 [.pv (.slice (List.map GEnv.pv l1)), .pv (.int .i64 group2)] [] = some ([.pv (.int .i64 r3)], [])

def F13_b1 (r6 : List GEnv) (to3 : Int) (u21 : GEnv) (r24 : List Var) (again29 : Int → Option ((List GEnv) × Int)) : Int → Option ((List GEnv) × Int) := fun at28 =>
  (guardO (decide (at28 < (r6.length : Int))) (lidx r6 at28)).bind fun u32 =>
  (bif (decide (at28 < (r6.length : Int)) && decide (u32.id_ < to3)) then
    again29 (IntKind.wrap .i64 (at28 + 1))
  else
    (L_InsertE r6 at28 [GEnv.mk to3 u21.next_ r24]).bind fun r36 =>
    some (r36, 0))

def F13_b2 (r6 : List GEnv) (to3 : Int) (again42 : Int → Option ((List GEnv) × Int)) : Int → Option ((List GEnv) × Int) := fun at41 =>
  (guardO (decide (at41 < (r6.length : Int))) (lidx r6 at41)).bind fun u45 =>
  (bif (decide (at41 < (r6.length : Int)) && decide (u45.id_ < to3)) then
    again42 (IntKind.wrap .i64 (at41 + 1))
  else
    (L_InsertE r6 at41 [GEnv.mk to3 2 ([] : List Var)]).bind fun r49 =>
    some (r49, 0))

def F13 (l1 : List GEnv) (group2 : Int) (to3 : Int) : Option ((List GEnv) × Int) :=
  (F32 l1).bind fun (r6, m7) =>
  (F33 l1 group2).bind fun r11 =>
  (bif ((decide (to3 < 1) || decide (1099511627776 < to3)) || (!decide (group2 = 0) && decide (r11 < 0))) then
    some (r6, 1)
  else
    (F33 l1 to3).bind fun r15 =>
    (bif decide (0 ≤ r15) then
      some (r6, 7)
    else
      (bif decide (64 ≤ (l1.length : Int)) then
        some (r6, 22)
      else
        (bif !decide (group2 = 0) then
          (lidx l1 r11).bind fun u21 =>
          (F34 u21.vars_).bind fun r24 =>
          iter (F13_b1 r6 to3 u21 r24) BIG 0
        else
          iter (F13_b2 r6 to3) BIG 0))))

def C_F13 (O : Orc) : Prop := ∀ (l1 : List GEnv) (group2 : Int) (to3 : Int) (r4 : List GEnv) (r5 : Int), F13 l1 group2 to3 = some (r4, r5) → O.C 13 [.pv (.slice (List.map GEnv.pv l1)), .pv (.int .i64 group2), .pv (.int .i64 to3)] [] = some ([.pv (.slice (List.map GEnv.pv r4)), .pv (.int .i64 r5)], [])

def F36_b1 (name1 : Str) (again5 : Int → Option Bool) : Int → Option Bool := fun i4 =>
  (bif decide (i4 < (name1.length : Int)) then
    (sidx name1 i4).bind fun c9 =>
    (bif ((decide (c9 < 33) || decide (126 < c9)) || decide (c9 = 47)) then
      some false
    else
      again5 (IntKind.wrap .i64 (i4 + 1)))
  else
    some true)

def F36 (name1 : Str) : Option Bool :=
  (bif (((decide (name1 = []) || decide (name1 = [46])) || decide (name1 = [46, 46])) || decide (64 < (name1.length : Int))) then
    some false
  else
    iter (F36_b1 name1) BIG 0)

def C_F36 (O : Orc) : Prop := ∀ (name1 : Str) (r2 : Bool), F36 name1 = some r2 → O.C 36 [.pv (.str name1)] [] = some ([.pv (.bool r2)], [])

def F66 (v1 : Var) (x2 : Str) : Option Bool :=
  some (decide (v1.name_ = x2))

def C_F66 (O : Orc) : Prop := ∀ (v1 : Var) (x2 : Str) (r3 : Bool), F66 v1 x2 = some r3 → O.C 66 [.pv (.agg [.int .i64 v1.id_, .str v1.name_, .slice (List.map PV.str v1.values_)]), .ref 0 0] [.var [.pv (.str x2)]] = some ([.pv (.bool r3)], [.var [.pv (.str x2)]])

def F65_b1 (l1 : List Var) (x2 : Str) (again5 : Int → Option Int) : Int → Option Int := fun i4 =>
  (bif decide (i4 < (l1.length : Int)) then
    (lidx l1 i4).bind fun u9 =>
    (F66 u9 x2).bind fun r12 =>
    (bif r12 then
      some i4
    else
      again5 (IntKind.wrap .i64 (i4 + 1)))
  else
    some (-1))

def F65 (l1 : List Var) (x2 : Str) : Option Int :=
  iter (F65_b1 l1 x2) BIG 0

def C_F65 (O : Orc) : Prop := ∀ (l1 : List Var) (x2 : Str) (r3 : Int), F65 l1 x2 = some r3 → O.C 65 [.vec 0 (List.length l1), .fn 66 [1]] [.row 37 3 (List.map Var.pv l1) false, .var [.pv (.str x2)]] = some ([.pv (.int .i64 r3)], [.row 37 3 (List.map Var.pv l1) false, .var [.pv (.str x2)]])

def F37 (gid1 : Int) (gnext2 : Int) (name3 : Str) (l4 : List Var) : Option Int :=
  (F65 l4 name3).bind fun r6 =>
  some r6

def C_F37 (O : Orc) : Prop := ∀ (gid1 : Int) (gnext2 : Int) (name3 : Str) (l4 : List Var) (r5 : Int), F37 gid1 gnext2 name3 l4 = some r5 → O.C 37 [.agg [.pv (.int .i64 gid1), .pv (.int .i64 gnext2), .vec 0 (List.length l4)], .pv (.str name3)] [.row 37 3 (List.map Var.pv l4) false] = some ([.pv (.int .i64 r5)], [.row 37 3 (List.map Var.pv l4) false])

def F68 (v1 : Str) : Option Bool :=
  (L_SContains v1 [0]).bind fun ok3 =>
  some ok3

def C_F68 (O : Orc) : Prop := ∀ (v1 : Str) (r2 : Bool), F68 v1 = some r2 → O.C 68 [.pv (.str v1)] [] = some ([.pv (.bool r2)], [])

def F84_b1 (s1 : List Str) (again4 : Int → Option Int) : Int → Option Int := fun i3 =>
  (bif decide (i3 < (s1.length : Int)) then
    (lidx s1 i3).bind fun w8 =>
    (F68 w8).bind fun r11 =>
    (bif r11 then
      some i3
    else
      again4 (IntKind.wrap .i64 (i3 + 1)))
  else
    some (-1))

def F84 (s1 : List Str) : Option Int :=
  iter (F84_b1 s1) BIG 0

def C_F84 (O : Orc) : Prop := ∀ (s1 : List Str) (r2 : Int), F84 s1 = some r2 → O.C 84 [.pv (.slice (List.map PV.str s1)), .fn 68 []] [] = some ([.pv (.int .i64 r2)], [])

def F67 (s1 : List Str) : Option Bool :=
  (F84 s1).bind fun r3 =>
  some (decide (0 ≤ r3))

def C_F67 (O : Orc) : Prop := ∀ (s1 : List Str) (r2 : Bool), F67 s1 = some r2 → O.C 67 [.pv (.slice (List.map PV.str s1)), .fn 68 []] [] = some ([.pv (.bool r2)], [])

def F39_b1 (values1 : List Str) (again13 : (Int × Int) → Option (Str × Int)) : (Int × Int) → Option (Str × Int) := fun (n11, i12) =>
  (bif decide (i12 < (values1.length : Int)) then
    (lidx values1 i12).bind fun w17 =>
    (bif decide (65536 < IntKind.wrap .i64 (n11 + (w17.length : Int))) then
      some ([], 4)
    else
      again13 (IntKind.wrap .i64 (n11 + (w17.length : Int)), IntKind.wrap .i64 (i12 + 1)))
  else
    (L_Join values1 [0]).bind fun s21 =>
    some (s21, 0))

def F39 (values1 : List Str) : Option (Str × Int) :=
  (bif decide ((values1.length : Int) = 0) then
    some ([], 1)
  else
    (bif decide (256 < (values1.length : Int)) then
      some ([], 22)
    else
      (F67 values1).bind fun r6 =>
      (bif r6 then
        some ([], 2)
      else
        iter (F39_b1 values1) BIG (IntKind.wrap .i64 ((values1.length : Int) - 1), 0))))

def C_F39 (O : Orc) : Prop := ∀ (values1 : List Str) (r2 : Str) (r3 : Int), F39 values1 = some (r2, r3) → O.C 39 [.pv (.slice (List.map PV.str values1))] [] = some ([.pv (.str r2), .pv (.int .i64 r3)], [])

def F41 (g1 : GEnv) (name2 : Str) (values3 : List Str) : Option (GEnv × Int) :=
  (bif (decide (64 ≤ (g1.vars_.length : Int)) || decide (1048575 < g1.next_)) then
    some (g1, 22)
  else
    (F34 g1.vars_).bind fun r7 =>
    (appO 48 r7 [Var.mk g1.next_ name2 values3]).bind fun out11 =>
    some (GEnv.mk g1.id_ (IntKind.wrap .i64 (g1.next_ + 1)) out11, 0))

def C_F41 (O : Orc) : Prop := ∀ (g1 : GEnv) (name2 : Str) (values3 : List Str) (r4 : GEnv) (r5 : Int), F41 g1 name2 values3 = some (r4, r5) → O.C 41 [.pv (.agg [.int .i64 g1.id_, .int .i64 g1.next_, .slice (List.map Var.pv g1.vars_)]), .pv (.str name2), .pv (.slice (List.map PV.str values3))] [] = some ([.pv (.agg [.int .i64 r4.id_, .int .i64 r4.next_, .slice (List.map Var.pv r4.vars_)]), .pv (.int .i64 r5)], [])

def F14 (l1 : List GEnv) (group2 : Int) (name3 : Str) (values4 : List Str) : Option ((List GEnv) × Int) :=
  (F32 l1).bind fun (r7, m8) =>
  (F33 l1 group2).bind fun r12 =>
  (bif decide (r12 < 0) then
    some (r7, 1)
  else
    (F36 name3).bind fun r16 =>
    (bif !r16 then
      some (r7, 6)
    else
      (lidx r7 r12).bind fun u20 =>
      (ltO (Int.toNat r12) m8).bind fun _ =>
      (F37 u20.id_ u20.next_ name3 u20.vars_).bind fun r23 =>
      (bif decide ((values4.length : Int) = 0) then
        (bif decide (0 ≤ r23) then
          (L_DeleteV u20.vars_ r23 (IntKind.wrap .i64 (r23 + 1))).bind fun (r29, y30) =>
          some (List.set r7 (Int.toNat r12) (GEnv.mk u20.id_ u20.next_ r29), 0)
        else
          some (r7, 0))
      else
        (F39 values4).bind fun (r34, r35) =>
        (bif !decide (r35 = 0) then
          some (r7, r35)
        else
          (bif decide (0 ≤ r23) then
            (L_Clone values4).bind fun l40 =>
            (lidx u20.vars_ r23).bind fun u43 =>
            some (List.set r7 (Int.toNat r12) (GEnv.mk u20.id_ u20.next_ (List.set u20.vars_ (Int.toNat r23) (Var.mk u43.id_ u43.name_ l40))), 0)
          else
            (L_Clone values4).bind fun l46 =>
            (F41 u20 name3 l46).bind fun (r49, r50) =>
            (bif !decide (r50 = 0) then
              some (r7, r50)
            else
              some (List.set r7 (Int.toNat r12) r49, 0)))))))

def C_F14 (O : Orc) : Prop := ∀ (l1 : List GEnv) (group2 : Int) (name3 : Str) (values4 : List Str) (r5 : List GEnv) (r6 : Int), F14 l1 group2 name3 values4 = some (r5, r6) → O.C 14 [.pv (.slice (List.map GEnv.pv l1)), .pv (.int .i64 group2), .pv (.str name3), .pv (.slice (List.map PV.str values4))] [] = some ([.pv (.slice (List.map GEnv.pv r5)), .pv (.int .i64 r6)], [])

def F92 (v1 : Var) (x2 : Int) : Option Bool :=
  some (decide (v1.id_ = x2))

def C_F92 (O : Orc) : Prop := ∀ (v1 : Var) (x2 : Int) (r3 : Bool), F92 v1 x2 = some r3 → O.C 92 [.pv (.agg [.int .i64 v1.id_, .str v1.name_, .slice (List.map PV.str v1.values_)]), .ref 0 0] [.var [.pv (.int .i64 x2)]] = some ([.pv (.bool r3)], [.var [.pv (.int .i64 x2)]])

def F65x1_b1 (s1 : List Var) (x2 : Int) (again5 : Int → Option Int) : Int → Option Int := fun i4 =>
  (bif decide (i4 < (s1.length : Int)) then
    (lidx s1 i4).bind fun u9 =>
    (F92 u9 x2).bind fun r12 =>
    (bif r12 then
      some i4
    else
      again5 (IntKind.wrap .i64 (i4 + 1)))
  else
    some (-1))

def F65x1 (s1 : List Var) (x2 : Int) : Option Int :=
  iter (F65x1_b1 s1 x2) BIG 0

def C_F65x1 (O : Orc) : Prop := ∀ (s1 : List Var) (x2 : Int) (r3 : Int), F65x1 s1 x2 = some r3 → O.C 65 [.pv (.slice (List.map Var.pv s1)), .fn 92 [0]] [.var [.pv (.int .i64 x2)]] = some ([.pv (.int .i64 r3)], [.var [.pv (.int .i64 x2)]])

def F82 (g1 : GEnv) (id2 : Int) : Option Int :=
  (F65x1 g1.vars_ id2).bind fun r4 =>
  some r4

def C_F82 (O : Orc) : Prop := ∀ (g1 : GEnv) (id2 : Int) (r3 : Int), F82 g1 id2 = some r3 → O.C 82 [.pv (.agg [.int .i64 g1.id_, .int .i64 g1.next_, .slice (List.map Var.pv g1.vars_)]), .pv (.int .i64 id2)] [] = some ([.pv (.int .i64 r3)], [])

def F58 (l1 : List GEnv) (group2 : Int) (id3 : Int) : Option (Int × Int × Int) :=
  (F33 l1 group2).bind fun r7 =>
  (bif decide (r7 < 0) then
    some (0, 0, 8)
  else
    (bif decide (id3 = 1) then
      some (r7, (-1), 0)
    else
      (lidx l1 r7).bind fun u12 =>
      (F82 u12 id3).bind fun r15 =>
      (bif decide (r15 < 0) then
        some (0, 0, 8)
      else
        some (r7, r15, 0))))

def C_F58 (O : Orc) : Prop := ∀ (l1 : List GEnv) (group2 : Int) (id3 : Int) (r4 : Int) (r5 : Int) (r6 : Int), F58 l1 group2 id3 = some (r4, r5, r6) → O.C 58 [.pv (.slice (List.map GEnv.pv l1)), .pv (.int .i64 group2), .pv (.int .i64 id3)] [] = some ([.pv (.int .i64 r4), .pv (.int .i64 r5), .pv (.int .i64 r6)], [])

def F42 (l1 : List GEnv) (group2 : Int) (id3 : Int) : Option (Int × Int × Int) :=
  (F58 l1 group2 id3).bind fun (r7, r8, r9) =>
  (bif (decide (r9 = 0) && decide (r8 < 0)) then
    some (0, 0, 10)
  else
    some (r7, r8, r9))

def C_F42 (O : Orc) : Prop := ∀ (l1 : List GEnv) (group2 : Int) (id3 : Int) (r4 : Int) (r5 : Int) (r6 : Int), F42 l1 group2 id3 = some (r4, r5, r6) → O.C 42 [.pv (.slice (List.map GEnv.pv l1)), .pv (.int .i64 group2), .pv (.int .i64 id3)] [] = some ([.pv (.int .i64 r4), .pv (.int .i64 r5), .pv (.int .i64 r6)], [])

def F43 (v1 : Var) : Option Str :=
  (L_Join v1.values_ [0]).bind fun s3 =>
  some s3

def C_F43 (O : Orc) : Prop := ∀ (v1 : Var) (r2 : Str), F43 v1 = some r2 → O.C 43 [.pv (.agg [.int .i64 v1.id_, .str v1.name_, .slice (List.map PV.str v1.values_)])] [] = some ([.pv (.str r2)], [])

def F15 (l1 : List GEnv) (group2 : Int) (id3 : Int) (offset4 : Int) (count5 : Int) : Option (Str × Int) :=
  (F42 l1 group2 id3).bind fun (r8, r9, r10) =>
  (bif !decide (r10 = 0) then
    some ([], r10)
  else
    (bif (decide (offset4 < 0) || decide (count5 < 0)) then
      some ([], 1)
    else
      (lidx l1 r8).bind fun u15 =>
      (lidx u15.vars_ r9).bind fun u18 =>
      (F43 u18).bind fun r21 =>
      (sslice r21 (imin offset4 (r21.length : Int)) (r21.length : Int)).bind fun t24 =>
      (sslice t24 0 (imin count5 (t24.length : Int))).bind fun t27 =>
      some (t27, 0)))

def C_F15 (O : Orc) : Prop := ∀ (l1 : List GEnv) (group2 : Int) (id3 : Int) (offset4 : Int) (count5 : Int) (r6 : Str) (r7 : Int), F15 l1 group2 id3 offset4 count5 = some (r6, r7) → O.C 15 [.pv (.slice (List.map GEnv.pv l1)), .pv (.int .i64 group2), .pv (.int .i64 id3), .pv (.int .i64 offset4), .pv (.int .i64 count5)] [] = some ([.pv (.str r6), .pv (.int .i64 r7)], [])

def F19 (s1 : Str) : Option ((List Str) × Int) :=
  (bif decide (65536 < (s1.length : Int)) then
    some ([], 4)
  else
    (L_Count s1 [0]).bind fun n5 =>
    (bif decide (256 ≤ n5) then
      some ([], 22)
    else
      (L_Split s1 [0]).bind fun l9 =>
      some (l9, 0)))

def C_F19 (O : Orc) : Prop := ∀ (s1 : Str) (r2 : List Str) (r3 : Int), F19 s1 = some (r2, r3) → O.C 19 [.pv (.str s1)] [] = some ([.pv (.slice (List.map PV.str r2)), .pv (.int .i64 r3)], [])

def F16 (l1 : List GEnv) (group2 : Int) (id3 : Int) (offset4 : Int) (data5 : Str) : Option ((List GEnv) × Int × Int) :=
  (F32 l1).bind fun (r9, m10) =>
  (F42 l1 group2 id3).bind fun (r14, r15, r16) =>
  (bif !decide (r16 = 0) then
    some (r9, 0, r16)
  else
    (bif decide (offset4 < 0) then
      some (r9, 0, 1)
    else
      (bif decide (data5 = []) then
        some (r9, 0, 0)
      else
        (bif (decide (65536 < offset4) || decide (IntKind.wrap .i64 (65536 - offset4) < (data5.length : Int))) then
          some (r9, 0, 4)
        else
          (lidx l1 r14).bind fun u23 =>
          (lidx u23.vars_ r15).bind fun u26 =>
          (F43 u26).bind fun r29 =>
          (L_Repeat [0] (imax (IntKind.wrap .i64 (offset4 - (r29.length : Int))) 0)).bind fun t32 =>
          (catO r29 t32).bind fun s35 =>
          (sslice s35 0 offset4).bind fun t38 =>
          (catO t38 data5).bind fun s41 =>
          (sslice s35 (imin (IntKind.wrap .i64 (offset4 + (data5.length : Int))) (s35.length : Int)) (s35.length : Int)).bind fun t44 =>
          (catO s41 t44).bind fun s47 =>
          (F19 s47).bind fun (r50, r51) =>
          (bif !decide (r51 = 0) then
            some (r9, 0, r51)
          else
            (lidx r9 r14).bind fun u55 =>
            (ltO (Int.toNat r14) m10).bind fun _ =>
            (lidx u55.vars_ r15).bind fun u58 =>
            some (List.set r9 (Int.toNat r14) (GEnv.mk u55.id_ u55.next_ (List.set u55.vars_ (Int.toNat r15) (Var.mk u58.id_ u58.name_ r50))), (data5.length : Int), 0))))))

def C_F16 (O : Orc) : Prop := ∀ (l1 : List GEnv) (group2 : Int) (id3 : Int) (offset4 : Int) (data5 : Str) (r6 : List GEnv) (r7 : Int) (r8 : Int), F16 l1 group2 id3 offset4 data5 = some (r6, r7, r8) → O.C 16 [.pv (.slice (List.map GEnv.pv l1)), .pv (.int .i64 group2), .pv (.int .i64 id3), .pv (.int .i64 offset4), .pv (.str data5)] [] = some ([.pv (.slice (List.map GEnv.pv r6)), .pv (.int .i64 r7), .pv (.int .i64 r8)], [])

def F65x2_b1 (s1 : List Var) (x2 : Str) (again5 : Int → Option Int) : Int → Option Int := fun i4 =>
  (bif decide (i4 < (s1.length : Int)) then
    (lidx s1 i4).bind fun u9 =>
    (F66 u9 x2).bind fun r12 =>
    (bif r12 then
      some i4
    else
      again5 (IntKind.wrap .i64 (i4 + 1)))
  else
    some (-1))

def F65x2 (s1 : List Var) (x2 : Str) : Option Int :=
  iter (F65x2_b1 s1 x2) BIG 0

def C_F65x2 (O : Orc) : Prop := ∀ (s1 : List Var) (x2 : Str) (r3 : Int), F65x2 s1 x2 = some r3 → O.C 65 [.pv (.slice (List.map Var.pv s1)), .fn 66 [0]] [.var [.pv (.str x2)]] = some ([.pv (.int .i64 r3)], [.var [.pv (.str x2)]])

def F37x1 (g1 : GEnv) (name2 : Str) : Option Int :=
  (F65x2 g1.vars_ name2).bind fun r4 =>
  some r4

def C_F37x1 (O : Orc) : Prop := ∀ (g1 : GEnv) (name2 : Str) (r3 : Int), F37x1 g1 name2 = some r3 → O.C 37 [.pv (.agg [.int .i64 g1.id_, .int .i64 g1.next_, .slice (List.map Var.pv g1.vars_)]), .pv (.str name2)] [] = some ([.pv (.int .i64 r3)], [])

def F17 (l1 : List GEnv) (group2 : Int) (name3 : Str) : Option ((List Str) × Bool) :=
  (F33 l1 group2).bind fun r6 =>
  (bif decide (r6 < 0) then
    some ([], false)
  else
    (lidx l1 r6).bind fun u10 =>
    (F37x1 u10 name3).bind fun r13 =>
    (bif decide (r13 < 0) then
      some ([], false)
    else
      (lidx u10.vars_ r13).bind fun u18 =>
      (L_Clone u18.values_).bind fun l21 =>
      some (l21, true)))

def C_F17 (O : Orc) : Prop := ∀ (l1 : List GEnv) (group2 : Int) (name3 : Str) (r4 : List Str) (r5 : Bool), F17 l1 group2 name3 = some (r4, r5) → O.C 17 [.pv (.slice (List.map GEnv.pv l1)), .pv (.int .i64 group2), .pv (.str name3)] [] = some ([.pv (.slice (List.map PV.str r4)), .pv (.bool r5)], [])

def F45 (l1 : List GEnv) (group2 : Int) (id3 : Int) : Option (Int × Int) :=
  (F58 l1 group2 id3).bind fun (r6, r7, r8) =>
  (bif (decide (r8 = 0) && decide (0 ≤ r7)) then
    some (0, 9)
  else
    some (r6, r8))

def C_F45 (O : Orc) : Prop := ∀ (l1 : List GEnv) (group2 : Int) (id3 : Int) (r4 : Int) (r5 : Int), F45 l1 group2 id3 = some (r4, r5) → O.C 45 [.pv (.slice (List.map GEnv.pv l1)), .pv (.int .i64 group2), .pv (.int .i64 id3)] [] = some ([.pv (.int .i64 r4), .pv (.int .i64 r5)], [])

def F18 (l1 : List GEnv) (group2 : Int) (id3 : Int) (name4 : Str) : Option (Int × Int) :=
  (F45 l1 group2 id3).bind fun (r7, r8) =>
  (bif !decide (r8 = 0) then
    some (0, r8)
  else
    (bif decide (name4 = [46, 46]) then
      some (1, 0)
    else
      (lidx l1 r7).bind fun u13 =>
      (F37x1 u13 name4).bind fun r16 =>
      (bif decide (r16 < 0) then
        some (0, 8)
      else
        (lidx u13.vars_ r16).bind fun u21 =>
        some (u21.id_, 0))))

def C_F18 (O : Orc) : Prop := ∀ (l1 : List GEnv) (group2 : Int) (id3 : Int) (name4 : Str) (r5 : Int) (r6 : Int), F18 l1 group2 id3 name4 = some (r5, r6) → O.C 18 [.pv (.slice (List.map GEnv.pv l1)), .pv (.int .i64 group2), .pv (.int .i64 id3), .pv (.str name4)] [] = some ([.pv (.int .i64 r5), .pv (.int .i64 r6)], [])

def F20_b1 (a1 : List Str) (b2 : List Str) (again6 : Int → Option Bool) : Int → Option Bool := fun i5 =>
  (bif decide (i5 < (a1.length : Int)) then
    (lidx a1 i5).bind fun w10 =>
    (lidx b2 i5).bind fun w13 =>
    (bif !decide (w10 = w13) then
      some false
    else
      again6 (IntKind.wrap .i64 (i5 + 1)))
  else
    some true)

def F20 (a1 : List Str) (b2 : List Str) : Option Bool :=
  (bif !decide ((a1.length : Int) = (b2.length : Int)) then
    some false
  else
    iter (F20_b1 a1 b2) BIG 0)

def C_F20 (O : Orc) : Prop := ∀ (a1 : List Str) (b2 : List Str) (r3 : Bool), F20 a1 b2 = some r3 → O.C 20 [.pv (.slice (List.map PV.str a1)), .pv (.slice (List.map PV.str b2))] [] = some ([.pv (.bool r3)], [])

def F48_b1 (g1 : GEnv) (again5 : Int → Option Bool) : Int → Option Bool := fun i4 =>
  (bif decide (i4 < (g1.vars_.length : Int)) then
    (lidx g1.vars_ i4).bind fun u9 =>
    (guardO (!(decide (u9.id_ < 2) || decide (g1.next_ ≤ u9.id_)) && decide (0 < i4)) (lidx g1.vars_ (IntKind.wrap .i64 (i4 - 1)))).bind fun u12 =>
    (guardO (!((decide (u9.id_ < 2) || decide (g1.next_ ≤ u9.id_)) || (decide (0 < i4) && decide (u9.id_ ≤ u12.id_)))) (F36 u9.name_)).bind fun r15 =>
    (bif (((decide (u9.id_ < 2) || decide (g1.next_ ≤ u9.id_)) || (decide (0 < i4) && decide (u9.id_ ≤ u12.id_))) || !r15) then
      some false
    else
      (F37x1 g1 u9.name_).bind fun r18 =>
      (bif !decide (r18 = i4) then
        some false
      else
        (F39 u9.values_).bind fun (r23, r24) =>
        (bif !decide (r24 = 0) then
          some false
        else
          again5 (IntKind.wrap .i64 (i4 + 1)))))
  else
    some true)

def F48 (g1 : GEnv) : Option Bool :=
  (bif ((((decide (g1.id_ < 1) || decide (1099511627776 < g1.id_)) || decide (g1.next_ < 2)) || decide (1048576 < g1.next_)) || decide (64 < (g1.vars_.length : Int))) then
    some false
  else
    iter (F48_b1 g1) BIG 0)

def C_F48 (O : Orc) : Prop := ∀ (g1 : GEnv) (r2 : Bool), F48 g1 = some r2 → O.C 48 [.pv (.agg [.int .i64 g1.id_, .int .i64 g1.next_, .slice (List.map Var.pv g1.vars_)])] [] = some ([.pv (.bool r2)], [])

def F21_b1 (l1 : List GEnv) (again5 : Int → Option Bool) : Int → Option Bool := fun i4 =>
  (bif decide (i4 < (l1.length : Int)) then
    (lidx l1 i4).bind fun u9 =>
    (guardO (decide (0 < i4)) (lidx l1 (IntKind.wrap .i64 (i4 - 1)))).bind fun u12 =>
    (guardO (!(decide (0 < i4) && decide (u9.id_ ≤ u12.id_))) (F48 u9)).bind fun r15 =>
    (bif ((decide (0 < i4) && decide (u9.id_ ≤ u12.id_)) || !r15) then
      some false
    else
      again5 (IntKind.wrap .i64 (i4 + 1)))
  else
    some true)

def F21 (l1 : List GEnv) : Option Bool :=
  (bif decide (64 < (l1.length : Int)) then
    some false
  else
    iter (F21_b1 l1) BIG 0)

def C_F21 (O : Orc) : Prop := ∀ (l1 : List GEnv) (r2 : Bool), F21 l1 = some r2 → O.C 21 [.pv (.slice (List.map GEnv.pv l1))] [] = some ([.pv (.bool r2)], [])

def F7 : Option Bool :=
  (F13 [] 0 1).bind fun (r2, r3) =>
  (F14 r2 1 [120] [[49], [50]]).bind fun (r6, r7) =>
  (F14 r6 1 [97, 47, 98] []).bind fun (r10, r11) =>
  (F15 r6 1 2 1 9).bind fun (r14, r15) =>
  (F16 r6 1 2 0 [121]).bind fun (r18, r19, r20) =>
  (F17 r18 1 [120]).bind fun (r23, r24) =>
  (F14 r18 1 [120] []).bind fun (r27, r28) =>
  (F17 r27 1 [120]).bind fun (r31, r32) =>
  (F14 r27 1 [120] [[50]]).bind fun (r35, r36) =>
  (F18 r35 1 1 [120]).bind fun (r39, r40) =>
  (F19 []).bind fun (r43, r44) =>
  (guardO (((((((decide (r3 = 0) && decide (r7 = 0)) && decide (r11 = 6)) && decide (r14 = [0, 50])) && decide (r15 = 0)) && decide (r19 = 1)) && decide (r20 = 0)) && r24) (F20 r23 [[121], [50]])).bind fun r47 =>
  (guardO ((((((((((((((decide (r3 = 0) && decide (r7 = 0)) && decide (r11 = 6)) && decide (r14 = [0, 50])) && decide (r15 = 0)) && decide (r19 = 1)) && decide (r20 = 0)) && r24) && r47) && decide (r28 = 0)) && !r32) && decide (r36 = 0)) && decide (r39 = 3)) && decide (r40 = 0)) && decide ((r43.length : Int) = 1)) (lidx r43 0)).bind fun w50 =>
  (guardO ((((((((((((((((decide (r3 = 0) && decide (r7 = 0)) && decide (r11 = 6)) && decide (r14 = [0, 50])) && decide (r15 = 0)) && decide (r19 = 1)) && decide (r20 = 0)) && r24) && r47) && decide (r28 = 0)) && !r32) && decide (r36 = 0)) && decide (r39 = 3)) && decide (r40 = 0)) && decide ((r43.length : Int) = 1)) && decide (w50 = [])) && decide (r44 = 0)) (F21 r35)).bind fun r53 =>
  some (((((((((((((((((decide (r3 = 0) && decide (r7 = 0)) && decide (r11 = 6)) && decide (r14 = [0, 50])) && decide (r15 = 0)) && decide (r19 = 1)) && decide (r20 = 0)) && r24) && r47) && decide (r28 = 0)) && !r32) && decide (r36 = 0)) && decide (r39 = 3)) && decide (r40 = 0)) && decide ((r43.length : Int) = 1)) && decide (w50 = [])) && decide (r44 = 0)) && r53)

def C_F7 (O : Orc) : Prop := ∀  (r1 : Bool), F7 = some r1 → O.C 7 [] [] = some ([.pv (.bool r1)], [])

def F49_b1 (l1 : List GEnv) (group2 : Int) (again5 : Int → Option Int) : Int → Option Int := fun i4 =>
  (bif decide (i4 < (l1.length : Int)) then
    (lidx l1 i4).bind fun u9 =>
    (bif decide (u9.id_ = group2) then
      some i4
    else
      again5 (IntKind.wrap .i64 (i4 + 1)))
  else
    some (-1))

def F49 (l1 : List GEnv) (group2 : Int) : Option Int :=
  iter (F49_b1 l1 group2) BIG 0

def C_F49 (O : Orc) : Prop := ∀ (l1 : List GEnv) (group2 : Int) (r3 : Int), F49 l1 group2 = some r3 → O.C 49 [.pv (.slice (List.map GEnv.pv l1)), .pv (.int .i64 group2)] [] = some ([.pv (.int .i64 r3)], [])

def F51_b1 (g1 : GEnv) (k2 : Int) (again6 : (Int × (List Var)) → Option GEnv) : (Int × (List Var)) → Option GEnv := fun (i4, l5) =>
  (bif decide (i4 < (g1.vars_.length : Int)) then
    (bif !decide (i4 = k2) then
      (lidx g1.vars_ i4).bind fun u11 =>
      (appO 48 l5 [u11]).bind fun out14 =>
      again6 (IntKind.wrap .i64 (i4 + 1), out14)
    else
      again6 (IntKind.wrap .i64 (i4 + 1), l5))
  else
    some (GEnv.mk g1.id_ g1.next_ l5))

def F51 (g1 : GEnv) (k2 : Int) : Option GEnv :=
  iter (F51_b1 g1 k2) BIG (0, ([] : List Var))

def C_F51 (O : Orc) : Prop := ∀ (g1 : GEnv) (k2 : Int) (r3 : GEnv), F51 g1 k2 = some r3 → O.C 51 [.pv (.agg [.int .i64 g1.id_, .int .i64 g1.next_, .slice (List.map Var.pv g1.vars_)]), .pv (.int .i64 k2)] [] = some ([.pv (.agg [.int .i64 r3.id_, .int .i64 r3.next_, .slice (List.map Var.pv r3.vars_)])], [])

def F50 (l1 : List GEnv) (i2 : Int) (g3 : GEnv) : Option (List GEnv) :=
  (appO 40 ([] : List GEnv) l1).bind fun out5 =>
  (lidx out5 i2).bind fun u8 =>
  some (List.set out5 (Int.toNat i2) g3)

def C_F50 (O : Orc) : Prop := ∀ (l1 : List GEnv) (i2 : Int) (g3 : GEnv) (r4 : List GEnv), F50 l1 i2 g3 = some r4 → O.C 50 [.pv (.slice (List.map GEnv.pv l1)), .pv (.int .i64 i2), .pv (.agg [.int .i64 g3.id_, .int .i64 g3.next_, .slice (List.map Var.pv g3.vars_)])] [] = some ([.pv (.slice (List.map GEnv.pv r4))], [])

def F81 (l1 : List Str) : Option (List Str) :=
  (appO 16 ([] : List Str) l1).bind fun out3 =>
  some out3

def C_F81 (O : Orc) : Prop := ∀ (l1 : List Str) (r2 : List Str), F81 l1 = some r2 → O.C 81 [.pv (.slice (List.map PV.str l1))] [] = some ([.pv (.slice (List.map PV.str r2))], [])

def F52 (g1 : GEnv) (k2 : Int) (values3 : List Str) : Option GEnv :=
  (appO 48 ([] : List Var) g1.vars_).bind fun out5 =>
  (F81 values3).bind fun r8 =>
  (lidx out5 k2).bind fun u11 =>
  some (GEnv.mk g1.id_ g1.next_ (List.set out5 (Int.toNat k2) (Var.mk u11.id_ u11.name_ r8)))

def C_F52 (O : Orc) : Prop := ∀ (g1 : GEnv) (k2 : Int) (values3 : List Str) (r4 : GEnv), F52 g1 k2 values3 = some r4 → O.C 52 [.pv (.agg [.int .i64 g1.id_, .int .i64 g1.next_, .slice (List.map Var.pv g1.vars_)]), .pv (.int .i64 k2), .pv (.slice (List.map PV.str values3))] [] = some ([.pv (.agg [.int .i64 r4.id_, .int .i64 r4.next_, .slice (List.map Var.pv r4.vars_)])], [])

def F53 (g1 : GEnv) (name2 : Str) (values3 : List Str) : Option (GEnv × Int) :=
  (bif (decide (64 ≤ (g1.vars_.length : Int)) || decide (1048575 < g1.next_)) then
    some (g1, 22)
  else
    (appO 48 ([] : List Var) g1.vars_).bind fun out7 =>
    (F81 values3).bind fun r10 =>
    (appO 48 out7 [Var.mk g1.next_ name2 r10]).bind fun out13 =>
    some (GEnv.mk g1.id_ (IntKind.wrap .i64 (g1.next_ + 1)) out13, 0))

def C_F53 (O : Orc) : Prop := ∀ (g1 : GEnv) (name2 : Str) (values3 : List Str) (r4 : GEnv) (r5 : Int), F53 g1 name2 values3 = some (r4, r5) → O.C 53 [.pv (.agg [.int .i64 g1.id_, .int .i64 g1.next_, .slice (List.map Var.pv g1.vars_)]), .pv (.str name2), .pv (.slice (List.map PV.str values3))] [] = some ([.pv (.agg [.int .i64 r4.id_, .int .i64 r4.next_, .slice (List.map Var.pv r4.vars_)]), .pv (.int .i64 r5)], [])

def F22 (l1 : List GEnv) (group2 : Int) (name3 : Str) (values4 : List Str) : Option ((List GEnv) × Int) :=
  (F49 l1 group2).bind fun r7 =>
  (bif decide (r7 < 0) then
    some (l1, 1)
  else
    (F11 name3).bind fun r11 =>
    (bif !r11 then
      some (l1, 6)
    else
      (lidx l1 r7).bind fun u15 =>
      (F12 u15 name3).bind fun r18 =>
      (bif decide ((values4.length : Int) = 0) then
        (F51 u15 r18).bind fun r22 =>
        (F50 l1 r7 r22).bind fun r25 =>
        some (r25, 0)
      else
        (F10 values4).bind fun (r28, r29) =>
        (bif !decide (r29 = 0) then
          some (l1, r29)
        else
          (bif decide (0 ≤ r18) then
            (F52 u15 r18 values4).bind fun r34 =>
            (F50 l1 r7 r34).bind fun r37 =>
            some (r37, 0)
          else
            (F53 u15 name3 values4).bind fun (r40, r41) =>
            (bif !decide (r41 = 0) then
              some (l1, r41)
            else
              (F50 l1 r7 r40).bind fun r45 =>
              some (r45, 0)))))))

def C_F22 (O : Orc) : Prop := ∀ (l1 : List GEnv) (group2 : Int) (name3 : Str) (values4 : List Str) (r5 : List GEnv) (r6 : Int), F22 l1 group2 name3 values4 = some (r5, r6) → O.C 22 [.pv (.slice (List.map GEnv.pv l1)), .pv (.int .i64 group2), .pv (.str name3), .pv (.slice (List.map PV.str values4))] [] = some ([.pv (.slice (List.map GEnv.pv r5)), .pv (.int .i64 r6)], [])

def F54 (a1 : Var) (b2 : Var) : Option Bool :=
  (guardO (decide (a1.id_ = b2.id_) && decide (a1.name_ = b2.name_)) (F20 a1.values_ b2.values_)).bind fun r4 =>
  some ((decide (a1.id_ = b2.id_) && decide (a1.name_ = b2.name_)) && r4)

def C_F54 (O : Orc) : Prop := ∀ (a1 : Var) (b2 : Var) (r3 : Bool), F54 a1 b2 = some r3 → O.C 54 [.pv (.agg [.int .i64 a1.id_, .str a1.name_, .slice (List.map PV.str a1.values_)]), .pv (.agg [.int .i64 b2.id_, .str b2.name_, .slice (List.map PV.str b2.values_)])] [] = some ([.pv (.bool r3)], [])

def F23_b3 (u10 : GEnv) (u13 : GEnv) (again6 : (Int) → Option Bool) (i5 : Int) (again18 : Int → Option Bool) : Int → Option Bool := fun k17 =>
  (bif decide (k17 < (u10.vars_.length : Int)) then
    (lidx u10.vars_ k17).bind fun u22 =>
    (lidx u13.vars_ k17).bind fun u25 =>
    (F54 u22 u25).bind fun r28 =>
    (bif !r28 then
      some false
    else
      again18 (IntKind.wrap .i64 (k17 + 1)))
  else
    again6 (IntKind.wrap .i64 (i5 + 1)))

def F23_b2 (a1 : List GEnv) (b2 : List GEnv) (again6 : Int → Option Bool) : Int → Option Bool := fun i5 =>
  (bif decide (i5 < (a1.length : Int)) then
    (lidx a1 i5).bind fun u10 =>
    (lidx b2 i5).bind fun u13 =>
    (bif ((!decide (u10.id_ = u13.id_) || !decide (u10.next_ = u13.next_)) || !decide ((u10.vars_.length : Int) = (u13.vars_.length : Int))) then
      some false
    else
      iter (F23_b3 u10 u13 again6 i5) BIG 0)
  else
    some true)

def F23 (a1 : List GEnv) (b2 : List GEnv) : Option Bool :=
  (bif !decide ((a1.length : Int) = (b2.length : Int)) then
    some false
  else
    iter (F23_b2 a1 b2) BIG 0)

def C_F23 (O : Orc) : Prop := ∀ (a1 : List GEnv) (b2 : List GEnv) (r3 : Bool), F23 a1 b2 = some r3 → O.C 23 [.pv (.slice (List.map GEnv.pv a1)), .pv (.slice (List.map GEnv.pv b2))] [] = some ([.pv (.bool r3)], [])

def F24_j3 (l1 : List GEnv) (k20 : Int) (again22 : (Bool × Int × (List GEnv)) → Option ((List GEnv) × Int)) : (Bool × (List GEnv)) → Option ((List GEnv) × Int) := fun (done26, l27) =>
  (lidx l1 k20).bind fun u28 =>
  (appO 40 l27 [u28]).bind fun out31 =>
  again22 (done26, IntKind.wrap .i64 (k20 + 1), out31)

def F24_b2 (l1 : List GEnv) (to3 : Int) (u16 : GEnv) (again22 : (Bool × Int × (List GEnv)) → Option ((List GEnv) × Int)) : (Bool × Int × (List GEnv)) → Option ((List GEnv) × Int) := fun (done19, k20, l21) =>
  (bif decide (k20 < (l1.length : Int)) then
    (lidx l1 k20).bind fun u34 =>
    (bif (decide (to3 < u34.id_) && !done19) then
      (appO 40 l21 [GEnv.mk to3 u16.next_ u16.vars_]).bind fun out38 =>
      F24_j3 l1 k20 again22 (true, out38)
    else
      F24_j3 l1 k20 again22 (done19, l21))
  else
    (bif !done19 then
      (appO 40 l21 [GEnv.mk to3 u16.next_ u16.vars_]).bind fun out42 =>
      some (out42, 0)
    else
      some (l21, 0)))

def F24_j6 (l1 : List GEnv) (k47 : Int) (again49 : (Bool × Int × (List GEnv)) → Option ((List GEnv) × Int)) : (Bool × (List GEnv)) → Option ((List GEnv) × Int) := fun (done53, l54) =>
  (lidx l1 k47).bind fun u55 =>
  (appO 40 l54 [u55]).bind fun out58 =>
  again49 (done53, IntKind.wrap .i64 (k47 + 1), out58)

def F24_b5 (l1 : List GEnv) (to3 : Int) (again49 : (Bool × Int × (List GEnv)) → Option ((List GEnv) × Int)) : (Bool × Int × (List GEnv)) → Option ((List GEnv) × Int) := fun (done46, k47, l48) =>
  (bif decide (k47 < (l1.length : Int)) then
    (lidx l1 k47).bind fun u61 =>
    (bif (decide (to3 < u61.id_) && !done46) then
      (appO 40 l48 [GEnv.mk to3 2 ([] : List Var)]).bind fun out65 =>
      F24_j6 l1 k47 again49 (true, out65)
    else
      F24_j6 l1 k47 again49 (done46, l48))
  else
    (bif !done46 then
      (appO 40 l48 [GEnv.mk to3 2 ([] : List Var)]).bind fun out69 =>
      some (out69, 0)
    else
      some (l48, 0)))

def F24 (l1 : List GEnv) (group2 : Int) (to3 : Int) : Option ((List GEnv) × Int) :=
  (F49 l1 group2).bind fun r6 =>
  (bif ((decide (to3 < 1) || decide (1099511627776 < to3)) || (!decide (group2 = 0) && decide (r6 < 0))) then
    some (l1, 1)
  else
    (F49 l1 to3).bind fun r10 =>
    (bif decide (0 ≤ r10) then
      some (l1, 7)
    else
      (bif decide (64 ≤ (l1.length : Int)) then
        some (l1, 22)
      else
        (bif !decide (group2 = 0) then
          (lidx l1 r6).bind fun u16 =>
          iter (F24_b2 l1 to3 u16) BIG (false, 0, ([] : List GEnv))
        else
          iter (F24_b5 l1 to3) BIG (false, 0, ([] : List GEnv))))))

def C_F24 (O : Orc) : Prop := ∀ (l1 : List GEnv) (group2 : Int) (to3 : Int) (r4 : List GEnv) (r5 : Int), F24 l1 group2 to3 = some (r4, r5) → O.C 24 [.pv (.slice (List.map GEnv.pv l1)), .pv (.int .i64 group2), .pv (.int .i64 to3)] [] = some ([.pv (.slice (List.map GEnv.pv r4)), .pv (.int .i64 r5)], [])

def F25 (l1 : List GEnv) (group2 : Int) (id3 : Int) (name4 : Str) : Option ((List GEnv) × Int × Int) :=
  (F32 l1).bind fun (r8, m9) =>
  (F45 l1 group2 id3).bind fun (r13, r14) =>
  (bif !decide (r14 = 0) then
    some (r8, 0, r14)
  else
    (F36 name4).bind fun r18 =>
    (bif !r18 then
      some (r8, 0, 6)
    else
      (lidx l1 r13).bind fun u22 =>
      (F37x1 u22 name4).bind fun r25 =>
      (bif decide (0 ≤ r25) then
        some (r8, 0, 7)
      else
        (lidx r8 r13).bind fun u30 =>
        (ltO (Int.toNat r13) m9).bind fun _ =>
        (F41 u30 name4 [[]]).bind fun (r33, r34) =>
        (bif !decide (r34 = 0) then
          some (r8, 0, r34)
        else
          some (List.set r8 (Int.toNat r13) r33, IntKind.wrap .i64 (r33.next_ - 1), 0)))))

def C_F25 (O : Orc) : Prop := ∀ (l1 : List GEnv) (group2 : Int) (id3 : Int) (name4 : Str) (r5 : List GEnv) (r6 : Int) (r7 : Int), F25 l1 group2 id3 name4 = some (r5, r6, r7) → O.C 25 [.pv (.slice (List.map GEnv.pv l1)), .pv (.int .i64 group2), .pv (.int .i64 id3), .pv (.str name4)] [] = some ([.pv (.slice (List.map GEnv.pv r5)), .pv (.int .i64 r6), .pv (.int .i64 r7)], [])

def F55_b1 (l1 : List GEnv) (r7 : Int) (id3 : Int) (again13 : Int → Option (Int × Int × Bool)) : Int → Option (Int × Int × Bool) := fun k12 =>
  (lidx l1 r7).bind fun u16 =>
  (bif decide (k12 < (u16.vars_.length : Int)) then
    (lidx u16.vars_ k12).bind fun u20 =>
    (bif decide (u20.id_ = id3) then
      some (r7, k12, true)
    else
      again13 (IntKind.wrap .i64 (k12 + 1)))
  else
    some (0, 0, false))

def F55 (l1 : List GEnv) (group2 : Int) (id3 : Int) : Option (Int × Int × Bool) :=
  (F49 l1 group2).bind fun r7 =>
  (bif decide (r7 < 0) then
    some (0, 0, false)
  else
    (bif decide (id3 = 1) then
      some (r7, (-1), true)
    else
      iter (F55_b1 l1 r7 id3) BIG 0))

def C_F55 (O : Orc) : Prop := ∀ (l1 : List GEnv) (group2 : Int) (id3 : Int) (r4 : Int) (r5 : Int) (r6 : Bool), F55 l1 group2 id3 = some (r4, r5, r6) → O.C 55 [.pv (.slice (List.map GEnv.pv l1)), .pv (.int .i64 group2), .pv (.int .i64 id3)] [] = some ([.pv (.int .i64 r4), .pv (.int .i64 r5), .pv (.bool r6)], [])

def F26 (l1 : List GEnv) (group2 : Int) (id3 : Int) (name4 : Str) : Option ((List GEnv) × Int × Int) :=
  (F55 l1 group2 id3).bind fun (r8, r9, r10) =>
  (bif !r10 then
    some (l1, 0, 8)
  else
    (bif decide (0 ≤ r9) then
      some (l1, 0, 9)
    else
      (F11 name4).bind fun r15 =>
      (bif !r15 then
        some (l1, 0, 6)
      else
        (lidx l1 r8).bind fun u19 =>
        (F12 u19 name4).bind fun r22 =>
        (bif decide (0 ≤ r22) then
          some (l1, 0, 7)
        else
          (F53 u19 name4 [[]]).bind fun (r26, r27) =>
          (bif !decide (r27 = 0) then
            some (l1, 0, r27)
          else
            (F50 l1 r8 r26).bind fun r31 =>
            some (r31, u19.next_, 0))))))

def C_F26 (O : Orc) : Prop := ∀ (l1 : List GEnv) (group2 : Int) (id3 : Int) (name4 : Str) (r5 : List GEnv) (r6 : Int) (r7 : Int), F26 l1 group2 id3 name4 = some (r5, r6, r7) → O.C 26 [.pv (.slice (List.map GEnv.pv l1)), .pv (.int .i64 group2), .pv (.int .i64 id3), .pv (.str name4)] [] = some ([.pv (.slice (List.map GEnv.pv r5)), .pv (.int .i64 r6), .pv (.int .i64 r7)], [])

def F56 (l1 : List GEnv) (group2 : Int) (id3 : Int) : Option (Int × Int × Str × Int) :=
  (F55 l1 group2 id3).bind fun (r8, r9, r10) =>
  (bif !r10 then
    some (0, 0, [], 8)
  else
    (bif decide (r9 < 0) then
      some (0, 0, [], 10)
    else
      (lidx l1 r8).bind fun u15 =>
      (lidx u15.vars_ r9).bind fun u18 =>
      (F10 u18.values_).bind fun (r21, r22) =>
      some (r8, r9, r21, 0)))

def C_F56 (O : Orc) : Prop := ∀ (l1 : List GEnv) (group2 : Int) (id3 : Int) (r4 : Int) (r5 : Int) (r6 : Str) (r7 : Int), F56 l1 group2 id3 = some (r4, r5, r6, r7) → O.C 56 [.pv (.slice (List.map GEnv.pv l1)), .pv (.int .i64 group2), .pv (.int .i64 id3)] [] = some ([.pv (.int .i64 r4), .pv (.int .i64 r5), .pv (.str r6), .pv (.int .i64 r7)], [])

def F57_b1 (s1 : Str) (again8 : (Int × Int × (List Str)) → Option ((List Str) × Int)) : (Int × Int × (List Str)) → Option ((List Str) × Int) := fun (from5, i6, l7) =>
  (bif decide (i6 ≤ (s1.length : Int)) then
    (guardO (!(decide (i6 = (s1.length : Int)))) (sidx s1 i6)).bind fun c12 =>
    (bif (decide (i6 = (s1.length : Int)) || decide (c12 = 0)) then
      (sslice s1 from5 i6).bind fun t16 =>
      (appO 16 l7 [t16]).bind fun out19 =>
      again8 (IntKind.wrap .i64 (i6 + 1), IntKind.wrap .i64 (i6 + 1), out19)
    else
      again8 (from5, IntKind.wrap .i64 (i6 + 1), l7))
  else
    (bif decide (256 < (l7.length : Int)) then
      some ([], 22)
    else
      some (l7, 0)))

def F57 (s1 : Str) : Option ((List Str) × Int) :=
  (bif decide (65536 < (s1.length : Int)) then
    some ([], 4)
  else
    iter (F57_b1 s1) BIG (0, 0, ([] : List Str)))

def C_F57 (O : Orc) : Prop := ∀ (s1 : Str) (r2 : List Str) (r3 : Int), F57 s1 = some (r2, r3) → O.C 57 [.pv (.str s1)] [] = some ([.pv (.slice (List.map PV.str r2)), .pv (.int .i64 r3)], [])

def F27_j1 (l1 : List GEnv) (r9 : Int) (r10 : Int) (data5 : Str) : Str → Option ((List GEnv) × Int × Int) := fun out31 =>
  (F57 out31).bind fun (r32, r33) =>
  (bif !decide (r33 = 0) then
    some (l1, 0, r33)
  else
    (lidx l1 r9).bind fun u37 =>
    (F52 u37 r10 r32).bind fun r40 =>
    (F50 l1 r9 r40).bind fun r43 =>
    some (r43, (data5.length : Int), 0))

def F27 (l1 : List GEnv) (group2 : Int) (id3 : Int) (offset4 : Int) (data5 : Str) : Option ((List GEnv) × Int × Int) :=
  (F56 l1 group2 id3).bind fun (r9, r10, r11, r12) =>
  (bif !decide (r12 = 0) then
    some (l1, 0, r12)
  else
    (bif decide (offset4 < 0) then
      some (l1, 0, 1)
    else
      (bif decide (data5 = []) then
        some (l1, 0, 0)
      else
        (bif (decide (65536 < offset4) || decide (65536 < IntKind.wrap .i64 (offset4 + (data5.length : Int)))) then
          some (l1, 0, 4)
        else
          (sslice r11 0 (imin offset4 (r11.length : Int))).bind fun t19 =>
          (mkO 1 (imax (IntKind.wrap .i64 (offset4 - (r11.length : Int))) 0)).bind fun u22 =>
          (catO t19 (List.replicate (Int.toNat (imax (IntKind.wrap .i64 (offset4 - (r11.length : Int))) 0)) (0 : UInt8))).bind fun s25 =>
          (catO s25 data5).bind fun s28 =>
          (bif decide ((s28.length : Int) < (r11.length : Int)) then
            (sslice r11 (s28.length : Int) (r11.length : Int)).bind fun t47 =>
            (catO s28 t47).bind fun s50 =>
            F27_j1 l1 r9 r10 data5 s50
          else
            F27_j1 l1 r9 r10 data5 s28)))))

def C_F27 (O : Orc) : Prop := ∀ (l1 : List GEnv) (group2 : Int) (id3 : Int) (offset4 : Int) (data5 : Str) (r6 : List GEnv) (r7 : Int) (r8 : Int), F27 l1 group2 id3 offset4 data5 = some (r6, r7, r8) → O.C 27 [.pv (.slice (List.map GEnv.pv l1)), .pv (.int .i64 group2), .pv (.int .i64 id3), .pv (.int .i64 offset4), .pv (.str data5)] [] = some ([.pv (.slice (List.map GEnv.pv r6)), .pv (.int .i64 r7), .pv (.int .i64 r8)], [])

def F28 (l1 : List GEnv) (group2 : Int) (id3 : Int) : Option ((List GEnv) × Int) :=
  (F32 l1).bind fun (r6, m7) =>
  (F42 l1 group2 id3).bind fun (r11, r12, r13) =>
  (bif !decide (r13 = 0) then
    some (r6, r13)
  else
    (lidx r6 r11).bind fun u17 =>
    (ltO (Int.toNat r11) m7).bind fun _ =>
    (lidx u17.vars_ r12).bind fun u20 =>
    some (List.set r6 (Int.toNat r11) (GEnv.mk u17.id_ u17.next_ (List.set u17.vars_ (Int.toNat r12) (Var.mk u20.id_ u20.name_ [[]]))), 0))

def C_F28 (O : Orc) : Prop := ∀ (l1 : List GEnv) (group2 : Int) (id3 : Int) (r4 : List GEnv) (r5 : Int), F28 l1 group2 id3 = some (r4, r5) → O.C 28 [.pv (.slice (List.map GEnv.pv l1)), .pv (.int .i64 group2), .pv (.int .i64 id3)] [] = some ([.pv (.slice (List.map GEnv.pv r4)), .pv (.int .i64 r5)], [])

def F29 (l1 : List GEnv) (group2 : Int) (id3 : Int) : Option ((List GEnv) × Int) :=
  (F56 l1 group2 id3).bind fun (r6, r7, r8, r9) =>
  (bif !decide (r9 = 0) then
    some (l1, r9)
  else
    (lidx l1 r6).bind fun u13 =>
    (F52 u13 r7 [[]]).bind fun r16 =>
    (F50 l1 r6 r16).bind fun r19 =>
    some (r19, 0))

def C_F29 (O : Orc) : Prop := ∀ (l1 : List GEnv) (group2 : Int) (id3 : Int) (r4 : List GEnv) (r5 : Int), F29 l1 group2 id3 = some (r4, r5) → O.C 29 [.pv (.slice (List.map GEnv.pv l1)), .pv (.int .i64 group2), .pv (.int .i64 id3)] [] = some ([.pv (.slice (List.map GEnv.pv r4)), .pv (.int .i64 r5)], [])

def F30 (l1 : List GEnv) (group2 : Int) (id3 : Int) : Option ((List GEnv) × Int) :=
  (F32 l1).bind fun (r6, m7) =>
  (F58 l1 group2 id3).bind fun (r11, r12, r13) =>
  (bif !decide (r13 = 0) then
    some (r6, r13)
  else
    (bif decide (r12 < 0) then
      some (r6, 11)
    else
      (lidx r6 r11).bind fun u18 =>
      (ltO (Int.toNat r11) m7).bind fun _ =>
      (L_DeleteV u18.vars_ r12 (IntKind.wrap .i64 (r12 + 1))).bind fun (r21, y22) =>
      some (List.set r6 (Int.toNat r11) (GEnv.mk u18.id_ u18.next_ r21), 0)))

def C_F30 (O : Orc) : Prop := ∀ (l1 : List GEnv) (group2 : Int) (id3 : Int) (r4 : List GEnv) (r5 : Int), F30 l1 group2 id3 = some (r4, r5) → O.C 30 [.pv (.slice (List.map GEnv.pv l1)), .pv (.int .i64 group2), .pv (.int .i64 id3)] [] = some ([.pv (.slice (List.map GEnv.pv r4)), .pv (.int .i64 r5)], [])

def F31 (l1 : List GEnv) (group2 : Int) (id3 : Int) : Option ((List GEnv) × Int) :=
  (F55 l1 group2 id3).bind fun (r6, r7, r8) =>
  (bif !r8 then
    some (l1, 8)
  else
    (bif decide (r7 < 0) then
      some (l1, 11)
    else
      (lidx l1 r6).bind fun u13 =>
      (F51 u13 r7).bind fun r16 =>
      (F50 l1 r6 r16).bind fun r19 =>
      some (r19, 0)))

def C_F31 (O : Orc) : Prop := ∀ (l1 : List GEnv) (group2 : Int) (id3 : Int) (r4 : List GEnv) (r5 : Int), F31 l1 group2 id3 = some (r4, r5) → O.C 31 [.pv (.slice (List.map GEnv.pv l1)), .pv (.int .i64 group2), .pv (.int .i64 id3)] [] = some ([.pv (.slice (List.map GEnv.pv r4)), .pv (.int .i64 r5)], [])

def F8 (l1 : List GEnv) (o2 : GOp) : Option ((List GEnv) × Bool) :=
  (bif decide (o2.kind_ = 0) then
    (F14 l1 o2.group_ o2.name_ o2.values_).bind fun (r6, r7) =>
    (F22 l1 o2.group_ o2.name_ o2.values_).bind fun (r10, r11) =>
    (F23 r6 r10).bind fun r14 =>
    some (r6, (r14 && decide (r7 = r11)))
  else
    (bif decide (o2.kind_ = 1) then
      (F13 l1 o2.group_ o2.to_).bind fun (r18, r19) =>
      (F24 l1 o2.group_ o2.to_).bind fun (r22, r23) =>
      (F23 r18 r22).bind fun r26 =>
      some (r18, (r26 && decide (r19 = r23)))
    else
      (bif decide (o2.kind_ = 2) then
        (F25 l1 o2.group_ o2.id_ o2.name_).bind fun (r30, r31, r32) =>
        (F26 l1 o2.group_ o2.id_ o2.name_).bind fun (r35, r36, r37) =>
        (F23 r30 r35).bind fun r40 =>
        some (r30, ((r40 && decide (r31 = r36)) && decide (r32 = r37)))
      else
        (bif decide (o2.kind_ = 3) then
          (F16 l1 o2.group_ o2.id_ o2.offset_ o2.data_).bind fun (r44, r45, r46) =>
          (F27 l1 o2.group_ o2.id_ o2.offset_ o2.data_).bind fun (r49, r50, r51) =>
          (F23 r44 r49).bind fun r54 =>
          some (r44, ((r54 && decide (r45 = r50)) && decide (r46 = r51)))
        else
          (bif decide (o2.kind_ = 4) then
            (F28 l1 o2.group_ o2.id_).bind fun (r58, r59) =>
            (F29 l1 o2.group_ o2.id_).bind fun (r62, r63) =>
            (F23 r58 r62).bind fun r66 =>
            some (r58, (r66 && decide (r59 = r63)))
          else
            (F30 l1 o2.group_ o2.id_).bind fun (r69, r70) =>
            (F31 l1 o2.group_ o2.id_).bind fun (r73, r74) =>
            (F23 r69 r73).bind fun r77 =>
            some (r69, (r77 && decide (r70 = r74))))))))

def C_F8 (O : Orc) : Prop := ∀ (l1 : List GEnv) (o2 : GOp) (r3 : List GEnv) (r4 : Bool), F8 l1 o2 = some (r3, r4) → O.C 8 [.pv (.slice (List.map GEnv.pv l1)), .pv (.agg [.int .i64 o2.kind_, .int .i64 o2.group_, .int .i64 o2.to_, .int .i64 o2.id_, .str o2.name_, .slice (List.map PV.str o2.values_), .int .i64 o2.offset_, .str o2.data_])] [] = some ([.pv (.slice (List.map GEnv.pv r3)), .pv (.bool r4)], [])

def F3 (l1 : List GEnv) (o2 : GOp) : Option Bool :=
  (F4 l1).bind fun r4 =>
  (guardO r4 (F5 o2)).bind fun r7 =>
  (guardO (!(!r4 || !r7)) (F6 l1)).bind fun r10 =>
  (bif ((!r4 || !r7) || !r10) then
    (F7).bind fun r14 =>
    some r14
  else
    (F8 l1 o2).bind fun (r17, r18) =>
    (guardO r18 (F7)).bind fun r21 =>
    some (r18 && r21))

def C_F3 (O : Orc) : Prop := ∀ (l1 : List GEnv) (o2 : GOp) (r3 : Bool), F3 l1 o2 = some r3 → O.C 3 [.pv (.slice (List.map GEnv.pv l1)), .pv (.agg [.int .i64 o2.kind_, .int .i64 o2.group_, .int .i64 o2.to_, .int .i64 o2.id_, .str o2.name_, .slice (List.map PV.str o2.values_), .int .i64 o2.offset_, .str o2.data_])] [] = some ([.pv (.bool r3)], [])

end Go.Abs.U2Z
