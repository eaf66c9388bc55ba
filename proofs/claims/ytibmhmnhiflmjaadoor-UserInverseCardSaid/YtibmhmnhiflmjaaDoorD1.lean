/- The layer 5 laws: what the functions compute. -/
import Derived.Test.YtibmhmnhiflmjaaDoorLB
namespace Go.Abs.U05
open Go.RowKit Go.Proofs

def C_L_WriteString (O : Orc) : Prop := ∀ (b : Str) (s : Str) (n : Int) (c : Str), L_WriteString b s = some (n, c) → O.C 29 [.ref 0 0, .pv (.str s)] [.bld b] = some ([.pv (.int .i64 n), .pv (.nil)], [.bld c])

def C_L_Join (O : Orc) : Prop := ∀ (xs : List Str) (sep : Str) (s : Str), L_Join xs sep = some s → O.C 30 [.pv (.slice (List.map PV.str xs)), .pv (.str sep)] [] = some ([.pv (.str s)], [])

def C_L_String (O : Orc) : Prop := ∀ (b : Str) (s : Str), L_String b = some s → O.C 31 [.ref 0 0] [.bld b] = some ([.pv (.str s)], [.gone])

def C_L_Clone (O : Orc) : Prop := ∀ (xs : List Str) (l : List Str), L_Clone xs = some l → O.C 34 [.pv (.slice (List.map PV.str xs))] [] = some ([.pv (.slice (List.map PV.str l))], [])

def C_L_Contains (O : Orc) : Prop := ∀ (xs : List Str) (s : Str) (ok : Bool), L_Contains xs s = some ok → O.C 36 [.pv (.slice (List.map PV.str xs)), .pv (.str s)] [] = some ([.pv (.bool ok)], [])

def C_L_Cut (O : Orc) : Prop := ∀ (s : Str) (sep : Str) (a : Str) (b : Str) (ok : Bool), L_Cut s sep = some (a, b, ok) → O.C 37 [.pv (.str s), .pv (.str sep)] [] = some ([.pv (.str a), .pv (.str b), .pv (.bool ok)], [])

def C_L_Split (O : Orc) : Prop := ∀ (s : Str) (sep : Str) (l : List Str), L_Split s sep = some l → O.C 45 [.pv (.str s), .pv (.str sep)] [] = some ([.pv (.slice (List.map PV.str l))], [])

def F28 : Option (List User) :=
  some [User.mk [97, 100, 109] [97, 110, 110] [[97, 110, 110], [98, 111, 98]], User.mk [97, 110, 110] [] [], User.mk [98, 111, 98] [] []]

def C_F28 (O : Orc) : Prop := ∀  (r1 : List User), F28 = some r1 → O.C 28 [] [] = some ([.pv (.slice (List.map User.pv r1))], [])

def F11_b1 (name1 : Str) (again5 : Int → Option Bool) : Int → Option Bool := fun i4 =>
  (bif decide (i4 < (name1.length : Int)) then
    (sidx name1 i4).bind fun c9 =>
    (bif (!(decide (97 ≤ c9) && decide (c9 ≤ 122)) && (decide (i4 = 0) || !(((decide (48 ≤ c9) && decide (c9 ≤ 57)) || decide (c9 = 45)) || decide (c9 = 95)))) then
      some false
    else
      again5 (IntKind.wrap .i64 (i4 + 1)))
  else
    some true)

def F11 (name1 : Str) : Option Bool :=
  (bif (decide (name1 = []) || decide (32 < (name1.length : Int))) then
    some false
  else
    iter (F11_b1 name1) BIG 0)

def C_F11 (O : Orc) : Prop := ∀ (name1 : Str) (r2 : Bool), F11 name1 = some r2 → O.C 11 [.pv (.str name1)] [] = some ([.pv (.bool r2)], [])

def F32_b1 (l1 : List Str) (m2 : List (Str × Int)) (again5 : Int → Option Int) : Int → Option Int := fun i4 =>
  (bif decide (i4 < (l1.length : Int)) then
    (lidx l1 i4).bind fun w9 =>
    (bif decide (mget m2 w9 = 0) then
      some 26
    else
      (guardO (decide (0 < i4)) (lidx l1 (IntKind.wrap .i64 (i4 - 1)))).bind fun w14 =>
      (bif (decide (0 < i4) && !Op.bytesLess w14 w9) then
        some 26
      else
        again5 (IntKind.wrap .i64 (i4 + 1))))
  else
    some 0)

def F32 (l1 : List Str) (m2 : List (Str × Int)) : Option Int :=
  iter (F32_b1 l1 m2) BIG 0

def C_F32 (O : Orc) : Prop := ∀ (l1 : List Str) (m2 : List (Str × Int)) (r3 : Int), F32 l1 m2 = some r3 → O.C 32 [.mref 0, .pv (.slice (List.map PV.str l1))] [.map (mp m2)] = some ([.pv (.int .i64 r3)], [.map (mp m2)])

def F16_b2 (l1 : List User) (m5 : List (Str × Int)) (again17 : (Int × (List (Str × Int))) → Option Int) : (Int × (List (Str × Int))) → Option Int := fun (i15, m16) =>
  (bif decide (i15 < (l1.length : Int)) then
    (lidx l1 i15).bind fun u21 =>
    (F11 u21.name_).bind fun r24 =>
    (bif !r24 then
      some 25
    else
      (bif decide (0 < mget m16 u21.name_) then
        some 7
      else
        (bif (!decide (u21.leader_ = []) && decide (mget m5 u21.leader_ = 0)) then
          some 26
        else
          (F32 u21.members_ m5).bind fun r32 =>
          (bif !decide (r32 = 0) then
            some r32
          else
            again17 (IntKind.wrap .i64 (i15 + 1), mput m16 u21.name_ (IntKind.wrap .i64 ((mget m16 u21.name_) + 1)))))))
  else
    some 0)

def F16_b1 (l1 : List User) (again6 : (Int × (List (Str × Int))) → Option Int) : (Int × (List (Str × Int))) → Option Int := fun (i4, m5) =>
  (bif decide (i4 < (l1.length : Int)) then
    (lidx l1 i4).bind fun u10 =>
    again6 (IntKind.wrap .i64 (i4 + 1), mput m5 u10.name_ (IntKind.wrap .i64 ((mget m5 u10.name_) + 1)))
  else
    iter (F16_b2 l1 m5) BIG (0, []))

def F16 (l1 : List User) : Option Int :=
  (bif decide (64 < (l1.length : Int)) then
    some 22
  else
    iter (F16_b1 l1) BIG (0, []))

def C_F16 (O : Orc) : Prop := ∀ (l1 : List User) (r2 : Int), F16 l1 = some r2 → O.C 16 [.pv (.slice (List.map User.pv l1))] [] = some ([.pv (.int .i64 r2)], [])

def F14_b1 (l1 : List User) (again10 : (Int × Str) → Option (Str × Int)) : (Int × Str) → Option (Str × Int) := fun (i8, b9) =>
  (bif decide (i8 < (l1.length : Int)) then
    (lidx l1 i8).bind fun u14 =>
    (catO u14.name_ [58]).bind fun s17 =>
    (catO s17 u14.leader_).bind fun s20 =>
    (catO s20 [58]).bind fun s23 =>
    (L_Join u14.members_ [44]).bind fun s26 =>
    (catO s23 s26).bind fun s29 =>
    (catO s29 [10]).bind fun s32 =>
    (L_WriteString b9 s32).bind fun (n35, c36) =>
    again10 (IntKind.wrap .i64 (i8 + 1), c36)
  else
    (L_String b9).bind fun s40 =>
    some (s40, 0))

def F14 (l1 : List User) : Option (Str × Int) :=
  (F16 l1).bind fun r4 =>
  (bif !decide (r4 = 0) then
    some ([], r4)
  else
    iter (F14_b1 l1) BIG (0, []))

def C_F14 (O : Orc) : Prop := ∀ (l1 : List User) (r2 : Str) (r3 : Int), F14 l1 = some (r2, r3) → O.C 14 [.pv (.slice (List.map User.pv l1))] [] = some ([.pv (.str r2), .pv (.int .i64 r3)], [])

def F38 (s1 : Str) : Option (User × Bool) :=
  (L_Split s1 [58]).bind fun l4 =>
  (bif !decide ((l4.length : Int) = 3) then
    some (User.mk [] [] [], false)
  else
    (lidx l4 0).bind fun w8 =>
    (lidx l4 1).bind fun w11 =>
    (lidx l4 2).bind fun w14 =>
    (bif decide (w14 = []) then
      some (User.mk w8 w11 [], true)
    else
      (L_Split w14 [44]).bind fun l18 =>
      (L_Contains l18 []).bind fun ok21 =>
      some (User.mk w8 w11 l18, !ok21)))

def C_F38 (O : Orc) : Prop := ∀ (s1 : Str) (r2 : User) (r3 : Bool), F38 s1 = some (r2, r3) → O.C 38 [.pv (.str s1)] [] = some ([.pv (.agg [.str r2.name_, .str r2.leader_, .slice (List.map PV.str r2.members_)]), .pv (.bool r3)], [])

def F25_b1 (again8 : (Str × Int × (List User)) → Option ((List User) × Int × Int)) : (Str × Int × (List User)) → Option ((List User) × Int × Int) := fun (s5, n6, l7) =>
  (bif !decide (s5 = []) then
    (L_Cut s5 [10]).bind fun (a12, b13, ok14) =>
    (F38 a12).bind fun (r17, r18) =>
    (bif (!r18 || !ok14) then
      some ([], n6, 2)
    else
      (appO 56 l7 [r17]).bind fun out22 =>
      again8 (b13, IntKind.wrap .i64 (n6 + 1), out22))
  else
    (F16 l7).bind fun r25 =>
    (bif !decide (r25 = 0) then
      some ([], n6, r25)
    else
      some (l7, 0, 0)))

def F25 (s1 : Str) : Option ((List User) × Int × Int) :=
  iter F25_b1 BIG (s1, 0, ([] : List User))

def C_F25 (O : Orc) : Prop := ∀ (s1 : Str) (r2 : List User) (r3 : Int) (r4 : Int), F25 s1 = some (r2, r3, r4) → O.C 25 [.pv (.str s1)] [] = some ([.pv (.slice (List.map User.pv r2)), .pv (.int .i64 r3), .pv (.int .i64 r4)], [])

def F20_b1 (a1 : User) (b2 : User) (again6 : Int → Option Bool) : Int → Option Bool := fun i5 =>
  (bif decide (i5 < (a1.members_.length : Int)) then
    (lidx a1.members_ i5).bind fun w10 =>
    (lidx b2.members_ i5).bind fun w13 =>
    (bif !decide (w10 = w13) then
      some false
    else
      again6 (IntKind.wrap .i64 (i5 + 1)))
  else
    some true)

def F20 (a1 : User) (b2 : User) : Option Bool :=
  (bif ((!decide (a1.name_ = b2.name_) || !decide (a1.leader_ = b2.leader_)) || !decide ((a1.members_.length : Int) = (b2.members_.length : Int))) then
    some false
  else
    iter (F20_b1 a1 b2) BIG 0)

def C_F20 (O : Orc) : Prop := ∀ (a1 : User) (b2 : User) (r3 : Bool), F20 a1 b2 = some r3 → O.C 20 [.pv (.agg [.str a1.name_, .str a1.leader_, .slice (List.map PV.str a1.members_)]), .pv (.agg [.str b2.name_, .str b2.leader_, .slice (List.map PV.str b2.members_)])] [] = some ([.pv (.bool r3)], [])

def F27_b1 (a1 : List User) (b2 : List User) (again6 : Int → Option Bool) : Int → Option Bool := fun i5 =>
  (bif decide (i5 < (a1.length : Int)) then
    (lidx a1 i5).bind fun u10 =>
    (lidx b2 i5).bind fun u13 =>
    (F20 u10 u13).bind fun r16 =>
    (bif !r16 then
      some false
    else
      again6 (IntKind.wrap .i64 (i5 + 1)))
  else
    some true)

def F27 (a1 : List User) (b2 : List User) : Option Bool :=
  (bif !decide ((a1.length : Int) = (b2.length : Int)) then
    some false
  else
    iter (F27_b1 a1 b2) BIG 0)

def C_F27 (O : Orc) : Prop := ∀ (a1 : List User) (b2 : List User) (r3 : Bool), F27 a1 b2 = some r3 → O.C 27 [.pv (.slice (List.map User.pv a1)), .pv (.slice (List.map User.pv b2))] [] = some ([.pv (.bool r3)], [])

def F18_b1 (l1 : List User) (name2 : Str) (again6 : Int → Option (User × Bool)) : Int → Option (User × Bool) := fun i5 =>
  (bif decide (i5 < (l1.length : Int)) then
    (lidx l1 i5).bind fun u10 =>
    (bif decide (u10.name_ = name2) then
      (L_Clone u10.members_).bind fun l14 =>
      some (User.mk u10.name_ u10.leader_ l14, true)
    else
      again6 (IntKind.wrap .i64 (i5 + 1)))
  else
    some (User.mk [] [] [], false))

def F18 (l1 : List User) (name2 : Str) : Option (User × Bool) :=
  iter (F18_b1 l1 name2) BIG 0

def C_F18 (O : Orc) : Prop := ∀ (l1 : List User) (name2 : Str) (r3 : User) (r4 : Bool), F18 l1 name2 = some (r3, r4) → O.C 18 [.pv (.slice (List.map User.pv l1)), .pv (.str name2)] [] = some ([.pv (.agg [.str r3.name_, .str r3.leader_, .slice (List.map PV.str r3.members_)]), .pv (.bool r4)], [])

def F21 (l1 : List User) (user2 : Str) (group3 : Str) : Option Bool :=
  (bif decide (user2 = group3) then
    some true
  else
    (F18 l1 group3).bind fun (r6, r7) =>
    (guardO r7 (L_Contains r6.members_ user2)).bind fun ok10 =>
    some (r7 && ok10))

def C_F21 (O : Orc) : Prop := ∀ (l1 : List User) (user2 : Str) (group3 : Str) (r4 : Bool), F21 l1 user2 group3 = some r4 → O.C 21 [.pv (.slice (List.map User.pv l1)), .pv (.str user2), .pv (.str group3)] [] = some ([.pv (.bool r4)], [])

def F23 (l1 : List User) (user2 : Str) (group3 : Str) : Option Bool :=
  (F18 l1 group3).bind fun (r5, r6) =>
  (bif (r6 && !decide (r5.leader_ = [])) then
    some (decide (r5.leader_ = user2))
  else
    (F21 l1 user2 group3).bind fun r10 =>
    some r10)

def C_F23 (O : Orc) : Prop := ∀ (l1 : List User) (user2 : Str) (group3 : Str) (r4 : Bool), F23 l1 user2 group3 = some r4 → O.C 23 [.pv (.slice (List.map User.pv l1)), .pv (.str user2), .pv (.str group3)] [] = some ([.pv (.bool r4)], [])

def F10 : Option Bool :=
  (F28).bind fun r2 =>
  (F14 r2).bind fun (r5, r6) =>
  (F25 [97, 100, 109, 58, 97, 110, 110, 58, 97, 110, 110, 44, 98, 111, 98, 10, 97, 110, 110, 58, 58, 10, 98, 111, 98, 58, 58, 10]).bind fun (r9, r10, r11) =>
  (F25 [97, 100, 109, 58, 58, 10, 97, 110, 110, 58, 10]).bind fun (r14, r15, r16) =>
  (guardO (!(!decide (r5 = [97, 100, 109, 58, 97, 110, 110, 58, 97, 110, 110, 44, 98, 111, 98, 10, 97, 110, 110, 58, 58, 10, 98, 111, 98, 58, 58, 10]) || !decide (r6 = 0))) (F27 r9 r2)).bind fun r19 =>
  (bif (((((!decide (r5 = [97, 100, 109, 58, 97, 110, 110, 58, 97, 110, 110, 44, 98, 111, 98, 10, 97, 110, 110, 58, 58, 10, 98, 111, 98, 58, 58, 10]) || !decide (r6 = 0)) || !r19) || !decide (r11 = 0)) || !decide (r15 = 1)) || !decide (r16 = 2)) then
    some false
  else
    (F18 r2 [97, 110, 110]).bind fun (r23, r24) =>
    (guardO (r24 && decide (r23.name_ = [97, 110, 110])) (F11 [97, 110, 110, 45, 50])).bind fun r27 =>
    (guardO ((r24 && decide (r23.name_ = [97, 110, 110])) && r27) (F11 [50, 97, 110, 110])).bind fun r30 =>
    (guardO (((r24 && decide (r23.name_ = [97, 110, 110])) && r27) && !r30) (F16 [User.mk [97, 100, 109] [97, 110, 110] []])).bind fun r33 =>
    (guardO ((((r24 && decide (r23.name_ = [97, 110, 110])) && r27) && !r30) && decide (r33 = 26)) (F21 r2 [98, 111, 98] [97, 100, 109])).bind fun r36 =>
    (guardO (((((r24 && decide (r23.name_ = [97, 110, 110])) && r27) && !r30) && decide (r33 = 26)) && r36) (F23 r2 [97, 110, 110] [97, 100, 109])).bind fun r39 =>
    (guardO ((((((r24 && decide (r23.name_ = [97, 110, 110])) && r27) && !r30) && decide (r33 = 26)) && r36) && r39) (F23 r2 [98, 111, 98] [97, 100, 109])).bind fun r42 =>
    some (((((((r24 && decide (r23.name_ = [97, 110, 110])) && r27) && !r30) && decide (r33 = 26)) && r36) && r39) && !r42))

def C_F10 (O : Orc) : Prop := ∀  (r1 : Bool), F10 = some r1 → O.C 10 [] [] = some ([.pv (.bool r1)], [])

def F12_b1 (name1 : Str) (again5 : Int → Option Bool) : Int → Option Bool := fun i4 =>
  (bif decide (i4 < (name1.length : Int)) then
    (sidx name1 i4).bind fun c9 =>
    (bif (!(decide (97 ≤ c9) && decide (c9 ≤ 122)) && (decide (i4 = 0) || ((!(decide (48 ≤ c9) && decide (c9 ≤ 57)) && !decide (c9 = 45)) && !decide (c9 = 95)))) then
      some false
    else
      again5 (IntKind.wrap .i64 (i4 + 1)))
  else
    some true)

def F12 (name1 : Str) : Option Bool :=
  (bif (decide ((name1.length : Int) < 1) || decide (32 < (name1.length : Int))) then
    some false
  else
    iter (F12_b1 name1) BIG 0)

def C_F12 (O : Orc) : Prop := ∀ (name1 : Str) (r2 : Bool), F12 name1 = some r2 → O.C 12 [.pv (.str name1)] [] = some ([.pv (.bool r2)], [])

def F3 (name1 : Str) : Option Bool :=
  (bif decide (2000 < (name1.length : Int)) then
    (F10).bind fun r4 =>
    some r4
  else
    (F11 name1).bind fun r7 =>
    (F12 name1).bind fun r10 =>
    (guardO (r7 == r10) (F10)).bind fun r13 =>
    some ((r7 == r10) && r13))

def C_F3 (O : Orc) : Prop := ∀ (name1 : Str) (r2 : Bool), F3 name1 = some r2 → O.C 3 [.pv (.str name1)] [] = some ([.pv (.bool r2)], [])

def F13_b3 (u9 : User) (again5 : (Int) → Option Bool) (i4 : Int) (again14 : Int → Option Bool) : Int → Option Bool := fun i13 =>
  (bif decide (i13 < (u9.members_.length : Int)) then
    (lidx u9.members_ i13).bind fun w18 =>
    (bif decide (200 < (w18.length : Int)) then
      some false
    else
      again14 (IntKind.wrap .i64 (i13 + 1)))
  else
    again5 (IntKind.wrap .i64 (i4 + 1)))

def F13_b2 (l1 : List User) (again5 : Int → Option Bool) : Int → Option Bool := fun i4 =>
  (bif decide (i4 < (l1.length : Int)) then
    (lidx l1 i4).bind fun u9 =>
    (bif ((decide (30 < (u9.members_.length : Int)) || decide (200 < (u9.name_.length : Int))) || decide (200 < (u9.leader_.length : Int))) then
      some false
    else
      iter (F13_b3 u9 again5 i4) BIG 0)
  else
    some true)

def F13 (l1 : List User) : Option Bool :=
  (bif decide (70 < (l1.length : Int)) then
    some false
  else
    iter (F13_b2 l1) BIG 0)

def C_F13 (O : Orc) : Prop := ∀ (l1 : List User) (r2 : Bool), F13 l1 = some r2 → O.C 13 [.pv (.slice (List.map User.pv l1))] [] = some ([.pv (.bool r2)], [])

def F35_b1 (l1 : List User) (name2 : Str) (again5 : Int → Option Int) : Int → Option Int := fun i4 =>
  (bif decide (i4 < (l1.length : Int)) then
    (lidx l1 i4).bind fun u9 =>
    (bif decide (u9.name_ = name2) then
      some i4
    else
      again5 (IntKind.wrap .i64 (i4 + 1)))
  else
    some (-1))

def F35 (l1 : List User) (name2 : Str) : Option Int :=
  iter (F35_b1 l1 name2) BIG 0

def C_F35 (O : Orc) : Prop := ∀ (l1 : List User) (name2 : Str) (r3 : Int), F35 l1 name2 = some r3 → O.C 35 [.pv (.slice (List.map User.pv l1)), .pv (.str name2)] [] = some ([.pv (.int .i64 r3)], [])

def F33_b1 (u4 : User) (l1 : List User) (again20 : Int → Option Int) : Int → Option Int := fun i19 =>
  (bif decide (i19 < (u4.members_.length : Int)) then
    (lidx u4.members_ i19).bind fun w24 =>
    (F35 l1 w24).bind fun r27 =>
    (guardO (!(decide (r27 < 0)) && decide (0 < i19)) (lidx u4.members_ (IntKind.wrap .i64 (i19 - 1)))).bind fun w30 =>
    (bif (decide (r27 < 0) || (decide (0 < i19) && !Op.bytesLess w30 w24)) then
      some 26
    else
      again20 (IntKind.wrap .i64 (i19 + 1)))
  else
    some 0)

def F33 (l1 : List User) (i2 : Int) : Option Int :=
  (lidx l1 i2).bind fun u4 =>
  (F12 u4.name_).bind fun r7 =>
  (bif !r7 then
    some 25
  else
    (F35 l1 u4.name_).bind fun r11 =>
    (bif decide (r11 < i2) then
      some 7
    else
      (guardO (!decide (u4.leader_ = [])) (F35 l1 u4.leader_)).bind fun r15 =>
      (bif (!decide (u4.leader_ = []) && decide (r15 < 0)) then
        some 26
      else
        iter (F33_b1 u4 l1) BIG 0)))

def C_F33 (O : Orc) : Prop := ∀ (l1 : List User) (i2 : Int) (r3 : Int), F33 l1 i2 = some r3 → O.C 33 [.pv (.slice (List.map User.pv l1)), .pv (.int .i64 i2)] [] = some ([.pv (.int .i64 r3)], [])

def F17_b1 (l1 : List User) (again5 : Int → Option Int) : Int → Option Int := fun i4 =>
  (bif decide (i4 < (l1.length : Int)) then
    (F33 l1 i4).bind fun r9 =>
    (bif !decide (r9 = 0) then
      some r9
    else
      again5 (IntKind.wrap .i64 (i4 + 1)))
  else
    some 0)

def F17 (l1 : List User) : Option Int :=
  (bif decide (64 < (l1.length : Int)) then
    some 22
  else
    iter (F17_b1 l1) BIG 0)

def C_F17 (O : Orc) : Prop := ∀ (l1 : List User) (r2 : Int), F17 l1 = some r2 → O.C 17 [.pv (.slice (List.map User.pv l1))] [] = some ([.pv (.int .i64 r2)], [])

def F15_j7 (u14 : User) (i30 : Int) (again31 : (Str × Int) → Option (Str × Int)) : Str → Option (Str × Int) := fun s35 =>
  (lidx u14.members_ i30).bind fun w36 =>
  (catO s35 w36).bind fun s39 =>
  again31 (s39, IntKind.wrap .i64 (i30 + 1))

def F15_b6 (u14 : User) (again10 : (Str × Int) → Option (Str × Int)) (i9 : Int) (again31 : (Str × Int) → Option (Str × Int)) : (Str × Int) → Option (Str × Int) := fun (s29, i30) =>
  (bif decide (i30 < (u14.members_.length : Int)) then
    (bif decide (0 < i30) then
      (catO s29 [44]).bind fun s43 =>
      F15_j7 u14 i30 again31 s43
    else
      F15_j7 u14 i30 again31 s29)
  else
    (catO s29 [10]).bind fun s46 =>
    again10 (s46, IntKind.wrap .i64 (i9 + 1)))

def F15_b4 (l1 : List User) (again10 : (Str × Int) → Option (Str × Int)) : (Str × Int) → Option (Str × Int) := fun (s8, i9) =>
  (bif decide (i9 < (l1.length : Int)) then
    (lidx l1 i9).bind fun u14 =>
    (catO s8 u14.name_).bind fun s17 =>
    (catO s17 [58]).bind fun s20 =>
    (catO s20 u14.leader_).bind fun s23 =>
    (catO s23 [58]).bind fun s26 =>
    iter (F15_b6 u14 again10 i9) BIG (s26, 0)
  else
    some (s8, 0))

def F15 (l1 : List User) : Option (Str × Int) :=
  (F17 l1).bind fun r4 =>
  (bif !decide (r4 = 0) then
    some ([], r4)
  else
    iter (F15_b4 l1) BIG ([], 0))

def C_F15 (O : Orc) : Prop := ∀ (l1 : List User) (r2 : Str) (r3 : Int), F15 l1 = some (r2, r3) → O.C 15 [.pv (.slice (List.map User.pv l1))] [] = some ([.pv (.str r2), .pv (.int .i64 r3)], [])

def F4 (l1 : List User) : Option Bool :=
  (F13 l1).bind fun r3 =>
  (bif !r3 then
    (F10).bind fun r7 =>
    some r7
  else
    (F14 l1).bind fun (r10, r11) =>
    (F15 l1).bind fun (r14, r15) =>
    (F16 l1).bind fun r18 =>
    (F17 l1).bind fun r21 =>
    (guardO ((decide (r18 = r21) && decide (r10 = r14)) && decide (r11 = r15)) (F10)).bind fun r24 =>
    some (((decide (r18 = r21) && decide (r10 = r14)) && decide (r11 = r15)) && r24))

def C_F4 (O : Orc) : Prop := ∀ (l1 : List User) (r2 : Bool), F4 l1 = some r2 → O.C 4 [.pv (.slice (List.map User.pv l1))] [] = some ([.pv (.bool r2)], [])

def F19 (l1 : List User) (name2 : Str) : Option (User × Bool) :=
  (F35 l1 name2).bind fun r5 =>
  (bif decide (r5 < 0) then
    some (User.mk [] [] [], false)
  else
    (lidx l1 r5).bind fun u9 =>
    some (u9, true))

def C_F19 (O : Orc) : Prop := ∀ (l1 : List User) (name2 : Str) (r3 : User) (r4 : Bool), F19 l1 name2 = some (r3, r4) → O.C 19 [.pv (.slice (List.map User.pv l1)), .pv (.str name2)] [] = some ([.pv (.agg [.str r3.name_, .str r3.leader_, .slice (List.map PV.str r3.members_)]), .pv (.bool r4)], [])

def F22_b1 (r6 : User) (user2 : Str) (again11 : Int → Option Bool) : Int → Option Bool := fun i10 =>
  (bif decide (i10 < (r6.members_.length : Int)) then
    (lidx r6.members_ i10).bind fun w15 =>
    (bif decide (w15 = user2) then
      some true
    else
      again11 (IntKind.wrap .i64 (i10 + 1)))
  else
    some false)

def F22 (l1 : List User) (user2 : Str) (group3 : Str) : Option Bool :=
  (bif decide (user2 = group3) then
    some true
  else
    (F19 l1 group3).bind fun (r6, r7) =>
    iter (F22_b1 r6 user2) BIG 0)

def C_F22 (O : Orc) : Prop := ∀ (l1 : List User) (user2 : Str) (group3 : Str) (r4 : Bool), F22 l1 user2 group3 = some r4 → O.C 22 [.pv (.slice (List.map User.pv l1)), .pv (.str user2), .pv (.str group3)] [] = some ([.pv (.bool r4)], [])

def F24 (l1 : List User) (user2 : Str) (group3 : Str) : Option Bool :=
  (F19 l1 group3).bind fun (r5, r6) =>
  (bif !decide (r5.leader_ = []) then
    some (decide (r5.leader_ = user2))
  else
    (F22 l1 user2 group3).bind fun r10 =>
    some r10)

def C_F24 (O : Orc) : Prop := ∀ (l1 : List User) (user2 : Str) (group3 : Str) (r4 : Bool), F24 l1 user2 group3 = some r4 → O.C 24 [.pv (.slice (List.map User.pv l1)), .pv (.str user2), .pv (.str group3)] [] = some ([.pv (.bool r4)], [])

def F5 (l1 : List User) (name2 : Str) (group3 : Str) : Option Bool :=
  (F13 l1).bind fun r5 =>
  (bif ((!r5 || decide (2000 < (name2.length : Int))) || decide (2000 < (group3.length : Int))) then
    (F10).bind fun r9 =>
    some r9
  else
    (F18 l1 name2).bind fun (r12, r13) =>
    (F19 l1 name2).bind fun (r16, r17) =>
    (F20 r12 r16).bind fun r20 =>
    (guardO (r20 && (r13 == r17)) (F21 l1 name2 group3)).bind fun r23 =>
    (guardO (r20 && (r13 == r17)) (F22 l1 name2 group3)).bind fun r26 =>
    (guardO ((r20 && (r13 == r17)) && (r23 == r26)) (F23 l1 name2 group3)).bind fun r29 =>
    (guardO ((r20 && (r13 == r17)) && (r23 == r26)) (F24 l1 name2 group3)).bind fun r32 =>
    (guardO (((r20 && (r13 == r17)) && (r23 == r26)) && (r29 == r32)) (F21 l1 name2 name2)).bind fun r35 =>
    (guardO ((((r20 && (r13 == r17)) && (r23 == r26)) && (r29 == r32)) && r35) (F10)).bind fun r38 =>
    some (((((r20 && (r13 == r17)) && (r23 == r26)) && (r29 == r32)) && r35) && r38))

def C_F5 (O : Orc) : Prop := ∀ (l1 : List User) (name2 : Str) (group3 : Str) (r4 : Bool), F5 l1 name2 group3 = some r4 → O.C 5 [.pv (.slice (List.map User.pv l1)), .pv (.str name2), .pv (.str group3)] [] = some ([.pv (.bool r4)], [])

def F39_b1 (s1 : Str) (separator2 : Int) (again7 : (Int × Int × (List Str)) → Option (List Str)) : (Int × Int × (List Str)) → Option (List Str) := fun (from4, i5, l6) =>
  (bif decide (i5 ≤ (s1.length : Int)) then
    (guardO (!(decide (i5 = (s1.length : Int)))) (sidx s1 i5)).bind fun c11 =>
    (bif (decide (i5 = (s1.length : Int)) || decide (c11 = separator2)) then
      (sslice s1 from4 i5).bind fun t15 =>
      (appO 16 l6 [t15]).bind fun out18 =>
      again7 (IntKind.wrap .i64 (i5 + 1), IntKind.wrap .i64 (i5 + 1), out18)
    else
      again7 (from4, IntKind.wrap .i64 (i5 + 1), l6))
  else
    some l6)

def F39 (s1 : Str) (separator2 : Int) : Option (List Str) :=
  iter (F39_b1 s1 separator2) BIG (0, 0, ([] : List Str))

def C_F39 (O : Orc) : Prop := ∀ (s1 : Str) (separator2 : Int) (r3 : List Str), F39 s1 separator2 = some r3 → O.C 39 [.pv (.str s1), .pv (.int .u8 separator2)] [] = some ([.pv (.slice (List.map PV.str r3))], [])

def F40_b1 (r18 : List Str) (w8 : Str) (w11 : Str) (again22 : Int → Option (User × Bool)) : Int → Option (User × Bool) := fun i21 =>
  (bif decide (i21 < (r18.length : Int)) then
    (lidx r18 i21).bind fun w26 =>
    (bif decide (w26 = []) then
      some (User.mk [] [] [], false)
    else
      again22 (IntKind.wrap .i64 (i21 + 1)))
  else
    some (User.mk w8 w11 r18, true))

def F40 (s1 : Str) : Option (User × Bool) :=
  (F39 s1 58).bind fun r4 =>
  (bif !decide ((r4.length : Int) = 3) then
    some (User.mk [] [] [], false)
  else
    (lidx r4 0).bind fun w8 =>
    (lidx r4 1).bind fun w11 =>
    (lidx r4 2).bind fun w14 =>
    (bif decide (w14 = []) then
      some (User.mk w8 w11 [], true)
    else
      (F39 w14 44).bind fun r18 =>
      iter (F40_b1 r18 w8 w11) BIG 0))

def C_F40 (O : Orc) : Prop := ∀ (s1 : Str) (r2 : User) (r3 : Bool), F40 s1 = some (r2, r3) → O.C 40 [.pv (.str s1)] [] = some ([.pv (.agg [.str r2.name_, .str r2.leader_, .slice (List.map PV.str r2.members_)]), .pv (.bool r3)], [])

def F26_b1 (r5 : List Str) (again10 : (Int × (List User)) → Option ((List User) × Int × Int)) : (Int × (List User)) → Option ((List User) × Int × Int) := fun (i8, l9) =>
  (bif decide (i8 < IntKind.wrap .i64 ((r5.length : Int) - 1)) then
    (lidx r5 i8).bind fun w14 =>
    (F40 w14).bind fun (r17, r18) =>
    (bif !r18 then
      some ([], i8, 2)
    else
      (appO 56 l9 [r17]).bind fun out22 =>
      again10 (IntKind.wrap .i64 (i8 + 1), out22))
  else
    (lidx r5 (IntKind.wrap .i64 ((r5.length : Int) - 1))).bind fun w25 =>
    (bif !decide (w25 = []) then
      some ([], IntKind.wrap .i64 ((r5.length : Int) - 1), 2)
    else
      (F17 l9).bind fun r29 =>
      (bif !decide (r29 = 0) then
        some ([], IntKind.wrap .i64 ((r5.length : Int) - 1), r29)
      else
        some (l9, 0, 0))))

def F26 (s1 : Str) : Option ((List User) × Int × Int) :=
  (F39 s1 10).bind fun r5 =>
  iter (F26_b1 r5) BIG (0, ([] : List User))

def C_F26 (O : Orc) : Prop := ∀ (s1 : Str) (r2 : List User) (r3 : Int) (r4 : Int), F26 s1 = some (r2, r3, r4) → O.C 26 [.pv (.str s1)] [] = some ([.pv (.slice (List.map User.pv r2)), .pv (.int .i64 r3), .pv (.int .i64 r4)], [])

def F6 (s1 : Str) : Option Bool :=
  (bif decide (3000 < (s1.length : Int)) then
    (F10).bind fun r4 =>
    some r4
  else
    (F25 s1).bind fun (r7, r8, r9) =>
    (F26 s1).bind fun (r12, r13, r14) =>
    (F27 r7 r12).bind fun r17 =>
    (guardO ((r17 && decide (r8 = r13)) && decide (r9 = r14)) (F10)).bind fun r20 =>
    some (((r17 && decide (r8 = r13)) && decide (r9 = r14)) && r20))

def C_F6 (O : Orc) : Prop := ∀ (s1 : Str) (r2 : Bool), F6 s1 = some r2 → O.C 6 [.pv (.str s1)] [] = some ([.pv (.bool r2)], [])

def F7 (l1 : List User) : Option Bool :=
  (F13 l1).bind fun r3 =>
  (bif !r3 then
    (F10).bind fun r7 =>
    some r7
  else
    (F14 l1).bind fun (r10, r11) =>
    (bif !decide (r11 = 0) then
      (guardO (decide (r10 = [])) (F16 l1)).bind fun r15 =>
      (guardO (decide (r10 = []) && decide (r11 = r15)) (F10)).bind fun r18 =>
      some ((decide (r10 = []) && decide (r11 = r15)) && r18)
    else
      (F25 r10).bind fun (r21, r22, r23) =>
      (F27 l1 r21).bind fun r26 =>
      (guardO ((r26 && decide (r22 = 0)) && decide (r23 = 0)) (F10)).bind fun r29 =>
      some (((r26 && decide (r22 = 0)) && decide (r23 = 0)) && r29)))

def C_F7 (O : Orc) : Prop := ∀ (l1 : List User) (r2 : Bool), F7 l1 = some r2 → O.C 7 [.pv (.slice (List.map User.pv l1))] [] = some ([.pv (.bool r2)], [])

def F8 (s1 : Str) : Option Bool :=
  (bif decide (3000 < (s1.length : Int)) then
    (F10).bind fun r4 =>
    some r4
  else
    (F25 s1).bind fun (r7, r8, r9) =>
    (bif !decide (r9 = 0) then
      (guardO (decide ((r7.length : Int) = 0)) (F10)).bind fun r13 =>
      some (decide ((r7.length : Int) = 0) && r13)
    else
      (F14 r7).bind fun (r16, r17) =>
      (F16 r7).bind fun r20 =>
      (guardO ((decide (r20 = 0) && decide (r16 = s1)) && decide (r17 = 0)) (F10)).bind fun r23 =>
      some (((decide (r20 = 0) && decide (r16 = s1)) && decide (r17 = 0)) && r23)))

def C_F8 (O : Orc) : Prop := ∀ (s1 : Str) (r2 : Bool), F8 s1 = some r2 → O.C 8 [.pv (.str s1)] [] = some ([.pv (.bool r2)], [])

def F9 (l1 : List User) (k2 : Int) (name3 : Str) : Option Bool :=
  (F13 l1).bind fun r5 =>
  (guardO (!(((!r5 || decide (2000 < (name3.length : Int))) || decide (k2 < 0)) || decide ((l1.length : Int) ≤ k2))) (F16 l1)).bind fun r8 =>
  (bif ((((!r5 || decide (2000 < (name3.length : Int))) || decide (k2 < 0)) || decide ((l1.length : Int) ≤ k2)) || !decide (r8 = 0)) then
    (F10).bind fun r12 =>
    some r12
  else
    (lidx l1 k2).bind fun u15 =>
    (F23 l1 name3 u15.name_).bind fun r18 =>
    (bif !decide (u15.leader_ = []) then
      (guardO (r18 == (decide (name3 = u15.leader_))) (F10)).bind fun r22 =>
      some ((r18 == (decide (name3 = u15.leader_))) && r22)
    else
      (F21 l1 name3 u15.name_).bind fun r25 =>
      (guardO (r18 == r25) (F10)).bind fun r28 =>
      some ((r18 == r25) && r28)))

def C_F9 (O : Orc) : Prop := ∀ (l1 : List User) (k2 : Int) (name3 : Str) (r4 : Bool), F9 l1 k2 name3 = some r4 → O.C 9 [.pv (.slice (List.map User.pv l1)), .pv (.int .i64 k2), .pv (.str name3)] [] = some ([.pv (.bool r4)], [])

end Go.Abs.U05
