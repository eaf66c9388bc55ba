/- The layer 45 laws: what the functions compute. -/
import Derived.Test.YtddhgkeiiobfeaaDoorLB
set_option linter.unusedVariables false
namespace Go.Abs.U45
open Go.RowKit Go.Proofs

def C_L_WriteString (O : Orc) : Prop := ∀ (b : Str) (s : Str) (n : Int) (c : Str), L_WriteString b s = some (n, c) → O.C 26 [.ref 0 0, .pv (.str s)] [.bld b] = some ([.pv (.int .i64 n), .pv (.nil)], [.bld c])

def C_L_String (O : Orc) : Prop := ∀ (b : Str) (s : Str), L_String b = some s → O.C 27 [.ref 0 0] [.bld b] = some ([.pv (.str s)], [.gone])

def C_L_Split (O : Orc) : Prop := ∀ (s : Str) (sep : Str) (l : List Str), L_Split s sep = some l → O.C 28 [.pv (.str s), .pv (.str sep)] [] = some ([.pv (.slice (List.map PV.str l))], [])

def C_L_IndexByte (O : Orc) : Prop := ∀ (s : Str) (c : Int) (n : Int), L_IndexByte s c = some n → O.C 31 [.pv (.str s), .pv (.int .u8 c)] [] = some ([.pv (.int .i64 n)], [])

def C_L_Join (O : Orc) : Prop := ∀ (xs : List Str) (sep : Str) (s : Str), L_Join xs sep = some s → O.C 38 [.pv (.slice (List.map PV.str xs)), .pv (.str sep)] [] = some ([.pv (.str s)], [])

def C_L_ReplaceAll (O : Orc) : Prop := ∀ (s : Str) (a : Str) (b : Str) (t : Str), L_ReplaceAll s a b = some t → O.C 49 [.pv (.str s), .pv (.str a), .pv (.str b)] [] = some ([.pv (.str t)], [])

def F8 (op1 : NsOp) : Option Bool :=
  some (decide ((op1.new_.length : Int) ≤ 1100) && decide ((op1.old_.length : Int) ≤ 1100))

def C_F8 (O : Orc) : Prop := ∀ (op1 : NsOp) (r2 : Bool), F8 op1 = some r2 → O.C 8 [.pv (.agg [.int .i64 op1.kind_, .int .i64 op1.flag_, .str op1.new_, .str op1.old_])] [] = some ([.pv (.bool r2)], [])

def F33 (n1 : Int) : Option Bool :=
  some (decide (0 ≤ n1) && decide (bits .andNot .i64 n1 4 ≤ 2))

def C_F33 (O : Orc) : Prop := ∀ (n1 : Int) (r2 : Bool), F33 n1 = some r2 → O.C 33 [.pv (.int .i64 n1)] [] = some ([.pv (.bool r2)], [])

def F34 (s1 : Str) : Option Bool :=
  (guardO (!decide (s1 = []) && decide ((s1.length : Int) ≤ 1024)) (L_IndexByte s1 0)).bind fun n3 =>
  (guardO ((!decide (s1 = []) && decide ((s1.length : Int) ≤ 1024)) && decide (n3 < 0)) (L_IndexByte s1 10)).bind fun n6 =>
  some (((!decide (s1 = []) && decide ((s1.length : Int) ≤ 1024)) && decide (n3 < 0)) && decide (n6 < 0))

def C_F34 (O : Orc) : Prop := ∀ (s1 : Str) (r2 : Bool), F34 s1 = some r2 → O.C 34 [.pv (.str s1)] [] = some ([.pv (.bool r2)], [])

def F22 (op1 : NsOp) : Option Bool :=
  (bif (bif decide (op1.kind_ = 1) then decide (op1.kind_ = 1) else decide (op1.kind_ = 2)) then
    (F33 op1.flag_).bind fun r5 =>
    (guardO r5 (F34 op1.new_)).bind fun r8 =>
    (guardO (r5 && r8) (F34 op1.old_)).bind fun r11 =>
    some ((r5 && r8) && r11)
  else
    (bif decide (op1.kind_ = 3) then
      (guardO (decide (op1.flag_ = 0) && !(decide (op1.new_ = []))) (F34 op1.new_)).bind fun r15 =>
      (guardO (decide (op1.flag_ = 0) && (decide (op1.new_ = []) || r15)) (F34 op1.old_)).bind fun r18 =>
      some ((decide (op1.flag_ = 0) && (decide (op1.new_ = []) || r15)) && r18)
    else
      (bif decide (op1.kind_ = 4) then
        some ((decide (op1.flag_ = 0) && decide (op1.new_ = [])) && decide (op1.old_ = []))
      else
        (bif decide (op1.kind_ = 5) then
          (guardO (decide (op1.flag_ = 0)) (F34 op1.new_)).bind fun r23 =>
          some ((decide (op1.flag_ = 0) && r23) && decide (op1.old_ = []))
        else
          some false))))

def C_F22 (O : Orc) : Prop := ∀ (op1 : NsOp) (r2 : Bool), F22 op1 = some r2 → O.C 22 [.pv (.agg [.int .i64 op1.kind_, .int .i64 op1.flag_, .str op1.new_, .str op1.old_])] [] = some ([.pv (.bool r2)], [])

def F35 (kind1 : Int) : Option Str :=
  (bif decide (kind1 = 1) then
    some [98, 105, 110, 100]
  else
    (bif decide (kind1 = 2) then
      some [109, 111, 117, 110, 116]
    else
      (bif decide (kind1 = 3) then
        some [117, 110, 109, 111, 117, 110, 116]
      else
        (bif decide (kind1 = 4) then
          some [99, 108, 101, 97, 114]
        else
          some [99, 100]))))

def C_F35 (O : Orc) : Prop := ∀ (kind1 : Int) (r2 : Str), F35 kind1 = some r2 → O.C 35 [.pv (.int .i64 kind1)] [] = some ([.pv (.str r2)], [])

def F36_j1 : Str → Option Str := fun s5 =>
  (bif decide (s5 = []) then
    some []
  else
    (catO [45] s5).bind fun s7 =>
    some s7)

def F36 (n1 : Int) : Option Str :=
  (bif !decide (bits .and .i64 n1 4 = 0) then
    (catO (bif decide (bits .andNot .i64 n1 4 = 1) then [98] else (bif decide (bits .andNot .i64 n1 4 = 2) then [97] else [])) [99]).bind fun s11 =>
    F36_j1 s11
  else
    F36_j1 (bif decide (bits .andNot .i64 n1 4 = 1) then [98] else (bif decide (bits .andNot .i64 n1 4 = 2) then [97] else [])))

def C_F36 (O : Orc) : Prop := ∀ (n1 : Int) (r2 : Str), F36 n1 = some r2 → O.C 36 [.pv (.int .i64 n1)] [] = some ([.pv (.str r2)], [])

def F37_b1 (s1 : Str) (again8 : (Bool × Int) → Option Str) : (Bool × Int) → Option Str := fun (plain6, i7) =>
  (bif decide (i7 < (s1.length : Int)) then
    (guardO plain6 (sidx s1 i7)).bind fun c12 =>
    again8 ((((plain6 && !decide (c12 = 32)) && !decide (c12 = 9)) && !decide (c12 = 39)), IntKind.wrap .i64 (i7 + 1))
  else
    (bif plain6 then
      some s1
    else
      (L_ReplaceAll s1 [39] [39, 39]).bind fun t16 =>
      (catO [39] t16).bind fun s19 =>
      (catO s19 [39]).bind fun s22 =>
      some s22))

def F37 (s1 : Str) : Option Str :=
  (guardO (!decide (s1 = [])) (sidx s1 0)).bind fun c3 =>
  iter (F37_b1 s1) BIG (((!decide (s1 = []) && !decide (c3 = 45)) && !decide (c3 = 35)), 0)

def C_F37 (O : Orc) : Prop := ∀ (s1 : Str) (r2 : Str), F37 s1 = some r2 → O.C 37 [.pv (.str s1)] [] = some ([.pv (.str r2)], [])

def F23_j1 (op1 : NsOp) : (List Str) → Option Str := fun l28 =>
  (F37 op1.old_).bind fun r29 =>
  (appO 16 l28 [r29]).bind fun out32 =>
  (L_Join out32 [32]).bind fun s35 =>
  some s35

def F23 (op1 : NsOp) : Option Str :=
  (F35 op1.kind_).bind fun r3 =>
  (F36 op1.flag_).bind fun r6 =>
  (bif !decide (r6 = []) then
    (appO 16 [r3] [r6]).bind fun out10 =>
    (bif (bif decide (op1.kind_ = 1) then decide (op1.kind_ = 1) else decide (op1.kind_ = 2)) then
      (F37 op1.new_).bind fun r15 =>
      (F37 op1.old_).bind fun r18 =>
      (appO 16 out10 [r15, r18]).bind fun out21 =>
      (L_Join out21 [32]).bind fun s24 =>
      some s24
    else
      (bif decide (op1.kind_ = 3) then
        (bif !decide (op1.new_ = []) then
          (F37 op1.new_).bind fun r39 =>
          (appO 16 out10 [r39]).bind fun out42 =>
          F23_j1 op1 out42
        else
          F23_j1 op1 out10)
      else
        (bif decide (op1.kind_ = 5) then
          (F37 op1.new_).bind fun r46 =>
          (appO 16 out10 [r46]).bind fun out49 =>
          (L_Join out49 [32]).bind fun s52 =>
          some s52
        else
          (L_Join out10 [32]).bind fun s55 =>
          some s55)))
  else
    (bif (bif decide (op1.kind_ = 1) then decide (op1.kind_ = 1) else decide (op1.kind_ = 2)) then
      (F37 op1.new_).bind fun r60 =>
      (F37 op1.old_).bind fun r63 =>
      (appO 16 [r3] [r60, r63]).bind fun out66 =>
      (L_Join out66 [32]).bind fun s69 =>
      some s69
    else
      (bif decide (op1.kind_ = 3) then
        (bif !decide (op1.new_ = []) then
          (F37 op1.new_).bind fun r74 =>
          (appO 16 [r3] [r74]).bind fun out77 =>
          (F37 op1.old_).bind fun r80 =>
          (appO 16 out77 [r80]).bind fun out83 =>
          (L_Join out83 [32]).bind fun s86 =>
          some s86
        else
          (F37 op1.old_).bind fun r89 =>
          (appO 16 [r3] [r89]).bind fun out92 =>
          (L_Join out92 [32]).bind fun s95 =>
          some s95)
      else
        (bif decide (op1.kind_ = 5) then
          (F37 op1.new_).bind fun r99 =>
          (appO 16 [r3] [r99]).bind fun out102 =>
          (L_Join out102 [32]).bind fun s105 =>
          some s105
        else
          (L_Join [r3] [32]).bind fun s108 =>
          some s108))))

def C_F23 (O : Orc) : Prop := ∀ (op1 : NsOp) (r2 : Str), F23 op1 = some r2 → O.C 23 [.pv (.agg [.int .i64 op1.kind_, .int .i64 op1.flag_, .str op1.new_, .str op1.old_])] [] = some ([.pv (.str r2)], [])

def F10 (op1 : NsOp) : Option (Str × Int) :=
  (F22 op1).bind fun r4 =>
  (bif !r4 then
    some ([], 1)
  else
    (F23 op1).bind fun r8 =>
    some (r8, 0))

def C_F10 (O : Orc) : Prop := ∀ (op1 : NsOp) (r2 : Str) (r3 : Int), F10 op1 = some (r2, r3) → O.C 10 [.pv (.agg [.int .i64 op1.kind_, .int .i64 op1.flag_, .str op1.new_, .str op1.old_])] [] = some ([.pv (.str r2), .pv (.int .i64 r3)], [])

def F42_b1 (s1 : Str) (again7 : (Str × Int) → Option (Str × Int × Bool)) : (Str × Int) → Option (Str × Int × Bool) := fun (text5, i6) =>
  (bif decide (i6 < (s1.length : Int)) then
    (sidx s1 i6).bind fun c11 =>
    (bif decide (c11 = 39) then
      (guardO (!(decide (IntKind.wrap .i64 (i6 + 1) = (s1.length : Int)))) (sidx s1 (IntKind.wrap .i64 (i6 + 1)))).bind fun c15 =>
      (bif (decide (IntKind.wrap .i64 (i6 + 1) = (s1.length : Int)) || !decide (c15 = 39)) then
        some (text5, IntKind.wrap .i64 (i6 + 1), true)
      else
        (sslice s1 (IntKind.wrap .i64 (i6 + 1)) (IntKind.wrap .i64 ((IntKind.wrap .i64 (i6 + 1)) + 1))).bind fun t19 =>
        (catO text5 t19).bind fun s22 =>
        again7 (s22, IntKind.wrap .i64 ((IntKind.wrap .i64 (i6 + 1)) + 1)))
    else
      (sslice s1 i6 (IntKind.wrap .i64 (i6 + 1))).bind fun t25 =>
      (catO text5 t25).bind fun s28 =>
      again7 (s28, IntKind.wrap .i64 (i6 + 1)))
  else
    some ([], 0, false))

def F42 (s1 : Str) : Option (Str × Int × Bool) :=
  iter (F42_b1 s1) BIG ([], 0)

def C_F42 (O : Orc) : Prop := ∀ (s1 : Str) (r2 : Str) (r3 : Int) (r4 : Bool), F42 s1 = some (r2, r3, r4) → O.C 42 [.pv (.str s1)] [] = some ([.pv (.str r2), .pv (.int .i64 r3), .pv (.bool r4)], [])

def F29_b3 (s1 : Str) (l5 : List Word) (c10 : Int) (again6 : (Int × (List Word)) → Option ((List Word) × Bool)) (again18 : (Int × Str) → Option ((List Word) × Bool)) : (Int × Str) → Option ((List Word) × Bool) := fun (i16, x17) =>
  (guardO (decide (i16 < (s1.length : Int))) (sidx s1 i16)).bind fun c21 =>
  (bif ((decide (i16 < (s1.length : Int)) && !decide (c21 = 32)) && !decide (c21 = 9)) then
    (sidx s1 i16).bind fun c25 =>
    (bif !decide (c25 = 39) then
      (sslice s1 i16 (IntKind.wrap .i64 (i16 + 1))).bind fun t29 =>
      (catO x17 t29).bind fun s32 =>
      again18 (IntKind.wrap .i64 (i16 + 1), s32)
    else
      (sslice s1 (IntKind.wrap .i64 (i16 + 1)) (s1.length : Int)).bind fun t35 =>
      (F42 t35).bind fun (r38, r39, r40) =>
      (bif !r40 then
        some ([], false)
      else
        (catO x17 r38).bind fun s44 =>
        again18 (IntKind.wrap .i64 (i16 + (IntKind.wrap .i64 (1 + r39))), s44)))
  else
    (appO 24 l5 [Word.mk x17 (decide (c10 = 39))]).bind fun out47 =>
    again6 (i16, out47))

def F29_b2 (s1 : Str) (again6 : (Int × (List Word)) → Option ((List Word) × Bool)) : (Int × (List Word)) → Option ((List Word) × Bool) := fun (i4, l5) =>
  (bif decide (i4 < (s1.length : Int)) then
    (sidx s1 i4).bind fun c10 =>
    (bif (bif decide (c10 = 32) then decide (c10 = 32) else decide (c10 = 9)) then
      again6 (IntKind.wrap .i64 (i4 + 1), l5)
    else
      (bif decide (c10 = 35) then
        some (l5, true)
      else
        iter (F29_b3 s1 l5 c10 again6) BIG (i4, [])))
  else
    some (l5, true))

def F29 (s1 : Str) : Option ((List Word) × Bool) :=
  iter (F29_b2 s1) BIG (0, ([] : List Word))

def C_F29 (O : Orc) : Prop := ∀ (s1 : Str) (r2 : List Word) (r3 : Bool), F29 s1 = some (r2, r3) → O.C 29 [.pv (.str s1)] [] = some ([.pv (.slice (List.map Word.pv r2)), .pv (.bool r3)], [])

def F44_b1 (s1 : Str) (again4 : Int → Option Int) : Int → Option Int := fun kind3 =>
  (bif decide (kind3 ≤ 5) then
    (F35 kind3).bind fun r8 =>
    (bif decide (r8 = s1) then
      some kind3
    else
      again4 (IntKind.wrap .i64 (kind3 + 1)))
  else
    some 0)

def F44 (s1 : Str) : Option Int :=
  iter (F44_b1 s1) BIG 1

def C_F44 (O : Orc) : Prop := ∀ (s1 : Str) (r2 : Int), F44 s1 = some r2 → O.C 44 [.pv (.str s1)] [] = some ([.pv (.int .i64 r2)], [])

def F56 (s1 : Str) (prefix2 : Str) : Option Bool :=
  (guardO (decide ((prefix2.length : Int) ≤ (s1.length : Int))) (sslice s1 0 (prefix2.length : Int))).bind fun t4 =>
  some (decide ((prefix2.length : Int) ≤ (s1.length : Int)) && decide (t4 = prefix2))

def C_F56 (O : Orc) : Prop := ∀ (s1 : Str) (prefix2 : Str) (r3 : Bool), F56 s1 prefix2 = some r3 → O.C 56 [.pv (.str s1), .pv (.str prefix2)] [] = some ([.pv (.bool r3)], [])

def F45 (s1 : Str) (prefix2 : Str) : Option Bool :=
  (F56 s1 prefix2).bind fun r4 =>
  some r4

def C_F45 (O : Orc) : Prop := ∀ (s1 : Str) (prefix2 : Str) (r3 : Bool), F45 s1 prefix2 = some r3 → O.C 45 [.pv (.str s1), .pv (.str prefix2)] [] = some ([.pv (.bool r3)], [])

def F46 (s1 : Str) : Option (Int × Bool) :=
  (bif decide (s1 = [45, 97]) then
    some (2, true)
  else
    (bif decide (s1 = [45, 98]) then
      some (1, true)
    else
      (bif decide (s1 = [45, 99]) then
        some (4, true)
      else
        (bif (bif decide (s1 = [45, 97, 99]) then decide (s1 = [45, 97, 99]) else decide (s1 = [45, 99, 97])) then
          some (6, true)
        else
          (bif (bif decide (s1 = [45, 98, 99]) then decide (s1 = [45, 98, 99]) else decide (s1 = [45, 99, 98])) then
            some (5, true)
          else
            some (0, false))))))

def C_F46 (O : Orc) : Prop := ∀ (s1 : Str) (r2 : Int) (r3 : Bool), F46 s1 = some (r2, r3) → O.C 46 [.pv (.str s1)] [] = some ([.pv (.int .i64 r2), .pv (.bool r3)], [])

def F48 (w1 : Word) : Option Bool :=
  (F34 w1.text_).bind fun r3 =>
  some (!r3)

def C_F48 (O : Orc) : Prop := ∀ (w1 : Word) (r2 : Bool), F48 w1 = some r2 → O.C 48 [.pv (.agg [.str w1.text_, .bool w1.quoted_])] [] = some ([.pv (.bool r2)], [])

def F57_b1 (s1 : List Word) (again4 : Int → Option Int) : Int → Option Int := fun i3 =>
  (bif decide (i3 < (s1.length : Int)) then
    (lidx s1 i3).bind fun u8 =>
    (F48 u8).bind fun r11 =>
    (bif r11 then
      some i3
    else
      again4 (IntKind.wrap .i64 (i3 + 1)))
  else
    some (-1))

def F57 (s1 : List Word) : Option Int :=
  iter (F57_b1 s1) BIG 0

def C_F57 (O : Orc) : Prop := ∀ (s1 : List Word) (r2 : Int), F57 s1 = some r2 → O.C 57 [.pv (.slice (List.map Word.pv s1)), .fn 48 []] [] = some ([.pv (.int .i64 r2)], [])

def F47 (s1 : List Word) : Option Bool :=
  (F57 s1).bind fun r3 =>
  some (decide (0 ≤ r3))

def C_F47 (O : Orc) : Prop := ∀ (s1 : List Word) (r2 : Bool), F47 s1 = some r2 → O.C 47 [.pv (.slice (List.map Word.pv s1)), .fn 48 []] [] = some ([.pv (.bool r2)], [])

def F32_j2 (rest14 : List Word) (r8 : Int) (x15 : Int) : (Str × Str) → Option (NsOp × Bool) := fun (x21, x22) =>
  (guardO (decide ((rest14.length : Int) ≤ 2)) (F22 (NsOp.mk r8 x15 x21 x22))).bind fun r23 =>
  some (NsOp.mk r8 x15 x21 x22, (((decide ((rest14.length : Int) ≤ 2) && r23) && ((decide ((rest14.length : Int) = 0)) == (decide (r8 = 4)))) && (decide ((rest14.length : Int) < 2) || (!decide (x22 = []) && !decide (x21 = [])))))

def F32_j1 (r8 : Int) : ((List Word) × Int) → Option (NsOp × Bool) := fun (rest14, x15) =>
  (F47 rest14).bind fun r16 =>
  (bif r16 then
    some (NsOp.mk 0 0 [] [], false)
  else
    (bif (decide ((rest14.length : Int) = 2) && ((decide (r8 = 1) || decide (r8 = 2)) || decide (r8 = 3))) then
      (lidx rest14 0).bind fun u27 =>
      (lidx rest14 1).bind fun u30 =>
      F32_j2 rest14 r8 x15 (u27.text_, u30.text_)
    else
      (bif (decide ((rest14.length : Int) = 1) && decide (r8 = 3)) then
        (lidx rest14 0).bind fun u34 =>
        F32_j2 rest14 r8 x15 ([], u34.text_)
      else
        (bif (decide ((rest14.length : Int) = 1) && decide (r8 = 5)) then
          (lidx rest14 0).bind fun u38 =>
          F32_j2 rest14 r8 x15 (u38.text_, [])
        else
          F32_j2 rest14 r8 x15 ([], [])))))

def F32 (words1 : List Word) : Option (NsOp × Bool) :=
  (bif decide ((words1.length : Int) = 0) then
    some (NsOp.mk 0 0 [] [], false)
  else
    (lidx words1 0).bind fun u5 =>
    (F44 u5.text_).bind fun r8 =>
    (lslice words1 1 (words1.length : Int)).bind fun l11 =>
    (guardO ((decide (r8 = 1) || decide (r8 = 2)) && decide (0 < (l11.length : Int))) (lidx l11 0)).bind fun u41 =>
    (guardO (((decide (r8 = 1) || decide (r8 = 2)) && decide (0 < (l11.length : Int))) && !u41.quoted_) (F45 u41.text_ [45])).bind fun r44 =>
    (bif ((((decide (r8 = 1) || decide (r8 = 2)) && decide (0 < (l11.length : Int))) && !u41.quoted_) && r44) then
      (lidx l11 0).bind fun u48 =>
      (F46 u48.text_).bind fun (r51, r52) =>
      (bif !r52 then
        some (NsOp.mk 0 0 [] [], false)
      else
        (lslice l11 1 (l11.length : Int)).bind fun l56 =>
        F32_j1 r8 (l56, r51))
    else
      F32_j1 r8 (l11, 0)))

def C_F32 (O : Orc) : Prop := ∀ (words1 : List Word) (r2 : NsOp) (r3 : Bool), F32 words1 = some (r2, r3) → O.C 32 [.pv (.slice (List.map Word.pv words1))] [] = some ([.pv (.agg [.int .i64 r2.kind_, .int .i64 r2.flag_, .str r2.new_, .str r2.old_]), .pv (.bool r3)], [])

def F20 (s1 : Str) : Option (NsOp × Int) :=
  (L_IndexByte s1 0).bind fun n4 =>
  (guardO (!(decide (0 ≤ n4))) (L_IndexByte s1 10)).bind fun n7 =>
  (bif (decide (0 ≤ n4) || decide (0 ≤ n7)) then
    some (NsOp.mk 0 0 [] [], 47)
  else
    (F29 s1).bind fun (r11, r12) =>
    (bif !r12 then
      some (NsOp.mk 0 0 [] [], 48)
    else
      (F32 r11).bind fun (r16, r17) =>
      (bif !r17 then
        some (NsOp.mk 0 0 [] [], 47)
      else
        some (r16, 0))))

def C_F20 (O : Orc) : Prop := ∀ (s1 : Str) (r2 : NsOp) (r3 : Int), F20 s1 = some (r2, r3) → O.C 20 [.pv (.str s1)] [] = some ([.pv (.agg [.int .i64 r2.kind_, .int .i64 r2.flag_, .str r2.new_, .str r2.old_]), .pv (.int .i64 r3)], [])

def F16_b1 (l6 : List Str) (again11 : (Int × (List NsOp)) → Option ((List NsOp) × Int × Int)) : (Int × (List NsOp)) → Option ((List NsOp) × Int × Int) := fun (i9, l10) =>
  (bif decide (i9 < (l6.length : Int)) then
    (lidx l6 i9).bind fun w15 =>
    (F29 w15).bind fun (r18, r19) =>
    (bif (r19 && decide ((r18.length : Int) = 0)) then
      again11 (IntKind.wrap .i64 (i9 + 1), l10)
    else
      (F20 w15).bind fun (r23, r24) =>
      (bif !decide (r24 = 0) then
        some ([], i9, r24)
      else
        (appO 48 l10 [r23]).bind fun out28 =>
        again11 (IntKind.wrap .i64 (i9 + 1), out28)))
  else
    some (l10, 0, 0))

def F16 (s1 : Str) : Option ((List NsOp) × Int × Int) :=
  (bif decide (65536 < (s1.length : Int)) then
    some ([], 0, 4)
  else
    (L_Split s1 [10]).bind fun l6 =>
    iter (F16_b1 l6) BIG (0, ([] : List NsOp)))

def C_F16 (O : Orc) : Prop := ∀ (s1 : Str) (r2 : List NsOp) (r3 : Int) (r4 : Int), F16 s1 = some (r2, r3, r4) → O.C 16 [.pv (.str s1)] [] = some ([.pv (.slice (List.map NsOp.pv r2)), .pv (.int .i64 r3), .pv (.int .i64 r4)], [])

def F25 (a1 : Chan) (b2 : Chan) : Option Bool :=
  some (decide (a1.dev_ = b2.dev_) && decide (a1.id_ = b2.id_))

def C_F25 (O : Orc) : Prop := ∀ (a1 : Chan) (b2 : Chan) (r3 : Bool), F25 a1 b2 = some r3 → O.C 25 [.pv (.agg [.int .i64 a1.dev_, .int .i64 a1.id_, .int .i64 a1.fid_, .str a1.path_, .str a1.name_]), .pv (.agg [.int .i64 b2.dev_, .int .i64 b2.id_, .int .i64 b2.fid_, .str b2.path_, .str b2.name_])] [] = some ([.pv (.bool r3)], [])

def F13_b3 (u10 : Mount) (again6 : (Int × Str) → Option Str) (i4 : Int) (again15 : (Int × Str) → Option Str) : (Int × Str) → Option Str := fun (i13, b14) =>
  (bif decide (i13 < (u10.to_.length : Int)) then
    (lidx u10.to_ i13).bind fun u19 =>
    (guardO (decide (i13 = 0)) (F25 u19.chan_ u10.from_)).bind fun r22 =>
    (bif ((decide (i13 = 0) && r22) && !u19.create_) then
      again15 (IntKind.wrap .i64 (i13 + 1), b14)
    else
      (F23 (NsOp.mk 1 (bif u19.create_ then IntKind.wrap .i64 ((bif decide (0 < i13) then 2 else 0) + 4) else (bif decide (0 < i13) then 2 else 0)) u19.chan_.name_ u10.from_.name_)).bind fun r28 =>
      (catO r28 [10]).bind fun s31 =>
      (L_WriteString b14 s31).bind fun (n34, c35) =>
      again15 (IntKind.wrap .i64 (i13 + 1), c35))
  else
    again6 (IntKind.wrap .i64 (i4 + 1), b14))

def F13_b2 (n1 : Ns) (cwd2 : Str) (again6 : (Int × Str) → Option Str) : (Int × Str) → Option Str := fun (i4, b5) =>
  (bif decide (i4 < (n1.mounts_.length : Int)) then
    (lidx n1.mounts_ i4).bind fun u10 =>
    iter (F13_b3 u10 again6 i4) BIG (0, b5)
  else
    (F23 (NsOp.mk 5 0 cwd2 [])).bind fun r40 =>
    (catO r40 [10]).bind fun s43 =>
    (L_WriteString b5 s43).bind fun (n46, c47) =>
    (L_String c47).bind fun s51 =>
    some s51)

def F13 (n1 : Ns) (cwd2 : Str) : Option Str :=
  iter (F13_b2 n1 cwd2) BIG (0, [])

def C_F13 (O : Orc) : Prop := ∀ (n1 : Ns) (cwd2 : Str) (r3 : Str), F13 n1 cwd2 = some r3 → O.C 13 [.pv (.agg [.int .i64 n1.id_, .int .i64 n1.root_.dev_, .int .i64 n1.root_.id_, .int .i64 n1.root_.fid_, .str n1.root_.path_, .str n1.root_.name_, .slice (List.map Mount.pv n1.mounts_)]), .pv (.str cwd2)] [] = some ([.pv (.str r3)], [])

def F9 : Option Bool :=
  (F10 (NsOp.mk 1 2 [47, 117, 115, 114, 47, 97, 110, 110, 47, 98, 105, 110] [47, 98, 105, 110])).bind fun (r2, r3) =>
  (bif (!decide (r2 = [98, 105, 110, 100, 32, 45, 97, 32, 47, 117, 115, 114, 47, 97, 110, 110, 47, 98, 105, 110, 32, 47, 98, 105, 110]) || !decide (r3 = 0)) then
    some false
  else
    (F20 [109, 111, 117, 110, 116, 32, 45, 99, 98, 32, 39, 35, 51, 39, 32, 47, 110, 47, 102, 115, 32, 35, 32, 120]).bind fun (r7, r8) =>
    (bif (!decide (r8 = 0) || !(decide (r7.kind_ = 2) && (decide (r7.flag_ = 5) && (decide (r7.new_ = [35, 51]) && (decide (r7.old_ = [47, 110, 47, 102, 115])))))) then
      some false
    else
      (F16 [35, 32, 120, 10, 10, 99, 108, 101, 97, 114, 10]).bind fun (r12, r13, r14) =>
      (guardO ((decide (r14 = 0) && decide (r13 = 0)) && decide ((r12.length : Int) = 1)) (lidx r12 0)).bind fun u17 =>
      (guardO (((decide (r14 = 0) && decide (r13 = 0)) && decide ((r12.length : Int) = 1)) && decide (u17.kind_ = 4)) (F13 (Ns.mk 0 (Chan.mk 0 0 0 [] []) []) [47, 97, 32, 98])).bind fun r20 =>
      some ((((decide (r14 = 0) && decide (r13 = 0)) && decide ((r12.length : Int) = 1)) && decide (u17.kind_ = 4)) && decide (r20 = [99, 100, 32, 39, 47, 97, 32, 98, 39, 10]))))

def C_F9 (O : Orc) : Prop := ∀  (r1 : Bool), F9 = some r1 → O.C 9 [] [] = some ([.pv (.bool r1)], [])

def F30 (n1 : Int) : Option Bool :=
  some (((((decide (n1 = 0) || decide (n1 = 1)) || decide (n1 = 2)) || decide (n1 = 4)) || decide (n1 = 5)) || decide (n1 = 6))

def C_F30 (O : Orc) : Prop := ∀ (n1 : Int) (r2 : Bool), F30 n1 = some r2 → O.C 30 [.pv (.int .i64 n1)] [] = some ([.pv (.bool r2)], [])

def F15_b1 (s1 : Str) (again4 : Int → Option Bool) : Int → Option Bool := fun i3 =>
  (bif decide (i3 < (s1.length : Int)) then
    (sidx s1 i3).bind fun c8 =>
    (bif (decide (c8 = 0) || decide (c8 = 10)) then
      some false
    else
      again4 (IntKind.wrap .i64 (i3 + 1)))
  else
    some (!decide (s1 = []) && decide ((s1.length : Int) ≤ 1024)))

def F15 (s1 : Str) : Option Bool :=
  iter (F15_b1 s1) BIG 0

def C_F15 (O : Orc) : Prop := ∀ (s1 : Str) (r2 : Bool), F15 s1 = some r2 → O.C 15 [.pv (.str s1)] [] = some ([.pv (.bool r2)], [])

def F19 (op1 : NsOp) : Option Bool :=
  (bif (bif decide (op1.kind_ = 1) then decide (op1.kind_ = 1) else decide (op1.kind_ = 2)) then
    (F30 op1.flag_).bind fun r5 =>
    (guardO r5 (F15 op1.new_)).bind fun r8 =>
    (guardO (r5 && r8) (F15 op1.old_)).bind fun r11 =>
    some ((r5 && r8) && r11)
  else
    (bif decide (op1.kind_ = 3) then
      (guardO (decide (op1.flag_ = 0) && !(decide (op1.new_ = []))) (F15 op1.new_)).bind fun r15 =>
      (guardO (decide (op1.flag_ = 0) && (decide (op1.new_ = []) || r15)) (F15 op1.old_)).bind fun r18 =>
      some ((decide (op1.flag_ = 0) && (decide (op1.new_ = []) || r15)) && r18)
    else
      (bif decide (op1.kind_ = 4) then
        some ((decide (op1.flag_ = 0) && decide (op1.new_ = [])) && decide (op1.old_ = []))
      else
        (bif decide (op1.kind_ = 5) then
          (guardO (decide (op1.flag_ = 0)) (F15 op1.new_)).bind fun r23 =>
          some ((decide (op1.flag_ = 0) && r23) && decide (op1.old_ = []))
        else
          some false))))

def C_F19 (O : Orc) : Prop := ∀ (op1 : NsOp) (r2 : Bool), F19 op1 = some r2 → O.C 19 [.pv (.agg [.int .i64 op1.kind_, .int .i64 op1.flag_, .str op1.new_, .str op1.old_])] [] = some ([.pv (.bool r2)], [])

def F39_b1 (s1 : Str) (again9 : (Str × Bool × Int) → Option Str) : (Str × Bool × Int) → Option Str := fun (out6, odd7, i8) =>
  (bif decide (i8 < (s1.length : Int)) then
    (guardO (!odd7) (sidx s1 i8)).bind fun c13 =>
    (sslice s1 i8 (IntKind.wrap .i64 (i8 + 1))).bind fun t16 =>
    (catO out6 t16).bind fun s19 =>
    (sidx s1 i8).bind fun c22 =>
    (bif decide (c22 = 39) then
      (catO s19 [39]).bind fun s26 =>
      again9 (s26, (((odd7 || decide (c13 = 32)) || decide (c13 = 9)) || decide (c13 = 39)), IntKind.wrap .i64 (i8 + 1))
    else
      again9 (s19, (((odd7 || decide (c13 = 32)) || decide (c13 = 9)) || decide (c13 = 39)), IntKind.wrap .i64 (i8 + 1)))
  else
    (bif odd7 then
      (catO [39] out6).bind fun s30 =>
      (catO s30 [39]).bind fun s33 =>
      some s33
    else
      some s1))

def F39 (s1 : Str) : Option Str :=
  (guardO (!(decide (s1 = []))) (sidx s1 0)).bind fun c3 =>
  iter (F39_b1 s1) BIG ([], ((decide (s1 = []) || decide (c3 = 45)) || decide (c3 = 35)), 0)

def C_F39 (O : Orc) : Prop := ∀ (s1 : Str) (r2 : Str), F39 s1 = some r2 → O.C 39 [.pv (.str s1)] [] = some ([.pv (.str r2)], [])

def F24_j3 (op1 : NsOp) : Str → Option Str := fun s7 =>
  (catO s7 [32]).bind fun s8 =>
  (F39 op1.new_).bind fun r11 =>
  (catO s8 r11).bind fun s14 =>
  (catO s14 [32]).bind fun s17 =>
  (F39 op1.old_).bind fun r20 =>
  (catO s17 r20).bind fun s23 =>
  some s23

def F24_j2 (s3 : Str) (op1 : NsOp) : Str → Option Str := fun flags6 =>
  (bif !decide (flags6 = []) then
    (catO s3 [32, 45]).bind fun s27 =>
    (catO s27 flags6).bind fun s30 =>
    F24_j3 op1 s30
  else
    F24_j3 op1 s3)

def F24_j1 (op1 : NsOp) : Str → Option Str := fun s3 =>
  (bif decide (4 ≤ op1.flag_) then
    (catO (bif decide (bits .and .i64 op1.flag_ 3 = 2) then [97] else (bif decide (bits .and .i64 op1.flag_ 3 = 1) then [98] else [])) [99]).bind fun s34 =>
    F24_j2 s3 op1 s34
  else
    F24_j2 s3 op1 (bif decide (bits .and .i64 op1.flag_ 3 = 2) then [97] else (bif decide (bits .and .i64 op1.flag_ 3 = 1) then [98] else [])))

def F24 (op1 : NsOp) : Option Str :=
  (bif decide (op1.kind_ = 1) then
    F24_j1 op1 [98, 105, 110, 100]
  else
    (bif decide (op1.kind_ = 2) then
      F24_j1 op1 [109, 111, 117, 110, 116]
    else
      (bif decide (op1.kind_ = 3) then
        (bif decide (op1.new_ = []) then
          (F39 op1.old_).bind fun r41 =>
          (catO [117, 110, 109, 111, 117, 110, 116, 32] r41).bind fun s44 =>
          some s44
        else
          F24_j1 op1 [117, 110, 109, 111, 117, 110, 116])
      else
        (bif decide (op1.kind_ = 4) then
          some [99, 108, 101, 97, 114]
        else
          (F39 op1.new_).bind fun r48 =>
          (catO [99, 100, 32] r48).bind fun s51 =>
          some s51))))

def C_F24 (O : Orc) : Prop := ∀ (op1 : NsOp) (r2 : Str), F24 op1 = some r2 → O.C 24 [.pv (.agg [.int .i64 op1.kind_, .int .i64 op1.flag_, .str op1.new_, .str op1.old_])] [] = some ([.pv (.str r2)], [])

def F11 (op1 : NsOp) : Option (Str × Int) :=
  (F19 op1).bind fun r4 =>
  (bif !r4 then
    some ([], 1)
  else
    (F24 op1).bind fun r8 =>
    some (r8, 0))

def C_F11 (O : Orc) : Prop := ∀ (op1 : NsOp) (r2 : Str) (r3 : Int), F11 op1 = some (r2, r3) → O.C 11 [.pv (.agg [.int .i64 op1.kind_, .int .i64 op1.flag_, .str op1.new_, .str op1.old_])] [] = some ([.pv (.str r2), .pv (.int .i64 r3)], [])

def F3 (op1 : NsOp) : Option Bool :=
  (F8 op1).bind fun r3 =>
  (bif !r3 then
    (F9).bind fun r7 =>
    some r7
  else
    (F10 op1).bind fun (r10, r11) =>
    (F11 op1).bind fun (r14, r15) =>
    (guardO (decide (r10 = r14) && decide (r11 = r15)) (F9)).bind fun r18 =>
    some ((decide (r10 = r14) && decide (r11 = r15)) && r18))

def C_F3 (O : Orc) : Prop := ∀ (op1 : NsOp) (r2 : Bool), F3 op1 = some r2 → O.C 3 [.pv (.agg [.int .i64 op1.kind_, .int .i64 op1.flag_, .str op1.new_, .str op1.old_])] [] = some ([.pv (.bool r2)], [])

def F12_b3 (u9 : Mount) (again5 : (Int) → Option Bool) (i4 : Int) (again14 : Int → Option Bool) : Int → Option Bool := fun i13 =>
  (bif decide (i13 < (u9.to_.length : Int)) then
    (lidx u9.to_ i13).bind fun u18 =>
    (bif decide (1100 < (u18.chan_.name_.length : Int)) then
      some false
    else
      again14 (IntKind.wrap .i64 (i13 + 1)))
  else
    again5 (IntKind.wrap .i64 (i4 + 1)))

def F12_b2 (n1 : Ns) (again5 : Int → Option Bool) : Int → Option Bool := fun i4 =>
  (bif decide (i4 < (n1.mounts_.length : Int)) then
    (lidx n1.mounts_ i4).bind fun u9 =>
    (bif (decide (20 < (u9.to_.length : Int)) || decide (1100 < (u9.from_.name_.length : Int))) then
      some false
    else
      iter (F12_b3 u9 again5 i4) BIG 0)
  else
    some true)

def F12 (n1 : Ns) : Option Bool :=
  (bif decide (20 < (n1.mounts_.length : Int)) then
    some false
  else
    iter (F12_b2 n1) BIG 0)

def C_F12 (O : Orc) : Prop := ∀ (n1 : Ns) (r2 : Bool), F12 n1 = some r2 → O.C 12 [.pv (.agg [.int .i64 n1.id_, .int .i64 n1.root_.dev_, .int .i64 n1.root_.id_, .int .i64 n1.root_.fid_, .str n1.root_.path_, .str n1.root_.name_, .slice (List.map Mount.pv n1.mounts_)])] [] = some ([.pv (.bool r2)], [])

def F14_b3 (u10 : Mount) (again6 : (Str × Int) → Option Str) (i5 : Int) (again15 : (Str × Int) → Option Str) : (Str × Int) → Option Str := fun (s13, k14) =>
  (bif decide (k14 < (u10.to_.length : Int)) then
    (lidx u10.to_ k14).bind fun u19 =>
    (bif (((decide (k14 = 0) && !u19.create_) && decide (u19.chan_.dev_ = u10.from_.dev_)) && decide (u19.chan_.id_ = u10.from_.id_)) then
      again15 (s13, IntKind.wrap .i64 (k14 + 1))
    else
      (F24 (NsOp.mk 1 (bif u19.create_ then IntKind.wrap .i64 ((bif decide (0 < k14) then 2 else 0) + 4) else (bif decide (0 < k14) then 2 else 0)) u19.chan_.name_ u10.from_.name_)).bind fun r25 =>
      (catO s13 r25).bind fun s28 =>
      (catO s28 [10]).bind fun s31 =>
      again15 (s31, IntKind.wrap .i64 (k14 + 1)))
  else
    again6 (s13, IntKind.wrap .i64 (i5 + 1)))

def F14_b2 (n1 : Ns) (cwd2 : Str) (again6 : (Str × Int) → Option Str) : (Str × Int) → Option Str := fun (s4, i5) =>
  (bif decide (i5 < (n1.mounts_.length : Int)) then
    (lidx n1.mounts_ i5).bind fun u10 =>
    iter (F14_b3 u10 again6 i5) BIG (s4, 0)
  else
    (F24 (NsOp.mk 5 0 cwd2 [])).bind fun r35 =>
    (catO s4 r35).bind fun s38 =>
    (catO s38 [10]).bind fun s41 =>
    some s41)

def F14 (n1 : Ns) (cwd2 : Str) : Option Str :=
  iter (F14_b2 n1 cwd2) BIG ([], 0)

def C_F14 (O : Orc) : Prop := ∀ (n1 : Ns) (cwd2 : Str) (r3 : Str), F14 n1 cwd2 = some r3 → O.C 14 [.pv (.agg [.int .i64 n1.id_, .int .i64 n1.root_.dev_, .int .i64 n1.root_.id_, .int .i64 n1.root_.fid_, .str n1.root_.path_, .str n1.root_.name_, .slice (List.map Mount.pv n1.mounts_)]), .pv (.str cwd2)] [] = some ([.pv (.str r3)], [])

def F4 (n1 : Ns) (cwd2 : Str) : Option Bool :=
  (F12 n1).bind fun r4 =>
  (bif (!r4 || decide (1100 < (cwd2.length : Int))) then
    (F9).bind fun r8 =>
    some r8
  else
    (F13 n1 cwd2).bind fun r11 =>
    (F14 n1 cwd2).bind fun r14 =>
    (guardO (decide (r11 = r14)) (F9)).bind fun r17 =>
    some (decide (r11 = r14) && r17))

def C_F4 (O : Orc) : Prop := ∀ (n1 : Ns) (cwd2 : Str) (r3 : Bool), F4 n1 cwd2 = some r3 → O.C 4 [.pv (.agg [.int .i64 n1.id_, .int .i64 n1.root_.dev_, .int .i64 n1.root_.id_, .int .i64 n1.root_.fid_, .str n1.root_.path_, .str n1.root_.name_, .slice (List.map Mount.pv n1.mounts_)]), .pv (.str cwd2)] [] = some ([.pv (.bool r3)], [])

def F5_b3 (u20 : Mount) (again16 : (Int × Int) → Option Bool) (i15 : Int) (again25 : (Int × Int) → Option Bool) : (Int × Int) → Option Bool := fun (many23, i24) =>
  (bif decide (i24 < (u20.to_.length : Int)) then
    (lidx u20.to_ i24).bind fun u29 =>
    (F15 u29.chan_.name_).bind fun r32 =>
    (guardO r32 (F15 u20.from_.name_)).bind fun r35 =>
    (bif (!r32 || !r35) then
      (F9).bind fun r39 =>
      some r39
    else
      (bif (((decide (0 < i24) || u29.create_) || !decide (u29.chan_.dev_ = u20.from_.dev_)) || !decide (u29.chan_.id_ = u20.from_.id_)) then
        again25 (IntKind.wrap .i64 (many23 + 1), IntKind.wrap .i64 (i24 + 1))
      else
        again25 (many23, IntKind.wrap .i64 (i24 + 1))))
  else
    again16 (many23, IntKind.wrap .i64 (i15 + 1)))

def F5_b4 (l57 : List NsOp) (r51 : List NsOp) (many14 : Int) (cwd2 : Str) (again61 : Int → Option Bool) : Int → Option Bool := fun i60 =>
  (bif decide (i60 < (l57.length : Int)) then
    (lidx r51 i60).bind fun u65 =>
    (bif !decide (u65.kind_ = 1) then
      some false
    else
      again61 (IntKind.wrap .i64 (i60 + 1)))
  else
    (lidx r51 (IntKind.wrap .i64 (many14 - 1))).bind fun u69 =>
    (guardO (decide (u69.kind_ = 5) && (decide (u69.flag_ = 0) && (decide (u69.new_ = cwd2) && (decide (u69.old_ = []))))) (F9)).bind fun r72 =>
    some ((decide (u69.kind_ = 5) && (decide (u69.flag_ = 0) && (decide (u69.new_ = cwd2) && (decide (u69.old_ = []))))) && r72))

def F5_b2 (n1 : Ns) (cwd2 : Str) (again16 : (Int × Int) → Option Bool) : (Int × Int) → Option Bool := fun (many14, i15) =>
  (bif decide (i15 < (n1.mounts_.length : Int)) then
    (lidx n1.mounts_ i15).bind fun u20 =>
    iter (F5_b3 u20 again16 i15) BIG (many14, 0)
  else
    (F13 n1 cwd2).bind fun r44 =>
    (bif decide (65536 < (r44.length : Int)) then
      (F9).bind fun r48 =>
      some r48
    else
      (F16 r44).bind fun (r51, r52, r53) =>
      (bif (!decide (r53 = 0) || !decide ((r51.length : Int) = many14)) then
        some false
      else
        (lslice r51 1 (r51.length : Int)).bind fun l57 =>
        iter (F5_b4 l57 r51 many14 cwd2) BIG 0)))

def F5 (n1 : Ns) (cwd2 : Str) : Option Bool :=
  (F12 n1).bind fun r4 =>
  (guardO r4 (F15 cwd2)).bind fun r7 =>
  (bif (!r4 || !r7) then
    (F9).bind fun r11 =>
    some r11
  else
    iter (F5_b2 n1 cwd2) BIG (1, 0))

def C_F5 (O : Orc) : Prop := ∀ (n1 : Ns) (cwd2 : Str) (r3 : Bool), F5 n1 cwd2 = some r3 → O.C 5 [.pv (.agg [.int .i64 n1.id_, .int .i64 n1.root_.dev_, .int .i64 n1.root_.id_, .int .i64 n1.root_.fid_, .str n1.root_.path_, .str n1.root_.name_, .slice (List.map Mount.pv n1.mounts_)]), .pv (.str cwd2)] [] = some ([.pv (.bool r3)], [])

def F17_b1 (l1 : List NsOp) (again6 : (Int × Str) → Option (Str × Int)) : (Int × Str) → Option (Str × Int) := fun (i4, b5) =>
  (bif decide (i4 < (l1.length : Int)) then
    (lidx l1 i4).bind fun u10 =>
    (F10 u10).bind fun (r13, r14) =>
    (bif !decide (r14 = 0) then
      some ([], r14)
    else
      (catO r13 [10]).bind fun s18 =>
      (L_WriteString b5 s18).bind fun (n21, c22) =>
      again6 (IntKind.wrap .i64 (i4 + 1), c22))
  else
    (L_String b5).bind fun s26 =>
    some (s26, 0))

def F17 (l1 : List NsOp) : Option (Str × Int) :=
  iter (F17_b1 l1) BIG (0, [])

def C_F17 (O : Orc) : Prop := ∀ (l1 : List NsOp) (r2 : Str) (r3 : Int), F17 l1 = some (r2, r3) → O.C 17 [.pv (.slice (List.map NsOp.pv l1))] [] = some ([.pv (.str r2), .pv (.int .i64 r3)], [])

def F18_b1 (l1 : List NsOp) (again6 : (Str × Int) → Option (Str × Int)) : (Str × Int) → Option (Str × Int) := fun (s4, i5) =>
  (bif decide (i5 < (l1.length : Int)) then
    (lidx l1 i5).bind fun u10 =>
    (F11 u10).bind fun (r13, r14) =>
    (bif !decide (r14 = 0) then
      some ([], r14)
    else
      (catO s4 r13).bind fun s18 =>
      (catO s18 [10]).bind fun s21 =>
      again6 (s21, IntKind.wrap .i64 (i5 + 1)))
  else
    some (s4, 0))

def F18 (l1 : List NsOp) : Option (Str × Int) :=
  iter (F18_b1 l1) BIG ([], 0)

def C_F18 (O : Orc) : Prop := ∀ (l1 : List NsOp) (r2 : Str) (r3 : Int), F18 l1 = some (r2, r3) → O.C 18 [.pv (.slice (List.map NsOp.pv l1))] [] = some ([.pv (.str r2), .pv (.int .i64 r3)], [])

def F6_b1 (l1 : List NsOp) (again8 : Int → Option Bool) : Int → Option Bool := fun i7 =>
  (bif decide (i7 < (l1.length : Int)) then
    (lidx l1 i7).bind fun u12 =>
    (F8 u12).bind fun r15 =>
    (bif !r15 then
      (F9).bind fun r19 =>
      some r19
    else
      again8 (IntKind.wrap .i64 (i7 + 1)))
  else
    (F17 l1).bind fun (r22, r23) =>
    (F18 l1).bind fun (r26, r27) =>
    (guardO (decide (r22 = r26) && decide (r23 = r27)) (F9)).bind fun r30 =>
    some ((decide (r22 = r26) && decide (r23 = r27)) && r30))

def F6 (l1 : List NsOp) : Option Bool :=
  (bif decide (50 < (l1.length : Int)) then
    (F9).bind fun r4 =>
    some r4
  else
    iter (F6_b1 l1) BIG 0)

def C_F6 (O : Orc) : Prop := ∀ (l1 : List NsOp) (r2 : Bool), F6 l1 = some r2 → O.C 6 [.pv (.slice (List.map NsOp.pv l1))] [] = some ([.pv (.bool r2)], [])

def F21_b1 (a1 : List NsOp) (b2 : List NsOp) (again6 : Int → Option Bool) : Int → Option Bool := fun i5 =>
  (bif decide (i5 < (a1.length : Int)) then
    (lidx a1 i5).bind fun u10 =>
    (lidx b2 i5).bind fun u13 =>
    (bif !(decide (u10.kind_ = u13.kind_) && (decide (u10.flag_ = u13.flag_) && (decide (u10.new_ = u13.new_) && (decide (u10.old_ = u13.old_))))) then
      some false
    else
      again6 (IntKind.wrap .i64 (i5 + 1)))
  else
    some true)

def F21 (a1 : List NsOp) (b2 : List NsOp) : Option Bool :=
  (bif !decide ((a1.length : Int) = (b2.length : Int)) then
    some false
  else
    iter (F21_b1 a1 b2) BIG 0)

def C_F21 (O : Orc) : Prop := ∀ (a1 : List NsOp) (b2 : List NsOp) (r3 : Bool), F21 a1 b2 = some r3 → O.C 21 [.pv (.slice (List.map NsOp.pv a1)), .pv (.slice (List.map NsOp.pv b2))] [] = some ([.pv (.bool r3)], [])

def F7_b1 (l1 : List NsOp) (again8 : Int → Option Bool) : Int → Option Bool := fun i7 =>
  (bif decide (i7 < (l1.length : Int)) then
    (lidx l1 i7).bind fun u12 =>
    (F8 u12).bind fun r15 =>
    (guardO r15 (F19 u12)).bind fun r18 =>
    (bif (!r15 || !r18) then
      (F9).bind fun r22 =>
      some r22
    else
      (F10 u12).bind fun (r25, r26) =>
      (F20 r25).bind fun (r29, r30) =>
      (bif ((!decide (r26 = 0) || !decide (r30 = 0)) || !(decide (r29.kind_ = u12.kind_) && (decide (r29.flag_ = u12.flag_) && (decide (r29.new_ = u12.new_) && (decide (r29.old_ = u12.old_)))))) then
        some false
      else
        again8 (IntKind.wrap .i64 (i7 + 1))))
  else
    (F17 l1).bind fun (r34, r35) =>
    (bif !decide (r35 = 0) then
      some false
    else
      (F16 r34).bind fun (r39, r40, r41) =>
      (bif decide (65536 < (r34.length : Int)) then
        (guardO (decide (r41 = 4)) (F9)).bind fun r45 =>
        some (decide (r41 = 4) && r45)
      else
        (guardO (decide (r41 = 0) && decide (r40 = 0)) (F21 l1 r39)).bind fun r48 =>
        (guardO ((decide (r41 = 0) && decide (r40 = 0)) && r48) (F9)).bind fun r51 =>
        some (((decide (r41 = 0) && decide (r40 = 0)) && r48) && r51))))

def F7 (l1 : List NsOp) : Option Bool :=
  (bif decide (50 < (l1.length : Int)) then
    (F9).bind fun r4 =>
    some r4
  else
    iter (F7_b1 l1) BIG 0)

def C_F7 (O : Orc) : Prop := ∀ (l1 : List NsOp) (r2 : Bool), F7 l1 = some r2 → O.C 7 [.pv (.slice (List.map NsOp.pv l1))] [] = some ([.pv (.bool r2)], [])

end Go.Abs.U45
