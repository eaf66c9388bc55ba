/- The layer 47 laws: what the functions compute. -/
import Derived.Test.YtdmihmnegakgbaaGreatDoorLB
set_option linter.unusedVariables false
namespace Go.Abs.U47
open Go.RowKit Go.Proofs

def C_L_IndexByte (O : Orc) : Prop := ∀ (s : Str) (c : Int) (n : Int), L_IndexByte s c = some n → O.C 13 [.pv (.str s), .pv (.int .u8 c)] [] = some ([.pv (.int .i64 n)], [])

def C_L_Join (O : Orc) : Prop := ∀ (xs : List Str) (sep : Str) (s : Str), L_Join xs sep = some s → O.C 22 [.pv (.slice (List.map PV.str xs)), .pv (.str sep)] [] = some ([.pv (.str s)], [])

def C_L_ReplaceAll (O : Orc) : Prop := ∀ (s : Str) (a : Str) (b : Str) (t : Str), L_ReplaceAll s a b = some t → O.C 23 [.pv (.str s), .pv (.str a), .pv (.str b)] [] = some ([.pv (.str t)], [])

def C_L_Cut (O : Orc) : Prop := ∀ (s : Str) (sep : Str) (a : Str) (b : Str) (ok : Bool), L_Cut s sep = some (a, b, ok) → O.C 41 [.pv (.str s), .pv (.str sep)] [] = some ([.pv (.str a), .pv (.str b), .pv (.bool ok)], [])

def C_L_WriteString (O : Orc) : Prop := ∀ (b : Str) (s : Str) (n : Int) (c : Str), L_WriteString b s = some (n, c) → O.C 43 [.ref 0 0, .pv (.str s)] [.bld b] = some ([.pv (.int .i64 n), .pv (.nil)], [.bld c])

def C_L_String (O : Orc) : Prop := ∀ (b : Str) (s : Str), L_String b = some s → O.C 44 [.ref 0 0] [.bld b] = some ([.pv (.str s)], [.gone])

def C_L_WriteByte (O : Orc) : Prop := ∀ (b : Str) (c : Int) (d : Str), L_WriteByte b c = some d → O.C 48 [.ref 0 0, .pv (.int .u8 c)] [.bld b] = some ([.pv (.nil)], [.bld d])

def C_L_Repeat (O : Orc) : Prop := ∀ (s : Str) (n : Int) (t : Str), L_Repeat s n = some t → O.C 50 [.pv (.str s), .pv (.int .i64 n)] [] = some ([.pv (.str t)], [])

def C_L_Atoi (O : Orc) : Prop := ∀ (s : Str) (n : Int) (bad : Bool), L_Atoi s = some (n, bad) → O.C 77 [.pv (.str s)] [] = some ([.pv (.int .i64 n), .pv ((bif bad then PV.ifc else PV.nil))], [])

def C_L_Itoa (O : Orc) : Prop := ∀ (n : Int) (s : Str), L_Itoa n = some s → O.C 78 [.pv (.int .i64 n)] [] = some ([.pv (.str s)], [])

def F27 (s1 : Str) (prefix2 : Str) : Option Bool :=
  (guardO (decide ((prefix2.length : Int) ≤ (s1.length : Int))) (sslice s1 0 (prefix2.length : Int))).bind fun t4 =>
  some (decide ((prefix2.length : Int) ≤ (s1.length : Int)) && decide (t4 = prefix2))

def C_F27 (O : Orc) : Prop := ∀ (s1 : Str) (prefix2 : Str) (r3 : Bool), F27 s1 prefix2 = some r3 → O.C 27 [.pv (.str s1), .pv (.str prefix2)] [] = some ([.pv (.bool r3)], [])

def F15 (s1 : Str) (prefix2 : Str) : Option Bool :=
  (F27 s1 prefix2).bind fun r4 =>
  some r4

def C_F15 (O : Orc) : Prop := ∀ (s1 : Str) (prefix2 : Str) (r3 : Bool), F15 s1 prefix2 = some r3 → O.C 15 [.pv (.str s1), .pv (.str prefix2)] [] = some ([.pv (.bool r3)], [])

def F20_b1 (s1 : Str) (again8 : (Int × (List Str) × (List Int)) → Option ((List Str) × (List Int))) : (Int × (List Str) × (List Int)) → Option ((List Str) × (List Int)) := fun (at5, l6, l7) =>
  (bif decide (at5 < (s1.length : Int)) then
    (sslice s1 at5 (s1.length : Int)).bind fun t12 =>
    (L_Cut t12 [10]).bind fun (a15, b16, ok17) =>
    (appO 16 l6 [a15]).bind fun out21 =>
    (appO 8 l7 [(bif ok17 then IntKind.wrap .i64 ((IntKind.wrap .i64 (at5 + (a15.length : Int))) + 1) else IntKind.wrap .i64 (at5 + (a15.length : Int)))]).bind fun out24 =>
    again8 ((bif ok17 then IntKind.wrap .i64 ((IntKind.wrap .i64 (at5 + (a15.length : Int))) + 1) else IntKind.wrap .i64 (at5 + (a15.length : Int))), out21, out24)
  else
    some (l6, l7))

def F20 (s1 : Str) (at2 : Int) : Option ((List Str) × (List Int)) :=
  iter (F20_b1 s1) BIG (at2, ([] : List Str), ([] : List Int))

def C_F20 (O : Orc) : Prop := ∀ (s1 : Str) (at2 : Int) (r3 : List Str) (r4 : List Int), F20 s1 at2 = some (r3, r4) → O.C 20 [.pv (.str s1), .pv (.int .i64 at2)] [] = some ([.pv (.slice (List.map PV.str r3)), .pv (.slice (List.map (PV.int .i64) r4))], [])

def F21_b1 (s1 : List Str) (v2 : Str) (again5 : Int → Option Int) : Int → Option Int := fun i4 =>
  (bif decide (i4 < (s1.length : Int)) then
    (lidx s1 i4).bind fun w9 =>
    (bif decide (v2 = w9) then
      some i4
    else
      again5 (IntKind.wrap .i64 (i4 + 1)))
  else
    some (-1))

def F21 (s1 : List Str) (v2 : Str) : Option Int :=
  iter (F21_b1 s1 v2) BIG 0

def C_F21 (O : Orc) : Prop := ∀ (s1 : List Str) (v2 : Str) (r3 : Int), F21 s1 v2 = some r3 → O.C 21 [.pv (.slice (List.map PV.str s1)), .pv (.str v2)] [] = some ([.pv (.int .i64 r3)], [])

def F8 (s1 : Str) (at2 : Int) (end3 : Str) : Option (Str × Int × Int) :=
  (bif (decide (at2 < 0) || decide ((s1.length : Int) < at2)) then
    some ([], 0, 1)
  else
    (F20 s1 at2).bind fun (r8, r9) =>
    (F21 r8 end3).bind fun r12 =>
    (bif decide (r12 < 0) then
      some ([], 0, 3)
    else
      (bif decide (0 < r12) then
        (lslice r8 0 r12).bind fun l17 =>
        (L_Join l17 [10]).bind fun s20 =>
        (catO s20 [10]).bind fun s23 =>
        (lidx r9 r12).bind fun n26 =>
        some (s23, n26, 0)
      else
        (lidx r9 r12).bind fun n29 =>
        some ([], n29, 0))))

def C_F8 (O : Orc) : Prop := ∀ (s1 : Str) (at2 : Int) (end3 : Str) (r4 : Str) (r5 : Int) (r6 : Int), F8 s1 at2 end3 = some (r4, r5, r6) → O.C 8 [.pv (.str s1), .pv (.int .i64 at2), .pv (.str end3)] [] = some ([.pv (.str r4), .pv (.int .i64 r5), .pv (.int .i64 r6)], [])

def F26x2 (off1 : Int) (e2 : Int) (x3 : Str) (x4 : Int) (x5 : Int) (x6 : Int) (x7 : Int) (l8 : List Token) (l9 : List Str) : Option (Bool × Int × Int) :=
  some (false, off1, e2)

def C_F26x2 (O : Orc) : Prop := ∀ (off1 : Int) (e2 : Int) (x3 : Str) (x4 : Int) (x5 : Int) (x6 : Int) (x7 : Int) (l8 : List Token) (l9 : List Str) (r10 : Bool) (x11 : Int) (x12 : Int), F26x2 off1 e2 x3 x4 x5 x6 x7 l8 l9 = some (r10, x11, x12) → O.C 26 [.ref 0 0, .pv (.int .i64 off1), .pv (.int .i64 e2)] [.var [.pv (.str x3), .pv (.int .i64 x4), .vec 1 (List.length l8), .vec 2 (List.length l9), .pv (.int .i64 x5), .pv (.int .i64 x6), .pv (.int .i64 x7)], .row 32 4 (List.map Token.pv l8) true, .row 9 1 (List.map PV.str l9) true] = some ([.pv (.bool r10)], [.var [.pv (.str x3), .pv (.int .i64 x4), .vec 1 (List.length l8), .vec 2 (List.length l9), .pv (.int .i64 x5), .pv (.int .i64 x11), .pv (.int .i64 x12)], .row 32 4 (List.map Token.pv l8) true, .row 9 1 (List.map PV.str l9) true])

def F25x1 (t1 : Token) (x2 : Str) (x3 : Int) (x4 : Int) (x5 : Int) (x6 : Int) (l7 : List Token) (l8 : List Str) : Option (Bool × Int × Int × (List Token)) :=
  (bif decide (1024 ≤ (l7.length : Int)) then
    (F26x2 t1.at_ 4 x2 x3 x4 x5 x6 l7 l8).bind fun (r14, x15, x16) =>
    some (r14, x15, x16, l7)
  else
    (appO 48 l7 [t1]).bind fun out20 =>
    some (true, x5, x6, out20))

def C_F25x1 (O : Orc) : Prop := ∀ (t1 : Token) (x2 : Str) (x3 : Int) (x4 : Int) (x5 : Int) (x6 : Int) (l7 : List Token) (l8 : List Str) (r9 : Bool) (x10 : Int) (x11 : Int) (o12 : List Token), F25x1 t1 x2 x3 x4 x5 x6 l7 l8 = some (r9, x10, x11, o12) → O.C 25 [.ref 0 0, .pv (.agg [.int .i64 t1.kind_, .int .i64 t1.at_, .str t1.text_, .str t1.quoted_])] [.var [.pv (.str x2), .pv (.int .i64 x3), .vec 1 (List.length l7), .vec 2 (List.length l8), .pv (.int .i64 x4), .pv (.int .i64 x5), .pv (.int .i64 x6)], .row 32 4 (List.map Token.pv l7) true, .row 9 1 (List.map PV.str l8) true] = some ([.pv (.bool r9)], [.var [.pv (.str x2), .pv (.int .i64 x3), .vec 1 (List.length o12), .vec 2 (List.length l8), .pv (.int .i64 x4), .pv (.int .i64 x10), .pv (.int .i64 x11)], .row 32 4 (List.map Token.pv o12) true, .row 9 1 (List.map PV.str l8) true])

def F12x2 (x1 : Str) (x2 : Int) (x3 : Int) (x4 : Int) (x5 : Int) (l6 : List Token) (l7 : List Str) : Option Str :=
  (sslice x1 x2 (x1.length : Int)).bind fun t9 =>
  some t9

def C_F12x2 (O : Orc) : Prop := ∀ (x1 : Str) (x2 : Int) (x3 : Int) (x4 : Int) (x5 : Int) (l6 : List Token) (l7 : List Str) (r8 : Str), F12x2 x1 x2 x3 x4 x5 l6 l7 = some r8 → O.C 12 [.ref 0 0] [.var [.pv (.str x1), .pv (.int .i64 x2), .vec 1 (List.length l6), .vec 2 (List.length l7), .pv (.int .i64 x3), .pv (.int .i64 x4), .pv (.int .i64 x5)], .row 32 4 (List.map Token.pv l6) true, .row 9 1 (List.map PV.str l7) true] = some ([.pv (.str r8)], [.var [.pv (.str x1), .pv (.int .i64 x2), .vec 1 (List.length l6), .vec 2 (List.length l7), .pv (.int .i64 x3), .pv (.int .i64 x4), .pv (.int .i64 x5)], .row 32 4 (List.map Token.pv l6) true, .row 9 1 (List.map PV.str l7) true])

def F11x2_b1 (x1 : Str) (x3 : Int) (x4 : Int) (x5 : Int) (l6 : List Token) (l7 : List Str) (again10 : Int → Option Int) : Int → Option Int := fun x9 =>
  (F12x2 x1 x9 x3 x4 x5 l6 l7).bind fun r13 =>
  (F15 r13 [32]).bind fun r17 =>
  (guardO (!r17) (F15 r13 [9])).bind fun r20 =>
  (bif (r17 || r20) then
    again10 (IntKind.wrap .i64 (x9 + 1))
  else
    (F15 r13 [92, 10]).bind fun r24 =>
    (bif r24 then
      again10 (IntKind.wrap .i64 (x9 + 2))
    else
      some x9))

def F11x2 (x1 : Str) (x2 : Int) (x3 : Int) (x4 : Int) (x5 : Int) (l6 : List Token) (l7 : List Str) : Option Int :=
  iter (F11x2_b1 x1 x3 x4 x5 l6 l7) BIG x2

def C_F11x2 (O : Orc) : Prop := ∀ (x1 : Str) (x2 : Int) (x3 : Int) (x4 : Int) (x5 : Int) (l6 : List Token) (l7 : List Str) (x8 : Int), F11x2 x1 x2 x3 x4 x5 l6 l7 = some x8 → O.C 11 [.ref 0 0] [.var [.pv (.str x1), .pv (.int .i64 x2), .vec 1 (List.length l6), .vec 2 (List.length l7), .pv (.int .i64 x3), .pv (.int .i64 x4), .pv (.int .i64 x5)], .row 32 4 (List.map Token.pv l6) true, .row 9 1 (List.map PV.str l7) true] = some ([], [.var [.pv (.str x1), .pv (.int .i64 x8), .vec 1 (List.length l6), .vec 2 (List.length l7), .pv (.int .i64 x3), .pv (.int .i64 x4), .pv (.int .i64 x5)], .row 32 4 (List.map Token.pv l6) true, .row 9 1 (List.map PV.str l7) true])

def F14x1_b1 (l7 : List Str) (x1 : Str) (x3 : Int) (x15 : Int) (x16 : Int) (o17 : List Token) (again24 : (Int × Int) → Option (Bool × Bool × Int × Int × Int × (List Token))) : (Int × Int) → Option (Bool × Bool × Int × Int × Int × (List Token)) := fun (i22, x23) =>
  (bif decide (i22 < (l7.length : Int)) then
    (lidx l7 i22).bind fun w28 =>
    (F8 x1 x23 w28).bind fun (r31, r32, r33) =>
    (bif !decide (r33 = 0) then
      (F26x2 x23 r33 x1 x23 x3 x15 x16 o17 l7).bind fun (r37, x38, x39) =>
      some (false, r37, x23, x38, x39, o17)
    else
      again24 (IntKind.wrap .i64 (i22 + 1), r32))
  else
    some (true, true, x23, x15, x16, o17))

def F14x1 (x1 : Str) (x2 : Int) (x3 : Int) (x4 : Int) (x5 : Int) (l6 : List Token) (l7 : List Str) : Option (Bool × Bool × Int × Int × Int × (List Token)) :=
  (F25x1 (Token.mk 3 x2 [10] []) x1 x2 x3 x4 x5 l6 l7).bind fun (r14, x15, x16, o17) =>
  (bif !r14 then
    some (false, false, x2, x15, x16, o17)
  else
    iter (F14x1_b1 l7 x1 x3 x15 x16 o17) BIG (0, IntKind.wrap .i64 (x2 + 1)))

def C_F14x1 (O : Orc) : Prop := ∀ (x1 : Str) (x2 : Int) (x3 : Int) (x4 : Int) (x5 : Int) (l6 : List Token) (l7 : List Str) (tag8 : Bool) (r9 : Bool) (x10 : Int) (x11 : Int) (x12 : Int) (o13 : List Token), F14x1 x1 x2 x3 x4 x5 l6 l7 = some (tag8, r9, x10, x11, x12, o13) → O.C 14 [.ref 0 0] [.var [.pv (.str x1), .pv (.int .i64 x2), .vec 1 (List.length l6), .vec 2 (List.length l7), .pv (.int .i64 x3), .pv (.int .i64 x4), .pv (.int .i64 x5)], .row 32 4 (List.map Token.pv l6) true, .row 9 1 (List.map PV.str l7) true] = some ([.pv (.bool r9)], (bif tag8 then [.var [.pv (.str x1), .pv (.int .i64 x10), .vec 1 (List.length o13), .nils, .pv (.int .i64 x3), .pv (.int .i64 x11), .pv (.int .i64 x12)], .row 32 4 (List.map Token.pv o13) true, .row 9 1 (List.map PV.str l7) true] else [.var [.pv (.str x1), .pv (.int .i64 x10), .vec 1 (List.length o13), .vec 2 (List.length l7), .pv (.int .i64 x3), .pv (.int .i64 x11), .pv (.int .i64 x12)], .row 32 4 (List.map Token.pv o13) true, .row 9 1 (List.map PV.str l7) true]))

def F47x1 (x1 : Str) (x2 : Int) (x3 : Int) (x4 : Int) (x5 : Int) (l6 : List Token) (l7 : List Str) : Option Bool :=
  (F12x2 x1 x2 x3 x4 x5 l6 l7).bind fun r9 =>
  (guardO (!decide (r9 = [])) (sidx r9 0)).bind fun c13 =>
  (guardO (!decide (r9 = [])) (L_IndexByte [32, 9, 10, 59, 38, 124, 40, 41, 123, 125, 60, 62, 61, 94, 96, 36, 39] c13)).bind fun n16 =>
  (guardO (!decide (r9 = []) && decide (n16 < 0)) (F15 r9 [92, 10])).bind fun r19 =>
  some ((!decide (r9 = []) && decide (n16 < 0)) && !r19)

def C_F47x1 (O : Orc) : Prop := ∀ (x1 : Str) (x2 : Int) (x3 : Int) (x4 : Int) (x5 : Int) (l6 : List Token) (l7 : List Str) (r8 : Bool), F47x1 x1 x2 x3 x4 x5 l6 l7 = some r8 → O.C 47 [.ref 0 0] [.var [.pv (.str x1), .pv (.int .i64 x2), .vec 1 (List.length l6), .vec 2 (List.length l7), .pv (.int .i64 x3), .pv (.int .i64 x4), .pv (.int .i64 x5)], .row 32 4 (List.map Token.pv l6) true, .row 9 1 (List.map PV.str l7) true] = some ([.pv (.bool r8)], [.var [.pv (.str x1), .pv (.int .i64 x2), .vec 1 (List.length l6), .vec 2 (List.length l7), .pv (.int .i64 x3), .pv (.int .i64 x4), .pv (.int .i64 x5)], .row 32 4 (List.map Token.pv l6) true, .row 9 1 (List.map PV.str l7) true])

def F49x1_b1 (x1 : Str) (x3 : Int) (x4 : Int) (x5 : Int) (l6 : List Token) (l7 : List Str) (x2 : Int) (again15 : (Int × Str) → Option (Str × Bool × Int × Int × Int)) : (Int × Str) → Option (Str × Bool × Int × Int × Int) := fun (x13, b14) =>
  (F12x2 x1 x13 x3 x4 x5 l6 l7).bind fun r18 =>
  (L_IndexByte r18 39).bind fun n22 =>
  (bif decide (n22 < 0) then
    (F26x2 x2 48 x1 x13 x3 x4 x5 l6 l7).bind fun (r26, x27, x28) =>
    some ([], r26, x13, x27, x28)
  else
    (sslice x1 x13 (IntKind.wrap .i64 (x13 + n22))).bind fun t32 =>
    (L_WriteString b14 t32).bind fun (n35, c36) =>
    (F12x2 x1 (IntKind.wrap .i64 (x13 + (IntKind.wrap .i64 (n22 + 1)))) x3 x4 x5 l6 l7).bind fun r40 =>
    (F15 r40 [39]).bind fun r44 =>
    (bif !r44 then
      (L_String c36).bind fun s48 =>
      some (s48, true, (IntKind.wrap .i64 (x13 + (IntKind.wrap .i64 (n22 + 1)))), x4, x5)
    else
      (L_WriteByte c36 39).bind fun d52 =>
      again15 (IntKind.wrap .i64 ((IntKind.wrap .i64 (x13 + (IntKind.wrap .i64 (n22 + 1)))) + 1), d52)))

def F49x1 (x1 : Str) (x2 : Int) (x3 : Int) (x4 : Int) (x5 : Int) (l6 : List Token) (l7 : List Str) : Option (Str × Bool × Int × Int × Int) :=
  iter (F49x1_b1 x1 x3 x4 x5 l6 l7 x2) BIG (IntKind.wrap .i64 (x2 + 1), [])

def C_F49x1 (O : Orc) : Prop := ∀ (x1 : Str) (x2 : Int) (x3 : Int) (x4 : Int) (x5 : Int) (l6 : List Token) (l7 : List Str) (r8 : Str) (r9 : Bool) (x10 : Int) (x11 : Int) (x12 : Int), F49x1 x1 x2 x3 x4 x5 l6 l7 = some (r8, r9, x10, x11, x12) → O.C 49 [.ref 0 0] [.var [.pv (.str x1), .pv (.int .i64 x2), .vec 1 (List.length l6), .vec 2 (List.length l7), .pv (.int .i64 x3), .pv (.int .i64 x4), .pv (.int .i64 x5)], .row 32 4 (List.map Token.pv l6) true, .row 9 1 (List.map PV.str l7) true] = some ([.pv (.str r8), .pv (.bool r9)], [.var [.pv (.str x1), .pv (.int .i64 x10), .vec 1 (List.length l6), .vec 2 (List.length l7), .pv (.int .i64 x3), .pv (.int .i64 x11), .pv (.int .i64 x12)], .row 32 4 (List.map Token.pv l6) true, .row 9 1 (List.map PV.str l7) true])

def F28x1_b1 (x1 : Str) (x3 : Int) (l6 : List Token) (l7 : List Str) (again19 : (Int × Int × Int × Str × Str) → Option (Str × Str × Bool × Int × Int × Int)) : (Int × Int × Int × Str × Str) → Option (Str × Str × Bool × Int × Int × Int) := fun (x14, x15, x16, b17, b18) =>
  (F47x1 x1 x14 x3 x15 x16 l6 l7).bind fun r22 =>
  (bif r22 then
    (sidx x1 x14).bind fun c27 =>
    (L_WriteByte b17 c27).bind fun d30 =>
    (L_WriteByte b18 48).bind fun d34 =>
    again19 (IntKind.wrap .i64 (x14 + 1), x15, x16, d30, d34)
  else
    (F12x2 x1 x14 x3 x15 x16 l6 l7).bind fun r38 =>
    (F15 r38 [39]).bind fun r42 =>
    (bif r42 then
      (F49x1 x1 x14 x3 x15 x16 l6 l7).bind fun (r46, r47, x48, x49, x50) =>
      (bif !r47 then
        some ([], [], false, x48, x49, x50)
      else
        (L_WriteString b17 r46).bind fun (n55, c56) =>
        (L_Repeat [49] (r46.length : Int)).bind fun t60 =>
        (L_WriteString b18 t60).bind fun (n63, c64) =>
        again19 (x48, x49, x50, c56, c64))
    else
      (L_String b17).bind fun s68 =>
      (L_String b18).bind fun s72 =>
      some (s68, s72, true, x14, x15, x16)))

def F28x1 (x1 : Str) (x2 : Int) (x3 : Int) (x4 : Int) (x5 : Int) (l6 : List Token) (l7 : List Str) : Option (Str × Str × Bool × Int × Int × Int) :=
  iter (F28x1_b1 x1 x3 l6 l7) BIG (x2, x4, x5, [], [])

def C_F28x1 (O : Orc) : Prop := ∀ (x1 : Str) (x2 : Int) (x3 : Int) (x4 : Int) (x5 : Int) (l6 : List Token) (l7 : List Str) (r8 : Str) (r9 : Str) (r10 : Bool) (x11 : Int) (x12 : Int) (x13 : Int), F28x1 x1 x2 x3 x4 x5 l6 l7 = some (r8, r9, r10, x11, x12, x13) → O.C 28 [.ref 0 0] [.var [.pv (.str x1), .pv (.int .i64 x2), .vec 1 (List.length l6), .vec 2 (List.length l7), .pv (.int .i64 x3), .pv (.int .i64 x4), .pv (.int .i64 x5)], .row 32 4 (List.map Token.pv l6) true, .row 9 1 (List.map PV.str l7) true] = some ([.pv (.str r8), .pv (.str r9), .pv (.bool r10)], [.var [.pv (.str x1), .pv (.int .i64 x11), .vec 1 (List.length l6), .vec 2 (List.length l7), .pv (.int .i64 x3), .pv (.int .i64 x12), .pv (.int .i64 x13)], .row 32 4 (List.map Token.pv l6) true, .row 9 1 (List.map PV.str l7) true])

def F16 (x1 : Str) (x2 : Int) (x3 : Int) (x4 : Int) (x5 : Int) (l6 : List Token) (l7 : List Str) : Option (Bool × Int × Int × Int × (List Token) × (List Str)) :=
  (F11x2 x1 (IntKind.wrap .i64 (x2 + 2)) x3 x4 x5 l6 l7).bind fun x14 =>
  (F28x1 x1 x14 x3 x4 x5 l6 l7).bind fun (r18, r19, r20, x21, x22, x23) =>
  (bif !r20 then
    some (false, x21, x22, x23, l6, l7)
  else
    (bif decide (x21 = x14) then
      (F26x2 x14 47 x1 x21 x3 x22 x23 l6 l7).bind fun (r29, x30, x31) =>
      some (r29, x21, x30, x31, l6, l7)
    else
      (appO 16 l7 [r18]).bind fun out35 =>
      (F25x1 (Token.mk 4 x2 r18 r19) x1 x21 x3 x22 x23 l6 out35).bind fun (r38, x39, x40, o41) =>
      some (r38, x21, x39, x40, o41, out35)))

def C_F16 (O : Orc) : Prop := ∀ (x1 : Str) (x2 : Int) (x3 : Int) (x4 : Int) (x5 : Int) (l6 : List Token) (l7 : List Str) (r8 : Bool) (x9 : Int) (x10 : Int) (x11 : Int) (o12 : List Token) (o13 : List Str), F16 x1 x2 x3 x4 x5 l6 l7 = some (r8, x9, x10, x11, o12, o13) → O.C 16 [.ref 0 0] [.var [.pv (.str x1), .pv (.int .i64 x2), .vec 1 (List.length l6), .vec 2 (List.length l7), .pv (.int .i64 x3), .pv (.int .i64 x4), .pv (.int .i64 x5)], .row 32 4 (List.map Token.pv l6) true, .row 9 1 (List.map PV.str l7) true] = some ([.pv (.bool r8)], [.var [.pv (.str x1), .pv (.int .i64 x9), .vec 1 (List.length o12), .vec 2 (List.length o13), .pv (.int .i64 x3), .pv (.int .i64 x10), .pv (.int .i64 x11)], .row 32 4 (List.map Token.pv o12) true, .row 9 1 (List.map PV.str o13) true])

def F29 (x1 : Str) (x2 : Int) (x3 : Int) (x4 : Int) (x5 : Int) (l6 : List Token) (l7 : List Str) : Option Bool :=
  (guardO (decide (0 < (l6.length : Int))) (lidx l6 (IntKind.wrap .i64 ((l6.length : Int) - 1)))).bind fun u9 =>
  some ((decide (0 < (l6.length : Int)) && decide (u9.kind_ = 1)) && decide (x3 = x2))

def C_F29 (O : Orc) : Prop := ∀ (x1 : Str) (x2 : Int) (x3 : Int) (x4 : Int) (x5 : Int) (l6 : List Token) (l7 : List Str) (r8 : Bool), F29 x1 x2 x3 x4 x5 l6 l7 = some r8 → O.C 29 [.ref 0 0] [.var [.pv (.str x1), .pv (.int .i64 x2), .vec 1 (List.length l6), .vec 2 (List.length l7), .pv (.int .i64 x3), .pv (.int .i64 x4), .pv (.int .i64 x5)], .row 32 4 (List.map Token.pv l6) true, .row 9 1 (List.map PV.str l7) true] = some ([.pv (.bool r8)], [.var [.pv (.str x1), .pv (.int .i64 x2), .vec 1 (List.length l6), .vec 2 (List.length l7), .pv (.int .i64 x3), .pv (.int .i64 x4), .pv (.int .i64 x5)], .row 32 4 (List.map Token.pv l6) true, .row 9 1 (List.map PV.str l7) true])

def F67 (s1 : Str) : Option Bool :=
  (L_Atoi s1).bind fun (n3, bad4) =>
  (guardO ((!bad4 && decide (0 ≤ n3)) && decide (n3 < 64)) (L_Itoa n3)).bind fun s7 =>
  some (((!bad4 && decide (0 ≤ n3)) && decide (n3 < 64)) && decide (s7 = s1))

def C_F67 (O : Orc) : Prop := ∀ (s1 : Str) (r2 : Bool), F67 s1 = some r2 → O.C 67 [.pv (.str s1)] [] = some ([.pv (.bool r2)], [])

def F51 (s1 : Str) (pair2 : Bool) : Option Int :=
  (L_IndexByte s1 93).bind fun n4 =>
  (bif decide (n4 < 0) then
    some 0
  else
    (sslice s1 1 n4).bind fun t8 =>
    (L_Cut t8 [61]).bind fun (a11, b12, ok13) =>
    (F67 a11).bind fun r16 =>
    (guardO (((r16 && ok13) && pair2) && !decide (b12 = [])) (F67 b12)).bind fun r19 =>
    (bif (!r16 || (ok13 && (!pair2 || (!decide (b12 = []) && !r19)))) then
      some 0
    else
      some (IntKind.wrap .i64 (n4 + 1))))

def C_F51 (O : Orc) : Prop := ∀ (s1 : Str) (pair2 : Bool) (r3 : Int), F51 s1 pair2 = some r3 → O.C 51 [.pv (.str s1), .pv (.bool pair2)] [] = some ([.pv (.int .i64 r3)], [])

def F30_b2 (r12 : Str) (x4 : Int) (x5 : Int) (x2 : Int) (x1 : Str) (x3 : Int) (l6 : List Token) (l7 : List Str) (again40 : Int → Option (Str × Bool × Int × Int)) : Int → Option (Str × Bool × Int × Int) := fun i39 =>
  (bif decide (i39 < ([[62, 62], [62], [60], [124]].length : Int)) then
    (lidx [[62, 62], [62], [60], [124]] i39).bind fun w44 =>
    (F15 r12 w44).bind fun r47 =>
    (bif !r47 then
      again40 (IntKind.wrap .i64 (i39 + 1))
    else
      (sslice r12 (w44.length : Int) (r12.length : Int)).bind fun t51 =>
      (F15 t51 [91]).bind fun r54 =>
      (bif !r54 then
        some (w44, true, x4, x5)
      else
        (F51 t51 (!decide (w44 = [124]))).bind fun r58 =>
        (bif decide (r58 = 0) then
          (F26x2 (IntKind.wrap .i64 (x2 + (w44.length : Int))) 47 x1 x2 x3 x4 x5 l6 l7).bind fun (r62, x63, x64) =>
          some ([], r62, x63, x64)
        else
          (sslice r12 0 (IntKind.wrap .i64 ((w44.length : Int) + r58))).bind fun t68 =>
          some (t68, true, x4, x5))))
  else
    some ([], true, x4, x5))

def F30_b1 (r12 : Str) (x4 : Int) (x5 : Int) (x2 : Int) (x1 : Str) (x3 : Int) (l6 : List Token) (l7 : List Str) (again17 : Int → Option (Str × Bool × Int × Int)) : Int → Option (Str × Bool × Int × Int) := fun i16 =>
  (bif decide (i16 < ([[38, 38], [124, 124], [36, 35]].length : Int)) then
    (lidx [[38, 38], [124, 124], [36, 35]] i16).bind fun w21 =>
    (F15 r12 w21).bind fun r24 =>
    (bif r24 then
      some (w21, true, x4, x5)
    else
      again17 (IntKind.wrap .i64 (i16 + 1)))
  else
    (bif decide (r12 = []) then
      some ([], true, x4, x5)
    else
      (sidx r12 0).bind fun c29 =>
      (L_IndexByte [59, 38, 40, 41, 123, 125, 61, 94, 96, 36, 33, 64] c29).bind fun n32 =>
      (bif decide (0 ≤ n32) then
        (sslice r12 0 1).bind fun t36 =>
        some (t36, true, x4, x5)
      else
        iter (F30_b2 r12 x4 x5 x2 x1 x3 l6 l7) BIG 0)))

def F30 (x1 : Str) (x2 : Int) (x3 : Int) (x4 : Int) (x5 : Int) (l6 : List Token) (l7 : List Str) : Option (Str × Bool × Int × Int) :=
  (F12x2 x1 x2 x3 x4 x5 l6 l7).bind fun r12 =>
  iter (F30_b1 r12 x4 x5 x2 x1 x3 l6 l7) BIG 0

def C_F30 (O : Orc) : Prop := ∀ (x1 : Str) (x2 : Int) (x3 : Int) (x4 : Int) (x5 : Int) (l6 : List Token) (l7 : List Str) (r8 : Str) (r9 : Bool) (x10 : Int) (x11 : Int), F30 x1 x2 x3 x4 x5 l6 l7 = some (r8, r9, x10, x11) → O.C 30 [.ref 0 0] [.var [.pv (.str x1), .pv (.int .i64 x2), .vec 1 (List.length l6), .vec 2 (List.length l7), .pv (.int .i64 x3), .pv (.int .i64 x4), .pv (.int .i64 x5)], .row 32 4 (List.map Token.pv l6) true, .row 9 1 (List.map PV.str l7) true] = some ([.pv (.str r8), .pv (.bool r9)], [.var [.pv (.str x1), .pv (.int .i64 x2), .vec 1 (List.length l6), .vec 2 (List.length l7), .pv (.int .i64 x3), .pv (.int .i64 x10), .pv (.int .i64 x11)], .row 32 4 (List.map Token.pv l6) true, .row 9 1 (List.map PV.str l7) true])

def F31 (t1 : Token) (touches2 : Bool) (x3 : Str) (x4 : Int) (x5 : Int) (x6 : Int) (x7 : Int) (l8 : List Token) (l9 : List Str) : Option (Bool × Int × Int × (List Token)) :=
  (guardO (!(decide (t1.kind_ = 1)) && (decide (t1.kind_ = 2) && !decide (t1.text_ = []))) (sidx t1.text_ 0)).bind fun c14 =>
  (guardO (!(decide (t1.kind_ = 1)) && (decide (t1.kind_ = 2) && !decide (t1.text_ = []))) (L_IndexByte [36, 96] c14)).bind fun n17 =>
  (bif (touches2 && (decide (t1.kind_ = 1) || ((decide (t1.kind_ = 2) && !decide (t1.text_ = [])) && decide (0 ≤ n17)))) then
    (F25x1 (Token.mk 2 t1.at_ [94] []) x3 x4 x5 x6 x7 l8 l9).bind fun (r20, x21, x22, o23) =>
    (bif !r20 then
      some (false, x21, x22, o23)
    else
      (F25x1 t1 x3 x4 x5 x21 x22 o23 l9).bind fun (r28, x29, x30, o31) =>
      some (r28, x29, x30, o31))
  else
    (F25x1 t1 x3 x4 x5 x6 x7 l8 l9).bind fun (r21, x22, x23, o24) =>
    some (r21, x22, x23, o24))

def C_F31 (O : Orc) : Prop := ∀ (t1 : Token) (touches2 : Bool) (x3 : Str) (x4 : Int) (x5 : Int) (x6 : Int) (x7 : Int) (l8 : List Token) (l9 : List Str) (r10 : Bool) (x11 : Int) (x12 : Int) (o13 : List Token), F31 t1 touches2 x3 x4 x5 x6 x7 l8 l9 = some (r10, x11, x12, o13) → O.C 31 [.ref 0 0, .pv (.agg [.int .i64 t1.kind_, .int .i64 t1.at_, .str t1.text_, .str t1.quoted_]), .pv (.bool touches2)] [.var [.pv (.str x3), .pv (.int .i64 x4), .vec 1 (List.length l8), .vec 2 (List.length l9), .pv (.int .i64 x5), .pv (.int .i64 x6), .pv (.int .i64 x7)], .row 32 4 (List.map Token.pv l8) true, .row 9 1 (List.map PV.str l9) true] = some ([.pv (.bool r10)], [.var [.pv (.str x3), .pv (.int .i64 x4), .vec 1 (List.length o13), .vec 2 (List.length l9), .pv (.int .i64 x5), .pv (.int .i64 x11), .pv (.int .i64 x12)], .row 32 4 (List.map Token.pv o13) true, .row 9 1 (List.map PV.str l9) true])

def F52 (c1 : Int) : Option Bool :=
  some (((((decide (97 ≤ c1) && decide (c1 ≤ 122)) || (decide (65 ≤ c1) && decide (c1 ≤ 90))) || (decide (48 ≤ c1) && decide (c1 ≤ 57))) || decide (c1 = 95)) || decide (c1 = 42))

def C_F52 (O : Orc) : Prop := ∀ (c1 : Int) (r2 : Bool), F52 c1 = some r2 → O.C 52 [.pv (.int .u8 c1)] [] = some ([.pv (.bool r2)], [])

def F32_b1 (x1 : Str) (x2 : Int) (x3 : Int) (x4 : Int) (x5 : Int) (l6 : List Token) (l7 : List Str) (again14 : Int → Option (Bool × Int × Int × Int × (List Token))) : Int → Option (Bool × Int × Int × Int × (List Token)) := fun x13 =>
  (guardO (decide (x13 < (x1.length : Int))) (sidx x1 x13)).bind fun c17 =>
  (guardO (decide (x13 < (x1.length : Int))) (F52 c17)).bind fun r20 =>
  (bif (decide (x13 < (x1.length : Int)) && r20) then
    again14 (IntKind.wrap .i64 (x13 + 1))
  else
    (bif decide (x13 = x2) then
      (F26x2 x2 47 x1 x13 x3 x4 x5 l6 l7).bind fun (r25, x26, x27) =>
      some (r25, x13, x26, x27, l6)
    else
      (sslice x1 x2 x13).bind fun t31 =>
      (L_Repeat [48] (t31.length : Int)).bind fun t34 =>
      (F25x1 (Token.mk 1 x2 t31 t34) x1 x13 x3 x4 x5 l6 l7).bind fun (r37, x38, x39, o40) =>
      some (r37, x13, x38, x39, o40)))

def F32 (x1 : Str) (x2 : Int) (x3 : Int) (x4 : Int) (x5 : Int) (l6 : List Token) (l7 : List Str) : Option (Bool × Int × Int × Int × (List Token)) :=
  iter (F32_b1 x1 x2 x3 x4 x5 l6 l7) BIG x2

def C_F32 (O : Orc) : Prop := ∀ (x1 : Str) (x2 : Int) (x3 : Int) (x4 : Int) (x5 : Int) (l6 : List Token) (l7 : List Str) (r8 : Bool) (x9 : Int) (x10 : Int) (x11 : Int) (o12 : List Token), F32 x1 x2 x3 x4 x5 l6 l7 = some (r8, x9, x10, x11, o12) → O.C 32 [.ref 0 0] [.var [.pv (.str x1), .pv (.int .i64 x2), .vec 1 (List.length l6), .vec 2 (List.length l7), .pv (.int .i64 x3), .pv (.int .i64 x4), .pv (.int .i64 x5)], .row 32 4 (List.map Token.pv l6) true, .row 9 1 (List.map PV.str l7) true] = some ([.pv (.bool r8)], [.var [.pv (.str x1), .pv (.int .i64 x9), .vec 1 (List.length o12), .vec 2 (List.length l7), .pv (.int .i64 x3), .pv (.int .i64 x10), .pv (.int .i64 x11)], .row 32 4 (List.map Token.pv o12) true, .row 9 1 (List.map PV.str l7) true])

def F17 (x1 : Str) (x2 : Int) (x3 : Int) (x4 : Int) (x5 : Int) (l6 : List Token) (l7 : List Str) : Option (Bool × Int × Int × Int × (List Token)) :=
  (F29 x1 x2 x3 x4 x5 l6 l7).bind fun r13 =>
  (F30 x1 x2 x3 x4 x5 l6 l7).bind fun (r17, r18, x19, x20) =>
  (bif !r18 then
    some (false, x2, x19, x20, l6)
  else
    (bif !decide (r17 = []) then
      (F31 (Token.mk 2 x2 r17 []) r13 x1 (IntKind.wrap .i64 (x2 + (r17.length : Int))) x3 x19 x20 l6 l7).bind fun (r26, x27, x28, o29) =>
      (bif !r26 then
        some (false, (IntKind.wrap .i64 (x2 + (r17.length : Int))), x27, x28, o29)
      else
        (bif (decide (r17 = [36]) || decide (r17 = [36, 35])) then
          (F32 x1 (IntKind.wrap .i64 (x2 + (r17.length : Int))) x3 x27 x28 o29 l7).bind fun (r35, x36, x37, x38, o39) =>
          some (r35, x36, x37, x38, o39)
        else
          some (true, (IntKind.wrap .i64 (x2 + (r17.length : Int))), x27, x28, o29)))
    else
      (F28x1 x1 x2 x3 x19 x20 l6 l7).bind fun (r43, r44, r45, x46, x47, x48) =>
      (bif r45 then
        (F31 (Token.mk 1 x2 r43 r44) r13 x1 x46 x3 x47 x48 l6 l7).bind fun (r52, x53, x54, o55) =>
        some (r52, x46, x53, x54, o55)
      else
        some (false, x46, x47, x48, l6))))

def C_F17 (O : Orc) : Prop := ∀ (x1 : Str) (x2 : Int) (x3 : Int) (x4 : Int) (x5 : Int) (l6 : List Token) (l7 : List Str) (r8 : Bool) (x9 : Int) (x10 : Int) (x11 : Int) (o12 : List Token), F17 x1 x2 x3 x4 x5 l6 l7 = some (r8, x9, x10, x11, o12) → O.C 17 [.ref 0 0] [.var [.pv (.str x1), .pv (.int .i64 x2), .vec 1 (List.length l6), .vec 2 (List.length l7), .pv (.int .i64 x3), .pv (.int .i64 x4), .pv (.int .i64 x5)], .row 32 4 (List.map Token.pv l6) true, .row 9 1 (List.map PV.str l7) true] = some ([.pv (.bool r8)], [.var [.pv (.str x1), .pv (.int .i64 x9), .vec 1 (List.length o12), .vec 2 (List.length l7), .pv (.int .i64 x3), .pv (.int .i64 x10), .pv (.int .i64 x11)], .row 32 4 (List.map Token.pv o12) true, .row 9 1 (List.map PV.str l7) true])

def F5_b1 (s1 : Str) (again12 : (Int × Int × Int × Int × (List Token) × (List Str)) → Option ((List Token) × Int × Int)) : (Int × Int × Int × Int × (List Token) × (List Str)) → Option ((List Token) × Int × Int) := fun (x6, x7, x8, x9, l10, l11) =>
  (bif decide (x9 = 0) then
    (F11x2 s1 x6 x6 x8 x9 l10 l11).bind fun x16 =>
    (F12x2 s1 x16 x6 x8 x9 l10 l11).bind fun r20 =>
    (bif decide (r20 = []) then
      (bif decide (0 < (l11.length : Int)) then
        some ([], (s1.length : Int), 3)
      else
        some (l10, 0, 0))
    else
      (sidx r20 0).bind fun c26 =>
      (bif decide (c26 = 35) then
        (L_IndexByte r20 10).bind fun n30 =>
        (bif decide (0 ≤ n30) then
          again12 (IntKind.wrap .i64 ((IntKind.wrap .i64 (x16 + (r20.length : Int))) + (IntKind.wrap .i64 (n30 - (r20.length : Int)))), x6, x8, x9, l10, l11)
        else
          again12 (IntKind.wrap .i64 (x16 + (r20.length : Int)), x6, x8, x9, l10, l11))
      else
        (bif decide (c26 = 10) then
          (F14x1 s1 x16 x6 x8 x9 l10 l11).bind fun (tag35, r36, x37, x38, x39, o40) =>
          (bif tag35 then
            again12 (x37, x6, x38, x39, o40, ([] : List Str))
          else
            again12 (x37, x6, x38, x39, o40, l11))
        else
          (F15 r20 [60, 60]).bind fun r44 =>
          (bif r44 then
            (F16 s1 x16 x6 x8 x9 l10 l11).bind fun (r48, x49, x50, x51, o52, o53) =>
            again12 (x49, x6, x50, x51, o52, o53)
          else
            (F17 s1 x16 x6 x8 x9 l10 l11).bind fun (r57, x58, x59, x60, o61) =>
            again12 (x58, x6, x59, x60, o61, l11)))))
  else
    some ([], x8, x9))

def F5 (s1 : Str) : Option ((List Token) × Int × Int) :=
  (bif decide (65536 < (s1.length : Int)) then
    some ([], 0, 4)
  else
    iter (F5_b1 s1) BIG (0, 0, 0, 0, ([] : List Token), ([] : List Str)))

def C_F5 (O : Orc) : Prop := ∀ (s1 : Str) (r2 : List Token) (r3 : Int) (r4 : Int), F5 s1 = some (r2, r3, r4) → O.C 5 [.pv (.str s1)] [] = some ([.pv (.slice (List.map Token.pv r2)), .pv (.int .i64 r3), .pv (.int .i64 r4)], [])

def F10_b1 (s1 : Str) (again11 : Nat → Option Bool) : Nat → Option Bool := fun p10 =>
  (bif decide (p10 < s1.length) then
    (sidx s1 (p10 : Int)).bind fun c16 =>
    (L_IndexByte [32, 9, 10, 59, 38, 124, 40, 41, 123, 125, 60, 62, 61, 94, 96, 36, 39, 92, 42, 63, 91] c16).bind fun n19 =>
    (bif decide (0 ≤ n19) then
      some false
    else
      again11 (runeN s1 p10))
  else
    some true)

def F10 (s1 : Str) : Option Bool :=
  (guardO (!(decide (s1 = []))) (sidx s1 0)).bind fun c3 =>
  (guardO (!(decide (s1 = []))) (L_IndexByte [35, 33, 64] c3)).bind fun n6 =>
  (bif (decide (s1 = []) || decide (0 ≤ n6)) then
    some false
  else
    iter (F10_b1 s1) BIG 0)

def C_F10 (O : Orc) : Prop := ∀ (s1 : Str) (r2 : Bool), F10 s1 = some r2 → O.C 10 [.pv (.str s1)] [] = some ([.pv (.bool r2)], [])

def F9 (s1 : Str) : Option Str :=
  (F10 s1).bind fun r3 =>
  (bif r3 then
    some s1
  else
    (L_ReplaceAll s1 [39] [39, 39]).bind fun t7 =>
    (catO [39] t7).bind fun s10 =>
    (catO s10 [39]).bind fun s13 =>
    some s13)

def C_F9 (O : Orc) : Prop := ∀ (s1 : Str) (r2 : Str), F9 s1 = some r2 → O.C 9 [.pv (.str s1)] [] = some ([.pv (.str r2)], [])

def F4 : Option Bool :=
  (F5 [101, 99, 104, 111, 32, 36, 120, 46, 99]).bind fun (r2, r3, r4) =>
  (F5 [99, 97, 116, 32, 60, 60, 69, 10, 120, 10, 69, 10, 108, 115]).bind fun (r7, r8, r9) =>
  (F5 [97, 62, 91, 54, 52, 93, 98]).bind fun (r12, r13, r14) =>
  (F5 [97, 39, 98]).bind fun (r17, r18, r19) =>
  (F8 [97, 10, 98, 10, 69, 79, 70, 10, 99] 0 [69, 79, 70]).bind fun (r22, r23, r24) =>
  (bif (!decide ((r2.length : Int) = 5) || !decide ((r7.length : Int) = 4)) then
    some false
  else
    (lidx r2 3).bind fun u28 =>
    (guardO (decide (u28.kind_ = 2) && (decide (u28.at_ = 7) && (decide (u28.text_ = [94]) && (decide (u28.quoted_ = []))))) (lidx r2 4)).bind fun u31 =>
    (guardO (((((decide (u28.kind_ = 2) && (decide (u28.at_ = 7) && (decide (u28.text_ = [94]) && (decide (u28.quoted_ = []))))) && (decide (u31.kind_ = 1) && (decide (u31.at_ = 7) && (decide (u31.text_ = [46, 99]) && (decide (u31.quoted_ = [48, 48])))))) && decide (r3 = 0)) && decide (r4 = 0)) && decide (r9 = 0)) (lidx r7 1)).bind fun u34 =>
    (guardO (((((((decide (u28.kind_ = 2) && (decide (u28.at_ = 7) && (decide (u28.text_ = [94]) && (decide (u28.quoted_ = []))))) && (decide (u31.kind_ = 1) && (decide (u31.at_ = 7) && (decide (u31.text_ = [46, 99]) && (decide (u31.quoted_ = [48, 48])))))) && decide (r3 = 0)) && decide (r4 = 0)) && decide (r9 = 0)) && decide (u34.kind_ = 4)) && decide (u34.text_ = [69])) (lidx r7 3)).bind fun u37 =>
    (guardO (((((((((((((((decide (u28.kind_ = 2) && (decide (u28.at_ = 7) && (decide (u28.text_ = [94]) && (decide (u28.quoted_ = []))))) && (decide (u31.kind_ = 1) && (decide (u31.at_ = 7) && (decide (u31.text_ = [46, 99]) && (decide (u31.quoted_ = [48, 48])))))) && decide (r3 = 0)) && decide (r4 = 0)) && decide (r9 = 0)) && decide (u34.kind_ = 4)) && decide (u34.text_ = [69])) && decide (u37.at_ = 12)) && decide (r13 = 2)) && decide (r14 = 47)) && decide (r18 = 1)) && decide (r19 = 48)) && decide (r22 = [97, 10, 98, 10])) && decide (r23 = 8)) && decide (r24 = 0)) (F9 [105, 116, 39, 115])).bind fun r40 =>
    (guardO ((((((((((((((((decide (u28.kind_ = 2) && (decide (u28.at_ = 7) && (decide (u28.text_ = [94]) && (decide (u28.quoted_ = []))))) && (decide (u31.kind_ = 1) && (decide (u31.at_ = 7) && (decide (u31.text_ = [46, 99]) && (decide (u31.quoted_ = [48, 48])))))) && decide (r3 = 0)) && decide (r4 = 0)) && decide (r9 = 0)) && decide (u34.kind_ = 4)) && decide (u34.text_ = [69])) && decide (u37.at_ = 12)) && decide (r13 = 2)) && decide (r14 = 47)) && decide (r18 = 1)) && decide (r19 = 48)) && decide (r22 = [97, 10, 98, 10])) && decide (r23 = 8)) && decide (r24 = 0)) && decide (r40 = [39, 105, 116, 39, 39, 115, 39])) (F9 [97])).bind fun r43 =>
    (guardO (((((((((((((((((decide (u28.kind_ = 2) && (decide (u28.at_ = 7) && (decide (u28.text_ = [94]) && (decide (u28.quoted_ = []))))) && (decide (u31.kind_ = 1) && (decide (u31.at_ = 7) && (decide (u31.text_ = [46, 99]) && (decide (u31.quoted_ = [48, 48])))))) && decide (r3 = 0)) && decide (r4 = 0)) && decide (r9 = 0)) && decide (u34.kind_ = 4)) && decide (u34.text_ = [69])) && decide (u37.at_ = 12)) && decide (r13 = 2)) && decide (r14 = 47)) && decide (r18 = 1)) && decide (r19 = 48)) && decide (r22 = [97, 10, 98, 10])) && decide (r23 = 8)) && decide (r24 = 0)) && decide (r40 = [39, 105, 116, 39, 39, 115, 39])) && decide (r43 = [97])) (F10 [42])).bind fun r46 =>
    (guardO ((((((((((((((((((decide (u28.kind_ = 2) && (decide (u28.at_ = 7) && (decide (u28.text_ = [94]) && (decide (u28.quoted_ = []))))) && (decide (u31.kind_ = 1) && (decide (u31.at_ = 7) && (decide (u31.text_ = [46, 99]) && (decide (u31.quoted_ = [48, 48])))))) && decide (r3 = 0)) && decide (r4 = 0)) && decide (r9 = 0)) && decide (u34.kind_ = 4)) && decide (u34.text_ = [69])) && decide (u37.at_ = 12)) && decide (r13 = 2)) && decide (r14 = 47)) && decide (r18 = 1)) && decide (r19 = 48)) && decide (r22 = [97, 10, 98, 10])) && decide (r23 = 8)) && decide (r24 = 0)) && decide (r40 = [39, 105, 116, 39, 39, 115, 39])) && decide (r43 = [97])) && !r46) (F10 [97, 33, 98])).bind fun r49 =>
    some (((((((((((((((((((decide (u28.kind_ = 2) && (decide (u28.at_ = 7) && (decide (u28.text_ = [94]) && (decide (u28.quoted_ = []))))) && (decide (u31.kind_ = 1) && (decide (u31.at_ = 7) && (decide (u31.text_ = [46, 99]) && (decide (u31.quoted_ = [48, 48])))))) && decide (r3 = 0)) && decide (r4 = 0)) && decide (r9 = 0)) && decide (u34.kind_ = 4)) && decide (u34.text_ = [69])) && decide (u37.at_ = 12)) && decide (r13 = 2)) && decide (r14 = 47)) && decide (r18 = 1)) && decide (r19 = 48)) && decide (r22 = [97, 10, 98, 10])) && decide (r23 = 8)) && decide (r24 = 0)) && decide (r40 = [39, 105, 116, 39, 39, 115, 39])) && decide (r43 = [97])) && !r46) && r49))

def C_F4 (O : Orc) : Prop := ∀  (r1 : Bool), F4 = some r1 → O.C 4 [] [] = some ([.pv (.bool r1)], [])

def F53 (c1 : Int) : Option Bool :=
  some (((((decide (97 ≤ c1) && decide (c1 ≤ 122)) || (decide (65 ≤ c1) && decide (c1 ≤ 90))) || (decide (48 ≤ c1) && decide (c1 ≤ 57))) || decide (c1 = 95)) || decide (c1 = 42))

def C_F53 (O : Orc) : Prop := ∀ (c1 : Int) (r2 : Bool), F53 c1 = some r2 → O.C 53 [.pv (.int .u8 c1)] [] = some ([.pv (.bool r2)], [])

def F19 (xat1 : Int) (xend2 : Int) (xname3 : Bool) (xe4 : Int) (xoff5 : Int) (e6 : Int) (off7 : Int) (l8 : List Token) (l9 : List Str) : Option (Int × Int × Bool × Int × Int) :=
  some (xat1, xend2, xname3, (bif decide (xe4 = 0) then e6 else xe4), (bif decide (xe4 = 0) then off7 else xoff5))

def C_F19 (O : Orc) : Prop := ∀ (xat1 : Int) (xend2 : Int) (xname3 : Bool) (xe4 : Int) (xoff5 : Int) (e6 : Int) (off7 : Int) (l8 : List Token) (l9 : List Str) (at10 : Int) (end11 : Int) (name12 : Bool) (e13 : Int) (off14 : Int), F19 xat1 xend2 xname3 xe4 xoff5 e6 off7 l8 l9 = some (at10, end11, name12, e13, off14) → O.C 19 [.agg [.pv (.int .i64 xat1), .vec 0 (List.length l8), .pv (.int .i64 xend2), .pv (.bool xname3), .vec 1 (List.length l9), .pv (.int .i64 xe4), .pv (.int .i64 xoff5)], .pv (.int .i64 e6), .pv (.int .i64 off7)] [.row 32 4 (List.map Token.pv l8) true, .row 9 1 (List.map PV.str l9) true] = some ([.agg [.pv (.int .i64 at10), .vec 0 (List.length l8), .pv (.int .i64 end11), .pv (.bool name12), .vec 1 (List.length l9), .pv (.int .i64 e13), .pv (.int .i64 off14)]], [.row 32 4 (List.map Token.pv l8) true, .row 9 1 (List.map PV.str l9) true])

def F35 (xat1 : Int) (xend2 : Int) (xname3 : Bool) (xe4 : Int) (xoff5 : Int) (t6 : Token) (l7 : List Token) (l8 : List Str) : Option (Int × Int × Bool × Int × Int × (List Token)) :=
  (bif decide (1024 ≤ (l7.length : Int)) then
    (F19 xat1 xend2 xname3 xe4 xoff5 4 t6.at_ l7 l8).bind fun (at16, end17, name18, e19, off20) =>
    some (at16, end17, name18, e19, off20, l7)
  else
    (appO 48 l7 [t6]).bind fun out24 =>
    some (xat1, xend2, xname3, xe4, xoff5, out24))

def C_F35 (O : Orc) : Prop := ∀ (xat1 : Int) (xend2 : Int) (xname3 : Bool) (xe4 : Int) (xoff5 : Int) (t6 : Token) (l7 : List Token) (l8 : List Str) (at9 : Int) (end10 : Int) (name11 : Bool) (e12 : Int) (off13 : Int) (o14 : List Token), F35 xat1 xend2 xname3 xe4 xoff5 t6 l7 l8 = some (at9, end10, name11, e12, off13, o14) → O.C 35 [.agg [.pv (.int .i64 xat1), .vec 0 (List.length l7), .pv (.int .i64 xend2), .pv (.bool xname3), .vec 1 (List.length l8), .pv (.int .i64 xe4), .pv (.int .i64 xoff5)], .pv (.agg [.int .i64 t6.kind_, .int .i64 t6.at_, .str t6.text_, .str t6.quoted_])] [.row 32 4 (List.map Token.pv l7) true, .row 9 1 (List.map PV.str l8) true] = some ([.agg [.pv (.int .i64 at9), .vec 0 (List.length o14), .pv (.int .i64 end10), .pv (.bool name11), .vec 1 (List.length l8), .pv (.int .i64 e12), .pv (.int .i64 off13)]], [.row 32 4 (List.map Token.pv o14) true, .row 9 1 (List.map PV.str l8) true])

def F33_b1 (s1 : Str) (xat2 : Int) (xend3 : Int) (xname4 : Bool) (xe5 : Int) (xoff6 : Int) (l7 : List Token) (l8 : List Str) (again17 : (Int × Str) → Option (Int × Int × Bool × Int × Int × (List Token))) : (Int × Str) → Option (Int × Int × Bool × Int × Int × (List Token)) := fun (to15, marks16) =>
  (guardO (decide (to15 < (s1.length : Int))) (sidx s1 to15)).bind fun c20 =>
  (guardO (decide (to15 < (s1.length : Int))) (F53 c20)).bind fun r23 =>
  (bif (decide (to15 < (s1.length : Int)) && r23) then
    (catO marks16 [48]).bind fun s27 =>
    again17 (IntKind.wrap .i64 (to15 + 1), s27)
  else
    (bif decide (to15 = xat2) then
      (F19 xat2 xend3 xname4 xe5 xoff6 47 xat2 l7 l8).bind fun (at31, end32, name33, e34, off35) =>
      some (at31, end32, name33, e34, off35, l7)
    else
      (sslice s1 xat2 to15).bind fun t39 =>
      (F35 xat2 xend3 xname4 xe5 xoff6 (Token.mk 1 xat2 t39 marks16) l7 l8).bind fun (at42, end43, name44, e45, off46, o47) =>
      some (to15, to15, false, e45, off46, o47)))

def F33 (s1 : Str) (xat2 : Int) (xend3 : Int) (xname4 : Bool) (xe5 : Int) (xoff6 : Int) (l7 : List Token) (l8 : List Str) : Option (Int × Int × Bool × Int × Int × (List Token)) :=
  iter (F33_b1 s1 xat2 xend3 xname4 xe5 xoff6 l7 l8) BIG (xat2, [])

def C_F33 (O : Orc) : Prop := ∀ (s1 : Str) (xat2 : Int) (xend3 : Int) (xname4 : Bool) (xe5 : Int) (xoff6 : Int) (l7 : List Token) (l8 : List Str) (at9 : Int) (end10 : Int) (name11 : Bool) (e12 : Int) (off13 : Int) (o14 : List Token), F33 s1 xat2 xend3 xname4 xe5 xoff6 l7 l8 = some (at9, end10, name11, e12, off13, o14) → O.C 33 [.pv (.str s1), .agg [.pv (.int .i64 xat2), .vec 0 (List.length l7), .pv (.int .i64 xend3), .pv (.bool xname4), .vec 1 (List.length l8), .pv (.int .i64 xe5), .pv (.int .i64 xoff6)]] [.row 32 4 (List.map Token.pv l7) true, .row 9 1 (List.map PV.str l8) true] = some ([.agg [.pv (.int .i64 at9), .vec 0 (List.length o14), .pv (.int .i64 end10), .pv (.bool name11), .vec 1 (List.length l8), .pv (.int .i64 e12), .pv (.int .i64 off13)]], [.row 32 4 (List.map Token.pv o14) true, .row 9 1 (List.map PV.str l8) true])

def F34 (s1 : Str) (at2 : Int) : Option Int :=
  (guardO (decide (at2 < (s1.length : Int))) (sidx s1 at2)).bind fun c4 =>
  (bif (decide (at2 < (s1.length : Int)) && (decide (c4 = 32) || decide (c4 = 9))) then
    some 1
  else
    (guardO (decide (IntKind.wrap .i64 (at2 + 1) < (s1.length : Int))) (sidx s1 at2)).bind fun c8 =>
    (guardO (decide (IntKind.wrap .i64 (at2 + 1) < (s1.length : Int)) && decide (c8 = 92)) (sidx s1 (IntKind.wrap .i64 (at2 + 1)))).bind fun c11 =>
    (bif ((decide (IntKind.wrap .i64 (at2 + 1) < (s1.length : Int)) && decide (c8 = 92)) && decide (c11 = 10)) then
      some 2
    else
      some 0))

def C_F34 (O : Orc) : Prop := ∀ (s1 : Str) (at2 : Int) (r3 : Int), F34 s1 at2 = some r3 → O.C 34 [.pv (.str s1), .pv (.int .i64 at2)] [] = some ([.pv (.int .i64 r3)], [])

def F54_b3 (s1 : Str) (from8 : Int) (end3 : Str) (at2 : Int) (again9 : (Int) → Option (Str × Int × Int)) (again14 : Int → Option (Str × Int × Int)) : Int → Option (Str × Int × Int) := fun to13 =>
  (guardO (decide (to13 < (s1.length : Int))) (sidx s1 to13)).bind fun c17 =>
  (bif (decide (to13 < (s1.length : Int)) && !decide (c17 = 10)) then
    again14 (IntKind.wrap .i64 (to13 + 1))
  else
    (sslice s1 from8 to13).bind fun t21 =>
    (bif decide (t21 = end3) then
      (sslice s1 at2 from8).bind fun t25 =>
      some (t25, imin (IntKind.wrap .i64 (to13 + 1)) (s1.length : Int), 0)
    else
      again9 (IntKind.wrap .i64 (to13 + 1))))

def F54_b2 (s1 : Str) (end3 : Str) (at2 : Int) (again9 : Int → Option (Str × Int × Int)) : Int → Option (Str × Int × Int) := fun from8 =>
  (bif decide (from8 < (s1.length : Int)) then
    iter (F54_b3 s1 from8 end3 at2 again9) BIG from8
  else
    some ([], 0, 3))

def F54 (s1 : Str) (at2 : Int) (end3 : Str) : Option (Str × Int × Int) :=
  (bif (decide (at2 < 0) || decide ((s1.length : Int) < at2)) then
    some ([], 0, 1)
  else
    iter (F54_b2 s1 end3 at2) BIG at2)

def C_F54 (O : Orc) : Prop := ∀ (s1 : Str) (at2 : Int) (end3 : Str) (r4 : Str) (r5 : Int) (r6 : Int), F54 s1 at2 end3 = some (r4, r5, r6) → O.C 54 [.pv (.str s1), .pv (.int .i64 at2), .pv (.str end3)] [] = some ([.pv (.str r4), .pv (.int .i64 r5), .pv (.int .i64 r6)], [])

def F36_b1 (l8 : List Str) (s1 : Str) (l7 : List Token) (again20 : (Int × Int × Int × Bool × Int × Int) → Option (Int × Int × Bool × Int × Int)) : (Int × Int × Int × Bool × Int × Int) → Option (Int × Int × Bool × Int × Int) := fun (i14, x15, x16, x17, x18, x19) =>
  (bif (decide (i14 < (l8.length : Int)) && decide (x18 = 0)) then
    (lidx l8 i14).bind fun w24 =>
    (F54 s1 x15 w24).bind fun (r27, r28, r29) =>
    (bif !decide (r29 = 0) then
      (F19 x15 x16 x17 x18 x19 r29 x15 l7 l8).bind fun (at33, end34, name35, e36, off37) =>
      again20 (IntKind.wrap .i64 (i14 + 1), at33, end34, name35, e36, off37)
    else
      again20 (IntKind.wrap .i64 (i14 + 1), r28, x16, x17, x18, x19))
  else
    some (x15, x16, x17, x18, x19))

def F36 (s1 : Str) (xat2 : Int) (xend3 : Int) (xname4 : Bool) (xe5 : Int) (xoff6 : Int) (l7 : List Token) (l8 : List Str) : Option (Int × Int × Bool × Int × Int) :=
  iter (F36_b1 l8 s1 l7) BIG (0, xat2, xend3, xname4, xe5, xoff6)

def C_F36 (O : Orc) : Prop := ∀ (s1 : Str) (xat2 : Int) (xend3 : Int) (xname4 : Bool) (xe5 : Int) (xoff6 : Int) (l7 : List Token) (l8 : List Str) (at9 : Int) (end10 : Int) (name11 : Bool) (e12 : Int) (off13 : Int), F36 s1 xat2 xend3 xname4 xe5 xoff6 l7 l8 = some (at9, end10, name11, e12, off13) → O.C 36 [.pv (.str s1), .agg [.pv (.int .i64 xat2), .vec 0 (List.length l7), .pv (.int .i64 xend3), .pv (.bool xname4), .vec 1 (List.length l8), .pv (.int .i64 xe5), .pv (.int .i64 xoff6)]] [.row 32 4 (List.map Token.pv l7) true, .row 9 1 (List.map PV.str l8) true] = some ([.agg [.pv (.int .i64 at9), .vec 0 (List.length l7), .pv (.int .i64 end10), .pv (.bool name11), .nils, .pv (.int .i64 e12), .pv (.int .i64 off13)]], [.row 32 4 (List.map Token.pv l7) true, .row 9 1 (List.map PV.str l8) true])

def F55_b1 (all2 : Str) (c1 : Int) (again5 : Int → Option Bool) : Int → Option Bool := fun i4 =>
  (bif decide (i4 < (all2.length : Int)) then
    (sidx all2 i4).bind fun c9 =>
    (bif decide (c9 = c1) then
      some true
    else
      again5 (IntKind.wrap .i64 (i4 + 1)))
  else
    some false)

def F55 (c1 : Int) (all2 : Str) : Option Bool :=
  iter (F55_b1 all2 c1) BIG 0

def C_F55 (O : Orc) : Prop := ∀ (c1 : Int) (all2 : Str) (r3 : Bool), F55 c1 all2 = some r3 → O.C 55 [.pv (.int .u8 c1), .pv (.str all2)] [] = some ([.pv (.bool r3)], [])

def F57 (s1 : Str) (at2 : Int) : Option Bool :=
  (guardO (decide (at2 < (s1.length : Int))) (F34 s1 at2)).bind fun r4 =>
  (guardO (decide (at2 < (s1.length : Int)) && decide (r4 = 0)) (sidx s1 at2)).bind fun c7 =>
  (guardO (decide (at2 < (s1.length : Int)) && decide (r4 = 0)) (F55 c7 [10, 59, 38, 124, 40, 41, 123, 125, 60, 62, 61, 94, 96, 36, 39])).bind fun r10 =>
  some ((decide (at2 < (s1.length : Int)) && decide (r4 = 0)) && !r10)

def C_F57 (O : Orc) : Prop := ∀ (s1 : Str) (at2 : Int) (r3 : Bool), F57 s1 at2 = some r3 → O.C 57 [.pv (.str s1), .pv (.int .i64 at2)] [] = some ([.pv (.bool r3)], [])

def F58_j3 (s1 : Str) (x5 : Str) (x6 : Str) (again7 : (Int × Str × Str) → Option Part) : Int → Option Part := fun i11 =>
  (sslice s1 i11 (IntKind.wrap .i64 (i11 + 1))).bind fun t12 =>
  (catO x5 t12).bind fun s15 =>
  (catO x6 [49]).bind fun s18 =>
  again7 (IntKind.wrap .i64 (i11 + 1), s15, s18)

def F58_b2 (s1 : Str) (at2 : Int) (again7 : (Int × Str × Str) → Option Part) : (Int × Str × Str) → Option Part := fun (i4, x5, x6) =>
  (bif decide (i4 < (s1.length : Int)) then
    (sidx s1 i4).bind fun c21 =>
    (bif decide (c21 = 39) then
      (guardO (!(decide (IntKind.wrap .i64 (i4 + 1) = (s1.length : Int)))) (sidx s1 (IntKind.wrap .i64 (i4 + 1)))).bind fun c25 =>
      (bif (decide (IntKind.wrap .i64 (i4 + 1) = (s1.length : Int)) || !decide (c25 = 39)) then
        some (Part.mk x5 x6 (IntKind.wrap .i64 (i4 + 1)) true)
      else
        F58_j3 s1 x5 x6 again7 (IntKind.wrap .i64 (i4 + 1)))
    else
      F58_j3 s1 x5 x6 again7 i4)
  else
    some (Part.mk [] [] at2 false))

def F58 (s1 : Str) (at2 : Int) : Option Part :=
  iter (F58_b2 s1 at2) BIG (IntKind.wrap .i64 (at2 + 1), [], [])

def C_F58 (O : Orc) : Prop := ∀ (s1 : Str) (at2 : Int) (r3 : Part), F58 s1 at2 = some r3 → O.C 58 [.pv (.str s1), .pv (.int .i64 at2)] [] = some ([.pv (.agg [.str r3.text_, .str r3.quoted_, .int .i64 r3.to_, .bool r3.ok_])], [])

def F40_b1 (s1 : Str) (again8 : (Str × Str × Int × Bool) → Option Part) : (Str × Str × Int × Bool) → Option Part := fun (x4, x5, x6, x7) =>
  (F57 s1 x6).bind fun r11 =>
  (guardO (!r11 && decide (x6 < (s1.length : Int))) (sidx s1 x6)).bind fun c14 =>
  (bif (r11 || (decide (x6 < (s1.length : Int)) && decide (c14 = 39))) then
    (sidx s1 x6).bind fun c18 =>
    (bif decide (c18 = 39) then
      (F58 s1 x6).bind fun r22 =>
      (bif !r22.ok_ then
        some r22
      else
        (catO x4 r22.text_).bind fun s26 =>
        (catO x5 r22.quoted_).bind fun s29 =>
        again8 (s26, s29, r22.to_, true))
    else
      (sslice s1 x6 (IntKind.wrap .i64 (x6 + 1))).bind fun t32 =>
      (catO x4 t32).bind fun s35 =>
      (catO x5 [48]).bind fun s38 =>
      again8 (s35, s38, IntKind.wrap .i64 (x6 + 1), true))
  else
    some (Part.mk x4 x5 x6 x7))

def F40 (s1 : Str) (at2 : Int) : Option Part :=
  iter (F40_b1 s1) BIG ([], [], at2, true)

def C_F40 (O : Orc) : Prop := ∀ (s1 : Str) (at2 : Int) (r3 : Part), F40 s1 at2 = some r3 → O.C 40 [.pv (.str s1), .pv (.int .i64 at2)] [] = some ([.pv (.agg [.str r3.text_, .str r3.quoted_, .int .i64 r3.to_, .bool r3.ok_])], [])

def F37_b1 (s1 : Str) (xat2 : Int) (xend3 : Int) (xname4 : Bool) (xe5 : Int) (xoff6 : Int) (l7 : List Token) (l8 : List Str) (again17 : Int → Option (Int × Int × Bool × Int × Int × (List Token) × (List Str))) : Int → Option (Int × Int × Bool × Int × Int × (List Token) × (List Str)) := fun to16 =>
  (F34 s1 to16).bind fun r20 =>
  (bif decide (0 < r20) then
    again17 (IntKind.wrap .i64 (to16 + r20))
  else
    (F40 s1 to16).bind fun r24 =>
    (bif !r24.ok_ then
      (F19 xat2 xend3 xname4 xe5 xoff6 48 r24.to_ l7 l8).bind fun (at28, end29, name30, e31, off32) =>
      some (at28, end29, name30, e31, off32, l7, l8)
    else
      (bif decide (r24.to_ = to16) then
        (F19 xat2 xend3 xname4 xe5 xoff6 47 to16 l7 l8).bind fun (at37, end38, name39, e40, off41) =>
        some (at37, end38, name39, e40, off41, l7, l8)
      else
        (F35 xat2 xend3 xname4 xe5 xoff6 (Token.mk 4 xat2 r24.text_ r24.quoted_) l7 l8).bind fun (at45, end46, name47, e48, off49, o50) =>
        (appO 16 l8 [r24.text_]).bind fun out54 =>
        some (r24.to_, (-1), name47, e48, off49, o50, out54))))

def F37 (s1 : Str) (xat2 : Int) (xend3 : Int) (xname4 : Bool) (xe5 : Int) (xoff6 : Int) (l7 : List Token) (l8 : List Str) : Option (Int × Int × Bool × Int × Int × (List Token) × (List Str)) :=
  iter (F37_b1 s1 xat2 xend3 xname4 xe5 xoff6 l7 l8) BIG (IntKind.wrap .i64 (xat2 + 2))

def C_F37 (O : Orc) : Prop := ∀ (s1 : Str) (xat2 : Int) (xend3 : Int) (xname4 : Bool) (xe5 : Int) (xoff6 : Int) (l7 : List Token) (l8 : List Str) (at9 : Int) (end10 : Int) (name11 : Bool) (e12 : Int) (off13 : Int) (o14 : List Token) (o15 : List Str), F37 s1 xat2 xend3 xname4 xe5 xoff6 l7 l8 = some (at9, end10, name11, e12, off13, o14, o15) → O.C 37 [.pv (.str s1), .agg [.pv (.int .i64 xat2), .vec 0 (List.length l7), .pv (.int .i64 xend3), .pv (.bool xname4), .vec 1 (List.length l8), .pv (.int .i64 xe5), .pv (.int .i64 xoff6)]] [.row 32 4 (List.map Token.pv l7) true, .row 9 1 (List.map PV.str l8) true] = some ([.agg [.pv (.int .i64 at9), .vec 0 (List.length o14), .pv (.int .i64 end10), .pv (.bool name11), .vec 1 (List.length o15), .pv (.int .i64 e12), .pv (.int .i64 off13)]], [.row 32 4 (List.map Token.pv o14) true, .row 9 1 (List.map PV.str o15) true])

def F68_b1 (s1 : Str) (at2 : Int) (again6 : (Int × Int) → Option Int) : (Int × Int) → Option Int := fun (n4, to5) =>
  (guardO (decide (to5 < (s1.length : Int))) (sidx s1 to5)).bind fun c9 =>
  (bif (((decide (to5 < (s1.length : Int)) && decide (48 ≤ c9)) && decide (c9 ≤ 57)) && decide (to5 < IntKind.wrap .i64 (at2 + 3))) then
    (sidx s1 to5).bind fun c13 =>
    again6 (IntKind.wrap .i64 ((IntKind.wrap .i64 (10 * n4)) + (IntKind.wrap .i64 (IntKind.wrap .u8 (c13 - 48)))), IntKind.wrap .i64 (to5 + 1))
  else
    (guardO (!(decide (to5 = at2) || decide (64 ≤ n4)) && decide (IntKind.wrap .i64 (at2 + 1) < to5)) (sidx s1 at2)).bind fun c16 =>
    (bif ((decide (to5 = at2) || decide (64 ≤ n4)) || (decide (IntKind.wrap .i64 (at2 + 1) < to5) && decide (c16 = 48))) then
      some (-1)
    else
      some to5))

def F68 (s1 : Str) (at2 : Int) : Option Int :=
  iter (F68_b1 s1 at2) BIG (0, at2)

def C_F68 (O : Orc) : Prop := ∀ (s1 : Str) (at2 : Int) (r3 : Int), F68 s1 at2 = some r3 → O.C 68 [.pv (.str s1), .pv (.int .i64 at2)] [] = some ([.pv (.int .i64 r3)], [])

def F56_j1 (s1 : Str) : Int → Option Int := fun to8 =>
  (guardO (!(decide (to8 < 0) || decide ((s1.length : Int) ≤ to8))) (sidx s1 to8)).bind fun c9 =>
  (bif ((decide (to8 < 0) || decide ((s1.length : Int) ≤ to8)) || !decide (c9 = 93)) then
    some (-1)
  else
    some (IntKind.wrap .i64 (to8 + 1)))

def F56 (s1 : Str) (at2 : Int) (equal3 : Bool) : Option Int :=
  (F68 s1 (IntKind.wrap .i64 (at2 + 1))).bind fun r5 =>
  (guardO (decide (0 ≤ r5) && decide (r5 < (s1.length : Int))) (sidx s1 r5)).bind fun c13 =>
  (bif (((decide (0 ≤ r5) && decide (r5 < (s1.length : Int))) && decide (c13 = 61)) && equal3) then
    (guardO (decide (IntKind.wrap .i64 (r5 + 1) < (s1.length : Int))) (sidx s1 (IntKind.wrap .i64 (r5 + 1)))).bind fun c17 =>
    (bif (decide (IntKind.wrap .i64 (r5 + 1) < (s1.length : Int)) && !decide (c17 = 93)) then
      (F68 s1 (IntKind.wrap .i64 (r5 + 1))).bind fun r21 =>
      F56_j1 s1 r21
    else
      F56_j1 s1 (IntKind.wrap .i64 (r5 + 1)))
  else
    F56_j1 s1 r5)

def C_F56 (O : Orc) : Prop := ∀ (s1 : Str) (at2 : Int) (equal3 : Bool) (r4 : Int), F56 s1 at2 equal3 = some r4 → O.C 56 [.pv (.str s1), .pv (.int .i64 at2), .pv (.bool equal3)] [] = some ([.pv (.int .i64 r4)], [])

def F38_j1 (at2 : Int) (s1 : Str) : Str → Option Int := fun two4 =>
  (bif ((decide (two4 = [38, 38]) || decide (two4 = [124, 124])) || decide (two4 = [36, 35])) then
    some (IntKind.wrap .i64 (at2 + 2))
  else
    (sidx s1 at2).bind fun c6 =>
    (F55 c6 [59, 38, 124, 40, 41, 123, 125, 60, 62, 61, 94, 96, 36, 33, 64]).bind fun r9 =>
    (bif !r9 then
      some at2
    else
      (F55 c6 [60, 62, 124]).bind fun r14 =>
      (guardO (r14 && decide ((bif decide (two4 = [62, 62]) then IntKind.wrap .i64 (at2 + 2) else IntKind.wrap .i64 (at2 + 1)) < (s1.length : Int))) (sidx s1 (bif decide (two4 = [62, 62]) then IntKind.wrap .i64 (at2 + 2) else IntKind.wrap .i64 (at2 + 1)))).bind fun c17 =>
      (bif ((r14 && decide ((bif decide (two4 = [62, 62]) then IntKind.wrap .i64 (at2 + 2) else IntKind.wrap .i64 (at2 + 1)) < (s1.length : Int))) && decide (c17 = 91)) then
        (F56 s1 (bif decide (two4 = [62, 62]) then IntKind.wrap .i64 (at2 + 2) else IntKind.wrap .i64 (at2 + 1)) (!decide (c6 = 124))).bind fun r21 =>
        some r21
      else
        some (bif decide (two4 = [62, 62]) then IntKind.wrap .i64 (at2 + 2) else IntKind.wrap .i64 (at2 + 1)))))

def F38 (s1 : Str) (at2 : Int) : Option Int :=
  (bif decide (IntKind.wrap .i64 (at2 + 2) ≤ (s1.length : Int)) then
    (sslice s1 at2 (IntKind.wrap .i64 (at2 + 2))).bind fun t25 =>
    F38_j1 at2 s1 t25
  else
    F38_j1 at2 s1 [])

def C_F38 (O : Orc) : Prop := ∀ (s1 : Str) (at2 : Int) (r3 : Int), F38 s1 at2 = some r3 → O.C 38 [.pv (.str s1), .pv (.int .i64 at2)] [] = some ([.pv (.int .i64 r3)], [])

def F39 (xat1 : Int) (xend2 : Int) (xname3 : Bool) (xe4 : Int) (xoff5 : Int) (l6 : List Token) (l7 : List Str) : Option (Int × Int × Bool × Int × Int × (List Token)) :=
  (bif decide (xend2 = xat1) then
    (F35 xat1 xend2 xname3 xe4 xoff5 (Token.mk 2 xat1 [94] []) l6 l7).bind fun (at15, end16, name17, e18, off19, o20) =>
    some (at15, end16, name17, e18, off19, o20)
  else
    some (xat1, xend2, xname3, xe4, xoff5, l6))

def C_F39 (O : Orc) : Prop := ∀ (xat1 : Int) (xend2 : Int) (xname3 : Bool) (xe4 : Int) (xoff5 : Int) (l6 : List Token) (l7 : List Str) (at8 : Int) (end9 : Int) (name10 : Bool) (e11 : Int) (off12 : Int) (o13 : List Token), F39 xat1 xend2 xname3 xe4 xoff5 l6 l7 = some (at8, end9, name10, e11, off12, o13) → O.C 39 [.agg [.pv (.int .i64 xat1), .vec 0 (List.length l6), .pv (.int .i64 xend2), .pv (.bool xname3), .vec 1 (List.length l7), .pv (.int .i64 xe4), .pv (.int .i64 xoff5)]] [.row 32 4 (List.map Token.pv l6) true, .row 9 1 (List.map PV.str l7) true] = some ([.agg [.pv (.int .i64 at8), .vec 0 (List.length o13), .pv (.int .i64 end9), .pv (.bool name10), .vec 1 (List.length l7), .pv (.int .i64 e11), .pv (.int .i64 off12)]], [.row 32 4 (List.map Token.pv o13) true, .row 9 1 (List.map PV.str l7) true])

def F18_b1 (s1 : Str) (xname4 : Bool) (xe5 : Int) (xoff6 : Int) (l7 : List Token) (l8 : List Str) (again36 : Int → Option (Bool × Int × Int × Bool × Int × Int × (List Token) × (List Str))) : Int → Option (Bool × Int × Int × Bool × Int × Int × (List Token) × (List Str)) := fun x35 =>
  (guardO (decide (x35 < (s1.length : Int))) (sidx s1 x35)).bind fun c39 =>
  (bif (decide (x35 < (s1.length : Int)) && !decide (c39 = 10)) then
    again36 (IntKind.wrap .i64 (x35 + 1))
  else
    some (true, x35, (-1), xname4, xe5, xoff6, l7, l8))

def F18_b2 (s1 : Str) (xat2 : Int) (xend3 : Int) (xname4 : Bool) (xe5 : Int) (xoff6 : Int) (l7 : List Token) (l8 : List Str) (again81 : Int → Option (Bool × Int × Int × Bool × Int × Int × (List Token) × (List Str))) : Int → Option (Bool × Int × Int × Bool × Int × Int × (List Token) × (List Str)) := fun open80 =>
  (sidx s1 open80).bind fun c84 =>
  (bif !decide (c84 = 91) then
    again81 (IntKind.wrap .i64 (open80 + 1))
  else
    (F19 xat2 xend3 xname4 xe5 xoff6 47 open80 l7 l8).bind fun (at88, end89, name90, e91, off92) =>
    some (true, at88, end89, name90, e91, off92, l7, l8))

def F18_j3 (s1 : Str) (r76 : Int) (l8 : List Str) : ((List Token) × Int × Int × Bool × Int × Int) → Option (Bool × Int × Int × Bool × Int × Int × (List Token) × (List Str)) := fun (l98, x99, x100, x101, x102, x103) =>
  (sslice s1 x99 r76).bind fun t104 =>
  (F35 x99 x100 x101 x102 x103 (Token.mk 2 x99 t104 []) l98 l8).bind fun (at107, end108, name109, e110, off111, o112) =>
  (sidx s1 at107).bind fun c116 =>
  some (true, r76, (-1), decide (c116 = 36), e110, off111, o112, l8)

def F18 (s1 : Str) (xat2 : Int) (xend3 : Int) (xname4 : Bool) (xe5 : Int) (xoff6 : Int) (l7 : List Token) (l8 : List Str) : Option (Bool × Int × Int × Bool × Int × Int × (List Token) × (List Str)) :=
  (bif xname4 then
    (F33 s1 xat2 xend3 xname4 xe5 xoff6 l7 l8).bind fun (at18, end19, name20, e21, off22, o23) =>
    some (true, at18, end19, name20, e21, off22, o23, l8)
  else
    (F34 s1 xat2).bind fun r27 =>
    (bif decide (0 < r27) then
      some (true, IntKind.wrap .i64 (xat2 + r27), (-1), xname4, xe5, xoff6, l7, l8)
    else
      (sidx s1 xat2).bind fun c31 =>
      (bif decide (c31 = 35) then
        iter (F18_b1 s1 xname4 xe5 xoff6 l7 l8) BIG xat2
      else
        (bif decide (c31 = 10) then
          (F35 xat2 xend3 xname4 xe5 xoff6 (Token.mk 3 xat2 [10] []) l7 l8).bind fun (at45, end46, name47, e48, off49, o50) =>
          (F36 s1 (IntKind.wrap .i64 (at45 + 1)) (-1) name47 e48 off49 o50 l8).bind fun (at54, end55, name56, e57, off58) =>
          some (false, at54, end55, name56, e57, off58, o50, l8)
        else
          (guardO (decide (IntKind.wrap .i64 (xat2 + 2) ≤ (s1.length : Int))) (sslice s1 xat2 (IntKind.wrap .i64 (xat2 + 2)))).bind fun t62 =>
          (bif (decide (IntKind.wrap .i64 (xat2 + 2) ≤ (s1.length : Int)) && decide (t62 = [60, 60])) then
            (F37 s1 xat2 xend3 xname4 xe5 xoff6 l7 l8).bind fun (at66, end67, name68, e69, off70, o71, o72) =>
            some (true, at66, end67, name68, e69, off70, o71, o72)
          else
            (F38 s1 xat2).bind fun r76 =>
            (bif decide (r76 < 0) then
              iter (F18_b2 s1 xat2 xend3 xname4 xe5 xoff6 l7 l8) BIG (IntKind.wrap .i64 (xat2 + 1))
            else
              (bif decide (xat2 < r76) then
                (bif (decide (c31 = 36) || decide (c31 = 96)) then
                  (F39 xat2 xend3 xname4 xe5 xoff6 l7 l8).bind fun (at120, end121, name122, e123, off124, o125) =>
                  F18_j3 s1 r76 l8 (o125, at120, end121, name122, e123, off124)
                else
                  F18_j3 s1 r76 l8 (l7, xat2, xend3, xname4, xe5, xoff6))
              else
                (F40 s1 xat2).bind fun r129 =>
                (bif !r129.ok_ then
                  (F19 xat2 xend3 xname4 xe5 xoff6 48 r129.to_ l7 l8).bind fun (at133, end134, name135, e136, off137) =>
                  some (true, at133, end134, name135, e136, off137, l7, l8)
                else
                  (F39 xat2 xend3 xname4 xe5 xoff6 l7 l8).bind fun (at141, end142, name143, e144, off145, o146) =>
                  (F35 at141 end142 name143 e144 off145 (Token.mk 1 xat2 r129.text_ r129.quoted_) o146 l8).bind fun (at150, end151, name152, e153, off154, o155) =>
                  some (true, r129.to_, r129.to_, name152, e153, off154, o155, l8)))))))))

def C_F18 (O : Orc) : Prop := ∀ (s1 : Str) (xat2 : Int) (xend3 : Int) (xname4 : Bool) (xe5 : Int) (xoff6 : Int) (l7 : List Token) (l8 : List Str) (tag9 : Bool) (at10 : Int) (end11 : Int) (name12 : Bool) (e13 : Int) (off14 : Int) (o15 : List Token) (o16 : List Str), F18 s1 xat2 xend3 xname4 xe5 xoff6 l7 l8 = some (tag9, at10, end11, name12, e13, off14, o15, o16) → O.C 18 [.pv (.str s1), .agg [.pv (.int .i64 xat2), .vec 0 (List.length l7), .pv (.int .i64 xend3), .pv (.bool xname4), .vec 1 (List.length l8), .pv (.int .i64 xe5), .pv (.int .i64 xoff6)]] [.row 32 4 (List.map Token.pv l7) true, .row 9 1 (List.map PV.str l8) true] = some ((bif tag9 then [.agg [.pv (.int .i64 at10), .vec 0 (List.length o15), .pv (.int .i64 end11), .pv (.bool name12), .vec 1 (List.length o16), .pv (.int .i64 e13), .pv (.int .i64 off14)]] else [.agg [.pv (.int .i64 at10), .vec 0 (List.length o15), .pv (.int .i64 end11), .pv (.bool name12), .nils, .pv (.int .i64 e13), .pv (.int .i64 off14)]]), (bif tag9 then [.row 32 4 (List.map Token.pv o15) true, .row 9 1 (List.map PV.str o16) true] else [.row 32 4 (List.map Token.pv o15) true, .row 9 1 (List.map PV.str o16) true]))

def F6_j3 (l11 : List Token) : (Int × Int × Bool × Int × Int) → Option ((List Token) × Int × Int) := fun (x33, x34, x35, x36, x37) =>
  (bif !decide (x36 = 0) then
    some ([], x37, x36)
  else
    some (l11, 0, 0))

def F6_j2 (l12 : List Str) (s1 : Str) (l11 : List Token) : (Int × Int × Bool × Int × Int) → Option ((List Token) × Int × Int) := fun (x28, x29, x30, x31, x32) =>
  (bif decide (0 < (l12.length : Int)) then
    (F19 x28 x29 x30 x31 x32 3 (s1.length : Int) l11 l12).bind fun (at40, end41, name42, e43, off44) =>
    F6_j3 l11 (at40, end41, name42, e43, off44)
  else
    F6_j3 l11 (x28, x29, x30, x31, x32))

def F6_b1 (s1 : Str) (again13 : (Int × Int × Bool × Int × Int × (List Token) × (List Str)) → Option ((List Token) × Int × Int)) : (Int × Int × Bool × Int × Int × (List Token) × (List Str)) → Option ((List Token) × Int × Int) := fun (x6, x7, x8, x9, x10, l11, l12) =>
  (bif (decide (x9 = 0) && decide (x6 < (s1.length : Int))) then
    (F18 s1 x6 x7 x8 x9 x10 l11 l12).bind fun (tag17, at18, end19, name20, e21, off22, o23, o24) =>
    (bif tag17 then
      again13 (at18, end19, name20, e21, off22, o23, o24)
    else
      again13 (at18, end19, name20, e21, off22, o23, ([] : List Str)))
  else
    (bif x8 then
      (F19 x6 x7 x8 x9 x10 47 x6 l11 l12).bind fun (at49, end50, name51, e52, off53) =>
      F6_j2 l12 s1 l11 (at49, end50, name51, e52, off53)
    else
      F6_j2 l12 s1 l11 (x6, x7, x8, x9, x10)))

def F6 (s1 : Str) : Option ((List Token) × Int × Int) :=
  (bif decide (65536 < (s1.length : Int)) then
    some ([], 0, 4)
  else
    iter (F6_b1 s1) BIG (0, (-1), false, 0, 0, ([] : List Token), ([] : List Str)))

def C_F6 (O : Orc) : Prop := ∀ (s1 : Str) (r2 : List Token) (r3 : Int) (r4 : Int), F6 s1 = some (r2, r3, r4) → O.C 6 [.pv (.str s1)] [] = some ([.pv (.slice (List.map Token.pv r2)), .pv (.int .i64 r3), .pv (.int .i64 r4)], [])

def F7_b1 (a1 : List Token) (b2 : List Token) (again6 : Int → Option Bool) : Int → Option Bool := fun i5 =>
  (bif decide (i5 < (a1.length : Int)) then
    (lidx a1 i5).bind fun u10 =>
    (lidx b2 i5).bind fun u13 =>
    (bif !(decide (u10.kind_ = u13.kind_) && (decide (u10.at_ = u13.at_) && (decide (u10.text_ = u13.text_) && (decide (u10.quoted_ = u13.quoted_))))) then
      some false
    else
      again6 (IntKind.wrap .i64 (i5 + 1)))
  else
    some true)

def F7 (a1 : List Token) (b2 : List Token) : Option Bool :=
  (bif !decide ((a1.length : Int) = (b2.length : Int)) then
    some false
  else
    iter (F7_b1 a1 b2) BIG 0)

def C_F7 (O : Orc) : Prop := ∀ (a1 : List Token) (b2 : List Token) (r3 : Bool), F7 a1 b2 = some r3 → O.C 7 [.pv (.slice (List.map Token.pv a1)), .pv (.slice (List.map Token.pv b2))] [] = some ([.pv (.bool r3)], [])

def F3 (s1 : Str) : Option Bool :=
  (bif decide (3000 < (s1.length : Int)) then
    (F4).bind fun r4 =>
    some r4
  else
    (F5 s1).bind fun (r7, r8, r9) =>
    (F6 s1).bind fun (r12, r13, r14) =>
    (F7 r7 r12).bind fun r17 =>
    (guardO ((r17 && decide (r8 = r13)) && decide (r9 = r14)) (F4)).bind fun r20 =>
    some (((r17 && decide (r8 = r13)) && decide (r9 = r14)) && r20))

def C_F3 (O : Orc) : Prop := ∀ (s1 : Str) (r2 : Bool), F3 s1 = some r2 → O.C 3 [.pv (.str s1)] [] = some ([.pv (.bool r2)], [])

end Go.Abs.U47
