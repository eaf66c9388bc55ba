/- The layer 47 laws: what the functions compute. -/
import Derived.Test.YtdmihmnegakgbaaDoorLB
set_option linter.unusedVariables false
namespace Go.Abs.U47
open Go.RowKit Go.Proofs

def C_L_ReplaceAll (O : Orc) : Prop := ∀ (s : Str) (a : Str) (b : Str) (t : Str), L_ReplaceAll s a b = some t → O.C 18 [.pv (.str s), .pv (.str a), .pv (.str b)] [] = some ([.pv (.str t)], [])

def C_L_IndexByte (O : Orc) : Prop := ∀ (s : Str) (c : Int) (n : Int), L_IndexByte s c = some n → O.C 21 [.pv (.str s), .pv (.int .u8 c)] [] = some ([.pv (.int .i64 n)], [])

def C_L_Join (O : Orc) : Prop := ∀ (xs : List Str) (sep : Str) (s : Str), L_Join xs sep = some s → O.C 30 [.pv (.slice (List.map PV.str xs)), .pv (.str sep)] [] = some ([.pv (.str s)], [])

def C_L_Cut (O : Orc) : Prop := ∀ (s : Str) (sep : Str) (a : Str) (b : Str) (ok : Bool), L_Cut s sep = some (a, b, ok) → O.C 42 [.pv (.str s), .pv (.str sep)] [] = some ([.pv (.str a), .pv (.str b), .pv (.bool ok)], [])

def C_L_WriteString (O : Orc) : Prop := ∀ (b : Str) (s : Str) (n : Int) (c : Str), L_WriteString b s = some (n, c) → O.C 44 [.ref 0 0, .pv (.str s)] [.bld b] = some ([.pv (.int .i64 n), .pv (.nil)], [.bld c])

def C_L_String (O : Orc) : Prop := ∀ (b : Str) (s : Str), L_String b = some s → O.C 45 [.ref 0 0] [.bld b] = some ([.pv (.str s)], [.gone])

def C_L_WriteByte (O : Orc) : Prop := ∀ (b : Str) (c : Int) (d : Str), L_WriteByte b c = some d → O.C 51 [.ref 0 0, .pv (.int .u8 c)] [.bld b] = some ([.pv (.nil)], [.bld d])

def C_L_Repeat (O : Orc) : Prop := ∀ (s : Str) (n : Int) (t : Str), L_Repeat s n = some t → O.C 53 [.pv (.str s), .pv (.int .i64 n)] [] = some ([.pv (.str t)], [])

def C_L_Atoi (O : Orc) : Prop := ∀ (s : Str) (n : Int) (bad : Bool), L_Atoi s = some (n, bad) → O.C 73 [.pv (.str s)] [] = some ([.pv (.int .i64 n), .pv ((bif bad then PV.ifc else PV.nil))], [])

def C_L_Itoa (O : Orc) : Prop := ∀ (n : Int) (s : Str), L_Itoa n = some s → O.C 74 [.pv (.int .i64 n)] [] = some ([.pv (.str s)], [])

def F35 (s1 : Str) (prefix2 : Str) : Option Bool :=
  (guardO (decide ((prefix2.length : Int) ≤ (s1.length : Int))) (sslice s1 0 (prefix2.length : Int))).bind fun t4 =>
  some (decide ((prefix2.length : Int) ≤ (s1.length : Int)) && decide (t4 = prefix2))

def C_F35 (O : Orc) : Prop := ∀ (s1 : Str) (prefix2 : Str) (r3 : Bool), F35 s1 prefix2 = some r3 → O.C 35 [.pv (.str s1), .pv (.str prefix2)] [] = some ([.pv (.bool r3)], [])

def F23 (s1 : Str) (prefix2 : Str) : Option Bool :=
  (F35 s1 prefix2).bind fun r4 =>
  some r4

def C_F23 (O : Orc) : Prop := ∀ (s1 : Str) (prefix2 : Str) (r3 : Bool), F23 s1 prefix2 = some r3 → O.C 23 [.pv (.str s1), .pv (.str prefix2)] [] = some ([.pv (.bool r3)], [])

def F28_b1 (s1 : Str) (again8 : (Int × (List Str) × (List Int)) → Option ((List Str) × (List Int))) : (Int × (List Str) × (List Int)) → Option ((List Str) × (List Int)) := fun (at5, l6, l7) =>
  (bif decide (at5 < (s1.length : Int)) then
    (sslice s1 at5 (s1.length : Int)).bind fun t12 =>
    (L_Cut t12 [10]).bind fun (a15, b16, ok17) =>
    (appO 16 l6 [a15]).bind fun out21 =>
    (appO 8 l7 [(bif ok17 then IntKind.wrap .i64 ((IntKind.wrap .i64 (at5 + (a15.length : Int))) + 1) else IntKind.wrap .i64 (at5 + (a15.length : Int)))]).bind fun out24 =>
    again8 ((bif ok17 then IntKind.wrap .i64 ((IntKind.wrap .i64 (at5 + (a15.length : Int))) + 1) else IntKind.wrap .i64 (at5 + (a15.length : Int))), out21, out24)
  else
    some (l6, l7))

def F28 (s1 : Str) (at2 : Int) : Option ((List Str) × (List Int)) :=
  iter (F28_b1 s1) BIG (at2, ([] : List Str), ([] : List Int))

def C_F28 (O : Orc) : Prop := ∀ (s1 : Str) (at2 : Int) (r3 : List Str) (r4 : List Int), F28 s1 at2 = some (r3, r4) → O.C 28 [.pv (.str s1), .pv (.int .i64 at2)] [] = some ([.pv (.slice (List.map PV.str r3)), .pv (.slice (List.map (PV.int .i64) r4))], [])

def F29_b1 (s1 : List Str) (v2 : Str) (again5 : Int → Option Int) : Int → Option Int := fun i4 =>
  (bif decide (i4 < (s1.length : Int)) then
    (lidx s1 i4).bind fun w9 =>
    (bif decide (v2 = w9) then
      some i4
    else
      again5 (IntKind.wrap .i64 (i4 + 1)))
  else
    some (-1))

def F29 (s1 : List Str) (v2 : Str) : Option Int :=
  iter (F29_b1 s1 v2) BIG 0

def C_F29 (O : Orc) : Prop := ∀ (s1 : List Str) (v2 : Str) (r3 : Int), F29 s1 v2 = some r3 → O.C 29 [.pv (.slice (List.map PV.str s1)), .pv (.str v2)] [] = some ([.pv (.int .i64 r3)], [])

def F14 (s1 : Str) (at2 : Int) (end3 : Str) : Option (Str × Int × Int) :=
  (bif (decide (at2 < 0) || decide ((s1.length : Int) < at2)) then
    some ([], 0, 1)
  else
    (F28 s1 at2).bind fun (r8, r9) =>
    (F29 r8 end3).bind fun r12 =>
    (bif decide (r12 < 0) then
      some ([], 0, 3)
    else
      (bif decide (0 < r12) then
        (lslice r8 0 r12).bind fun l17 =>
        (L_Join l17 [10]).bind fun s20 =>
        (catO s20 [10]).bind fun s23 =>
        (lidx r9 r12).bind fun n26 =>
        some (s23, n26, 0)
      else
        (lidx r9 r12).bind fun n29 =>
        some ([], n29, 0))))

def C_F14 (O : Orc) : Prop := ∀ (s1 : Str) (at2 : Int) (end3 : Str) (r4 : Str) (r5 : Int) (r6 : Int), F14 s1 at2 end3 = some (r4, r5, r6) → O.C 14 [.pv (.str s1), .pv (.int .i64 at2), .pv (.str end3)] [] = some ([.pv (.str r4), .pv (.int .i64 r5), .pv (.int .i64 r6)], [])

def F34x2 (off1 : Int) (e2 : Int) (x3 : Str) (x4 : Int) (x5 : Int) (x6 : Int) (x7 : Int) (l8 : List Token) (l9 : List Str) : Option (Bool × Int × Int) :=
  some (false, off1, e2)

def C_F34x2 (O : Orc) : Prop := ∀ (off1 : Int) (e2 : Int) (x3 : Str) (x4 : Int) (x5 : Int) (x6 : Int) (x7 : Int) (l8 : List Token) (l9 : List Str) (r10 : Bool) (x11 : Int) (x12 : Int), F34x2 off1 e2 x3 x4 x5 x6 x7 l8 l9 = some (r10, x11, x12) → O.C 34 [.ref 0 0, .pv (.int .i64 off1), .pv (.int .i64 e2)] [.var [.pv (.str x3), .pv (.int .i64 x4), .vec 1 (List.length l8), .vec 2 (List.length l9), .pv (.int .i64 x5), .pv (.int .i64 x6), .pv (.int .i64 x7)], .row 30 4 (List.map Token.pv l8) true, .row 9 1 (List.map PV.str l9) true] = some ([.pv (.bool r10)], [.var [.pv (.str x3), .pv (.int .i64 x4), .vec 1 (List.length l8), .vec 2 (List.length l9), .pv (.int .i64 x5), .pv (.int .i64 x11), .pv (.int .i64 x12)], .row 30 4 (List.map Token.pv l8) true, .row 9 1 (List.map PV.str l9) true])

def F33x1 (t1 : Token) (x2 : Str) (x3 : Int) (x4 : Int) (x5 : Int) (x6 : Int) (l7 : List Token) (l8 : List Str) : Option (Bool × Int × Int × (List Token)) :=
  (bif decide (1024 ≤ (l7.length : Int)) then
    (F34x2 t1.at_ 4 x2 x3 x4 x5 x6 l7 l8).bind fun (r14, x15, x16) =>
    some (r14, x15, x16, l7)
  else
    (appO 48 l7 [t1]).bind fun out20 =>
    some (true, x5, x6, out20))

def C_F33x1 (O : Orc) : Prop := ∀ (t1 : Token) (x2 : Str) (x3 : Int) (x4 : Int) (x5 : Int) (x6 : Int) (l7 : List Token) (l8 : List Str) (r9 : Bool) (x10 : Int) (x11 : Int) (o12 : List Token), F33x1 t1 x2 x3 x4 x5 x6 l7 l8 = some (r9, x10, x11, o12) → O.C 33 [.ref 0 0, .pv (.agg [.int .i64 t1.kind_, .int .i64 t1.at_, .str t1.text_, .str t1.quoted_])] [.var [.pv (.str x2), .pv (.int .i64 x3), .vec 1 (List.length l7), .vec 2 (List.length l8), .pv (.int .i64 x4), .pv (.int .i64 x5), .pv (.int .i64 x6)], .row 30 4 (List.map Token.pv l7) true, .row 9 1 (List.map PV.str l8) true] = some ([.pv (.bool r9)], [.var [.pv (.str x2), .pv (.int .i64 x3), .vec 1 (List.length o12), .vec 2 (List.length l8), .pv (.int .i64 x4), .pv (.int .i64 x10), .pv (.int .i64 x11)], .row 30 4 (List.map Token.pv o12) true, .row 9 1 (List.map PV.str l8) true])

def F20x2 (x1 : Str) (x2 : Int) (x3 : Int) (x4 : Int) (x5 : Int) (l6 : List Token) (l7 : List Str) : Option Str :=
  (sslice x1 x2 (x1.length : Int)).bind fun t9 =>
  some t9

def C_F20x2 (O : Orc) : Prop := ∀ (x1 : Str) (x2 : Int) (x3 : Int) (x4 : Int) (x5 : Int) (l6 : List Token) (l7 : List Str) (r8 : Str), F20x2 x1 x2 x3 x4 x5 l6 l7 = some r8 → O.C 20 [.ref 0 0] [.var [.pv (.str x1), .pv (.int .i64 x2), .vec 1 (List.length l6), .vec 2 (List.length l7), .pv (.int .i64 x3), .pv (.int .i64 x4), .pv (.int .i64 x5)], .row 30 4 (List.map Token.pv l6) true, .row 9 1 (List.map PV.str l7) true] = some ([.pv (.str r8)], [.var [.pv (.str x1), .pv (.int .i64 x2), .vec 1 (List.length l6), .vec 2 (List.length l7), .pv (.int .i64 x3), .pv (.int .i64 x4), .pv (.int .i64 x5)], .row 30 4 (List.map Token.pv l6) true, .row 9 1 (List.map PV.str l7) true])

def F19x2_b1 (x1 : Str) (x3 : Int) (x4 : Int) (x5 : Int) (l6 : List Token) (l7 : List Str) (again10 : Int → Option Int) : Int → Option Int := fun x9 =>
  (F20x2 x1 x9 x3 x4 x5 l6 l7).bind fun r13 =>
  (F23 r13 [32]).bind fun r17 =>
  (guardO (!r17) (F23 r13 [9])).bind fun r20 =>
  (bif (r17 || r20) then
    again10 (IntKind.wrap .i64 (x9 + 1))
  else
    (F23 r13 [92, 10]).bind fun r24 =>
    (bif r24 then
      again10 (IntKind.wrap .i64 (x9 + 2))
    else
      some x9))

def F19x2 (x1 : Str) (x2 : Int) (x3 : Int) (x4 : Int) (x5 : Int) (l6 : List Token) (l7 : List Str) : Option Int :=
  iter (F19x2_b1 x1 x3 x4 x5 l6 l7) BIG x2

def C_F19x2 (O : Orc) : Prop := ∀ (x1 : Str) (x2 : Int) (x3 : Int) (x4 : Int) (x5 : Int) (l6 : List Token) (l7 : List Str) (x8 : Int), F19x2 x1 x2 x3 x4 x5 l6 l7 = some x8 → O.C 19 [.ref 0 0] [.var [.pv (.str x1), .pv (.int .i64 x2), .vec 1 (List.length l6), .vec 2 (List.length l7), .pv (.int .i64 x3), .pv (.int .i64 x4), .pv (.int .i64 x5)], .row 30 4 (List.map Token.pv l6) true, .row 9 1 (List.map PV.str l7) true] = some ([], [.var [.pv (.str x1), .pv (.int .i64 x8), .vec 1 (List.length l6), .vec 2 (List.length l7), .pv (.int .i64 x3), .pv (.int .i64 x4), .pv (.int .i64 x5)], .row 30 4 (List.map Token.pv l6) true, .row 9 1 (List.map PV.str l7) true])

def F22x1_b1 (l7 : List Str) (x1 : Str) (x3 : Int) (x15 : Int) (x16 : Int) (o17 : List Token) (again24 : (Int × Int) → Option (Bool × Bool × Int × Int × Int × (List Token))) : (Int × Int) → Option (Bool × Bool × Int × Int × Int × (List Token)) := fun (i22, x23) =>
  (bif decide (i22 < (l7.length : Int)) then
    (lidx l7 i22).bind fun w28 =>
    (F14 x1 x23 w28).bind fun (r31, r32, r33) =>
    (bif !decide (r33 = 0) then
      (F34x2 x23 r33 x1 x23 x3 x15 x16 o17 l7).bind fun (r37, x38, x39) =>
      some (false, r37, x23, x38, x39, o17)
    else
      again24 (IntKind.wrap .i64 (i22 + 1), r32))
  else
    some (true, true, x23, x15, x16, o17))

def F22x1 (x1 : Str) (x2 : Int) (x3 : Int) (x4 : Int) (x5 : Int) (l6 : List Token) (l7 : List Str) : Option (Bool × Bool × Int × Int × Int × (List Token)) :=
  (F33x1 (Token.mk 3 x2 [10] []) x1 x2 x3 x4 x5 l6 l7).bind fun (r14, x15, x16, o17) =>
  (bif !r14 then
    some (false, false, x2, x15, x16, o17)
  else
    iter (F22x1_b1 l7 x1 x3 x15 x16 o17) BIG (0, IntKind.wrap .i64 (x2 + 1)))

def C_F22x1 (O : Orc) : Prop := ∀ (x1 : Str) (x2 : Int) (x3 : Int) (x4 : Int) (x5 : Int) (l6 : List Token) (l7 : List Str) (tag8 : Bool) (r9 : Bool) (x10 : Int) (x11 : Int) (x12 : Int) (o13 : List Token), F22x1 x1 x2 x3 x4 x5 l6 l7 = some (tag8, r9, x10, x11, x12, o13) → O.C 22 [.ref 0 0] [.var [.pv (.str x1), .pv (.int .i64 x2), .vec 1 (List.length l6), .vec 2 (List.length l7), .pv (.int .i64 x3), .pv (.int .i64 x4), .pv (.int .i64 x5)], .row 30 4 (List.map Token.pv l6) true, .row 9 1 (List.map PV.str l7) true] = some ([.pv (.bool r9)], (bif tag8 then [.var [.pv (.str x1), .pv (.int .i64 x10), .vec 1 (List.length o13), .nils, .pv (.int .i64 x3), .pv (.int .i64 x11), .pv (.int .i64 x12)], .row 30 4 (List.map Token.pv o13) true, .row 9 1 (List.map PV.str l7) true] else [.var [.pv (.str x1), .pv (.int .i64 x10), .vec 1 (List.length o13), .vec 2 (List.length l7), .pv (.int .i64 x3), .pv (.int .i64 x11), .pv (.int .i64 x12)], .row 30 4 (List.map Token.pv o13) true, .row 9 1 (List.map PV.str l7) true]))

def F50x1 (x1 : Str) (x2 : Int) (x3 : Int) (x4 : Int) (x5 : Int) (l6 : List Token) (l7 : List Str) : Option Bool :=
  (F20x2 x1 x2 x3 x4 x5 l6 l7).bind fun r9 =>
  (guardO (!decide (r9 = [])) (sidx r9 0)).bind fun c13 =>
  (guardO (!decide (r9 = [])) (L_IndexByte [32, 9, 10, 59, 38, 124, 40, 41, 123, 125, 60, 62, 61, 94, 96, 36, 39] c13)).bind fun n16 =>
  (guardO (!decide (r9 = []) && decide (n16 < 0)) (F23 r9 [92, 10])).bind fun r19 =>
  some ((!decide (r9 = []) && decide (n16 < 0)) && !r19)

def C_F50x1 (O : Orc) : Prop := ∀ (x1 : Str) (x2 : Int) (x3 : Int) (x4 : Int) (x5 : Int) (l6 : List Token) (l7 : List Str) (r8 : Bool), F50x1 x1 x2 x3 x4 x5 l6 l7 = some r8 → O.C 50 [.ref 0 0] [.var [.pv (.str x1), .pv (.int .i64 x2), .vec 1 (List.length l6), .vec 2 (List.length l7), .pv (.int .i64 x3), .pv (.int .i64 x4), .pv (.int .i64 x5)], .row 30 4 (List.map Token.pv l6) true, .row 9 1 (List.map PV.str l7) true] = some ([.pv (.bool r8)], [.var [.pv (.str x1), .pv (.int .i64 x2), .vec 1 (List.length l6), .vec 2 (List.length l7), .pv (.int .i64 x3), .pv (.int .i64 x4), .pv (.int .i64 x5)], .row 30 4 (List.map Token.pv l6) true, .row 9 1 (List.map PV.str l7) true])

def F52x1_b1 (x1 : Str) (x3 : Int) (x4 : Int) (x5 : Int) (l6 : List Token) (l7 : List Str) (x2 : Int) (again15 : (Int × Str) → Option (Str × Bool × Int × Int × Int)) : (Int × Str) → Option (Str × Bool × Int × Int × Int) := fun (x13, b14) =>
  (F20x2 x1 x13 x3 x4 x5 l6 l7).bind fun r18 =>
  (L_IndexByte r18 39).bind fun n22 =>
  (bif decide (n22 < 0) then
    (F34x2 x2 48 x1 x13 x3 x4 x5 l6 l7).bind fun (r26, x27, x28) =>
    some ([], r26, x13, x27, x28)
  else
    (sslice x1 x13 (IntKind.wrap .i64 (x13 + n22))).bind fun t32 =>
    (L_WriteString b14 t32).bind fun (n35, c36) =>
    (F20x2 x1 (IntKind.wrap .i64 (x13 + (IntKind.wrap .i64 (n22 + 1)))) x3 x4 x5 l6 l7).bind fun r40 =>
    (F23 r40 [39]).bind fun r44 =>
    (bif !r44 then
      (L_String c36).bind fun s48 =>
      some (s48, true, (IntKind.wrap .i64 (x13 + (IntKind.wrap .i64 (n22 + 1)))), x4, x5)
    else
      (L_WriteByte c36 39).bind fun d52 =>
      again15 (IntKind.wrap .i64 ((IntKind.wrap .i64 (x13 + (IntKind.wrap .i64 (n22 + 1)))) + 1), d52)))

def F52x1 (x1 : Str) (x2 : Int) (x3 : Int) (x4 : Int) (x5 : Int) (l6 : List Token) (l7 : List Str) : Option (Str × Bool × Int × Int × Int) :=
  iter (F52x1_b1 x1 x3 x4 x5 l6 l7 x2) BIG (IntKind.wrap .i64 (x2 + 1), [])

def C_F52x1 (O : Orc) : Prop := ∀ (x1 : Str) (x2 : Int) (x3 : Int) (x4 : Int) (x5 : Int) (l6 : List Token) (l7 : List Str) (r8 : Str) (r9 : Bool) (x10 : Int) (x11 : Int) (x12 : Int), F52x1 x1 x2 x3 x4 x5 l6 l7 = some (r8, r9, x10, x11, x12) → O.C 52 [.ref 0 0] [.var [.pv (.str x1), .pv (.int .i64 x2), .vec 1 (List.length l6), .vec 2 (List.length l7), .pv (.int .i64 x3), .pv (.int .i64 x4), .pv (.int .i64 x5)], .row 30 4 (List.map Token.pv l6) true, .row 9 1 (List.map PV.str l7) true] = some ([.pv (.str r8), .pv (.bool r9)], [.var [.pv (.str x1), .pv (.int .i64 x10), .vec 1 (List.length l6), .vec 2 (List.length l7), .pv (.int .i64 x3), .pv (.int .i64 x11), .pv (.int .i64 x12)], .row 30 4 (List.map Token.pv l6) true, .row 9 1 (List.map PV.str l7) true])

def F36x1_b1 (x1 : Str) (x3 : Int) (l6 : List Token) (l7 : List Str) (again19 : (Int × Int × Int × Str × Str) → Option (Str × Str × Bool × Int × Int × Int)) : (Int × Int × Int × Str × Str) → Option (Str × Str × Bool × Int × Int × Int) := fun (x14, x15, x16, b17, b18) =>
  (F50x1 x1 x14 x3 x15 x16 l6 l7).bind fun r22 =>
  (bif r22 then
    (sidx x1 x14).bind fun c27 =>
    (L_WriteByte b17 c27).bind fun d30 =>
    (L_WriteByte b18 48).bind fun d34 =>
    again19 (IntKind.wrap .i64 (x14 + 1), x15, x16, d30, d34)
  else
    (F20x2 x1 x14 x3 x15 x16 l6 l7).bind fun r38 =>
    (F23 r38 [39]).bind fun r42 =>
    (bif r42 then
      (F52x1 x1 x14 x3 x15 x16 l6 l7).bind fun (r46, r47, x48, x49, x50) =>
      (bif !r47 then
        some ([], [], false, x48, x49, x50)
      else
        (L_WriteString b17 r46).bind fun (n55, c56) =>
        (L_Repeat [49] (r46.length : Int)).bind fun t60 =>
        (L_WriteString b18 t60).bind fun (n63, c64) =>
        again19 (x48, x49, x50, c56, c64))
    else
      (L_String b17).bind fun s68 =>
      (L_String b18).bind fun s72 =>
      some (s68, s72, true, x14, x15, x16)))

def F36x1 (x1 : Str) (x2 : Int) (x3 : Int) (x4 : Int) (x5 : Int) (l6 : List Token) (l7 : List Str) : Option (Str × Str × Bool × Int × Int × Int) :=
  iter (F36x1_b1 x1 x3 l6 l7) BIG (x2, x4, x5, [], [])

def C_F36x1 (O : Orc) : Prop := ∀ (x1 : Str) (x2 : Int) (x3 : Int) (x4 : Int) (x5 : Int) (l6 : List Token) (l7 : List Str) (r8 : Str) (r9 : Str) (r10 : Bool) (x11 : Int) (x12 : Int) (x13 : Int), F36x1 x1 x2 x3 x4 x5 l6 l7 = some (r8, r9, r10, x11, x12, x13) → O.C 36 [.ref 0 0] [.var [.pv (.str x1), .pv (.int .i64 x2), .vec 1 (List.length l6), .vec 2 (List.length l7), .pv (.int .i64 x3), .pv (.int .i64 x4), .pv (.int .i64 x5)], .row 30 4 (List.map Token.pv l6) true, .row 9 1 (List.map PV.str l7) true] = some ([.pv (.str r8), .pv (.str r9), .pv (.bool r10)], [.var [.pv (.str x1), .pv (.int .i64 x11), .vec 1 (List.length l6), .vec 2 (List.length l7), .pv (.int .i64 x3), .pv (.int .i64 x12), .pv (.int .i64 x13)], .row 30 4 (List.map Token.pv l6) true, .row 9 1 (List.map PV.str l7) true])

def F24 (x1 : Str) (x2 : Int) (x3 : Int) (x4 : Int) (x5 : Int) (l6 : List Token) (l7 : List Str) : Option (Bool × Int × Int × Int × (List Token) × (List Str)) :=
  (F19x2 x1 (IntKind.wrap .i64 (x2 + 2)) x3 x4 x5 l6 l7).bind fun x14 =>
  (F36x1 x1 x14 x3 x4 x5 l6 l7).bind fun (r18, r19, r20, x21, x22, x23) =>
  (bif !r20 then
    some (false, x21, x22, x23, l6, l7)
  else
    (bif decide (x21 = x14) then
      (F34x2 x14 47 x1 x21 x3 x22 x23 l6 l7).bind fun (r29, x30, x31) =>
      some (r29, x21, x30, x31, l6, l7)
    else
      (appO 16 l7 [r18]).bind fun out35 =>
      (F33x1 (Token.mk 4 x2 r18 r19) x1 x21 x3 x22 x23 l6 out35).bind fun (r38, x39, x40, o41) =>
      some (r38, x21, x39, x40, o41, out35)))

def C_F24 (O : Orc) : Prop := ∀ (x1 : Str) (x2 : Int) (x3 : Int) (x4 : Int) (x5 : Int) (l6 : List Token) (l7 : List Str) (r8 : Bool) (x9 : Int) (x10 : Int) (x11 : Int) (o12 : List Token) (o13 : List Str), F24 x1 x2 x3 x4 x5 l6 l7 = some (r8, x9, x10, x11, o12, o13) → O.C 24 [.ref 0 0] [.var [.pv (.str x1), .pv (.int .i64 x2), .vec 1 (List.length l6), .vec 2 (List.length l7), .pv (.int .i64 x3), .pv (.int .i64 x4), .pv (.int .i64 x5)], .row 30 4 (List.map Token.pv l6) true, .row 9 1 (List.map PV.str l7) true] = some ([.pv (.bool r8)], [.var [.pv (.str x1), .pv (.int .i64 x9), .vec 1 (List.length o12), .vec 2 (List.length o13), .pv (.int .i64 x3), .pv (.int .i64 x10), .pv (.int .i64 x11)], .row 30 4 (List.map Token.pv o12) true, .row 9 1 (List.map PV.str o13) true])

def F37 (x1 : Str) (x2 : Int) (x3 : Int) (x4 : Int) (x5 : Int) (l6 : List Token) (l7 : List Str) : Option Bool :=
  (guardO (decide (0 < (l6.length : Int))) (lidx l6 (IntKind.wrap .i64 ((l6.length : Int) - 1)))).bind fun u9 =>
  some ((decide (0 < (l6.length : Int)) && decide (u9.kind_ = 1)) && decide (x3 = x2))

def C_F37 (O : Orc) : Prop := ∀ (x1 : Str) (x2 : Int) (x3 : Int) (x4 : Int) (x5 : Int) (l6 : List Token) (l7 : List Str) (r8 : Bool), F37 x1 x2 x3 x4 x5 l6 l7 = some r8 → O.C 37 [.ref 0 0] [.var [.pv (.str x1), .pv (.int .i64 x2), .vec 1 (List.length l6), .vec 2 (List.length l7), .pv (.int .i64 x3), .pv (.int .i64 x4), .pv (.int .i64 x5)], .row 30 4 (List.map Token.pv l6) true, .row 9 1 (List.map PV.str l7) true] = some ([.pv (.bool r8)], [.var [.pv (.str x1), .pv (.int .i64 x2), .vec 1 (List.length l6), .vec 2 (List.length l7), .pv (.int .i64 x3), .pv (.int .i64 x4), .pv (.int .i64 x5)], .row 30 4 (List.map Token.pv l6) true, .row 9 1 (List.map PV.str l7) true])

def F65 (s1 : Str) : Option Bool :=
  (L_Atoi s1).bind fun (n3, bad4) =>
  (guardO ((!bad4 && decide (0 ≤ n3)) && decide (n3 < 64)) (L_Itoa n3)).bind fun s7 =>
  some (((!bad4 && decide (0 ≤ n3)) && decide (n3 < 64)) && decide (s7 = s1))

def C_F65 (O : Orc) : Prop := ∀ (s1 : Str) (r2 : Bool), F65 s1 = some r2 → O.C 65 [.pv (.str s1)] [] = some ([.pv (.bool r2)], [])

def F54 (s1 : Str) (pair2 : Bool) : Option Int :=
  (L_IndexByte s1 93).bind fun n4 =>
  (bif decide (n4 < 0) then
    some 0
  else
    (sslice s1 1 n4).bind fun t8 =>
    (L_Cut t8 [61]).bind fun (a11, b12, ok13) =>
    (F65 a11).bind fun r16 =>
    (guardO (((r16 && ok13) && pair2) && !decide (b12 = [])) (F65 b12)).bind fun r19 =>
    (bif (!r16 || (ok13 && (!pair2 || (!decide (b12 = []) && !r19)))) then
      some 0
    else
      some (IntKind.wrap .i64 (n4 + 1))))

def C_F54 (O : Orc) : Prop := ∀ (s1 : Str) (pair2 : Bool) (r3 : Int), F54 s1 pair2 = some r3 → O.C 54 [.pv (.str s1), .pv (.bool pair2)] [] = some ([.pv (.int .i64 r3)], [])

def F38_b2 (r12 : Str) (x4 : Int) (x5 : Int) (x2 : Int) (x1 : Str) (x3 : Int) (l6 : List Token) (l7 : List Str) (again40 : Int → Option (Str × Bool × Int × Int)) : Int → Option (Str × Bool × Int × Int) := fun i39 =>
  (bif decide (i39 < ([[62, 62], [62], [60], [124]].length : Int)) then
    (lidx [[62, 62], [62], [60], [124]] i39).bind fun w44 =>
    (F23 r12 w44).bind fun r47 =>
    (bif !r47 then
      again40 (IntKind.wrap .i64 (i39 + 1))
    else
      (sslice r12 (w44.length : Int) (r12.length : Int)).bind fun t51 =>
      (F23 t51 [91]).bind fun r54 =>
      (bif !r54 then
        some (w44, true, x4, x5)
      else
        (F54 t51 (!decide (w44 = [124]))).bind fun r58 =>
        (bif decide (r58 = 0) then
          (F34x2 (IntKind.wrap .i64 (x2 + (w44.length : Int))) 47 x1 x2 x3 x4 x5 l6 l7).bind fun (r62, x63, x64) =>
          some ([], r62, x63, x64)
        else
          (sslice r12 0 (IntKind.wrap .i64 ((w44.length : Int) + r58))).bind fun t68 =>
          some (t68, true, x4, x5))))
  else
    some ([], true, x4, x5))

def F38_b1 (r12 : Str) (x4 : Int) (x5 : Int) (x2 : Int) (x1 : Str) (x3 : Int) (l6 : List Token) (l7 : List Str) (again17 : Int → Option (Str × Bool × Int × Int)) : Int → Option (Str × Bool × Int × Int) := fun i16 =>
  (bif decide (i16 < ([[38, 38], [124, 124], [36, 35]].length : Int)) then
    (lidx [[38, 38], [124, 124], [36, 35]] i16).bind fun w21 =>
    (F23 r12 w21).bind fun r24 =>
    (bif r24 then
      some (w21, true, x4, x5)
    else
      again17 (IntKind.wrap .i64 (i16 + 1)))
  else
    (bif decide (r12 = []) then
      some ([], true, x4, x5)
    else
      (sidx r12 0).bind fun c29 =>
      (L_IndexByte [59, 38, 40, 41, 123, 125, 61, 94, 96, 36, 33, 64] c29).bind fun n32 =>
      (bif decide (0 ≤ n32) then
        (sslice r12 0 1).bind fun t36 =>
        some (t36, true, x4, x5)
      else
        iter (F38_b2 r12 x4 x5 x2 x1 x3 l6 l7) BIG 0)))

def F38 (x1 : Str) (x2 : Int) (x3 : Int) (x4 : Int) (x5 : Int) (l6 : List Token) (l7 : List Str) : Option (Str × Bool × Int × Int) :=
  (F20x2 x1 x2 x3 x4 x5 l6 l7).bind fun r12 =>
  iter (F38_b1 r12 x4 x5 x2 x1 x3 l6 l7) BIG 0

def C_F38 (O : Orc) : Prop := ∀ (x1 : Str) (x2 : Int) (x3 : Int) (x4 : Int) (x5 : Int) (l6 : List Token) (l7 : List Str) (r8 : Str) (r9 : Bool) (x10 : Int) (x11 : Int), F38 x1 x2 x3 x4 x5 l6 l7 = some (r8, r9, x10, x11) → O.C 38 [.ref 0 0] [.var [.pv (.str x1), .pv (.int .i64 x2), .vec 1 (List.length l6), .vec 2 (List.length l7), .pv (.int .i64 x3), .pv (.int .i64 x4), .pv (.int .i64 x5)], .row 30 4 (List.map Token.pv l6) true, .row 9 1 (List.map PV.str l7) true] = some ([.pv (.str r8), .pv (.bool r9)], [.var [.pv (.str x1), .pv (.int .i64 x2), .vec 1 (List.length l6), .vec 2 (List.length l7), .pv (.int .i64 x3), .pv (.int .i64 x10), .pv (.int .i64 x11)], .row 30 4 (List.map Token.pv l6) true, .row 9 1 (List.map PV.str l7) true])

def F39 (t1 : Token) (touches2 : Bool) (x3 : Str) (x4 : Int) (x5 : Int) (x6 : Int) (x7 : Int) (l8 : List Token) (l9 : List Str) : Option (Bool × Int × Int × (List Token)) :=
  (guardO (!(decide (t1.kind_ = 1)) && (decide (t1.kind_ = 2) && !decide (t1.text_ = []))) (sidx t1.text_ 0)).bind fun c14 =>
  (guardO (!(decide (t1.kind_ = 1)) && (decide (t1.kind_ = 2) && !decide (t1.text_ = []))) (L_IndexByte [36, 96] c14)).bind fun n17 =>
  (bif (touches2 && (decide (t1.kind_ = 1) || ((decide (t1.kind_ = 2) && !decide (t1.text_ = [])) && decide (0 ≤ n17)))) then
    (F33x1 (Token.mk 2 t1.at_ [94] []) x3 x4 x5 x6 x7 l8 l9).bind fun (r20, x21, x22, o23) =>
    (bif !r20 then
      some (false, x21, x22, o23)
    else
      (F33x1 t1 x3 x4 x5 x21 x22 o23 l9).bind fun (r28, x29, x30, o31) =>
      some (r28, x29, x30, o31))
  else
    (F33x1 t1 x3 x4 x5 x6 x7 l8 l9).bind fun (r21, x22, x23, o24) =>
    some (r21, x22, x23, o24))

def C_F39 (O : Orc) : Prop := ∀ (t1 : Token) (touches2 : Bool) (x3 : Str) (x4 : Int) (x5 : Int) (x6 : Int) (x7 : Int) (l8 : List Token) (l9 : List Str) (r10 : Bool) (x11 : Int) (x12 : Int) (o13 : List Token), F39 t1 touches2 x3 x4 x5 x6 x7 l8 l9 = some (r10, x11, x12, o13) → O.C 39 [.ref 0 0, .pv (.agg [.int .i64 t1.kind_, .int .i64 t1.at_, .str t1.text_, .str t1.quoted_]), .pv (.bool touches2)] [.var [.pv (.str x3), .pv (.int .i64 x4), .vec 1 (List.length l8), .vec 2 (List.length l9), .pv (.int .i64 x5), .pv (.int .i64 x6), .pv (.int .i64 x7)], .row 30 4 (List.map Token.pv l8) true, .row 9 1 (List.map PV.str l9) true] = some ([.pv (.bool r10)], [.var [.pv (.str x3), .pv (.int .i64 x4), .vec 1 (List.length o13), .vec 2 (List.length l9), .pv (.int .i64 x5), .pv (.int .i64 x11), .pv (.int .i64 x12)], .row 30 4 (List.map Token.pv o13) true, .row 9 1 (List.map PV.str l9) true])

def F55 (c1 : Int) : Option Bool :=
  some (((((decide (97 ≤ c1) && decide (c1 ≤ 122)) || (decide (65 ≤ c1) && decide (c1 ≤ 90))) || (decide (48 ≤ c1) && decide (c1 ≤ 57))) || decide (c1 = 95)) || decide (c1 = 42))

def C_F55 (O : Orc) : Prop := ∀ (c1 : Int) (r2 : Bool), F55 c1 = some r2 → O.C 55 [.pv (.int .u8 c1)] [] = some ([.pv (.bool r2)], [])

def F40_b1 (x1 : Str) (x2 : Int) (x3 : Int) (x4 : Int) (x5 : Int) (l6 : List Token) (l7 : List Str) (again14 : Int → Option (Bool × Int × Int × Int × (List Token))) : Int → Option (Bool × Int × Int × Int × (List Token)) := fun x13 =>
  (guardO (decide (x13 < (x1.length : Int))) (sidx x1 x13)).bind fun c17 =>
  (guardO (decide (x13 < (x1.length : Int))) (F55 c17)).bind fun r20 =>
  (bif (decide (x13 < (x1.length : Int)) && r20) then
    again14 (IntKind.wrap .i64 (x13 + 1))
  else
    (bif decide (x13 = x2) then
      (F34x2 x2 47 x1 x13 x3 x4 x5 l6 l7).bind fun (r25, x26, x27) =>
      some (r25, x13, x26, x27, l6)
    else
      (sslice x1 x2 x13).bind fun t31 =>
      (L_Repeat [48] (t31.length : Int)).bind fun t34 =>
      (F33x1 (Token.mk 1 x2 t31 t34) x1 x13 x3 x4 x5 l6 l7).bind fun (r37, x38, x39, o40) =>
      some (r37, x13, x38, x39, o40)))

def F40 (x1 : Str) (x2 : Int) (x3 : Int) (x4 : Int) (x5 : Int) (l6 : List Token) (l7 : List Str) : Option (Bool × Int × Int × Int × (List Token)) :=
  iter (F40_b1 x1 x2 x3 x4 x5 l6 l7) BIG x2

def C_F40 (O : Orc) : Prop := ∀ (x1 : Str) (x2 : Int) (x3 : Int) (x4 : Int) (x5 : Int) (l6 : List Token) (l7 : List Str) (r8 : Bool) (x9 : Int) (x10 : Int) (x11 : Int) (o12 : List Token), F40 x1 x2 x3 x4 x5 l6 l7 = some (r8, x9, x10, x11, o12) → O.C 40 [.ref 0 0] [.var [.pv (.str x1), .pv (.int .i64 x2), .vec 1 (List.length l6), .vec 2 (List.length l7), .pv (.int .i64 x3), .pv (.int .i64 x4), .pv (.int .i64 x5)], .row 30 4 (List.map Token.pv l6) true, .row 9 1 (List.map PV.str l7) true] = some ([.pv (.bool r8)], [.var [.pv (.str x1), .pv (.int .i64 x9), .vec 1 (List.length o12), .vec 2 (List.length l7), .pv (.int .i64 x3), .pv (.int .i64 x10), .pv (.int .i64 x11)], .row 30 4 (List.map Token.pv o12) true, .row 9 1 (List.map PV.str l7) true])

def F25 (x1 : Str) (x2 : Int) (x3 : Int) (x4 : Int) (x5 : Int) (l6 : List Token) (l7 : List Str) : Option (Bool × Int × Int × Int × (List Token)) :=
  (F37 x1 x2 x3 x4 x5 l6 l7).bind fun r13 =>
  (F38 x1 x2 x3 x4 x5 l6 l7).bind fun (r17, r18, x19, x20) =>
  (bif !r18 then
    some (false, x2, x19, x20, l6)
  else
    (bif !decide (r17 = []) then
      (F39 (Token.mk 2 x2 r17 []) r13 x1 (IntKind.wrap .i64 (x2 + (r17.length : Int))) x3 x19 x20 l6 l7).bind fun (r26, x27, x28, o29) =>
      (bif !r26 then
        some (false, (IntKind.wrap .i64 (x2 + (r17.length : Int))), x27, x28, o29)
      else
        (bif (decide (r17 = [36]) || decide (r17 = [36, 35])) then
          (F40 x1 (IntKind.wrap .i64 (x2 + (r17.length : Int))) x3 x27 x28 o29 l7).bind fun (r35, x36, x37, x38, o39) =>
          some (r35, x36, x37, x38, o39)
        else
          some (true, (IntKind.wrap .i64 (x2 + (r17.length : Int))), x27, x28, o29)))
    else
      (F36x1 x1 x2 x3 x19 x20 l6 l7).bind fun (r43, r44, r45, x46, x47, x48) =>
      (bif r45 then
        (F39 (Token.mk 1 x2 r43 r44) r13 x1 x46 x3 x47 x48 l6 l7).bind fun (r52, x53, x54, o55) =>
        some (r52, x46, x53, x54, o55)
      else
        some (false, x46, x47, x48, l6))))

def C_F25 (O : Orc) : Prop := ∀ (x1 : Str) (x2 : Int) (x3 : Int) (x4 : Int) (x5 : Int) (l6 : List Token) (l7 : List Str) (r8 : Bool) (x9 : Int) (x10 : Int) (x11 : Int) (o12 : List Token), F25 x1 x2 x3 x4 x5 l6 l7 = some (r8, x9, x10, x11, o12) → O.C 25 [.ref 0 0] [.var [.pv (.str x1), .pv (.int .i64 x2), .vec 1 (List.length l6), .vec 2 (List.length l7), .pv (.int .i64 x3), .pv (.int .i64 x4), .pv (.int .i64 x5)], .row 30 4 (List.map Token.pv l6) true, .row 9 1 (List.map PV.str l7) true] = some ([.pv (.bool r8)], [.var [.pv (.str x1), .pv (.int .i64 x9), .vec 1 (List.length o12), .vec 2 (List.length l7), .pv (.int .i64 x3), .pv (.int .i64 x10), .pv (.int .i64 x11)], .row 30 4 (List.map Token.pv o12) true, .row 9 1 (List.map PV.str l7) true])

def F10_b1 (s1 : Str) (again12 : (Int × Int × Int × Int × (List Token) × (List Str)) → Option ((List Token) × Int × Int)) : (Int × Int × Int × Int × (List Token) × (List Str)) → Option ((List Token) × Int × Int) := fun (x6, x7, x8, x9, l10, l11) =>
  (bif decide (x9 = 0) then
    (F19x2 s1 x6 x6 x8 x9 l10 l11).bind fun x16 =>
    (F20x2 s1 x16 x6 x8 x9 l10 l11).bind fun r20 =>
    (bif decide (r20 = []) then
      (bif decide (0 < (l11.length : Int)) then
        some ([], (s1.length : Int), 3)
      else
        some (l10, 0, 0))
    else
      (sidx r20 0).bind fun c26 =>
      (bif decide (c26 = 35) then
        (L_IndexByte r20 10).bind fun n30 =>
        (bif decide (0 ≤ n30) then
          again12 (IntKind.wrap .i64 ((IntKind.wrap .i64 (x16 + (r20.length : Int))) + (IntKind.wrap .i64 (n30 - (r20.length : Int)))), x6, x8, x9, l10, l11)
        else
          again12 (IntKind.wrap .i64 (x16 + (r20.length : Int)), x6, x8, x9, l10, l11))
      else
        (bif decide (c26 = 10) then
          (F22x1 s1 x16 x6 x8 x9 l10 l11).bind fun (tag35, r36, x37, x38, x39, o40) =>
          (bif tag35 then
            again12 (x37, x6, x38, x39, o40, ([] : List Str))
          else
            again12 (x37, x6, x38, x39, o40, l11))
        else
          (F23 r20 [60, 60]).bind fun r44 =>
          (bif r44 then
            (F24 s1 x16 x6 x8 x9 l10 l11).bind fun (r48, x49, x50, x51, o52, o53) =>
            again12 (x49, x6, x50, x51, o52, o53)
          else
            (F25 s1 x16 x6 x8 x9 l10 l11).bind fun (r57, x58, x59, x60, o61) =>
            again12 (x58, x6, x59, x60, o61, l11)))))
  else
    some ([], x8, x9))

def F10 (s1 : Str) : Option ((List Token) × Int × Int) :=
  (bif decide (65536 < (s1.length : Int)) then
    some ([], 0, 4)
  else
    iter (F10_b1 s1) BIG (0, 0, 0, 0, ([] : List Token), ([] : List Str)))

def C_F10 (O : Orc) : Prop := ∀ (s1 : Str) (r2 : List Token) (r3 : Int) (r4 : Int), F10 s1 = some (r2, r3, r4) → O.C 10 [.pv (.str s1)] [] = some ([.pv (.slice (List.map Token.pv r2)), .pv (.int .i64 r3), .pv (.int .i64 r4)], [])

def F12_b1 (s1 : Str) (again11 : Nat → Option Bool) : Nat → Option Bool := fun p10 =>
  (bif decide (p10 < s1.length) then
    (sidx s1 (p10 : Int)).bind fun c16 =>
    (L_IndexByte [32, 9, 10, 59, 38, 124, 40, 41, 123, 125, 60, 62, 61, 94, 96, 36, 39, 92, 42, 63, 91] c16).bind fun n19 =>
    (bif decide (0 ≤ n19) then
      some false
    else
      again11 (runeN s1 p10))
  else
    some true)

def F12 (s1 : Str) : Option Bool :=
  (guardO (!(decide (s1 = []))) (sidx s1 0)).bind fun c3 =>
  (guardO (!(decide (s1 = []))) (L_IndexByte [35, 33, 64] c3)).bind fun n6 =>
  (bif (decide (s1 = []) || decide (0 ≤ n6)) then
    some false
  else
    iter (F12_b1 s1) BIG 0)

def C_F12 (O : Orc) : Prop := ∀ (s1 : Str) (r2 : Bool), F12 s1 = some r2 → O.C 12 [.pv (.str s1)] [] = some ([.pv (.bool r2)], [])

def F9 (s1 : Str) : Option Str :=
  (F12 s1).bind fun r3 =>
  (bif r3 then
    some s1
  else
    (L_ReplaceAll s1 [39] [39, 39]).bind fun t7 =>
    (catO [39] t7).bind fun s10 =>
    (catO s10 [39]).bind fun s13 =>
    some s13)

def C_F9 (O : Orc) : Prop := ∀ (s1 : Str) (r2 : Str), F9 s1 = some r2 → O.C 9 [.pv (.str s1)] [] = some ([.pv (.str r2)], [])

def F8 : Option Bool :=
  (F10 [101, 99, 104, 111, 32, 36, 120, 46, 99]).bind fun (r2, r3, r4) =>
  (F10 [99, 97, 116, 32, 60, 60, 69, 10, 120, 10, 69, 10, 108, 115]).bind fun (r7, r8, r9) =>
  (F10 [97, 62, 91, 54, 52, 93, 98]).bind fun (r12, r13, r14) =>
  (F10 [97, 39, 98]).bind fun (r17, r18, r19) =>
  (F14 [97, 10, 98, 10, 69, 79, 70, 10, 99] 0 [69, 79, 70]).bind fun (r22, r23, r24) =>
  (bif (!decide ((r2.length : Int) = 5) || !decide ((r7.length : Int) = 4)) then
    some false
  else
    (lidx r2 3).bind fun u28 =>
    (guardO (decide (u28.kind_ = 2) && (decide (u28.at_ = 7) && (decide (u28.text_ = [94]) && (decide (u28.quoted_ = []))))) (lidx r2 4)).bind fun u31 =>
    (guardO (((((decide (u28.kind_ = 2) && (decide (u28.at_ = 7) && (decide (u28.text_ = [94]) && (decide (u28.quoted_ = []))))) && (decide (u31.kind_ = 1) && (decide (u31.at_ = 7) && (decide (u31.text_ = [46, 99]) && (decide (u31.quoted_ = [48, 48])))))) && decide (r3 = 0)) && decide (r4 = 0)) && decide (r9 = 0)) (lidx r7 1)).bind fun u34 =>
    (guardO (((((((decide (u28.kind_ = 2) && (decide (u28.at_ = 7) && (decide (u28.text_ = [94]) && (decide (u28.quoted_ = []))))) && (decide (u31.kind_ = 1) && (decide (u31.at_ = 7) && (decide (u31.text_ = [46, 99]) && (decide (u31.quoted_ = [48, 48])))))) && decide (r3 = 0)) && decide (r4 = 0)) && decide (r9 = 0)) && decide (u34.kind_ = 4)) && decide (u34.text_ = [69])) (lidx r7 3)).bind fun u37 =>
    (guardO (((((((((((((((decide (u28.kind_ = 2) && (decide (u28.at_ = 7) && (decide (u28.text_ = [94]) && (decide (u28.quoted_ = []))))) && (decide (u31.kind_ = 1) && (decide (u31.at_ = 7) && (decide (u31.text_ = [46, 99]) && (decide (u31.quoted_ = [48, 48])))))) && decide (r3 = 0)) && decide (r4 = 0)) && decide (r9 = 0)) && decide (u34.kind_ = 4)) && decide (u34.text_ = [69])) && decide (u37.at_ = 12)) && decide (r13 = 2)) && decide (r14 = 47)) && decide (r18 = 1)) && decide (r19 = 48)) && decide (r22 = [97, 10, 98, 10])) && decide (r23 = 8)) && decide (r24 = 0)) (F9 [105, 116, 39, 115])).bind fun r40 =>
    (guardO ((((((((((((((((decide (u28.kind_ = 2) && (decide (u28.at_ = 7) && (decide (u28.text_ = [94]) && (decide (u28.quoted_ = []))))) && (decide (u31.kind_ = 1) && (decide (u31.at_ = 7) && (decide (u31.text_ = [46, 99]) && (decide (u31.quoted_ = [48, 48])))))) && decide (r3 = 0)) && decide (r4 = 0)) && decide (r9 = 0)) && decide (u34.kind_ = 4)) && decide (u34.text_ = [69])) && decide (u37.at_ = 12)) && decide (r13 = 2)) && decide (r14 = 47)) && decide (r18 = 1)) && decide (r19 = 48)) && decide (r22 = [97, 10, 98, 10])) && decide (r23 = 8)) && decide (r24 = 0)) && decide (r40 = [39, 105, 116, 39, 39, 115, 39])) (F9 [97])).bind fun r43 =>
    (guardO (((((((((((((((((decide (u28.kind_ = 2) && (decide (u28.at_ = 7) && (decide (u28.text_ = [94]) && (decide (u28.quoted_ = []))))) && (decide (u31.kind_ = 1) && (decide (u31.at_ = 7) && (decide (u31.text_ = [46, 99]) && (decide (u31.quoted_ = [48, 48])))))) && decide (r3 = 0)) && decide (r4 = 0)) && decide (r9 = 0)) && decide (u34.kind_ = 4)) && decide (u34.text_ = [69])) && decide (u37.at_ = 12)) && decide (r13 = 2)) && decide (r14 = 47)) && decide (r18 = 1)) && decide (r19 = 48)) && decide (r22 = [97, 10, 98, 10])) && decide (r23 = 8)) && decide (r24 = 0)) && decide (r40 = [39, 105, 116, 39, 39, 115, 39])) && decide (r43 = [97])) (F12 [42])).bind fun r46 =>
    (guardO ((((((((((((((((((decide (u28.kind_ = 2) && (decide (u28.at_ = 7) && (decide (u28.text_ = [94]) && (decide (u28.quoted_ = []))))) && (decide (u31.kind_ = 1) && (decide (u31.at_ = 7) && (decide (u31.text_ = [46, 99]) && (decide (u31.quoted_ = [48, 48])))))) && decide (r3 = 0)) && decide (r4 = 0)) && decide (r9 = 0)) && decide (u34.kind_ = 4)) && decide (u34.text_ = [69])) && decide (u37.at_ = 12)) && decide (r13 = 2)) && decide (r14 = 47)) && decide (r18 = 1)) && decide (r19 = 48)) && decide (r22 = [97, 10, 98, 10])) && decide (r23 = 8)) && decide (r24 = 0)) && decide (r40 = [39, 105, 116, 39, 39, 115, 39])) && decide (r43 = [97])) && !r46) (F12 [97, 33, 98])).bind fun r49 =>
    some (((((((((((((((((((decide (u28.kind_ = 2) && (decide (u28.at_ = 7) && (decide (u28.text_ = [94]) && (decide (u28.quoted_ = []))))) && (decide (u31.kind_ = 1) && (decide (u31.at_ = 7) && (decide (u31.text_ = [46, 99]) && (decide (u31.quoted_ = [48, 48])))))) && decide (r3 = 0)) && decide (r4 = 0)) && decide (r9 = 0)) && decide (u34.kind_ = 4)) && decide (u34.text_ = [69])) && decide (u37.at_ = 12)) && decide (r13 = 2)) && decide (r14 = 47)) && decide (r18 = 1)) && decide (r19 = 48)) && decide (r22 = [97, 10, 98, 10])) && decide (r23 = 8)) && decide (r24 = 0)) && decide (r40 = [39, 105, 116, 39, 39, 115, 39])) && decide (r43 = [97])) && !r46) && r49))

def C_F8 (O : Orc) : Prop := ∀  (r1 : Bool), F8 = some r1 → O.C 8 [] [] = some ([.pv (.bool r1)], [])

def F41 (s1 : Str) (at2 : Int) : Option Int :=
  (guardO (decide (at2 < (s1.length : Int))) (sidx s1 at2)).bind fun c4 =>
  (bif (decide (at2 < (s1.length : Int)) && (decide (c4 = 32) || decide (c4 = 9))) then
    some 1
  else
    (guardO (decide (IntKind.wrap .i64 (at2 + 1) < (s1.length : Int))) (sidx s1 at2)).bind fun c8 =>
    (guardO (decide (IntKind.wrap .i64 (at2 + 1) < (s1.length : Int)) && decide (c8 = 92)) (sidx s1 (IntKind.wrap .i64 (at2 + 1)))).bind fun c11 =>
    (bif ((decide (IntKind.wrap .i64 (at2 + 1) < (s1.length : Int)) && decide (c8 = 92)) && decide (c11 = 10)) then
      some 2
    else
      some 0))

def C_F41 (O : Orc) : Prop := ∀ (s1 : Str) (at2 : Int) (r3 : Int), F41 s1 at2 = some r3 → O.C 41 [.pv (.str s1), .pv (.int .i64 at2)] [] = some ([.pv (.int .i64 r3)], [])

def F27_b1 (all2 : Str) (c1 : Int) (again5 : Int → Option Bool) : Int → Option Bool := fun i4 =>
  (bif decide (i4 < (all2.length : Int)) then
    (sidx all2 i4).bind fun c9 =>
    (bif decide (c9 = c1) then
      some true
    else
      again5 (IntKind.wrap .i64 (i4 + 1)))
  else
    some false)

def F27 (c1 : Int) (all2 : Str) : Option Bool :=
  iter (F27_b1 all2 c1) BIG 0

def C_F27 (O : Orc) : Prop := ∀ (c1 : Int) (all2 : Str) (r3 : Bool), F27 c1 all2 = some r3 → O.C 27 [.pv (.int .u8 c1), .pv (.str all2)] [] = some ([.pv (.bool r3)], [])

def F26 (s1 : Str) (at2 : Int) : Option Bool :=
  (guardO (decide (at2 < (s1.length : Int))) (F41 s1 at2)).bind fun r4 =>
  (guardO (decide (at2 < (s1.length : Int)) && decide (r4 = 0)) (sidx s1 at2)).bind fun c7 =>
  (guardO (decide (at2 < (s1.length : Int)) && decide (r4 = 0)) (F27 c7 [10, 59, 38, 124, 40, 41, 123, 125, 60, 62, 61, 94, 96, 36, 39])).bind fun r10 =>
  some ((decide (at2 < (s1.length : Int)) && decide (r4 = 0)) && !r10)

def C_F26 (O : Orc) : Prop := ∀ (s1 : Str) (at2 : Int) (r3 : Bool), F26 s1 at2 = some r3 → O.C 26 [.pv (.str s1), .pv (.int .i64 at2)] [] = some ([.pv (.bool r3)], [])

def F13_b1 (s1 : Str) (again4 : Int → Option Bool) : Int → Option Bool := fun i3 =>
  (bif decide (i3 < (s1.length : Int)) then
    (F26 s1 i3).bind fun r8 =>
    (guardO r8 (sidx s1 i3)).bind fun c11 =>
    (guardO r8 (F27 c11 [92, 42, 63, 91])).bind fun r14 =>
    (bif (!r8 || r14) then
      some false
    else
      again4 (IntKind.wrap .i64 (i3 + 1)))
  else
    (guardO (!decide (s1 = [])) (sidx s1 0)).bind fun c18 =>
    (guardO (!decide (s1 = [])) (F27 c18 [35, 33, 64])).bind fun r21 =>
    some (!decide (s1 = []) && !r21))

def F13 (s1 : Str) : Option Bool :=
  iter (F13_b1 s1) BIG 0

def C_F13 (O : Orc) : Prop := ∀ (s1 : Str) (r2 : Bool), F13 s1 = some r2 → O.C 13 [.pv (.str s1)] [] = some ([.pv (.bool r2)], [])

def F11_b1 (s1 : Str) (again9 : (Str × Int) → Option Str) : (Str × Int) → Option Str := fun (out7, i8) =>
  (bif decide (i8 < (s1.length : Int)) then
    (sslice s1 i8 (IntKind.wrap .i64 (i8 + 1))).bind fun t13 =>
    (catO out7 t13).bind fun s16 =>
    (sidx s1 i8).bind fun c19 =>
    (bif decide (c19 = 39) then
      (catO s16 [39]).bind fun s23 =>
      again9 (s23, IntKind.wrap .i64 (i8 + 1))
    else
      again9 (s16, IntKind.wrap .i64 (i8 + 1)))
  else
    (catO out7 [39]).bind fun s26 =>
    some s26)

def F11 (s1 : Str) : Option Str :=
  (F13 s1).bind fun r3 =>
  (bif r3 then
    some s1
  else
    iter (F11_b1 s1) BIG ([39], 0))

def C_F11 (O : Orc) : Prop := ∀ (s1 : Str) (r2 : Str), F11 s1 = some r2 → O.C 11 [.pv (.str s1)] [] = some ([.pv (.str r2)], [])

def F3_b1 (s1 : Str) (u25 : Token) (again30 : Int → Option Bool) : Int → Option Bool := fun i29 =>
  (bif decide (i29 < (s1.length : Int)) then
    (sidx u25.quoted_ i29).bind fun c34 =>
    (guardO (!(!decide (c34 = 48) && !decide (c34 = 49))) (F12 s1)).bind fun r37 =>
    (bif ((!decide (c34 = 48) && !decide (c34 = 49)) || ((decide (c34 = 49)) == r37)) then
      some false
    else
      again30 (IntKind.wrap .i64 (i29 + 1)))
  else
    (F8).bind fun r41 =>
    some r41)

def F3 (s1 : Str) : Option Bool :=
  (bif decide (1000 < (s1.length : Int)) then
    (F8).bind fun r4 =>
    some r4
  else
    (F9 s1).bind fun r7 =>
    (F10 r7).bind fun (r10, r11, r12) =>
    (F11 s1).bind fun r15 =>
    (guardO (decide (r7 = r15)) (F12 s1)).bind fun r18 =>
    (guardO (decide (r7 = r15)) (F13 s1)).bind fun r21 =>
    (bif (((!decide (r7 = r15) || !(r18 == r21)) || !decide (r12 = 0)) || !decide ((r10.length : Int) = 1)) then
      some false
    else
      (lidx r10 0).bind fun u25 =>
      (bif (((!decide (u25.kind_ = 1) || !decide (u25.at_ = 0)) || !decide (u25.text_ = s1)) || !decide ((u25.quoted_.length : Int) = (s1.length : Int))) then
        some false
      else
        iter (F3_b1 s1 u25) BIG 0)))

def C_F3 (O : Orc) : Prop := ∀ (s1 : Str) (r2 : Bool), F3 s1 = some r2 → O.C 3 [.pv (.str s1)] [] = some ([.pv (.bool r2)], [])

def F15_b3 (s1 : Str) (from8 : Int) (end3 : Str) (at2 : Int) (again9 : (Int) → Option (Str × Int × Int)) (again14 : Int → Option (Str × Int × Int)) : Int → Option (Str × Int × Int) := fun to13 =>
  (guardO (decide (to13 < (s1.length : Int))) (sidx s1 to13)).bind fun c17 =>
  (bif (decide (to13 < (s1.length : Int)) && !decide (c17 = 10)) then
    again14 (IntKind.wrap .i64 (to13 + 1))
  else
    (sslice s1 from8 to13).bind fun t21 =>
    (bif decide (t21 = end3) then
      (sslice s1 at2 from8).bind fun t25 =>
      some (t25, imin (IntKind.wrap .i64 (to13 + 1)) (s1.length : Int), 0)
    else
      again9 (IntKind.wrap .i64 (to13 + 1))))

def F15_b2 (s1 : Str) (end3 : Str) (at2 : Int) (again9 : Int → Option (Str × Int × Int)) : Int → Option (Str × Int × Int) := fun from8 =>
  (bif decide (from8 < (s1.length : Int)) then
    iter (F15_b3 s1 from8 end3 at2 again9) BIG from8
  else
    some ([], 0, 3))

def F15 (s1 : Str) (at2 : Int) (end3 : Str) : Option (Str × Int × Int) :=
  (bif (decide (at2 < 0) || decide ((s1.length : Int) < at2)) then
    some ([], 0, 1)
  else
    iter (F15_b2 s1 end3 at2) BIG at2)

def C_F15 (O : Orc) : Prop := ∀ (s1 : Str) (at2 : Int) (end3 : Str) (r4 : Str) (r5 : Int) (r6 : Int), F15 s1 at2 end3 = some (r4, r5, r6) → O.C 15 [.pv (.str s1), .pv (.int .i64 at2), .pv (.str end3)] [] = some ([.pv (.str r4), .pv (.int .i64 r5), .pv (.int .i64 r6)], [])

def F4 (s1 : Str) (at2 : Int) (end3 : Str) : Option Bool :=
  (bif (decide (3000 < (s1.length : Int)) || decide (1000 < (end3.length : Int))) then
    (F8).bind fun r6 =>
    some r6
  else
    (F14 s1 at2 end3).bind fun (r9, r10, r11) =>
    (F15 s1 at2 end3).bind fun (r14, r15, r16) =>
    (guardO ((decide (r9 = r14) && decide (r10 = r15)) && decide (r11 = r16)) (F8)).bind fun r19 =>
    some (((decide (r9 = r14) && decide (r10 = r15)) && decide (r11 = r16)) && r19))

def C_F4 (O : Orc) : Prop := ∀ (s1 : Str) (at2 : Int) (end3 : Str) (r4 : Bool), F4 s1 at2 end3 = some r4 → O.C 4 [.pv (.str s1), .pv (.int .i64 at2), .pv (.str end3)] [] = some ([.pv (.bool r4)], [])

def F5_b1 (r7 : List Token) (s1 : Str) (again18 : (Int × Int) → Option Bool) : (Int × Int) → Option Bool := fun (last16, i17) =>
  (bif decide (i17 < (r7.length : Int)) then
    (lidx r7 i17).bind fun u22 =>
    (bif (decide (u22.at_ < last16) || decide ((s1.length : Int) ≤ u22.at_)) then
      some false
    else
      (bif (decide (u22.kind_ = 1) || decide (u22.kind_ = 4)) then
        (bif !decide ((u22.quoted_.length : Int) = (u22.text_.length : Int)) then
          some false
        else
          again18 (u22.at_, IntKind.wrap .i64 (i17 + 1)))
      else
        (guardO (decide (u22.text_ = [94])) (sidx s1 u22.at_)).bind fun c28 =>
        (guardO ((decide (u22.quoted_ = []) && !(decide (u22.text_ = [94]) && !decide (c28 = 94))) && !(decide (IntKind.wrap .i64 ((s1.length : Int) - u22.at_) < (u22.text_.length : Int)))) (sslice s1 u22.at_ (IntKind.wrap .i64 (u22.at_ + (u22.text_.length : Int))))).bind fun t31 =>
        (bif (!decide (u22.quoted_ = []) || (!(decide (u22.text_ = [94]) && !decide (c28 = 94)) && (decide (IntKind.wrap .i64 ((s1.length : Int) - u22.at_) < (u22.text_.length : Int)) || !decide (t31 = u22.text_)))) then
          some false
        else
          again18 (u22.at_, IntKind.wrap .i64 (i17 + 1)))))
  else
    (F8).bind fun r35 =>
    some r35)

def F5 (s1 : Str) : Option Bool :=
  (bif decide (3000 < (s1.length : Int)) then
    (F8).bind fun r4 =>
    some r4
  else
    (F10 s1).bind fun (r7, r8, r9) =>
    (bif !decide (r9 = 0) then
      (guardO ((decide ((r7.length : Int) = 0) && decide (0 ≤ r8)) && decide (r8 ≤ (s1.length : Int))) (F8)).bind fun r13 =>
      some (((decide ((r7.length : Int) = 0) && decide (0 ≤ r8)) && decide (r8 ≤ (s1.length : Int))) && r13)
    else
      iter (F5_b1 r7 s1) BIG (0, 0)))

def C_F5 (O : Orc) : Prop := ∀ (s1 : Str) (r2 : Bool), F5 s1 = some r2 → O.C 5 [.pv (.str s1)] [] = some ([.pv (.bool r2)], [])

def F17_b1 (out4 : List Token) (n2 : Int) (again9 : (Int × (List Token)) → Option (List Token)) : (Int × (List Token)) → Option (List Token) := fun (i7, l8) =>
  (bif decide (i7 < (out4.length : Int)) then
    (lidx l8 i7).bind fun u13 =>
    again9 (IntKind.wrap .i64 (i7 + 1), List.set l8 (Int.toNat i7) (Token.mk u13.kind_ (IntKind.wrap .i64 (u13.at_ + n2)) u13.text_ u13.quoted_))
  else
    some l8)

def F17 (l1 : List Token) (n2 : Int) : Option (List Token) :=
  (appO 48 ([] : List Token) l1).bind fun out4 =>
  iter (F17_b1 out4 n2) BIG (0, out4)

def C_F17 (O : Orc) : Prop := ∀ (l1 : List Token) (n2 : Int) (r3 : List Token), F17 l1 n2 = some r3 → O.C 17 [.pv (.slice (List.map Token.pv l1)), .pv (.int .i64 n2)] [] = some ([.pv (.slice (List.map Token.pv r3))], [])

def F16_b1 (a1 : List Token) (b2 : List Token) (again6 : Int → Option Bool) : Int → Option Bool := fun i5 =>
  (bif decide (i5 < (a1.length : Int)) then
    (lidx a1 i5).bind fun u10 =>
    (lidx b2 i5).bind fun u13 =>
    (bif !(decide (u10.kind_ = u13.kind_) && (decide (u10.at_ = u13.at_) && (decide (u10.text_ = u13.text_) && (decide (u10.quoted_ = u13.quoted_))))) then
      some false
    else
      again6 (IntKind.wrap .i64 (i5 + 1)))
  else
    some true)

def F16 (a1 : List Token) (b2 : List Token) : Option Bool :=
  (bif !decide ((a1.length : Int) = (b2.length : Int)) then
    some false
  else
    iter (F16_b1 a1 b2) BIG 0)

def C_F16 (O : Orc) : Prop := ∀ (a1 : List Token) (b2 : List Token) (r3 : Bool), F16 a1 b2 = some r3 → O.C 16 [.pv (.slice (List.map Token.pv a1)), .pv (.slice (List.map Token.pv b2))] [] = some ([.pv (.bool r3)], [])

def F6 (s1 : Str) (which2 : Int) : Option Bool :=
  (bif decide (3000 < (s1.length : Int)) then
    (F8).bind fun r5 =>
    some r5
  else
    (F10 s1).bind fun (r10, r11, r12) =>
    (catO (bif decide (Int.tmod which2 3 = 2) then [92, 10] else (bif decide (Int.tmod which2 3 = 1) then [9] else [32])) s1).bind fun s15 =>
    (F10 s15).bind fun (r18, r19, r20) =>
    (guardO (decide (r12 = r20)) (F17 r10 (((bif decide (Int.tmod which2 3 = 2) then [92, 10] else (bif decide (Int.tmod which2 3 = 1) then [9] else [32])) : Str).length : Int))).bind fun r23 =>
    (guardO (decide (r12 = r20)) (F16 r23 r18)).bind fun r26 =>
    (guardO ((decide (r12 = r20) && r26) && (decide (r12 = 0) || decide (r19 = IntKind.wrap .i64 (r11 + (((bif decide (Int.tmod which2 3 = 2) then [92, 10] else (bif decide (Int.tmod which2 3 = 1) then [9] else [32])) : Str).length : Int))))) (F8)).bind fun r29 =>
    some (((decide (r12 = r20) && r26) && (decide (r12 = 0) || decide (r19 = IntKind.wrap .i64 (r11 + (((bif decide (Int.tmod which2 3 = 2) then [92, 10] else (bif decide (Int.tmod which2 3 = 1) then [9] else [32])) : Str).length : Int))))) && r29))

def C_F6 (O : Orc) : Prop := ∀ (s1 : Str) (which2 : Int) (r3 : Bool), F6 s1 which2 = some r3 → O.C 6 [.pv (.str s1), .pv (.int .u8 which2)] [] = some ([.pv (.bool r3)], [])

def F7_b1 (r11 : List Token) (a1 : Str) (r16 : List Token) (b2 : Str) (again26 : Int → Option Bool) : Int → Option Bool := fun i25 =>
  (bif decide (i25 < (r11.length : Int)) then
    (lidx r11 i25).bind fun u30 =>
    (bif decide (u30.kind_ = 4) then
      (F8).bind fun r34 =>
      some r34
    else
      again26 (IntKind.wrap .i64 (i25 + 1)))
  else
    (appO 48 ([] : List Token) r11).bind fun out37 =>
    (appO 48 out37 [Token.mk 3 (a1.length : Int) [10] []]).bind fun out40 =>
    (F17 r16 (IntKind.wrap .i64 ((a1.length : Int) + 1))).bind fun r43 =>
    (appO 48 out40 r43).bind fun out46 =>
    (catO a1 [10]).bind fun s49 =>
    (catO s49 b2).bind fun s52 =>
    (F10 s52).bind fun (r55, r56, r57) =>
    (guardO (decide (r57 = 0)) (F16 r55 out46)).bind fun r60 =>
    (guardO (decide (r57 = 0) && r60) (F8)).bind fun r63 =>
    some ((decide (r57 = 0) && r60) && r63))

def F7 (a1 : Str) (b2 : Str) : Option Bool :=
  (guardO (!(decide (1000 < (a1.length : Int)) || decide (1000 < (b2.length : Int))) && decide (0 < (a1.length : Int))) (sidx a1 (IntKind.wrap .i64 ((a1.length : Int) - 1)))).bind fun c4 =>
  (bif ((decide (1000 < (a1.length : Int)) || decide (1000 < (b2.length : Int))) || (decide (0 < (a1.length : Int)) && decide (c4 = 92))) then
    (F8).bind fun r8 =>
    some r8
  else
    (F10 a1).bind fun (r11, r12, r13) =>
    (F10 b2).bind fun (r16, r17, r18) =>
    (bif ((!decide (r13 = 0) || !decide (r18 = 0)) || decide (1024 < IntKind.wrap .i64 ((IntKind.wrap .i64 ((r11.length : Int) + 1)) + (r16.length : Int)))) then
      (F8).bind fun r22 =>
      some r22
    else
      iter (F7_b1 r11 a1 r16 b2) BIG 0))

def C_F7 (O : Orc) : Prop := ∀ (a1 : Str) (b2 : Str) (r3 : Bool), F7 a1 b2 = some r3 → O.C 7 [.pv (.str a1), .pv (.str b2)] [] = some ([.pv (.bool r3)], [])

end Go.Abs.U47
