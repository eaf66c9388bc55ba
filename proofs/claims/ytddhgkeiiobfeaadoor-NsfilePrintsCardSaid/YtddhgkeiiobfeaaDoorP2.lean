/- The layer 45 laws, in plain Lean: the lines of operations. -/
import Derived.Test.YtddhgkeiiobfeaaDoorP1
namespace Go.Abs.U45
open Go

/-! ### The reference's quoted words -/

def fin39 (s o : Str) (odd : Bool) : Option Str := bif odd then some (39 :: (o ++ [39])) else some s

theorem loop39 {s : Str} (hs : s.length ≤ 2147483647) (b : Bool) : iter (F39_b1 s) BIG ([], b, 0) = fin39 s (dbl s) (b || !(s.map B).all okW) := by
  refine iter_big (α := Str × Bool × Int) (fun a => ∃ j : Nat, a.2.2 = j ∧ j ≤ s.length ∧ a.1.length ≤ 2 * j) (fun a => s.length - a.2.2.toNat)
    (fun a => fin39 s (a.1 ++ dbl (s.drop a.2.2.toNat)) (a.2.1 || !((s.drop a.2.2.toNat).map B).all okW)) ?_ ([], b, 0) ⟨0, rfl, Nat.zero_le _, Nat.zero_le _⟩ (by simp; omega)
  rintro again ⟨o, b, i⟩ ⟨j, hj, hjl, ho⟩ hag
  simp only at hj ho
  subst hj
  rw [F39_b1]
  simp only [Int.toNat_natCast]
  by_cases hlt : j < s.length
  · rw [decide_eq_true (by omega), cond_t, wrap64 (by omega) (by omega)]
    have hag' : ∀ o b, o.length ≤ 2 * (j + 1) → again (o, b, (j : Int) + 1) = fin39 s (o ++ dbl (s.drop (j + 1))) (b || !((s.drop (j + 1)).map B).all okW) :=
      fun o b ho => hag (o, b, ((j + 1 : Nat) : Int)) ⟨j + 1, rfl, hlt, ho⟩ (by simp only [Int.toNat_natCast]; omega)
    have hsl : sslice s (j : Int) ((j : Int) + 1) = some [s[j]] := by
      unfold sslice
      rw [if_pos ⟨by omega, by omega, by omega⟩]
      have : ((j : Int) + 1).toNat - (j : Int).toNat = 1 := by omega
      rw [this, Int.toNat_natCast, drop_at hlt]
      rfl
    have hcat : catO o [s[j]] = some (o ++ [s[j]]) := catO_eq (by simp; omega)
    have hcat2 : catO (o ++ [s[j]]) [39] = some (o ++ [s[j], 39]) := by
      rw [catO_eq (by simp; omega)]
      simp
    have key : ∀ b', ((!b) = true → b' = (((b || decide (B s[j] = 32)) || decide (B s[j] = 9)) || decide (B s[j] = 39))) → (b = true → b' = true) →
        ((sslice s (j : Int) ((j : Int) + 1)).bind fun t16 => (catO o t16).bind fun s19 => (sidx s (j : Int)).bind fun c22 =>
          (bif decide (c22 = 39) then (catO s19 [39]).bind fun s26 => again (s26, b', (j : Int) + 1) else again (s19, b', (j : Int) + 1))) =
        fin39 s (o ++ dbl (s.drop j)) (b || !((s.drop j).map B).all okW) := by
      intro b' h1 h2
      have hb : ∀ x : Bool, (b' || !x) = (b || !(okW (B s[j]) && x)) := by
        intro x
        cases b with
        | true => rw [h2 rfl]; rfl
        | false =>
          rw [h1 rfl]
          unfold okW
          cases decide (B s[j] = 32) <;> cases decide (B s[j] = 9) <;> cases decide (B s[j] = 39) <;> cases x <;> rfl
      have hsi : sidx s (j : Int) = some (B s[j]) := sidx_at hlt
      simp only [hsl, hcat, hsi, Option.bind_some]
      rw [drop_at hlt]
      simp only [List.map_cons, List.all_cons, ← hb, dbl]
      cases h39 : decide (B s[j] = 39) with
      | true =>
        simp only [cond_t, hcat2, Option.bind_some]
        rw [hag' _ _ (by simp; omega)]
        simp
      | false =>
        simp only [cond_f]
        rw [hag' _ _ (by simp; omega)]
        simp
    cases b with
    | true =>
      simp only [Bool.not_true, guardO_false, Option.bind_some]
      exact key _ (fun h => by cases h) (fun _ => by simp)
    | false =>
      have hsi : sidx s (j : Int) = some (B s[j]) := sidx_at hlt
      simp only [Bool.not_false, guardO_true]
      rw [hsi]
      simp only [Option.bind_some]
      have := key _ (fun _ => rfl) (fun h => by cases h)
      rw [hsi] at this
      exact this
  · have hd := dbl_len s
    rw [decide_eq_false (by omega), cond_f, List.drop_eq_nil_of_le (by omega)]
    cases b with
    | true =>
      simp only [cond_t]
      rw [catO_eq (by simp; omega)]
      simp only [Option.bind_some]
      rw [catO_eq (by simp; omega)]
      simp [fin39, dbl]
    | false => rfl

theorem F39_eq {s : Str} (hs : s.length ≤ 2147483647) : F39 s = some (quote s) := by
  unfold F39
  cases s with
  | nil =>
    have : decide (([] : Str) = []) = true := rfl
    rw [this]
    simp only [Bool.not_true, guardO_false, Option.bind_some, Bool.true_or]
    rw [loop39 hs]
    rfl
  | cons c r =>
    have : decide (c :: r = []) = false := rfl
    rw [this]
    have h0 : sidx (c :: r) 0 = some (B c) := rfl
    simp only [Bool.not_false, guardO_true, h0, Option.bind_some, Bool.false_or]
    rw [loop39 hs]
    have hq : plain (c :: r) = ((!decide (B c = 45) && !decide (B c = 35)) && ((c :: r).map B).all okW) := rfl
    unfold quote fin39
    rw [hq]
    cases decide (B c = 45) <;> cases decide (B c = 35) <;> cases ((c :: r).map B).all okW <;> rfl

/-! ### Operations -/

def okOp (op : NsOp) : Bool :=
  bif decide (op.kind_ = 1) || decide (op.kind_ = 2) then flagged op.flag_ && place op.new_ && place op.old_
  else bif decide (op.kind_ = 3) then (decide (op.flag_ = 0) && (decide (op.new_ = []) || place op.new_)) && place op.old_
  else bif decide (op.kind_ = 4) then (decide (op.flag_ = 0) && decide (op.new_ = [])) && decide (op.old_ = [])
  else bif decide (op.kind_ = 5) then (decide (op.flag_ = 0) && place op.new_) && decide (op.old_ = [])
  else false

theorem bif_or (a b : Bool) : (bif a then a else b) = (a || b) := by cases a <;> rfl

theorem F22_eq {op : NsOp} (h : op.flag_ ≤ 9223372036854775807) : F22 op = some (okOp op) := by
  unfold F22 okOp
  rw [bif_or, F33_eq h]
  simp only [F34_eq, Option.bind_some]
  cases decide (op.kind_ = 1) || decide (op.kind_ = 2) with
  | true => cases flagged op.flag_ <;> cases place op.new_ <;> cases place op.old_ <;> rfl
  | false =>
    cases decide (op.kind_ = 3) with
    | true => cases decide (op.flag_ = 0) <;> cases decide (op.new_ = []) <;> cases place op.new_ <;> cases place op.old_ <;> rfl
    | false =>
      cases decide (op.kind_ = 4) with
      | true => rfl
      | false =>
        cases decide (op.kind_ = 5) with
        | true => cases decide (op.flag_ = 0) <;> cases place op.new_ <;> rfl
        | false => rfl

theorem F19_eq {op : NsOp} (hn : op.new_.length ≤ 4611686018427387904) (ho : op.old_.length ≤ 4611686018427387904) : F19 op = some (okOp op) := by
  unfold F19 okOp
  rw [bif_or, F30_eq, F15_eq (by omega), F15_eq (by omega)]
  simp only [Option.bind_some]
  cases decide (op.kind_ = 1) || decide (op.kind_ = 2) with
  | true => cases flagged op.flag_ <;> cases place op.new_ <;> cases place op.old_ <;> rfl
  | false =>
    cases decide (op.kind_ = 3) with
    | true => cases decide (op.flag_ = 0) <;> cases decide (op.new_ = []) <;> cases place op.new_ <;> cases place op.old_ <;> rfl
    | false =>
      cases decide (op.kind_ = 4) with
      | true => rfl
      | false =>
        cases decide (op.kind_ = 5) with
        | true => cases decide (op.flag_ = 0) <;> cases place op.new_ <;> rfl
        | false => rfl

/-- What a valid operation is. -/
theorem okOp_cases {op : NsOp} (h : okOp op = true) : ((op.kind_ = 1 ∨ op.kind_ = 2) ∧ flagged op.flag_ = true ∧ place op.new_ = true ∧ place op.old_ = true) ∨
    (op.kind_ = 3 ∧ op.flag_ = 0 ∧ (op.new_ = [] ∨ place op.new_ = true) ∧ place op.old_ = true) ∨ (op.kind_ = 4 ∧ op.flag_ = 0 ∧ op.new_ = [] ∧ op.old_ = []) ∨
    (op.kind_ = 5 ∧ op.flag_ = 0 ∧ place op.new_ = true ∧ op.old_ = []) := by
  unfold okOp at h
  cases h1 : decide (op.kind_ = 1) || decide (op.kind_ = 2) with
  | true =>
    rw [h1] at h
    simp only [cond_t, Bool.and_eq_true] at h
    simp only [Bool.or_eq_true, decide_eq_true_eq] at h1
    exact .inl ⟨h1, h.1.1, h.1.2, h.2⟩
  | false =>
    rw [h1] at h
    simp only [cond_f] at h
    cases h3 : decide (op.kind_ = 3) with
    | true =>
      rw [h3] at h
      simp only [cond_t, Bool.and_eq_true, Bool.or_eq_true, decide_eq_true_eq] at h h3
      exact .inr (.inl ⟨h3, h.1.1, h.1.2, h.2⟩)
    | false =>
      rw [h3] at h
      simp only [cond_f] at h
      cases h4 : decide (op.kind_ = 4) with
      | true =>
        rw [h4] at h
        simp only [cond_t, Bool.and_eq_true, decide_eq_true_eq] at h h4
        exact .inr (.inr (.inl ⟨h4, h.1.1, h.1.2, h.2⟩))
      | false =>
        rw [h4] at h
        simp only [cond_f] at h
        cases h5 : decide (op.kind_ = 5) with
        | true =>
          rw [h5] at h
          simp only [cond_t, Bool.and_eq_true, decide_eq_true_eq] at h h5
          exact .inr (.inr (.inr ⟨h5, h.1.1, h.1.2, h.2⟩))
        | false => rw [h5] at h; cases h

/-! ### Lines -/

def glue (c : UInt8) : List Str → Str
  | [] => []
  | [x] => x
  | x :: y :: r => x ++ c :: glue c (y :: r)

theorem join_glue (c : UInt8) : ∀ xs : List Str, Lib.join xs [c] = glue c xs
  | [] => rfl
  | [x] => Lib.join_one x [c]
  | x :: y :: r => by
    rw [glue, ← join_glue c (y :: r), Lib.join_cons, Lib.join_cons]
    simp [Lib.joinTail]

theorem L_Join_eq {xs : List Str} (h : (glue 32 xs).length ≤ 140737488355328) (h2 : xs.length ≤ 140737488355328) : L_Join xs [32] = some (glue 32 xs) := by
  unfold L_Join
  rw [join_glue, if_pos ⟨h, h2⟩]

def verb (k : Int) : Str := bif decide (k = 1) then [98, 105, 110, 100] else bif decide (k = 2) then [109, 111, 117, 110, 116] else bif decide (k = 3) then [117, 110, 109, 111, 117, 110, 116] else bif decide (k = 4) then [99, 108, 101, 97, 114] else [99, 100]

def flagW (f : Int) : List Str := bif decide (f = 0) then [] else bif decide (f = 1) then [[45, 98]] else bif decide (f = 2) then [[45, 97]] else bif decide (f = 4) then [[45, 99]] else bif decide (f = 5) then [[45, 98, 99]] else [[45, 97, 99]]

def words (op : NsOp) : List Str :=
  bif decide (op.kind_ = 4) then [verb 4] else bif decide (op.kind_ = 5) then [verb 5, quote op.new_] else bif decide (op.kind_ = 3) && decide (op.new_ = []) then [verb 3, quote op.old_]
  else verb op.kind_ :: (flagW op.flag_ ++ [quote op.new_, quote op.old_])

def line (op : NsOp) : Str := glue 32 (words op)

def t23 (l : List Str) (n o : Str) : Option Str := (F37 n).bind fun a => (F37 o).bind fun b => (appO 16 l [a, b]).bind fun l => (L_Join l [32]).bind fun s => some s
def t24 (s : Str) (n o : Str) : Option Str := (F39 n).bind fun r => (catO s r).bind fun s => (catO s [32]).bind fun s => (F39 o).bind fun r => (catO s r).bind fun s => some s

theorem h23 {k f : Int} (hk : k = 1 ∨ k = 2) (hf : flagged f = true) (n o : Str) : F23 ⟨k, f, n, o⟩ = t23 (verb k :: flagW f) n o := by
  rcases hk with rfl | rfl <;> rcases flagged_cases hf with rfl | rfl | rfl | rfl | rfl | rfl <;> kernel_rfl

theorem h24 {k f : Int} (hk : k = 1 ∨ k = 2) (hf : flagged f = true) (n o : Str) : F24 ⟨k, f, n, o⟩ = t24 (glue 32 (verb k :: flagW f) ++ [32]) n o := by
  rcases hk with rfl | rfl <;> rcases flagged_cases hf with rfl | rfl | rfl | rfl | rfl | rfl <;> kernel_rfl

theorem glue_two (c : UInt8) (x y : Str) : ∀ xs : List Str, xs ≠ [] → glue c (xs ++ [x, y]) = glue c xs ++ c :: (x ++ c :: y)
  | [], h => absurd rfl h
  | [a], _ => by simp [glue]
  | a :: b :: r, _ => by
    have := glue_two c x y (b :: r) (by simp)
    simp only [List.cons_append, glue] at this ⊢
    rw [this]
    simp

theorem t23_eq {l : List Str} {n o : Str} (hne : l ≠ []) (h1 : l.length ≤ 1000) (h2 : (glue 32 l).length ≤ 1000000) (hn : n.length ≤ 1000000) (ho : o.length ≤ 1000000) : t23 l n o = some (glue 32 (l ++ [quote n, quote o])) := by
  have q1 := quote_len n
  have q2 := quote_len o
  unfold t23
  rw [F37_eq (by omega), F37_eq (by omega)]
  simp only [Option.bind_some]
  rw [appO_eq (by simp; omega)]
  simp only [Option.bind_some]
  rw [L_Join_eq (by rw [glue_two 32 _ _ l hne]; simp; omega) (by simp; omega)]
  rfl

theorem t24_eq {l : List Str} {n o : Str} (hne : l ≠ []) (h2 : (glue 32 l).length ≤ 1000000) (hn : n.length ≤ 1000000) (ho : o.length ≤ 1000000) : t24 (glue 32 l ++ [32]) n o = some (glue 32 (l ++ [quote n, quote o])) := by
  have q1 := quote_len n
  have q2 := quote_len o
  unfold t24
  rw [F39_eq (by omega), F39_eq (by omega)]
  simp only [Option.bind_some]
  rw [catO_eq (by simp; omega)]
  simp only [Option.bind_some]
  rw [catO_eq (by simp; omega)]
  simp only [Option.bind_some]
  rw [catO_eq (by simp; omega), glue_two 32 _ _ l hne]
  simp

end Go.Abs.U45
