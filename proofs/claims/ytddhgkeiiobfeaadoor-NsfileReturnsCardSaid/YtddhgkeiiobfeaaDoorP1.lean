/- The layer 45 laws, in plain Lean: flags, places, quoted words. -/
import Derived.Test.YtddhgkeiiobfeaaDoorA34
import Derived.Test.YtddhgkeiiobfeaaDoorD1
namespace Go.Abs.U45
open Go

/-! ### Flags -/

def flagged (n : Int) : Bool := ((((decide (n = 0) || decide (n = 1)) || decide (n = 2)) || decide (n = 4)) || decide (n = 5)) || decide (n = 6)

theorem andNot_big {m : Nat} (h8 : 8 ≤ m) (hm : m < 9223372036854775808) : 8 ≤ bits .andNot .i64 (m : Int) 4 := by
  have hx : ((BitVec.ofInt 64 (m : Int)) &&& ~~~(BitVec.ofInt 64 4)).toNat = m &&& 18446744073709551611 := by
    rw [BitVec.toNat_and, BitVec.ofInt_natCast, BitVec.toNat_ofNat, Nat.mod_eq_of_lt (by omega)]
    rfl
  have h3 : (m &&& 18446744073709551611) >>> 3 = m >>> 3 := by
    rw [Nat.shiftRight_and_distrib]
    have : (18446744073709551611 >>> 3 : Nat) = 2 ^ 61 - 1 := by decide
    rw [this, Nat.and_two_pow_sub_one_eq_mod]
    exact Nat.mod_eq_of_lt (by rw [Nat.shiftRight_eq_div_pow]; omega)
  have hle : m &&& 18446744073709551611 ≤ m := Nat.and_le_left
  have hge : 8 ≤ m &&& 18446744073709551611 := by
    rw [Nat.shiftRight_eq_div_pow, Nat.shiftRight_eq_div_pow] at h3
    omega
  have : bits .andNot .i64 (m : Int) 4 = IntKind.wrap .i64 ((m &&& 18446744073709551611 : Nat) : Int) := by
    rw [← hx]
    rfl
  rw [this, IntKind.wrap_i64]
  omega

theorem small8 : ∀ k : Fin 8, decide (bits .andNot .i64 (k.val : Int) 4 ≤ 2) = flagged (k.val : Int) := by decide +kernel

theorem flagged_big {n : Int} (h : n < 0 ∨ 8 ≤ n) : flagged n = false := by
  unfold flagged
  simp only [Bool.or_eq_false_iff, decide_eq_false_iff_not]
  omega

theorem F33_eq {n : Int} (h : n ≤ 9223372036854775807) : F33 n = some (flagged n) := by
  unfold F33
  by_cases h0 : 0 ≤ n
  · obtain ⟨m, rfl⟩ := Int.eq_ofNat_of_zero_le h0
    by_cases h8 : m < 8
    · have := small8 ⟨m, h8⟩
      simp only at this
      rw [this, decide_eq_true h0, Bool.true_and]
    · have := andNot_big (m := m) (by omega) (by omega)
      rw [flagged_big (by omega), decide_eq_false (p := bits .andNot .i64 (m : Int) 4 ≤ 2) (by omega), Bool.and_false]
  · rw [flagged_big (by omega), decide_eq_false h0, Bool.false_and]

theorem F30_eq (n : Int) : F30 n = some (flagged n) := rfl

theorem flagged_cases {n : Int} (h : flagged n = true) : n = 0 ∨ n = 1 ∨ n = 2 ∨ n = 4 ∨ n = 5 ∨ n = 6 := by
  unfold flagged at h
  simp only [Bool.or_eq_true, decide_eq_true_eq] at h
  omega

/-! ### Places -/

def okP (c : Int) : Bool := !(decide (c = 0) || decide (c = 10))
def place (s : Str) : Bool := (!decide (s = []) && decide ((s.length : Int) ≤ 1024)) && (s.map B).all okP

theorem loop_all (p : Int → Bool) (fin : Bool) : ∀ (l : List Int) (i : Int), loopR (fun c _ n => bif p c then some false else n) (some fin) l i = some (fin && l.all fun c => !p c)
  | [], _ => by simp [loopR]
  | c :: l, i => by
    simp only [loopR, loop_all p fin l (i + 1), List.all_cons]
    cases p c <;> cases fin <;> rfl

theorem F15_eq {s : Str} (hs : s.length ≤ 9223372036854775807) : F15 s = some (place s) := by
  unfold F15
  rw [iter_rangeB (body := F15_b1 s) s (fun c _ n => bif (decide (c = 0) || decide (c = 10)) then some false else n) (some (!decide (s = []) && decide ((s.length : Int) ≤ 1024))) (fun _ _ => rfl) hs, loop_all]
  rfl

theorem indexByte_neg (c : UInt8) : ∀ s : Str, decide (Lib.indexByte s c < 0) = (s.map B).all fun x => !decide (x = B c)
  | [] => rfl
  | x :: s => by
    have ih := indexByte_neg c s
    have hge := Lib.indexByte_ge s c
    rw [List.map_cons, List.all_cons, ← ih]
    have hb : decide (B x = B c) = decide (x = c) := byte_eq x c
    rw [hb]
    by_cases hx : x = c
    · have hv : Lib.indexByte (x :: s) c = 0 := by simp [Lib.indexByte, hx]
      rw [decide_eq_false (p := Lib.indexByte (x :: s) c < 0) (by omega), decide_eq_true hx]
      rfl
    · rw [decide_eq_false hx, Bool.not_false, Bool.true_and]
      by_cases h1 : Lib.indexByte s c = -1
      · have hv : Lib.indexByte (x :: s) c = -1 := by simp [Lib.indexByte, hx, h1]
        rw [decide_eq_true (by omega), decide_eq_true (by omega)]
      · have hv : Lib.indexByte (x :: s) c = Lib.indexByte s c + 1 := by simp [Lib.indexByte, hx, h1]
        rw [decide_eq_false (by omega), decide_eq_false (by omega)]

theorem all_okP (s : Str) : (s.map B).all okP = (decide (Lib.indexByte s 0 < 0) && decide (Lib.indexByte s 10 < 0)) := by
  rw [indexByte_neg, indexByte_neg]
  induction s with
  | nil => rfl
  | cons x s ih =>
    simp only [List.map_cons, List.all_cons, ih]
    have h0 : B 0 = 0 := rfl
    have h10 : B 10 = 10 := rfl
    rw [h0, h10]
    unfold okP
    cases decide (B x = 0) <;> cases decide (B x = 10) <;> simp

theorem F34_eq (s : Str) : F34 s = some (place s) := by
  have e0 : L_IndexByte s 0 = some (Lib.indexByte s 0) := rfl
  have e10 : L_IndexByte s 10 = some (Lib.indexByte s 10) := rfl
  unfold F34 place
  rw [all_okP, e0, e10]
  cases h : (!decide (s = []) && decide ((s.length : Int) ≤ 1024)) with
  | false => rfl
  | true =>
    simp only [guardO_true, Option.bind_some, Bool.true_and]
    cases h2 : decide (Lib.indexByte s 0 < 0) with
    | false => rfl
    | true => rfl

theorem place_len {s : Str} (h : place s = true) : s ≠ [] ∧ s.length ≤ 1024 := by
  unfold place at h
  simp only [Bool.and_eq_true, Bool.not_eq_true', decide_eq_false_iff_not, decide_eq_true_eq] at h
  exact ⟨h.1.1, by omega⟩

theorem place_free {s : Str} (h : place s = true) {c : UInt8} (hc : c ∈ s) : c ≠ 0 ∧ c ≠ 10 := by
  unfold place at h
  simp only [Bool.and_eq_true] at h
  have h1 := List.all_eq_true.1 h.2 (B c) (List.mem_map.2 ⟨c, hc, rfl⟩)
  refine ⟨?_, ?_⟩ <;> (rintro rfl; exact absurd h1 (by decide))

/-! ### Quoted words -/

/-- A byte that a plain word may hold. -/
def okW (c : Int) : Bool := (!decide (c = 32) && !decide (c = 9)) && !decide (c = 39)

/-- Quotes doubled. -/
def dbl : Str → Str
  | [] => []
  | c :: r => bif decide (B c = 39) then c :: 39 :: dbl r else c :: dbl r

def plain : Str → Bool
  | [] => false
  | c :: r => (!decide (B c = 45) && !decide (B c = 35)) && ((c :: r).map B).all okW

def quote (s : Str) : Str := bif plain s then s else 39 :: (dbl s ++ [39])

theorem dbl_len : ∀ s : Str, (dbl s).length ≤ 2 * s.length
  | [] => Nat.le_refl _
  | c :: r => by
    have := dbl_len r
    simp only [dbl]
    cases decide (B c = 39) <;> simp <;> omega

theorem quote_len (s : Str) : (quote s).length ≤ 2 * s.length + 2 := by
  have := dbl_len s
  unfold quote
  cases plain s <;> simp <;> omega

theorem replaceK_one (c : UInt8) (new : Str) : ∀ s : Str, Lib.replaceK [c] new (Lib.count s [c]) s = s.flatMap fun x => if x = c then new else [x]
  | [] => by
    have : Lib.count [] [c] = 0 := by rw [Lib.count_one]; rfl
    rw [this]
    rfl
  | x :: s => by
    have ih := replaceK_one c new s
    rw [List.flatMap_cons, ← ih]
    by_cases hx : x = c
    · subst hx
      rw [Lib.count_cons_eq, Nat.add_comm, Lib.replaceK_hit [x] new _ (x :: s) 0 (by rw [Lib.index_one]; simp [Lib.indexByte])]
      simp
    · rw [Lib.count_cons_ne x c s hx, if_neg hx]
      cases hk : Lib.count s [c] with
      | zero => rfl
      | succ k =>
        obtain ⟨i, hi⟩ := Lib.index_of_count (s := s) (old := [c]) (by omega)
        have h1 : Lib.index (x :: s) [c] = ((i + 1 : Nat) : Int) := by
          rw [Lib.index_one] at hi ⊢
          simp only [Lib.indexByte]
          rw [if_neg (by simpa using hx), if_neg (by rw [hi]; simp), hi]
          simp
        rw [Lib.replaceK_hit [c] new k (x :: s) (i + 1) h1, Lib.replaceK_hit [c] new k s i hi]
        simp

theorem dbl_flatMap : ∀ s : Str, (s.flatMap fun x => if x = 39 then [39, 39] else [x]) = dbl s
  | [] => rfl
  | c :: r => by
    rw [List.flatMap_cons, dbl_flatMap r]
    simp only [dbl]
    have hb : decide (B c = 39) = decide (c = 39) := byte_eq c 39
    rw [hb]
    by_cases hc : c = 39
    · subst hc
      rfl
    · rw [if_neg hc, decide_eq_false hc]
      rfl

theorem L_ReplaceAll_eq {s : Str} (hs : s.length ≤ 2147483647) : L_ReplaceAll s [39] [39, 39] = some (dbl s) := by
  have hc : Lib.countB ⟨⟨s⟩⟩ ⟨⟨[39]⟩⟩ ≤ s.length := Lib.countB_le ⟨⟨[39]⟩⟩ (by decide) s.length ⟨⟨s⟩⟩ (Nat.le_refl _)
  unfold L_ReplaceAll
  rw [if_pos ⟨by omega, by decide, by simp only [List.length_cons, List.length_nil]; omega⟩]
  have : Lib.replaceAll s [39] [39, 39] = Lib.replaceK [39] [39, 39] (Lib.count s [39]) s := rfl
  rw [this, replaceK_one, dbl_flatMap]

def fin37 (s : Str) (p : Bool) : Option Str := bif p then some s else some (39 :: (dbl s ++ [39]))

theorem loop37 {s : Str} (hs : s.length ≤ 2147483647) (b : Bool) : iter (F37_b1 s) BIG (b, 0) = fin37 s (b && (s.map B).all okW) := by
  refine iter_big (α := Bool × Int) (fun a => ∃ j : Nat, a.2 = j ∧ j ≤ s.length) (fun a => s.length - a.2.toNat) (fun a => fin37 s (a.1 && ((s.drop a.2.toNat).map B).all okW)) ?_ (b, 0) ⟨0, rfl, Nat.zero_le _⟩ (by simp; omega)
  rintro again ⟨b, i⟩ ⟨j, hj, hjl⟩ hag
  simp only at hj
  subst hj
  rw [F37_b1]
  simp only [Int.toNat_natCast]
  by_cases hlt : j < s.length
  · rw [decide_eq_true (by omega), cond_t, wrap64 (by omega) (by omega)]
    have hag' : ∀ b, again (b, (j : Int) + 1) = fin37 s (b && ((s.drop (j + 1)).map B).all okW) := fun b => hag (b, ((j + 1 : Nat) : Int)) ⟨j + 1, rfl, hlt⟩ (by simp only [Int.toNat_natCast]; omega)
    rw [drop_at hlt]
    cases b with
    | false =>
      simp only [guardO_false, Option.bind_some, Bool.false_and]
      exact (hag' false).trans (by rw [Bool.false_and])
    | true =>
      rw [guardO_true, sidx_at hlt]
      simp only [Option.bind_some, Bool.true_and]
      refine (hag' _).trans ?_
      rfl
  · rw [decide_eq_false (by omega), cond_f, List.drop_eq_nil_of_le (by omega), L_ReplaceAll_eq hs]
    cases b with
    | true => rfl
    | false =>
      have := dbl_len s
      simp only [Option.bind_some]
      rw [catO_eq (by simp; omega)]
      simp only [Option.bind_some]
      rw [catO_eq (by simp; omega)]
      rfl

theorem F37_eq {s : Str} (hs : s.length ≤ 2147483647) : F37 s = some (quote s) := by
  unfold F37
  cases s with
  | nil =>
    have : decide (([] : Str) = []) = true := rfl
    rw [this]
    simp only [Bool.not_true, guardO_false, Option.bind_some, Bool.false_and]
    rw [loop37 hs]
    rfl
  | cons c r =>
    have : decide (c :: r = []) = false := rfl
    rw [this]
    have h0 : sidx (c :: r) 0 = some (B c) := rfl
    simp only [Bool.not_false, guardO_true, h0, Option.bind_some, Bool.true_and]
    rw [loop37 hs]
    have hq : plain (c :: r) = ((!decide (B c = 45) && !decide (B c = 35)) && ((c :: r).map B).all okW) := rfl
    unfold quote fin37
    rw [hq]
    cases (!decide (B c = 45) && !decide (B c = 35)) && ((c :: r).map B).all okW <;> rfl

end Go.Abs.U45
