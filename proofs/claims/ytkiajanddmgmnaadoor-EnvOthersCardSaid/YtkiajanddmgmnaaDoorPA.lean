/- Layer 29: the plain laws: lists of strings. -/
import Derived.Test.YtkiajanddmgmnaaDoorA34
import Derived.Test.YtkiajanddmgmnaaDoorD1
set_option linter.unusedVariables false
set_option linter.unusedSimpArgs false
namespace Go.Abs.U29
open Go

theorem iter_list {α S R : Type} {body : (Int × S → Option R) → Int × S → Option R} (l : List α) (G : α → Int → (S → Option R) → S → Option R) (fin : S → Option R)
    (hb : ∀ again (i : Nat) (h : i < l.length) s, body again ((i : Int), s) = G l[i] i (fun s' => again ((i : Int) + 1, s')) s)
    (hf : ∀ again s, body again ((l.length : Int), s) = fin s) (hl : l.length ≤ 9223372036854775807) (s : S) :
    iter body BIG (0, s) = loopS G fin l 0 s := by
  have h : ∀ (n j : Nat) (s : S), j ≤ l.length → l.length - j < n → iter body n ((j : Int), s) = loopS G fin (l.drop j) j s := by
    intro n
    induction n with
    | zero => intro j _ _ h; omega
    | succ n ih =>
      intro j s hj hn
      show body (iter body n) (j, s) = _
      by_cases hlt : j < l.length
      · rw [hb _ _ hlt, drop_at hlt]
        simp only [loopS]
        congr 1
        funext s'
        exact ih (j + 1) s' (by omega) (by omega)
      · obtain rfl : j = l.length := by omega
        rw [hf, List.drop_eq_nil_of_le (by omega)]
        rfl
  exact h BIG 0 s (Nat.zero_le _) (by unfold BIG; omega)

/-! ### short -/

def tot : List Str → Nat
  | [] => 0
  | x :: r => min x.length 1048576 + tot r

theorem tot_le : ∀ l : List Str, tot l ≤ l.length * 1048576
  | [] => Nat.zero_le _
  | x :: r => by
    have := tot_le r
    rw [tot, List.length_cons]
    omega

def G7 : Str → Int → (Int → Option Bool) → Int → Option Bool := fun w _ k n => k (IntKind.wrap .i64 (n + imin (w.length : Int) 1048576))

theorem loop7 (fin : Int → Option Bool) : ∀ (l : List Str) (i : Int) (n : Nat), n + tot l ≤ 4611686018427387904 → loopS G7 fin l i n = fin ((n + tot l : Nat) : Int)
  | [], i, n, h => by rw [loopS, tot]; rfl
  | x :: r, i, n, h => by
    rw [tot] at h
    have e : imin (x.length : Int) 1048576 = ((min x.length 1048576 : Nat) : Int) := by unfold imin; split <;> omega
    rw [loopS, G7, e, wrap64 (by omega) (by omega)]
    have := loop7 fin r (i + 1) (n + min x.length 1048576) (by omega)
    rw [tot, show n + (min x.length 1048576 + tot r) = n + min x.length 1048576 + tot r by omega, ← this]
    congr 1

theorem loop7' (fin : Int → Option Bool) : ∀ (l : List Str) (i n : Int), ∃ m, loopS G7 fin l i n = fin m
  | [], i, n => ⟨n, rfl⟩
  | x :: r, i, n => loop7' fin r (i + 1) _

theorem F7_is (l : List Str) (w : l.length ≤ maxLen) (most : Int) : F7 l most = some (decide ((tot l : Int) ≤ most) && decide (l.length ≤ 400)) := by
  unfold maxLen at w
  unfold F7
  rw [iter_rangeT (body := F7_b1 l most) l G7 (fun n => some (decide (n ≤ most) && decide ((l.length : Int) ≤ 400))) (fun _ _ _ => rfl) (by omega)]
  by_cases h : l.length ≤ 400
  · have := loop7 (fun n => some (decide (n ≤ most) && decide ((l.length : Int) ≤ 400))) l 0 0 (by have := tot_le l; omega)
    rw [show ((0 : Nat) : Int) = 0 from rfl] at this
    rw [this, Nat.zero_add, decide_eq_true (p := l.length ≤ 400) h, decide_eq_true (p := ((l.length : Int) ≤ 400)) (by omega)]
  · obtain ⟨m, hm⟩ := loop7' (fun n => some (decide (n ≤ most) && decide ((l.length : Int) ≤ 400))) l 0 0
    rw [hm, decide_eq_false (p := l.length ≤ 400) h, decide_eq_false (p := ((l.length : Int) ≤ 400)) (by omega), Bool.and_false, Bool.and_false]

/-- A short list. -/
def Sh (l : List Str) (most : Nat) : Prop := l.length ≤ 400 ∧ tot l ≤ most

theorem F7_sh {l : List Str} {most : Nat} (h : Sh l most) : F7 l most = some true := by
  rw [F7_is l (by have := h.1; unfold maxLen; omega), decide_eq_true (by have := h.2; omega), decide_eq_true h.1]; rfl

theorem F7_not {l : List Str} {most : Nat} (w : l.length ≤ maxLen) (h : ¬ Sh l most) : F7 l most = some false := by
  rw [F7_is l w]
  by_cases h1 : l.length ≤ 400
  · rw [decide_eq_false (p := (tot l : Int) ≤ most) (fun h2 => h ⟨h1, by omega⟩)]; rfl
  · rw [decide_eq_false (p := l.length ≤ 400) h1, Bool.and_false]

theorem tot_mem : ∀ {l : List Str} {x : Str}, x ∈ l → min x.length 1048576 ≤ tot l
  | y :: r, x, h => by
    rw [tot]
    rcases List.mem_cons.1 h with rfl | h
    · omega
    · have := tot_mem h; omega

theorem Sh.mem {l : List Str} {most : Nat} (h : Sh l most) (hm : most < 1048576) {x : Str} (hx : x ∈ l) : x.length ≤ most := by
  have := tot_mem hx
  have := h.2
  omega

/-! ### equality of lists -/

theorem F13_is (a b : List Str) (w : a.length ≤ maxLen) : F13 a b = some (decide (a = b)) := by
  unfold maxLen at w
  unfold F13
  by_cases hl : a.length = b.length
  · rw [decide_eq_true (by omega)]
    show iter (F13_b1 a b) BIG 0 = _
    have h : ∀ (n j : Nat), j ≤ a.length → a.length - j < n → iter (F13_b1 a b) n (j : Int) = some (decide (a.drop j = b.drop j)) := by
      intro n
      induction n with
      | zero => intro j _ h; omega
      | succ n ih =>
        intro j hj hn
        show F13_b1 a b (iter (F13_b1 a b) n) j = _
        rw [F13_b1]
        by_cases hlt : j < a.length
        · rw [decide_eq_true (by omega), cond_t, lidx_at hlt, Option.bind_some, lidx_at (xs := b) (by omega), Option.bind_some, drop_at hlt, drop_at (l := b) (by omega)]
          by_cases he : a[j] = b[j]
          · rw [decide_eq_true he, Bool.not_true, cond_f, wrap64 (by omega) (by omega), show ((j : Int) + 1) = ((j + 1 : Nat) : Int) by omega, ih (j + 1) (by omega) (by omega), he]
            congr 1
            rw [Bool.eq_iff_iff, decide_eq_true_eq, decide_eq_true_eq]
            exact ⟨fun h => by rw [h], fun h => (List.cons.inj h).2⟩
          · rw [decide_eq_false he, Bool.not_false, cond_t, decide_eq_false]
            intro h
            exact he (List.cons.inj h).1
        · rw [decide_eq_false (by omega), cond_f, List.drop_eq_nil_of_le (by omega), List.drop_eq_nil_of_le (by omega), decide_eq_true rfl]
    have := h BIG 0 (Nat.zero_le _) (by unfold BIG; omega)
    rw [show ((0 : Nat) : Int) = 0 from rfl] at this
    rw [this, List.drop_zero, List.drop_zero]
  · rw [decide_eq_false (p := ((a.length : Int) = (b.length : Int))) (by omega), Bool.not_false, cond_t, decide_eq_false]
    intro h
    exact hl (by rw [h])


theorem alive : F8 = some true := by kernel_rfl

end Go.Abs.U29
