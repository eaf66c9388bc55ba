import Derived.Test.YtkiajanddmgmnaaGreatDoorA31
/- Plain loops: the printed loops over a range, as recursions over a list. -/
namespace Go.Abs

def loopR {α R : Type} (G : α → Int → Option R → Option R) (fin : Option R) : List α → Int → Option R
  | [], _ => fin
  | x :: xs, i => G x i (loopR G fin xs (i + 1))

def loopS {α S R : Type} (G : α → Int → (S → Option R) → S → Option R) (fin : S → Option R) : List α → Int → S → Option R
  | [], _, s => fin s
  | x :: xs, i, s => G x i (loopS G fin xs (i + 1)) s

theorem wrap64 {n : Int} (h1 : -9223372036854775808 ≤ n) (h2 : n ≤ 9223372036854775807) : IntKind.wrap .i64 n = n := wrap_i64_id h1 h2

theorem lidx_nat {α : Type} (xs : List α) (i : Nat) : lidx xs (i : Int) = xs[i]? := by
  unfold lidx
  rw [if_pos (Int.natCast_nonneg i), Int.toNat_natCast]

theorem lidx_at {α : Type} {xs : List α} {i : Nat} (h : i < xs.length) : lidx xs (i : Int) = some xs[i] := by
  rw [lidx_nat, List.getElem?_eq_getElem h]

theorem lidx_0 {α : Type} (x : α) (xs : List α) : lidx (x :: xs) 0 = some x := rfl

theorem sidx_nat (s : List UInt8) (i : Nat) : sidx s (i : Int) = s[i]?.map fun c => (c.toNat : Int) := by
  unfold sidx
  rw [if_pos (Int.natCast_nonneg i), Int.toNat_natCast]

theorem sidx_at {s : List UInt8} {i : Nat} (h : i < s.length) : sidx s (i : Int) = some (s[i].toNat : Int) := by
  rw [sidx_nat, List.getElem?_eq_getElem h]
  rfl

theorem drop_at {α : Type} {l : List α} {j : Nat} (h : j < l.length) : l.drop j = l[j] :: l.drop (j + 1) := List.drop_eq_getElem_cons h

/-- for i := range: the index alone is carried. -/
theorem iter_range {α R : Type} {body : (Int → Option R) → Int → Option R} (l : List α) (G : α → Int → Option R → Option R) (fin : Option R)
    (hb : ∀ again i, body again i = bif decide (i < (l.length : Int)) then (lidx l i).bind (fun x => G x i (again (IntKind.wrap .i64 (i + 1)))) else fin) (hl : l.length ≤ 9223372036854775807) :
    iter body BIG 0 = loopR G fin l 0 := by
  have h : ∀ (n j : Nat), j ≤ l.length → l.length - j < n → iter body n (j : Int) = loopR G fin (l.drop j) j := by
    intro n
    induction n with
    | zero => intro j _ h; omega
    | succ n ih =>
      intro j hj hn
      show body (iter body n) j = _
      rw [hb]
      by_cases hlt : j < l.length
      · rw [decide_eq_true (by omega), lidx_at hlt, drop_at hlt]
        simp only [cond_true, Option.bind_some, loopR]
        rw [wrap64 (by omega) (by omega)]
        congr 1
        exact ih (j + 1) (by omega) (by omega)
      · rw [decide_eq_false (by omega), List.drop_eq_nil_of_le (by omega)]
        rfl
  exact h BIG 0 (Nat.zero_le _) (by unfold BIG; omega)

/-- The index and something else are carried. -/
theorem iter_rangeS {α S R : Type} {body : (Int × S → Option R) → Int × S → Option R} (l : List α) (G : α → Int → (S → Option R) → S → Option R) (fin : S → Option R)
    (hb : ∀ again i s, body again (i, s) = bif decide (i < (l.length : Int)) then (lidx l i).bind (fun x => G x i (fun s' => again (IntKind.wrap .i64 (i + 1), s')) s) else fin s) (hl : l.length ≤ 9223372036854775807) (s : S) :
    iter body BIG (0, s) = loopS G fin l 0 s := by
  have h : ∀ (n j : Nat) (s : S), j ≤ l.length → l.length - j < n → iter body n ((j : Int), s) = loopS G fin (l.drop j) j s := by
    intro n
    induction n with
    | zero => intro j _ _ h; omega
    | succ n ih =>
      intro j s hj hn
      show body (iter body n) (j, s) = _
      rw [hb]
      by_cases hlt : j < l.length
      · rw [decide_eq_true (by omega), lidx_at hlt, drop_at hlt]
        simp only [cond_true, Option.bind_some, loopS]
        rw [wrap64 (by omega) (by omega)]
        congr 1
        funext s'
        exact ih (j + 1) s' (by omega) (by omega)
      · rw [decide_eq_false (by omega), List.drop_eq_nil_of_le (by omega)]
        rfl
  exact h BIG 0 s (Nat.zero_le _) (by unfold BIG; omega)

theorem iter_rangeT {α S R : Type} {body : (S × Int → Option R) → S × Int → Option R} (l : List α) (G : α → Int → (S → Option R) → S → Option R) (fin : S → Option R)
    (hb : ∀ again i s, body again (s, i) = bif decide (i < (l.length : Int)) then (lidx l i).bind (fun x => G x i (fun s' => again (s', IntKind.wrap .i64 (i + 1))) s) else fin s) (hl : l.length ≤ 9223372036854775807) (s : S) :
    iter body BIG (s, 0) = loopS G fin l 0 s := by
  have h : ∀ (n j : Nat) (s : S), j ≤ l.length → l.length - j < n → iter body n (s, (j : Int)) = loopS G fin (l.drop j) j s := by
    intro n
    induction n with
    | zero => intro j _ _ h; omega
    | succ n ih =>
      intro j s hj hn
      show body (iter body n) (s, j) = _
      rw [hb]
      by_cases hlt : j < l.length
      · rw [decide_eq_true (by omega), lidx_at hlt, drop_at hlt]
        simp only [cond_true, Option.bind_some, loopS]
        rw [wrap64 (by omega) (by omega)]
        congr 1
        funext s'
        exact ih (j + 1) s' (by omega) (by omega)
      · rw [decide_eq_false (by omega), List.drop_eq_nil_of_le (by omega)]
        rfl
  exact h BIG 0 s (Nat.zero_le _) (by unfold BIG; omega)

/-- A byte as a number. -/
def B (c : UInt8) : Int := (c.toNat : Int)

/-- for i := range of a string, its bytes read. -/
theorem iter_rangeB {R : Type} {body : (Int → Option R) → Int → Option R} (s : List UInt8) (G : Int → Int → Option R → Option R) (fin : Option R)
    (hb : ∀ again i, body again i = bif decide (i < (s.length : Int)) then (sidx s i).bind (fun x => G x i (again (IntKind.wrap .i64 (i + 1)))) else fin) (hl : s.length ≤ 9223372036854775807) :
    iter body BIG 0 = loopR G fin (s.map B) 0 := by
  have h : ∀ (n j : Nat), j ≤ s.length → s.length - j < n → iter body n (j : Int) = loopR G fin ((s.drop j).map B) j := by
    intro n
    induction n with
    | zero => intro j _ h; omega
    | succ n ih =>
      intro j hj hn
      show body (iter body n) j = _
      rw [hb]
      by_cases hlt : j < s.length
      · rw [decide_eq_true (by omega), sidx_at hlt, drop_at hlt]
        simp only [cond_true, Option.bind_some, loopR, List.map_cons]
        rw [wrap64 (by omega) (by omega)]
        unfold B
        congr 1
        exact ih (j + 1) (by omega) (by omega)
      · rw [decide_eq_false (by omega), List.drop_eq_nil_of_le (by omega)]
        rfl
  exact h BIG 0 (Nat.zero_le _) (by unfold BIG; omega)

theorem byte_eq (a b : UInt8) : decide ((a.toNat : Int) = (b.toNat : Int)) = decide (a = b) := by
  rw [Bool.eq_iff_iff, decide_eq_true_eq, decide_eq_true_eq, Int.ofNat_inj]
  exact ⟨fun h => UInt8.toNat_inj.1 h, fun h => by rw [h]⟩

theorem cond_f {α : Type} (a b : α) : (bif false then a else b) = b := rfl
theorem cond_t {α : Type} (a b : α) : (bif true then a else b) = a := rfl

end Go.Abs
