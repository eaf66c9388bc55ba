/- Layer 50: the plain law of ExpandMarks. -/
import Derived.Test.YthoacjgjmlgaoaaDoorA31
import Derived.Test.YthoacjgjmlgaoaaDoorD1
import Derived.Test.YthoacjgjmlgaoaaDoorTY
import Derived.Test.YthoacjgjmlgaoaaDoorA43
set_option linter.unusedVariables false
set_option linter.unusedSimpArgs false
namespace Go.Abs.U50
open Go

def loopR {α R : Type} (G : α → Int → Option R → Option R) (fin : Option R) : List α → Int → Option R
  | [], _ => fin
  | x :: xs, i => G x i (loopR G fin xs (i + 1))

def loopS {α S R : Type} (G : α → Int → (S → Option R) → S → Option R) (fin : S → Option R) : List α → Int → S → Option R
  | [], _, s => fin s
  | x :: xs, i, s => G x i (loopS G fin xs (i + 1)) s

theorem wrap64 {n : Int} (h1 : -9223372036854775808 ≤ n) (h2 : n ≤ 9223372036854775807) : IntKind.wrap .i64 n = n := wrap_i64_id h1 h2

theorem lidx_nat {α : Type} (xs : List α) (i : Nat) : lidx xs (i : Int) = xs[i]? := by
  unfold lidx
  rw [if_pos (Int.natCast_nonneg i), Int.toNat_natCast]

theorem lidx_at {α : Type} {xs : List α} {i : Nat} (h : i < xs.length) : lidx xs (i : Int) = some xs[i] := by
  rw [lidx_nat, List.getElem?_eq_getElem h]

theorem lidx_0 {α : Type} (x : α) (xs : List α) : lidx (x :: xs) 0 = some x := rfl

theorem sidx_nat (s : List UInt8) (i : Nat) : sidx s (i : Int) = s[i]?.map fun c => (c.toNat : Int) := by
  unfold sidx
  rw [if_pos (Int.natCast_nonneg i), Int.toNat_natCast]

theorem sidx_at {s : List UInt8} {i : Nat} (h : i < s.length) : sidx s (i : Int) = some (s[i].toNat : Int) := by
  rw [sidx_nat, List.getElem?_eq_getElem h]
  rfl

theorem drop_at {α : Type} {l : List α} {j : Nat} (h : j < l.length) : l.drop j = l[j] :: l.drop (j + 1) := List.drop_eq_getElem_cons h

/-- for i := range: the index alone is carried. -/
theorem iter_range {α R : Type} {body : (Int → Option R) → Int → Option R} (l : List α) (G : α → Int → Option R → Option R) (fin : Option R)
    (hb : ∀ again i, body again i = bif decide (i < (l.length : Int)) then (lidx l i).bind (fun x => G x i (again (IntKind.wrap .i64 (i + 1)))) else fin) (hl : l.length ≤ 9223372036854775807) :
    iter body BIG 0 = loopR G fin l 0 := by
  have h : ∀ (n j : Nat), j ≤ l.length → l.length - j < n → iter body n (j : Int) = loopR G fin (l.drop j) j := by
    intro n
    induction n with
    | zero => intro j _ h; omega
    | succ n ih =>
      intro j hj hn
      show body (iter body n) j = _
      rw [hb]
      by_cases hlt : j < l.length
      · rw [decide_eq_true (by omega), lidx_at hlt, drop_at hlt]
        simp only [cond_true, Option.bind_some, loopR]
        rw [wrap64 (by omega) (by omega)]
        congr 1
        exact ih (j + 1) (by omega) (by omega)
      · rw [decide_eq_false (by omega), List.drop_eq_nil_of_le (by omega)]
        rfl
  exact h BIG 0 (Nat.zero_le _) (by unfold BIG; omega)

/-- The index and something else are carried. -/
theorem iter_rangeS {α S R : Type} {body : (Int × S → Option R) → Int × S → Option R} (l : List α) (G : α → Int → (S → Option R) → S → Option R) (fin : S → Option R)
    (hb : ∀ again i s, body again (i, s) = bif decide (i < (l.length : Int)) then (lidx l i).bind (fun x => G x i (fun s' => again (IntKind.wrap .i64 (i + 1), s')) s) else fin s) (hl : l.length ≤ 9223372036854775807) (s : S) :
    iter body BIG (0, s) = loopS G fin l 0 s := by
  have h : ∀ (n j : Nat) (s : S), j ≤ l.length → l.length - j < n → iter body n ((j : Int), s) = loopS G fin (l.drop j) j s := by
    intro n
    induction n with
    | zero => intro j _ _ h; omega
    | succ n ih =>
      intro j s hj hn
      show body (iter body n) (j, s) = _
      rw [hb]
      by_cases hlt : j < l.length
      · rw [decide_eq_true (by omega), lidx_at hlt, drop_at hlt]
        simp only [cond_true, Option.bind_some, loopS]
        rw [wrap64 (by omega) (by omega)]
        congr 1
        funext s'
        exact ih (j + 1) s' (by omega) (by omega)
      · rw [decide_eq_false (by omega), List.drop_eq_nil_of_le (by omega)]
        rfl
  exact h BIG 0 s (Nat.zero_le _) (by unfold BIG; omega)

theorem iter_rangeT {α S R : Type} {body : (S × Int → Option R) → S × Int → Option R} (l : List α) (G : α → Int → (S → Option R) → S → Option R) (fin : S → Option R)
    (hb : ∀ again i s, body again (s, i) = bif decide (i < (l.length : Int)) then (lidx l i).bind (fun x => G x i (fun s' => again (s', IntKind.wrap .i64 (i + 1))) s) else fin s) (hl : l.length ≤ 9223372036854775807) (s : S) :
    iter body BIG (s, 0) = loopS G fin l 0 s := by
  have h : ∀ (n j : Nat) (s : S), j ≤ l.length → l.length - j < n → iter body n (s, (j : Int)) = loopS G fin (l.drop j) j s := by
    intro n
    induction n with
    | zero => intro j _ _ h; omega
    | succ n ih =>
      intro j s hj hn
      show body (iter body n) (s, j) = _
      rw [hb]
      by_cases hlt : j < l.length
      · rw [decide_eq_true (by omega), lidx_at hlt, drop_at hlt]
        simp only [cond_true, Option.bind_some, loopS]
        rw [wrap64 (by omega) (by omega)]
        congr 1
        funext s'
        exact ih (j + 1) s' (by omega) (by omega)
      · rw [decide_eq_false (by omega), List.drop_eq_nil_of_le (by omega)]
        rfl
  exact h BIG 0 s (Nat.zero_le _) (by unfold BIG; omega)

/-- A byte as a number. -/
def B (c : UInt8) : Int := (c.toNat : Int)

/-- for i := range of a string, its bytes read. -/
theorem iter_rangeB {R : Type} {body : (Int → Option R) → Int → Option R} (s : List UInt8) (G : Int → Int → Option R → Option R) (fin : Option R)
    (hb : ∀ again i, body again i = bif decide (i < (s.length : Int)) then (sidx s i).bind (fun x => G x i (again (IntKind.wrap .i64 (i + 1)))) else fin) (hl : s.length ≤ 9223372036854775807) :
    iter body BIG 0 = loopR G fin (s.map B) 0 := by
  have h : ∀ (n j : Nat), j ≤ s.length → s.length - j < n → iter body n (j : Int) = loopR G fin ((s.drop j).map B) j := by
    intro n
    induction n with
    | zero => intro j _ h; omega
    | succ n ih =>
      intro j hj hn
      show body (iter body n) j = _
      rw [hb]
      by_cases hlt : j < s.length
      · rw [decide_eq_true (by omega), sidx_at hlt, drop_at hlt]
        simp only [cond_true, Option.bind_some, loopR, List.map_cons]
        rw [wrap64 (by omega) (by omega)]
        unfold B
        congr 1
        exact ih (j + 1) (by omega) (by omega)
      · rw [decide_eq_false (by omega), List.drop_eq_nil_of_le (by omega)]
        rfl
  exact h BIG 0 (Nat.zero_le _) (by unfold BIG; omega)

theorem byte_eq (a b : UInt8) : decide ((a.toNat : Int) = (b.toNat : Int)) = decide (a = b) := by
  rw [Bool.eq_iff_iff, decide_eq_true_eq, decide_eq_true_eq, Int.ofNat_inj]
  exact ⟨fun h => UInt8.toNat_inj.1 h, fun h => by rw [h]⟩

theorem cond_f {α : Type} (a b : α) : (bif false then a else b) = b := rfl
theorem cond_t {α : Type} (a b : α) : (bif true then a else b) = a := rfl

theorem iter_list {α S R : Type} {body : (Int × S → Option R) → Int × S → Option R} (l : List α) (G : α → Int → (S → Option R) → S → Option R) (fin : S → Option R)
    (hb : ∀ again (i : Nat) (h : i < l.length) s, body again ((i : Int), s) = G l[i] i (fun s' => again ((i : Int) + 1, s')) s)
    (hf : ∀ again s, body again ((l.length : Int), s) = fin s) (hl : l.length ≤ 9223372036854775807) (s : S) :
    iter body BIG (0, s) = loopS G fin l 0 s := by
  have h : ∀ (n j : Nat) (s : S), j ≤ l.length → l.length - j < n → iter body n ((j : Int), s) = loopS G fin (l.drop j) j s := by
    intro n
    induction n with
    | zero => intro j _ _ h; omega
    | succ n ih =>
      intro j s hj hn
      show body (iter body n) (j, s) = _
      by_cases hlt : j < l.length
      · rw [hb _ _ hlt, drop_at hlt]
        simp only [loopS]
        congr 1
        funext s'
        exact ih (j + 1) s' (by omega) (by omega)
      · obtain rfl : j = l.length := by omega
        rw [hf, List.drop_eq_nil_of_le (by omega)]
        rfl
  exact h BIG 0 s (Nat.zero_le _) (by unfold BIG; omega)

/-! ### short -/

def tot : List Str → Nat
  | [] => 0
  | x :: r => min x.length 1048576 + tot r

theorem tot_le : ∀ l : List Str, tot l ≤ l.length * 1048576
  | [] => Nat.zero_le _
  | x :: r => by
    have := tot_le r
    rw [tot, List.length_cons]
    omega

def G7 : Str → Int → (Int → Option Bool) → Int → Option Bool := fun w _ k n => k (IntKind.wrap .i64 (n + imin (w.length : Int) 1048576))

theorem loop7 (fin : Int → Option Bool) : ∀ (l : List Str) (i : Int) (n : Nat), n + tot l ≤ 4611686018427387904 → loopS G7 fin l i n = fin ((n + tot l : Nat) : Int)
  | [], i, n, h => by rw [loopS, tot]; rfl
  | x :: r, i, n, h => by
    rw [tot] at h
    have e : imin (x.length : Int) 1048576 = ((min x.length 1048576 : Nat) : Int) := by unfold imin; split <;> omega
    rw [loopS, G7, e, wrap64 (by omega) (by omega)]
    have := loop7 fin r (i + 1) (n + min x.length 1048576) (by omega)
    rw [tot, show n + (min x.length 1048576 + tot r) = n + min x.length 1048576 + tot r by omega, ← this]
    congr 1

theorem loop7' (fin : Int → Option Bool) : ∀ (l : List Str) (i n : Int), ∃ m, loopS G7 fin l i n = fin m
  | [], i, n => ⟨n, rfl⟩
  | x :: r, i, n => loop7' fin r (i + 1) _

theorem F7_is (l : List Str) (w : l.length ≤ maxLen) (most : Int) : F7 l most = some (decide ((tot l : Int) ≤ most) && decide (l.length ≤ 400)) := by
  unfold maxLen at w
  unfold F7
  rw [iter_rangeT (body := F7_b1 l most) l G7 (fun n => some (decide (n ≤ most) && decide ((l.length : Int) ≤ 400))) (fun _ _ _ => rfl) (by omega)]
  by_cases h : l.length ≤ 400
  · have := loop7 (fun n => some (decide (n ≤ most) && decide ((l.length : Int) ≤ 400))) l 0 0 (by have := tot_le l; omega)
    rw [show ((0 : Nat) : Int) = 0 from rfl] at this
    rw [this, Nat.zero_add, decide_eq_true (p := l.length ≤ 400) h, decide_eq_true (p := ((l.length : Int) ≤ 400)) (by omega)]
  · obtain ⟨m, hm⟩ := loop7' (fun n => some (decide (n ≤ most) && decide ((l.length : Int) ≤ 400))) l 0 0
    rw [hm, decide_eq_false (p := l.length ≤ 400) h, decide_eq_false (p := ((l.length : Int) ≤ 400)) (by omega), Bool.and_false, Bool.and_false]

/-- A short list. -/
def Sh (l : List Str) (most : Nat) : Prop := l.length ≤ 400 ∧ tot l ≤ most

theorem F7_sh {l : List Str} {most : Nat} (h : Sh l most) : F7 l most = some true := by
  rw [F7_is l (by have := h.1; unfold maxLen; omega), decide_eq_true (by have := h.2; omega), decide_eq_true h.1]; rfl

theorem F7_not {l : List Str} {most : Nat} (w : l.length ≤ maxLen) (h : ¬ Sh l most) : F7 l most = some false := by
  rw [F7_is l w]
  by_cases h1 : l.length ≤ 400
  · rw [decide_eq_false (p := (tot l : Int) ≤ most) (fun h2 => h ⟨h1, by omega⟩)]; rfl
  · rw [decide_eq_false (p := l.length ≤ 400) h1, Bool.and_false]

theorem tot_mem : ∀ {l : List Str} {x : Str}, x ∈ l → min x.length 1048576 ≤ tot l
  | y :: r, x, h => by
    rw [tot]
    rcases List.mem_cons.1 h with rfl | h
    · omega
    · have := tot_mem h; omega

theorem Sh.mem {l : List Str} {most : Nat} (h : Sh l most) (hm : most < 1048576) {x : Str} (hx : x ∈ l) : x.length ≤ most := by
  have := tot_mem hx
  have := h.2
  omega

/-! ### equality of lists -/

theorem F13_is (a b : List Str) (w : a.length ≤ maxLen) : F13 a b = some (decide (a = b)) := by
  unfold maxLen at w
  unfold F13
  by_cases hl : a.length = b.length
  · rw [decide_eq_true (by omega)]
    show iter (F13_b1 a b) BIG 0 = _
    have h : ∀ (n j : Nat), j ≤ a.length → a.length - j < n → iter (F13_b1 a b) n (j : Int) = some (decide (a.drop j = b.drop j)) := by
      intro n
      induction n with
      | zero => intro j _ h; omega
      | succ n ih =>
        intro j hj hn
        show F13_b1 a b (iter (F13_b1 a b) n) j = _
        rw [F13_b1]
        by_cases hlt : j < a.length
        · rw [decide_eq_true (by omega), cond_t, lidx_at hlt, Option.bind_some, lidx_at (xs := b) (by omega), Option.bind_some, drop_at hlt, drop_at (l := b) (by omega)]
          by_cases he : a[j] = b[j]
          · rw [decide_eq_true he, Bool.not_true, cond_f, wrap64 (by omega) (by omega), show ((j : Int) + 1) = ((j + 1 : Nat) : Int) by omega, ih (j + 1) (by omega) (by omega), he]
            congr 1
            rw [Bool.eq_iff_iff, decide_eq_true_eq, decide_eq_true_eq]
            exact ⟨fun h => by rw [h], fun h => (List.cons.inj h).2⟩
          · rw [decide_eq_false he, Bool.not_false, cond_t, decide_eq_false]
            intro h
            exact he (List.cons.inj h).1
        · rw [decide_eq_false (by omega), cond_f, List.drop_eq_nil_of_le (by omega), List.drop_eq_nil_of_le (by omega), decide_eq_true rfl]
    have := h BIG 0 (Nat.zero_le _) (by unfold BIG; omega)
    rw [show ((0 : Nat) : Int) = 0 from rfl] at this
    rw [this, List.drop_zero, List.drop_zero]
  · rw [decide_eq_false (p := ((a.length : Int) = (b.length : Int))) (by omega), Bool.not_false, cond_t, decide_eq_false]
    intro h
    exact hl (by rw [h])

/-! ### values -/

def pl (l : List Str) : List GValue := l.map fun x => GValue.mk x []

theorem loop_app {α β R : Type} (sz : Nat) (f : α → β) (fin : List β → Option R) : ∀ (l : List α) (i : Int) (acc : List β), (acc.length + l.length) * sz ≤ 140737488355328 →
    loopS (fun x _ k acc => (appO sz acc [f x]).bind fun out => k out) fin l i acc = fin (acc ++ l.map f)
  | [], i, acc, h => by rw [loopS, List.map_nil, List.append_nil]
  | x :: r, i, acc, h => by
    rw [List.length_cons] at h
    have h1 : (acc.length + 1) * sz ≤ (acc.length + (r.length + 1)) * sz := Nat.mul_le_mul_right _ (by omega)
    rw [loopS, appO_eq (by simpa using Nat.le_trans h1 h), Option.bind_some, loop_app sz f fin r (i + 1) (acc ++ [f x]) (by rw [List.length_append, List.length_singleton, show acc.length + 1 + r.length = acc.length + (r.length + 1) by omega]; exact h), List.append_assoc, List.map_cons]
    rfl

theorem F22_is (l : List Str) (h : l.length ≤ 100000) : F22 l = some (pl l) := by
  unfold F22
  rw [iter_rangeS (body := F22_b1 l) l (fun w _ k acc => (appO 32 acc [GValue.mk w []]).bind fun out => k out) (fun acc => some acc) (fun _ _ _ => rfl) (by omega), loop_app 32 (fun x => GValue.mk x []) _ l 0 [] (by simp; omega)]
  rfl

theorem F23_is (l : List GValue) (h : l.length ≤ 100000) : F23 l = some (l.map GValue.text_) := by
  unfold F23
  rw [iter_rangeS (body := F23_b1 l) l (fun u _ k acc => (appO 16 acc [u.text_]).bind fun out => k out) (fun acc => some acc) (fun _ _ _ => rfl) (by omega), loop_app 16 GValue.text_ _ l 0 [] (by simp; omega)]
  rfl

theorem text_pl (l : List Str) : (pl l).map GValue.text_ = l := by
  unfold pl
  rw [List.map_map]
  exact List.map_id' l

/-! ### Join -/

def jn : List (Str × Str) → List Str → List Str × Int
  | [], acc => (acc, 0)
  | (x, y) :: r, acc => if 65536 < x.length + y.length then ([], 4) else jn r (acc ++ [x ++ y])

theorem jn_bad : ∀ (l : List (Str × Str)) (acc : List Str), (jn l acc).2 ≠ 0 → (jn l acc).1 = []
  | [], acc, h => absurd rfl h
  | (x, y) :: r, acc, h => by
    unfold jn at h ⊢
    split
    · rfl
    · rename_i hc
      rw [if_neg hc] at h
      exact jn_bad r _ h

theorem jn_len : ∀ (l : List (Str × Str)) (acc : List Str), (jn l acc).1.length ≤ acc.length + l.length
  | [], acc => Nat.le_refl _
  | (x, y) :: r, acc => by
    unfold jn
    split
    · exact Nat.zero_le _
    · have := jn_len r (acc ++ [x ++ y])
      rw [List.length_append, List.length_singleton] at this
      rw [List.length_cons]
      omega

def prs (a b : List Str) : List (Str × Str) := (List.range (max a.length b.length)).map fun i => (a.getD (min i (a.length - 1)) [], b.getD (min i (b.length - 1)) [])

theorem prs_len (a b : List Str) : (prs a b).length = max a.length b.length := by
  unfold prs
  rw [List.length_map, List.length_range]

def J (a b : List Str) : List Str × Int := if a.length ≠ b.length ∧ min a.length b.length ≠ 1 then ([], 1) else jn (prs a b) []

theorem prs_mem {a b : List Str} {x y : Str} (h : (x, y) ∈ prs a b) : (x = [] ∨ x ∈ a) ∧ (y = [] ∨ y ∈ b) := by
  unfold prs at h
  obtain ⟨i, _, hi⟩ := List.mem_map.1 h
  cases hi
  have : ∀ (l : List Str) (k : Nat), l.getD k [] = [] ∨ l.getD k [] ∈ l := fun l k => by
    rw [List.getD_eq_getElem?_getD]
    by_cases hk : k < l.length
    · rw [List.getElem?_eq_getElem hk]; exact .inr (List.getElem_mem hk)
    · rw [List.getElem?_eq_none (by omega)]; exact .inl rfl
  exact ⟨this _ _, this _ _⟩

/-- The index of a list. -/
theorem lidx_min (l : List Str) (i : Nat) (h : 0 < l.length) (hm : l.length ≤ 100000) : lidx l (imin (i : Int) (IntKind.wrap .i64 ((l.length : Int) - 1))) = some (l.getD (min i (l.length - 1)) []) := by
  rw [wrap64 (by omega) (by omega), show imin (i : Int) ((l.length : Int) - 1) = ((min i (l.length - 1) : Nat) : Int) by unfold imin; split <;> omega, lidx_nat, List.getD_eq_getElem?_getD, List.getElem?_eq_getElem (by omega)]
  rfl

theorem lidx_minV (l : List Str) (i : Nat) (h : 0 < l.length) (hm : l.length ≤ 100000) : lidx (pl l) (imin (i : Int) (IntKind.wrap .i64 (((pl l).length : Int) - 1))) = some (GValue.mk (l.getD (min i (l.length - 1)) []) []) := by
  have hl : (pl l).length = l.length := by unfold pl; rw [List.length_map]
  rw [hl, wrap64 (by omega) (by omega), show imin (i : Int) ((l.length : Int) - 1) = ((min i (l.length - 1) : Nat) : Int) by unfold imin; split <;> omega, lidx_nat, List.getD_eq_getElem?_getD, List.getElem?_eq_getElem (by omega), List.getElem?_eq_getElem (by omega)]
  simp [pl]

def G10 : Str × Str → Int → (List Str → Option (List Str × Int)) → List Str → Option (List Str × Int) := fun p _ k acc =>
  (catO p.1 p.2).bind fun s => bif decide (65536 < (s.length : Int)) then some ([], 4) else (appO 16 acc [s]).bind fun out => k out

theorem loop10 : ∀ (l : List (Str × Str)) (i : Int) (acc : List Str), acc.length + l.length ≤ 100000 → (∀ p ∈ l, p.1.length ≤ 1000000 ∧ p.2.length ≤ 1000000) → loopS G10 (fun acc => some (acc, 0)) l i acc = some (jn l acc)
  | [], i, acc, h, hl => rfl
  | (x, y) :: r, i, acc, h, hl => by
    rw [List.length_cons] at h
    have := hl _ List.mem_cons_self
    rw [loopS]
    unfold G10 jn
    dsimp only
    rw [catO_eq (by have h1 := this.1; have h2 := this.2; dsimp only at h1 h2; omega), Option.bind_some, List.length_append]
    by_cases hc : 65536 < x.length + y.length
    · rw [decide_eq_true (by omega), cond_t, if_pos hc]
    · rw [decide_eq_false (by omega), cond_f, if_neg hc, appO_eq (by simp; omega), Option.bind_some]
      exact loop10 r (i + 1) _ (by rw [List.length_append, List.length_singleton]; omega) fun p hp => hl p (List.mem_cons_of_mem _ hp)

theorem F10_is (a b : List Str) (ha : a.length ≤ 400) (hb : b.length ≤ 400) (la : ∀ x ∈ a, x.length ≤ 1000000) (lb : ∀ x ∈ b, x.length ≤ 1000000) : F10 a b = some (J a b) := by
  unfold F10 J
  by_cases hc : a.length ≠ b.length ∧ min a.length b.length ≠ 1
  · rw [if_pos hc]
    have : (!decide ((a.length : Int) = (b.length : Int)) && (((!decide ((a.length : Int) = 1) && !decide ((b.length : Int) = 1)) || decide ((a.length : Int) = 0)) || decide ((b.length : Int) = 0))) = true := by
      simp only [Bool.and_eq_true, Bool.or_eq_true, Bool.not_eq_true', decide_eq_true_eq, decide_eq_false_iff_not]
      omega
    rw [this, cond_t]
  · rw [if_neg hc]
    have : (!decide ((a.length : Int) = (b.length : Int)) && (((!decide ((a.length : Int) = 1) && !decide ((b.length : Int) = 1)) || decide ((a.length : Int) = 0)) || decide ((b.length : Int) = 0))) = false := by
      simp only [Bool.and_eq_false_iff, Bool.or_eq_false_iff, Bool.not_eq_false', decide_eq_true_eq, decide_eq_false_iff_not, Bool.not_eq_eq_eq_not, Bool.not_true, Bool.not_false]
      omega
    have hn : (bif decide ((a.length : Int) = 1) then (b.length : Int) else (a.length : Int)) = ((max a.length b.length : Nat) : Int) := by
      by_cases h1 : a.length = 1
      · rw [decide_eq_true (by omega), cond_t]; omega
      · rw [decide_eq_false (by omega), cond_f]; omega
    rw [this, cond_f, iter_list (body := F10_b1 a b) (prs a b) G10 (fun acc => some (acc, 0)) (fun again i h s => ?_) (fun again s => ?_) (by rw [prs_len]; omega), loop10 (prs a b) 0 [] (by rw [prs_len, List.length_nil]; omega) (fun p hp => ?_)]
    · obtain ⟨h1, h2⟩ := prs_mem (x := p.1) (y := p.2) hp
      refine ⟨?_, ?_⟩
      · rcases h1 with h | h
        · rw [h]; exact Nat.zero_le _
        · exact la _ h
      · rcases h2 with h | h
        · rw [h]; exact Nat.zero_le _
        · exact lb _ h
    · rw [prs_len] at h
      unfold F10_b1
      dsimp only
      have e : (prs a b)[i] = (a.getD (min i (a.length - 1)) [], b.getD (min i (b.length - 1)) []) := by simp [prs]
      rw [hn, decide_eq_true (by omega), cond_t, lidx_min a i (by omega) (by omega), Option.bind_some, lidx_min b i (by omega) (by omega), Option.bind_some, e, wrap64 (by omega) (by omega)]
      rfl
    · unfold F10_b1
      dsimp only
      rw [prs_len, hn, decide_eq_false (by omega), cond_f]

def G21 : Str × Str → Int → (List GValue → Option (List GValue × Int)) → List GValue → Option (List GValue × Int) := fun p _ k acc =>
  (F40 (GValue.mk p.1 []) (GValue.mk p.2 [])).bind fun (v, e) => bif !decide (e = 0) then some ([], e) else (appO 32 acc [v]).bind fun out => k out

theorem F40_pl (x y : Str) (hx : x.length ≤ 1000000) (hy : y.length ≤ 1000000) : F40 (GValue.mk x []) (GValue.mk y []) = if 65536 < x.length + y.length then some (GValue.mk [] [], 4) else some (GValue.mk (x ++ y) [], 0) := by
  unfold F40
  dsimp only
  rw [wrap64 (by omega) (by omega)]
  by_cases hc : 65536 < x.length + y.length
  · rw [decide_eq_true (by omega), cond_t, if_pos hc]
  · rw [decide_eq_false (by omega), cond_f, if_neg hc, catO_eq (by omega), Option.bind_some, catO_eq (by simp), Option.bind_some]
    rfl

theorem loop21 : ∀ (l : List (Str × Str)) (i : Int) (acc : List Str), acc.length + l.length ≤ 100000 → (∀ p ∈ l, p.1.length ≤ 1000000 ∧ p.2.length ≤ 1000000) → loopS G21 (fun acc => some (acc, 0)) l i (pl acc) = some (pl (jn l acc).1, (jn l acc).2)
  | [], i, acc, h, hl => rfl
  | (x, y) :: r, i, acc, h, hl => by
    rw [List.length_cons] at h
    have := hl _ List.mem_cons_self
    rw [loopS]
    unfold G21 jn
    dsimp only
    rw [F40_pl x y this.1 this.2]
    by_cases hc : 65536 < x.length + y.length
    · rw [if_pos hc, if_pos hc, Option.bind_some]
      rfl
    · rw [if_neg hc, if_neg hc, Option.bind_some]
      dsimp only
      rw [decide_eq_true rfl, Bool.not_true, cond_f, appO_eq (by simp [pl]; omega), Option.bind_some, show pl acc ++ [GValue.mk (x ++ y) []] = pl (acc ++ [x ++ y]) by simp [pl]]
      exact loop21 r (i + 1) _ (by rw [List.length_append, List.length_singleton]; omega) fun p hp => hl p (List.mem_cons_of_mem _ hp)

theorem F21_is (a b : List Str) (ha : a.length ≤ 400) (hb : b.length ≤ 400) (la : ∀ x ∈ a, x.length ≤ 1000000) (lb : ∀ x ∈ b, x.length ≤ 1000000) : F21 (pl a) (pl b) = some (pl (J a b).1, (J a b).2) := by
  have hla : (pl a).length = a.length := by unfold pl; rw [List.length_map]
  have hlb : (pl b).length = b.length := by unfold pl; rw [List.length_map]
  have hmn : imin (a.length : Int) (b.length : Int) = ((min a.length b.length : Nat) : Int) := by unfold imin; split <;> omega
  have hmx : imax (a.length : Int) (b.length : Int) = ((max a.length b.length : Nat) : Int) := by unfold imax; split <;> omega
  unfold F21 J
  rw [hla, hlb, hmn]
  by_cases hc : a.length ≠ b.length ∧ min a.length b.length ≠ 1
  · rw [if_pos hc, decide_eq_false (p := ((a.length : Int) = (b.length : Int))) (by omega), decide_eq_false (p := (((min a.length b.length : Nat) : Int) = 1)) (by omega)]
    rfl
  · rw [if_neg hc]
    have : (!decide ((a.length : Int) = (b.length : Int)) && !decide (((min a.length b.length : Nat) : Int) = 1)) = false := by
      simp only [Bool.and_eq_false_iff, Bool.not_eq_false', decide_eq_true_eq]
      omega
    rw [this, cond_f, iter_list (body := F21_b1 (pl a) (pl b)) (prs a b) G21 (fun acc => some (acc, 0)) (fun again i h s => ?_) (fun again s => ?_) (by rw [prs_len]; omega)]
    · exact loop21 (prs a b) 0 [] (by rw [prs_len, List.length_nil]; omega) (fun p hp => by
        obtain ⟨h1, h2⟩ := prs_mem (x := p.1) (y := p.2) hp
        refine ⟨?_, ?_⟩
        · rcases h1 with h | h
          · rw [h]; exact Nat.zero_le _
          · exact la _ h
        · rcases h2 with h | h
          · rw [h]; exact Nat.zero_le _
          · exact lb _ h)
    · rw [prs_len] at h
      have e : (prs a b)[i] = (a.getD (min i (a.length - 1)) [], b.getD (min i (b.length - 1)) []) := by simp [prs]
      unfold F21_b1
      dsimp only
      rw [lidx_minV a i (by omega) (by omega), lidx_minV b i (by omega) (by omega), hla, hlb, hmx, decide_eq_true (by omega), cond_t, Option.bind_some, Option.bind_some, e, wrap64 (by omega) (by omega)]
      rfl
    · unfold F21_b1
      dsimp only
      rw [prs_len, hla, hlb, hmx, decide_eq_false (by omega), cond_f]

theorem J_bad (a b : List Str) (h : (J a b).2 ≠ 0) : (J a b).1 = [] := by
  unfold J at h ⊢
  split
  · rfl
  · rename_i hc
    rw [if_neg hc] at h
    exact jn_bad _ _ h

theorem J_len (a b : List Str) : (J a b).1.length ≤ max a.length b.length := by
  unfold J
  split
  · exact Nat.zero_le _
  · have := jn_len (prs a b) []
    rw [prs_len, List.length_nil] at this
    omega

theorem F9_is (a b : List Str) (ha : a.length ≤ 400) (hb : b.length ≤ 400) (la : ∀ x ∈ a, x.length ≤ 1000000) (lb : ∀ x ∈ b, x.length ≤ 1000000) : F9 a b = some (J a b) := by
  unfold F9
  rw [F22_is a (by omega), Option.bind_some, F22_is b (by omega), Option.bind_some, F21_is a b ha hb la lb, Option.bind_some]
  dsimp only
  by_cases h : (J a b).2 = 0
  · have := J_len a b
    rw [decide_eq_true h, Bool.not_true, cond_f, F23_is _ (by unfold pl; rw [List.length_map]; omega), Option.bind_some, text_pl]
    congr 1
    exact Prod.ext rfl h.symm
  · rw [decide_eq_false h, Bool.not_false, cond_t]
    congr 1
    exact Prod.ext (J_bad a b h).symm rfl

theorem alive : F8 = some true := by kernel_rfl

/-! ### numbers -/

theorem tab_itoa : ((List.range 256).all fun v => decide (F25 (Lib.itoa ((v : Int) + 1)) = some ((v : Int) + 1, true))) = true := by kernel_rfl

theorem tab_atoi : ((List.range 256).all fun v => decide (F24 (Lib.itoa ((v : Int) + 1)) = some ((v : Int) + 1, true))) = true := by kernel_rfl

theorem tab_dig : ((List.range 10).all fun x => (List.range 10).all fun y => (List.range 10).all fun z => decide (x = 0) || decide (Lib.itoa ((100 * x + 10 * y + z : Nat) : Int) = [UInt8.ofNat (48 + x), UInt8.ofNat (48 + y), UInt8.ofNat (48 + z)])) = true := by kernel_rfl

theorem tab_dig2 : ((List.range 10).all fun y => (List.range 10).all fun z => decide (y = 0) || decide (Lib.itoa ((10 * y + z : Nat) : Int) = [UInt8.ofNat (48 + y), UInt8.ofNat (48 + z)])) = true := by kernel_rfl

theorem tab_dig1 : ((List.range 10).all fun z => decide (z = 0) || decide (Lib.itoa ((z : Nat) : Int) = [UInt8.ofNat (48 + z)])) = true := by kernel_rfl

theorem at_itoa {v : Int} (h1 : 1 ≤ v) (h2 : v ≤ 256) : F25 (Lib.itoa v) = some (v, true) ∧ F24 (Lib.itoa v) = some (v, true) := by
  have a := List.all_eq_true.1 tab_itoa (v - 1).toNat (List.mem_range.2 (by omega))
  have b := List.all_eq_true.1 tab_atoi (v - 1).toNat (List.mem_range.2 (by omega))
  have e : (((v - 1).toNat : Nat) : Int) + 1 = v := by omega
  rw [e] at a b
  exact ⟨of_decide_eq_true a, of_decide_eq_true b⟩

theorem wrap8 {n : Int} (h1 : 0 ≤ n) (h2 : n < 256) : IntKind.wrap .u8 n = n := by
  simp only [IntKind.wrap, IntKind.bits, IntKind.signed]
  simp
  omega

def dgs : List UInt8 → Int → Option Int
  | [], n => some n
  | c :: r, n => if c.toNat < 48 ∨ 57 < c.toNat then none else dgs r (10 * n + ((c.toNat : Int) - 48))

def fin25 (s : Str) (n : Int) : Option (Int × Bool) :=
  (guardO ((decide (1 ≤ n) && decide (n ≤ 256)) && decide ((s.length : Int) < 4)) (sidx s 0)).bind fun c14 =>
    some (n, (((decide (1 ≤ n) && decide (n ≤ 256)) && decide ((s.length : Int) < 4)) && !decide (c14 = 48)))

theorem loop25 (s : Str) (hs : s.length ≤ 1000000000) : ∀ (m j : Nat) (n : Int), j ≤ s.length → j ≤ 4 → 4 - j < m → 0 ≤ n → n < 10 ^ j →
    iter (F25_b1 s) m (n, (j : Int)) = match dgs ((s.take 4).drop j) n with | none => some (0, false) | some v => fin25 s v
  | 0, j, n, h, h4, hm, h0, h1 => by omega
  | m + 1, j, n, h, h4, hm, h0, h1 => by
    show F25_b1 s (iter (F25_b1 s) m) (n, (j : Int)) = _
    rw [F25_b1]
    by_cases hj : j < s.length ∧ j < 4
    · have hd : (s.take 4).drop j = s[j] :: (s.take 4).drop (j + 1) := by
        rw [drop_at (l := s.take 4) (by rw [List.length_take]; omega), List.getElem_take]
      have hp : (10 : Int) ^ j ≤ 1000 := by
        have : j ≤ 3 := by omega
        match j, this with
        | 0, _ => decide
        | 1, _ => decide
        | 2, _ => decide
        | 3, _ => decide
      have hc := UInt8.toNat_lt s[j]
      rw [decide_eq_true (p := ((j : Int) < (s.length : Int))) (by omega), decide_eq_true (p := ((j : Int) < 4)) (by omega), Bool.and_self, cond_t, sidx_at hj.1, Option.bind_some, hd, dgs]
      by_cases hb : s[j].toNat < 48 ∨ 57 < s[j].toNat
      · rw [if_pos hb]
        have : (decide ((s[j].toNat : Int) < 48) || decide (57 < (s[j].toNat : Int))) = true := by
          rw [Bool.or_eq_true, decide_eq_true_eq, decide_eq_true_eq]
          omega
        rw [this, cond_t]
      · rw [if_neg hb]
        have : (decide ((s[j].toNat : Int) < 48) || decide (57 < (s[j].toNat : Int))) = false := by
          rw [Bool.or_eq_false_iff, decide_eq_false_iff_not, decide_eq_false_iff_not]
          omega
        rw [this, cond_f, wrap8 (by omega) (by omega), wrap64 (n := (s[j].toNat : Int) - 48) (by omega) (by omega), wrap64 (n := 10 * n) (by omega) (by omega), wrap64 (n := 10 * n + ((s[j].toNat : Int) - 48)) (by omega) (by omega), wrap64 (by omega) (by omega)]
        have := loop25 s hs m (j + 1) (10 * n + ((s[j].toNat : Int) - 48)) (by omega) (by omega) (by omega) (by omega) (by rw [Int.pow_succ]; omega)
        rw [← this]
        rfl
    · have hd : (s.take 4).drop j = [] := List.drop_eq_nil_of_le (by rw [List.length_take]; omega)
      have : (decide ((j : Int) < (s.length : Int)) && decide ((j : Int) < 4)) = false := by
        rw [Bool.and_eq_false_iff, decide_eq_false_iff_not, decide_eq_false_iff_not]
        omega
      rw [this, cond_f, hd, dgs]
      rfl

theorem F25_is (s : Str) (hs : s.length ≤ 1000000000) : F25 s = match dgs (s.take 4) 0 with | none => some (0, false) | some v => fin25 s v := by
  have := loop25 s hs BIG 0 0 (Nat.zero_le _) (by omega) (by unfold BIG; omega) (Int.le_refl _) (by decide)
  rw [show ((0 : Nat) : Int) = 0 from rfl, List.drop_zero] at this
  exact this

theorem dig_of {c : UInt8} (h : ¬ (c.toNat < 48 ∨ 57 < c.toNat)) : ∃ x, x < 10 ∧ c = UInt8.ofNat (48 + x) ∧ (c.toNat : Int) - 48 = (x : Int) :=
  ⟨c.toNat - 48, by omega, by rw [show 48 + (c.toNat - 48) = c.toNat by omega, UInt8.ofNat_toNat], by omega⟩

/-- What F25 takes for a number is one's numeral. -/
theorem F25_num (s : Str) (hs : s.length ≤ 1000000000) (n : Int) (h : F25 s = some (n, true)) : 1 ≤ n ∧ n ≤ 256 ∧ s = Lib.itoa n := by
  rw [F25_is s hs] at h
  cases hd : dgs (s.take 4) 0 with
  | none => rw [hd] at h; cases h
  | some v =>
    rw [hd] at h
    dsimp only at h
    unfold fin25 at h
    obtain ⟨c, hc, h⟩ := Option.bind_eq_some_iff.1 h
    have h := Option.some.inj h
    have hv : v = n := congrArg Prod.fst h
    have hk : (((decide (1 ≤ v) && decide (v ≤ 256)) && decide ((s.length : Int) < 4)) && !decide (c = 48)) = true := congrArg Prod.snd h
    simp only [Bool.and_eq_true, decide_eq_true_eq, Bool.not_eq_true', decide_eq_false_iff_not] at hk
    obtain ⟨⟨⟨k1, k2⟩, k3⟩, k4⟩ := hk
    subst hv
    refine ⟨k1, k2, ?_⟩
    rw [decide_eq_true k1, decide_eq_true k2, decide_eq_true k3] at hc
    replace hc : sidx s 0 = some c := hc
    rw [List.take_of_length_le (by omega)] at hd
    match s, k3 with
    | [], _ => simp [dgs] at hd; omega
    | [a], _ =>
      have hc0 : (a.toNat : Int) = c := Option.some.inj hc
      rw [dgs] at hd
      split at hd
      · cases hd
      · rename_i ha
        obtain ⟨x, hx, ex, vx⟩ := dig_of ha
        rw [dgs, vx] at hd
        have hv := Option.some.inj hd
        have t := List.all_eq_true.1 tab_dig1 x (List.mem_range.2 hx)
        rw [Bool.or_eq_true, decide_eq_true_eq, decide_eq_true_eq] at t
        rcases t with t | t
        · omega
        · rw [← hv, show 10 * (0 : Int) + (x : Int) = (x : Int) by omega, t, ex]
    | [a, b], _ =>
      have hc0 : (a.toNat : Int) = c := Option.some.inj hc
      rw [dgs] at hd
      split at hd
      · cases hd
      · rename_i ha
        obtain ⟨x, hx, ex, vx⟩ := dig_of ha
        rw [dgs] at hd
        split at hd
        · cases hd
        · rename_i hb
          obtain ⟨y, hy, ey, vy⟩ := dig_of hb
          rw [dgs, vx, vy] at hd
          have hv := Option.some.inj hd
          have t := List.all_eq_true.1 (List.all_eq_true.1 tab_dig2 x (List.mem_range.2 hx)) y (List.mem_range.2 hy)
          rw [Bool.or_eq_true, decide_eq_true_eq, decide_eq_true_eq] at t
          rcases t with t | t
          · omega
          · rw [← hv, show 10 * (10 * (0 : Int) + (x : Int)) + (y : Int) = ((10 * x + y : Nat) : Int) by omega, t, ex, ey]
    | [a, b, d], _ =>
      have hc0 : (a.toNat : Int) = c := Option.some.inj hc
      rw [dgs] at hd
      split at hd
      · cases hd
      · rename_i ha
        obtain ⟨x, hx, ex, vx⟩ := dig_of ha
        rw [dgs] at hd
        split at hd
        · cases hd
        · rename_i hb
          obtain ⟨y, hy, ey, vy⟩ := dig_of hb
          rw [dgs] at hd
          split at hd
          · cases hd
          · rename_i hdd
            obtain ⟨z, hz, ez, vz⟩ := dig_of hdd
            rw [dgs, vx, vy, vz] at hd
            have hv := Option.some.inj hd
            have t := List.all_eq_true.1 (List.all_eq_true.1 (List.all_eq_true.1 tab_dig x (List.mem_range.2 hx)) y (List.mem_range.2 hy)) z (List.mem_range.2 hz)
            rw [Bool.or_eq_true, decide_eq_true_eq, decide_eq_true_eq] at t
            rcases t with t | t
            · omega
            · rw [← hv, show 10 * (10 * (10 * (0 : Int) + (x : Int)) + (y : Int)) + (z : Int) = ((100 * x + 10 * y + z : Nat) : Int) by omega, t, ex, ey, ez]
    | _ :: _ :: _ :: _ :: r, h => simp at h; omega

theorem F25_any (s : Str) (hs : s.length ≤ 1000000000) : ∃ n ok, F25 s = some (n, ok) := by
  rw [F25_is s hs]
  cases hd : dgs (s.take 4) 0 with
  | none => exact ⟨0, false, rfl⟩
  | some v =>
    show ∃ n ok, fin25 s v = some (n, ok)
    unfold fin25
    by_cases h : ((decide (1 ≤ v) && decide (v ≤ 256)) && decide ((s.length : Int) < 4)) = true
    · rw [h, guardO_true]
      match s, hd, h with
      | [], hd, h => simp [dgs] at hd; subst hd; simp at h
      | a :: r, _, _ => exact ⟨_, _, rfl⟩
    · rw [Bool.not_eq_true] at h
      rw [h]
      exact ⟨_, _, rfl⟩

theorem L_Atoi_any (s : Str) (hs : s.length ≤ 1000000000) : ∃ n bad, L_Atoi s = some (n, bad) := by
  unfold L_Atoi
  rw [if_pos (by omega)]
  split
  · exact ⟨_, _, rfl⟩
  · exact ⟨_, _, rfl⟩
  · exact ⟨_, _, rfl⟩

/-- The two readings of a number. -/
theorem num_is (s : Str) (hs : s.length ≤ 1000000000) : (∃ n m, F24 s = some (n, false) ∧ F25 s = some (m, false)) ∨ ∃ n, F24 s = some (n, true) ∧ F25 s = some (n, true) ∧ 1 ≤ n ∧ n ≤ 256 := by
  obtain ⟨m, ok, h25⟩ := F25_any s hs
  cases ok with
  | true =>
    obtain ⟨h1, h2, h3⟩ := F25_num s hs m h25
    exact .inr ⟨m, by rw [h3]; exact (at_itoa h1 h2).2, h25, h1, h2⟩
  | false =>
    refine .inl ?_
    obtain ⟨n, bad, ha⟩ := L_Atoi_any s hs
    refine ⟨n, m, ?_, h25⟩
    unfold F24
    rw [ha, Option.bind_some]
    dsimp only
    by_cases hg : ((!bad && decide (1 ≤ n)) && decide (n ≤ 256)) = true
    · have hg' := hg
      simp only [Bool.and_eq_true, decide_eq_true_eq] at hg'
      rw [hg, guardO_true, L_Itoa, if_pos (by omega), Option.bind_some, Bool.true_and, decide_eq_false]
      intro e
      rw [← e, (at_itoa hg'.1.2 hg'.2).1] at h25
      cases h25
    · rw [Bool.not_eq_true] at hg
      rw [hg]
      rfl

/-! ### Index -/

def GI (N : Str → Option (Int × Bool)) (vs : List Str) : Str → Int → (List Str → Option (List Str × Int)) → List Str → Option (List Str × Int) := fun w _ k acc =>
  (N w).bind fun (r14, r15) => bif !r15 then some ([], 5) else bif decide (r14 ≤ (vs.length : Int)) then (lidx vs (IntKind.wrap .i64 (r14 - 1))).bind fun w20 => (appO 16 acc [w20]).bind fun out => k out else k acc

theorem loopI (vs : List Str) : ∀ (l : List Str) (i : Int) (acc : List Str), acc.length + l.length ≤ 100000 → (∀ x ∈ l, x.length ≤ 1000000000) →
    ∃ r, loopS (GI F24 vs) (fun acc => some (acc, 0)) l i acc = some r ∧ loopS (GI F25 vs) (fun acc => some (acc, 0)) l i acc = some r ∧ r.1.length ≤ acc.length + l.length
  | [], i, acc, h, hl => ⟨(acc, 0), rfl, rfl, Nat.le_refl _⟩
  | x :: r, i, acc, h, hl => by
    rw [List.length_cons] at h
    rw [loopS, loopS]
    unfold GI
    dsimp only
    rcases num_is x (hl x List.mem_cons_self) with ⟨n, m, e1, e2⟩ | ⟨n, e1, e2, h1, h2⟩
    · rw [e1, e2]
      exact ⟨([], 5), rfl, rfl, Nat.zero_le _⟩
    · rw [e1, e2, Option.bind_some, Option.bind_some]
      dsimp only
      rw [Bool.not_true, cond_f, cond_f]
      by_cases hn : n ≤ (vs.length : Int)
      · rw [decide_eq_true hn, cond_t, cond_t, wrap64 (by omega) (by omega), show n - 1 = (((n - 1).toNat : Nat) : Int) by omega, lidx_at (by omega), Option.bind_some, Option.bind_some, appO_eq (by simp; omega), Option.bind_some, Option.bind_some]
        obtain ⟨q, a, b, c⟩ := loopI vs r (i + 1) (acc ++ [vs[(n - 1).toNat]'(by omega)]) (by rw [List.length_append, List.length_singleton]; omega) fun y hy => hl y (List.mem_cons_of_mem _ hy)
        refine ⟨q, a, b, ?_⟩
        rw [List.length_append, List.length_singleton] at c
        rw [List.length_cons]
        omega
      · rw [decide_eq_false hn, cond_f, cond_f]
        obtain ⟨q, a, b, c⟩ := loopI vs r (i + 1) acc (by omega) fun y hy => hl y (List.mem_cons_of_mem _ hy)
        exact ⟨q, a, b, by rw [List.length_cons]; omega⟩

theorem index_is (vs idx : List Str) (h : idx.length ≤ 400) (hl : ∀ x ∈ idx, x.length ≤ 1000000000) : ∃ r, F11 vs idx = some r ∧ F12 vs idx = some r ∧ r.1.length ≤ 400 := by
  obtain ⟨r, a, b, c⟩ := loopI vs idx 0 [] (by rw [List.length_nil]; omega) hl
  refine ⟨r, ?_, ?_, by rw [List.length_nil] at c; omega⟩
  · unfold F11
    rw [iter_rangeS (body := F11_b1 idx vs) idx (GI F24 vs) (fun acc => some (acc, 0)) (fun _ _ _ => rfl) (by omega)]
    exact a
  · unfold F12
    rw [iter_rangeS (body := F12_b1 idx vs) idx (GI F25 vs) (fun acc => some (acc, 0)) (fun _ _ _ => rfl) (by omega)]
    exact b

/-! ### the law -/

theorem plain3 (a : List Str) (wa : a.length ≤ maxLen) (b : List Str) (wb : b.length ≤ maxLen) (idx : List Str) (wi : idx.length ≤ maxLen) : F3 a b idx = some true := by
  unfold F3
  by_cases h : Sh a 70000 ∧ Sh b 70000 ∧ Sh idx 2000
  · obtain ⟨ha, hb, hi⟩ := h
    have la := fun x (hx : x ∈ a) => ha.mem (by decide) hx
    have lb := fun x (hx : x ∈ b) => hb.mem (by decide) hx
    have li := fun x (hx : x ∈ idx) => hi.mem (by decide) hx
    obtain ⟨r, e1, e2, hr⟩ := index_is a idx hi.1 fun x hx => Nat.le_trans (li x hx) (by decide)
    have hJ := J_len a b
    rw [show (70000 : Int) = ((70000 : Nat) : Int) from rfl, show (2000 : Int) = ((2000 : Nat) : Int) from rfl, F7_sh ha, Option.bind_some, guardO_true, F7_sh hb, Option.bind_some]
    simp only [Bool.not_true, Bool.or_self, Bool.not_false, guardO_true]
    rw [F7_sh hi, Option.bind_some]
    simp only [Bool.not_true, Bool.or_self, cond_f]
    rw [F9_is a b ha.1 hb.1 (fun x hx => Nat.le_trans (la x hx) (by decide)) (fun x hx => Nat.le_trans (lb x hx) (by decide)), Option.bind_some]
    rw [F10_is a b ha.1 hb.1 (fun x hx => Nat.le_trans (la x hx) (by decide)) (fun x hx => Nat.le_trans (lb x hx) (by decide)), Option.bind_some]
    try dsimp only
    rw [e1, Option.bind_some]
    try dsimp only
    rw [e2, Option.bind_some]
    try dsimp only
    have hm : (400 : Nat) ≤ maxLen := by unfold maxLen; decide
    have := ha.1
    have := hb.1
    rw [F13_is _ _ (by omega), Option.bind_some, F13_is _ _ (by omega), alive]
    simp [guardO]
  · have e : (F7 a 70000).bind (fun r5 => (guardO r5 (F7 b 70000)).bind fun r8 => (guardO (!(!r5 || !r8)) (F7 idx 2000)).bind fun r11 => some ((!r5 || !r8) || !r11)) = some true := by
      by_cases ha : Sh a 70000
      · by_cases hb : Sh b 70000
        · by_cases hi : Sh idx 2000
          · exact absurd ⟨ha, hb, hi⟩ h
          · have h1 := F7_sh ha; have h2 := F7_sh hb; have h3 := F7_not wi hi
            simp only [Int.cast_ofNat_Int] at h1 h2 h3
            rw [h1, Option.bind_some, h2]
            simp only [guardO_true, Option.bind_some, Bool.not_true, Bool.or_self, Bool.not_false]
            rw [h3]
            rfl
        · have h1 := F7_sh ha; have h2 := F7_not wb hb
          simp only [Int.cast_ofNat_Int] at h1 h2
          rw [h1, Option.bind_some, h2]
          rfl
      · have h1 := F7_not wa ha
        simp only [Int.cast_ofNat_Int] at h1
        rw [h1]
        rfl
    obtain ⟨r5, h5, e⟩ := Option.bind_eq_some_iff.1 e
    obtain ⟨r8, h8, e⟩ := Option.bind_eq_some_iff.1 e
    obtain ⟨r11, h11, e⟩ := Option.bind_eq_some_iff.1 e
    rw [h5, Option.bind_some, h8, Option.bind_some, h11, Option.bind_some, Option.some.inj e, cond_t, alive]
    rfl

theorem law3 (a : List Str) (wa : a.length ≤ maxLen ∧ ∀ x ∈ a, List.length x ≤ maxLen) (b : List Str) (wb : b.length ≤ maxLen ∧ ∀ x ∈ b, List.length x ≤ maxLen) (idx : List Str) (wi : idx.length ≤ maxLen ∧ ∀ x ∈ idx, List.length x ≤ maxLen) : F3 a b idx = some true := plain3 a wa.1 b wb.1 idx wi.1

/-! ### small -/

def wfW : Nat → Word → Prop
  | 0, _ => False
  | k + 1, w => w.text_.length ≤ maxLen ∧ w.quoted_.length ≤ maxLen ∧ w.words_.length ≤ maxLen ∧ ∀ x ∈ w.words_, wfW k x

def Fit : Nat → Word → Prop
  | 0, _ => False
  | d + 1, w => w.text_.length ≤ 1219 ∧ w.words_.length ≤ 60 ∧ ∀ x ∈ w.words_, Fit d x

theorem loop15 (w : Word) (K : Word → Int → Int → Option Int) (d : Nat) (hw : w.words_.length ≤ maxLen)
    (H : ∀ x ∈ w.words_, ∀ left : Int, 0 ≤ left → left ≤ 60 → ∃ r, K x left (d : Int) = some r ∧ r < left ∧ (0 ≤ r → Fit d x)) (hd : d ≤ 1000) :
    ∀ (n j : Nat) (left : Int), j ≤ w.words_.length → w.words_.length - j < n → left ≤ 60 →
      ∃ r, iter (F15_b1 w K ((d + 1 : Nat) : Int)) n (left, (j : Int)) = some r ∧ r ≤ left ∧ (0 ≤ r → r + (w.words_.length - j : Nat) ≤ left ∧ ∀ x ∈ w.words_.drop j, Fit d x)
  | 0, j, left, _, h, _ => by omega
  | n + 1, j, left, hj, hn, hl => by
    unfold maxLen at hw
    show ∃ r, F15_b1 w K ((d + 1 : Nat) : Int) (iter (F15_b1 w K ((d + 1 : Nat) : Int)) n) (left, (j : Int)) = some r ∧ _
    rw [F15_b1]
    by_cases hc : j < w.words_.length ∧ 0 ≤ left
    · rw [decide_eq_true (p := ((j : Int) < (w.words_.length : Int))) (by omega), decide_eq_true (p := (0 ≤ left)) hc.2, Bool.and_self, cond_t, lidx_at hc.1, Option.bind_some, wrap64 (n := ((d + 1 : Nat) : Int) - 1) (by omega) (by omega), show ((d + 1 : Nat) : Int) - 1 = (d : Int) by omega]
      obtain ⟨r, e1, e2, e3⟩ := H _ (List.getElem_mem hc.1) left hc.2 hl
      rw [e1, Option.bind_some, wrap64 (by omega) (by omega)]
      obtain ⟨q, f1, f2, f3⟩ := loop15 w K d (by unfold maxLen; omega) H hd n (j + 1) r (by omega) (by omega) (by omega)
      refine ⟨q, f1, by omega, fun h => ?_⟩
      obtain ⟨g1, g2⟩ := f3 h
      refine ⟨by omega, ?_⟩
      rw [drop_at hc.1]
      intro x hx
      rcases List.mem_cons.1 hx with rfl | hx
      · exact e3 (by omega)
      · exact g2 x hx
    · have : (decide ((j : Int) < (w.words_.length : Int)) && decide (0 ≤ left)) = false := by
        rw [Bool.and_eq_false_iff, decide_eq_false_iff_not, decide_eq_false_iff_not]
        omega
      rw [this, cond_f]
      refine ⟨left, rfl, Int.le_refl _, fun h => ?_⟩
      have hj' : j = w.words_.length := by omega
      refine ⟨by omega, ?_⟩
      rw [List.drop_eq_nil_of_le (by omega)]
      intro x hx
      cases hx

theorem K15_any : ∀ (d m k : Nat) (w : Word) (left : Int), d < m → d ≤ 1000 → wfW k w → 0 ≤ left → left ≤ 60 → ∃ r, K15 m w left (d : Int) = some r ∧ r < left ∧ (0 ≤ r → Fit d w)
  | 0, m + 1, k, w, left, _, _, _, h0, h1 => by
    refine ⟨-1, ?_, by omega, fun h => by omega⟩
    show F15 (K15 m) w left ((0 : Nat) : Int) = _
    rw [F15, decide_eq_true (by omega), cond_t]
  | d + 1, m + 1, k + 1, w, left, hm, hd, hw, h0, h1 => by
    obtain ⟨w1, w2, w3, w4⟩ := hw
    have m1 := w1
    have m2 := w2
    unfold maxLen at m1 m2
    show ∃ r, F15 (K15 m) w left ((d + 1 : Nat) : Int) = some r ∧ _
    rw [F15, decide_eq_false (by omega), cond_f]
    have t1 : Int.tdiv (w.text_.length : Int) 20 = ((w.text_.length / 20 : Nat) : Int) := rfl
    have t2 : Int.tdiv (w.quoted_.length : Int) 20 = ((w.quoted_.length / 20 : Nat) : Int) := rfl
    rw [t1, t2, wrap64 (n := ((w.text_.length / 20 : Nat) : Int)) (by omega) (by omega), wrap64 (n := 1 + ((w.text_.length / 20 : Nat) : Int)) (by omega) (by omega), wrap64 (n := ((w.quoted_.length / 20 : Nat) : Int)) (by omega) (by omega), wrap64 (n := 1 + ((w.text_.length / 20 : Nat) : Int) + ((w.quoted_.length / 20 : Nat) : Int)) (by omega) (by omega), wrap64 (n := left - _) (by omega) (by omega)]
    obtain ⟨r, e1, e2, e3⟩ := loop15 w (K15 m) d w3 (fun x hx left h0 h1 => K15_any d m k x left (by omega) (by omega) (w4 x hx) h0 h1) (by omega) BIG 0 (left - (1 + ((w.text_.length / 20 : Nat) : Int) + ((w.quoted_.length / 20 : Nat) : Int))) (Nat.zero_le _) (by unfold maxLen at w3; unfold BIG; omega) (by omega)
    refine ⟨r, e1, by omega, fun h => ?_⟩
    obtain ⟨g1, g2⟩ := e3 h
    rw [List.drop_zero] at g2
    exact ⟨by omega, by omega, g2⟩

/-! ### environments -/

def Few (l : List GEnv) : Prop := l.length ≤ 10 ∧ ∀ e ∈ l, e.vars_.length ≤ 20 ∧ ∀ v ∈ e.vars_, Sh v.values_ 2000 ∧ v.name_.length ≤ 100

theorem F75_any (l : List GEnv) (h : l.length ≤ 1000) (g : Int) : ∃ r, F75 l g = some r ∧ (r < 0 ∨ ∃ j : Nat, j < l.length ∧ r = (j : Int)) := by
  unfold F75
  rw [iter_range (body := F75_b1 l g) l (fun u i n => (F76 u g).bind fun r => bif r then some i else n) (some (-1)) (fun _ _ => rfl) (by omega)]
  have : ∀ (r : List GEnv) (j : Nat), j + r.length = l.length → ∃ q, loopR (fun (u : GEnv) i n => (F76 u g).bind fun r => bif r then some i else n) (some (-1)) r (j : Int) = some q ∧ (q < 0 ∨ ∃ j : Nat, j < l.length ∧ q = (j : Int)) := by
    intro r
    induction r with
    | nil => intro j hj; exact ⟨-1, rfl, .inl (by omega)⟩
    | cons u r ih =>
      intro j hj
      rw [List.length_cons] at hj
      rw [loopR, F76, Option.bind_some]
      cases decide (u.id_ = g) with
      | true => exact ⟨j, rfl, .inr ⟨j, by omega, rfl⟩⟩
      | false => exact ih (j + 1) (by omega)
  exact this l 0 (by omega)

theorem F77_any (l : List Var) (h : l.length ≤ 1000) (g : Str) : ∃ r, F77 l g = some r ∧ (r < 0 ∨ ∃ j : Nat, j < l.length ∧ r = (j : Int)) := by
  unfold F77
  rw [iter_range (body := F77_b1 l g) l (fun u i n => (F78 u g).bind fun r => bif r then some i else n) (some (-1)) (fun _ _ => rfl) (by omega)]
  have : ∀ (r : List Var) (j : Nat), j + r.length = l.length → ∃ q, loopR (fun (u : Var) i n => (F78 u g).bind fun r => bif r then some i else n) (some (-1)) r (j : Int) = some q ∧ (q < 0 ∨ ∃ j : Nat, j < l.length ∧ q = (j : Int)) := by
    intro r
    induction r with
    | nil => intro j hj; exact ⟨-1, rfl, .inl (by omega)⟩
    | cons u r ih =>
      intro j hj
      rw [List.length_cons] at hj
      rw [loopR, F78, Option.bind_some]
      cases decide (u.name_ = g) with
      | true => exact ⟨j, rfl, .inr ⟨j, by omega, rfl⟩⟩
      | false => exact ih (j + 1) (by omega)
  exact this l 0 (by omega)

/-- Values of a variable. -/
def Vs (vs : List Str) : Prop := vs.length ≤ 400 ∧ ∀ x ∈ vs, x.length ≤ 2000

theorem F50_any (l : List GEnv) (hl : Few l) (g : Int) (nm : Str) : ∃ vs ok, F50 l g nm = some (vs, ok) ∧ Vs vs := by
  have nil : Vs [] := ⟨Nat.zero_le _, fun x hx => by cases hx⟩
  unfold F50 F60
  obtain ⟨r, e1, e2⟩ := F75_any l (by have := hl.1; omega) g
  rw [e1, Option.bind_some, Option.bind_some]
  by_cases hr : r < 0
  · rw [decide_eq_true hr, cond_t]
    exact ⟨[], false, rfl, nil⟩
  · rw [decide_eq_false hr, cond_f]
    obtain ⟨j, hj, rfl⟩ : ∃ j : Nat, j < l.length ∧ r = (j : Int) := by
      rcases e2 with h | h
      · exact absurd h hr
      · exact h
    obtain ⟨h1, h2⟩ := hl.2 _ (List.getElem_mem hj)
    rw [lidx_at hj, Option.bind_some]
    unfold F61
    obtain ⟨q, f1, f2⟩ := F77_any (l[j]).vars_ (by omega) nm
    rw [f1, Option.bind_some, Option.bind_some]
    by_cases hq : q < 0
    · rw [decide_eq_true hq, cond_t]
      exact ⟨[], false, rfl, nil⟩
    · rw [decide_eq_false hq, cond_f]
      obtain ⟨k, hk, rfl⟩ : ∃ k : Nat, k < (l[j]).vars_.length ∧ q = (k : Int) := by
        rcases f2 with h | h
        · exact absurd h hq
        · exact h
      obtain ⟨g1, g2⟩ := h2 _ (List.getElem_mem hk)
      have := g1.1
      rw [lidx_at hk, Option.bind_some, L_Clone, if_pos (by omega), Option.bind_some]
      exact ⟨_, true, rfl, g1.1, fun x hx => g1.mem (by decide) hx⟩

theorem F36_any (l : List GEnv) (hl : Few l) (g : Int) (nm : Str) (hn : nm.length ≤ 1000000000) : ∃ vs, F36 l g nm = some vs ∧ Vs vs := by
  have nil : Vs [] := ⟨Nat.zero_le _, fun x hx => by cases hx⟩
  unfold F36
  rcases num_is nm hn with ⟨n, m, e1, _⟩ | ⟨n, e1, _, h1, h2⟩
  · obtain ⟨vs, ok, f1, f2⟩ := F50_any l hl g nm
    rw [e1, Option.bind_some]
    dsimp only
    rw [cond_f, f1]
    exact ⟨vs, rfl, f2⟩
  · obtain ⟨vs, ok, f1, f2⟩ := F50_any l hl g [42]
    rw [e1, Option.bind_some]
    dsimp only
    rw [cond_t, f1, Option.bind_some]
    dsimp only
    by_cases hc : (vs.length : Int) < n
    · rw [decide_eq_true hc, cond_t]
      exact ⟨[], rfl, nil⟩
    · rw [decide_eq_false hc, cond_f, wrap64 (by omega) (by omega), lslice, if_pos ⟨by omega, by omega, by omega⟩, Option.bind_some]
      have f3 := f2.1
      refine ⟨_, rfl, ?_, fun x hx => f2.2 x (List.mem_of_mem_drop (List.mem_of_mem_take hx))⟩
      rw [List.length_take, List.length_drop]
      omega

def Gd1 (x : GValue) : Prop := x.text_.length = x.marks_.length ∧ x.text_.length ≤ 65536
def Gd (v : List GValue) : Prop := v.length ≤ 400 ∧ ∀ x ∈ v, Gd1 x
def Qd (v : List GValue) : Prop := ∀ x ∈ v, ∀ c ∈ x.marks_, c = 49

theorem Gd_nil : Gd [] := ⟨Nat.zero_le _, fun x hx => by cases hx⟩
theorem Qd_nil : Qd [] := fun x hx => by cases hx

theorem rep_len (n : Nat) : (Lib.repeatL [49] n).length = n := by
  rw [Lib.repeatL_length, List.length_singleton, Nat.mul_one]

theorem rep_all : ∀ (n : Nat), ∀ c ∈ Lib.repeatL [49] n, c = 49
  | 0, c, h => by cases h
  | n + 1, c, h => by
    rw [Lib.repeatL] at h
    rcases List.mem_append.1 h with h | h
    · exact List.mem_singleton.1 h
    · exact rep_all n c h

def quo (vs : List Str) : List GValue := vs.map fun s => GValue.mk s (Lib.repeatL [49] s.length)

theorem loop43 : ∀ (l : List Str) (i : Int) (acc : List GValue), acc.length + l.length ≤ 100000 → (∀ x ∈ l, x.length ≤ 65536) →
    loopS (fun (w : Str) _ k acc => (L_Repeat [49] (w.length : Int)).bind fun t12 => (appO 32 acc [GValue.mk w t12]).bind fun out => k out) (fun acc => some acc) l i acc = some (acc ++ quo l)
  | [], i, acc, h, hl => by rw [loopS, quo, List.map_nil, List.append_nil]
  | x :: r, i, acc, h, hl => by
    rw [List.length_cons] at h
    have hx := hl x List.mem_cons_self
    rw [loopS, L_Repeat, if_pos ⟨by omega, by omega, by rw [List.length_singleton, Int.toNat_natCast]; omega⟩, Option.bind_some, Int.toNat_natCast, appO_eq (by rw [List.length_singleton]; omega), Option.bind_some,
      loop43 r (i + 1) _ (by rw [List.length_append, List.length_singleton]; omega) fun y hy => hl y (List.mem_cons_of_mem _ hy), List.append_assoc]
    rfl

theorem F43_is (l : List Str) (h : l.length ≤ 400) (hl : ∀ x ∈ l, x.length ≤ 65536) : F43 l = some (quo l) := by
  unfold F43
  rw [iter_rangeS (body := F43_b1 l) l (fun (w : Str) _ k acc => (L_Repeat [49] (w.length : Int)).bind fun t12 => (appO 32 acc [GValue.mk w t12]).bind fun out => k out) (fun acc => some acc) (fun _ _ _ => rfl) (by omega), loop43 l 0 [] (by rw [List.length_nil]; omega) hl]
  rfl

theorem quo_good (l : List Str) (h : l.length ≤ 400) (hl : ∀ x ∈ l, x.length ≤ 65536) : Gd (quo l) ∧ Qd (quo l) := by
  refine ⟨⟨by rw [quo, List.length_map]; exact h, fun x hx => ?_⟩, fun x hx c hc => ?_⟩
  · obtain ⟨s, hs, rfl⟩ := List.mem_map.1 hx
    exact ⟨(rep_len _).symm, hl s hs⟩
  · obtain ⟨s, hs, rfl⟩ := List.mem_map.1 hx
    exact rep_all _ c hc

/-! ### lists of words -/

def G44 (K : List GEnv → Int → Word → Option (List GValue × Int)) (l : List GEnv) (g : Int) : Word → Int → (List GValue → Option (List GValue × Int)) → List GValue → Option (List GValue × Int) := fun u _ k acc =>
  (K l g u).bind fun (r15, r16) => bif !decide (r16 = 0) then some ([], r16) else (appO 32 acc r15).bind fun out => bif decide (256 < (out.length : Int)) then some ([], 22) else k out

theorem loop44 (K : List GEnv → Int → Word → Option (List GValue × Int)) (l : List GEnv) (g : Int) : ∀ (ws : List Word) (i : Int) (acc : List GValue), (∀ x ∈ ws, ∃ v e, K l g x = some (v, e) ∧ Gd v) → acc.length ≤ 256 → (∀ x ∈ acc, Gd1 x) →
    ∃ v e, loopS (G44 K l g) (fun acc => some (acc, 0)) ws i acc = some (v, e) ∧ v.length ≤ 256 ∧ (∀ x ∈ v, Gd1 x) ∧ (e ≠ 0 → v = [])
  | [], i, acc, h, h1, h2 => ⟨acc, 0, rfl, h1, h2, fun h => absurd rfl h⟩
  | w :: ws, i, acc, h, h1, h2 => by
    obtain ⟨v, e, e1, e2⟩ := h w List.mem_cons_self
    rw [loopS]
    unfold G44
    dsimp only
    rw [e1, Option.bind_some]
    dsimp only
    by_cases he : e = 0
    · have := e2.1
      rw [decide_eq_true he, Bool.not_true, cond_f, appO_eq (by omega), Option.bind_some]
      by_cases hl : 256 < (acc ++ v).length
      · rw [decide_eq_true (by omega), cond_t]
        exact ⟨[], 22, rfl, Nat.zero_le _, fun x hx => (by cases hx), fun _ => rfl⟩
      · rw [decide_eq_false (by omega), cond_f]
        exact loop44 K l g ws (i + 1) (acc ++ v) (fun x hx => h x (List.mem_cons_of_mem _ hx)) (by omega) fun x hx => by
          rcases List.mem_append.1 hx with hx | hx
          · exact h2 x hx
          · exact e2.2 x hx
    · rw [decide_eq_false he, Bool.not_false, cond_t]
      exact ⟨[], e, rfl, Nat.zero_le _, fun x hx => (by cases hx), fun _ => rfl⟩

theorem F44_any (K : List GEnv → Int → Word → Option (List GValue × Int)) (l : List GEnv) (g : Int) (ws : List Word) (hw : ws.length ≤ 1000) (h : ∀ x ∈ ws, ∃ v e, K l g x = some (v, e) ∧ Gd v) : ∃ v e, F44 K l g ws = some (v, e) ∧ Gd v ∧ v.length ≤ 256 ∧ (e ≠ 0 → v = []) := by
  obtain ⟨v, e, h1, h2, h3, h4⟩ := loop44 K l g ws 0 [] h (by rw [List.length_nil]; omega) (fun x hx => by cases hx)
  refine ⟨v, e, ?_, ⟨by omega, h3⟩, h2, h4⟩
  unfold F44
  rw [iter_rangeS (body := F44_b1 ws K l g) ws (G44 K l g) (fun acc => some (acc, 0)) (fun _ _ _ => rfl) (by omega)]
  exact h1

/-! ### joining -/

theorem F40_any (x y : GValue) (hx : Gd1 x) (hy : Gd1 y) : ∃ v e, F40 x y = some (v, e) ∧ (e = 0 → Gd1 v) := by
  obtain ⟨x1, x2⟩ := hx
  obtain ⟨y1, y2⟩ := hy
  unfold F40
  rw [wrap64 (by omega) (by omega)]
  by_cases hc : 65536 < x.text_.length + y.text_.length
  · rw [decide_eq_true (by omega), cond_t]
    exact ⟨_, 4, rfl, fun h => by cases h⟩
  · rw [decide_eq_false (by omega), cond_f, catO_eq (by omega), Option.bind_some, catO_eq (by omega), Option.bind_some]
    refine ⟨_, 0, rfl, fun _ => ?_⟩
    unfold Gd1
    dsimp only
    rw [List.length_append, List.length_append]
    omega

theorem lidx_minG (l : List GValue) (i : Nat) (h : 0 < l.length) (hm : l.length ≤ 100000) : ∃ x, x ∈ l ∧ lidx l (imin (i : Int) (IntKind.wrap .i64 ((l.length : Int) - 1))) = some x := by
  rw [wrap64 (by omega) (by omega), show imin (i : Int) ((l.length : Int) - 1) = ((min i (l.length - 1) : Nat) : Int) by unfold imin; split <;> omega, lidx_at (by omega)]
  exact ⟨_, List.getElem_mem _, rfl⟩

theorem F21_any (a b : List GValue) (ha : Gd a) (hb : Gd b) : ∃ v e, F21 a b = some (v, e) ∧ Gd v ∧ (e ≠ 0 → v = []) := by
  have a1 := ha.1
  have b1 := hb.1
  have hmn : imin (a.length : Int) (b.length : Int) = ((min a.length b.length : Nat) : Int) := by unfold imin; split <;> omega
  have hmx : imax (a.length : Int) (b.length : Int) = ((max a.length b.length : Nat) : Int) := by unfold imax; split <;> omega
  unfold F21
  rw [hmn]
  by_cases hc : a.length ≠ b.length ∧ min a.length b.length ≠ 1
  · rw [decide_eq_false (p := ((a.length : Int) = (b.length : Int))) (by omega), decide_eq_false (p := (((min a.length b.length : Nat) : Int) = 1)) (by omega)]
    exact ⟨[], 1, rfl, Gd_nil, fun _ => rfl⟩
  · have : (!decide ((a.length : Int) = (b.length : Int)) && !decide (((min a.length b.length : Nat) : Int) = 1)) = false := by
      simp only [Bool.and_eq_false_iff, Bool.not_eq_false', decide_eq_true_eq]
      omega
    rw [this, cond_f]
    have h : ∀ (n j : Nat) (acc : List GValue), j ≤ max a.length b.length → max a.length b.length - j < n → acc.length ≤ j → (∀ x ∈ acc, Gd1 x) →
        ∃ v e, iter (F21_b1 a b) n ((j : Int), acc) = some (v, e) ∧ Gd v ∧ (e ≠ 0 → v = []) := by
      intro n
      induction n with
      | zero => intro j acc _ h; omega
      | succ n ih =>
        intro j acc hj hn hl hg
        show ∃ v e, F21_b1 a b (iter (F21_b1 a b) n) ((j : Int), acc) = some (v, e) ∧ _
        rw [F21_b1]
        dsimp only
        rw [hmx]
        by_cases hlt : j < max a.length b.length
        · obtain ⟨x, hx, ex⟩ := lidx_minG a j (by omega) (by omega)
          obtain ⟨y, hy, ey⟩ := lidx_minG b j (by omega) (by omega)
          obtain ⟨v, e, e1, e2⟩ := F40_any x y (ha.2 x hx) (hb.2 y hy)
          rw [decide_eq_true (by omega), cond_t, ex, Option.bind_some, ey, Option.bind_some, e1, Option.bind_some]
          dsimp only
          by_cases he : e = 0
          · rw [decide_eq_true he, Bool.not_true, cond_f, appO_eq (by rw [List.length_singleton]; omega), Option.bind_some, wrap64 (by omega) (by omega)]
            exact ih (j + 1) (acc ++ [v]) (by omega) (by omega) (by rw [List.length_append, List.length_singleton]; omega) fun z hz => by
              rcases List.mem_append.1 hz with hz | hz
              · exact hg z hz
              · rw [List.mem_singleton.1 hz]; exact e2 he
          · rw [decide_eq_false he, Bool.not_false, cond_t]
            exact ⟨[], e, rfl, Gd_nil, fun _ => rfl⟩
        · rw [decide_eq_false (by omega), cond_f]
          exact ⟨acc, 0, rfl, ⟨by omega, hg⟩, fun h => absurd rfl h⟩
    exact h BIG 0 [] (Nat.zero_le _) (by unfold BIG; omega) (Nat.le_refl _) (fun x hx => by cases hx)

def G45 (K : List GEnv → Int → Word → Option (List GValue × Int)) (l : List GEnv) (g : Int) : Word → Int → (List GValue → Option (List GValue × Int)) → List GValue → Option (List GValue × Int) := fun u i k out =>
  (K l g u).bind fun (r15, r16) => bif (decide (r16 = 0) && decide (0 < i)) then (F21 out r15).bind fun (r23, r24) => (bif !decide (r24 = 0) then some ([], r24) else k r23) else (bif !decide (r16 = 0) then some ([], r16) else k r15)

theorem loop45 (K : List GEnv → Int → Word → Option (List GValue × Int)) (l : List GEnv) (g : Int) : ∀ (ws : List Word) (i : Int) (acc : List GValue), (∀ x ∈ ws, ∃ v e, K l g x = some (v, e) ∧ Gd v) → Gd acc →
    ∃ v e, loopS (G45 K l g) (fun acc => some (acc, 0)) ws i acc = some (v, e) ∧ Gd v ∧ (e ≠ 0 → v = [])
  | [], i, acc, h, h1 => ⟨acc, 0, rfl, h1, fun h => absurd rfl h⟩
  | w :: ws, i, acc, h, h1 => by
    obtain ⟨v, e, e1, e2⟩ := h w List.mem_cons_self
    have ih := fun acc' (h' : Gd acc') => loop45 K l g ws (i + 1) acc' (fun x hx => h x (List.mem_cons_of_mem _ hx)) h'
    have step : ∀ (v' : List GValue) (e' : Int), Gd v' → ∃ v e, (bif !decide (e' = 0) then some ([], e') else loopS (G45 K l g) (fun acc => some (acc, 0)) ws (i + 1) v') = some (v, e) ∧ Gd v ∧ (e ≠ 0 → v = []) := by
      intro v' e' hv
      by_cases he : e' = 0
      · rw [decide_eq_true he, Bool.not_true, cond_f]
        exact ih v' hv
      · rw [decide_eq_false he, Bool.not_false, cond_t]
        exact ⟨[], e', rfl, Gd_nil, fun _ => rfl⟩
    rw [loopS]
    unfold G45
    dsimp only
    rw [e1, Option.bind_some]
    dsimp only
    cases (decide (e = 0) && decide (0 < i)) with
    | true =>
      obtain ⟨q, f, f1, f2, _⟩ := F21_any acc v h1 e2
      rw [cond_t, f1, Option.bind_some]
      exact step q f f2
    | false =>
      rw [cond_f]
      exact step v e e2

theorem F45_any (K : List GEnv → Int → Word → Option (List GValue × Int)) (l : List GEnv) (g : Int) (ws : List Word) (hw : ws.length ≤ 1000) (h : ∀ x ∈ ws, ∃ v e, K l g x = some (v, e) ∧ Gd v) : ∃ v e, F45 K l g ws = some (v, e) ∧ Gd v ∧ (e ≠ 0 → v = []) := by
  obtain ⟨v, e, h1, h2⟩ := loop45 K l g ws 0 [] h Gd_nil
  refine ⟨v, e, ?_, h2⟩
  unfold F45
  rw [iter_rangeT (body := F45_b2 ws K l g) ws (G45 K l g) (fun acc => some (acc, 0)) (fun _ _ _ => rfl) (by omega)]
  exact h1

/-! ### Index -/

theorem loop11 (vs : List Str) : ∀ (l : List Str) (i : Int) (acc : List Str), acc.length + l.length ≤ 100000 → (∀ x ∈ l, x.length ≤ 1000000000) → (∀ x ∈ acc, x ∈ vs) →
    ∃ v e, loopS (GI F24 vs) (fun acc => some (acc, 0)) l i acc = some (v, e) ∧ v.length ≤ acc.length + l.length ∧ (∀ x ∈ v, x ∈ vs) ∧ (e ≠ 0 → v = [])
  | [], i, acc, h, hl, ha => ⟨acc, 0, rfl, Nat.le_refl _, ha, fun h => absurd rfl h⟩
  | x :: r, i, acc, h, hl, ha => by
    rw [List.length_cons] at h
    rw [loopS]
    unfold GI
    dsimp only
    rcases num_is x (hl x List.mem_cons_self) with ⟨n, m, e1, _⟩ | ⟨n, e1, _, h1, h2⟩
    · rw [e1]
      exact ⟨[], 5, rfl, Nat.zero_le _, fun x hx => (by cases hx), fun _ => rfl⟩
    · rw [e1, Option.bind_some]
      dsimp only
      rw [Bool.not_true, cond_f]
      by_cases hn : n ≤ (vs.length : Int)
      · rw [decide_eq_true hn, cond_t, wrap64 (by omega) (by omega), show n - 1 = (((n - 1).toNat : Nat) : Int) by omega, lidx_at (by omega), Option.bind_some, appO_eq (by simp; omega), Option.bind_some]
        obtain ⟨v, e, a, b, c⟩ := loop11 vs r (i + 1) (acc ++ [vs[(n - 1).toNat]'(by omega)]) (by rw [List.length_append, List.length_singleton]; omega) (fun y hy => hl y (List.mem_cons_of_mem _ hy)) (fun y hy => by
          rcases List.mem_append.1 hy with hy | hy
          · exact ha y hy
          · rw [List.mem_singleton.1 hy]; exact List.getElem_mem _)
        refine ⟨v, e, a, ?_, c⟩
        rw [List.length_append, List.length_singleton] at b
        rw [List.length_cons]
        omega
      · rw [decide_eq_false hn, cond_f]
        obtain ⟨v, e, a, b, c⟩ := loop11 vs r (i + 1) acc (by omega) (fun y hy => hl y (List.mem_cons_of_mem _ hy)) ha
        exact ⟨v, e, a, by rw [List.length_cons]; omega, c⟩

theorem F11_any (vs idx : List Str) (h : idx.length ≤ 400) (hl : ∀ x ∈ idx, x.length ≤ 1000000000) : ∃ v e, F11 vs idx = some (v, e) ∧ v.length ≤ 400 ∧ (∀ x ∈ v, x ∈ vs) ∧ (e ≠ 0 → v = []) := by
  obtain ⟨v, e, a, b, c⟩ := loop11 vs idx 0 [] (by rw [List.length_nil]; omega) hl (fun x hx => by cases hx)
  refine ⟨v, e, ?_, by rw [List.length_nil] at b; omega, c⟩
  unfold F11
  rw [iter_rangeS (body := F11_b1 idx vs) idx (GI F24 vs) (fun acc => some (acc, 0)) (fun _ _ _ => rfl) (by omega)]
  exact a

/-! ### words -/

theorem dig_len (n : Nat) (h : n ≤ 1000) : (Lib.itoa ((n : Nat) : Int)).length ≤ 4 := by
  have t : ((List.range 1001).all fun n => decide ((Lib.itoa ((n : Nat) : Int)).length ≤ 4)) = true := by kernel_rfl
  exact of_decide_eq_true (List.all_eq_true.1 t n (List.mem_range.2 (by omega)))

theorem K29_any (l : List GEnv) (hl : Few l) (g : Int) : ∀ (d m : Nat) (w : Word), d ≤ m → Fit d w →
    ∃ v e, K29 m l g w = some (v, e) ∧ Gd v ∧ (e ≠ 0 → v = []) ∧ ((w.kind_ = 2 ∨ w.kind_ = 3 ∨ w.kind_ = 7) → Qd v)
  | d + 1, m + 1, w, hm, hf => by
    obtain ⟨t1, t2, t3⟩ := hf
    have ih : ∀ x ∈ w.words_, ∃ v e, K29 m l g x = some (v, e) ∧ Gd v := fun x hx => by
      obtain ⟨v, e, h1, h2, _⟩ := K29_any l hl g d m x (by omega) (t3 x hx)
      exact ⟨v, e, h1, h2⟩
    have big : ∀ {vs : List Str}, Vs vs → ∀ x ∈ vs, x.length ≤ 65536 := fun h x hx => Nat.le_trans (h.2 x hx) (by decide)
    show ∃ v e, F29 (K29 m) l g w = some (v, e) ∧ _
    rw [F29]
    by_cases k1 : w.kind_ = 1
    · rw [decide_eq_true k1, cond_t]
      by_cases hq : w.text_.length = w.quoted_.length
      · rw [decide_eq_true (by omega), Bool.not_true, cond_f]
        exact ⟨_, 0, rfl, ⟨by simp, fun x hx => by rw [List.mem_singleton.1 hx]; exact ⟨hq, by dsimp only; omega⟩⟩, fun h => absurd rfl h, fun h => by omega⟩
      · rw [decide_eq_false (by omega), Bool.not_false, cond_t]
        exact ⟨[], 1, rfl, Gd_nil, fun _ => rfl, fun _ => Qd_nil⟩
    rw [decide_eq_false k1, cond_f]
    obtain ⟨vs, e1, e2⟩ := F36_any l hl g w.text_ (by omega)
    by_cases k2 : w.kind_ = 2
    · obtain ⟨q1, q2⟩ := quo_good vs e2.1 (big e2)
      rw [decide_eq_true k2, cond_t, e1, Option.bind_some, F43_is vs e2.1 (big e2), Option.bind_some]
      exact ⟨_, 0, rfl, q1, fun h => absurd rfl h, fun _ => q2⟩
    rw [decide_eq_false k2, cond_f]
    by_cases k3 : w.kind_ = 3
    · have h1 := e2.1
      have hd := dig_len vs.length (by omega)
      have hone : ∀ x ∈ [Lib.itoa ((vs.length : Nat) : Int)], x.length ≤ 65536 := fun x hx => by
        rw [List.mem_singleton.1 hx]; omega
      obtain ⟨q1, q2⟩ := quo_good [Lib.itoa ((vs.length : Nat) : Int)] (by simp) hone
      rw [decide_eq_true k3, cond_t, e1, Option.bind_some, L_Itoa, if_pos (by omega), Option.bind_some, F43_is _ (by simp) hone, Option.bind_some]
      exact ⟨_, 0, rfl, q1, fun h => absurd rfl h, fun _ => q2⟩
    rw [decide_eq_false k3, cond_f]
    by_cases k7 : w.kind_ = 7
    · obtain ⟨r, e, f1, f2, f3, f4⟩ := F44_any (K29 m) l g w.words_ (by omega) ih
      rw [decide_eq_true k7, cond_t, f1, Option.bind_some]
      dsimp only
      by_cases he : e = 0
      · have hr : ∀ x ∈ r.map GValue.text_, x.length ≤ 1000000000 := fun x hx => by
          obtain ⟨y, hy, rfl⟩ := List.mem_map.1 hx
          have := (f2.2 y hy).2
          omega
        obtain ⟨v, e', g1, g2, g3, g4⟩ := F11_any vs (r.map GValue.text_) (by rw [List.length_map]; omega) hr
        have hv : ∀ x ∈ v, x.length ≤ 65536 := fun x hx => big e2 x (g3 x hx)
        obtain ⟨q1, q2⟩ := quo_good v g2 hv
        rw [decide_eq_true he, Bool.not_true, cond_f, e1, Option.bind_some, F23_is r (by omega), Option.bind_some, g1, Option.bind_some]
        dsimp only
        rw [F43_is v g2 hv, Option.bind_some]
        exact ⟨_, e', rfl, q1, fun h => by rw [g4 h]; rfl, fun _ => q2⟩
      · rw [decide_eq_false he, Bool.not_false, cond_t]
        exact ⟨[], e, rfl, Gd_nil, fun _ => rfl, fun _ => Qd_nil⟩
    rw [decide_eq_false k7, cond_f]
    by_cases k4 : w.kind_ = 4
    · obtain ⟨v, e, f1, f2, f3⟩ := F45_any (K29 m) l g w.words_ (by omega) ih
      rw [decide_eq_true k4, cond_t, f1, Option.bind_some]
      exact ⟨v, e, rfl, f2, f3, fun h => by omega⟩
    rw [decide_eq_false k4, cond_f]
    by_cases k5 : w.kind_ = 5
    · obtain ⟨v, e, f1, f2, _, f3⟩ := F44_any (K29 m) l g w.words_ (by omega) ih
      rw [decide_eq_true k5, cond_t, f1, Option.bind_some]
      exact ⟨v, e, rfl, f2, f3, fun h => by omega⟩
    rw [decide_eq_false k5, cond_f]
    exact ⟨[], 1, rfl, Gd_nil, fun _ => rfl, fun _ => Qd_nil⟩

/-! ### few -/

def WE (l : List GEnv) : Prop := l.length ≤ maxLen ∧ ∀ e ∈ l, e.vars_.length ≤ maxLen ∧ ∀ v ∈ e.vars_, v.values_.length ≤ maxLen

def G14 : Var → Int → Option Bool → Option Bool := fun v _ k => (F7 v.values_ 2000).bind fun r => bif (!r || decide (100 < (v.name_.length : Int))) then some false else k

def g14 (u : GEnv) (n : Option Bool) : (Int → Option Bool) → Int → Option Bool := fun again14 i13 =>
  (bif decide (i13 < (u.vars_.length : Int)) then
    (lidx u.vars_ i13).bind fun u18 =>
    (F7 u18.values_ 2000).bind fun r21 =>
    (bif (!r21 || decide (100 < (u18.name_.length : Int))) then
      some false
    else
      again14 (IntKind.wrap .i64 (i13 + 1)))
  else
    n)

theorem loop14 (n : Option Bool) : ∀ (vs : List Var) (i : Int), (∀ v ∈ vs, v.values_.length ≤ maxLen) → loopR G14 n vs i = some false ∨ (loopR G14 n vs i = n ∧ ∀ v ∈ vs, Sh v.values_ 2000 ∧ v.name_.length ≤ 100)
  | [], i, h => .inr ⟨rfl, fun v hv => by cases hv⟩
  | v :: vs, i, h => by
    rw [loopR, G14]
    by_cases hs : Sh v.values_ 2000
    · have h7 := F7_sh hs
      simp only [Int.cast_ofNat_Int] at h7
      rw [h7, Option.bind_some, Bool.not_true, Bool.false_or]
      by_cases hn : 100 < v.name_.length
      · rw [decide_eq_true (by omega), cond_t]
        exact .inl rfl
      · rw [decide_eq_false (by omega), cond_f]
        rcases loop14 n vs (i + 1) fun x hx => h x (List.mem_cons_of_mem _ hx) with e | ⟨e, k⟩
        · exact .inl e
        · refine .inr ⟨e, fun x hx => ?_⟩
          rcases List.mem_cons.1 hx with rfl | hx
          · exact ⟨hs, by omega⟩
          · exact k x hx
    · have h7 := F7_not (h v List.mem_cons_self) hs
      simp only [Int.cast_ofNat_Int] at h7
      rw [h7]
      exact .inl rfl

theorem F14_any (l : List GEnv) (w : WE l) : F14 l = some false ∨ (F14 l = some true ∧ Few l) := by
  unfold F14
  by_cases hl : 10 < l.length
  · rw [decide_eq_true (by omega), cond_t]
    exact .inl rfl
  · rw [decide_eq_false (by omega), cond_f, iter_range (body := F14_b2 l) l (fun u i n => bif decide (20 < (u.vars_.length : Int)) then some false else iter (g14 u n) BIG 0) (some true) (fun _ _ => rfl) (by omega)]
    have : ∀ (r : List GEnv) (i : Int), (∀ e ∈ r, e ∈ l) → loopR (fun (u : GEnv) (i : Int) n => bif decide (20 < (u.vars_.length : Int)) then some false else iter (g14 u n) BIG 0) (some true) r i = some false ∨
        (loopR (fun (u : GEnv) (i : Int) n => bif decide (20 < (u.vars_.length : Int)) then some false else iter (g14 u n) BIG 0) (some true) r i = some true ∧ ∀ e ∈ r, e.vars_.length ≤ 20 ∧ ∀ v ∈ e.vars_, Sh v.values_ 2000 ∧ v.name_.length ≤ 100) := by
      intro r
      induction r with
      | nil => intro i _; exact .inr ⟨rfl, fun v hv => by cases hv⟩
      | cons u r ih =>
        intro i hm
        rw [loopR]
        by_cases hu : 20 < u.vars_.length
        · rw [decide_eq_true (by omega), cond_t]
          exact .inl rfl
        · have hin : ∀ n, iter (g14 u n) BIG 0 = loopR G14 n u.vars_ 0 := fun n => iter_range (body := g14 u n) u.vars_ G14 n (fun _ _ => rfl) (by omega)
          rw [decide_eq_false (by omega), cond_f, hin]
          rcases loop14 (loopR (fun (u : GEnv) (i : Int) n => bif decide (20 < (u.vars_.length : Int)) then some false else iter (g14 u n) BIG 0) (some true) r (i + 1)) u.vars_ 0 (w.2 u (hm u List.mem_cons_self)).2 with e | ⟨e, k⟩
          · exact .inl e
          · rw [e]
            rcases ih (i + 1) fun x hx => hm x (List.mem_cons_of_mem _ hx) with f | ⟨f, q⟩
            · exact .inl f
            · refine .inr ⟨f, fun x hx => ?_⟩
              rcases List.mem_cons.1 hx with rfl | hx
              · exact ⟨by omega, k⟩
              · exact q x hx
    rcases this l 0 fun _ h => h with e | ⟨e, k⟩
    · exact .inl e
    · exact .inr ⟨e, by omega, k⟩

/-! ### Right ends -/

theorem guardO_any {α : Type} [Inhabited α] {g : Bool} {x : Option α} (h : g = true → ∃ r, x = some r) : ∃ r, guardO g x = some r := by
  cases g with
  | true => exact h rfl
  | false => exact ⟨default, rfl⟩

theorem loopR_any {α R : Type} (G : α → Int → Option R → Option R) (fin : Option R) (hf : ∃ r, fin = some r) (hG : ∀ x i n, (∃ r, n = some r) → ∃ r, G x i n = some r) : ∀ (l : List α) (i : Int), ∃ r, loopR G fin l i = some r
  | [], i => hf
  | x :: l, i => hG _ _ _ (loopR_any G fin hf hG l (i + 1))

theorem F26_any (vs : List Str) (h : Sh vs 2000) : ∃ s e, F26 vs = some (s, e) := by
  have h1 := h.1
  unfold F26
  by_cases h0 : vs.length = 0
  · rw [decide_eq_true (by omega), cond_t]
    exact ⟨_, _, rfl⟩
  rw [decide_eq_false (by omega), cond_f]
  by_cases h2 : 256 < vs.length
  · rw [decide_eq_true (by omega), cond_t]
    exact ⟨_, _, rfl⟩
  rw [decide_eq_false (by omega), cond_f]
  have inner : ∀ (j : Nat) (hj : j < vs.length) (s : Str) (again : Str × Int → Option (Str × Int)), s.length ≤ 1000000 → (∀ s' : Str, s'.length ≤ s.length + 2001 → ∃ r, again (s', ((j + 1 : Nat) : Int)) = some r) →
      ∀ (m k : Nat), k ≤ (vs[j]).length → (vs[j]).length - k < m → ∃ r, iter (F26_b3 vs (j : Int) s again) m (k : Int) = some r := by
    intro j hj s again hs H m
    induction m with
    | zero => intro k _ h; omega
    | succ m ih =>
      intro k hk hm
      have hw := h.mem (by decide) (List.getElem_mem hj)
      show ∃ r, F26_b3 vs (j : Int) s again (iter (F26_b3 vs (j : Int) s again) m) (k : Int) = some r
      rw [F26_b3, lidx_at hj, Option.bind_some]
      by_cases hlt : k < (vs[j]).length
      · rw [decide_eq_true (by omega), cond_t, sidx_at hlt, Option.bind_some]
        cases decide (((vs[j])[k].toNat : Int) = 0) with
        | true => exact ⟨_, rfl⟩
        | false =>
          rw [cond_f, wrap64 (by omega) (by omega)]
          exact ih (k + 1) (by omega) (by omega)
      · rw [decide_eq_false (by omega), cond_f]
        by_cases h0 : 0 < j
        · rw [decide_eq_true (by omega), cond_t, catO_eq (by rw [List.length_singleton]; omega), Option.bind_some, catO_eq (by rw [List.length_append, List.length_singleton]; omega), Option.bind_some, wrap64 (by omega) (by omega)]
          exact H _ (by rw [List.length_append, List.length_append, List.length_singleton]; omega)
        · rw [decide_eq_false (by omega), cond_f, catO_eq (by omega), Option.bind_some, wrap64 (by omega) (by omega)]
          exact H _ (by rw [List.length_append]; omega)
  have outer : ∀ (n j : Nat) (s : Str), j ≤ vs.length → vs.length - j < n → s.length ≤ j * 2001 → ∃ r, iter (F26_b2 vs) n (s, (j : Int)) = some r := by
    intro n
    induction n with
    | zero => intro j s _ h; omega
    | succ n ih =>
      intro j s hj hn hs
      show ∃ r, F26_b2 vs (iter (F26_b2 vs) n) (s, (j : Int)) = some r
      rw [F26_b2]
      by_cases hlt : j < vs.length
      · rw [decide_eq_true (by omega), cond_t]
        exact inner j hlt s (iter (F26_b2 vs) n) (by omega) (fun s' hs' => ih (j + 1) s' (by omega) (by omega) (by omega)) BIG 0 (Nat.zero_le _) (by
          have hw := h.mem (by decide) (List.getElem_mem hlt)
          unfold BIG; omega)
      · rw [decide_eq_false (by omega), cond_f]
        cases decide (65536 < (s.length : Int)) with
        | true => exact ⟨_, rfl⟩
        | false => exact ⟨_, rfl⟩
  obtain ⟨⟨s, e⟩, he⟩ := outer BIG 0 [] (Nat.zero_le _) (by unfold BIG; omega) (Nat.zero_le _)
  exact ⟨s, e, he⟩

theorem F27_any (s : Str) (h : s.length ≤ 100) : ∃ r, F27 s = some r := by
  unfold F27
  rw [iter_rangeB (body := F27_b1 s) s (fun c8 _ n => bif ((decide (c8 < 33) || decide (126 < c8)) || decide (c8 = 47)) then some false else n) _ (fun _ _ => rfl) (by omega)]
  refine loopR_any _ _ ⟨_, rfl⟩ (fun x i n hn => ?_) _ _
  cases ((decide (x < 33) || decide (126 < x)) || decide (x = 47)) with
  | true => exact ⟨_, rfl⟩
  | false => exact hn

theorem F28_any (u : GEnv) (h : u.vars_.length ≤ 20) (s : Str) : ∃ r, F28 u s = some r := by
  unfold F28
  rw [iter_range (body := F28_b1 u s) u.vars_ (fun v i n => bif decide (v.name_ = s) then some i else n) (some (-1)) (fun _ _ => rfl) (by omega)]
  refine loopR_any _ _ ⟨_, rfl⟩ (fun x i n hn => ?_) _ _
  cases decide (x.name_ = s) with
  | true => exact ⟨_, rfl⟩
  | false => exact hn

theorem F16_any (l : List GEnv) (hl : Few l) : ∃ r, F16 l = some r := by
  have h10 := hl.1
  unfold F16
  rw [decide_eq_false (by omega), cond_f]
  have inner : ∀ (u : GEnv) (hu : u ∈ l) (again : Int → Option Bool) (i : Int), (∃ r, again (IntKind.wrap .i64 (i + 1)) = some r) → ∀ (m k : Nat), k ≤ u.vars_.length → u.vars_.length - k < m → ∃ r, iter (F16_b3 u again i) m (k : Int) = some r := by
    intro u hu again i hi m
    obtain ⟨h20, hv⟩ := hl.2 u hu
    induction m with
    | zero => intro k _ h; omega
    | succ m ih =>
      intro k hk hm
      show ∃ r, F16_b3 u again i (iter (F16_b3 u again i) m) (k : Int) = some r
      rw [F16_b3]
      by_cases hlt : k < u.vars_.length
      · obtain ⟨hs, hn⟩ := hv _ (List.getElem_mem hlt)
        obtain ⟨s, e, h26⟩ := F26_any _ hs
        rw [decide_eq_true (by omega), cond_t, lidx_at hlt, Option.bind_some, h26, Option.bind_some]
        dsimp only
        obtain ⟨r28, e28⟩ := guardO_any (g := decide (e = 0)) fun _ => F27_any _ hn
        rw [e28, Option.bind_some]
        obtain ⟨r31, e31⟩ := guardO_any (g := !(!decide (e = 0) || !r28)) fun _ => F28_any u h20 (u.vars_[k]).name_
        rw [e31, Option.bind_some]
        obtain ⟨v34, e34⟩ := guardO_any (g := (!((((!decide (e = 0) || !r28) || !decide (r31 = (k : Int))) || decide ((u.vars_[k]).id_ < 2)) || decide (u.next_ ≤ (u.vars_[k]).id_)) && decide (0 < (k : Int)))) (x := lidx u.vars_ (IntKind.wrap .i64 ((k : Int) - 1))) (fun h => by
          rw [Bool.and_eq_true, decide_eq_true_eq] at h
          rw [wrap64 (by omega) (by omega), show (k : Int) - 1 = ((k - 1 : Nat) : Int) by omega, lidx_at (by omega)]
          exact ⟨_, rfl⟩)
        rw [e34, Option.bind_some, wrap64 (by omega) (by omega)]
        cases (((((!decide (e = 0) || !r28) || !decide (r31 = (k : Int))) || decide ((u.vars_[k]).id_ < 2)) || decide (u.next_ ≤ (u.vars_[k]).id_)) || (decide (0 < (k : Int)) && decide ((u.vars_[k]).id_ ≤ v34.id_))) with
        | true => exact ⟨_, rfl⟩
        | false => exact ih (k + 1) (by omega) (by omega)
      · rw [decide_eq_false (by omega), cond_f]
        exact hi
  have outer : ∀ (n j : Nat), j ≤ l.length → l.length - j < n → ∃ r, iter (F16_b2 l) n (j : Int) = some r := by
    intro n
    induction n with
    | zero => intro j _ h; omega
    | succ n ih =>
      intro j hj hn
      show ∃ r, F16_b2 l (iter (F16_b2 l) n) (j : Int) = some r
      rw [F16_b2]
      by_cases hlt : j < l.length
      · rw [decide_eq_true (by omega), cond_t, lidx_at hlt, Option.bind_some]
        obtain ⟨u12, e12⟩ := guardO_any (g := !(decide ((l[j]).id_ < 1) || decide (1099511627776 < (l[j]).id_)) && decide (0 < (j : Int))) (x := lidx l (IntKind.wrap .i64 ((j : Int) - 1))) (fun h => by
          rw [Bool.and_eq_true, decide_eq_true_eq] at h
          rw [wrap64 (by omega) (by omega), show (j : Int) - 1 = ((j - 1 : Nat) : Int) by omega, lidx_at (by omega)]
          exact ⟨_, rfl⟩)
        rw [e12, Option.bind_some]
        cases (((((decide ((l[j]).id_ < 1) || decide (1099511627776 < (l[j]).id_)) || (decide (0 < (j : Int)) && decide ((l[j]).id_ ≤ u12.id_))) || decide ((l[j]).next_ < 2)) || decide (1048576 < (l[j]).next_)) || decide (64 < ((l[j]).vars_.length : Int))) with
        | true => exact ⟨_, rfl⟩
        | false =>
          exact inner _ (List.getElem_mem hlt) _ _ (by rw [wrap64 (by omega) (by omega)]; exact ih (j + 1) (by omega) (by omega)) BIG 0 (Nat.zero_le _) (by have := (hl.2 _ (List.getElem_mem hlt)).1; unfold BIG; omega)
      · rw [decide_eq_false (by omega), cond_f]
        exact ⟨_, rfl⟩
  exact outer BIG 0 (Nat.zero_le _) (by unfold BIG; omega)

/-! ### the law -/

theorem F17_any (l : List GEnv) (hl : Few l) (g : Int) (w : Word) (hf : Fit 12 w) :
    ∃ v e, F17 l g w = some (v.map GValue.text_, v.map GValue.marks_, e) ∧ Gd v ∧ (e ≠ 0 → v = []) ∧ ((w.kind_ = 2 ∨ w.kind_ = 3 ∨ w.kind_ = 7) → Qd v) := by
  obtain ⟨v, e, h1, h2, h3, h4⟩ := K29_any l hl g 12 BIG w (by unfold BIG; omega) hf
  have := h2.1
  refine ⟨v, e, ?_, h2, h3, h4⟩
  unfold F17
  rw [h1, Option.bind_some]
  dsimp only
  by_cases he : e = 0
  · rw [decide_eq_true he, Bool.not_true, cond_f, iter_rangeS (body := F17_b1 v) v (fun u _ k acc => (appO 16 acc [u.marks_]).bind fun out => k out) (fun acc => (F23 v).bind fun r24 => some (r24, acc, 0)) (fun _ _ _ => rfl) (by omega),
      loop_app 16 GValue.marks_ _ v 0 [] (by rw [List.length_nil]; omega), F23_is v (by omega), he]
    rfl
  · rw [decide_eq_false he, Bool.not_false, cond_t, h3 he]
    rfl

theorem loop4 (v : List GValue) (w : Word) (hv : Gd v) (hq : (w.kind_ = 2 ∨ w.kind_ = 3 ∨ w.kind_ = 7) → Qd v) : iter (F4_b2 (v.map GValue.text_) (v.map GValue.marks_) w) BIG 0 = some true := by
  have h4 := hv.1
  have inner : ∀ (x : GValue) (hx : x ∈ v) (again : Int → Option Bool) (i : Int), again (IntKind.wrap .i64 (i + 1)) = some true → ∀ (m k : Nat), k ≤ x.marks_.length → x.marks_.length - k < m → iter (F4_b3 x.marks_ w again i) m (k : Int) = some true := by
    intro x hx again i hi m
    have hlen := hv.2 x hx
    obtain ⟨hl1, hl2⟩ := hlen
    induction m with
    | zero => intro k _ h; omega
    | succ m ih =>
      intro k hk hm
      show F4_b3 x.marks_ w again i (iter (F4_b3 x.marks_ w again i) m) (k : Int) = some true
      rw [F4_b3]
      by_cases hlt : k < x.marks_.length
      · have hb : (!decide ((x.marks_[k].toNat : Int) = 49) && ((decide (w.kind_ = 2) || decide (w.kind_ = 3)) || decide (w.kind_ = 7))) = false := by
          rw [Bool.and_eq_false_iff]
          by_cases hk3 : w.kind_ = 2 ∨ w.kind_ = 3 ∨ w.kind_ = 7
          · left
            have := hq hk3 x hx _ (List.getElem_mem hlt)
            rw [this]
            rfl
          · right
            rw [Bool.or_eq_false_iff, Bool.or_eq_false_iff, decide_eq_false_iff_not, decide_eq_false_iff_not, decide_eq_false_iff_not]
            omega
        rw [decide_eq_true (by omega), cond_t, sidx_at hlt, Option.bind_some, hb, cond_f, wrap64 (by omega) (by omega)]
        exact ih (k + 1) (by omega) (by omega)
      · rw [decide_eq_false (by omega), cond_f]
        exact hi
  have outer : ∀ (n j : Nat), j ≤ v.length → v.length - j < n → iter (F4_b2 (v.map GValue.text_) (v.map GValue.marks_) w) n (j : Int) = some true := by
    intro n
    induction n with
    | zero => intro j _ h; omega
    | succ n ih =>
      intro j hj hn
      show F4_b2 (v.map GValue.text_) (v.map GValue.marks_) w (iter (F4_b2 (v.map GValue.text_) (v.map GValue.marks_) w) n) (j : Int) = some true
      rw [F4_b2, List.length_map]
      by_cases hlt : j < v.length
      · have hx := hv.2 _ (List.getElem_mem hlt)
        rw [decide_eq_true (by omega), cond_t, lidx_at (by rw [List.length_map]; exact hlt), Option.bind_some, lidx_at (by rw [List.length_map]; exact hlt), Option.bind_some, List.getElem_map, List.getElem_map, decide_eq_true (by have := hx.1; omega), Bool.not_true, cond_f]
        exact inner _ (List.getElem_mem hlt) _ _ (by rw [wrap64 (by omega) (by omega)]; exact ih (j + 1) (by omega) (by omega)) BIG 0 (Nat.zero_le _) (by have := hx.1; have := hx.2; unfold BIG; omega)
      · rw [decide_eq_false (by omega), cond_f, alive]
        rfl
  exact outer BIG 0 (Nat.zero_le _) (by unfold BIG; omega)

theorem plain4 (l : List GEnv) (wl : WE l) (g : Int) (w : Word) (k : Nat) (hw : wfW k w) : F4 l g w = some true := by
  unfold F4
  obtain ⟨r, e1, e2, e3⟩ := K15_any 12 BIG k w 60 (by unfold BIG; omega) (by decide) hw (by decide) (by decide)
  rw [show ((12 : Nat) : Int) = 12 from rfl] at e1
  rcases F14_any l wl with h | ⟨h, hf⟩
  · rw [h, Option.bind_some]
    obtain ⟨q, hq⟩ := guardO_any (g := false) (x := K15 BIG w 60 12) fun h => by cases h
    rw [hq, Option.bind_some]
    obtain ⟨p, hp⟩ := guardO_any (g := !(!false || decide (q < 0))) (x := F16 l) fun h => by cases h
    rw [hp, Option.bind_some, alive]
    rfl
  · rw [h, Option.bind_some, guardO_true, e1, Option.bind_some]
    by_cases hr : r < 0
    · obtain ⟨p, hp⟩ := guardO_any (g := !(!true || decide (r < 0))) (x := F16 l) fun _ => F16_any l hf
      rw [hp, Option.bind_some, decide_eq_true hr, alive]
      rfl
    · obtain ⟨p, hp⟩ := guardO_any (g := !(!true || decide (r < 0))) (x := F16 l) fun _ => F16_any l hf
      rw [hp, Option.bind_some, decide_eq_false hr]
      cases p with
      | false => rw [alive]; rfl
      | true =>
        simp only [Bool.not_true, Bool.or_self, cond_f]
        obtain ⟨v, e, h1, h2, h3, h4⟩ := F17_any l hf g w (e3 (by omega))
        rw [h1, Option.bind_some]
        dsimp only
        by_cases he : e = 0
        · rw [decide_eq_true he, Bool.not_true, cond_f, List.length_map, List.length_map, decide_eq_true rfl, Bool.not_true, cond_f]
          exact loop4 v w h2 h4
        · rw [decide_eq_false he, Bool.not_false, cond_t, h3 he, alive]
          rfl

open Go.Proofs
set_option maxRecDepth 100000

theorem wfW_mono : ∀ {n : Nat} {x : Word}, wfW n x → wfW (n + 1) x
  | n + 1, x, h => by
    obtain ⟨a, b, c, d⟩ := h
    exact ⟨a, b, c, fun y hy => wfW_mono (d y hy)⟩

theorem tyr : ∀ n : Nat,
    (∀ p, Typed Tryd.prog n 34 p → ∃ x : Word, p = x.pv ∧ wfW n x) ∧ (∀ p, Typed Tryd.prog n 156 p → ∃ x : Cmd, p = x.pv) ∧ (∀ p, Typed Tryd.prog n 158 p → ∃ x : Redir, p = x.pv) ∧
    (∀ p, Typed Tryd.prog n 31 p → ∃ xs : List Word, p = .slice (xs.map Word.pv) ∧ xs.length ≤ maxLen ∧ ∀ x ∈ xs, wfW n x) ∧ (∀ p, Typed Tryd.prog n 32 p → ∃ xs : List Cmd, p = .slice (xs.map Cmd.pv)) ∧ (∀ p, Typed Tryd.prog n 154 p → ∃ xs : List Redir, p = .slice (xs.map Redir.pv))
  | 0 => ⟨fun p h => h.elim, fun p h => h.elim, fun p h => h.elim, fun p h => h.elim, fun p h => h.elim, fun p h => h.elim⟩
  | n + 1 => by
    obtain ⟨i34, i156, i158, i31, i32, i154⟩ := tyr n
    refine ⟨fun p h => ?_, fun p h => ?_, fun p h => ?_, fun p h => ?_, fun p h => ?_, fun p h => ?_⟩
    · rw [Typed] at h
      simp only [Tryd.underlying34] at h
      obtain ⟨qs, rfl, hl, hq⟩ := h
      match qs, hl with
      | [q0, q1, q2, q3, q4], _ =>
        obtain ⟨x0, rfl, _⟩ := ty_3 n (hq 0 _ q0 rfl rfl).mono
        obtain ⟨x1, rfl, w1⟩ := ty_9 n (hq 1 _ q1 rfl rfl).mono
        obtain ⟨x2, rfl, w2⟩ := ty_9 n (hq 2 _ q2 rfl rfl).mono
        obtain ⟨x3, rfl, w3, w3'⟩ := i31 _ (hq 3 _ q3 rfl rfl)
        obtain ⟨x4, rfl⟩ := i32 _ (hq 4 _ q4 rfl rfl)
        exact ⟨⟨x0, x1, x2, x3, x4⟩, by rw [Word.pv_eq]; rfl, w1, w2, w3, w3'⟩
    · rw [Typed] at h
      simp only [Tryd.underlying156] at h
      obtain ⟨qs, rfl, hl, hq⟩ := h
      match qs, hl with
      | [q0, q1, q2, q3, q4, q5], _ =>
        obtain ⟨x0, rfl, _⟩ := ty_3 n (hq 0 _ q0 rfl rfl).mono
        obtain ⟨x1, rfl, _⟩ := ty_3 n (hq 1 _ q1 rfl rfl).mono
        obtain ⟨x2, rfl, w2⟩ := ty_9 n (hq 2 _ q2 rfl rfl).mono
        obtain ⟨x3, rfl, w3, w3'⟩ := i31 _ (hq 3 _ q3 rfl rfl)
        obtain ⟨x4, rfl⟩ := i154 _ (hq 4 _ q4 rfl rfl)
        obtain ⟨x5, rfl⟩ := i32 _ (hq 5 _ q5 rfl rfl)
        exact ⟨⟨x0, x1, x2, x3, x4, x5⟩, by rw [Cmd.pv_eq]; rfl⟩
    · rw [Typed] at h
      simp only [Tryd.underlying158] at h
      obtain ⟨qs, rfl, hl, hq⟩ := h
      match qs, hl with
      | [q0, q1, q2, q3, q4], _ =>
        obtain ⟨x0, rfl, _⟩ := ty_3 n (hq 0 _ q0 rfl rfl).mono
        obtain ⟨x1, rfl, _⟩ := ty_3 n (hq 1 _ q1 rfl rfl).mono
        obtain ⟨x2, rfl, _⟩ := ty_3 n (hq 2 _ q2 rfl rfl).mono
        obtain ⟨x3, rfl, w3⟩ := i34 _ (hq 3 _ q3 rfl rfl)
        obtain ⟨x4, rfl, _⟩ := ty_4 n (hq 4 _ q4 rfl rfl).mono
        exact ⟨⟨x0, x1, x2, x3, x4⟩, by rw [Redir.pv_eq, Word.pv_eq]; rfl⟩
    · rw [Typed] at h
      simp only [Tryd.underlying31] at h
      obtain ⟨xs, rfl, hl, hx⟩ := h
      obtain ⟨ys, rfl, hw⟩ := ex_map (f := Word.pv) (W := fun x => wfW n x) fun x hm => i34 x (hx x hm).1
      exact ⟨ys, rfl, by rw [List.length_map] at hl; exact hl, fun y hy => wfW_mono (hw y hy)⟩
    · rw [Typed] at h
      simp only [Tryd.underlying32] at h
      obtain ⟨xs, rfl, hl, hx⟩ := h
      obtain ⟨ys, rfl, hw⟩ := ex_map (f := Cmd.pv) (W := fun _ => True) fun x hm => (by
        obtain ⟨y, hy⟩ := i156 x (hx x hm).1
        exact ⟨y, hy, trivial⟩)
      exact ⟨ys, rfl⟩
    · rw [Typed] at h
      simp only [Tryd.underlying154] at h
      obtain ⟨xs, rfl, hl, hx⟩ := h
      obtain ⟨ys, rfl, hw⟩ := ex_map (f := Redir.pv) (W := fun _ => True) fun x hm => (by
        obtain ⟨y, hy⟩ := i158 x (hx x hm).1
        exact ⟨y, hy, trivial⟩)
      exact ⟨ys, rfl⟩

theorem tyr_34 (n : Nat) {p : PV} (h : Typed Tryd.prog n 34 p) : ∃ x : Word, p = (.agg [.int .i64 x.kind_, .str x.text_, .str x.quoted_, .slice (List.map Word.pv x.words_), .slice (List.map Cmd.pv x.cmd_)]) ∧ ∃ k, wfW k x := by
  obtain ⟨x, h1, h2⟩ := (tyr n).1 p h
  exact ⟨x, by rw [h1, Word.pv_eq], n, h2⟩

theorem law4 (l : List GEnv) (wl : w_30 l) (g : Int) (wg : inK .i64 g) (w : Word) (hw : ∃ k, wfW k w) : F4 l g w = some true := by
  obtain ⟨k, hk⟩ := hw
  exact plain4 l ⟨wl.1, fun e he => ⟨(wl.2 e he).2.2.1, fun v hv => ((wl.2 e he).2.2.2 v hv).2.2.1⟩⟩ g w k hk

end Go.Abs.U50
