/- Layer 50: the plain law of ExpandPlain. -/
import Derived.Test.YthoacjgjmlgaoaaDoorA34
import Derived.Test.YthoacjgjmlgaoaaDoorD1
import Derived.Lib.IndexBytes
import Derived.Lib.IndexLaws
set_option linter.unusedVariables false
set_option linter.unusedSimpArgs false
namespace Go.Abs.U50
open Go

theorem iter_list {α S R : Type} {body : (Int × S → Option R) → Int × S → Option R} (l : List α) (G : α → Int → (S → Option R) → S → Option R) (fin : S → Option R)
    (hb : ∀ again (i : Nat) (h : i < l.length) s, body again ((i : Int), s) = G l[i] i (fun s' => again ((i : Int) + 1, s')) s)
    (hf : ∀ again s, body again ((l.length : Int), s) = fin s) (hl : l.length ≤ 9223372036854775807) (s : S) :
    iter body BIG (0, s) = loopS G fin l 0 s := by
  have h : ∀ (n j : Nat) (s : S), j ≤ l.length → l.length - j < n → iter body n ((j : Int), s) = loopS G fin (l.drop j) j s := by
    intro n
    induction n with
    | zero => intro j _ _ h; omega
    | succ n ih =>
      intro j s hj hn
      show body (iter body n) (j, s) = _
      by_cases hlt : j < l.length
      · rw [hb _ _ hlt, drop_at hlt]
        simp only [loopS]
        congr 1
        funext s'
        exact ih (j + 1) s' (by omega) (by omega)
      · obtain rfl : j = l.length := by omega
        rw [hf, List.drop_eq_nil_of_le (by omega)]
        rfl
  exact h BIG 0 s (Nat.zero_le _) (by unfold BIG; omega)

/-! ### short -/

def tot : List Str → Nat
  | [] => 0
  | x :: r => min x.length 1048576 + tot r

theorem tot_le : ∀ l : List Str, tot l ≤ l.length * 1048576
  | [] => Nat.zero_le _
  | x :: r => by
    have := tot_le r
    rw [tot, List.length_cons]
    omega

def G7 : Str → Int → (Int → Option Bool) → Int → Option Bool := fun w _ k n => k (IntKind.wrap .i64 (n + imin (w.length : Int) 1048576))

theorem loop7 (fin : Int → Option Bool) : ∀ (l : List Str) (i : Int) (n : Nat), n + tot l ≤ 4611686018427387904 → loopS G7 fin l i n = fin ((n + tot l : Nat) : Int)
  | [], i, n, h => by rw [loopS, tot]; rfl
  | x :: r, i, n, h => by
    rw [tot] at h
    have e : imin (x.length : Int) 1048576 = ((min x.length 1048576 : Nat) : Int) := by unfold imin; split <;> omega
    rw [loopS, G7, e, wrap64 (by omega) (by omega)]
    have := loop7 fin r (i + 1) (n + min x.length 1048576) (by omega)
    rw [tot, show n + (min x.length 1048576 + tot r) = n + min x.length 1048576 + tot r by omega, ← this]
    congr 1

theorem loop7' (fin : Int → Option Bool) : ∀ (l : List Str) (i n : Int), ∃ m, loopS G7 fin l i n = fin m
  | [], i, n => ⟨n, rfl⟩
  | x :: r, i, n => loop7' fin r (i + 1) _

theorem F7_is (l : List Str) (w : l.length ≤ maxLen) (most : Int) : F7 l most = some (decide ((tot l : Int) ≤ most) && decide (l.length ≤ 400)) := by
  unfold maxLen at w
  unfold F7
  rw [iter_rangeT (body := F7_b1 l most) l G7 (fun n => some (decide (n ≤ most) && decide ((l.length : Int) ≤ 400))) (fun _ _ _ => rfl) (by omega)]
  by_cases h : l.length ≤ 400
  · have := loop7 (fun n => some (decide (n ≤ most) && decide ((l.length : Int) ≤ 400))) l 0 0 (by have := tot_le l; omega)
    rw [show ((0 : Nat) : Int) = 0 from rfl] at this
    rw [this, Nat.zero_add, decide_eq_true (p := l.length ≤ 400) h, decide_eq_true (p := ((l.length : Int) ≤ 400)) (by omega)]
  · obtain ⟨m, hm⟩ := loop7' (fun n => some (decide (n ≤ most) && decide ((l.length : Int) ≤ 400))) l 0 0
    rw [hm, decide_eq_false (p := l.length ≤ 400) h, decide_eq_false (p := ((l.length : Int) ≤ 400)) (by omega), Bool.and_false, Bool.and_false]

/-- A short list. -/
def Sh (l : List Str) (most : Nat) : Prop := l.length ≤ 400 ∧ tot l ≤ most

theorem F7_sh {l : List Str} {most : Nat} (h : Sh l most) : F7 l most = some true := by
  rw [F7_is l (by have := h.1; unfold maxLen; omega), decide_eq_true (by have := h.2; omega), decide_eq_true h.1]; rfl

theorem F7_not {l : List Str} {most : Nat} (w : l.length ≤ maxLen) (h : ¬ Sh l most) : F7 l most = some false := by
  rw [F7_is l w]
  by_cases h1 : l.length ≤ 400
  · rw [decide_eq_false (p := (tot l : Int) ≤ most) (fun h2 => h ⟨h1, by omega⟩)]; rfl
  · rw [decide_eq_false (p := l.length ≤ 400) h1, Bool.and_false]

theorem tot_mem : ∀ {l : List Str} {x : Str}, x ∈ l → min x.length 1048576 ≤ tot l
  | y :: r, x, h => by
    rw [tot]
    rcases List.mem_cons.1 h with rfl | h
    · omega
    · have := tot_mem h; omega

theorem Sh.mem {l : List Str} {most : Nat} (h : Sh l most) (hm : most < 1048576) {x : Str} (hx : x ∈ l) : x.length ≤ most := by
  have := tot_mem hx
  have := h.2
  omega

/-! ### equality of lists -/

theorem F13_is (a b : List Str) (w : a.length ≤ maxLen) : F13 a b = some (decide (a = b)) := by
  unfold maxLen at w
  unfold F13
  by_cases hl : a.length = b.length
  · rw [decide_eq_true (by omega)]
    show iter (F13_b1 a b) BIG 0 = _
    have h : ∀ (n j : Nat), j ≤ a.length → a.length - j < n → iter (F13_b1 a b) n (j : Int) = some (decide (a.drop j = b.drop j)) := by
      intro n
      induction n with
      | zero => intro j _ h; omega
      | succ n ih =>
        intro j hj hn
        show F13_b1 a b (iter (F13_b1 a b) n) j = _
        rw [F13_b1]
        by_cases hlt : j < a.length
        · rw [decide_eq_true (by omega), cond_t, lidx_at hlt, Option.bind_some, lidx_at (xs := b) (by omega), Option.bind_some, drop_at hlt, drop_at (l := b) (by omega)]
          by_cases he : a[j] = b[j]
          · rw [decide_eq_true he, Bool.not_true, cond_f, wrap64 (by omega) (by omega), show ((j : Int) + 1) = ((j + 1 : Nat) : Int) by omega, ih (j + 1) (by omega) (by omega), he]
            congr 1
            rw [Bool.eq_iff_iff, decide_eq_true_eq, decide_eq_true_eq]
            exact ⟨fun h => by rw [h], fun h => (List.cons.inj h).2⟩
          · rw [decide_eq_false he, Bool.not_false, cond_t, decide_eq_false]
            intro h
            exact he (List.cons.inj h).1
        · rw [decide_eq_false (by omega), cond_f, List.drop_eq_nil_of_le (by omega), List.drop_eq_nil_of_le (by omega), decide_eq_true rfl]
    have := h BIG 0 (Nat.zero_le _) (by unfold BIG; omega)
    rw [show ((0 : Nat) : Int) = 0 from rfl] at this
    rw [this, List.drop_zero, List.drop_zero]
  · rw [decide_eq_false (p := ((a.length : Int) = (b.length : Int))) (by omega), Bool.not_false, cond_t, decide_eq_false]
    intro h
    exact hl (by rw [h])

/-! ### values -/

def pl (l : List Str) : List GValue := l.map fun x => GValue.mk x []

theorem loop_app {α β R : Type} (sz : Nat) (f : α → β) (fin : List β → Option R) : ∀ (l : List α) (i : Int) (acc : List β), (acc.length + l.length) * sz ≤ 140737488355328 →
    loopS (fun x _ k acc => (appO sz acc [f x]).bind fun out => k out) fin l i acc = fin (acc ++ l.map f)
  | [], i, acc, h => by rw [loopS, List.map_nil, List.append_nil]
  | x :: r, i, acc, h => by
    rw [List.length_cons] at h
    have h1 : (acc.length + 1) * sz ≤ (acc.length + (r.length + 1)) * sz := Nat.mul_le_mul_right _ (by omega)
    rw [loopS, appO_eq (by simpa using Nat.le_trans h1 h), Option.bind_some, loop_app sz f fin r (i + 1) (acc ++ [f x]) (by rw [List.length_append, List.length_singleton, show acc.length + 1 + r.length = acc.length + (r.length + 1) by omega]; exact h), List.append_assoc, List.map_cons]
    rfl

theorem F22_is (l : List Str) (h : l.length ≤ 100000) : F22 l = some (pl l) := by
  unfold F22
  rw [iter_rangeS (body := F22_b1 l) l (fun w _ k acc => (appO 32 acc [GValue.mk w []]).bind fun out => k out) (fun acc => some acc) (fun _ _ _ => rfl) (by omega), loop_app 32 (fun x => GValue.mk x []) _ l 0 [] (by simp; omega)]
  rfl

theorem F23_is (l : List GValue) (h : l.length ≤ 100000) : F23 l = some (l.map GValue.text_) := by
  unfold F23
  rw [iter_rangeS (body := F23_b1 l) l (fun u _ k acc => (appO 16 acc [u.text_]).bind fun out => k out) (fun acc => some acc) (fun _ _ _ => rfl) (by omega), loop_app 16 GValue.text_ _ l 0 [] (by simp; omega)]
  rfl

theorem text_pl (l : List Str) : (pl l).map GValue.text_ = l := by
  unfold pl
  rw [List.map_map]
  exact List.map_id' l

/-! ### Join -/

def jn : List (Str × Str) → List Str → List Str × Int
  | [], acc => (acc, 0)
  | (x, y) :: r, acc => if 65536 < x.length + y.length then ([], 4) else jn r (acc ++ [x ++ y])

theorem jn_bad : ∀ (l : List (Str × Str)) (acc : List Str), (jn l acc).2 ≠ 0 → (jn l acc).1 = []
  | [], acc, h => absurd rfl h
  | (x, y) :: r, acc, h => by
    unfold jn at h ⊢
    split
    · rfl
    · rename_i hc
      rw [if_neg hc] at h
      exact jn_bad r _ h

theorem jn_len : ∀ (l : List (Str × Str)) (acc : List Str), (jn l acc).1.length ≤ acc.length + l.length
  | [], acc => Nat.le_refl _
  | (x, y) :: r, acc => by
    unfold jn
    split
    · exact Nat.zero_le _
    · have := jn_len r (acc ++ [x ++ y])
      rw [List.length_append, List.length_singleton] at this
      rw [List.length_cons]
      omega

def prs (a b : List Str) : List (Str × Str) := (List.range (max a.length b.length)).map fun i => (a.getD (min i (a.length - 1)) [], b.getD (min i (b.length - 1)) [])

theorem prs_len (a b : List Str) : (prs a b).length = max a.length b.length := by
  unfold prs
  rw [List.length_map, List.length_range]

def J (a b : List Str) : List Str × Int := if a.length ≠ b.length ∧ min a.length b.length ≠ 1 then ([], 1) else jn (prs a b) []

theorem prs_mem {a b : List Str} {x y : Str} (h : (x, y) ∈ prs a b) : (x = [] ∨ x ∈ a) ∧ (y = [] ∨ y ∈ b) := by
  unfold prs at h
  obtain ⟨i, _, hi⟩ := List.mem_map.1 h
  cases hi
  have : ∀ (l : List Str) (k : Nat), l.getD k [] = [] ∨ l.getD k [] ∈ l := fun l k => by
    rw [List.getD_eq_getElem?_getD]
    by_cases hk : k < l.length
    · rw [List.getElem?_eq_getElem hk]; exact .inr (List.getElem_mem hk)
    · rw [List.getElem?_eq_none (by omega)]; exact .inl rfl
  exact ⟨this _ _, this _ _⟩

/-- The index of a list. -/
theorem lidx_min (l : List Str) (i : Nat) (h : 0 < l.length) (hm : l.length ≤ 100000) : lidx l (imin (i : Int) (IntKind.wrap .i64 ((l.length : Int) - 1))) = some (l.getD (min i (l.length - 1)) []) := by
  rw [wrap64 (by omega) (by omega), show imin (i : Int) ((l.length : Int) - 1) = ((min i (l.length - 1) : Nat) : Int) by unfold imin; split <;> omega, lidx_nat, List.getD_eq_getElem?_getD, List.getElem?_eq_getElem (by omega)]
  rfl

theorem lidx_minV (l : List Str) (i : Nat) (h : 0 < l.length) (hm : l.length ≤ 100000) : lidx (pl l) (imin (i : Int) (IntKind.wrap .i64 (((pl l).length : Int) - 1))) = some (GValue.mk (l.getD (min i (l.length - 1)) []) []) := by
  have hl : (pl l).length = l.length := by unfold pl; rw [List.length_map]
  rw [hl, wrap64 (by omega) (by omega), show imin (i : Int) ((l.length : Int) - 1) = ((min i (l.length - 1) : Nat) : Int) by unfold imin; split <;> omega, lidx_nat, List.getD_eq_getElem?_getD, List.getElem?_eq_getElem (by omega), List.getElem?_eq_getElem (by omega)]
  simp [pl]

def G10 : Str × Str → Int → (List Str → Option (List Str × Int)) → List Str → Option (List Str × Int) := fun p _ k acc =>
  (catO p.1 p.2).bind fun s => bif decide (65536 < (s.length : Int)) then some ([], 4) else (appO 16 acc [s]).bind fun out => k out

theorem loop10 : ∀ (l : List (Str × Str)) (i : Int) (acc : List Str), acc.length + l.length ≤ 100000 → (∀ p ∈ l, p.1.length ≤ 1000000 ∧ p.2.length ≤ 1000000) → loopS G10 (fun acc => some (acc, 0)) l i acc = some (jn l acc)
  | [], i, acc, h, hl => rfl
  | (x, y) :: r, i, acc, h, hl => by
    rw [List.length_cons] at h
    have := hl _ List.mem_cons_self
    rw [loopS]
    unfold G10 jn
    dsimp only
    rw [catO_eq (by have h1 := this.1; have h2 := this.2; dsimp only at h1 h2; omega), Option.bind_some, List.length_append]
    by_cases hc : 65536 < x.length + y.length
    · rw [decide_eq_true (by omega), cond_t, if_pos hc]
    · rw [decide_eq_false (by omega), cond_f, if_neg hc, appO_eq (by simp; omega), Option.bind_some]
      exact loop10 r (i + 1) _ (by rw [List.length_append, List.length_singleton]; omega) fun p hp => hl p (List.mem_cons_of_mem _ hp)

theorem F10_is (a b : List Str) (ha : a.length ≤ 400) (hb : b.length ≤ 400) (la : ∀ x ∈ a, x.length ≤ 1000000) (lb : ∀ x ∈ b, x.length ≤ 1000000) : F10 a b = some (J a b) := by
  unfold F10 J
  by_cases hc : a.length ≠ b.length ∧ min a.length b.length ≠ 1
  · rw [if_pos hc]
    have : (!decide ((a.length : Int) = (b.length : Int)) && (((!decide ((a.length : Int) = 1) && !decide ((b.length : Int) = 1)) || decide ((a.length : Int) = 0)) || decide ((b.length : Int) = 0))) = true := by
      simp only [Bool.and_eq_true, Bool.or_eq_true, Bool.not_eq_true', decide_eq_true_eq, decide_eq_false_iff_not]
      omega
    rw [this, cond_t]
  · rw [if_neg hc]
    have : (!decide ((a.length : Int) = (b.length : Int)) && (((!decide ((a.length : Int) = 1) && !decide ((b.length : Int) = 1)) || decide ((a.length : Int) = 0)) || decide ((b.length : Int) = 0))) = false := by
      simp only [Bool.and_eq_false_iff, Bool.or_eq_false_iff, Bool.not_eq_false', decide_eq_true_eq, decide_eq_false_iff_not, Bool.not_eq_eq_eq_not, Bool.not_true, Bool.not_false]
      omega
    have hn : (bif decide ((a.length : Int) = 1) then (b.length : Int) else (a.length : Int)) = ((max a.length b.length : Nat) : Int) := by
      by_cases h1 : a.length = 1
      · rw [decide_eq_true (by omega), cond_t]; omega
      · rw [decide_eq_false (by omega), cond_f]; omega
    rw [this, cond_f, iter_list (body := F10_b1 a b) (prs a b) G10 (fun acc => some (acc, 0)) (fun again i h s => ?_) (fun again s => ?_) (by rw [prs_len]; omega), loop10 (prs a b) 0 [] (by rw [prs_len, List.length_nil]; omega) (fun p hp => ?_)]
    · obtain ⟨h1, h2⟩ := prs_mem (x := p.1) (y := p.2) hp
      refine ⟨?_, ?_⟩
      · rcases h1 with h | h
        · rw [h]; exact Nat.zero_le _
        · exact la _ h
      · rcases h2 with h | h
        · rw [h]; exact Nat.zero_le _
        · exact lb _ h
    · rw [prs_len] at h
      unfold F10_b1
      dsimp only
      have e : (prs a b)[i] = (a.getD (min i (a.length - 1)) [], b.getD (min i (b.length - 1)) []) := by simp [prs]
      rw [hn, decide_eq_true (by omega), cond_t, lidx_min a i (by omega) (by omega), Option.bind_some, lidx_min b i (by omega) (by omega), Option.bind_some, e, wrap64 (by omega) (by omega)]
      rfl
    · unfold F10_b1
      dsimp only
      rw [prs_len, hn, decide_eq_false (by omega), cond_f]

def G21 : Str × Str → Int → (List GValue → Option (List GValue × Int)) → List GValue → Option (List GValue × Int) := fun p _ k acc =>
  (F40 (GValue.mk p.1 []) (GValue.mk p.2 [])).bind fun (v, e) => bif !decide (e = 0) then some ([], e) else (appO 32 acc [v]).bind fun out => k out

theorem F40_pl (x y : Str) (hx : x.length ≤ 1000000) (hy : y.length ≤ 1000000) : F40 (GValue.mk x []) (GValue.mk y []) = if 65536 < x.length + y.length then some (GValue.mk [] [], 4) else some (GValue.mk (x ++ y) [], 0) := by
  unfold F40
  dsimp only
  rw [wrap64 (by omega) (by omega)]
  by_cases hc : 65536 < x.length + y.length
  · rw [decide_eq_true (by omega), cond_t, if_pos hc]
  · rw [decide_eq_false (by omega), cond_f, if_neg hc, catO_eq (by omega), Option.bind_some, catO_eq (by simp), Option.bind_some]
    rfl

theorem loop21 : ∀ (l : List (Str × Str)) (i : Int) (acc : List Str), acc.length + l.length ≤ 100000 → (∀ p ∈ l, p.1.length ≤ 1000000 ∧ p.2.length ≤ 1000000) → loopS G21 (fun acc => some (acc, 0)) l i (pl acc) = some (pl (jn l acc).1, (jn l acc).2)
  | [], i, acc, h, hl => rfl
  | (x, y) :: r, i, acc, h, hl => by
    rw [List.length_cons] at h
    have := hl _ List.mem_cons_self
    rw [loopS]
    unfold G21 jn
    dsimp only
    rw [F40_pl x y this.1 this.2]
    by_cases hc : 65536 < x.length + y.length
    · rw [if_pos hc, if_pos hc, Option.bind_some]
      rfl
    · rw [if_neg hc, if_neg hc, Option.bind_some]
      dsimp only
      rw [decide_eq_true rfl, Bool.not_true, cond_f, appO_eq (by simp [pl]; omega), Option.bind_some, show pl acc ++ [GValue.mk (x ++ y) []] = pl (acc ++ [x ++ y]) by simp [pl]]
      exact loop21 r (i + 1) _ (by rw [List.length_append, List.length_singleton]; omega) fun p hp => hl p (List.mem_cons_of_mem _ hp)

theorem F21_is (a b : List Str) (ha : a.length ≤ 400) (hb : b.length ≤ 400) (la : ∀ x ∈ a, x.length ≤ 1000000) (lb : ∀ x ∈ b, x.length ≤ 1000000) : F21 (pl a) (pl b) = some (pl (J a b).1, (J a b).2) := by
  have hla : (pl a).length = a.length := by unfold pl; rw [List.length_map]
  have hlb : (pl b).length = b.length := by unfold pl; rw [List.length_map]
  have hmn : imin (a.length : Int) (b.length : Int) = ((min a.length b.length : Nat) : Int) := by unfold imin; split <;> omega
  have hmx : imax (a.length : Int) (b.length : Int) = ((max a.length b.length : Nat) : Int) := by unfold imax; split <;> omega
  unfold F21 J
  rw [hla, hlb, hmn]
  by_cases hc : a.length ≠ b.length ∧ min a.length b.length ≠ 1
  · rw [if_pos hc, decide_eq_false (p := ((a.length : Int) = (b.length : Int))) (by omega), decide_eq_false (p := (((min a.length b.length : Nat) : Int) = 1)) (by omega)]
    rfl
  · rw [if_neg hc]
    have : (!decide ((a.length : Int) = (b.length : Int)) && !decide (((min a.length b.length : Nat) : Int) = 1)) = false := by
      simp only [Bool.and_eq_false_iff, Bool.not_eq_false', decide_eq_true_eq]
      omega
    rw [this, cond_f, iter_list (body := F21_b1 (pl a) (pl b)) (prs a b) G21 (fun acc => some (acc, 0)) (fun again i h s => ?_) (fun again s => ?_) (by rw [prs_len]; omega)]
    · exact loop21 (prs a b) 0 [] (by rw [prs_len, List.length_nil]; omega) (fun p hp => by
        obtain ⟨h1, h2⟩ := prs_mem (x := p.1) (y := p.2) hp
        refine ⟨?_, ?_⟩
        · rcases h1 with h | h
          · rw [h]; exact Nat.zero_le _
          · exact la _ h
        · rcases h2 with h | h
          · rw [h]; exact Nat.zero_le _
          · exact lb _ h)
    · rw [prs_len] at h
      have e : (prs a b)[i] = (a.getD (min i (a.length - 1)) [], b.getD (min i (b.length - 1)) []) := by simp [prs]
      unfold F21_b1
      dsimp only
      rw [lidx_minV a i (by omega) (by omega), lidx_minV b i (by omega) (by omega), hla, hlb, hmx, decide_eq_true (by omega), cond_t, Option.bind_some, Option.bind_some, e, wrap64 (by omega) (by omega)]
      rfl
    · unfold F21_b1
      dsimp only
      rw [prs_len, hla, hlb, hmx, decide_eq_false (by omega), cond_f]

theorem J_bad (a b : List Str) (h : (J a b).2 ≠ 0) : (J a b).1 = [] := by
  unfold J at h ⊢
  split
  · rfl
  · rename_i hc
    rw [if_neg hc] at h
    exact jn_bad _ _ h

theorem J_len (a b : List Str) : (J a b).1.length ≤ max a.length b.length := by
  unfold J
  split
  · exact Nat.zero_le _
  · have := jn_len (prs a b) []
    rw [prs_len, List.length_nil] at this
    omega

theorem F9_is (a b : List Str) (ha : a.length ≤ 400) (hb : b.length ≤ 400) (la : ∀ x ∈ a, x.length ≤ 1000000) (lb : ∀ x ∈ b, x.length ≤ 1000000) : F9 a b = some (J a b) := by
  unfold F9
  rw [F22_is a (by omega), Option.bind_some, F22_is b (by omega), Option.bind_some, F21_is a b ha hb la lb, Option.bind_some]
  dsimp only
  by_cases h : (J a b).2 = 0
  · have := J_len a b
    rw [decide_eq_true h, Bool.not_true, cond_f, F23_is _ (by unfold pl; rw [List.length_map]; omega), Option.bind_some, text_pl]
    congr 1
    exact Prod.ext rfl h.symm
  · rw [decide_eq_false h, Bool.not_false, cond_t]
    congr 1
    exact Prod.ext (J_bad a b h).symm rfl

theorem alive : F8 = some true := by kernel_rfl

/-! ### numbers -/

theorem tab_itoa : ((List.range 256).all fun v => decide (F25 (Lib.itoa ((v : Int) + 1)) = some ((v : Int) + 1, true))) = true := by kernel_rfl

theorem tab_atoi : ((List.range 256).all fun v => decide (F24 (Lib.itoa ((v : Int) + 1)) = some ((v : Int) + 1, true))) = true := by kernel_rfl

theorem tab_dig : ((List.range 10).all fun x => (List.range 10).all fun y => (List.range 10).all fun z => decide (x = 0) || decide (Lib.itoa ((100 * x + 10 * y + z : Nat) : Int) = [UInt8.ofNat (48 + x), UInt8.ofNat (48 + y), UInt8.ofNat (48 + z)])) = true := by kernel_rfl

theorem tab_dig2 : ((List.range 10).all fun y => (List.range 10).all fun z => decide (y = 0) || decide (Lib.itoa ((10 * y + z : Nat) : Int) = [UInt8.ofNat (48 + y), UInt8.ofNat (48 + z)])) = true := by kernel_rfl

theorem tab_dig1 : ((List.range 10).all fun z => decide (z = 0) || decide (Lib.itoa ((z : Nat) : Int) = [UInt8.ofNat (48 + z)])) = true := by kernel_rfl

theorem at_itoa {v : Int} (h1 : 1 ≤ v) (h2 : v ≤ 256) : F25 (Lib.itoa v) = some (v, true) ∧ F24 (Lib.itoa v) = some (v, true) := by
  have a := List.all_eq_true.1 tab_itoa (v - 1).toNat (List.mem_range.2 (by omega))
  have b := List.all_eq_true.1 tab_atoi (v - 1).toNat (List.mem_range.2 (by omega))
  have e : (((v - 1).toNat : Nat) : Int) + 1 = v := by omega
  rw [e] at a b
  exact ⟨of_decide_eq_true a, of_decide_eq_true b⟩

theorem wrap8 {n : Int} (h1 : 0 ≤ n) (h2 : n < 256) : IntKind.wrap .u8 n = n := by
  simp only [IntKind.wrap, IntKind.bits, IntKind.signed]
  simp
  omega

def dgs : List UInt8 → Int → Option Int
  | [], n => some n
  | c :: r, n => if c.toNat < 48 ∨ 57 < c.toNat then none else dgs r (10 * n + ((c.toNat : Int) - 48))

def fin25 (s : Str) (n : Int) : Option (Int × Bool) :=
  (guardO ((decide (1 ≤ n) && decide (n ≤ 256)) && decide ((s.length : Int) < 4)) (sidx s 0)).bind fun c14 =>
    some (n, (((decide (1 ≤ n) && decide (n ≤ 256)) && decide ((s.length : Int) < 4)) && !decide (c14 = 48)))

theorem loop25 (s : Str) (hs : s.length ≤ 1000000000) : ∀ (m j : Nat) (n : Int), j ≤ s.length → j ≤ 4 → 4 - j < m → 0 ≤ n → n < 10 ^ j →
    iter (F25_b1 s) m (n, (j : Int)) = match dgs ((s.take 4).drop j) n with | none => some (0, false) | some v => fin25 s v
  | 0, j, n, h, h4, hm, h0, h1 => by omega
  | m + 1, j, n, h, h4, hm, h0, h1 => by
    show F25_b1 s (iter (F25_b1 s) m) (n, (j : Int)) = _
    rw [F25_b1]
    by_cases hj : j < s.length ∧ j < 4
    · have hd : (s.take 4).drop j = s[j] :: (s.take 4).drop (j + 1) := by
        rw [drop_at (l := s.take 4) (by rw [List.length_take]; omega), List.getElem_take]
      have hp : (10 : Int) ^ j ≤ 1000 := by
        have : j ≤ 3 := by omega
        match j, this with
        | 0, _ => decide
        | 1, _ => decide
        | 2, _ => decide
        | 3, _ => decide
      have hc := UInt8.toNat_lt s[j]
      rw [decide_eq_true (p := ((j : Int) < (s.length : Int))) (by omega), decide_eq_true (p := ((j : Int) < 4)) (by omega), Bool.and_self, cond_t, sidx_at hj.1, Option.bind_some, hd, dgs]
      by_cases hb : s[j].toNat < 48 ∨ 57 < s[j].toNat
      · rw [if_pos hb]
        have : (decide ((s[j].toNat : Int) < 48) || decide (57 < (s[j].toNat : Int))) = true := by
          rw [Bool.or_eq_true, decide_eq_true_eq, decide_eq_true_eq]
          omega
        rw [this, cond_t]
      · rw [if_neg hb]
        have : (decide ((s[j].toNat : Int) < 48) || decide (57 < (s[j].toNat : Int))) = false := by
          rw [Bool.or_eq_false_iff, decide_eq_false_iff_not, decide_eq_false_iff_not]
          omega
        rw [this, cond_f, wrap8 (by omega) (by omega), wrap64 (n := (s[j].toNat : Int) - 48) (by omega) (by omega), wrap64 (n := 10 * n) (by omega) (by omega), wrap64 (n := 10 * n + ((s[j].toNat : Int) - 48)) (by omega) (by omega), wrap64 (by omega) (by omega)]
        have := loop25 s hs m (j + 1) (10 * n + ((s[j].toNat : Int) - 48)) (by omega) (by omega) (by omega) (by omega) (by rw [Int.pow_succ]; omega)
        rw [← this]
        rfl
    · have hd : (s.take 4).drop j = [] := List.drop_eq_nil_of_le (by rw [List.length_take]; omega)
      have : (decide ((j : Int) < (s.length : Int)) && decide ((j : Int) < 4)) = false := by
        rw [Bool.and_eq_false_iff, decide_eq_false_iff_not, decide_eq_false_iff_not]
        omega
      rw [this, cond_f, hd, dgs]
      rfl

theorem F25_is (s : Str) (hs : s.length ≤ 1000000000) : F25 s = match dgs (s.take 4) 0 with | none => some (0, false) | some v => fin25 s v := by
  have := loop25 s hs BIG 0 0 (Nat.zero_le _) (by omega) (by unfold BIG; omega) (Int.le_refl _) (by decide)
  rw [show ((0 : Nat) : Int) = 0 from rfl, List.drop_zero] at this
  exact this

theorem dig_of {c : UInt8} (h : ¬ (c.toNat < 48 ∨ 57 < c.toNat)) : ∃ x, x < 10 ∧ c = UInt8.ofNat (48 + x) ∧ (c.toNat : Int) - 48 = (x : Int) :=
  ⟨c.toNat - 48, by omega, by rw [show 48 + (c.toNat - 48) = c.toNat by omega, UInt8.ofNat_toNat], by omega⟩

/-- What F25 takes for a number is one's numeral. -/
theorem F25_num (s : Str) (hs : s.length ≤ 1000000000) (n : Int) (h : F25 s = some (n, true)) : 1 ≤ n ∧ n ≤ 256 ∧ s = Lib.itoa n := by
  rw [F25_is s hs] at h
  cases hd : dgs (s.take 4) 0 with
  | none => rw [hd] at h; cases h
  | some v =>
    rw [hd] at h
    dsimp only at h
    unfold fin25 at h
    obtain ⟨c, hc, h⟩ := Option.bind_eq_some_iff.1 h
    have h := Option.some.inj h
    have hv : v = n := congrArg Prod.fst h
    have hk : (((decide (1 ≤ v) && decide (v ≤ 256)) && decide ((s.length : Int) < 4)) && !decide (c = 48)) = true := congrArg Prod.snd h
    simp only [Bool.and_eq_true, decide_eq_true_eq, Bool.not_eq_true', decide_eq_false_iff_not] at hk
    obtain ⟨⟨⟨k1, k2⟩, k3⟩, k4⟩ := hk
    subst hv
    refine ⟨k1, k2, ?_⟩
    rw [decide_eq_true k1, decide_eq_true k2, decide_eq_true k3] at hc
    replace hc : sidx s 0 = some c := hc
    rw [List.take_of_length_le (by omega)] at hd
    match s, k3 with
    | [], _ => simp [dgs] at hd; omega
    | [a], _ =>
      have hc0 : (a.toNat : Int) = c := Option.some.inj hc
      rw [dgs] at hd
      split at hd
      · cases hd
      · rename_i ha
        obtain ⟨x, hx, ex, vx⟩ := dig_of ha
        rw [dgs, vx] at hd
        have hv := Option.some.inj hd
        have t := List.all_eq_true.1 tab_dig1 x (List.mem_range.2 hx)
        rw [Bool.or_eq_true, decide_eq_true_eq, decide_eq_true_eq] at t
        rcases t with t | t
        · omega
        · rw [← hv, show 10 * (0 : Int) + (x : Int) = (x : Int) by omega, t, ex]
    | [a, b], _ =>
      have hc0 : (a.toNat : Int) = c := Option.some.inj hc
      rw [dgs] at hd
      split at hd
      · cases hd
      · rename_i ha
        obtain ⟨x, hx, ex, vx⟩ := dig_of ha
        rw [dgs] at hd
        split at hd
        · cases hd
        · rename_i hb
          obtain ⟨y, hy, ey, vy⟩ := dig_of hb
          rw [dgs, vx, vy] at hd
          have hv := Option.some.inj hd
          have t := List.all_eq_true.1 (List.all_eq_true.1 tab_dig2 x (List.mem_range.2 hx)) y (List.mem_range.2 hy)
          rw [Bool.or_eq_true, decide_eq_true_eq, decide_eq_true_eq] at t
          rcases t with t | t
          · omega
          · rw [← hv, show 10 * (10 * (0 : Int) + (x : Int)) + (y : Int) = ((10 * x + y : Nat) : Int) by omega, t, ex, ey]
    | [a, b, d], _ =>
      have hc0 : (a.toNat : Int) = c := Option.some.inj hc
      rw [dgs] at hd
      split at hd
      · cases hd
      · rename_i ha
        obtain ⟨x, hx, ex, vx⟩ := dig_of ha
        rw [dgs] at hd
        split at hd
        · cases hd
        · rename_i hb
          obtain ⟨y, hy, ey, vy⟩ := dig_of hb
          rw [dgs] at hd
          split at hd
          · cases hd
          · rename_i hdd
            obtain ⟨z, hz, ez, vz⟩ := dig_of hdd
            rw [dgs, vx, vy, vz] at hd
            have hv := Option.some.inj hd
            have t := List.all_eq_true.1 (List.all_eq_true.1 (List.all_eq_true.1 tab_dig x (List.mem_range.2 hx)) y (List.mem_range.2 hy)) z (List.mem_range.2 hz)
            rw [Bool.or_eq_true, decide_eq_true_eq, decide_eq_true_eq] at t
            rcases t with t | t
            · omega
            · rw [← hv, show 10 * (10 * (10 * (0 : Int) + (x : Int)) + (y : Int)) + (z : Int) = ((100 * x + 10 * y + z : Nat) : Int) by omega, t, ex, ey, ez]
    | _ :: _ :: _ :: _ :: r, h => simp at h; omega

theorem F25_any (s : Str) (hs : s.length ≤ 1000000000) : ∃ n ok, F25 s = some (n, ok) := by
  rw [F25_is s hs]
  cases hd : dgs (s.take 4) 0 with
  | none => exact ⟨0, false, rfl⟩
  | some v =>
    show ∃ n ok, fin25 s v = some (n, ok)
    unfold fin25
    by_cases h : ((decide (1 ≤ v) && decide (v ≤ 256)) && decide ((s.length : Int) < 4)) = true
    · rw [h, guardO_true]
      match s, hd, h with
      | [], hd, h => simp [dgs] at hd; subst hd; simp at h
      | a :: r, _, _ => exact ⟨_, _, rfl⟩
    · rw [Bool.not_eq_true] at h
      rw [h]
      exact ⟨_, _, rfl⟩

theorem L_Atoi_any (s : Str) (hs : s.length ≤ 1000000000) : ∃ n bad, L_Atoi s = some (n, bad) := by
  unfold L_Atoi
  rw [if_pos (by omega)]
  split
  · exact ⟨_, _, rfl⟩
  · exact ⟨_, _, rfl⟩
  · exact ⟨_, _, rfl⟩

/-- The two readings of a number. -/
theorem num_is (s : Str) (hs : s.length ≤ 1000000000) : (∃ n m, F24 s = some (n, false) ∧ F25 s = some (m, false)) ∨ ∃ n, F24 s = some (n, true) ∧ F25 s = some (n, true) ∧ 1 ≤ n ∧ n ≤ 256 := by
  obtain ⟨m, ok, h25⟩ := F25_any s hs
  cases ok with
  | true =>
    obtain ⟨h1, h2, h3⟩ := F25_num s hs m h25
    exact .inr ⟨m, by rw [h3]; exact (at_itoa h1 h2).2, h25, h1, h2⟩
  | false =>
    refine .inl ?_
    obtain ⟨n, bad, ha⟩ := L_Atoi_any s hs
    refine ⟨n, m, ?_, h25⟩
    unfold F24
    rw [ha, Option.bind_some]
    dsimp only
    by_cases hg : ((!bad && decide (1 ≤ n)) && decide (n ≤ 256)) = true
    · have hg' := hg
      simp only [Bool.and_eq_true, decide_eq_true_eq] at hg'
      rw [hg, guardO_true, L_Itoa, if_pos (by omega), Option.bind_some, Bool.true_and, decide_eq_false]
      intro e
      rw [← e, (at_itoa hg'.1.2 hg'.2).1] at h25
      cases h25
    · rw [Bool.not_eq_true] at hg
      rw [hg]
      rfl

/-! ### Index -/

def GI (N : Str → Option (Int × Bool)) (vs : List Str) : Str → Int → (List Str → Option (List Str × Int)) → List Str → Option (List Str × Int) := fun w _ k acc =>
  (N w).bind fun (r14, r15) => bif !r15 then some ([], 5) else bif decide (r14 ≤ (vs.length : Int)) then (lidx vs (IntKind.wrap .i64 (r14 - 1))).bind fun w20 => (appO 16 acc [w20]).bind fun out => k out else k acc

theorem loopI (vs : List Str) : ∀ (l : List Str) (i : Int) (acc : List Str), acc.length + l.length ≤ 100000 → (∀ x ∈ l, x.length ≤ 1000000000) →
    ∃ r, loopS (GI F24 vs) (fun acc => some (acc, 0)) l i acc = some r ∧ loopS (GI F25 vs) (fun acc => some (acc, 0)) l i acc = some r ∧ r.1.length ≤ acc.length + l.length
  | [], i, acc, h, hl => ⟨(acc, 0), rfl, rfl, Nat.le_refl _⟩
  | x :: r, i, acc, h, hl => by
    rw [List.length_cons] at h
    rw [loopS, loopS]
    unfold GI
    dsimp only
    rcases num_is x (hl x List.mem_cons_self) with ⟨n, m, e1, e2⟩ | ⟨n, e1, e2, h1, h2⟩
    · rw [e1, e2]
      exact ⟨([], 5), rfl, rfl, Nat.zero_le _⟩
    · rw [e1, e2, Option.bind_some, Option.bind_some]
      dsimp only
      rw [Bool.not_true, cond_f, cond_f]
      by_cases hn : n ≤ (vs.length : Int)
      · rw [decide_eq_true hn, cond_t, cond_t, wrap64 (by omega) (by omega), show n - 1 = (((n - 1).toNat : Nat) : Int) by omega, lidx_at (by omega), Option.bind_some, Option.bind_some, appO_eq (by simp; omega), Option.bind_some, Option.bind_some]
        obtain ⟨q, a, b, c⟩ := loopI vs r (i + 1) (acc ++ [vs[(n - 1).toNat]'(by omega)]) (by rw [List.length_append, List.length_singleton]; omega) fun y hy => hl y (List.mem_cons_of_mem _ hy)
        refine ⟨q, a, b, ?_⟩
        rw [List.length_append, List.length_singleton] at c
        rw [List.length_cons]
        omega
      · rw [decide_eq_false hn, cond_f, cond_f]
        obtain ⟨q, a, b, c⟩ := loopI vs r (i + 1) acc (by omega) fun y hy => hl y (List.mem_cons_of_mem _ hy)
        exact ⟨q, a, b, by rw [List.length_cons]; omega⟩

theorem index_is (vs idx : List Str) (h : idx.length ≤ 400) (hl : ∀ x ∈ idx, x.length ≤ 1000000000) : ∃ r, F11 vs idx = some r ∧ F12 vs idx = some r ∧ r.1.length ≤ 400 := by
  obtain ⟨r, a, b, c⟩ := loopI vs idx 0 [] (by rw [List.length_nil]; omega) hl
  refine ⟨r, ?_, ?_, by rw [List.length_nil] at c; omega⟩
  · unfold F11
    rw [iter_rangeS (body := F11_b1 idx vs) idx (GI F24 vs) (fun acc => some (acc, 0)) (fun _ _ _ => rfl) (by omega)]
    exact a
  · unfold F12
    rw [iter_rangeS (body := F12_b1 idx vs) idx (GI F25 vs) (fun acc => some (acc, 0)) (fun _ _ _ => rfl) (by omega)]
    exact b

/-! ### the law -/

theorem plain3 (a : List Str) (wa : a.length ≤ maxLen) (b : List Str) (wb : b.length ≤ maxLen) (idx : List Str) (wi : idx.length ≤ maxLen) : F3 a b idx = some true := by
  unfold F3
  by_cases h : Sh a 70000 ∧ Sh b 70000 ∧ Sh idx 2000
  · obtain ⟨ha, hb, hi⟩ := h
    have la := fun x (hx : x ∈ a) => ha.mem (by decide) hx
    have lb := fun x (hx : x ∈ b) => hb.mem (by decide) hx
    have li := fun x (hx : x ∈ idx) => hi.mem (by decide) hx
    obtain ⟨r, e1, e2, hr⟩ := index_is a idx hi.1 fun x hx => Nat.le_trans (li x hx) (by decide)
    have hJ := J_len a b
    rw [show (70000 : Int) = ((70000 : Nat) : Int) from rfl, show (2000 : Int) = ((2000 : Nat) : Int) from rfl, F7_sh ha, Option.bind_some, guardO_true, F7_sh hb, Option.bind_some]
    simp only [Bool.not_true, Bool.or_self, Bool.not_false, guardO_true]
    rw [F7_sh hi, Option.bind_some]
    simp only [Bool.not_true, Bool.or_self, cond_f]
    rw [F9_is a b ha.1 hb.1 (fun x hx => Nat.le_trans (la x hx) (by decide)) (fun x hx => Nat.le_trans (lb x hx) (by decide)), Option.bind_some]
    rw [F10_is a b ha.1 hb.1 (fun x hx => Nat.le_trans (la x hx) (by decide)) (fun x hx => Nat.le_trans (lb x hx) (by decide)), Option.bind_some]
    try dsimp only
    rw [e1, Option.bind_some]
    try dsimp only
    rw [e2, Option.bind_some]
    try dsimp only
    have hm : (400 : Nat) ≤ maxLen := by unfold maxLen; decide
    have := ha.1
    have := hb.1
    rw [F13_is _ _ (by omega), Option.bind_some, F13_is _ _ (by omega), alive]
    simp [guardO]
  · have e : (F7 a 70000).bind (fun r5 => (guardO r5 (F7 b 70000)).bind fun r8 => (guardO (!(!r5 || !r8)) (F7 idx 2000)).bind fun r11 => some ((!r5 || !r8) || !r11)) = some true := by
      by_cases ha : Sh a 70000
      · by_cases hb : Sh b 70000
        · by_cases hi : Sh idx 2000
          · exact absurd ⟨ha, hb, hi⟩ h
          · have h1 := F7_sh ha; have h2 := F7_sh hb; have h3 := F7_not wi hi
            simp only [Int.cast_ofNat_Int] at h1 h2 h3
            rw [h1, Option.bind_some, h2]
            simp only [guardO_true, Option.bind_some, Bool.not_true, Bool.or_self, Bool.not_false]
            rw [h3]
            rfl
        · have h1 := F7_sh ha; have h2 := F7_not wb hb
          simp only [Int.cast_ofNat_Int] at h1 h2
          rw [h1, Option.bind_some, h2]
          rfl
      · have h1 := F7_not wa ha
        simp only [Int.cast_ofNat_Int] at h1
        rw [h1]
        rfl
    obtain ⟨r5, h5, e⟩ := Option.bind_eq_some_iff.1 e
    obtain ⟨r8, h8, e⟩ := Option.bind_eq_some_iff.1 e
    obtain ⟨r11, h11, e⟩ := Option.bind_eq_some_iff.1 e
    rw [h5, Option.bind_some, h8, Option.bind_some, h11, Option.bind_some, Option.some.inj e, cond_t, alive]
    rfl

theorem law3 (a : List Str) (wa : a.length ≤ maxLen ∧ ∀ x ∈ a, List.length x ≤ maxLen) (b : List Str) (wb : b.length ≤ maxLen ∧ ∀ x ∈ b, List.length x ≤ maxLen) (idx : List Str) (wi : idx.length ≤ maxLen ∧ ∀ x ∈ idx, List.length x ≤ maxLen) : F3 a b idx = some true := plain3 a wa.1 b wb.1 idx wi.1

/-! ### bytes -/

theorem indexByte_free (c : UInt8) : ∀ a : Str, c ∉ a → Lib.indexByte a c = -1
  | [], _ => rfl
  | x :: a, h => by
    simp only [List.mem_cons, not_or] at h
    have ih := indexByte_free c a h.2
    have h3 : ¬ x = c := fun e => h.1 e.symm
    simp [Lib.indexByte, ih, h3]

theorem indexByte_at (c : UInt8) (b : Str) : ∀ a : Str, c ∉ a → Lib.indexByte (a ++ c :: b) c = (a.length : Int)
  | [], _ => by simp [Lib.indexByte]
  | x :: a, h => by
    simp only [List.mem_cons, not_or] at h
    have ih := indexByte_at c b a h.2
    have h1 : ¬ ((a.length : Int) = -1) := by omega
    have h3 : ¬ x = c := fun e => h.1 e.symm
    simp [Lib.indexByte, ih, h3, h1]

theorem cut_free {c : UInt8} {a : Str} (h : c ∉ a) : Lib.cut a [c] = (a, [], false) := by
  unfold Lib.cut
  rw [Lib.index_one, indexByte_free c a h]
  rfl

theorem cut_at {c : UInt8} {a : Str} (b : Str) (h : c ∉ a) : Lib.cut (a ++ c :: b) [c] = (a, b, true) := by
  unfold Lib.cut
  rw [Lib.index_one, indexByte_at c b a h, if_pos (by omega)]
  simp

theorem firstOf (c : UInt8) : ∀ t : Str, c ∉ t ∨ ∃ a b, c ∉ a ∧ t = a ++ c :: b
  | [] => .inl (by simp)
  | x :: t => by
    by_cases h : x = c
    · exact .inr ⟨[], t, by simp, by rw [h]; rfl⟩
    · rcases firstOf c t with h1 | ⟨a, b, h1, h2⟩
      · exact .inl (by simp only [List.mem_cons, not_or]; exact ⟨fun e => h e.symm, h1⟩)
      · exact .inr ⟨x :: a, b, by simp only [List.mem_cons, not_or]; exact ⟨fun e => h e.symm, h1⟩, by rw [h2]; rfl⟩

theorem sidx_mid (pre : Str) (c : UInt8) (r : Str) : sidx (pre ++ c :: r) (pre.length : Int) = some (B c) := by
  rw [sidx_nat]
  simp [B]

theorem sslice_part (pre a r : Str) : sslice (pre ++ a ++ r) (pre.length : Int) ((pre ++ a).length : Int) = some a := by
  unfold sslice
  rw [if_pos ⟨by omega, by simp only [List.length_append]; omega, by simp only [List.length_append]; omega⟩]
  have : (((pre ++ a).length : Int)).toNat - (pre.length : Int).toNat = a.length := by simp only [List.length_append]; omega
  rw [this, Int.toNat_natCast]
  simp

theorem sslice_drop (s : Str) (j : Nat) (h : j ≤ s.length) : sslice s (j : Int) (s.length : Int) = some (s.drop j) := by
  unfold sslice
  rw [if_pos ⟨by omega, by omega, by omega⟩, Int.toNat_natCast, Int.toNat_natCast, List.take_of_length_le (by rw [List.length_drop]; omega)]

theorem sslice_take (s : Str) (j : Nat) (h : j ≤ s.length) : sslice s 0 (j : Int) = some (s.take j) := by
  unfold sslice
  rw [if_pos ⟨by omega, by omega, by omega⟩]
  rfl

theorem Bback (c : UInt8) : (B c).toNat.toUInt8 = c := by
  unfold B
  rw [Int.toNat_natCast]
  exact UInt8.ofNat_toNat

theorem idx_contains (c : UInt8) : ∀ l : Str, decide (0 ≤ Lib.indexByte l c) = l.contains c
  | [] => by simp [Lib.indexByte]
  | x :: l => by
    have ih := idx_contains c l
    have hge := Lib.indexByte_ge l c
    rw [List.contains_cons, ← ih]
    by_cases hx : x = c
    · subst hx
      simp [Lib.indexByte]
    · have hx' : (c == x) = false := by simp; exact fun e => hx e.symm
      rw [hx', Bool.false_or]
      by_cases h1 : Lib.indexByte l c = -1
      · have : Lib.indexByte (x :: l) c = -1 := by simp [Lib.indexByte, hx, h1]
        rw [this, h1]
      · have : Lib.indexByte (x :: l) c = Lib.indexByte l c + 1 := by simp [Lib.indexByte, hx, h1]
        rw [this, decide_eq_true (by omega), decide_eq_true (by omega)]

theorem idx_neg (c : UInt8) (l : Str) : decide (Lib.indexByte l c < 0) = !l.contains c := by
  rw [← idx_contains c l]
  by_cases h : (0 : Int) ≤ Lib.indexByte l c
  · rw [decide_eq_true h, decide_eq_false (by omega)]; rfl
  · rw [decide_eq_false h, decide_eq_true (by omega)]; rfl

/-! ### Split -/

def psh (cur : Str) (acc : List Str) : List Str := if cur = [] then acc else acc ++ [cur]

def spl (ifs : Str) : Str → Str → List Str → List Str
  | [], cur, acc => psh cur acc
  | c :: t, cur, acc => if ifs.contains c then spl ifs t [] (psh cur acc) else spl ifs t (cur ++ [c]) acc

theorem psh_len (cur : Str) (acc : List Str) : (psh cur acc).length ≤ acc.length + 1 := by
  unfold psh
  split
  · omega
  · rw [List.length_append, List.length_singleton]; omega

/-- The part between two separators. -/
theorem part19 {s ifs : Str} {acc : List Str} (pre cur r : Str) (again : Int × Int × List Str → Option (List Str)) (hs : s = pre ++ cur ++ r) (hl : s.length ≤ 1000000) (ha : acc.length ≤ 1000000) :
    (bif decide ((pre.length : Int) < ((pre ++ cur).length : Int)) then
        (sslice s (pre.length : Int) ((pre ++ cur).length : Int)).bind fun t19 =>
        (appO 16 acc [t19]).bind fun out22 =>
        again (IntKind.wrap .i64 (((pre ++ cur).length : Int) + 1), IntKind.wrap .i64 (((pre ++ cur).length : Int) + 1), out22)
      else
        again (IntKind.wrap .i64 (((pre ++ cur).length : Int) + 1), IntKind.wrap .i64 (((pre ++ cur).length : Int) + 1), acc)) =
      again ((((pre ++ cur).length + 1 : Nat) : Int), (((pre ++ cur).length + 1 : Nat) : Int), psh cur acc) := by
  have hlen : (pre ++ cur).length ≤ 1000000 := by
    have : s.length = (pre ++ cur).length + r.length := by rw [hs, List.length_append]
    omega
  rw [wrap64 (by omega) (by omega)]
  unfold psh
  by_cases hc : cur = []
  · subst hc
    rw [decide_eq_false (by rw [List.append_nil]; omega), cond_f, if_pos rfl]
    rfl
  · have : 0 < cur.length := List.length_pos_iff.2 hc
    rw [decide_eq_true (by rw [List.length_append]; omega), cond_t, hs, sslice_part, Option.bind_some, appO_eq (by rw [List.length_singleton]; omega), Option.bind_some, if_neg hc]
    rfl

theorem loop19 (s ifs : Str) (hl : s.length ≤ 1000000) : ∀ (t pre cur : Str) (acc : List Str) (m : Nat), t.length + 1 < m → s = pre ++ cur ++ t → acc.length + t.length ≤ 999999 →
    iter (F19_b1 s ifs) m ((pre.length : Int), ((pre ++ cur).length : Int), acc) = some (spl ifs t cur acc)
  | _, _, _, _, 0, h, _, _ => by omega
  | _, _, _, _, 1, h, _, _ => by omega
  | [], pre, cur, acc, m + 2, hm, hs, ha => by
    show F19_b1 s ifs (iter (F19_b1 s ifs) (m + 1)) _ = _
    have he : s.length = (pre ++ cur).length := by rw [hs, List.append_nil]
    rw [F19_b1]
    try dsimp only
    rw [decide_eq_true (by omega), cond_t, decide_eq_false (p := (((pre ++ cur).length : Int) < (s.length : Int))) (by omega)]
    show (Option.bind (guardO false (sidx s ((pre ++ cur).length : Int))) fun c11 => _) = _
    have g : ∀ {α : Type} [Inhabited α] (x : Option α), guardO false x = some default := fun x => rfl
    rw [g, Option.bind_some, g, Option.bind_some, Bool.false_and, cond_f, part19 (ifs := ifs) pre cur [] _ hs hl (by simp at ha; omega)]
    show F19_b1 s ifs (iter (F19_b1 s ifs) m) _ = _
    rw [F19_b1]
    try dsimp only
    rw [decide_eq_false (by omega), cond_f, spl]
  | c :: t, pre, cur, acc, m + 2, hm, hs, ha => by
    show F19_b1 s ifs (iter (F19_b1 s ifs) (m + 1)) _ = _
    have he : s.length = (pre ++ cur).length + (t.length + 1) := by rw [hs, List.length_append, List.length_cons]
    rw [List.length_cons] at hm ha
    rw [F19_b1]
    try dsimp only
    rw [decide_eq_true (by omega), cond_t, decide_eq_true (p := (((pre ++ cur).length : Int) < (s.length : Int))) (by omega), guardO_true]
    have hx : sidx s ((pre ++ cur).length : Int) = some (B c) := by rw [hs]; exact sidx_mid (pre ++ cur) c t
    rw [hx, Option.bind_some, guardO_true, L_IndexByte, Option.bind_some, Bback, Bool.true_and, idx_neg, spl]
    cases hc : ifs.contains c with
    | false =>
      rw [Bool.not_false, cond_t, wrap64 (by omega) (by omega)]
      have := loop19 s ifs hl t pre (cur ++ [c]) acc (m + 1) (by omega) (by rw [hs]; simp) (by omega)
      rw [if_neg (by simp), ← this]
      congr 1
      simp
      omega
    | true =>
      rw [Bool.not_true, cond_f, part19 (ifs := ifs) pre cur (c :: t) _ hs hl (by omega), if_pos rfl]
      have hp := psh_len cur acc
      have := loop19 s ifs hl t (pre ++ cur ++ [c]) [] (psh cur acc) (m + 1) (by omega) (by rw [hs]; simp) (by omega)
      rw [← this]
      congr 1
      simp
      omega

theorem F19_is (s ifs : Str) (hl : s.length ≤ 900000) : F19 s ifs = some (spl ifs s [] []) := by
  unfold F19
  exact loop19 s ifs (by omega) s [] [] [] BIG (by unfold BIG; omega) rfl (by simp; omega)

/-! ### fields -/

def flatF : List Str → Str
  | [] => []
  | x :: l => 32 :: 10 :: (x ++ flatF l)

def okF (x : Str) : Prop := x ≠ [] ∧ (32 : UInt8) ∉ x ∧ (10 : UInt8) ∉ x

theorem spl_free (ifs : Str) : ∀ (x r cur : Str) (acc : List Str), (∀ c ∈ x, ifs.contains c = false) → spl ifs (x ++ r) cur acc = spl ifs r (cur ++ x) acc
  | [], r, cur, acc, h => by rw [List.append_nil]; rfl
  | c :: x, r, cur, acc, h => by
    rw [List.cons_append, spl, h c List.mem_cons_self, if_neg (by simp), spl_free ifs x r _ acc fun d hd => h d (List.mem_cons_of_mem _ hd), List.append_assoc]
    rfl

theorem spl_flat : ∀ (l : List Str) (cur : Str) (acc : List Str), (∀ x ∈ l, okF x) → spl [10, 32] (flatF l) cur acc = psh cur acc ++ l
  | [], cur, acc, h => by rw [flatF, spl, List.append_nil]
  | x :: l, cur, acc, h => by
    have hx := h x List.mem_cons_self
    rw [flatF, spl, if_pos (by decide), spl, if_pos (by decide), spl_free _ x _ _ _ (fun c hc => ?_), spl_flat l _ _ fun y hy => h y (List.mem_cons_of_mem _ hy), List.nil_append]
    · rw [show psh [] (psh cur acc) = psh cur acc from rfl, psh, if_neg hx.1, List.append_assoc]
      rfl
    · rw [Bool.eq_false_iff]
      intro hk
      rw [List.contains_iff_mem] at hk
      simp only [List.mem_cons, List.not_mem_nil, or_false] at hk
      rcases hk with rfl | rfl
      · exact hx.2.2 hc
      · exact hx.2.1 hc

theorem flat_app : ∀ (l : List Str) (x : Str), flatF l ++ (32 :: 10 :: x) = flatF (l ++ [x])
  | [], x => by simp [flatF]
  | y :: l, x => by
    rw [List.cons_append, flatF, flatF, ← flat_app l x]
    simp

theorem flat_len : ∀ (l : List Str) (k : Nat), (∀ x ∈ l, x.length ≤ k) → (flatF l).length ≤ l.length * (k + 2)
  | [], k, h => Nat.zero_le _
  | x :: l, k, h => by
    have := flat_len l k fun y hy => h y (List.mem_cons_of_mem _ hy)
    have := h x List.mem_cons_self
    rw [flatF, List.length_cons, List.length_cons, List.length_append, List.length_cons, Nat.succ_mul]
    omega

/-! ### Here, of no environment -/

theorem F50_nil (g : Int) (nm : Str) : F50 [] g nm = some ([], false) := by
  have e : F75 [] g = some (-1) := by
    unfold F75
    rw [iter_range (body := F75_b1 [] g) [] (fun u i n => (F76 u g).bind fun r => bif r then some i else n) (some (-1)) (fun _ _ => rfl) (by simp)]
    rfl
  unfold F50 F60
  rw [e]
  rfl

theorem F36_nil (nm : Str) (h : nm.length ≤ 1000000000) : F36 [] 1 nm = some [] := by
  unfold F36
  rcases num_is nm h with ⟨n, m, e1, _⟩ | ⟨n, e1, _, h1, _⟩
  · rw [e1, Option.bind_some]
    dsimp only
    rw [cond_f, F50_nil]
    rfl
  · rw [e1, Option.bind_some]
    dsimp only
    rw [cond_t, F50_nil, Option.bind_some]
    dsimp only
    rw [decide_eq_true (by rw [List.length_nil]; omega), cond_t]

theorem F48_one (s : Str) (c : UInt8) : F48 s [c] = some (decide (s.head? = some c)) := by
  unfold F48
  cases s with
  | nil => rfl
  | cons x r =>
    rw [List.length_singleton, decide_eq_true (p := (((1 : Nat) : Int) ≤ ((x :: r).length : Int))) (by rw [List.length_cons]; omega), guardO_true, sslice_take _ 1 (by simp), Option.bind_some]
    simp

theorem F37_one (s : Str) (c : UInt8) : ∃ r, F37 s [c] = some r ∧ r.length ≤ s.length := by
  unfold F37 F51
  rw [F48_one, Option.bind_some]
  by_cases h : s.head? = some c
  · rw [decide_eq_true h, cond_t, List.length_singleton, sslice_drop s 1 (by cases s <;> simp_all)]
    exact ⟨_, rfl, by rw [List.length_drop]; omega⟩
  · rw [decide_eq_false h, cond_f]
    exact ⟨s, rfl, Nat.le_refl _⟩

theorem inner18 (rest c : Str) (again : Str × Str → Option (Str × Int)) (hr : rest.length ≤ 100000) (hc : c.length ≤ 100000)
    (H : ∀ s' b', s'.length ≤ rest.length → b'.length + s'.length ≤ c.length + rest.length + 1 → ∃ r, again (s', b') = some r) : ∃ r, iter (F18_b7 rest c again [] 1) BIG 0 = some r := by
  have h : ∀ (n j : Nat), j ≤ rest.length → rest.length - j < n → ∃ r, iter (F18_b7 rest c again [] 1) n (j : Int) = some r := by
    intro n
    induction n with
    | zero => intro j _ h; omega
    | succ n ih =>
      intro j hj hn
      have fall : ∃ r, ((F34 rest [36]).bind fun r48 =>
          (bif r48 then
            (L_WriteString c [36]).bind fun (n52, c53) =>
            (sslice rest 1 (rest.length : Int)).bind fun t57 =>
            again (t57, c53)
          else
            (bif decide ((j : Int) = 0) then
              (L_WriteString c [36]).bind fun (n61, c62) =>
              again (rest, c62)
            else
              (sslice rest 0 (j : Int)).bind fun t66 =>
              (F36 [] 1 t66).bind fun r69 =>
              (L_Join r69 [32]).bind fun s72 =>
              (L_WriteString c s72).bind fun (n75, c76) =>
              (sslice rest (j : Int) (rest.length : Int)).bind fun t80 =>
              (F37 t80 [94]).bind fun r83 =>
              again (r83, c76)))) = some r := by
        have w1 : L_WriteString c [36] = some (1, c ++ [36]) := by
          unfold L_WriteString
          rw [if_pos (by rw [List.length_singleton]; omega)]
          rfl
        unfold F34
        rw [F48_one, Option.bind_some, Option.bind_some]
        by_cases h1 : rest.head? = some 36
        · rw [decide_eq_true h1, cond_t, w1, Option.bind_some]
          dsimp only
          have : 1 ≤ rest.length := by cases rest <;> simp_all
          have e := sslice_drop rest 1 this
          rw [show ((1 : Nat) : Int) = 1 from rfl] at e
          rw [e, Option.bind_some]
          exact H _ _ (by rw [List.length_drop]; omega) (by rw [List.length_drop, List.length_append, List.length_singleton]; omega)
        · rw [decide_eq_false h1, cond_f]
          by_cases h2 : j = 0
          · rw [decide_eq_true (by omega), cond_t, w1, Option.bind_some]
            exact H _ _ (Nat.le_refl _) (by rw [List.length_append, List.length_singleton]; omega)
          · have w2 : L_WriteString c [] = some (0, c) := by
              unfold L_WriteString
              rw [if_pos (by rw [List.length_nil]; omega), List.append_nil]
              rfl
            have w3 : L_Join [] [32] = some [] := by
              unfold L_Join
              rw [if_pos ⟨by decide, by decide⟩]
              rfl
            obtain ⟨q, hq, hql⟩ := F37_one (rest.drop j) 94
            rw [decide_eq_false (by omega), cond_f, sslice_take rest j hj, Option.bind_some, F36_nil _ (by rw [List.length_take]; omega), Option.bind_some, w3, Option.bind_some, w2, Option.bind_some]
            dsimp only
            rw [sslice_drop rest j hj, Option.bind_some, hq, Option.bind_some]
            rw [List.length_drop] at hql
            exact H _ _ (by omega) (by omega)
      show ∃ r, F18_b7 rest c again [] 1 (iter (F18_b7 rest c again [] 1) n) (j : Int) = some r
      rw [F18_b7]
      by_cases hlt : j < rest.length
      · rw [decide_eq_true (by omega), guardO_true, sidx_at hlt, Option.bind_some, guardO_true]
        obtain ⟨v, hv⟩ : ∃ v, F33 (rest[j].toNat : Int) = some v := ⟨_, rfl⟩
        rw [hv, Option.bind_some, Bool.true_and]
        cases v with
        | true =>
          rw [cond_t, wrap64 (by omega) (by omega)]
          exact ih (j + 1) (by omega) (by omega)
        | false =>
          rw [cond_f]
          exact fall
      · have g : ∀ {α : Type} [Inhabited α] (x : Option α), guardO false x = some default := fun x => rfl
        rw [decide_eq_false (by omega), g, Option.bind_some, g, Option.bind_some, Bool.false_and, cond_f]
        exact fall
  exact h BIG 0 (Nat.zero_le _) (by unfold BIG; omega)

theorem j4_is (b : Str) (h : b.length ≤ 10000) : F18_j4 b = some (b, 0) := by
  rw [F18_j4, L_Len, Option.bind_some, decide_eq_false (by omega), cond_f]
  rfl

theorem F18_run : ∀ (m : Nat) (s b : Str), s.length < m → b.length + s.length ≤ 10000 → ∃ r, iter (F18_b6 [] 1) m (s, b) = some r ∧ ((36 : UInt8) ∉ s → r = (b ++ s, 0))
  | 0, s, b, h, _ => by omega
  | m + 1, s, b, hm, hb => by
    show ∃ r, F18_b6 [] 1 (iter (F18_b6 [] 1) m) (s, b) = some r ∧ _
    rw [F18_b6]
    dsimp only
    by_cases hs : s = []
    · subst hs
      rw [decide_eq_true rfl, Bool.not_true, cond_f, j4_is b (by simp at hb; omega)]
      exact ⟨_, rfl, fun _ => by rw [List.append_nil]⟩
    · rw [decide_eq_false hs, Bool.not_false, cond_t, L_Len, Option.bind_some, decide_eq_true (by omega), cond_t]
      rcases firstOf 36 s with hf | ⟨a, r, hf, rfl⟩
      · rw [L_Cut, if_pos (by omega), cut_free hf, Option.bind_some]
        dsimp only
        rw [L_WriteString, if_pos (by omega), Option.bind_some]
        dsimp only
        rw [Bool.not_false, cond_t, j4_is _ (by rw [List.length_append]; omega)]
        exact ⟨_, rfl, fun _ => rfl⟩
      · rw [List.length_append, List.length_cons] at hb hm
        rw [L_Cut, if_pos (by rw [List.length_append, List.length_cons]; omega), cut_at r hf, Option.bind_some]
        dsimp only
        rw [L_WriteString, if_pos (by omega), Option.bind_some]
        dsimp only
        rw [Bool.not_true, cond_f]
        obtain ⟨q, hq⟩ := inner18 r (b ++ a) (iter (F18_b6 [] 1) m) (by omega) (by rw [List.length_append]; omega) (fun s' b' h1 h2 => by
          rw [List.length_append] at h2
          obtain ⟨q, hq, _⟩ := F18_run m s' b' (by omega) (by omega)
          exact ⟨q, hq⟩)
        exact ⟨q, hq, fun h => absurd (List.mem_append.2 (.inr List.mem_cons_self)) h⟩

theorem F18_nil (s : Str) (h : s.length ≤ 2000) : ∃ r e, F18 [] 1 s = some (r, e) ∧ ((36 : UInt8) ∉ s → r = s ∧ e = 0) := by
  obtain ⟨⟨r, e⟩, h1, h2⟩ := F18_run BIG s [] (by unfold BIG; omega) (by rw [List.length_nil]; omega)
  refine ⟨r, e, h1, fun h => ?_⟩
  have := h2 h
  exact ⟨congrArg Prod.fst this, congrArg Prod.snd this⟩

/-! ### the law -/

def g4 (w t : Str) (k : Str → Option Bool) : (Int → Option Bool) → Int → Option Bool := fun again39 i38 =>
  (bif decide (i38 < (w.length : Int)) then
    (sidx w i38).bind fun c43 =>
    (bif (decide (c43 = 32) || decide (c43 = 10)) then
      (F8).bind fun r47 =>
      some r47
    else
      again39 (IntKind.wrap .i64 (i38 + 1)))
  else
    (catO [32, 10] w).bind fun s50 =>
    (catO t s50).bind fun s53 =>
    k s53)

theorem loopR_free (fin : Option Bool) : ∀ (w : Str) (i : Int), loopR (fun c _ n => bif (decide (c = 32) || decide (c = 10)) then (F8).bind fun r => some r else n) fin (w.map B) i = if (32 : UInt8) ∉ w ∧ (10 : UInt8) ∉ w then fin else some true
  | [], i => by simp [loopR]
  | c :: w, i => by
    rw [List.map_cons, loopR, loopR_free fin w (i + 1)]
    have e1 : decide (B c = 32) = decide (c = 32) := byte_eq c 32
    have e2 : decide (B c = 10) = decide (c = 10) := byte_eq c 10
    rw [e1, e2]
    by_cases h1 : c = 32
    · subst h1
      rw [decide_eq_true rfl, Bool.true_or, cond_t, alive, if_neg (by simp)]
      rfl
    · by_cases h2 : c = 10
      · subst h2
        rw [decide_eq_true (p := (10 : UInt8) = 10) rfl, Bool.or_true, cond_t, alive, if_neg (by simp)]
        rfl
      · rw [decide_eq_false h1, decide_eq_false h2, Bool.or_self, cond_f]
        congr 1
        simp only [List.mem_cons, not_or]
        rw [eq_iff_iff]
        exact ⟨fun h => ⟨⟨fun e => h1 e.symm, h.1⟩, fun e => h2 e.symm, h.2⟩, fun h => ⟨h.1.2, h.2.2⟩⟩

theorem g4_is (w t : Str) (k : Str → Option Bool) (hw : w.length ≤ 2000) (ht : t.length ≤ 100000000) : iter (g4 w t k) BIG 0 = if (32 : UInt8) ∉ w ∧ (10 : UInt8) ∉ w then k (t ++ (32 :: 10 :: w)) else some true := by
  rw [iter_rangeB (body := g4 w t k) w (fun c _ n => bif (decide (c = 32) || decide (c = 10)) then (F8).bind fun r => some r else n) ((catO [32, 10] w).bind fun s50 => (catO t s50).bind fun s53 => k s53) (fun _ _ => rfl) (by omega), loopR_free]
  congr 1
  rw [catO_eq (by simp; omega), Option.bind_some, catO_eq (by simp; omega), Option.bind_some]
  rfl

def G6 : Str → Int → (Str → Option Bool) → Str → Option Bool := fun w _ k t =>
  bif decide (w = []) then (F8).bind fun r => some r else iter (g4 w t k) BIG 0

def fin6 (l : List Str) (t : Str) : Option Bool :=
  (F19 t [10, 32]).bind fun r57 => (F13 r57 l).bind fun r60 => (guardO r60 (F8)).bind fun r63 => some (r60 && r63)

theorem loop6 (l : List Str) (hl : Sh l 2000) : ∀ (r d : List Str) (i : Int), l = d ++ r → (∀ x ∈ d, okF x) → loopS G6 (fin6 l) r i (flatF d) = some true
  | [], d, i, hd, ho => by
    rw [List.append_nil] at hd
    subst hd
    have h1 := flat_len l 2000 fun x hx => hl.mem (by decide) hx
    have h2 := hl.1
    have h3 : l.length * (2000 + 2) ≤ 400 * 2002 := Nat.mul_le_mul_right _ h2
    have hm : l.length ≤ maxLen := by unfold maxLen; omega
    show fin6 l (flatF l) = some true
    rw [fin6, F19_is _ _ (by omega), Option.bind_some, spl_flat l [] [] ho, show psh [] [] ++ l = l from rfl, F13_is l l hm, decide_eq_true rfl, Option.bind_some, guardO_true, alive]
    rfl
  | x :: r, d, i, hd, ho => by
    have hx := hl.mem (by decide) (show x ∈ l by rw [hd]; exact List.mem_append.2 (.inr List.mem_cons_self))
    have h1 := flat_len d 2000 fun y hy => hl.mem (by decide) (show y ∈ l by rw [hd]; exact List.mem_append.2 (.inl hy))
    have h2 := hl.1
    have h3 : d.length ≤ 400 := by rw [hd, List.length_append] at h2; omega
    have h4 : d.length * (2000 + 2) ≤ 400 * 2002 := Nat.mul_le_mul_right _ h3
    rw [loopS, G6]
    by_cases he : x = []
    · rw [decide_eq_true he, cond_t, alive]
      rfl
    · rw [decide_eq_false he, cond_f, g4_is x _ _ hx (by omega)]
      split
      · rename_i hf
        rw [flat_app]
        exact loop6 l hl r (d ++ [x]) (i + 1) (by rw [hd]; simp) fun y hy => by
          rcases List.mem_append.1 hy with h | h
          · exact ho y h
          · rw [List.mem_singleton.1 h]; exact ⟨he, hf⟩
      · rfl

theorem fin_s (s : Str) (hs : s.length ≤ 2000) (l : List Str) (hl : Sh l 2000) (p : Bool) (hp : p = true → (36 : UInt8) ∉ s) :
    ((F18 [] 1 s).bind fun (r20, r21) =>
    (bif (p && (!decide (r20 = s) || !decide (r21 = 0))) then
      some false
    else
      iter (F6_b3 l) BIG ([], 0))) = some true := by
  obtain ⟨r, e, h1, h2⟩ := F18_nil s hs
  have hk : (p && (!decide (r = s) || !decide (e = 0))) = false := by
    cases p with
    | false => rfl
    | true =>
      obtain ⟨e1, e2⟩ := h2 (hp rfl)
      rw [decide_eq_true e1, decide_eq_true e2]
      rfl
  rw [h1, Option.bind_some]
  dsimp only
  rw [hk, cond_f, iter_rangeT (body := F6_b3 l) l G6 (fin6 l) (fun _ _ _ => rfl) (by have := hl.1; omega)]
  exact loop6 l hl l [] 0 rfl fun x hx => by cases hx

theorem outer6 (s : Str) (hs : s.length ≤ 2000) (l : List Str) (hl : Sh l 2000) : ∀ (t pre : Str) (n : Nat) (p : Bool), s = pre ++ t → t.length < n → (p = true → (36 : UInt8) ∉ pre) → iter (F6_b1 s l) n (p, (pre.length : Int)) = some true
  | _, _, 0, _, _, h, _ => absurd h (Nat.not_lt_zero _)
  | [], pre, n + 1, p, he, hn, hp => by
    show F6_b1 s l (iter (F6_b1 s l) n) _ = _
    have hlen : s.length = pre.length := by rw [he, List.append_nil]
    rw [F6_b1]
    dsimp only
    rw [decide_eq_false (by omega), cond_f]
    exact fin_s s hs l hl p fun h => by rw [he, List.append_nil]; exact hp h
  | c :: t, pre, n + 1, p, he, hn, hp => by
    show F6_b1 s l (iter (F6_b1 s l) n) _ = _
    have hlen : s.length = pre.length + (t.length + 1) := by rw [he, List.length_append, List.length_cons]
    have hx : sidx s (pre.length : Int) = some (B c) := by rw [he]; exact sidx_mid pre c t
    rw [F6_b1]
    dsimp only
    rw [decide_eq_true (by omega), cond_t]
    obtain ⟨v, hv, hw⟩ : ∃ v, guardO p (sidx s (pre.length : Int)) = some v ∧ (p = true → v = B c) := by
      cases p with
      | true => exact ⟨B c, hx, fun _ => rfl⟩
      | false => exact ⟨_, rfl, fun h => by cases h⟩
    rw [hv, Option.bind_some, wrap64 (by omega) (by omega)]
    have := outer6 s hs l hl t (pre ++ [c]) n (p && !decide (v = 36)) (by rw [he]; simp) (by rw [List.length_cons] at hn; omega) (fun h => by
      rw [Bool.and_eq_true, Bool.not_eq_true', decide_eq_false_iff_not] at h
      have hv := hw h.1
      have hc : ¬ c = 36 := fun e => h.2 (by rw [hv, e]; rfl)
      intro hm
      rcases List.mem_append.1 hm with h' | h'
      · exact hp h.1 h'
      · exact hc (List.mem_singleton.1 h').symm)
    rw [← this]
    congr 1
    simp

theorem plain6 (s : Str) (ws : s.length ≤ maxLen) (l : List Str) (wl : l.length ≤ maxLen) : F6 s l = some true := by
  unfold F6
  by_cases hs : s.length ≤ 2000
  · rw [decide_eq_false (p := (2000 < (s.length : Int))) (by omega), Bool.not_false, guardO_true]
    simp only [Bool.false_or]
    by_cases hl : Sh l 2000
    · have h := F7_sh hl
      simp only [Int.cast_ofNat_Int] at h
      rw [h, Option.bind_some, Bool.not_true, cond_f]
      exact outer6 s hs l hl s [] BIG true rfl (by unfold BIG; omega) (fun _ h => by cases h)
    · have h := F7_not wl hl
      simp only [Int.cast_ofNat_Int] at h
      rw [h, Option.bind_some, Bool.not_false, cond_t, alive]
      rfl
  · rw [decide_eq_true (p := (2000 < (s.length : Int))) (by omega), Bool.not_true]
    show (Option.bind (guardO false _) fun r4 => _) = _
    have g : ∀ {α : Type} [Inhabited α] (x : Option α), guardO false x = some default := fun x => rfl
    rw [g, Option.bind_some, Bool.true_or, cond_t, alive]
    rfl

theorem law6 (s : Str) (ws : s.length ≤ maxLen) (l : List Str) (wl : l.length ≤ maxLen ∧ ∀ x ∈ l, List.length x ≤ maxLen) : F6 s l = some true := plain6 s ws l wl.1

end Go.Abs.U50
