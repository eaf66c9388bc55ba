/- Layer 50: the plain laws: lists, numbers, environments; Split and Here against the specification. -/
import Derived.Test.YthoacjgjmlgaoaaGreatDoorA34
import Derived.Test.YthoacjgjmlgaoaaGreatDoorD1
import Derived.Lib.IndexBytes
import Derived.Lib.IndexLaws
import Derived.Test.YthoacjgjmlgaoaaGreatDoorTY
import Derived.Lib.Join
set_option linter.unusedVariables false
set_option linter.unusedSimpArgs false
namespace Go.Abs.U5Z
open Go

theorem iter_list {α S R : Type} {body : (Int × S → Option R) → Int × S → Option R} (l : List α) (G : α → Int → (S → Option R) → S → Option R) (fin : S → Option R)
    (hb : ∀ again (i : Nat) (h : i < l.length) s, body again ((i : Int), s) = G l[i] i (fun s' => again ((i : Int) + 1, s')) s)
    (hf : ∀ again s, body again ((l.length : Int), s) = fin s) (hl : l.length ≤ 9223372036854775807) (s : S) :
    iter body BIG (0, s) = loopS G fin l 0 s := by
  have h : ∀ (n j : Nat) (s : S), j ≤ l.length → l.length - j < n → iter body n ((j : Int), s) = loopS G fin (l.drop j) j s := by
    intro n
    induction n with
    | zero => intro j _ _ h; omega
    | succ n ih =>
      intro j s hj hn
      show body (iter body n) (j, s) = _
      by_cases hlt : j < l.length
      · rw [hb _ _ hlt, drop_at hlt]
        simp only [loopS]
        congr 1
        funext s'
        exact ih (j + 1) s' (by omega) (by omega)
      · obtain rfl : j = l.length := by omega
        rw [hf, List.drop_eq_nil_of_le (by omega)]
        rfl
  exact h BIG 0 s (Nat.zero_le _) (by unfold BIG; omega)

/-! ### short -/

def tot : List Str → Nat
  | [] => 0
  | x :: r => min x.length 1048576 + tot r

theorem tot_le : ∀ l : List Str, tot l ≤ l.length * 1048576
  | [] => Nat.zero_le _
  | x :: r => by
    have := tot_le r
    rw [tot, List.length_cons]
    omega

def G7 : Str → Int → (Int → Option Bool) → Int → Option Bool := fun w _ k n => k (IntKind.wrap .i64 (n + imin (w.length : Int) 1048576))

theorem loop7 (fin : Int → Option Bool) : ∀ (l : List Str) (i : Int) (n : Nat), n + tot l ≤ 4611686018427387904 → loopS G7 fin l i n = fin ((n + tot l : Nat) : Int)
  | [], i, n, h => by rw [loopS, tot]; rfl
  | x :: r, i, n, h => by
    rw [tot] at h
    have e : imin (x.length : Int) 1048576 = ((min x.length 1048576 : Nat) : Int) := by unfold imin; split <;> omega
    rw [loopS, G7, e, wrap64 (by omega) (by omega)]
    have := loop7 fin r (i + 1) (n + min x.length 1048576) (by omega)
    rw [tot, show n + (min x.length 1048576 + tot r) = n + min x.length 1048576 + tot r by omega, ← this]
    congr 1

theorem loop7' (fin : Int → Option Bool) : ∀ (l : List Str) (i n : Int), ∃ m, loopS G7 fin l i n = fin m
  | [], i, n => ⟨n, rfl⟩
  | x :: r, i, n => loop7' fin r (i + 1) _

theorem F12_is (l : List Str) (w : l.length ≤ maxLen) (most : Int) : F12 l most = some (decide ((tot l : Int) ≤ most) && decide (l.length ≤ 400)) := by
  unfold maxLen at w
  unfold F12
  rw [iter_rangeT (body := F12_b1 l most) l G7 (fun n => some (decide (n ≤ most) && decide ((l.length : Int) ≤ 400))) (fun _ _ _ => rfl) (by omega)]
  by_cases h : l.length ≤ 400
  · have := loop7 (fun n => some (decide (n ≤ most) && decide ((l.length : Int) ≤ 400))) l 0 0 (by have := tot_le l; omega)
    rw [show ((0 : Nat) : Int) = 0 from rfl] at this
    rw [this, Nat.zero_add, decide_eq_true (p := l.length ≤ 400) h, decide_eq_true (p := ((l.length : Int) ≤ 400)) (by omega)]
  · obtain ⟨m, hm⟩ := loop7' (fun n => some (decide (n ≤ most) && decide ((l.length : Int) ≤ 400))) l 0 0
    rw [hm, decide_eq_false (p := l.length ≤ 400) h, decide_eq_false (p := ((l.length : Int) ≤ 400)) (by omega), Bool.and_false, Bool.and_false]

/-- A short list. -/
def Sh (l : List Str) (most : Nat) : Prop := l.length ≤ 400 ∧ tot l ≤ most

theorem F12_sh {l : List Str} {most : Nat} (h : Sh l most) : F12 l most = some true := by
  rw [F12_is l (by have := h.1; unfold maxLen; omega), decide_eq_true (by have := h.2; omega), decide_eq_true h.1]; rfl

theorem F12_not {l : List Str} {most : Nat} (w : l.length ≤ maxLen) (h : ¬ Sh l most) : F12 l most = some false := by
  rw [F12_is l w]
  by_cases h1 : l.length ≤ 400
  · rw [decide_eq_false (p := (tot l : Int) ≤ most) (fun h2 => h ⟨h1, by omega⟩)]; rfl
  · rw [decide_eq_false (p := l.length ≤ 400) h1, Bool.and_false]

theorem tot_mem : ∀ {l : List Str} {x : Str}, x ∈ l → min x.length 1048576 ≤ tot l
  | y :: r, x, h => by
    rw [tot]
    rcases List.mem_cons.1 h with rfl | h
    · omega
    · have := tot_mem h; omega

theorem Sh.mem {l : List Str} {most : Nat} (h : Sh l most) (hm : most < 1048576) {x : Str} (hx : x ∈ l) : x.length ≤ most := by
  have := tot_mem hx
  have := h.2
  omega

/-! ### equality of lists -/

theorem F9_is (a b : List Str) (w : a.length ≤ maxLen) : F9 a b = some (decide (a = b)) := by
  unfold maxLen at w
  unfold F9
  by_cases hl : a.length = b.length
  · rw [decide_eq_true (by omega)]
    show iter (F9_b1 a b) BIG 0 = _
    have h : ∀ (n j : Nat), j ≤ a.length → a.length - j < n → iter (F9_b1 a b) n (j : Int) = some (decide (a.drop j = b.drop j)) := by
      intro n
      induction n with
      | zero => intro j _ h; omega
      | succ n ih =>
        intro j hj hn
        show F9_b1 a b (iter (F9_b1 a b) n) j = _
        rw [F9_b1]
        by_cases hlt : j < a.length
        · rw [decide_eq_true (by omega), cond_t, lidx_at hlt, Option.bind_some, lidx_at (xs := b) (by omega), Option.bind_some, drop_at hlt, drop_at (l := b) (by omega)]
          by_cases he : a[j] = b[j]
          · rw [decide_eq_true he, Bool.not_true, cond_f, wrap64 (by omega) (by omega), show ((j : Int) + 1) = ((j + 1 : Nat) : Int) by omega, ih (j + 1) (by omega) (by omega), he]
            congr 1
            rw [Bool.eq_iff_iff, decide_eq_true_eq, decide_eq_true_eq]
            exact ⟨fun h => by rw [h], fun h => (List.cons.inj h).2⟩
          · rw [decide_eq_false he, Bool.not_false, cond_t, decide_eq_false]
            intro h
            exact he (List.cons.inj h).1
        · rw [decide_eq_false (by omega), cond_f, List.drop_eq_nil_of_le (by omega), List.drop_eq_nil_of_le (by omega), decide_eq_true rfl]
    have := h BIG 0 (Nat.zero_le _) (by unfold BIG; omega)
    rw [show ((0 : Nat) : Int) = 0 from rfl] at this
    rw [this, List.drop_zero, List.drop_zero]
  · rw [decide_eq_false (p := ((a.length : Int) = (b.length : Int))) (by omega), Bool.not_false, cond_t, decide_eq_false]
    intro h
    exact hl (by rw [h])

/-! ### values -/

def pl (l : List Str) : List GValue := l.map fun x => GValue.mk x []

theorem loop_app {α β R : Type} (sz : Nat) (f : α → β) (fin : List β → Option R) : ∀ (l : List α) (i : Int) (acc : List β), (acc.length + l.length) * sz ≤ 140737488355328 →
    loopS (fun x _ k acc => (appO sz acc [f x]).bind fun out => k out) fin l i acc = fin (acc ++ l.map f)
  | [], i, acc, h => by rw [loopS, List.map_nil, List.append_nil]
  | x :: r, i, acc, h => by
    rw [List.length_cons] at h
    have h1 : (acc.length + 1) * sz ≤ (acc.length + (r.length + 1)) * sz := Nat.mul_le_mul_right _ (by omega)
    rw [loopS, appO_eq (by simpa using Nat.le_trans h1 h), Option.bind_some, loop_app sz f fin r (i + 1) (acc ++ [f x]) (by rw [List.length_append, List.length_singleton, show acc.length + 1 + r.length = acc.length + (r.length + 1) by omega]; exact h), List.append_assoc, List.map_cons]
    rfl

theorem F34_is (l : List Str) (h : l.length ≤ 100000) : F34 l = some (pl l) := by
  unfold F34
  rw [iter_rangeS (body := F34_b1 l) l (fun w _ k acc => (appO 32 acc [GValue.mk w []]).bind fun out => k out) (fun acc => some acc) (fun _ _ _ => rfl) (by omega), loop_app 32 (fun x => GValue.mk x []) _ l 0 [] (by simp; omega)]
  rfl

theorem F35_is (l : List GValue) (h : l.length ≤ 100000) : F35 l = some (l.map GValue.text_) := by
  unfold F35
  rw [iter_rangeS (body := F35_b1 l) l (fun u _ k acc => (appO 16 acc [u.text_]).bind fun out => k out) (fun acc => some acc) (fun _ _ _ => rfl) (by omega), loop_app 16 GValue.text_ _ l 0 [] (by simp; omega)]
  rfl

theorem text_pl (l : List Str) : (pl l).map GValue.text_ = l := by
  unfold pl
  rw [List.map_map]
  exact List.map_id' l

/-! ### Join -/

def jn : List (Str × Str) → List Str → List Str × Int
  | [], acc => (acc, 0)
  | (x, y) :: r, acc => if 65536 < x.length + y.length then ([], 4) else jn r (acc ++ [x ++ y])

theorem jn_bad : ∀ (l : List (Str × Str)) (acc : List Str), (jn l acc).2 ≠ 0 → (jn l acc).1 = []
  | [], acc, h => absurd rfl h
  | (x, y) :: r, acc, h => by
    unfold jn at h ⊢
    split
    · rfl
    · rename_i hc
      rw [if_neg hc] at h
      exact jn_bad r _ h

theorem jn_len : ∀ (l : List (Str × Str)) (acc : List Str), (jn l acc).1.length ≤ acc.length + l.length
  | [], acc => Nat.le_refl _
  | (x, y) :: r, acc => by
    unfold jn
    split
    · exact Nat.zero_le _
    · have := jn_len r (acc ++ [x ++ y])
      rw [List.length_append, List.length_singleton] at this
      rw [List.length_cons]
      omega

def prs (a b : List Str) : List (Str × Str) := (List.range (max a.length b.length)).map fun i => (a.getD (min i (a.length - 1)) [], b.getD (min i (b.length - 1)) [])

theorem prs_len (a b : List Str) : (prs a b).length = max a.length b.length := by
  unfold prs
  rw [List.length_map, List.length_range]

def J (a b : List Str) : List Str × Int := if a.length ≠ b.length ∧ min a.length b.length ≠ 1 then ([], 1) else jn (prs a b) []

theorem prs_mem {a b : List Str} {x y : Str} (h : (x, y) ∈ prs a b) : (x = [] ∨ x ∈ a) ∧ (y = [] ∨ y ∈ b) := by
  unfold prs at h
  obtain ⟨i, _, hi⟩ := List.mem_map.1 h
  cases hi
  have : ∀ (l : List Str) (k : Nat), l.getD k [] = [] ∨ l.getD k [] ∈ l := fun l k => by
    rw [List.getD_eq_getElem?_getD]
    by_cases hk : k < l.length
    · rw [List.getElem?_eq_getElem hk]; exact .inr (List.getElem_mem hk)
    · rw [List.getElem?_eq_none (by omega)]; exact .inl rfl
  exact ⟨this _ _, this _ _⟩

/-- The index of a list. -/
theorem lidx_min (l : List Str) (i : Nat) (h : 0 < l.length) (hm : l.length ≤ 100000) : lidx l (imin (i : Int) (IntKind.wrap .i64 ((l.length : Int) - 1))) = some (l.getD (min i (l.length - 1)) []) := by
  rw [wrap64 (by omega) (by omega), show imin (i : Int) ((l.length : Int) - 1) = ((min i (l.length - 1) : Nat) : Int) by unfold imin; split <;> omega, lidx_nat, List.getD_eq_getElem?_getD, List.getElem?_eq_getElem (by omega)]
  rfl

theorem lidx_minV (l : List Str) (i : Nat) (h : 0 < l.length) (hm : l.length ≤ 100000) : lidx (pl l) (imin (i : Int) (IntKind.wrap .i64 (((pl l).length : Int) - 1))) = some (GValue.mk (l.getD (min i (l.length - 1)) []) []) := by
  have hl : (pl l).length = l.length := by unfold pl; rw [List.length_map]
  rw [hl, wrap64 (by omega) (by omega), show imin (i : Int) ((l.length : Int) - 1) = ((min i (l.length - 1) : Nat) : Int) by unfold imin; split <;> omega, lidx_nat, List.getD_eq_getElem?_getD, List.getElem?_eq_getElem (by omega), List.getElem?_eq_getElem (by omega)]
  simp [pl]

def G10 : Str × Str → Int → (List Str → Option (List Str × Int)) → List Str → Option (List Str × Int) := fun p _ k acc =>
  (catO p.1 p.2).bind fun s => bif decide (65536 < (s.length : Int)) then some ([], 4) else (appO 16 acc [s]).bind fun out => k out

theorem loop10 : ∀ (l : List (Str × Str)) (i : Int) (acc : List Str), acc.length + l.length ≤ 100000 → (∀ p ∈ l, p.1.length ≤ 1000000 ∧ p.2.length ≤ 1000000) → loopS G10 (fun acc => some (acc, 0)) l i acc = some (jn l acc)
  | [], i, acc, h, hl => rfl
  | (x, y) :: r, i, acc, h, hl => by
    rw [List.length_cons] at h
    have := hl _ List.mem_cons_self
    rw [loopS]
    unfold G10 jn
    dsimp only
    rw [catO_eq (by have h1 := this.1; have h2 := this.2; dsimp only at h1 h2; omega), Option.bind_some, List.length_append]
    by_cases hc : 65536 < x.length + y.length
    · rw [decide_eq_true (by omega), cond_t, if_pos hc]
    · rw [decide_eq_false (by omega), cond_f, if_neg hc, appO_eq (by simp; omega), Option.bind_some]
      exact loop10 r (i + 1) _ (by rw [List.length_append, List.length_singleton]; omega) fun p hp => hl p (List.mem_cons_of_mem _ hp)

def G21 : Str × Str → Int → (List GValue → Option (List GValue × Int)) → List GValue → Option (List GValue × Int) := fun p _ k acc =>
  (F47 (GValue.mk p.1 []) (GValue.mk p.2 [])).bind fun (v, e) => bif !decide (e = 0) then some ([], e) else (appO 32 acc [v]).bind fun out => k out

theorem F47_pl (x y : Str) (hx : x.length ≤ 1000000) (hy : y.length ≤ 1000000) : F47 (GValue.mk x []) (GValue.mk y []) = if 65536 < x.length + y.length then some (GValue.mk [] [], 4) else some (GValue.mk (x ++ y) [], 0) := by
  unfold F47
  dsimp only
  rw [wrap64 (by omega) (by omega)]
  by_cases hc : 65536 < x.length + y.length
  · rw [decide_eq_true (by omega), cond_t, if_pos hc]
  · rw [decide_eq_false (by omega), cond_f, if_neg hc, catO_eq (by omega), Option.bind_some, catO_eq (by simp), Option.bind_some]
    rfl

theorem loop21 : ∀ (l : List (Str × Str)) (i : Int) (acc : List Str), acc.length + l.length ≤ 100000 → (∀ p ∈ l, p.1.length ≤ 1000000 ∧ p.2.length ≤ 1000000) → loopS G21 (fun acc => some (acc, 0)) l i (pl acc) = some (pl (jn l acc).1, (jn l acc).2)
  | [], i, acc, h, hl => rfl
  | (x, y) :: r, i, acc, h, hl => by
    rw [List.length_cons] at h
    have := hl _ List.mem_cons_self
    rw [loopS]
    unfold G21 jn
    dsimp only
    rw [F47_pl x y this.1 this.2]
    by_cases hc : 65536 < x.length + y.length
    · rw [if_pos hc, if_pos hc, Option.bind_some]
      rfl
    · rw [if_neg hc, if_neg hc, Option.bind_some]
      dsimp only
      rw [decide_eq_true rfl, Bool.not_true, cond_f, appO_eq (by simp [pl]; omega), Option.bind_some, show pl acc ++ [GValue.mk (x ++ y) []] = pl (acc ++ [x ++ y]) by simp [pl]]
      exact loop21 r (i + 1) _ (by rw [List.length_append, List.length_singleton]; omega) fun p hp => hl p (List.mem_cons_of_mem _ hp)

theorem F33_is (a b : List Str) (ha : a.length ≤ 400) (hb : b.length ≤ 400) (la : ∀ x ∈ a, x.length ≤ 1000000) (lb : ∀ x ∈ b, x.length ≤ 1000000) : F33 (pl a) (pl b) = some (pl (J a b).1, (J a b).2) := by
  have hla : (pl a).length = a.length := by unfold pl; rw [List.length_map]
  have hlb : (pl b).length = b.length := by unfold pl; rw [List.length_map]
  have hmn : imin (a.length : Int) (b.length : Int) = ((min a.length b.length : Nat) : Int) := by unfold imin; split <;> omega
  have hmx : imax (a.length : Int) (b.length : Int) = ((max a.length b.length : Nat) : Int) := by unfold imax; split <;> omega
  unfold F33 J
  rw [hla, hlb, hmn]
  by_cases hc : a.length ≠ b.length ∧ min a.length b.length ≠ 1
  · rw [if_pos hc, decide_eq_false (p := ((a.length : Int) = (b.length : Int))) (by omega), decide_eq_false (p := (((min a.length b.length : Nat) : Int) = 1)) (by omega)]
    rfl
  · rw [if_neg hc]
    have : (!decide ((a.length : Int) = (b.length : Int)) && !decide (((min a.length b.length : Nat) : Int) = 1)) = false := by
      simp only [Bool.and_eq_false_iff, Bool.not_eq_false', decide_eq_true_eq]
      omega
    rw [this, cond_f, iter_list (body := F33_b1 (pl a) (pl b)) (prs a b) G21 (fun acc => some (acc, 0)) (fun again i h s => ?_) (fun again s => ?_) (by rw [prs_len]; omega)]
    · exact loop21 (prs a b) 0 [] (by rw [prs_len, List.length_nil]; omega) (fun p hp => by
        obtain ⟨h1, h2⟩ := prs_mem (x := p.1) (y := p.2) hp
        refine ⟨?_, ?_⟩
        · rcases h1 with h | h
          · rw [h]; exact Nat.zero_le _
          · exact la _ h
        · rcases h2 with h | h
          · rw [h]; exact Nat.zero_le _
          · exact lb _ h)
    · rw [prs_len] at h
      have e : (prs a b)[i] = (a.getD (min i (a.length - 1)) [], b.getD (min i (b.length - 1)) []) := by simp [prs]
      unfold F33_b1
      dsimp only
      rw [lidx_minV a i (by omega) (by omega), lidx_minV b i (by omega) (by omega), hla, hlb, hmx, decide_eq_true (by omega), cond_t, Option.bind_some, Option.bind_some, e, wrap64 (by omega) (by omega)]
      rfl
    · unfold F33_b1
      dsimp only
      rw [prs_len, hla, hlb, hmx, decide_eq_false (by omega), cond_f]

theorem J_bad (a b : List Str) (h : (J a b).2 ≠ 0) : (J a b).1 = [] := by
  unfold J at h ⊢
  split
  · rfl
  · rename_i hc
    rw [if_neg hc] at h
    exact jn_bad _ _ h

theorem J_len (a b : List Str) : (J a b).1.length ≤ max a.length b.length := by
  unfold J
  split
  · exact Nat.zero_le _
  · have := jn_len (prs a b) []
    rw [prs_len, List.length_nil] at this
    omega

theorem F16_is (a b : List Str) (ha : a.length ≤ 400) (hb : b.length ≤ 400) (la : ∀ x ∈ a, x.length ≤ 1000000) (lb : ∀ x ∈ b, x.length ≤ 1000000) : F16 a b = some (J a b) := by
  unfold F16
  rw [F34_is a (by omega), Option.bind_some, F34_is b (by omega), Option.bind_some, F33_is a b ha hb la lb, Option.bind_some]
  dsimp only
  by_cases h : (J a b).2 = 0
  · have := J_len a b
    rw [decide_eq_true h, Bool.not_true, cond_f, F35_is _ (by unfold pl; rw [List.length_map]; omega), Option.bind_some, text_pl]
    congr 1
    exact Prod.ext rfl h.symm
  · rw [decide_eq_false h, Bool.not_false, cond_t]
    congr 1
    exact Prod.ext (J_bad a b h).symm rfl



theorem alive : F6 = some true := by kernel_rfl

/-! ### numbers -/

theorem tab_itoa : ((List.range 256).all fun v => decide (F44 (Lib.itoa ((v : Int) + 1)) = some ((v : Int) + 1, true))) = true := by kernel_rfl

theorem tab_atoi : ((List.range 256).all fun v => decide (F37 (Lib.itoa ((v : Int) + 1)) = some ((v : Int) + 1, true))) = true := by kernel_rfl

theorem tab_dig : ((List.range 10).all fun x => (List.range 10).all fun y => (List.range 10).all fun z => decide (x = 0) || decide (Lib.itoa ((100 * x + 10 * y + z : Nat) : Int) = [UInt8.ofNat (48 + x), UInt8.ofNat (48 + y), UInt8.ofNat (48 + z)])) = true := by kernel_rfl

theorem tab_dig2 : ((List.range 10).all fun y => (List.range 10).all fun z => decide (y = 0) || decide (Lib.itoa ((10 * y + z : Nat) : Int) = [UInt8.ofNat (48 + y), UInt8.ofNat (48 + z)])) = true := by kernel_rfl

theorem tab_dig1 : ((List.range 10).all fun z => decide (z = 0) || decide (Lib.itoa ((z : Nat) : Int) = [UInt8.ofNat (48 + z)])) = true := by kernel_rfl

theorem at_itoa {v : Int} (h1 : 1 ≤ v) (h2 : v ≤ 256) : F44 (Lib.itoa v) = some (v, true) ∧ F37 (Lib.itoa v) = some (v, true) := by
  have a := List.all_eq_true.1 tab_itoa (v - 1).toNat (List.mem_range.2 (by omega))
  have b := List.all_eq_true.1 tab_atoi (v - 1).toNat (List.mem_range.2 (by omega))
  have e : (((v - 1).toNat : Nat) : Int) + 1 = v := by omega
  rw [e] at a b
  exact ⟨of_decide_eq_true a, of_decide_eq_true b⟩

theorem wrap8 {n : Int} (h1 : 0 ≤ n) (h2 : n < 256) : IntKind.wrap .u8 n = n := by
  simp only [IntKind.wrap, IntKind.bits, IntKind.signed]
  simp
  omega

def dgs : List UInt8 → Int → Option Int
  | [], n => some n
  | c :: r, n => if c.toNat < 48 ∨ 57 < c.toNat then none else dgs r (10 * n + ((c.toNat : Int) - 48))

def fin25 (s : Str) (n : Int) : Option (Int × Bool) :=
  (guardO ((decide (1 ≤ n) && decide (n ≤ 256)) && decide ((s.length : Int) < 4)) (sidx s 0)).bind fun c14 =>
    some (n, (((decide (1 ≤ n) && decide (n ≤ 256)) && decide ((s.length : Int) < 4)) && !decide (c14 = 48)))

theorem loop25 (s : Str) (hs : s.length ≤ 1000000000) : ∀ (m j : Nat) (n : Int), j ≤ s.length → j ≤ 4 → 4 - j < m → 0 ≤ n → n < 10 ^ j →
    iter (F44_b1 s) m (n, (j : Int)) = match dgs ((s.take 4).drop j) n with | none => some (0, false) | some v => fin25 s v
  | 0, j, n, h, h4, hm, h0, h1 => by omega
  | m + 1, j, n, h, h4, hm, h0, h1 => by
    show F44_b1 s (iter (F44_b1 s) m) (n, (j : Int)) = _
    rw [F44_b1]
    by_cases hj : j < s.length ∧ j < 4
    · have hd : (s.take 4).drop j = s[j] :: (s.take 4).drop (j + 1) := by
        rw [drop_at (l := s.take 4) (by rw [List.length_take]; omega), List.getElem_take]
      have hp : (10 : Int) ^ j ≤ 1000 := by
        have : j ≤ 3 := by omega
        match j, this with
        | 0, _ => decide
        | 1, _ => decide
        | 2, _ => decide
        | 3, _ => decide
      have hc := UInt8.toNat_lt s[j]
      rw [decide_eq_true (p := ((j : Int) < (s.length : Int))) (by omega), decide_eq_true (p := ((j : Int) < 4)) (by omega), Bool.and_self, cond_t, sidx_at hj.1, Option.bind_some, hd, dgs]
      by_cases hb : s[j].toNat < 48 ∨ 57 < s[j].toNat
      · rw [if_pos hb]
        have : (decide ((s[j].toNat : Int) < 48) || decide (57 < (s[j].toNat : Int))) = true := by
          rw [Bool.or_eq_true, decide_eq_true_eq, decide_eq_true_eq]
          omega
        rw [this, cond_t]
      · rw [if_neg hb]
        have : (decide ((s[j].toNat : Int) < 48) || decide (57 < (s[j].toNat : Int))) = false := by
          rw [Bool.or_eq_false_iff, decide_eq_false_iff_not, decide_eq_false_iff_not]
          omega
        rw [this, cond_f, wrap8 (by omega) (by omega), wrap64 (n := (s[j].toNat : Int) - 48) (by omega) (by omega), wrap64 (n := 10 * n) (by omega) (by omega), wrap64 (n := 10 * n + ((s[j].toNat : Int) - 48)) (by omega) (by omega), wrap64 (by omega) (by omega)]
        have := loop25 s hs m (j + 1) (10 * n + ((s[j].toNat : Int) - 48)) (by omega) (by omega) (by omega) (by omega) (by rw [Int.pow_succ]; omega)
        rw [← this]
        rfl
    · have hd : (s.take 4).drop j = [] := List.drop_eq_nil_of_le (by rw [List.length_take]; omega)
      have : (decide ((j : Int) < (s.length : Int)) && decide ((j : Int) < 4)) = false := by
        rw [Bool.and_eq_false_iff, decide_eq_false_iff_not, decide_eq_false_iff_not]
        omega
      rw [this, cond_f, hd, dgs]
      rfl

theorem F44_is (s : Str) (hs : s.length ≤ 1000000000) : F44 s = match dgs (s.take 4) 0 with | none => some (0, false) | some v => fin25 s v := by
  have := loop25 s hs BIG 0 0 (Nat.zero_le _) (by omega) (by unfold BIG; omega) (Int.le_refl _) (by decide)
  rw [show ((0 : Nat) : Int) = 0 from rfl, List.drop_zero] at this
  exact this

theorem dig_of {c : UInt8} (h : ¬ (c.toNat < 48 ∨ 57 < c.toNat)) : ∃ x, x < 10 ∧ c = UInt8.ofNat (48 + x) ∧ (c.toNat : Int) - 48 = (x : Int) :=
  ⟨c.toNat - 48, by omega, by rw [show 48 + (c.toNat - 48) = c.toNat by omega, UInt8.ofNat_toNat], by omega⟩

/-- What F44 takes for a number is one's numeral. -/
theorem F44_num (s : Str) (hs : s.length ≤ 1000000000) (n : Int) (h : F44 s = some (n, true)) : 1 ≤ n ∧ n ≤ 256 ∧ s = Lib.itoa n := by
  rw [F44_is s hs] at h
  cases hd : dgs (s.take 4) 0 with
  | none => rw [hd] at h; cases h
  | some v =>
    rw [hd] at h
    dsimp only at h
    unfold fin25 at h
    obtain ⟨c, hc, h⟩ := Option.bind_eq_some_iff.1 h
    have h := Option.some.inj h
    have hv : v = n := congrArg Prod.fst h
    have hk : (((decide (1 ≤ v) && decide (v ≤ 256)) && decide ((s.length : Int) < 4)) && !decide (c = 48)) = true := congrArg Prod.snd h
    simp only [Bool.and_eq_true, decide_eq_true_eq, Bool.not_eq_true', decide_eq_false_iff_not] at hk
    obtain ⟨⟨⟨k1, k2⟩, k3⟩, k4⟩ := hk
    subst hv
    refine ⟨k1, k2, ?_⟩
    rw [decide_eq_true k1, decide_eq_true k2, decide_eq_true k3] at hc
    replace hc : sidx s 0 = some c := hc
    rw [List.take_of_length_le (by omega)] at hd
    match s, k3 with
    | [], _ => simp [dgs] at hd; omega
    | [a], _ =>
      have hc0 : (a.toNat : Int) = c := Option.some.inj hc
      rw [dgs] at hd
      split at hd
      · cases hd
      · rename_i ha
        obtain ⟨x, hx, ex, vx⟩ := dig_of ha
        rw [dgs, vx] at hd
        have hv := Option.some.inj hd
        have t := List.all_eq_true.1 tab_dig1 x (List.mem_range.2 hx)
        rw [Bool.or_eq_true, decide_eq_true_eq, decide_eq_true_eq] at t
        rcases t with t | t
        · omega
        · rw [← hv, show 10 * (0 : Int) + (x : Int) = (x : Int) by omega, t, ex]
    | [a, b], _ =>
      have hc0 : (a.toNat : Int) = c := Option.some.inj hc
      rw [dgs] at hd
      split at hd
      · cases hd
      · rename_i ha
        obtain ⟨x, hx, ex, vx⟩ := dig_of ha
        rw [dgs] at hd
        split at hd
        · cases hd
        · rename_i hb
          obtain ⟨y, hy, ey, vy⟩ := dig_of hb
          rw [dgs, vx, vy] at hd
          have hv := Option.some.inj hd
          have t := List.all_eq_true.1 (List.all_eq_true.1 tab_dig2 x (List.mem_range.2 hx)) y (List.mem_range.2 hy)
          rw [Bool.or_eq_true, decide_eq_true_eq, decide_eq_true_eq] at t
          rcases t with t | t
          · omega
          · rw [← hv, show 10 * (10 * (0 : Int) + (x : Int)) + (y : Int) = ((10 * x + y : Nat) : Int) by omega, t, ex, ey]
    | [a, b, d], _ =>
      have hc0 : (a.toNat : Int) = c := Option.some.inj hc
      rw [dgs] at hd
      split at hd
      · cases hd
      · rename_i ha
        obtain ⟨x, hx, ex, vx⟩ := dig_of ha
        rw [dgs] at hd
        split at hd
        · cases hd
        · rename_i hb
          obtain ⟨y, hy, ey, vy⟩ := dig_of hb
          rw [dgs] at hd
          split at hd
          · cases hd
          · rename_i hdd
            obtain ⟨z, hz, ez, vz⟩ := dig_of hdd
            rw [dgs, vx, vy, vz] at hd
            have hv := Option.some.inj hd
            have t := List.all_eq_true.1 (List.all_eq_true.1 (List.all_eq_true.1 tab_dig x (List.mem_range.2 hx)) y (List.mem_range.2 hy)) z (List.mem_range.2 hz)
            rw [Bool.or_eq_true, decide_eq_true_eq, decide_eq_true_eq] at t
            rcases t with t | t
            · omega
            · rw [← hv, show 10 * (10 * (10 * (0 : Int) + (x : Int)) + (y : Int)) + (z : Int) = ((100 * x + 10 * y + z : Nat) : Int) by omega, t, ex, ey, ez]
    | _ :: _ :: _ :: _ :: r, h => simp at h; omega

theorem F44_any (s : Str) (hs : s.length ≤ 1000000000) : ∃ n ok, F44 s = some (n, ok) := by
  rw [F44_is s hs]
  cases hd : dgs (s.take 4) 0 with
  | none => exact ⟨0, false, rfl⟩
  | some v =>
    show ∃ n ok, fin25 s v = some (n, ok)
    unfold fin25
    by_cases h : ((decide (1 ≤ v) && decide (v ≤ 256)) && decide ((s.length : Int) < 4)) = true
    · rw [h, guardO_true]
      match s, hd, h with
      | [], hd, h => simp [dgs] at hd; subst hd; simp at h
      | a :: r, _, _ => exact ⟨_, _, rfl⟩
    · rw [Bool.not_eq_true] at h
      rw [h]
      exact ⟨_, _, rfl⟩

theorem L_Atoi_any (s : Str) (hs : s.length ≤ 1000000000) : ∃ n bad, L_Atoi s = some (n, bad) := by
  unfold L_Atoi
  rw [if_pos (by omega)]
  split
  · exact ⟨_, _, rfl⟩
  · exact ⟨_, _, rfl⟩
  · exact ⟨_, _, rfl⟩

/-- The two readings of a number. -/
theorem num_is (s : Str) (hs : s.length ≤ 1000000000) : (∃ n m, F37 s = some (n, false) ∧ F44 s = some (m, false)) ∨ ∃ n, F37 s = some (n, true) ∧ F44 s = some (n, true) ∧ 1 ≤ n ∧ n ≤ 256 := by
  obtain ⟨m, ok, h25⟩ := F44_any s hs
  cases ok with
  | true =>
    obtain ⟨h1, h2, h3⟩ := F44_num s hs m h25
    exact .inr ⟨m, by rw [h3]; exact (at_itoa h1 h2).2, h25, h1, h2⟩
  | false =>
    refine .inl ?_
    obtain ⟨n, bad, ha⟩ := L_Atoi_any s hs
    refine ⟨n, m, ?_, h25⟩
    unfold F37
    rw [ha, Option.bind_some]
    dsimp only
    by_cases hg : ((!bad && decide (1 ≤ n)) && decide (n ≤ 256)) = true
    · have hg' := hg
      simp only [Bool.and_eq_true, decide_eq_true_eq] at hg'
      rw [hg, guardO_true, L_Itoa, if_pos (by omega), Option.bind_some, Bool.true_and, decide_eq_false]
      intro e
      rw [← e, (at_itoa hg'.1.2 hg'.2).1] at h25
      cases h25
    · rw [Bool.not_eq_true] at hg
      rw [hg]
      rfl

/-! ### Index -/

def GI (N : Str → Option (Int × Bool)) (vs : List Str) : Str → Int → (List Str → Option (List Str × Int)) → List Str → Option (List Str × Int) := fun w _ k acc =>
  (N w).bind fun (r14, r15) => bif !r15 then some ([], 5) else bif decide (r14 ≤ (vs.length : Int)) then (lidx vs (IntKind.wrap .i64 (r14 - 1))).bind fun w20 => (appO 16 acc [w20]).bind fun out => k out else k acc

theorem loopI (vs : List Str) : ∀ (l : List Str) (i : Int) (acc : List Str), acc.length + l.length ≤ 100000 → (∀ x ∈ l, x.length ≤ 1000000000) →
    ∃ r, loopS (GI F37 vs) (fun acc => some (acc, 0)) l i acc = some r ∧ loopS (GI F44 vs) (fun acc => some (acc, 0)) l i acc = some r ∧ r.1.length ≤ acc.length + l.length
  | [], i, acc, h, hl => ⟨(acc, 0), rfl, rfl, Nat.le_refl _⟩
  | x :: r, i, acc, h, hl => by
    rw [List.length_cons] at h
    rw [loopS, loopS]
    unfold GI
    dsimp only
    rcases num_is x (hl x List.mem_cons_self) with ⟨n, m, e1, e2⟩ | ⟨n, e1, e2, h1, h2⟩
    · rw [e1, e2]
      exact ⟨([], 5), rfl, rfl, Nat.zero_le _⟩
    · rw [e1, e2, Option.bind_some, Option.bind_some]
      dsimp only
      rw [Bool.not_true, cond_f, cond_f]
      by_cases hn : n ≤ (vs.length : Int)
      · rw [decide_eq_true hn, cond_t, cond_t, wrap64 (by omega) (by omega), show n - 1 = (((n - 1).toNat : Nat) : Int) by omega, lidx_at (by omega), Option.bind_some, Option.bind_some, appO_eq (by simp; omega), Option.bind_some, Option.bind_some]
        obtain ⟨q, a, b, c⟩ := loopI vs r (i + 1) (acc ++ [vs[(n - 1).toNat]'(by omega)]) (by rw [List.length_append, List.length_singleton]; omega) fun y hy => hl y (List.mem_cons_of_mem _ hy)
        refine ⟨q, a, b, ?_⟩
        rw [List.length_append, List.length_singleton] at c
        rw [List.length_cons]
        omega
      · rw [decide_eq_false hn, cond_f, cond_f]
        obtain ⟨q, a, b, c⟩ := loopI vs r (i + 1) acc (by omega) fun y hy => hl y (List.mem_cons_of_mem _ hy)
        exact ⟨q, a, b, by rw [List.length_cons]; omega⟩

/-! ### the law -/



/-! ### bytes -/

theorem indexByte_free (c : UInt8) : ∀ a : Str, c ∉ a → Lib.indexByte a c = -1
  | [], _ => rfl
  | x :: a, h => by
    simp only [List.mem_cons, not_or] at h
    have ih := indexByte_free c a h.2
    have h3 : ¬ x = c := fun e => h.1 e.symm
    simp [Lib.indexByte, ih, h3]

theorem indexByte_at (c : UInt8) (b : Str) : ∀ a : Str, c ∉ a → Lib.indexByte (a ++ c :: b) c = (a.length : Int)
  | [], _ => by simp [Lib.indexByte]
  | x :: a, h => by
    simp only [List.mem_cons, not_or] at h
    have ih := indexByte_at c b a h.2
    have h1 : ¬ ((a.length : Int) = -1) := by omega
    have h3 : ¬ x = c := fun e => h.1 e.symm
    simp [Lib.indexByte, ih, h3, h1]

theorem cut_free {c : UInt8} {a : Str} (h : c ∉ a) : Lib.cut a [c] = (a, [], false) := by
  unfold Lib.cut
  rw [Lib.index_one, indexByte_free c a h]
  rfl

theorem cut_at {c : UInt8} {a : Str} (b : Str) (h : c ∉ a) : Lib.cut (a ++ c :: b) [c] = (a, b, true) := by
  unfold Lib.cut
  rw [Lib.index_one, indexByte_at c b a h, if_pos (by omega)]
  simp

theorem firstOf (c : UInt8) : ∀ t : Str, c ∉ t ∨ ∃ a b, c ∉ a ∧ t = a ++ c :: b
  | [] => .inl (by simp)
  | x :: t => by
    by_cases h : x = c
    · exact .inr ⟨[], t, by simp, by rw [h]; rfl⟩
    · rcases firstOf c t with h1 | ⟨a, b, h1, h2⟩
      · exact .inl (by simp only [List.mem_cons, not_or]; exact ⟨fun e => h e.symm, h1⟩)
      · exact .inr ⟨x :: a, b, by simp only [List.mem_cons, not_or]; exact ⟨fun e => h e.symm, h1⟩, by rw [h2]; rfl⟩

theorem sidx_mid (pre : Str) (c : UInt8) (r : Str) : sidx (pre ++ c :: r) (pre.length : Int) = some (B c) := by
  rw [sidx_nat]
  simp [B]

theorem sslice_part (pre a r : Str) : sslice (pre ++ a ++ r) (pre.length : Int) ((pre ++ a).length : Int) = some a := by
  unfold sslice
  rw [if_pos ⟨by omega, by simp only [List.length_append]; omega, by simp only [List.length_append]; omega⟩]
  have : (((pre ++ a).length : Int)).toNat - (pre.length : Int).toNat = a.length := by simp only [List.length_append]; omega
  rw [this, Int.toNat_natCast]
  simp

theorem sslice_drop (s : Str) (j : Nat) (h : j ≤ s.length) : sslice s (j : Int) (s.length : Int) = some (s.drop j) := by
  unfold sslice
  rw [if_pos ⟨by omega, by omega, by omega⟩, Int.toNat_natCast, Int.toNat_natCast, List.take_of_length_le (by rw [List.length_drop]; omega)]

theorem sslice_take (s : Str) (j : Nat) (h : j ≤ s.length) : sslice s 0 (j : Int) = some (s.take j) := by
  unfold sslice
  rw [if_pos ⟨by omega, by omega, by omega⟩]
  rfl

theorem Bback (c : UInt8) : (B c).toNat.toUInt8 = c := by
  unfold B
  rw [Int.toNat_natCast]
  exact UInt8.ofNat_toNat

theorem idx_contains (c : UInt8) : ∀ l : Str, decide (0 ≤ Lib.indexByte l c) = l.contains c
  | [] => by simp [Lib.indexByte]
  | x :: l => by
    have ih := idx_contains c l
    have hge := Lib.indexByte_ge l c
    rw [List.contains_cons, ← ih]
    by_cases hx : x = c
    · subst hx
      simp [Lib.indexByte]
    · have hx' : (c == x) = false := by simp; exact fun e => hx e.symm
      rw [hx', Bool.false_or]
      by_cases h1 : Lib.indexByte l c = -1
      · have : Lib.indexByte (x :: l) c = -1 := by simp [Lib.indexByte, hx, h1]
        rw [this, h1]
      · have : Lib.indexByte (x :: l) c = Lib.indexByte l c + 1 := by simp [Lib.indexByte, hx, h1]
        rw [this, decide_eq_true (by omega), decide_eq_true (by omega)]

theorem idx_neg (c : UInt8) (l : Str) : decide (Lib.indexByte l c < 0) = !l.contains c := by
  rw [← idx_contains c l]
  by_cases h : (0 : Int) ≤ Lib.indexByte l c
  · rw [decide_eq_true h, decide_eq_false (by omega)]; rfl
  · rw [decide_eq_false h, decide_eq_true (by omega)]; rfl

/-! ### Split -/

def psh (cur : Str) (acc : List Str) : List Str := if cur = [] then acc else acc ++ [cur]

def spl (ifs : Str) : Str → Str → List Str → List Str
  | [], cur, acc => psh cur acc
  | c :: t, cur, acc => if ifs.contains c then spl ifs t [] (psh cur acc) else spl ifs t (cur ++ [c]) acc

theorem psh_len (cur : Str) (acc : List Str) : (psh cur acc).length ≤ acc.length + 1 := by
  unfold psh
  split
  · omega
  · rw [List.length_append, List.length_singleton]; omega

/-- The part between two separators. -/
theorem part19 {s ifs : Str} {acc : List Str} (pre cur r : Str) (again : Int × Int × List Str → Option (List Str)) (hs : s = pre ++ cur ++ r) (hl : s.length ≤ 1000000) (ha : acc.length ≤ 1000000) :
    (bif decide ((pre.length : Int) < ((pre ++ cur).length : Int)) then
        (sslice s (pre.length : Int) ((pre ++ cur).length : Int)).bind fun t19 =>
        (appO 16 acc [t19]).bind fun out22 =>
        again (IntKind.wrap .i64 (((pre ++ cur).length : Int) + 1), IntKind.wrap .i64 (((pre ++ cur).length : Int) + 1), out22)
      else
        again (IntKind.wrap .i64 (((pre ++ cur).length : Int) + 1), IntKind.wrap .i64 (((pre ++ cur).length : Int) + 1), acc)) =
      again ((((pre ++ cur).length + 1 : Nat) : Int), (((pre ++ cur).length + 1 : Nat) : Int), psh cur acc) := by
  have hlen : (pre ++ cur).length ≤ 1000000 := by
    have : s.length = (pre ++ cur).length + r.length := by rw [hs, List.length_append]
    omega
  rw [wrap64 (by omega) (by omega)]
  unfold psh
  by_cases hc : cur = []
  · subst hc
    rw [decide_eq_false (by rw [List.append_nil]; omega), cond_f, if_pos rfl]
    rfl
  · have : 0 < cur.length := List.length_pos_iff.2 hc
    rw [decide_eq_true (by rw [List.length_append]; omega), cond_t, hs, sslice_part, Option.bind_some, appO_eq (by rw [List.length_singleton]; omega), Option.bind_some, if_neg hc]
    rfl

theorem loop19 (s ifs : Str) (hl : s.length ≤ 1000000) : ∀ (t pre cur : Str) (acc : List Str) (m : Nat), t.length + 1 < m → s = pre ++ cur ++ t → acc.length + t.length ≤ 999999 →
    iter (F10_b1 s ifs) m ((pre.length : Int), ((pre ++ cur).length : Int), acc) = some (spl ifs t cur acc)
  | _, _, _, _, 0, h, _, _ => by omega
  | _, _, _, _, 1, h, _, _ => by omega
  | [], pre, cur, acc, m + 2, hm, hs, ha => by
    show F10_b1 s ifs (iter (F10_b1 s ifs) (m + 1)) _ = _
    have he : s.length = (pre ++ cur).length := by rw [hs, List.append_nil]
    rw [F10_b1]
    try dsimp only
    rw [decide_eq_true (by omega), cond_t, decide_eq_false (p := (((pre ++ cur).length : Int) < (s.length : Int))) (by omega)]
    show (Option.bind (guardO false (sidx s ((pre ++ cur).length : Int))) fun c11 => _) = _
    have g : ∀ {α : Type} [Inhabited α] (x : Option α), guardO false x = some default := fun x => rfl
    rw [g, Option.bind_some, g, Option.bind_some, Bool.false_and, cond_f, part19 (ifs := ifs) pre cur [] _ hs hl (by simp at ha; omega)]
    show F10_b1 s ifs (iter (F10_b1 s ifs) m) _ = _
    rw [F10_b1]
    try dsimp only
    rw [decide_eq_false (by omega), cond_f, spl]
  | c :: t, pre, cur, acc, m + 2, hm, hs, ha => by
    show F10_b1 s ifs (iter (F10_b1 s ifs) (m + 1)) _ = _
    have he : s.length = (pre ++ cur).length + (t.length + 1) := by rw [hs, List.length_append, List.length_cons]
    rw [List.length_cons] at hm ha
    rw [F10_b1]
    try dsimp only
    rw [decide_eq_true (by omega), cond_t, decide_eq_true (p := (((pre ++ cur).length : Int) < (s.length : Int))) (by omega), guardO_true]
    have hx : sidx s ((pre ++ cur).length : Int) = some (B c) := by rw [hs]; exact sidx_mid (pre ++ cur) c t
    rw [hx, Option.bind_some, guardO_true, L_IndexByte, Option.bind_some, Bback, Bool.true_and, idx_neg, spl]
    cases hc : ifs.contains c with
    | false =>
      rw [Bool.not_false, cond_t, wrap64 (by omega) (by omega)]
      have := loop19 s ifs hl t pre (cur ++ [c]) acc (m + 1) (by omega) (by rw [hs]; simp) (by omega)
      rw [if_neg (by simp), ← this]
      congr 1
      simp
      omega
    | true =>
      rw [Bool.not_true, cond_f, part19 (ifs := ifs) pre cur (c :: t) _ hs hl (by omega), if_pos rfl]
      have hp := psh_len cur acc
      have := loop19 s ifs hl t (pre ++ cur ++ [c]) [] (psh cur acc) (m + 1) (by omega) (by rw [hs]; simp) (by omega)
      rw [← this]
      congr 1
      simp
      omega

theorem F10_is (s ifs : Str) (hl : s.length ≤ 900000) : F10 s ifs = some (spl ifs s [] []) := by
  unfold F10
  exact loop19 s ifs (by omega) s [] [] [] BIG (by unfold BIG; omega) rfl (by simp; omega)

/-! ### fields -/

def flatF : List Str → Str
  | [] => []
  | x :: l => 32 :: 10 :: (x ++ flatF l)

def okF (x : Str) : Prop := x ≠ [] ∧ (32 : UInt8) ∉ x ∧ (10 : UInt8) ∉ x

theorem spl_free (ifs : Str) : ∀ (x r cur : Str) (acc : List Str), (∀ c ∈ x, ifs.contains c = false) → spl ifs (x ++ r) cur acc = spl ifs r (cur ++ x) acc
  | [], r, cur, acc, h => by rw [List.append_nil]; rfl
  | c :: x, r, cur, acc, h => by
    rw [List.cons_append, spl, h c List.mem_cons_self, if_neg (by simp), spl_free ifs x r _ acc fun d hd => h d (List.mem_cons_of_mem _ hd), List.append_assoc]
    rfl

theorem spl_flat : ∀ (l : List Str) (cur : Str) (acc : List Str), (∀ x ∈ l, okF x) → spl [10, 32] (flatF l) cur acc = psh cur acc ++ l
  | [], cur, acc, h => by rw [flatF, spl, List.append_nil]
  | x :: l, cur, acc, h => by
    have hx := h x List.mem_cons_self
    rw [flatF, spl, if_pos (by decide), spl, if_pos (by decide), spl_free _ x _ _ _ (fun c hc => ?_), spl_flat l _ _ fun y hy => h y (List.mem_cons_of_mem _ hy), List.nil_append]
    · rw [show psh [] (psh cur acc) = psh cur acc from rfl, psh, if_neg hx.1, List.append_assoc]
      rfl
    · rw [Bool.eq_false_iff]
      intro hk
      rw [List.contains_iff_mem] at hk
      simp only [List.mem_cons, List.not_mem_nil, or_false] at hk
      rcases hk with rfl | rfl
      · exact hx.2.2 hc
      · exact hx.2.1 hc

theorem flat_app : ∀ (l : List Str) (x : Str), flatF l ++ (32 :: 10 :: x) = flatF (l ++ [x])
  | [], x => by simp [flatF]
  | y :: l, x => by
    rw [List.cons_append, flatF, flatF, ← flat_app l x]
    simp

theorem flat_len : ∀ (l : List Str) (k : Nat), (∀ x ∈ l, x.length ≤ k) → (flatF l).length ≤ l.length * (k + 2)
  | [], k, h => Nat.zero_le _
  | x :: l, k, h => by
    have := flat_len l k fun y hy => h y (List.mem_cons_of_mem _ hy)
    have := h x List.mem_cons_self
    rw [flatF, List.length_cons, List.length_cons, List.length_append, List.length_cons, Nat.succ_mul]
    omega

/-! ### Here, of no environment -/

theorem F42_nil (g : Int) (nm : Str) : F42 [] g nm = some ([], false) := by
  have e : F70 [] g = some (-1) := by
    unfold F70
    rw [iter_range (body := F70_b1 [] g) [] (fun u i n => (F71 u g).bind fun r => bif r then some i else n) (some (-1)) (fun _ _ => rfl) (by simp)]
    rfl
  unfold F42 F56
  rw [e]
  rfl

theorem F26_nil (nm : Str) (h : nm.length ≤ 1000000000) : F26 [] 1 nm = some [] := by
  unfold F26
  rcases num_is nm h with ⟨n, m, e1, _⟩ | ⟨n, e1, _, h1, _⟩
  · rw [e1, Option.bind_some]
    dsimp only
    rw [cond_f, F42_nil]
    rfl
  · rw [e1, Option.bind_some]
    dsimp only
    rw [cond_t, F42_nil, Option.bind_some]
    dsimp only
    rw [decide_eq_true (by rw [List.length_nil]; omega), cond_t]

theorem F40_one (s : Str) (c : UInt8) : F40 s [c] = some (decide (s.head? = some c)) := by
  unfold F40
  cases s with
  | nil => rfl
  | cons x r =>
    rw [List.length_singleton, decide_eq_true (p := (((1 : Nat) : Int) ≤ ((x :: r).length : Int))) (by rw [List.length_cons]; omega), guardO_true, sslice_take _ 1 (by simp), Option.bind_some]
    simp

theorem F27_one (s : Str) (c : UInt8) : ∃ r, F27 s [c] = some r ∧ r.length ≤ s.length := by
  unfold F27 F43
  rw [F40_one, Option.bind_some]
  by_cases h : s.head? = some c
  · rw [decide_eq_true h, cond_t, List.length_singleton, sslice_drop s 1 (by cases s <;> simp_all)]
    exact ⟨_, rfl, by rw [List.length_drop]; omega⟩
  · rw [decide_eq_false h, cond_f]
    exact ⟨s, rfl, Nat.le_refl _⟩

theorem inner18 (rest c : Str) (again : Str × Str → Option (Str × Int)) (hr : rest.length ≤ 100000) (hc : c.length ≤ 100000)
    (H : ∀ s' b', s'.length ≤ rest.length → b'.length + s'.length ≤ c.length + rest.length + 1 → ∃ r, again (s', b') = some r) : ∃ r, iter (F7_b7 rest c again [] 1) BIG 0 = some r := by
  have h : ∀ (n j : Nat), j ≤ rest.length → rest.length - j < n → ∃ r, iter (F7_b7 rest c again [] 1) n (j : Int) = some r := by
    intro n
    induction n with
    | zero => intro j _ h; omega
    | succ n ih =>
      intro j hj hn
      have fall : ∃ r, ((F24 rest [36]).bind fun r48 =>
          (bif r48 then
            (L_WriteString c [36]).bind fun (n52, c53) =>
            (sslice rest 1 (rest.length : Int)).bind fun t57 =>
            again (t57, c53)
          else
            (bif decide ((j : Int) = 0) then
              (L_WriteString c [36]).bind fun (n61, c62) =>
              again (rest, c62)
            else
              (sslice rest 0 (j : Int)).bind fun t66 =>
              (F26 [] 1 t66).bind fun r69 =>
              (L_Join r69 [32]).bind fun s72 =>
              (L_WriteString c s72).bind fun (n75, c76) =>
              (sslice rest (j : Int) (rest.length : Int)).bind fun t80 =>
              (F27 t80 [94]).bind fun r83 =>
              again (r83, c76)))) = some r := by
        have w1 : L_WriteString c [36] = some (1, c ++ [36]) := by
          unfold L_WriteString
          rw [if_pos (by rw [List.length_singleton]; omega)]
          rfl
        unfold F24
        rw [F40_one, Option.bind_some, Option.bind_some]
        by_cases h1 : rest.head? = some 36
        · rw [decide_eq_true h1, cond_t, w1, Option.bind_some]
          dsimp only
          have : 1 ≤ rest.length := by cases rest <;> simp_all
          have e := sslice_drop rest 1 this
          rw [show ((1 : Nat) : Int) = 1 from rfl] at e
          rw [e, Option.bind_some]
          exact H _ _ (by rw [List.length_drop]; omega) (by rw [List.length_drop, List.length_append, List.length_singleton]; omega)
        · rw [decide_eq_false h1, cond_f]
          by_cases h2 : j = 0
          · rw [decide_eq_true (by omega), cond_t, w1, Option.bind_some]
            exact H _ _ (Nat.le_refl _) (by rw [List.length_append, List.length_singleton]; omega)
          · have w2 : L_WriteString c [] = some (0, c) := by
              unfold L_WriteString
              rw [if_pos (by rw [List.length_nil]; omega), List.append_nil]
              rfl
            have w3 : L_Join [] [32] = some [] := by
              unfold L_Join
              rw [if_pos ⟨by decide, by decide⟩]
              rfl
            obtain ⟨q, hq, hql⟩ := F27_one (rest.drop j) 94
            rw [decide_eq_false (by omega), cond_f, sslice_take rest j hj, Option.bind_some, F26_nil _ (by rw [List.length_take]; omega), Option.bind_some, w3, Option.bind_some, w2, Option.bind_some]
            dsimp only
            rw [sslice_drop rest j hj, Option.bind_some, hq, Option.bind_some]
            rw [List.length_drop] at hql
            exact H _ _ (by omega) (by omega)
      show ∃ r, F7_b7 rest c again [] 1 (iter (F7_b7 rest c again [] 1) n) (j : Int) = some r
      rw [F7_b7]
      by_cases hlt : j < rest.length
      · rw [decide_eq_true (by omega), guardO_true, sidx_at hlt, Option.bind_some, guardO_true]
        obtain ⟨v, hv⟩ : ∃ v, F23 (rest[j].toNat : Int) = some v := ⟨_, rfl⟩
        rw [hv, Option.bind_some, Bool.true_and]
        cases v with
        | true =>
          rw [cond_t, wrap64 (by omega) (by omega)]
          exact ih (j + 1) (by omega) (by omega)
        | false =>
          rw [cond_f]
          exact fall
      · have g : ∀ {α : Type} [Inhabited α] (x : Option α), guardO false x = some default := fun x => rfl
        rw [decide_eq_false (by omega), g, Option.bind_some, g, Option.bind_some, Bool.false_and, cond_f]
        exact fall
  exact h BIG 0 (Nat.zero_le _) (by unfold BIG; omega)

theorem j4_is (b : Str) (h : b.length ≤ 10000) : F7_j4 b = some (b, 0) := by
  rw [F7_j4, L_Len, Option.bind_some, decide_eq_false (by omega), cond_f]
  rfl

theorem F7_run : ∀ (m : Nat) (s b : Str), s.length < m → b.length + s.length ≤ 10000 → ∃ r, iter (F7_b6 [] 1) m (s, b) = some r ∧ ((36 : UInt8) ∉ s → r = (b ++ s, 0))
  | 0, s, b, h, _ => by omega
  | m + 1, s, b, hm, hb => by
    show ∃ r, F7_b6 [] 1 (iter (F7_b6 [] 1) m) (s, b) = some r ∧ _
    rw [F7_b6]
    dsimp only
    by_cases hs : s = []
    · subst hs
      rw [decide_eq_true rfl, Bool.not_true, cond_f, j4_is b (by simp at hb; omega)]
      exact ⟨_, rfl, fun _ => by rw [List.append_nil]⟩
    · rw [decide_eq_false hs, Bool.not_false, cond_t, L_Len, Option.bind_some, decide_eq_true (by omega), cond_t]
      rcases firstOf 36 s with hf | ⟨a, r, hf, rfl⟩
      · rw [L_Cut, if_pos (by omega), cut_free hf, Option.bind_some]
        dsimp only
        rw [L_WriteString, if_pos (by omega), Option.bind_some]
        dsimp only
        rw [Bool.not_false, cond_t, j4_is _ (by rw [List.length_append]; omega)]
        exact ⟨_, rfl, fun _ => rfl⟩
      · rw [List.length_append, List.length_cons] at hb hm
        rw [L_Cut, if_pos (by rw [List.length_append, List.length_cons]; omega), cut_at r hf, Option.bind_some]
        dsimp only
        rw [L_WriteString, if_pos (by omega), Option.bind_some]
        dsimp only
        rw [Bool.not_true, cond_f]
        obtain ⟨q, hq⟩ := inner18 r (b ++ a) (iter (F7_b6 [] 1) m) (by omega) (by rw [List.length_append]; omega) (fun s' b' h1 h2 => by
          rw [List.length_append] at h2
          obtain ⟨q, hq, _⟩ := F7_run m s' b' (by omega) (by omega)
          exact ⟨q, hq⟩)
        exact ⟨q, hq, fun h => absurd (List.mem_append.2 (.inr List.mem_cons_self)) h⟩

theorem F7_nil (s : Str) (h : s.length ≤ 2000) : ∃ r e, F7 [] 1 s = some (r, e) ∧ ((36 : UInt8) ∉ s → r = s ∧ e = 0) := by
  obtain ⟨⟨r, e⟩, h1, h2⟩ := F7_run BIG s [] (by unfold BIG; omega) (by rw [List.length_nil]; omega)
  refine ⟨r, e, h1, fun h => ?_⟩
  have := h2 h
  exact ⟨congrArg Prod.fst this, congrArg Prod.snd this⟩

/-! ### the law -/

def g4 (w t : Str) (k : Str → Option Bool) : (Int → Option Bool) → Int → Option Bool := fun again39 i38 =>
  (bif decide (i38 < (w.length : Int)) then
    (sidx w i38).bind fun c43 =>
    (bif (decide (c43 = 32) || decide (c43 = 10)) then
      (F6).bind fun r47 =>
      some r47
    else
      again39 (IntKind.wrap .i64 (i38 + 1)))
  else
    (catO [32, 10] w).bind fun s50 =>
    (catO t s50).bind fun s53 =>
    k s53)

theorem loopR_free (fin : Option Bool) : ∀ (w : Str) (i : Int), loopR (fun c _ n => bif (decide (c = 32) || decide (c = 10)) then (F6).bind fun r => some r else n) fin (w.map B) i = if (32 : UInt8) ∉ w ∧ (10 : UInt8) ∉ w then fin else some true
  | [], i => by simp [loopR]
  | c :: w, i => by
    rw [List.map_cons, loopR, loopR_free fin w (i + 1)]
    have e1 : decide (B c = 32) = decide (c = 32) := byte_eq c 32
    have e2 : decide (B c = 10) = decide (c = 10) := byte_eq c 10
    rw [e1, e2]
    by_cases h1 : c = 32
    · subst h1
      rw [decide_eq_true rfl, Bool.true_or, cond_t, alive, if_neg (by simp)]
      rfl
    · by_cases h2 : c = 10
      · subst h2
        rw [decide_eq_true (p := (10 : UInt8) = 10) rfl, Bool.or_true, cond_t, alive, if_neg (by simp)]
        rfl
      · rw [decide_eq_false h1, decide_eq_false h2, Bool.or_self, cond_f]
        congr 1
        simp only [List.mem_cons, not_or]
        rw [eq_iff_iff]
        exact ⟨fun h => ⟨⟨fun e => h1 e.symm, h.1⟩, fun e => h2 e.symm, h.2⟩, fun h => ⟨h.1.2, h.2.2⟩⟩

theorem g4_is (w t : Str) (k : Str → Option Bool) (hw : w.length ≤ 2000) (ht : t.length ≤ 100000000) : iter (g4 w t k) BIG 0 = if (32 : UInt8) ∉ w ∧ (10 : UInt8) ∉ w then k (t ++ (32 :: 10 :: w)) else some true := by
  rw [iter_rangeB (body := g4 w t k) w (fun c _ n => bif (decide (c = 32) || decide (c = 10)) then (F6).bind fun r => some r else n) ((catO [32, 10] w).bind fun s50 => (catO t s50).bind fun s53 => k s53) (fun _ _ => rfl) (by omega), loopR_free]
  congr 1
  rw [catO_eq (by simp; omega), Option.bind_some, catO_eq (by simp; omega), Option.bind_some]
  rfl

def G6 : Str → Int → (Str → Option Bool) → Str → Option Bool := fun w _ k t =>
  bif decide (w = []) then (F6).bind fun r => some r else iter (g4 w t k) BIG 0

def fin6 (l : List Str) (t : Str) : Option Bool :=
  (F10 t [10, 32]).bind fun r57 => (F9 r57 l).bind fun r60 => (guardO r60 (F6)).bind fun r63 => some (r60 && r63)

theorem loop6 (l : List Str) (hl : Sh l 2000) : ∀ (r d : List Str) (i : Int), l = d ++ r → (∀ x ∈ d, okF x) → loopS G6 (fin6 l) r i (flatF d) = some true
  | [], d, i, hd, ho => by
    rw [List.append_nil] at hd
    subst hd
    have h1 := flat_len l 2000 fun x hx => hl.mem (by decide) hx
    have h2 := hl.1
    have h3 : l.length * (2000 + 2) ≤ 400 * 2002 := Nat.mul_le_mul_right _ h2
    have hm : l.length ≤ maxLen := by unfold maxLen; omega
    show fin6 l (flatF l) = some true
    rw [fin6, F10_is _ _ (by omega), Option.bind_some, spl_flat l [] [] ho, show psh [] [] ++ l = l from rfl, F9_is l l hm, decide_eq_true rfl, Option.bind_some, guardO_true, alive]
    rfl
  | x :: r, d, i, hd, ho => by
    have hx := hl.mem (by decide) (show x ∈ l by rw [hd]; exact List.mem_append.2 (.inr List.mem_cons_self))
    have h1 := flat_len d 2000 fun y hy => hl.mem (by decide) (show y ∈ l by rw [hd]; exact List.mem_append.2 (.inl hy))
    have h2 := hl.1
    have h3 : d.length ≤ 400 := by rw [hd, List.length_append] at h2; omega
    have h4 : d.length * (2000 + 2) ≤ 400 * 2002 := Nat.mul_le_mul_right _ h3
    rw [loopS, G6]
    by_cases he : x = []
    · rw [decide_eq_true he, cond_t, alive]
      rfl
    · rw [decide_eq_false he, cond_f, g4_is x _ _ hx (by omega)]
      split
      · rename_i hf
        rw [flat_app]
        exact loop6 l hl r (d ++ [x]) (i + 1) (by rw [hd]; simp) fun y hy => by
          rcases List.mem_append.1 hy with h | h
          · exact ho y h
          · rw [List.mem_singleton.1 h]; exact ⟨he, hf⟩
      · rfl



/-! ### small -/

def wfW : Nat → Word → Prop
  | 0, _ => False
  | k + 1, w => w.text_.length ≤ maxLen ∧ w.quoted_.length ≤ maxLen ∧ w.words_.length ≤ maxLen ∧ ∀ x ∈ w.words_, wfW k x

def Fit : Nat → Word → Prop
  | 0, _ => False
  | d + 1, w => w.text_.length ≤ 1219 ∧ w.words_.length ≤ 60 ∧ ∀ x ∈ w.words_, Fit d x

/-! ### environments -/

def Few (l : List GEnv) : Prop := l.length ≤ 10 ∧ ∀ e ∈ l, e.vars_.length ≤ 20 ∧ ∀ v ∈ e.vars_, Sh v.values_ 2000 ∧ v.name_.length ≤ 100

theorem F70_any (l : List GEnv) (h : l.length ≤ 1000) (g : Int) : ∃ r, F70 l g = some r ∧ (r < 0 ∨ ∃ j : Nat, j < l.length ∧ r = (j : Int)) := by
  unfold F70
  rw [iter_range (body := F70_b1 l g) l (fun u i n => (F71 u g).bind fun r => bif r then some i else n) (some (-1)) (fun _ _ => rfl) (by omega)]
  have : ∀ (r : List GEnv) (j : Nat), j + r.length = l.length → ∃ q, loopR (fun (u : GEnv) i n => (F71 u g).bind fun r => bif r then some i else n) (some (-1)) r (j : Int) = some q ∧ (q < 0 ∨ ∃ j : Nat, j < l.length ∧ q = (j : Int)) := by
    intro r
    induction r with
    | nil => intro j hj; exact ⟨-1, rfl, .inl (by omega)⟩
    | cons u r ih =>
      intro j hj
      rw [List.length_cons] at hj
      rw [loopR, F71, Option.bind_some]
      cases decide (u.id_ = g) with
      | true => exact ⟨j, rfl, .inr ⟨j, by omega, rfl⟩⟩
      | false => exact ih (j + 1) (by omega)
  exact this l 0 (by omega)

theorem F72_any (l : List Var) (h : l.length ≤ 1000) (g : Str) : ∃ r, F72 l g = some r ∧ (r < 0 ∨ ∃ j : Nat, j < l.length ∧ r = (j : Int)) := by
  unfold F72
  rw [iter_range (body := F72_b1 l g) l (fun u i n => (F73 u g).bind fun r => bif r then some i else n) (some (-1)) (fun _ _ => rfl) (by omega)]
  have : ∀ (r : List Var) (j : Nat), j + r.length = l.length → ∃ q, loopR (fun (u : Var) i n => (F73 u g).bind fun r => bif r then some i else n) (some (-1)) r (j : Int) = some q ∧ (q < 0 ∨ ∃ j : Nat, j < l.length ∧ q = (j : Int)) := by
    intro r
    induction r with
    | nil => intro j hj; exact ⟨-1, rfl, .inl (by omega)⟩
    | cons u r ih =>
      intro j hj
      rw [List.length_cons] at hj
      rw [loopR, F73, Option.bind_some]
      cases decide (u.name_ = g) with
      | true => exact ⟨j, rfl, .inr ⟨j, by omega, rfl⟩⟩
      | false => exact ih (j + 1) (by omega)
  exact this l 0 (by omega)

/-- Values of a variable. -/
def Vs (vs : List Str) : Prop := vs.length ≤ 400 ∧ ∀ x ∈ vs, x.length ≤ 2000

theorem F42_any (l : List GEnv) (hl : Few l) (g : Int) (nm : Str) : ∃ vs ok, F42 l g nm = some (vs, ok) ∧ Vs vs := by
  have nil : Vs [] := ⟨Nat.zero_le _, fun x hx => by cases hx⟩
  unfold F42 F56
  obtain ⟨r, e1, e2⟩ := F70_any l (by have := hl.1; omega) g
  rw [e1, Option.bind_some, Option.bind_some]
  by_cases hr : r < 0
  · rw [decide_eq_true hr, cond_t]
    exact ⟨[], false, rfl, nil⟩
  · rw [decide_eq_false hr, cond_f]
    obtain ⟨j, hj, rfl⟩ : ∃ j : Nat, j < l.length ∧ r = (j : Int) := by
      rcases e2 with h | h
      · exact absurd h hr
      · exact h
    obtain ⟨h1, h2⟩ := hl.2 _ (List.getElem_mem hj)
    rw [lidx_at hj, Option.bind_some]
    unfold F57
    obtain ⟨q, f1, f2⟩ := F72_any (l[j]).vars_ (by omega) nm
    rw [f1, Option.bind_some, Option.bind_some]
    by_cases hq : q < 0
    · rw [decide_eq_true hq, cond_t]
      exact ⟨[], false, rfl, nil⟩
    · rw [decide_eq_false hq, cond_f]
      obtain ⟨k, hk, rfl⟩ : ∃ k : Nat, k < (l[j]).vars_.length ∧ q = (k : Int) := by
        rcases f2 with h | h
        · exact absurd h hq
        · exact h
      obtain ⟨g1, g2⟩ := h2 _ (List.getElem_mem hk)
      have := g1.1
      rw [lidx_at hk, Option.bind_some, L_Clone, if_pos (by omega), Option.bind_some]
      exact ⟨_, true, rfl, g1.1, fun x hx => g1.mem (by decide) hx⟩

theorem F26_any (l : List GEnv) (hl : Few l) (g : Int) (nm : Str) (hn : nm.length ≤ 1000000000) : ∃ vs, F26 l g nm = some vs ∧ Vs vs := by
  have nil : Vs [] := ⟨Nat.zero_le _, fun x hx => by cases hx⟩
  unfold F26
  rcases num_is nm hn with ⟨n, m, e1, _⟩ | ⟨n, e1, _, h1, h2⟩
  · obtain ⟨vs, ok, f1, f2⟩ := F42_any l hl g nm
    rw [e1, Option.bind_some]
    dsimp only
    rw [cond_f, f1]
    exact ⟨vs, rfl, f2⟩
  · obtain ⟨vs, ok, f1, f2⟩ := F42_any l hl g [42]
    rw [e1, Option.bind_some]
    dsimp only
    rw [cond_t, f1, Option.bind_some]
    dsimp only
    by_cases hc : (vs.length : Int) < n
    · rw [decide_eq_true hc, cond_t]
      exact ⟨[], rfl, nil⟩
    · rw [decide_eq_false hc, cond_f, wrap64 (by omega) (by omega), lslice, if_pos ⟨by omega, by omega, by omega⟩, Option.bind_some]
      have f3 := f2.1
      refine ⟨_, rfl, ?_, fun x hx => f2.2 x (List.mem_of_mem_drop (List.mem_of_mem_take hx))⟩
      rw [List.length_take, List.length_drop]
      omega



/-! ### few -/

def WE (l : List GEnv) : Prop := l.length ≤ maxLen ∧ ∀ e ∈ l, e.vars_.length ≤ maxLen ∧ ∀ v ∈ e.vars_, v.values_.length ≤ maxLen

def G14 : Var → Int → Option Bool → Option Bool := fun v _ k => (F12 v.values_ 2000).bind fun r => bif (!r || decide (100 < (v.name_.length : Int))) then some false else k

def g14 (u : GEnv) (n : Option Bool) : (Int → Option Bool) → Int → Option Bool := fun again14 i13 =>
  (bif decide (i13 < (u.vars_.length : Int)) then
    (lidx u.vars_ i13).bind fun u18 =>
    (F12 u18.values_ 2000).bind fun r21 =>
    (bif (!r21 || decide (100 < (u18.name_.length : Int))) then
      some false
    else
      again14 (IntKind.wrap .i64 (i13 + 1)))
  else
    n)

theorem loop14 (n : Option Bool) : ∀ (vs : List Var) (i : Int), (∀ v ∈ vs, v.values_.length ≤ maxLen) → loopR G14 n vs i = some false ∨ (loopR G14 n vs i = n ∧ ∀ v ∈ vs, Sh v.values_ 2000 ∧ v.name_.length ≤ 100)
  | [], i, h => .inr ⟨rfl, fun v hv => by cases hv⟩
  | v :: vs, i, h => by
    rw [loopR, G14]
    by_cases hs : Sh v.values_ 2000
    · have h7 := F12_sh hs
      simp only [Int.cast_ofNat_Int] at h7
      rw [h7, Option.bind_some, Bool.not_true, Bool.false_or]
      by_cases hn : 100 < v.name_.length
      · rw [decide_eq_true (by omega), cond_t]
        exact .inl rfl
      · rw [decide_eq_false (by omega), cond_f]
        rcases loop14 n vs (i + 1) fun x hx => h x (List.mem_cons_of_mem _ hx) with e | ⟨e, k⟩
        · exact .inl e
        · refine .inr ⟨e, fun x hx => ?_⟩
          rcases List.mem_cons.1 hx with rfl | hx
          · exact ⟨hs, by omega⟩
          · exact k x hx
    · have h7 := F12_not (h v List.mem_cons_self) hs
      simp only [Int.cast_ofNat_Int] at h7
      rw [h7]
      exact .inl rfl

theorem F4_any (l : List GEnv) (w : WE l) : F4 l = some false ∨ (F4 l = some true ∧ Few l) := by
  unfold F4
  by_cases hl : 10 < l.length
  · rw [decide_eq_true (by omega), cond_t]
    exact .inl rfl
  · rw [decide_eq_false (by omega), cond_f, iter_range (body := F4_b2 l) l (fun u i n => bif decide (20 < (u.vars_.length : Int)) then some false else iter (g14 u n) BIG 0) (some true) (fun _ _ => rfl) (by omega)]
    have : ∀ (r : List GEnv) (i : Int), (∀ e ∈ r, e ∈ l) → loopR (fun (u : GEnv) (i : Int) n => bif decide (20 < (u.vars_.length : Int)) then some false else iter (g14 u n) BIG 0) (some true) r i = some false ∨
        (loopR (fun (u : GEnv) (i : Int) n => bif decide (20 < (u.vars_.length : Int)) then some false else iter (g14 u n) BIG 0) (some true) r i = some true ∧ ∀ e ∈ r, e.vars_.length ≤ 20 ∧ ∀ v ∈ e.vars_, Sh v.values_ 2000 ∧ v.name_.length ≤ 100) := by
      intro r
      induction r with
      | nil => intro i _; exact .inr ⟨rfl, fun v hv => by cases hv⟩
      | cons u r ih =>
        intro i hm
        rw [loopR]
        by_cases hu : 20 < u.vars_.length
        · rw [decide_eq_true (by omega), cond_t]
          exact .inl rfl
        · have hin : ∀ n, iter (g14 u n) BIG 0 = loopR G14 n u.vars_ 0 := fun n => iter_range (body := g14 u n) u.vars_ G14 n (fun _ _ => rfl) (by omega)
          rw [decide_eq_false (by omega), cond_f, hin]
          rcases loop14 (loopR (fun (u : GEnv) (i : Int) n => bif decide (20 < (u.vars_.length : Int)) then some false else iter (g14 u n) BIG 0) (some true) r (i + 1)) u.vars_ 0 (w.2 u (hm u List.mem_cons_self)).2 with e | ⟨e, k⟩
          · exact .inl e
          · rw [e]
            rcases ih (i + 1) fun x hx => hm x (List.mem_cons_of_mem _ hx) with f | ⟨f, q⟩
            · exact .inl f
            · refine .inr ⟨f, fun x hx => ?_⟩
              rcases List.mem_cons.1 hx with rfl | hx
              · exact ⟨by omega, k⟩
              · exact q x hx
    rcases this l 0 fun _ h => h with e | ⟨e, k⟩
    · exact .inl e
    · exact .inr ⟨e, by omega, k⟩

/-! ### Right ends -/

theorem guardO_any {α : Type} [Inhabited α] {g : Bool} {x : Option α} (h : g = true → ∃ r, x = some r) : ∃ r, guardO g x = some r := by
  cases g with
  | true => exact h rfl
  | false => exact ⟨default, rfl⟩

theorem loopR_any {α R : Type} (G : α → Int → Option R → Option R) (fin : Option R) (hf : ∃ r, fin = some r) (hG : ∀ x i n, (∃ r, n = some r) → ∃ r, G x i n = some r) : ∀ (l : List α) (i : Int), ∃ r, loopR G fin l i = some r
  | [], i => hf
  | x :: l, i => hG _ _ _ (loopR_any G fin hf hG l (i + 1))

theorem F13_any (vs : List Str) (h : Sh vs 2000) : ∃ s e, F13 vs = some (s, e) := by
  have h1 := h.1
  unfold F13
  by_cases h0 : vs.length = 0
  · rw [decide_eq_true (by omega), cond_t]
    exact ⟨_, _, rfl⟩
  rw [decide_eq_false (by omega), cond_f]
  by_cases h2 : 256 < vs.length
  · rw [decide_eq_true (by omega), cond_t]
    exact ⟨_, _, rfl⟩
  rw [decide_eq_false (by omega), cond_f]
  have inner : ∀ (j : Nat) (hj : j < vs.length) (s : Str) (again : Str × Int → Option (Str × Int)), s.length ≤ 1000000 → (∀ s' : Str, s'.length ≤ s.length + 2001 → ∃ r, again (s', ((j + 1 : Nat) : Int)) = some r) →
      ∀ (m k : Nat), k ≤ (vs[j]).length → (vs[j]).length - k < m → ∃ r, iter (F13_b3 vs (j : Int) s again) m (k : Int) = some r := by
    intro j hj s again hs H m
    induction m with
    | zero => intro k _ h; omega
    | succ m ih =>
      intro k hk hm
      have hw := h.mem (by decide) (List.getElem_mem hj)
      show ∃ r, F13_b3 vs (j : Int) s again (iter (F13_b3 vs (j : Int) s again) m) (k : Int) = some r
      rw [F13_b3, lidx_at hj, Option.bind_some]
      by_cases hlt : k < (vs[j]).length
      · rw [decide_eq_true (by omega), cond_t, sidx_at hlt, Option.bind_some]
        cases decide (((vs[j])[k].toNat : Int) = 0) with
        | true => exact ⟨_, rfl⟩
        | false =>
          rw [cond_f, wrap64 (by omega) (by omega)]
          exact ih (k + 1) (by omega) (by omega)
      · rw [decide_eq_false (by omega), cond_f]
        by_cases h0 : 0 < j
        · rw [decide_eq_true (by omega), cond_t, catO_eq (by rw [List.length_singleton]; omega), Option.bind_some, catO_eq (by rw [List.length_append, List.length_singleton]; omega), Option.bind_some, wrap64 (by omega) (by omega)]
          exact H _ (by rw [List.length_append, List.length_append, List.length_singleton]; omega)
        · rw [decide_eq_false (by omega), cond_f, catO_eq (by omega), Option.bind_some, wrap64 (by omega) (by omega)]
          exact H _ (by rw [List.length_append]; omega)
  have outer : ∀ (n j : Nat) (s : Str), j ≤ vs.length → vs.length - j < n → s.length ≤ j * 2001 → ∃ r, iter (F13_b2 vs) n (s, (j : Int)) = some r := by
    intro n
    induction n with
    | zero => intro j s _ h; omega
    | succ n ih =>
      intro j s hj hn hs
      show ∃ r, F13_b2 vs (iter (F13_b2 vs) n) (s, (j : Int)) = some r
      rw [F13_b2]
      by_cases hlt : j < vs.length
      · rw [decide_eq_true (by omega), cond_t]
        exact inner j hlt s (iter (F13_b2 vs) n) (by omega) (fun s' hs' => ih (j + 1) s' (by omega) (by omega) (by omega)) BIG 0 (Nat.zero_le _) (by
          have hw := h.mem (by decide) (List.getElem_mem hlt)
          unfold BIG; omega)
      · rw [decide_eq_false (by omega), cond_f]
        cases decide (65536 < (s.length : Int)) with
        | true => exact ⟨_, rfl⟩
        | false => exact ⟨_, rfl⟩
  obtain ⟨⟨s, e⟩, he⟩ := outer BIG 0 [] (Nat.zero_le _) (by unfold BIG; omega) (Nat.zero_le _)
  exact ⟨s, e, he⟩

theorem F14_any (s : Str) (h : s.length ≤ 100) : ∃ r, F14 s = some r := by
  unfold F14
  rw [iter_rangeB (body := F14_b1 s) s (fun c8 _ n => bif ((decide (c8 < 33) || decide (126 < c8)) || decide (c8 = 47)) then some false else n) _ (fun _ _ => rfl) (by omega)]
  refine loopR_any _ _ ⟨_, rfl⟩ (fun x i n hn => ?_) _ _
  cases ((decide (x < 33) || decide (126 < x)) || decide (x = 47)) with
  | true => exact ⟨_, rfl⟩
  | false => exact hn

theorem F15_any (u : GEnv) (h : u.vars_.length ≤ 20) (s : Str) : ∃ r, F15 u s = some r := by
  unfold F15
  rw [iter_range (body := F15_b1 u s) u.vars_ (fun v i n => bif decide (v.name_ = s) then some i else n) (some (-1)) (fun _ _ => rfl) (by omega)]
  refine loopR_any _ _ ⟨_, rfl⟩ (fun x i n hn => ?_) _ _
  cases decide (x.name_ = s) with
  | true => exact ⟨_, rfl⟩
  | false => exact hn

theorem F5_any (l : List GEnv) (hl : Few l) : ∃ r, F5 l = some r := by
  have h10 := hl.1
  unfold F5
  rw [decide_eq_false (by omega), cond_f]
  have inner : ∀ (u : GEnv) (hu : u ∈ l) (again : Int → Option Bool) (i : Int), (∃ r, again (IntKind.wrap .i64 (i + 1)) = some r) → ∀ (m k : Nat), k ≤ u.vars_.length → u.vars_.length - k < m → ∃ r, iter (F5_b3 u again i) m (k : Int) = some r := by
    intro u hu again i hi m
    obtain ⟨h20, hv⟩ := hl.2 u hu
    induction m with
    | zero => intro k _ h; omega
    | succ m ih =>
      intro k hk hm
      show ∃ r, F5_b3 u again i (iter (F5_b3 u again i) m) (k : Int) = some r
      rw [F5_b3]
      by_cases hlt : k < u.vars_.length
      · obtain ⟨hs, hn⟩ := hv _ (List.getElem_mem hlt)
        obtain ⟨s, e, h26⟩ := F13_any _ hs
        rw [decide_eq_true (by omega), cond_t, lidx_at hlt, Option.bind_some, h26, Option.bind_some]
        dsimp only
        obtain ⟨r28, e28⟩ := guardO_any (g := decide (e = 0)) fun _ => F14_any _ hn
        rw [e28, Option.bind_some]
        obtain ⟨r31, e31⟩ := guardO_any (g := !(!decide (e = 0) || !r28)) fun _ => F15_any u h20 (u.vars_[k]).name_
        rw [e31, Option.bind_some]
        obtain ⟨v34, e34⟩ := guardO_any (g := (!((((!decide (e = 0) || !r28) || !decide (r31 = (k : Int))) || decide ((u.vars_[k]).id_ < 2)) || decide (u.next_ ≤ (u.vars_[k]).id_)) && decide (0 < (k : Int)))) (x := lidx u.vars_ (IntKind.wrap .i64 ((k : Int) - 1))) (fun h => by
          rw [Bool.and_eq_true, decide_eq_true_eq] at h
          rw [wrap64 (by omega) (by omega), show (k : Int) - 1 = ((k - 1 : Nat) : Int) by omega, lidx_at (by omega)]
          exact ⟨_, rfl⟩)
        rw [e34, Option.bind_some, wrap64 (by omega) (by omega)]
        cases (((((!decide (e = 0) || !r28) || !decide (r31 = (k : Int))) || decide ((u.vars_[k]).id_ < 2)) || decide (u.next_ ≤ (u.vars_[k]).id_)) || (decide (0 < (k : Int)) && decide ((u.vars_[k]).id_ ≤ v34.id_))) with
        | true => exact ⟨_, rfl⟩
        | false => exact ih (k + 1) (by omega) (by omega)
      · rw [decide_eq_false (by omega), cond_f]
        exact hi
  have outer : ∀ (n j : Nat), j ≤ l.length → l.length - j < n → ∃ r, iter (F5_b2 l) n (j : Int) = some r := by
    intro n
    induction n with
    | zero => intro j _ h; omega
    | succ n ih =>
      intro j hj hn
      show ∃ r, F5_b2 l (iter (F5_b2 l) n) (j : Int) = some r
      rw [F5_b2]
      by_cases hlt : j < l.length
      · rw [decide_eq_true (by omega), cond_t, lidx_at hlt, Option.bind_some]
        obtain ⟨u12, e12⟩ := guardO_any (g := !(decide ((l[j]).id_ < 1) || decide (1099511627776 < (l[j]).id_)) && decide (0 < (j : Int))) (x := lidx l (IntKind.wrap .i64 ((j : Int) - 1))) (fun h => by
          rw [Bool.and_eq_true, decide_eq_true_eq] at h
          rw [wrap64 (by omega) (by omega), show (j : Int) - 1 = ((j - 1 : Nat) : Int) by omega, lidx_at (by omega)]
          exact ⟨_, rfl⟩)
        rw [e12, Option.bind_some]
        cases (((((decide ((l[j]).id_ < 1) || decide (1099511627776 < (l[j]).id_)) || (decide (0 < (j : Int)) && decide ((l[j]).id_ ≤ u12.id_))) || decide ((l[j]).next_ < 2)) || decide (1048576 < (l[j]).next_)) || decide (64 < ((l[j]).vars_.length : Int))) with
        | true => exact ⟨_, rfl⟩
        | false =>
          exact inner _ (List.getElem_mem hlt) _ _ (by rw [wrap64 (by omega) (by omega)]; exact ih (j + 1) (by omega) (by omega)) BIG 0 (Nat.zero_le _) (by have := (hl.2 _ (List.getElem_mem hlt)).1; unfold BIG; omega)
      · rw [decide_eq_false (by omega), cond_f]
        exact ⟨_, rfl⟩
  exact outer BIG 0 (Nat.zero_le _) (by unfold BIG; omega)

/-! ### the law -/

theorem guardF {α : Type} [Inhabited α] (x : Option α) : guardO false x = some default := rfl

/-! ### Split -/

theorem F32_loop (c : UInt8) : ∀ (s : Str) (i : Int), loopR (fun x _ n => bif decide (x = B c) then some true else n) (some false) (s.map B) i = some (s.contains c)
  | [], i => rfl
  | d :: s, i => by
    rw [List.map_cons, loopR, F32_loop c s, List.contains_cons]
    have e : decide (B d = B c) = decide (d = c) := byte_eq d c
    rw [e]
    by_cases h : d = c
    · subst h
      rw [decide_eq_true rfl, cond_t]
      simp
    · have h' : (c == d) = false := by simp; exact fun e => h e.symm
      rw [decide_eq_false h, cond_f, h', Bool.false_or]

theorem F32_is (c : UInt8) (s : Str) (h : s.length ≤ 1000000) : F32 (B c) s = some (s.contains c) := by
  unfold F32
  rw [iter_rangeB (body := F32_b1 s (B c)) s (fun x _ n => bif decide (x = B c) then some true else n) (some false) (fun _ _ => rfl) (by omega), F32_loop]

theorem loopS11 (s ifs : Str) (hl : s.length ≤ 1000000) (hi : ifs.length ≤ 1000000) : ∀ (t pre cur : Str) (acc : List Str) (m : Nat), t.length + 1 < m → s = pre ++ cur ++ t → acc.length + t.length ≤ 999999 →
    iter (F11_b1 s ifs) m ((pre.length : Int), ((pre ++ cur).length : Int), acc) = some (spl ifs t cur acc)
  | _, _, _, _, 0, h, _, _ => by omega
  | _, _, _, _, 1, h, _, _ => by omega
  | [], pre, cur, acc, m + 2, hm, hs, ha => by
    show F11_b1 s ifs (iter (F11_b1 s ifs) (m + 1)) _ = _
    have he : s.length = (pre ++ cur).length := by rw [hs, List.append_nil]
    rw [F11_b1]
    try dsimp only
    rw [decide_eq_true (by omega), cond_t, decide_eq_true (p := (((pre ++ cur).length : Int) = (s.length : Int))) (by omega), Bool.not_true, guardF, Option.bind_some, guardF, Option.bind_some, Bool.true_or, cond_t, part19 (ifs := ifs) pre cur [] _ hs hl (by simp at ha; omega)]
    show F11_b1 s ifs (iter (F11_b1 s ifs) m) _ = _
    rw [F11_b1]
    try dsimp only
    rw [decide_eq_false (by omega), cond_f, spl]
  | c :: t, pre, cur, acc, m + 2, hm, hs, ha => by
    show F11_b1 s ifs (iter (F11_b1 s ifs) (m + 1)) _ = _
    have he : s.length = (pre ++ cur).length + (t.length + 1) := by rw [hs, List.length_append, List.length_cons]
    rw [List.length_cons] at hm ha
    rw [F11_b1]
    try dsimp only
    rw [decide_eq_true (by omega), cond_t, decide_eq_false (p := (((pre ++ cur).length : Int) = (s.length : Int))) (by omega), Bool.not_false, guardO_true]
    have hx : sidx s ((pre ++ cur).length : Int) = some (B c) := by rw [hs]; exact sidx_mid (pre ++ cur) c t
    rw [hx, Option.bind_some, guardO_true, F32_is c ifs hi, Option.bind_some, Bool.false_or, spl]
    cases hc : ifs.contains c with
    | false =>
      rw [cond_f, wrap64 (by omega) (by omega)]
      have := loopS11 s ifs hl hi t pre (cur ++ [c]) acc (m + 1) (by omega) (by rw [hs]; simp) (by omega)
      rw [if_neg (by simp), ← this]
      congr 1
      simp
      omega
    | true =>
      rw [cond_t, part19 (ifs := ifs) pre cur (c :: t) _ hs hl (by omega), if_pos rfl]
      have hp := psh_len cur acc
      have := loopS11 s ifs hl hi t (pre ++ cur ++ [c]) [] (psh cur acc) (m + 1) (by omega) (by rw [hs]; simp) (by omega)
      rw [← this]
      congr 1
      simp
      omega

theorem F11_is (s ifs : Str) (hl : s.length ≤ 900000) (hi : ifs.length ≤ 1000000) : F11 s ifs = some (spl ifs s [] []) := by
  unfold F11
  exact loopS11 s ifs (by omega) hi s [] [] [] BIG (by unfold BIG; omega) rfl (by simp; omega)

theorem spl_len (ifs : Str) : ∀ (t cur : Str) (acc : List Str), (spl ifs t cur acc).length ≤ acc.length + t.length + 1
  | [], cur, acc => by rw [spl]; exact psh_len cur acc
  | c :: t, cur, acc => by
    rw [spl, List.length_cons]
    have h := psh_len cur acc
    split
    · have := spl_len ifs t [] (psh cur acc)
      omega
    · have := spl_len ifs t (cur ++ [c]) acc
      omega

/-! ### values -/

theorem find_is (l : List GEnv) (h : l.length ≤ 1000) (g : Int) : F70 l g = F59 l g := by
  unfold F70 F59
  rw [iter_range (body := F70_b1 l g) l (fun u i n => (F71 u g).bind fun r => bif r then some i else n) (some (-1)) (fun _ _ => rfl) (by omega),
    iter_range (body := F59_b1 l g) l (fun u i n => bif decide (u.id_ = g) then some i else n) (some (-1)) (fun _ _ => rfl) (by omega)]
  rfl

theorem named_is (u : GEnv) (h : u.vars_.length ≤ 1000) (nm : Str) : F72 u.vars_ nm = F15 u nm := by
  unfold F72 F15
  rw [iter_range (body := F72_b1 u.vars_ nm) u.vars_ (fun v i n => (F73 v nm).bind fun r => bif r then some i else n) (some (-1)) (fun _ _ => rfl) (by omega),
    iter_range (body := F15_b1 u nm) u.vars_ (fun v i n => bif decide (v.name_ = nm) then some i else n) (some (-1)) (fun _ _ => rfl) (by omega)]
  rfl

theorem Sh_nil : Sh [] 2000 := ⟨Nat.zero_le _, Nat.zero_le _⟩

theorem tot_append : ∀ a b : List Str, tot (a ++ b) = tot a + tot b
  | [], b => by rw [List.nil_append, tot, Nat.zero_add]
  | x :: a, b => by rw [List.cons_append, tot, tot, tot_append a b]; omega

theorem tot_take (l : List Str) (n : Nat) : tot (l.take n) ≤ tot l := by
  have := tot_append (l.take n) (l.drop n)
  rw [List.take_append_drop] at this
  omega

theorem tot_drop (l : List Str) (n : Nat) : tot (l.drop n) ≤ tot l := by
  have := tot_append (l.take n) (l.drop n)
  rw [List.take_append_drop] at this
  omega

theorem get_is (l : List GEnv) (hl : Few l) (g : Int) (nm : Str) : ∃ vs ok, F42 l g nm = some (vs, ok) ∧ F45 l g nm = some (vs, ok) ∧ Sh vs 2000 := by
  unfold F42 F56 F45
  obtain ⟨r, e1, e2⟩ := F70_any l (by have := hl.1; omega) g
  have e3 := e1
  rw [find_is l (by have := hl.1; omega)] at e3
  rw [e1, e3, Option.bind_some, Option.bind_some, Option.bind_some]
  by_cases hr : r < 0
  · rw [decide_eq_true hr, cond_t, Bool.not_true, guardF, Option.bind_some, guardF, Option.bind_some, Bool.true_or, cond_t]
    exact ⟨[], false, rfl, rfl, Sh_nil⟩
  · rw [decide_eq_false hr, cond_f, Bool.not_false, guardO_true]
    obtain ⟨j, hj, rfl⟩ : ∃ j : Nat, j < l.length ∧ r = (j : Int) := by
      rcases e2 with h | h
      · exact absurd h hr
      · exact h
    obtain ⟨h1, h2⟩ := hl.2 _ (List.getElem_mem hj)
    rw [lidx_at hj, Option.bind_some, Option.bind_some, guardO_true]
    unfold F57
    obtain ⟨q, f1, f2⟩ := F72_any (l[j]).vars_ (by omega) nm
    have f3 := f1
    rw [named_is _ (by omega)] at f3
    rw [f1, f3, Option.bind_some, Option.bind_some, Option.bind_some, Bool.false_or]
    by_cases hq : q < 0
    · rw [decide_eq_true hq, cond_t, cond_t]
      exact ⟨[], false, rfl, rfl, Sh_nil⟩
    · rw [decide_eq_false hq, cond_f, cond_f]
      obtain ⟨k, hk, rfl⟩ : ∃ k : Nat, k < (l[j]).vars_.length ∧ q = (k : Int) := by
        rcases f2 with h | h
        · exact absurd h hq
        · exact h
      obtain ⟨g1, g2⟩ := h2 _ (List.getElem_mem hk)
      have := g1.1
      rw [Option.bind_some, f3, Option.bind_some, lidx_at hk, Option.bind_some, Option.bind_some, L_Clone, if_pos (by omega), Option.bind_some, F60, appO_eq (by rw [List.length_nil]; omega), Option.bind_some, Option.bind_some]
      exact ⟨_, true, rfl, rfl, g1⟩

theorem values_is (l : List GEnv) (hl : Few l) (g : Int) (nm : Str) (hn : nm.length ≤ 1000000000) : ∃ vs, F26 l g nm = some vs ∧ F30 l g nm = some vs ∧ Sh vs 2000 := by
  unfold F26 F30
  rcases num_is nm hn with ⟨n, m, e1, e2⟩ | ⟨n, e1, e2, h1, h2⟩
  · obtain ⟨vs, ok, f1, f2, f3⟩ := get_is l hl g nm
    rw [e1, e2, Option.bind_some, Option.bind_some]
    try dsimp only
    rw [cond_f, cond_f, f1, f2]
    exact ⟨vs, rfl, rfl, f3⟩
  · obtain ⟨vs, ok, f1, f2, f3⟩ := get_is l hl g [42]
    rw [e1, e2, Option.bind_some, Option.bind_some]
    try dsimp only
    rw [cond_t, cond_t, f1, f2, Option.bind_some, Option.bind_some]
    try dsimp only
    by_cases hc : (vs.length : Int) < n
    · rw [decide_eq_true hc, cond_t, decide_eq_false (by omega), cond_f]
      exact ⟨[], rfl, rfl, Sh_nil⟩
    · rw [decide_eq_false hc, cond_f, decide_eq_true (by omega), cond_t, wrap64 (by omega) (by omega), lslice, if_pos ⟨by omega, by omega, by omega⟩, Option.bind_some]
      refine ⟨_, rfl, rfl, ?_, ?_⟩
      · have := f3.1
        rw [List.length_take, List.length_drop]
        omega
      · exact Nat.le_trans (tot_take _ _) (Nat.le_trans (tot_drop _ _) f3.2)

/-! ### Here -/

def nmI (c1 : Int) : Bool := ((((decide (97 ≤ c1) && decide (c1 ≤ 122)) || (decide (65 ≤ c1) && decide (c1 ≤ 90))) || (decide (48 ≤ c1) && decide (c1 ≤ 57))) || decide (c1 = 95)) || decide (c1 = 42)

def nm (c : UInt8) : Bool := nmI (B c)

theorem F23_is (c : UInt8) : F23 (B c) = some (nm c) := rfl
theorem F29_is (c : UInt8) : F29 (B c) = some (nm c) := rfl

theorem nm_dollar : nm 36 = false := by decide

def skipHat (d : Str) : Str := if d.head? = some 94 then d.drop 1 else d

theorem skipHat_len (d : Str) : (skipHat d).length ≤ d.length := by
  unfold skipHat
  split
  · rw [List.length_drop]; omega
  · exact Nat.le_refl _

/-- The text of a here document. -/
def full (V : Str → Str) : Nat → Str → Str
  | 0, _ => []
  | _ + 1, [] => []
  | n + 1, c :: r =>
    if c = 36 then
      if r.takeWhile nm ≠ [] then V (r.takeWhile nm) ++ full V n (skipHat (r.dropWhile nm))
      else if r.head? = some 36 then 36 :: full V n (r.drop 1)
      else 36 :: full V n r
    else c :: full V n r

theorem dropWhile_len (r : Str) : (r.dropWhile nm).length ≤ r.length := by
  have := congrArg List.length (List.takeWhile_append_dropWhile (p := nm) (l := r))
  rw [List.length_append] at this
  omega

theorem full_fuel (V : Str → Str) : ∀ (n m : Nat) (t : Str), t.length < n → t.length < m → full V n t = full V m t
  | 0, _, t, h, _ => by omega
  | _ + 1, 0, t, _, h => by omega
  | n + 1, m + 1, [], _, _ => rfl
  | n + 1, m + 1, c :: r, h1, h2 => by
    rw [List.length_cons] at h1 h2
    rw [full, full, full_fuel V n m r (by omega) (by omega), full_fuel V n m (r.drop 1) (by rw [List.length_drop]; omega) (by rw [List.length_drop]; omega),
      full_fuel V n m (skipHat (r.dropWhile nm)) (by have := skipHat_len (r.dropWhile nm); have := dropWhile_len r; omega) (by have := skipHat_len (r.dropWhile nm); have := dropWhile_len r; omega)]

def Full (V : Str → Str) (t : Str) : Str := full V (t.length + 1) t

theorem full_eq (V : Str → Str) {n : Nat} {t : Str} (h : t.length < n) : full V n t = Full V t := full_fuel V _ _ t h (Nat.lt_succ_self _)

theorem Full_nil (V : Str → Str) : Full V [] = [] := rfl

theorem Full_other (V : Str → Str) {c : UInt8} (h : c ≠ 36) (r : Str) : Full V (c :: r) = c :: Full V r := by
  unfold Full
  rw [full, if_neg h]
  rfl

theorem Full_name (V : Str → Str) {r : Str} (h : r.takeWhile nm ≠ []) : Full V (36 :: r) = V (r.takeWhile nm) ++ Full V (skipHat (r.dropWhile nm)) := by
  have e : Full V (36 :: r) = full V (r.length + 2) (36 :: r) := rfl
  rw [e, full, if_pos rfl, if_pos h, full_eq]
  have := skipHat_len (r.dropWhile nm)
  have := dropWhile_len r
  omega

theorem Full_two (V : Str → Str) (r : Str) (h : r.head? = some 36) : Full V (36 :: r) = 36 :: Full V (r.drop 1) := by
  have ht : r.takeWhile nm = [] := by
    cases r with
    | nil => rfl
    | cons x r =>
      simp only [List.head?_cons, Option.some.injEq] at h
      subst h
      rw [List.takeWhile_cons, nm_dollar]
      rfl
  have e : Full V (36 :: r) = full V (r.length + 2) (36 :: r) := rfl
  rw [e, full, if_pos rfl, if_neg (by rw [ht]; simp), if_pos h, full_eq]
  rw [List.length_drop]
  omega

theorem Full_one (V : Str → Str) (r : Str) (ht : r.takeWhile nm = []) (h : r.head? ≠ some 36) : Full V (36 :: r) = 36 :: Full V r := by
  have e : Full V (36 :: r) = full V (r.length + 2) (36 :: r) := rfl
  rw [e, full, if_pos rfl, if_neg (by rw [ht]; simp), if_neg h]
  rfl

theorem Full_free (V : Str → Str) : ∀ (a t : Str), (36 : UInt8) ∉ a → Full V (a ++ t) = a ++ Full V t
  | [], t, _ => rfl
  | c :: a, t, h => by
    simp only [List.mem_cons, not_or] at h
    rw [List.cons_append, Full_other V (fun e => h.1 e.symm), Full_free V a t h.2]
    rfl

def outH (b : Str) : Str × Int := if 65536 < b.length then ([], 4) else (b, 0)

theorem outH_big (b t : Str) (h : 65536 < b.length) : outH (b ++ t) = ([], 4) := if_pos (by rw [List.length_append]; omega)

theorem tw_split {pre t : Str} (h1 : ∀ c ∈ pre, nm c = true) (h2 : ∀ c, t.head? = some c → nm c = false) : (pre ++ t).takeWhile nm = pre ∧ (pre ++ t).dropWhile nm = t := by
  induction pre with
  | nil =>
    cases t with
    | nil => exact ⟨rfl, rfl⟩
    | cons c t =>
      have := h2 c rfl
      rw [List.nil_append, List.takeWhile_cons, List.dropWhile_cons, this]
      exact ⟨rfl, rfl⟩
  | cons x pre ih =>
    obtain ⟨a, b⟩ := ih fun c hc => h1 c (List.mem_cons_of_mem _ hc)
    rw [List.cons_append, List.takeWhile_cons, List.dropWhile_cons, h1 x List.mem_cons_self, a, b]
    exact ⟨rfl, rfl⟩

theorem head_len {s : Str} {c : UInt8} (h : s.head? = some c) : 1 ≤ s.length := by
  cases s with
  | nil => cases h
  | cons x s => rw [List.length_cons]; omega

theorem F27_is (s : Str) : F27 s [94] = some (skipHat s) := by
  unfold F27 F43 skipHat
  rw [F40_one, Option.bind_some]
  by_cases h : s.head? = some 94
  · rw [decide_eq_true h, cond_t, List.length_singleton, sslice_drop s 1 (head_len h), if_pos h]
    rfl
  · rw [decide_eq_false h, cond_f, if_neg h]
    rfl

theorem j4_out (b : Str) : F7_j4 b = some (outH b) := by
  rw [F7_j4, L_Len, Option.bind_some]
  unfold outH
  by_cases h : 65536 < b.length
  · rw [decide_eq_true (by omega), cond_t, if_pos h]
  · rw [decide_eq_false (by omega), cond_f, if_neg h]
    rfl

theorem wr (b s : Str) (h : b.length + s.length ≤ 1000000) : L_WriteString b s = some ((s.length : Int), b ++ s) := by
  unfold L_WriteString
  rw [if_pos (by omega)]

theorem lens_tot : ∀ vs : List Str, (∀ x ∈ vs, x.length ≤ 2000) → Lib.lens vs = tot vs
  | [], _ => rfl
  | x :: r, h => by
    have h1 := h x List.mem_cons_self
    have h2 := lens_tot r fun y hy => h y (List.mem_cons_of_mem _ hy)
    rw [tot, ← h2, show Lib.lens (x :: r) = x.length + Lib.lens r from by simp [Lib.lens]]
    omega

theorem join_le {vs : List Str} (h : Sh vs 2000) : (Lib.join vs [32]).length ≤ 2400 := by
  cases vs with
  | nil => rw [Lib.join_nil]; exact Nat.zero_le _
  | cons x r =>
    have h1 := h.1
    have h2 := h.2
    rw [Lib.join_length, lens_tot _ fun y hy => h.mem (by decide) hy]
    rw [List.length_cons] at h1
    simp only [List.length_singleton]
    omega

section
variable (l : List GEnv) (hl : Few l)

/-- The joined values of a name. -/
def VJ (a : Str) : Str := match F30 l 1 a with
  | some vs => Lib.join vs [32]
  | none => []

variable {l}
include hl

theorem VJ_at (a : Str) (ha : a.length ≤ 1000000000) : ∃ vs, F26 l 1 a = some vs ∧ F30 l 1 a = some vs ∧ Sh vs 2000 ∧ VJ l a = Lib.join vs [32] := by
  obtain ⟨vs, h1, h2, h3⟩ := values_is l hl 1 a ha
  exact ⟨vs, h1, h2, h3, by unfold VJ; rw [h2]⟩

theorem inner7 (r c : Str) (again : Str × Str → Option (Str × Int)) (hr : r.length ≤ 100000) (hc : c.length ≤ 100000)
    (H : ∀ s' b', s'.length ≤ r.length → b'.length ≤ c.length + 2400 → again (s', b') = some (outH (b' ++ Full (VJ l) s'))) :
    ∀ (t pre : Str) (m : Nat), r = pre ++ t → (∀ x ∈ pre, nm x = true) → t.length < m → iter (F7_b7 r c again l 1) m (pre.length : Int) = some (outH (c ++ Full (VJ l) (36 :: r))) := by
  have fall : ∀ (t pre : Str), r = pre ++ t → (∀ x ∈ pre, nm x = true) → (∀ x, t.head? = some x → nm x = false) → ((F24 r [36]).bind fun r48 =>
          (bif r48 then
            (L_WriteString c [36]).bind fun (n52, c53) =>
            (sslice r 1 (r.length : Int)).bind fun t57 =>
            again (t57, c53)
          else
            (bif decide ((pre.length : Int) = 0) then
              (L_WriteString c [36]).bind fun (n61, c62) =>
              again (r, c62)
            else
              (sslice r 0 (pre.length : Int)).bind fun t66 =>
              (F26 l 1 t66).bind fun r69 =>
              (L_Join r69 [32]).bind fun s72 =>
              (L_WriteString c s72).bind fun (n75, c76) =>
              (sslice r (pre.length : Int) (r.length : Int)).bind fun t80 =>
              (F27 t80 [94]).bind fun r83 =>
              again (r83, c76)))) = some (outH (c ++ Full (VJ l) (36 :: r))) := by
    intro t pre he hp ht
    obtain ⟨tw, dw⟩ := tw_split hp ht
    rw [← he] at tw dw
    have w1 : L_WriteString c [36] = some (1, c ++ [36]) := wr c [36] (by rw [List.length_singleton]; omega)
    unfold F24
    rw [F40_one, Option.bind_some, Option.bind_some]
    by_cases h1 : r.head? = some 36
    · rw [decide_eq_true h1, cond_t, w1, Option.bind_some]
      try dsimp only
      have e := sslice_drop r 1 (head_len h1)
      rw [show ((1 : Nat) : Int) = 1 from rfl] at e
      rw [e, Option.bind_some, H _ _ (by rw [List.length_drop]; omega) (by rw [List.length_append, List.length_singleton]; omega), Full_two _ _ h1, List.append_assoc]
      rfl
    · rw [decide_eq_false h1, cond_f]
      by_cases h2 : pre = []
      · subst h2
        rw [decide_eq_true (by rw [List.length_nil]; omega), cond_t, w1, Option.bind_some]
        try dsimp only
        rw [H _ _ (Nat.le_refl _) (by rw [List.length_append, List.length_singleton]; omega), Full_one _ _ tw h1, List.append_assoc]
        rfl
      · have hlen : pre.length + t.length = r.length := by rw [he, List.length_append]
        have hp0 : 0 < pre.length := List.length_pos_iff.2 h2
        obtain ⟨vs, f1, f2, f3, f4⟩ := VJ_at hl pre (by omega)
        have hj := join_le f3
        have h4 := f3.1
        rw [decide_eq_false (by omega), cond_f, sslice_take r pre.length (by omega), Option.bind_some, show r.take pre.length = pre by rw [he]; simp, f1, Option.bind_some, L_Join, if_pos ⟨by omega, by omega⟩, Option.bind_some, wr _ _ (by omega), Option.bind_some]
        try dsimp only
        rw [sslice_drop r pre.length (by omega), Option.bind_some, show r.drop pre.length = t by rw [he]; simp, F27_is, Option.bind_some, H _ _ (by have := skipHat_len t; omega) (by rw [List.length_append]; omega), Full_name _ (by rw [tw]; exact h2), tw, dw, f4, List.append_assoc]
  intro t
  induction t with
  | nil =>
    intro pre m he hp hm
    cases m with
    | zero => omega
    | succ m =>
      have hlen : pre.length = r.length := by rw [he, List.append_nil]
      show F7_b7 r c again l 1 (iter (F7_b7 r c again l 1) m) _ = _
      rw [F7_b7, decide_eq_false (by omega), guardF, Option.bind_some, guardF, Option.bind_some, Bool.false_and, cond_f]
      exact fall [] pre he hp fun x hx => by cases hx
  | cons x t ih =>
    intro pre m he hp hm
    cases m with
    | zero => omega
    | succ m =>
      rw [List.length_cons] at hm
      have hlen : pre.length + (t.length + 1) = r.length := by rw [he, List.length_append, List.length_cons]
      have hx : sidx r (pre.length : Int) = some (B x) := by rw [he]; exact sidx_mid pre x t
      show F7_b7 r c again l 1 (iter (F7_b7 r c again l 1) m) _ = _
      rw [F7_b7, decide_eq_true (by omega), guardO_true, hx, Option.bind_some, guardO_true, F23_is, Option.bind_some, Bool.true_and]
      cases hn : nm x with
      | true =>
        rw [cond_t, wrap64 (by omega) (by omega)]
        have := ih (pre ++ [x]) m (by rw [he]; simp) (fun y hy => by
          rcases List.mem_append.1 hy with h | h
          · exact hp y h
          · rw [List.mem_singleton.1 h]; exact hn) (by omega)
        rw [← this]
        congr 1
        simp
      | false =>
        rw [cond_f]
        exact fall (x :: t) pre he hp fun y hy => by
          simp only [List.head?_cons, Option.some.injEq] at hy
          rw [← hy]; exact hn

theorem here7 : ∀ (m : Nat) (s b : Str), s.length < m → s.length ≤ 2000 → b.length ≤ 100000 → iter (F7_b6 l 1) m (s, b) = some (outH (b ++ Full (VJ l) s))
  | 0, s, b, h, _, _ => by omega
  | m + 1, s, b, hm, hs2, hb => by
    show F7_b6 l 1 (iter (F7_b6 l 1) m) (s, b) = _
    rw [F7_b6]
    try dsimp only
    by_cases hs : s = []
    · subst hs
      rw [decide_eq_true rfl, Bool.not_true, cond_f, j4_out, Full_nil, List.append_nil]
    · rw [decide_eq_false hs, Bool.not_false, cond_t, L_Len, Option.bind_some]
      by_cases hbig : 65536 < b.length
      · rw [decide_eq_false (by omega), cond_f, j4_out, outH_big _ _ hbig]
        unfold outH
        rw [if_pos hbig]
      · rw [decide_eq_true (by omega), cond_t]
        rcases firstOf 36 s with hf | ⟨a, r, hf, rfl⟩
        · rw [L_Cut, if_pos (by omega), cut_free hf, Option.bind_some]
          try dsimp only
          rw [wr _ _ (by omega), Option.bind_some]
          try dsimp only
          rw [Bool.not_false, cond_t, j4_out]
          have := Full_free (VJ l) s [] hf
          rw [List.append_nil, Full_nil, List.append_nil] at this
          rw [this]
        · rw [List.length_append, List.length_cons] at hm hs2
          rw [L_Cut, if_pos (by rw [List.length_append, List.length_cons]; omega), cut_at r hf, Option.bind_some]
          try dsimp only
          rw [wr _ _ (by omega), Option.bind_some]
          try dsimp only
          rw [Bool.not_true, cond_f, Full_free _ _ _ hf, ← List.append_assoc]
          exact inner7 hl r (b ++ a) (iter (F7_b6 l 1) m) (by omega) (by rw [List.length_append]; omega) (fun s' b' h1 h2 => by
            rw [List.length_append] at h2
            exact here7 m s' b' (by omega) (by omega) (by omega)) r [] BIG rfl (fun x hx => by cases hx) (by unfold BIG; omega)

theorem F7_is (s : Str) (h : s.length ≤ 2000) : F7 l 1 s = some (outH (Full (VJ l) s)) := by
  unfold F7
  have := here7 hl BIG s [] (by unfold BIG; omega) h (Nat.zero_le _)
  rw [List.nil_append] at this
  exact this

omit hl in
/-- What is put behind, from the second value on. -/
theorem tail8 (vs : List Str) (hv : Sh vs 2000) (t : Int) (s : Str) (again : Str × Int → Option (Str × Int)) : ∀ (m k : Nat) (o : Str), k ≤ vs.length → vs.length - k < m → 0 < k → o.length + (vs.length - k) * 2001 ≤ 1000000000 →
    iter (F8_b5 vs t s again) m (o, (k : Int)) = F8_b5 vs t s again (fun _ => none) (o ++ Lib.joinTail [32] (vs.drop k), (vs.length : Int))
  | 0, k, o, _, h, _, _ => by omega
  | m + 1, k, o, hk, hm, h0, ho => by
    have hv1 := hv.1
    show F8_b5 vs t s again (iter (F8_b5 vs t s again) m) (o, (k : Int)) = _
    by_cases hc : k < vs.length
    · rw [F8_b5]
      try dsimp only
      have hx := hv.mem (by decide) (List.getElem_mem hc)
      rw [decide_eq_true (by omega), cond_t, decide_eq_true (by omega), cond_t, catO_eq (by rw [List.length_singleton]; omega), Option.bind_some, lidx_at hc, Option.bind_some, catO_eq (by rw [List.length_append, List.length_singleton]; omega), Option.bind_some, wrap64 (by omega) (by omega)]
      have hmul : (vs.length - k) * 2001 = (vs.length - (k + 1)) * 2001 + 2001 := by
        rw [show vs.length - k = vs.length - (k + 1) + 1 by omega, Nat.succ_mul]
      have := tail8 vs hv t s again m (k + 1) (o ++ [32] ++ vs[k]) (by omega) (by omega) (by omega) (by
        rw [List.length_append, List.length_append, List.length_singleton]
        omega)
      rw [drop_at hc]
      rw [show ((k : Int) + 1) = ((k + 1 : Nat) : Int) by omega, this]
      congr 2
      show _ = o ++ ((vs[k] :: vs.drop (k + 1)).map ([32] ++ ·)).flatten
      rw [List.map_cons, List.flatten_cons]
      unfold Lib.joinTail
      simp only [List.append_assoc]
    · have : k = vs.length := by omega
      subst this
      rw [List.drop_eq_nil_of_le (Nat.le_refl _), show Lib.joinTail [32] [] = [] from rfl, List.append_nil]
      rw [F8_b5, F8_b5]
      try dsimp only
      rw [decide_eq_false (by omega), cond_f, cond_f]

omit hl in
theorem vals8 (vs : List Str) (hv : Sh vs 2000) (t : Int) (s : Str) (again : Str × Int → Option (Str × Int)) (o : Str) (ho : o.length ≤ 100000) :
    iter (F8_b5 vs t s again) BIG (o, 0) = F8_b5 vs t s again (fun _ => none) (o ++ Lib.join vs [32], (vs.length : Int)) := by
  have hv1 := hv.1
  show F8_b5 vs t s again (iter (F8_b5 vs t s again) (BIG - 1)) (o, 0) = _
  cases vs with
  | nil =>
    rw [Lib.join_nil, List.append_nil]
    rfl
  | cons x r =>
    have hx := hv.mem (by decide) (show x ∈ x :: r from List.mem_cons_self)
    rw [F8_b5]
    try dsimp only
    rw [List.length_cons] at hv1
    rw [decide_eq_true (by rw [List.length_cons]; omega), cond_t, decide_eq_false (by omega), cond_f, lidx_0, Option.bind_some, catO_eq (by omega), Option.bind_some]
    have := tail8 (x :: r) hv t s again (BIG - 1) 1 (o ++ x) (by rw [List.length_cons]; omega) (by rw [List.length_cons]; unfold BIG; omega) (by decide) (by
      have hm : ((x :: r).length - 1) * 2001 ≤ 400 * 2001 := Nat.mul_le_mul_right _ (by rw [List.length_cons]; omega)
      rw [List.length_append]
      omega)
    rw [show IntKind.wrap .i64 (0 + 1) = ((1 : Nat) : Int) from rfl, this, Lib.join_cons]
    congr 2
    simp

theorem inner8 (s : Str) (hs : s.length ≤ 2000) (p r : Str) (he : s = p ++ 36 :: r) (o : Str) (ho : o.length ≤ 65536) (again : Str × Int → Option (Str × Int))
    (H : ∀ q t o', s = q ++ t → t.length ≤ r.length → o'.length ≤ o.length + 2400 → again (o', (q.length : Int)) = some (outH (o' ++ Full (VJ l) t))) :
    ∀ (t pre : Str) (m : Nat), r = pre ++ t → (∀ x ∈ pre, nm x = true) → t.length < m → iter (F8_b4 s (p.length : Int) l 1 again o) m (((p ++ 36 :: pre).length : Nat) : Int) = some (outH (o ++ Full (VJ l) (36 :: r))) := by
  have hps : p.length + (r.length + 1) = s.length := by rw [he, List.length_append, List.length_cons]
  have hd : sidx s (p.length : Int) = some 36 := by rw [he]; exact sidx_mid p 36 r
  have fall : ∀ (t pre : Str) (c19 : Int), r = pre ++ t → (∀ x ∈ pre, nm x = true) → (∀ x, t.head? = some x → nm x = false) → (∀ x, t.head? = some x → c19 = B x) → ((bif decide (IntKind.wrap .i64 ((p.length : Int) + 1) < (((p ++ 36 :: pre).length : Nat) : Int)) then
      (sslice s (IntKind.wrap .i64 ((p.length : Int) + 1)) (((p ++ 36 :: pre).length : Nat) : Int)).bind fun t27 =>
      (F30 l 1 t27).bind fun r30 =>
      iter (F8_b5 r30 (((p ++ 36 :: pre).length : Nat) : Int) s again) BIG (o, 0)
    else
      (bif ((decide ((36 : Int) = 36) && decide ((((p ++ 36 :: pre).length : Nat) : Int) < (s.length : Int))) && decide (c19 = 36)) then
        (catO o [36]).bind fun s61 =>
        again (s61, IntKind.wrap .i64 ((((p ++ 36 :: pre).length : Nat) : Int) + 1))
      else
        (sslice s (p.length : Int) (((p ++ 36 :: pre).length : Nat) : Int)).bind fun t64 =>
        (catO o t64).bind fun s67 =>
        again (s67, (((p ++ 36 :: pre).length : Nat) : Int))))) = some (outH (o ++ Full (VJ l) (36 :: r))) := by
    intro t pre c19 hr hp ht hc
    obtain ⟨tw, dw⟩ := tw_split hp ht
    rw [← hr] at tw dw
    have hlen : pre.length + t.length = r.length := by rw [hr, List.length_append]
    have hto : (p ++ 36 :: pre).length = p.length + 1 + pre.length := by rw [List.length_append, List.length_cons]; omega
    have hsp : s = (p ++ 36 :: pre) ++ t := by rw [he, hr]; simp
    rw [wrap64 (n := (p.length : Int) + 1) (by omega) (by omega)]
    by_cases h2 : pre = []
    · subst h2
      rw [List.nil_append] at hr
      subst hr
      rw [decide_eq_false (by rw [hto, List.length_nil]; omega), cond_f, decide_eq_true rfl, Bool.true_and]
      by_cases h1 : r.head? = some 36
      · cases r with
        | nil => cases h1
        | cons x r =>
          simp only [List.head?_cons, Option.some.injEq] at h1
          subst h1
          have hc' := hc 36 rfl
          rw [List.length_cons] at hps
          rw [decide_eq_true (by rw [hto, List.length_nil]; omega), decide_eq_true (show c19 = 36 from hc'), Bool.true_and, cond_t, catO_eq (by rw [List.length_singleton]; omega), Option.bind_some, wrap64 (by omega) (by rw [hto, List.length_nil]; omega)]
          have := H (p ++ [36, 36]) r (o ++ [36]) (by rw [he]; simp) (by rw [List.length_cons]; omega) (by rw [List.length_append, List.length_singleton]; omega)
          rw [Full_two _ _ rfl, List.drop_succ_cons, List.drop_zero]
          rw [show (((p ++ [36] : Str).length : Nat) : Int) + 1 = (((p ++ [36, 36] : Str).length : Nat) : Int) by simp; omega, this, List.append_assoc]
          rfl
      · have hno : (decide ((((p ++ [36]).length : Nat) : Int) < (s.length : Int)) && decide (c19 = 36)) = false := by
          cases r with
          | nil => rw [decide_eq_false (by rw [hto]; simp at hps ⊢; omega), Bool.false_and]
          | cons x r =>
            have hc' := hc x rfl
            rw [Bool.and_eq_false_iff]
            right
            rw [decide_eq_false_iff_not]
            intro e
            rw [hc'] at e
            exact h1 (by rw [List.head?_cons]; congr 1; exact of_decide_eq_true ((byte_eq x 36).symm.trans (decide_eq_true e)))
        have hsl := sslice_part p [36] r
        rw [show p ++ [36] ++ r = s by rw [he]; simp] at hsl
        rw [hno, cond_f, hsl, Option.bind_some, catO_eq (by rw [List.length_singleton]; omega), Option.bind_some, H (p ++ [36]) r (o ++ [36]) (by rw [he]; simp) (Nat.le_refl _) (by rw [List.length_append, List.length_singleton]; omega), Full_one _ _ tw h1, List.append_assoc]
        rfl
    · have hp0 : 0 < pre.length := List.length_pos_iff.2 h2
      obtain ⟨vs, f1, f2, f3, f4⟩ := VJ_at hl pre (by omega)
      have hj := join_le f3
      have hsl := sslice_part (p ++ [36]) pre t
      rw [show p ++ [36] ++ pre ++ t = s by rw [hsp]; simp, show p ++ [36] ++ pre = p ++ 36 :: pre by simp, show (((p ++ [36] : Str).length : Nat) : Int) = (p.length : Int) + 1 by simp] at hsl
      rw [decide_eq_true (by rw [hto]; omega), cond_t, hsl, Option.bind_some, f2, Option.bind_some, vals8 vs f3 _ _ _ o (by omega), F8_b5]
      try dsimp only
      rw [decide_eq_false (by omega), cond_f, Full_name _ (by rw [tw]; exact h2), tw, dw, f4, ← List.append_assoc]
      cases t with
      | nil =>
        rw [List.append_nil] at hsp
        rw [decide_eq_false (by rw [hsp]; omega), guardF, Option.bind_some, Bool.false_and, cond_f]
        exact H (p ++ 36 :: pre) [] _ (by rw [List.append_nil]; exact hsp) (Nat.zero_le _) (by rw [List.length_append]; omega)
      | cons x t =>
        rw [List.length_cons] at hlen
        have hx : sidx s (((p ++ 36 :: pre).length : Nat) : Int) = some (B x) := by rw [hsp]; exact sidx_mid (p ++ 36 :: pre) x t
        rw [decide_eq_true (by rw [hto]; omega), guardO_true, hx, Option.bind_some, Bool.true_and]
        have e : decide (B x = 94) = decide (x = 94) := byte_eq x 94
        rw [e]
        by_cases h94 : x = 94
        · subst h94
          rw [decide_eq_true rfl, cond_t, wrap64 (by omega) (by rw [hto]; omega)]
          have := H (p ++ 36 :: pre ++ [94]) t (o ++ Lib.join vs [32]) (by rw [hsp]; simp) (by omega) (by rw [List.length_append]; omega)
          rw [show (((p ++ 36 :: pre : Str).length : Nat) : Int) + 1 = (((p ++ 36 :: pre ++ [94] : Str).length : Nat) : Int) by simp; omega, this]
          rfl
        · rw [decide_eq_false h94, cond_f]
          have hk : skipHat (x :: t) = x :: t := by
            unfold skipHat
            rw [if_neg (by simp; exact h94)]
          rw [hk]
          exact H (p ++ 36 :: pre) (x :: t) _ hsp (by rw [List.length_cons]; omega) (by rw [List.length_append]; omega)
  intro t
  induction t with
  | nil =>
    intro pre m hr hp hm
    cases m with
    | zero => omega
    | succ m =>
      have hlen : (p ++ 36 :: pre).length = s.length := by rw [he, hr, List.append_nil]
      show F8_b4 s _ l 1 again o (iter (F8_b4 s _ l 1 again o) m) _ = _
      rw [F8_b4, hd, Option.bind_some, decide_eq_true (p := ((36 : Int) = 36)) rfl, decide_eq_false (p := ((((p ++ 36 :: pre).length : Nat) : Int) < (s.length : Int))) (by omega), Bool.true_and, guardF, Option.bind_some, guardF, Option.bind_some, Bool.false_and, cond_f]
      have := fall [] pre default hr hp (fun x hx => by cases hx) (fun x hx => by cases hx)
      rw [decide_eq_true (p := ((36 : Int) = 36)) rfl, decide_eq_false (p := ((((p ++ 36 :: pre).length : Nat) : Int) < (s.length : Int))) (by omega), Bool.true_and] at this
      exact this
  | cons x t ih =>
    intro pre m hr hp hm
    cases m with
    | zero => omega
    | succ m =>
      rw [List.length_cons] at hm
      have hlen : (p ++ 36 :: pre).length + (t.length + 1) = s.length := by rw [he, hr]; simp; omega
      have hx : sidx s (((p ++ 36 :: pre).length : Nat) : Int) = some (B x) := by
        rw [show s = (p ++ 36 :: pre) ++ x :: t by rw [he, hr]; simp]
        exact sidx_mid _ x t
      show F8_b4 s _ l 1 again o (iter (F8_b4 s _ l 1 again o) m) _ = _
      rw [F8_b4, hd, Option.bind_some, decide_eq_true (p := ((36 : Int) = 36)) rfl, decide_eq_true (p := ((((p ++ 36 :: pre).length : Nat) : Int) < (s.length : Int))) (by omega), Bool.true_and, guardO_true, hx, Option.bind_some, guardO_true, F29_is, Option.bind_some, Bool.true_and]
      cases hn : nm x with
      | true =>
        rw [cond_t, wrap64 (by omega) (by omega)]
        have := ih (pre ++ [x]) m (by rw [hr]; simp) (fun y hy => by
          rcases List.mem_append.1 hy with h | h
          · exact hp y h
          · rw [List.mem_singleton.1 h]; exact hn) (by omega)
        rw [← this]
        congr 1
        simp
        omega
      | false =>
        rw [cond_f]
        have := fall (x :: t) pre (B x) hr hp (fun y hy => by
          simp only [List.head?_cons, Option.some.injEq] at hy
          rw [← hy]; exact hn) (fun y hy => by
          simp only [List.head?_cons, Option.some.injEq] at hy
          rw [hy])
        rw [decide_eq_true (p := ((36 : Int) = 36)) rfl, decide_eq_true (p := ((((p ++ 36 :: pre).length : Nat) : Int) < (s.length : Int))) (by omega), Bool.true_and] at this
        exact this

theorem here8 (s : Str) (hs : s.length ≤ 2000) : ∀ (m : Nat) (p t o : Str), s = p ++ t → t.length < m → o.length ≤ 100000 → iter (F8_b3 s l 1) m (o, (p.length : Int)) = some (outH (o ++ Full (VJ l) t))
  | 0, p, t, o, _, h, _ => by omega
  | m + 1, p, t, o, he, hm, ho => by
    have hlen : s.length = p.length + t.length := by rw [he, List.length_append]
    show F8_b3 s l 1 (iter (F8_b3 s l 1) m) (o, (p.length : Int)) = _
    rw [F8_b3]
    try dsimp only
    have fin : (bif decide (65536 < (o.length : Int)) then some (([] : Str), (4 : Int)) else some (o, 0)) = some (outH o) := by
      unfold outH
      by_cases h : 65536 < o.length
      · rw [decide_eq_true (by omega), cond_t, if_pos h]
      · rw [decide_eq_false (by omega), cond_f, if_neg h]
    by_cases hbig : 65536 < o.length
    · rw [decide_eq_false (p := ((o.length : Int) ≤ 65536)) (by omega), Bool.and_false, cond_f, fin, outH_big _ _ hbig]
      unfold outH
      rw [if_pos hbig]
    · rw [decide_eq_true (p := ((o.length : Int) ≤ 65536)) (by omega), Bool.and_true]
      cases t with
      | nil =>
        rw [List.length_nil] at hlen
        rw [decide_eq_false (by omega), cond_f, fin, Full_nil, List.append_nil]
      | cons c r =>
        rw [List.length_cons] at hlen hm
        rw [decide_eq_true (by omega), cond_t]
        by_cases h36 : c = 36
        · subst h36
          have := inner8 hl s hs p r he o (by omega) (iter (F8_b3 s l 1) m) (fun q t o' h1 h2 h3 => here8 s hs m q t o' h1 (by omega) (by omega)) r [] BIG rfl (fun x hx => by cases hx) (by unfold BIG; omega)
          rw [wrap64 (by omega) (by omega)]
          rw [← this]
          congr 1
          simp
        · have hd : sidx s (p.length : Int) = some (B c) := by rw [he]; exact sidx_mid p c r
          have hne : ¬ B c = 36 := fun e => h36 (of_decide_eq_true ((byte_eq c 36).symm.trans (decide_eq_true e)))
          have hsl := sslice_part p [c] r
          rw [show p ++ [c] ++ r = s by rw [he]; simp, show (((p ++ [c] : Str).length : Nat) : Int) = (p.length : Int) + 1 by simp] at hsl
          rw [wrap64 (by omega) (by omega)]
          show F8_b4 s _ l 1 _ o (iter (F8_b4 s _ l 1 _ o) (BIG - 1)) _ = _
          rw [F8_b4, hd, Option.bind_some, decide_eq_false hne, Bool.false_and, guardF, Option.bind_some, guardF, Option.bind_some, Bool.false_and, cond_f, wrap64 (by omega) (by omega), decide_eq_false (Int.lt_irrefl _), cond_f, Bool.false_and, cond_f, hsl, Option.bind_some, catO_eq (by rw [List.length_singleton]; omega), Option.bind_some]
          have := here8 s hs m (p ++ [c]) r (o ++ [c]) (by rw [he]; simp) (by omega) (by rw [List.length_append, List.length_singleton]; omega)
          rw [show (((p ++ [c] : Str).length : Nat) : Int) = (p.length : Int) + 1 by simp] at this
          rw [this, Full_other _ h36, List.append_assoc]
          rfl

theorem F8_is (s : Str) (h : s.length ≤ 2000) : F8 l 1 s = some (outH (Full (VJ l) s)) := by
  unfold F8
  have := here8 hl s h BIG [] s [] rfl (by unfold BIG; omega) (Nat.zero_le _)
  rw [List.nil_append] at this
  exact this

end

/-! ### the law -/

theorem plain3 (l : List GEnv) (wl : WE l) (s ifs : Str) (ws : s.length ≤ maxLen) (wi : ifs.length ≤ maxLen) : F3 l s ifs = some true := by
  unfold F3
  rcases F4_any l wl with h4 | ⟨h4, hl⟩
  · rw [h4, Option.bind_some, Bool.not_false, Bool.true_or, Bool.true_or, Bool.not_true, guardF, Option.bind_some, Bool.true_or, cond_t, alive]
    rfl
  · rw [h4, Option.bind_some, Bool.not_true, Bool.false_or]
    by_cases hs : s.length ≤ 2000
    · by_cases hi : ifs.length ≤ 300
      · rw [decide_eq_false (p := (2000 < (s.length : Int))) (by omega), decide_eq_false (p := (300 < (ifs.length : Int))) (by omega), Bool.or_self, Bool.not_false, guardO_true]
        obtain ⟨r, hr⟩ := F5_any l hl
        rw [hr, Option.bind_some, Bool.false_or]
        cases r with
        | false =>
          rw [Bool.not_false, cond_t, alive]
          rfl
        | true =>
          have hm : (spl ifs s [] []).length ≤ maxLen := by
            have := spl_len ifs s [] []
            unfold maxLen
            simp at this
            omega
          rw [Bool.not_true, cond_f, F7_is hl s hs, Option.bind_some]
          try dsimp only
          rw [F8_is hl s hs, Option.bind_some]
          try dsimp only
          rw [F10_is s ifs (by omega), Option.bind_some, F11_is s ifs (by omega) (by omega), Option.bind_some, F9_is _ _ hm, Option.bind_some, decide_eq_true rfl, decide_eq_true rfl, decide_eq_true rfl, Bool.and_self, Bool.and_self, guardO_true, alive]
          rfl
      · rw [decide_eq_true (p := (300 < (ifs.length : Int))) (by omega), Bool.or_true, Bool.not_true, guardF, Option.bind_some, Bool.true_or, cond_t, alive]
        rfl
    · rw [decide_eq_true (p := (2000 < (s.length : Int))) (by omega), Bool.true_or, Bool.not_true, guardF, Option.bind_some, Bool.true_or, cond_t, alive]
      rfl

theorem law3 (x0 : List GEnv) (w0 : w_22 x0) (x1 : Str) (w1 : List.length x1 ≤ maxLen) (x2 : Str) (w2 : List.length x2 ≤ maxLen) : F3 x0 x1 x2 = some true :=
  plain3 x0 ⟨w0.1, fun e he => ⟨(w0.2 e he).2.2.1, fun v hv => ((w0.2 e he).2.2.2 v hv).2.2.1⟩⟩ x1 x2 w1 w2

end Go.Abs.U5Z
