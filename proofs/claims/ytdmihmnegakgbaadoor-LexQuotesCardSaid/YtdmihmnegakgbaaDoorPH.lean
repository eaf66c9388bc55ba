/- The layer 47 laws, in plain Lean: the two ways of reading a here-document agree. -/
import Derived.Test.YtdmihmnegakgbaaDoorD1
import Derived.Test.YtdmihmnegakgbaaDoorTY
import Derived.Test.YtdmihmnegakgbaaDoorA34
import Derived.Lib.IndexBytes
import Derived.Lib.IndexLaws
set_option linter.unusedVariables false
set_option linter.unusedSimpArgs false
namespace Go.Abs.U47
open Go

theorem alive : F8 = some true := by kernel_rfl

/-! ### Cutting at a byte -/

theorem indexByte_free (c : UInt8) : ∀ a : Str, c ∉ a → Lib.indexByte a c = -1
  | [], _ => rfl
  | x :: a, h => by
    simp only [List.mem_cons, not_or] at h
    have ih := indexByte_free c a h.2
    have h3 : ¬ x = c := fun e => h.1 e.symm
    simp [Lib.indexByte, ih, h3]

theorem indexByte_at (c : UInt8) (b : Str) : ∀ a : Str, c ∉ a → Lib.indexByte (a ++ c :: b) c = (a.length : Int)
  | [], _ => by simp [Lib.indexByte]
  | x :: a, h => by
    simp only [List.mem_cons, not_or] at h
    have ih := indexByte_at c b a h.2
    have h1 : ¬ ((a.length : Int) = -1) := by omega
    have h3 : ¬ x = c := fun e => h.1 e.symm
    simp [Lib.indexByte, ih, h3, h1]

theorem cut_free {c : UInt8} {a : Str} (h : c ∉ a) : Lib.cut a [c] = (a, [], false) := by
  unfold Lib.cut
  rw [Lib.index_one, indexByte_free c a h]
  rfl

theorem cut_at {c : UInt8} {a : Str} (b : Str) (h : c ∉ a) : Lib.cut (a ++ c :: b) [c] = (a, b, true) := by
  unfold Lib.cut
  rw [Lib.index_one, indexByte_at c b a h, if_pos (by omega)]
  simp

theorem firstOf (c : UInt8) : ∀ t : Str, c ∉ t ∨ ∃ a b, c ∉ a ∧ t = a ++ c :: b
  | [] => .inl (by simp)
  | x :: t => by
    by_cases h : x = c
    · exact .inr ⟨[], t, by simp, by rw [h]; rfl⟩
    · rcases firstOf c t with h1 | ⟨a, b, h1, h2⟩
      · exact .inl (by simp only [List.mem_cons, not_or]; exact ⟨fun e => h e.symm, h1⟩)
      · exact .inr ⟨x :: a, b, by simp only [List.mem_cons, not_or]; exact ⟨fun e => h e.symm, h1⟩, by rw [h2]; rfl⟩

theorem sidx_mid (pre : Str) (c : UInt8) (r : Str) : sidx (pre ++ c :: r) (pre.length : Int) = some (B c) := by
  rw [sidx_nat]
  simp [B]

theorem sslice_end (pre : Str) (r : Str) : sslice (pre ++ r) (pre.length : Int) ((pre ++ r).length : Int) = some r := by
  unfold sslice
  rw [if_pos ⟨by omega, by simp only [List.length_append]; omega, by omega⟩]
  have : (((pre ++ r).length : Int)).toNat - (pre.length : Int).toNat = r.length := by simp only [List.length_append]; omega
  rw [this, Int.toNat_natCast]
  simp

theorem sslice_part (pre a r : Str) : sslice (pre ++ a ++ r) (pre.length : Int) ((pre ++ a).length : Int) = some a := by
  unfold sslice
  rw [if_pos ⟨by omega, by simp only [List.length_append]; omega, by simp only [List.length_append]; omega⟩]
  have : (((pre ++ a).length : Int)).toNat - (pre.length : Int).toNat = a.length := by simp only [List.length_append]; omega
  rw [this, Int.toNat_natCast]
  simp

theorem Bf {c d : UInt8} {k : Int} (hk : B d = k) (h : c ≠ d) : decide (B c = k) = false := by
  subst hk
  exact (byte_eq c d).trans (decide_eq_false h)

/-! ### Here-documents -/

/-- The end of a line is found. -/
theorem scan15 (s e : Str) (from_ at_ : Int) (again9 : Int → Option (Str × Int × Int)) (hl : s.length ≤ 3000) : ∀ (a pre rest : Str) (n : Nat), (10 : UInt8) ∉ a → s = pre ++ a ++ rest → (rest = [] ∨ ∃ b, rest = 10 :: b) → a.length < n →
    iter (F15_b3 s from_ e at_ again9) n (pre.length : Int) = (sslice s from_ ((pre ++ a).length : Int)).bind fun t21 =>
      bif decide (t21 = e) then (sslice s at_ from_).bind fun t25 => some (t25, imin (((pre ++ a).length : Int) + 1) (s.length : Int), 0)
      else again9 (((pre ++ a).length : Int) + 1)
  | _, _, _, 0, _, _, _, h => absurd h (Nat.not_lt_zero _)
  | [], pre, rest, n + 1, h10, hs, hr, hn => by
    have hlen : s.length = pre.length + rest.length := by rw [hs]; simp
    show F15_b3 s _ _ _ _ _ _ = _
    rw [F15_b3]
    rcases hr with rfl | ⟨b, rfl⟩
    · have he : decide ((pre.length : Int) < (s.length : Int)) = false := decide_eq_false (by simp at hlen; omega)
      rw [he]
      simp only [guardO, cond_f, Option.bind_some, Bool.false_and, List.append_nil]
      rw [wrap64 (by omega) (by omega)]
    · have he : decide ((pre.length : Int) < (s.length : Int)) = true := decide_eq_true (by simp at hlen; omega)
      have h1 : sidx s (pre.length : Int) = some (B 10) := by rw [hs, List.append_nil]; exact sidx_mid pre 10 b
      have h2 : decide (B 10 = 10) = true := by decide
      rw [he, h1]
      simp only [guardO, cond_t, Option.bind_some, Bool.true_and, h2, Bool.not_true, cond_f, List.append_nil]
      rw [wrap64 (by omega) (by omega)]
  | c :: a, pre, rest, n + 1, h10, hs, hr, hn => by
    simp only [List.mem_cons, not_or] at h10
    have hlen : s.length = pre.length + (a.length + 1) + rest.length := by rw [hs]; simp; omega
    have he : decide ((pre.length : Int) < (s.length : Int)) = true := decide_eq_true (by omega)
    have h1 : sidx s (pre.length : Int) = some (B c) := by
      rw [hs, List.append_assoc]
      exact sidx_mid pre c (a ++ rest)
    have h2 : decide (B c = 10) = false := Bf (d := 10) rfl fun e => h10.1 e.symm
    show F15_b3 s _ _ _ _ _ _ = _
    rw [F15_b3, he, h1]
    simp only [guardO, cond_t, Option.bind_some, Bool.true_and, h2, Bool.not_false]
    rw [wrap64 (by omega) (by omega)]
    have ih := scan15 s e from_ at_ again9 hl a (pre ++ [c]) rest n h10.2 (by rw [hs]; simp) hr (by simp at hn; omega)
    have e1 : ((pre ++ [c]).length : Int) = (pre.length : Int) + 1 := by simp
    have e2 : pre ++ [c] ++ a = pre ++ c :: a := by simp
    rw [e1, e2] at ih
    exact ih

/-- What both answer, from the lines and the places behind them. -/
def res (e : Str) : Str → List Str → List Int → Str × Int × Int
  | d, a :: L, x :: E => if a = e then (d, x, 0) else res e (d ++ (a ++ [10])) L E
  | _, _, _ => ([], 0, 3)

def glueNL (L : List Str) : Str := L.flatMap (· ++ [10])

theorem both {s e pre : Str} (hl : s.length ≤ 3000) : ∀ (k : Nat) (t d : Str), t.length ≤ k → s = pre ++ d ++ t → ∃ (L : List Str) (E : List Int), L.length = E.length ∧ L.length ≤ t.length ∧ (glueNL L).length ≤ t.length + 1 ∧
    (∀ n ls es, t.length < n → ls.length + t.length ≤ 10000 → es.length + t.length ≤ 10000 → iter (F28_b1 s) n (((pre ++ d).length : Int), ls, es) = some (ls ++ L, es ++ E)) ∧
    (∀ n, t.length < n → iter (F15_b2 s e (pre.length : Int)) n ((pre ++ d).length : Int) = some (res e d L E)) := by
  have empty : ∀ (t d : Str), t = [] → s = pre ++ d ++ t → 
    (∀ n ls es, t.length < n → iter (F28_b1 s) n (((pre ++ d).length : Int), ls, es) = some (ls, es)) ∧
    (∀ n (p : Int), t.length < n → (s.length : Int) ≤ p → iter (F15_b2 s e (pre.length : Int)) n p = some ([], 0, 3)) := by
    intro t d ht hs
    subst ht
    have hlen : s.length = (pre ++ d).length := by rw [hs]; simp
    refine ⟨fun n ls es hn => ?_, fun n p hn hp => ?_⟩
    · match n, hn with
      | n + 1, _ =>
        show F28_b1 s _ _ = _
        rw [F28_b1, decide_eq_false (by omega), cond_f]
    · match n, hn with
      | n + 1, _ =>
        show F15_b2 s _ _ _ _ = _
        rw [F15_b2, decide_eq_false (by omega), cond_f]
  intro k
  induction k with
  | zero =>
    intro t d ht hs
    have ht : t = [] := List.length_eq_zero_iff.1 (by omega)
    have hE := empty t d ht hs
    subst ht
    have hlen : s.length = (pre ++ d).length := by rw [hs]; simp
    exact ⟨[], [], rfl, Nat.le_refl _, by simp [glueNL], fun n ls es hn _ _ => by rw [List.append_nil, List.append_nil]; exact hE.1 n ls es hn, fun n hn => hE.2 n _ hn (by omega)⟩
  | succ k ih =>
    intro t d ht hs
    by_cases h0 : t = []
    · have hE := empty t d h0 hs
      subst h0
      have hlen : s.length = (pre ++ d).length := by rw [hs]; simp
      exact ⟨[], [], rfl, Nat.le_refl _, by simp [glueNL], fun n ls es hn _ _ => by rw [List.append_nil, List.append_nil]; exact hE.1 n ls es hn, fun n hn => hE.2 n _ hn (by omega)⟩
    have hpos : 0 < t.length := List.length_pos_iff.2 h0
    have hlen : s.length = (pre ++ d).length + t.length := by rw [hs]; simp; omega
    have hlt : decide (((pre ++ d).length : Int) < (s.length : Int)) = true := decide_eq_true (by omega)
    have hsl : sslice s ((pre ++ d).length : Int) (s.length : Int) = some t := by
      rw [hs]
      exact sslice_end (pre ++ d) t
    have hsd : sslice s (pre.length : Int) ((pre ++ d).length : Int) = some d := by
      rw [hs]
      exact sslice_part pre d t
    rcases firstOf 10 t with hf | ⟨a, b, hf, rfl⟩
    · have hs' : s = (pre ++ (d ++ t)) ++ [] := by rw [hs]; simp
      have hE := empty [] (d ++ t) rfl (by rw [hs]; simp)
      have e1 : (((pre ++ (d ++ t)).length : Nat) : Int) = ((pre ++ d).length : Int) + (t.length : Int) := by simp; omega
      refine ⟨[t], [((pre ++ d).length : Int) + (t.length : Int)], rfl, hpos, by simp [glueNL], fun n ls es hn hls hes => ?_, fun n hn => ?_⟩
      · match n, hn with
        | n + 1, hn =>
          show F28_b1 s _ _ = _
          rw [F28_b1, hlt, cond_t, hsl]
          simp only [Option.bind_some]
          rw [L_Cut, if_pos (by omega), cut_free hf]
          simp only [Option.bind_some, cond_f]
          rw [wrap64 (n := ((pre ++ d).length : Int) + (t.length : Int)) (by omega) (by omega), appO, if_pos (by simp; omega)]
          simp only [Option.bind_some]
          rw [appO, if_pos (by simp; omega)]
          simp only [Option.bind_some]
          have := hE.1 n (ls ++ [t]) (es ++ [((pre ++ d).length : Int) + (t.length : Int)]) (by simp; omega)
          rw [e1] at this
          exact this
      · match n, hn with
        | n + 1, hn =>
          show F15_b2 s _ _ _ _ = _
          rw [F15_b2, hlt, cond_t, scan15 s e _ _ _ hl t (pre ++ d) [] BIG hf (by rw [hs, List.append_nil]) (.inl rfl) (by unfold BIG; omega)]
          have e2 : ((pre ++ d ++ t).length : Int) = (s.length : Int) := by rw [hs]
          rw [e2, hsl]
          simp only [Option.bind_some, hsd]
          by_cases he : t = e
          · rw [decide_eq_true he, cond_t, res, if_pos he]
            have : imin ((s.length : Int) + 1) (s.length : Int) = ((pre ++ d).length : Int) + (t.length : Int) := by unfold imin; split <;> omega
            rw [this]
          · rw [decide_eq_false he, cond_f, res, if_neg he]
            exact hE.2 n _ (by simp; omega) (by omega)
    · have hb : b.length ≤ k := by simp at ht; omega
      have hs2 : s = pre ++ (d ++ (a ++ [10])) ++ b := by rw [hs]; simp
      obtain ⟨L, E, q1, q2, q3, q4, q5⟩ := ih b (d ++ (a ++ [10])) hb hs2
      have e1 : (((pre ++ (d ++ (a ++ [10]))).length : Nat) : Int) = ((pre ++ d).length : Int) + (a.length : Int) + 1 := by simp; omega
      rw [e1] at q4 q5
      have hta : (a ++ 10 :: b).length = a.length + b.length + 1 := by simp; omega
      refine ⟨a :: L, (((pre ++ d).length : Int) + (a.length : Int) + 1) :: E, by simp [q1], by simp; omega, by simp [glueNL] at q3 ⊢; omega, fun n ls es hn hls hes => ?_, fun n hn => ?_⟩
      · match n, hn with
        | n + 1, hn =>
          show F28_b1 s _ _ = _
          rw [F28_b1, hlt, cond_t, hsl]
          simp only [Option.bind_some]
          rw [L_Cut, if_pos (by omega), cut_at b hf]
          simp only [Option.bind_some, cond_t]
          rw [wrap64 (n := ((pre ++ d).length : Int) + (a.length : Int)) (by omega) (by omega), wrap64 (by omega) (by omega), appO, if_pos (by simp; omega)]
          simp only [Option.bind_some]
          rw [appO, if_pos (by simp; omega)]
          simp only [Option.bind_some]
          have := q4 n (ls ++ [a]) (es ++ [((pre ++ d).length : Int) + (a.length : Int) + 1]) (by omega) (by simp; omega) (by simp; omega)
          rw [this]
          simp
      · match n, hn with
        | n + 1, hn =>
          show F15_b2 s _ _ _ _ = _
          rw [F15_b2, hlt, cond_t, scan15 s e _ _ _ hl a (pre ++ d) (10 :: b) BIG hf (by rw [hs]; simp) (.inr ⟨b, rfl⟩) (by unfold BIG; omega)]
          have hsa : sslice s ((pre ++ d).length : Int) ((pre ++ d ++ a).length : Int) = some a := by
            have : s = (pre ++ d) ++ a ++ 10 :: b := by rw [hs]; simp
            rw [this]
            exact sslice_part (pre ++ d) a (10 :: b)
          have e2 : ((pre ++ d ++ a).length : Int) = ((pre ++ d).length : Int) + (a.length : Int) := by simp; omega
          rw [hsa]
          simp only [Option.bind_some, hsd]
          by_cases he : a = e
          · rw [decide_eq_true he, cond_t, res, if_pos he, e2]
            have : imin (((pre ++ d).length : Int) + (a.length : Int) + 1) (s.length : Int) = ((pre ++ d).length : Int) + (a.length : Int) + 1 := by unfold imin; split <;> omega
            rw [this]
          · rw [decide_eq_false he, cond_f, res, if_neg he, e2]
            exact q5 n (by omega)

def G29 (e : Str) : Str → Int → Option Int → Option Int := fun w i n => bif decide (e = w) then some i else n

theorem loop29 (e : Str) : ∀ (L : List Str) (E : List Int) (d : Str) (i : Int), L.length = E.length →
    (loopR (G29 e) (some (-1)) L i = some (-1) ∧ res e d L E = ([], 0, 3)) ∨
    ∃ (j : Nat) (x : Int), j < L.length ∧ loopR (G29 e) (some (-1)) L i = some (i + j) ∧ E[j]? = some x ∧ res e d L E = (d ++ glueNL (L.take j), x, 0)
  | [], _, d, i, _ => .inl ⟨rfl, by rw [res]; intros; contradiction⟩
  | a :: L, [], d, i, h => by simp at h
  | a :: L, x :: E, d, i, h => by
    by_cases ha : a = e
    · refine .inr ⟨0, x, by simp, ?_, by simp, ?_⟩
      · rw [loopR, G29, decide_eq_true ha.symm, cond_t]
        simp
      · rw [res, if_pos ha]
        simp [glueNL]
    · have ih := loop29 e L E (d ++ (a ++ [10])) (i + 1) (by simp at h; exact h)
      rw [loopR, G29, decide_eq_false (fun q => ha q.symm), cond_f, res, if_neg ha]
      rcases ih with ⟨h1, h2⟩ | ⟨j, y, h1, h2, h3, h4⟩
      · exact .inl ⟨h1, h2⟩
      · refine .inr ⟨j + 1, y, by simp; omega, ?_, by simpa using h3, ?_⟩
        · rw [h2]
          congr 1
          omega
        · rw [h4]
          simp [glueNL]

theorem F29_eq (L : List Str) (e : Str) (h : L.length ≤ 9223372036854775807) : F29 L e = loopR (G29 e) (some (-1)) L 0 := by
  unfold F29
  exact iter_range (body := F29_b1 L e) L (G29 e) (some (-1)) (fun again i => rfl) h

theorem join_glueNL : ∀ (x : Str) (L : List Str), Lib.join (x :: L) [10] ++ [10] = glueNL (x :: L)
  | x, [] => by rw [Lib.join_one]; simp [glueNL]
  | x, y :: L => by
    have ih := join_glueNL y L
    rw [Lib.join_cons] at ih ⊢
    simp only [Lib.joinTail, List.map_cons, List.flatten_cons, glueNL, List.flatMap_cons] at ih ⊢
    simp only [List.append_assoc] at ih ⊢
    rw [← ih]
    try simp

theorem heres {s e : Str} {at_ : Int} (hs : s.length ≤ 3000) : ∃ r, F14 s at_ e = some r ∧ F15 s at_ e = some r := by
  unfold F14 F15
  cases hr : (decide (at_ < 0) || decide ((s.length : Int) < at_)) with
  | true => exact ⟨_, rfl, rfl⟩
  | false =>
    simp only [Bool.or_eq_false_iff, decide_eq_false_iff_not] at hr
    obtain ⟨L, E, q1, q2, q3, q4, q5⟩ := both (s := s) (e := e) (pre := s.take at_.toNat) hs (s.drop at_.toNat).length (s.drop at_.toNat) [] (Nat.le_refl _) (by simp)
    have e1 : (((s.take at_.toNat ++ []).length : Nat) : Int) = at_ := by simp; omega
    have e2 : (((s.take at_.toNat).length : Nat) : Int) = at_ := by simp; omega
    have hd : (s.drop at_.toNat).length ≤ 3000 := by simp; omega
    rw [e1] at q4 q5
    rw [e2] at q5
    have a1 : F28 s at_ = some (L, E) := by
      have := q4 BIG [] [] (by unfold BIG; omega) (by simp at hd ⊢; omega) (by simp at hd ⊢; omega)
      exact this
    have a2 : iter (F15_b2 s e at_) BIG at_ = some (res e [] L E) := q5 BIG (by unfold BIG; omega)
    simp only [cond_f]
    refine ⟨res e [] L E, ?_, a2⟩
    rw [a1]
    simp only [Option.bind_some]
    rw [F29_eq L e (by omega)]
    rcases loop29 e L E [] 0 q1 with ⟨h1, h2⟩ | ⟨j, x, h1, h2, h3, h4⟩
    · rw [h1, h2]
      rfl
    · rw [h2, h4]
      simp only [Option.bind_some, Int.zero_add]
      have hx : lidx E (j : Int) = some x := by rw [lidx_nat]; exact h3
      rw [decide_eq_false (by omega), cond_f, hx]
      by_cases hj : 0 < j
      · have hsl : lslice L 0 (j : Int) = some (L.take j) := by
          unfold lslice
          rw [if_pos ⟨by omega, by omega, by omega⟩]
          simp
        rw [decide_eq_true (by omega), cond_t, hsl]
        simp only [Option.bind_some]
        match L, j, hj, h1 with
        | y :: M, j + 1, _, h1 =>
          have hg := join_glueNL y (M.take j)
          have hlen : (glueNL ((y :: M).take (j + 1))).length ≤ (glueNL (y :: M)).length := by
            have : glueNL (y :: M) = glueNL ((y :: M).take (j + 1)) ++ glueNL ((y :: M).drop (j + 1)) := by
              unfold glueNL
              rw [← List.flatMap_append, List.take_append_drop]
            rw [this, List.length_append]
            omega
          rw [List.take_succ_cons] at hlen ⊢
          have hlg := congrArg List.length hg
          rw [List.length_append] at hlg
          have hM : (y :: M.take j).length ≤ 140737488355328 := by
            simp at q2 ⊢
            simp at hd
            omega
          rw [L_Join, if_pos ⟨by simp at hlg; omega, hM⟩]
          simp only [Option.bind_some]
          rw [catO_eq (by simp at hlg ⊢; omega), hg]
          simp
      · have : j = 0 := by omega
        subst this
        simp [glueNL]

theorem law4 (s : Str) (w0 : s.length ≤ maxLen) (at_ : Int) (w1 : inK .i64 at_) (e : Str) (w2 : e.length ≤ maxLen) : F4 s at_ e = some true := by
  unfold F4
  cases h : (decide (3000 < (s.length : Int)) || decide (1000 < (e.length : Int))) with
  | true =>
    rw [cond_t, alive]
    rfl
  | false =>
    simp only [Bool.or_eq_false_iff, decide_eq_false_iff_not] at h
    obtain ⟨⟨r, n, k⟩, h1, h2⟩ := heres (s := s) (e := e) (at_ := at_) (by omega)
    rw [cond_f, h1, h2]
    simp only [Option.bind_some, decide_true, Bool.and_true, guardO, cond_t, alive]

end Go.Abs.U47
