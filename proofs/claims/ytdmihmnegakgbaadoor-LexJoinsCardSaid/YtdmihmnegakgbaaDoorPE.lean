/- The layer 47 laws, in plain Lean: the scanner and its specification; two lines joined. -/
import Derived.Test.YtdmihmnegakgbaaDoorD1
import Derived.Test.YtdmihmnegakgbaaDoorTY
import Derived.Test.YtdmihmnegakgbaaDoorA34
import Derived.Lib.IndexBytes
import Derived.Lib.IndexLaws
import Derived.Lib.TrimUEq
import Derived.Lib.SplitLaws
set_option linter.unusedVariables false
set_option linter.unusedSimpArgs false
namespace Go.Abs.U47
open Go

theorem alive : F8 = some true := by kernel_rfl

/-! ### Cutting at a byte -/

theorem indexByte_free (c : UInt8) : ∀ a : Str, c ∉ a → Lib.indexByte a c = -1
  | [], _ => rfl
  | x :: a, h => by
    simp only [List.mem_cons, not_or] at h
    have ih := indexByte_free c a h.2
    have h3 : ¬ x = c := fun e => h.1 e.symm
    simp [Lib.indexByte, ih, h3]

theorem indexByte_at (c : UInt8) (b : Str) : ∀ a : Str, c ∉ a → Lib.indexByte (a ++ c :: b) c = (a.length : Int)
  | [], _ => by simp [Lib.indexByte]
  | x :: a, h => by
    simp only [List.mem_cons, not_or] at h
    have ih := indexByte_at c b a h.2
    have h1 : ¬ ((a.length : Int) = -1) := by omega
    have h3 : ¬ x = c := fun e => h.1 e.symm
    simp [Lib.indexByte, ih, h3, h1]

theorem cut_free {c : UInt8} {a : Str} (h : c ∉ a) : Lib.cut a [c] = (a, [], false) := by
  unfold Lib.cut
  rw [Lib.index_one, indexByte_free c a h]
  rfl

theorem cut_at {c : UInt8} {a : Str} (b : Str) (h : c ∉ a) : Lib.cut (a ++ c :: b) [c] = (a, b, true) := by
  unfold Lib.cut
  rw [Lib.index_one, indexByte_at c b a h, if_pos (by omega)]
  simp

theorem firstOf (c : UInt8) : ∀ t : Str, c ∉ t ∨ ∃ a b, c ∉ a ∧ t = a ++ c :: b
  | [] => .inl (by simp)
  | x :: t => by
    by_cases h : x = c
    · exact .inr ⟨[], t, by simp, by rw [h]; rfl⟩
    · rcases firstOf c t with h1 | ⟨a, b, h1, h2⟩
      · exact .inl (by simp only [List.mem_cons, not_or]; exact ⟨fun e => h e.symm, h1⟩)
      · exact .inr ⟨x :: a, b, by simp only [List.mem_cons, not_or]; exact ⟨fun e => h e.symm, h1⟩, by rw [h2]; rfl⟩

theorem sidx_mid (pre : Str) (c : UInt8) (r : Str) : sidx (pre ++ c :: r) (pre.length : Int) = some (B c) := by
  rw [sidx_nat]
  simp [B]

theorem sslice_end (pre : Str) (r : Str) : sslice (pre ++ r) (pre.length : Int) ((pre ++ r).length : Int) = some r := by
  unfold sslice
  rw [if_pos ⟨by omega, by simp only [List.length_append]; omega, by omega⟩]
  have : (((pre ++ r).length : Int)).toNat - (pre.length : Int).toNat = r.length := by simp only [List.length_append]; omega
  rw [this, Int.toNat_natCast]
  simp

theorem sslice_part (pre a r : Str) : sslice (pre ++ a ++ r) (pre.length : Int) ((pre ++ a).length : Int) = some a := by
  unfold sslice
  rw [if_pos ⟨by omega, by simp only [List.length_append]; omega, by simp only [List.length_append]; omega⟩]
  have : (((pre ++ a).length : Int)).toNat - (pre.length : Int).toNat = a.length := by simp only [List.length_append]; omega
  rw [this, Int.toNat_natCast]
  simp

theorem Bf {c d : UInt8} {k : Int} (hk : B d = k) (h : c ≠ d) : decide (B c = k) = false := by
  subst hk
  exact (byte_eq c d).trans (decide_eq_false h)

/-! ### Here-documents -/

/-- The end of a line is found. -/
theorem scan15 (s e : Str) (from_ at_ : Int) (again9 : Int → Option (Str × Int × Int)) (hl : s.length ≤ 1000000) : ∀ (a pre rest : Str) (n : Nat), (10 : UInt8) ∉ a → s = pre ++ a ++ rest → (rest = [] ∨ ∃ b, rest = 10 :: b) → a.length < n →
    iter (F15_b3 s from_ e at_ again9) n (pre.length : Int) = (sslice s from_ ((pre ++ a).length : Int)).bind fun t21 =>
      bif decide (t21 = e) then (sslice s at_ from_).bind fun t25 => some (t25, imin (((pre ++ a).length : Int) + 1) (s.length : Int), 0)
      else again9 (((pre ++ a).length : Int) + 1)
  | _, _, _, 0, _, _, _, h => absurd h (Nat.not_lt_zero _)
  | [], pre, rest, n + 1, h10, hs, hr, hn => by
    have hlen : s.length = pre.length + rest.length := by rw [hs]; simp
    show F15_b3 s _ _ _ _ _ _ = _
    rw [F15_b3]
    rcases hr with rfl | ⟨b, rfl⟩
    · have he : decide ((pre.length : Int) < (s.length : Int)) = false := decide_eq_false (by simp at hlen; omega)
      rw [he]
      simp only [guardO, cond_f, Option.bind_some, Bool.false_and, List.append_nil]
      rw [wrap64 (by omega) (by omega)]
    · have he : decide ((pre.length : Int) < (s.length : Int)) = true := decide_eq_true (by simp at hlen; omega)
      have h1 : sidx s (pre.length : Int) = some (B 10) := by rw [hs, List.append_nil]; exact sidx_mid pre 10 b
      have h2 : decide (B 10 = 10) = true := by decide
      rw [he, h1]
      simp only [guardO, cond_t, Option.bind_some, Bool.true_and, h2, Bool.not_true, cond_f, List.append_nil]
      rw [wrap64 (by omega) (by omega)]
  | c :: a, pre, rest, n + 1, h10, hs, hr, hn => by
    simp only [List.mem_cons, not_or] at h10
    have hlen : s.length = pre.length + (a.length + 1) + rest.length := by rw [hs]; simp; omega
    have he : decide ((pre.length : Int) < (s.length : Int)) = true := decide_eq_true (by omega)
    have h1 : sidx s (pre.length : Int) = some (B c) := by
      rw [hs, List.append_assoc]
      exact sidx_mid pre c (a ++ rest)
    have h2 : decide (B c = 10) = false := Bf (d := 10) rfl fun e => h10.1 e.symm
    show F15_b3 s _ _ _ _ _ _ = _
    rw [F15_b3, he, h1]
    simp only [guardO, cond_t, Option.bind_some, Bool.true_and, h2, Bool.not_false]
    rw [wrap64 (by omega) (by omega)]
    have ih := scan15 s e from_ at_ again9 hl a (pre ++ [c]) rest n h10.2 (by rw [hs]; simp) hr (by simp at hn; omega)
    have e1 : ((pre ++ [c]).length : Int) = (pre.length : Int) + 1 := by simp
    have e2 : pre ++ [c] ++ a = pre ++ c :: a := by simp
    rw [e1, e2] at ih
    exact ih

/-- What both answer, from the lines and the places behind them. -/
def res (e : Str) : Str → List Str → List Int → Str × Int × Int
  | d, a :: L, x :: E => if a = e then (d, x, 0) else res e (d ++ (a ++ [10])) L E
  | _, _, _ => ([], 0, 3)

def glueNL (L : List Str) : Str := L.flatMap (· ++ [10])

theorem both {s e pre : Str} (hl : s.length ≤ 1000000) : ∀ (k : Nat) (t d : Str), t.length ≤ k → s = pre ++ d ++ t → ∃ (L : List Str) (E : List Int), L.length = E.length ∧ L.length ≤ t.length ∧ (glueNL L).length ≤ t.length + 1 ∧
    (∀ n ls es, t.length < n → ls.length + t.length ≤ 3000000 → es.length + t.length ≤ 3000000 → iter (F28_b1 s) n (((pre ++ d).length : Int), ls, es) = some (ls ++ L, es ++ E)) ∧
    (∀ n, t.length < n → iter (F15_b2 s e (pre.length : Int)) n ((pre ++ d).length : Int) = some (res e d L E)) := by
  have empty : ∀ (t d : Str), t = [] → s = pre ++ d ++ t → 
    (∀ n ls es, t.length < n → iter (F28_b1 s) n (((pre ++ d).length : Int), ls, es) = some (ls, es)) ∧
    (∀ n (p : Int), t.length < n → (s.length : Int) ≤ p → iter (F15_b2 s e (pre.length : Int)) n p = some ([], 0, 3)) := by
    intro t d ht hs
    subst ht
    have hlen : s.length = (pre ++ d).length := by rw [hs]; simp
    refine ⟨fun n ls es hn => ?_, fun n p hn hp => ?_⟩
    · match n, hn with
      | n + 1, _ =>
        show F28_b1 s _ _ = _
        rw [F28_b1, decide_eq_false (by omega), cond_f]
    · match n, hn with
      | n + 1, _ =>
        show F15_b2 s _ _ _ _ = _
        rw [F15_b2, decide_eq_false (by omega), cond_f]
  intro k
  induction k with
  | zero =>
    intro t d ht hs
    have ht : t = [] := List.length_eq_zero_iff.1 (by omega)
    have hE := empty t d ht hs
    subst ht
    have hlen : s.length = (pre ++ d).length := by rw [hs]; simp
    exact ⟨[], [], rfl, Nat.le_refl _, by simp [glueNL], fun n ls es hn _ _ => by rw [List.append_nil, List.append_nil]; exact hE.1 n ls es hn, fun n hn => hE.2 n _ hn (by omega)⟩
  | succ k ih =>
    intro t d ht hs
    by_cases h0 : t = []
    · have hE := empty t d h0 hs
      subst h0
      have hlen : s.length = (pre ++ d).length := by rw [hs]; simp
      exact ⟨[], [], rfl, Nat.le_refl _, by simp [glueNL], fun n ls es hn _ _ => by rw [List.append_nil, List.append_nil]; exact hE.1 n ls es hn, fun n hn => hE.2 n _ hn (by omega)⟩
    have hpos : 0 < t.length := List.length_pos_iff.2 h0
    have hlen : s.length = (pre ++ d).length + t.length := by rw [hs]; simp; omega
    have hlt : decide (((pre ++ d).length : Int) < (s.length : Int)) = true := decide_eq_true (by omega)
    have hsl : sslice s ((pre ++ d).length : Int) (s.length : Int) = some t := by
      rw [hs]
      exact sslice_end (pre ++ d) t
    have hsd : sslice s (pre.length : Int) ((pre ++ d).length : Int) = some d := by
      rw [hs]
      exact sslice_part pre d t
    rcases firstOf 10 t with hf | ⟨a, b, hf, rfl⟩
    · have hs' : s = (pre ++ (d ++ t)) ++ [] := by rw [hs]; simp
      have hE := empty [] (d ++ t) rfl (by rw [hs]; simp)
      have e1 : (((pre ++ (d ++ t)).length : Nat) : Int) = ((pre ++ d).length : Int) + (t.length : Int) := by simp; omega
      refine ⟨[t], [((pre ++ d).length : Int) + (t.length : Int)], rfl, hpos, by simp [glueNL], fun n ls es hn hls hes => ?_, fun n hn => ?_⟩
      · match n, hn with
        | n + 1, hn =>
          show F28_b1 s _ _ = _
          rw [F28_b1, hlt, cond_t, hsl]
          simp only [Option.bind_some]
          rw [L_Cut, if_pos (by omega), cut_free hf]
          simp only [Option.bind_some, cond_f]
          rw [wrap64 (n := ((pre ++ d).length : Int) + (t.length : Int)) (by omega) (by omega), appO, if_pos (by simp; omega)]
          simp only [Option.bind_some]
          rw [appO, if_pos (by simp; omega)]
          simp only [Option.bind_some]
          have := hE.1 n (ls ++ [t]) (es ++ [((pre ++ d).length : Int) + (t.length : Int)]) (by simp; omega)
          rw [e1] at this
          exact this
      · match n, hn with
        | n + 1, hn =>
          show F15_b2 s _ _ _ _ = _
          rw [F15_b2, hlt, cond_t, scan15 s e _ _ _ hl t (pre ++ d) [] BIG hf (by rw [hs, List.append_nil]) (.inl rfl) (by unfold BIG; omega)]
          have e2 : ((pre ++ d ++ t).length : Int) = (s.length : Int) := by rw [hs]
          rw [e2, hsl]
          simp only [Option.bind_some, hsd]
          by_cases he : t = e
          · rw [decide_eq_true he, cond_t, res, if_pos he]
            have : imin ((s.length : Int) + 1) (s.length : Int) = ((pre ++ d).length : Int) + (t.length : Int) := by unfold imin; split <;> omega
            rw [this]
          · rw [decide_eq_false he, cond_f, res, if_neg he]
            exact hE.2 n _ (by simp; omega) (by omega)
    · have hb : b.length ≤ k := by simp at ht; omega
      have hs2 : s = pre ++ (d ++ (a ++ [10])) ++ b := by rw [hs]; simp
      obtain ⟨L, E, q1, q2, q3, q4, q5⟩ := ih b (d ++ (a ++ [10])) hb hs2
      have e1 : (((pre ++ (d ++ (a ++ [10]))).length : Nat) : Int) = ((pre ++ d).length : Int) + (a.length : Int) + 1 := by simp; omega
      rw [e1] at q4 q5
      have hta : (a ++ 10 :: b).length = a.length + b.length + 1 := by simp; omega
      refine ⟨a :: L, (((pre ++ d).length : Int) + (a.length : Int) + 1) :: E, by simp [q1], by simp; omega, by simp [glueNL] at q3 ⊢; omega, fun n ls es hn hls hes => ?_, fun n hn => ?_⟩
      · match n, hn with
        | n + 1, hn =>
          show F28_b1 s _ _ = _
          rw [F28_b1, hlt, cond_t, hsl]
          simp only [Option.bind_some]
          rw [L_Cut, if_pos (by omega), cut_at b hf]
          simp only [Option.bind_some, cond_t]
          rw [wrap64 (n := ((pre ++ d).length : Int) + (a.length : Int)) (by omega) (by omega), wrap64 (by omega) (by omega), appO, if_pos (by simp; omega)]
          simp only [Option.bind_some]
          rw [appO, if_pos (by simp; omega)]
          simp only [Option.bind_some]
          have := q4 n (ls ++ [a]) (es ++ [((pre ++ d).length : Int) + (a.length : Int) + 1]) (by omega) (by simp; omega) (by simp; omega)
          rw [this]
          simp
      · match n, hn with
        | n + 1, hn =>
          show F15_b2 s _ _ _ _ = _
          rw [F15_b2, hlt, cond_t, scan15 s e _ _ _ hl a (pre ++ d) (10 :: b) BIG hf (by rw [hs]; simp) (.inr ⟨b, rfl⟩) (by unfold BIG; omega)]
          have hsa : sslice s ((pre ++ d).length : Int) ((pre ++ d ++ a).length : Int) = some a := by
            have : s = (pre ++ d) ++ a ++ 10 :: b := by rw [hs]; simp
            rw [this]
            exact sslice_part (pre ++ d) a (10 :: b)
          have e2 : ((pre ++ d ++ a).length : Int) = ((pre ++ d).length : Int) + (a.length : Int) := by simp; omega
          rw [hsa]
          simp only [Option.bind_some, hsd]
          by_cases he : a = e
          · rw [decide_eq_true he, cond_t, res, if_pos he, e2]
            have : imin (((pre ++ d).length : Int) + (a.length : Int) + 1) (s.length : Int) = ((pre ++ d).length : Int) + (a.length : Int) + 1 := by unfold imin; split <;> omega
            rw [this]
          · rw [decide_eq_false he, cond_f, res, if_neg he, e2]
            exact q5 n (by omega)

def G29 (e : Str) : Str → Int → Option Int → Option Int := fun w i n => bif decide (e = w) then some i else n

theorem loop29 (e : Str) : ∀ (L : List Str) (E : List Int) (d : Str) (i : Int), L.length = E.length →
    (loopR (G29 e) (some (-1)) L i = some (-1) ∧ res e d L E = ([], 0, 3)) ∨
    ∃ (j : Nat) (x : Int), j < L.length ∧ loopR (G29 e) (some (-1)) L i = some (i + j) ∧ E[j]? = some x ∧ res e d L E = (d ++ glueNL (L.take j), x, 0)
  | [], _, d, i, _ => .inl ⟨rfl, by rw [res]; intros; contradiction⟩
  | a :: L, [], d, i, h => by simp at h
  | a :: L, x :: E, d, i, h => by
    by_cases ha : a = e
    · refine .inr ⟨0, x, by simp, ?_, by simp, ?_⟩
      · rw [loopR, G29, decide_eq_true ha.symm, cond_t]
        simp
      · rw [res, if_pos ha]
        simp [glueNL]
    · have ih := loop29 e L E (d ++ (a ++ [10])) (i + 1) (by simp at h; exact h)
      rw [loopR, G29, decide_eq_false (fun q => ha q.symm), cond_f, res, if_neg ha]
      rcases ih with ⟨h1, h2⟩ | ⟨j, y, h1, h2, h3, h4⟩
      · exact .inl ⟨h1, h2⟩
      · refine .inr ⟨j + 1, y, by simp; omega, ?_, by simpa using h3, ?_⟩
        · rw [h2]
          congr 1
          omega
        · rw [h4]
          simp [glueNL]

theorem F29_eq (L : List Str) (e : Str) (h : L.length ≤ 9223372036854775807) : F29 L e = loopR (G29 e) (some (-1)) L 0 := by
  unfold F29
  exact iter_range (body := F29_b1 L e) L (G29 e) (some (-1)) (fun again i => rfl) h

theorem join_glueNL : ∀ (x : Str) (L : List Str), Lib.join (x :: L) [10] ++ [10] = glueNL (x :: L)
  | x, [] => by rw [Lib.join_one]; simp [glueNL]
  | x, y :: L => by
    have ih := join_glueNL y L
    rw [Lib.join_cons] at ih ⊢
    simp only [Lib.joinTail, List.map_cons, List.flatten_cons, glueNL, List.flatMap_cons] at ih ⊢
    simp only [List.append_assoc] at ih ⊢
    rw [← ih]
    try simp

theorem heres {s e : Str} {at_ : Int} (hs : s.length ≤ 1000000) : ∃ r, F14 s at_ e = some r ∧ F15 s at_ e = some r := by
  unfold F14 F15
  cases hr : (decide (at_ < 0) || decide ((s.length : Int) < at_)) with
  | true => exact ⟨_, rfl, rfl⟩
  | false =>
    simp only [Bool.or_eq_false_iff, decide_eq_false_iff_not] at hr
    obtain ⟨L, E, q1, q2, q3, q4, q5⟩ := both (s := s) (e := e) (pre := s.take at_.toNat) hs (s.drop at_.toNat).length (s.drop at_.toNat) [] (Nat.le_refl _) (by simp)
    have e1 : (((s.take at_.toNat ++ []).length : Nat) : Int) = at_ := by simp; omega
    have e2 : (((s.take at_.toNat).length : Nat) : Int) = at_ := by simp; omega
    have hd : (s.drop at_.toNat).length ≤ 1000000 := by simp; omega
    rw [e1] at q4 q5
    rw [e2] at q5
    have a1 : F28 s at_ = some (L, E) := by
      have := q4 BIG [] [] (by unfold BIG; omega) (by simp at hd ⊢; omega) (by simp at hd ⊢; omega)
      exact this
    have a2 : iter (F15_b2 s e at_) BIG at_ = some (res e [] L E) := q5 BIG (by unfold BIG; omega)
    simp only [cond_f]
    refine ⟨res e [] L E, ?_, a2⟩
    rw [a1]
    simp only [Option.bind_some]
    rw [F29_eq L e (by omega)]
    rcases loop29 e L E [] 0 q1 with ⟨h1, h2⟩ | ⟨j, x, h1, h2, h3, h4⟩
    · rw [h1, h2]
      rfl
    · rw [h2, h4]
      simp only [Option.bind_some, Int.zero_add]
      have hx : lidx E (j : Int) = some x := by rw [lidx_nat]; exact h3
      rw [decide_eq_false (by omega), cond_f, hx]
      by_cases hj : 0 < j
      · have hsl : lslice L 0 (j : Int) = some (L.take j) := by
          unfold lslice
          rw [if_pos ⟨by omega, by omega, by omega⟩]
          simp
        rw [decide_eq_true (by omega), cond_t, hsl]
        simp only [Option.bind_some]
        match L, j, hj, h1 with
        | y :: M, j + 1, _, h1 =>
          have hg := join_glueNL y (M.take j)
          have hlen : (glueNL ((y :: M).take (j + 1))).length ≤ (glueNL (y :: M)).length := by
            have : glueNL (y :: M) = glueNL ((y :: M).take (j + 1)) ++ glueNL ((y :: M).drop (j + 1)) := by
              unfold glueNL
              rw [← List.flatMap_append, List.take_append_drop]
            rw [this, List.length_append]
            omega
          rw [List.take_succ_cons] at hlen ⊢
          have hlg := congrArg List.length hg
          rw [List.length_append] at hlg
          have hM : (y :: M.take j).length ≤ 140737488355328 := by
            simp at q2 ⊢
            simp at hd
            omega
          rw [L_Join, if_pos ⟨by simp at hlg; omega, hM⟩]
          simp only [Option.bind_some]
          rw [catO_eq (by simp at hlg ⊢; omega), hg]
          simp
      · have : j = 0 := by omega
        subst this
        simp [glueNL]

/-! ### Plain words -/

def BAD : Str := [32, 9, 10, 59, 38, 124, 40, 41, 123, 125, 60, 62, 61, 94, 96, 36, 39, 92, 42, 63, 91]
def badc (c : UInt8) : Bool := BAD.contains c
def headc (c : UInt8) : Bool := ([35, 33, 64] : Str).contains c
def plainQ : Str → Bool
  | [] => false
  | c :: r => !headc c && (c :: r).all fun x => !badc x

theorem Bback (c : UInt8) : (B c).toNat.toUInt8 = c := by
  unfold B
  rw [Int.toNat_natCast]
  exact UInt8.ofNat_toNat

theorem idx_contains (c : UInt8) : ∀ l : Str, decide (0 ≤ Lib.indexByte l c) = l.contains c
  | [] => by simp [Lib.indexByte]
  | x :: l => by
    have ih := idx_contains c l
    have hge := Lib.indexByte_ge l c
    rw [List.contains_cons, ← ih]
    by_cases hx : x = c
    · subst hx
      simp [Lib.indexByte]
    · have hx' : (c == x) = false := by simp; exact fun e => hx e.symm
      rw [hx', Bool.false_or]
      by_cases h1 : Lib.indexByte l c = -1
      · have : Lib.indexByte (x :: l) c = -1 := by simp [Lib.indexByte, hx, h1]
        rw [this, h1]
      · have : Lib.indexByte (x :: l) c = Lib.indexByte l c + 1 := by simp [Lib.indexByte, hx, h1]
        rw [this, decide_eq_true (by omega), decide_eq_true (by omega)]

theorem idx_neg (c : UInt8) (l : Str) : decide (Lib.indexByte l c < 0) = !l.contains c := by
  rw [← idx_contains c l]
  by_cases h : (0 : Int) ≤ Lib.indexByte l c
  · rw [decide_eq_true h, decide_eq_false (by omega)]; rfl
  · rw [decide_eq_false h, decide_eq_true (by omega)]; rfl

theorem B35 (c : UInt8) : decide (B c = 35) = decide (c = 35) := byte_eq c 35
theorem B10 (c : UInt8) : decide (B c = 10) = decide (c = 10) := byte_eq c 10

theorem sslice_mid (pre : Str) (c : UInt8) (r : Str) : sslice (pre ++ c :: r) (pre.length : Int) ((pre.length : Int) + 1) = some [c] := by
  have h := sslice_part pre [c] r
  simpa using h

/-! ### The scanner -/

theorem F20_eq {s pre t : Str} (hs : s = pre ++ t) (x3 x4 x5 : Int) (l6 : List Token) (l7 : List Str) : F20x2 s (pre.length : Int) x3 x4 x5 l6 l7 = some t := by
  unfold F20x2
  subst hs
  rw [sslice_end]
  rfl

theorem F23_eq (s p : Str) (hl : s.length ≤ 1000000) : F23 s p = some (p.isPrefixOf s) := by
  unfold F23 F35
  by_cases h : p.length ≤ s.length
  · have h1 : sslice s 0 (p.length : Int) = some (s.take p.length) := by
      unfold sslice
      rw [if_pos ⟨by omega, by omega, by omega⟩]
      simp
    rw [decide_eq_true (by omega), h1]
    simp only [guardO, cond_t, Option.bind_some, Bool.true_and]
    congr 1
    rw [Bool.eq_iff_iff, decide_eq_true_eq, List.isPrefixOf_iff_prefix, List.prefix_iff_eq_take]
    exact ⟨fun e => e.symm, fun e => e.symm⟩
  · rw [decide_eq_false (by omega)]
    simp only [guardO, cond_f, Option.bind_some, Bool.false_and]
    congr 1
    symm
    rw [Bool.eq_false_iff]
    intro e
    have := List.IsPrefix.length_le (List.isPrefixOf_iff_prefix.1 e)
    omega

def SYMI : Str := [32, 9, 10, 59, 38, 124, 40, 41, 123, 125, 60, 62, 61, 94, 96, 36, 39]

def ord : Str → Bool
  | [] => false
  | c :: r => !SYMI.contains c && !([92, 10] : Str).isPrefixOf (c :: r)

theorem F50_eq {s pre t : Str} (hs : s = pre ++ t) (hl : s.length ≤ 1000000) (x3 x4 x5 : Int) (l6 : List Token) (l7 : List Str) : F50x1 s (pre.length : Int) x3 x4 x5 l6 l7 = some (ord t) := by
  unfold F50x1
  rw [F20_eq hs]
  match t, hs with
  | [], hs => rfl
  | c :: r, hs =>
    have hlen : s.length = pre.length + (r.length + 1) := by rw [hs]; simp
    have h0 : sidx (c :: r) 0 = some (B c) := sidx_mid [] c r
    rw [Option.bind_some, decide_eq_false (by simp), h0]
    simp only [Bool.not_false, guardO, cond_t, Option.bind_some, L_IndexByte, Bback, Bool.true_and]
    rw [idx_neg]
    show ((bif !SYMI.contains c then F23 (c :: r) [92, 10] else some default).bind fun r19 => some (!SYMI.contains c && !r19)) = some (!SYMI.contains c && !([92, 10] : Str).isPrefixOf (c :: r))
    cases SYMI.contains c with
    | true => rfl
    | false =>
      rw [F23_eq _ _ (by simp; omega)]
      rfl

theorem repeat_one (c : UInt8) : ∀ n : Nat, Lib.repeatL [c] n = List.replicate n c
  | 0 => rfl
  | n + 1 => by
    rw [Lib.repeatL, repeat_one c n, List.replicate_succ]
    rfl

def START : Str := [59, 38, 40, 41, 123, 125, 61, 94, 96, 36, 33, 64]

theorem pre_ne {p c : UInt8} {q r : Str} (h : c ≠ p) : (p :: q).isPrefixOf (c :: r) = false := by
  have : (p == c) = false := by simp; exact fun e => h e.symm
  simp [List.isPrefixOf, this]

theorem pre_cons (p c : UInt8) (q r : Str) : (p :: q).isPrefixOf (c :: r) = (decide (c = p) && q.isPrefixOf r) := by
  by_cases h : c = p
  · subst h; simp [List.isPrefixOf]
  · rw [pre_ne h, decide_eq_false h]; rfl

theorem pre_nil (p : UInt8) (q : Str) : (p :: q).isPrefixOf [] = false := rfl

/-! ### Blanks -/

/-- How many bytes of blanks (and of ends of lines that a backslash hides) stand ahead. -/
def blankN : Str → Nat
  | [] => 0
  | [c] => if c = 32 ∨ c = 9 then 1 else 0
  | c :: d :: r => if c = 32 ∨ c = 9 then 1 + blankN (d :: r) else if c = 92 ∧ d = 10 then 2 + blankN r else 0

theorem blankN_le : ∀ (k : Nat) (t : Str), t.length ≤ k → blankN t ≤ t.length
  | _, [], _ => Nat.le_refl _
  | _, [c], _ => by unfold blankN; split <;> simp
  | 0, c :: d :: r, h => by simp at h
  | k + 1, c :: d :: r, h => by
    have h1 := blankN_le k (d :: r) (by simp at h ⊢; omega)
    have h2 := blankN_le k r (by simp at h ⊢; omega)
    unfold blankN
    simp only [List.length_cons] at h1 ⊢
    split
    · omega
    · split <;> omega

theorem loop19 {s : Str} (hl : s.length ≤ 1000000) (x3 x4 x5 : Int) (l6 : List Token) (l7 : List Str) : ∀ (k : Nat) (t pre : Str) (n : Nat), t.length ≤ k → s = pre ++ t → t.length < n →
    iter (F19x2_b1 s x3 x4 x5 l6 l7) n (pre.length : Int) = some ((pre.length + blankN t : Nat) : Int) := by
  intro k
  induction k with
  | zero =>
    intro t pre n ht hs hn
    have ht : t = [] := List.length_eq_zero_iff.1 (by omega)
    subst ht
    match n, hn with
    | n + 1, hn =>
      show F19x2_b1 s _ _ _ _ _ _ _ = _
      rw [F19x2_b1, F20_eq hs, Option.bind_some, F23_eq _ _ (by simp), Option.bind_some, F23_eq _ _ (by simp), pre_nil, pre_nil]
      simp only [Bool.not_false, guardO, cond_t, Option.bind_some, Bool.or_false, cond_f]
      rw [F23_eq _ _ (by simp), pre_nil, Option.bind_some, cond_f]
      rfl
  | succ k ih =>
    intro t pre n ht hs hn
    match t, ht, hs, hn with
    | [], ht, hs, hn => exact ih [] pre n (by simp) hs hn
    | c :: r, ht, hs, hn =>
      match n, hn with
      | n + 1, hn =>
        have hlen : s.length = pre.length + (r.length + 1) := by rw [hs]; simp
        have hr : (c :: r).length ≤ 1000000 := by simp; omega
        have e1 : ((pre ++ [c]).length : Int) = (pre.length : Int) + 1 := by simp
        simp only [List.length_cons] at ht hn
        show F19x2_b1 s _ _ _ _ _ _ _ = _
        rw [F19x2_b1, F20_eq hs, Option.bind_some, F23_eq _ _ hr, Option.bind_some, F23_eq _ _ hr, pre_cons, pre_cons]
        have hg : ((guardO (!(decide (c = 32) && ([] : Str).isPrefixOf r)) (some (decide (c = 9) && ([] : Str).isPrefixOf r))).bind fun r20 => bif ((decide (c = 32) && ([] : Str).isPrefixOf r) || r20) then iter (F19x2_b1 s x3 x4 x5 l6 l7) n (IntKind.wrap .i64 ((pre.length : Int) + 1)) else (F23 (c :: r) [92, 10]).bind fun r24 => bif r24 then iter (F19x2_b1 s x3 x4 x5 l6 l7) n (IntKind.wrap .i64 ((pre.length : Int) + 2)) else some (pre.length : Int)) =
            bif decide (c = 32 ∨ c = 9) then iter (F19x2_b1 s x3 x4 x5 l6 l7) n ((pre.length : Int) + 1) else bif decide (c = 92) && ([10] : Str).isPrefixOf r then iter (F19x2_b1 s x3 x4 x5 l6 l7) n ((pre.length : Int) + 2) else some (pre.length : Int) := by
          rw [wrap64 (by omega) (by omega), wrap64 (by omega) (by omega), F23_eq _ _ hr, pre_cons]
          have hp : ([] : Str).isPrefixOf r = true := by cases r <;> rfl
          rw [hp]
          by_cases h1 : c = 32 <;> by_cases h2 : c = 9 <;> simp [h1, h2, guardO]
        refine hg.trans ?_
        by_cases h1 : c = 32 ∨ c = 9
        · rw [decide_eq_true h1, cond_t]
          have := ih r (pre ++ [c]) n (by omega) (by rw [hs]; simp) (by omega)
          rw [e1] at this
          rw [this]
          match r with
          | [] => simp [blankN, h1]
          | d :: r => simp [blankN, h1]; omega
        · rw [decide_eq_false h1, cond_f]
          match r, hs, hlen, ht, hn with
          | [], hs, hlen, ht, hn => simp [pre_nil, blankN, h1]
          | d :: r, hs, hlen, ht, hn =>
            have hp : ([] : Str).isPrefixOf r = true := by cases r <;> rfl
            rw [pre_cons, hp, Bool.and_true]
            by_cases h2 : c = 92 ∧ d = 10
            · rw [decide_eq_true h2.1, decide_eq_true h2.2, Bool.and_true, cond_t]
              have e2 : ((pre ++ [c, d]).length : Int) = (pre.length : Int) + 2 := by simp
              have := ih r (pre ++ [c, d]) n (by simp at ht; omega) (by rw [hs]; simp) (by simp at hn; omega)
              rw [e2] at this
              rw [this]
              simp [blankN, h1, h2]
              omega
            · have : (decide (c = 92) && decide (d = 10)) = false := by
                rw [Bool.eq_false_iff]
                intro e
                simp at e
                exact h2 e
              rw [this, cond_f]
              simp only [blankN, if_neg h1, if_neg h2, Nat.add_zero]

theorem F19_eq {s pre t : Str} (hs : s = pre ++ t) (hl : s.length ≤ 1000000) (x3 x4 x5 : Int) (l6 : List Token) (l7 : List Str) : F19x2 s (pre.length : Int) x3 x4 x5 l6 l7 = some ((pre.length + blankN t : Nat) : Int) := by
  have hlen : s.length = pre.length + t.length := by rw [hs]; simp
  unfold F19x2
  exact loop19 hl x3 x4 x5 l6 l7 t.length t pre BIG (Nat.le_refl _) hs (by unfold BIG; omega)

/-! ### Quotes -/

/-- Behind a quote: the text, and how many bytes it takes, the closing quote among them. -/
def qd : Str → Option (Str × Nat)
  | [] => none
  | [c] => if c = 39 then some ([], 1) else none
  | c :: d :: r => if c = 39 then (if d = 39 then (qd r).map fun (x, n) => (39 :: x, n + 2) else some ([], 1)) else (qd (d :: r)).map fun (x, n) => (c :: x, n + 1)

theorem qd_free : ∀ a : Str, (39 : UInt8) ∉ a → qd a = none
  | [], _ => rfl
  | [c], h => by
    simp only [List.mem_cons, not_or, List.not_mem_nil, not_false_eq_true, and_true] at h
    rw [qd, if_neg (fun e => h e.symm)]
  | c :: d :: r, h => by
    have h' := h
    rw [List.mem_cons, not_or] at h
    rw [qd, if_neg (fun e => h.1 e.symm), qd_free (d :: r) h.2]
    rfl

theorem qd_pre (w : Str) : ∀ a : Str, (39 : UInt8) ∉ a → qd (a ++ 39 :: w) = (qd (39 :: w)).map fun (x, n) => (a ++ x, n + a.length)
  | [], _ => by
    cases h : qd (39 :: w) <;> simp [h]
  | [c], h => by
    simp only [List.mem_cons, not_or, List.not_mem_nil, not_false_eq_true, and_true] at h
    show qd (c :: 39 :: w) = _
    rw [qd, if_neg (fun e => h e.symm)]
    rfl
  | c :: d :: r, h => by
    have h' := h
    rw [List.mem_cons, not_or] at h
    have ih := qd_pre w (d :: r) h.2
    show qd (c :: d :: (r ++ 39 :: w)) = _
    rw [qd, if_neg (fun e => h.1 e.symm)]
    show ((qd (d :: r ++ 39 :: w)).map _) = _
    rw [ih]
    cases qd (39 :: w) with
    | none => rfl
    | some p => rcases p with ⟨x, n⟩; rfl

theorem qd_shut {w : Str} (h : ([39] : Str).isPrefixOf w = false) : qd (39 :: w) = some ([], 1) := by
  match w, h with
  | [], _ => rfl
  | d :: r, h =>
    have hp : ([] : Str).isPrefixOf r = true := by cases r <;> rfl
    rw [pre_cons, hp, Bool.and_true] at h
    rw [qd, if_pos rfl, if_neg (of_decide_eq_false h)]

theorem qd_two (w : Str) : qd (39 :: 39 :: w) = (qd w).map fun (x, n) => (39 :: x, n + 2) := by
  rw [qd, if_pos rfl, if_pos rfl]

theorem qd_len : ∀ (k : Nat) (v x : Str) (m : Nat), v.length ≤ k → qd v = some (x, m) → 1 ≤ m ∧ m ≤ v.length ∧ x.length ≤ m
  | _, [], x, m, _, h => by simp [qd] at h
  | _, [c], x, m, _, h => by
    unfold qd at h
    split at h
    · simp at h; obtain ⟨rfl, rfl⟩ := h; simp
    · simp at h
  | 0, c :: d :: r, x, m, hk, h => by simp at hk
  | k + 1, c :: d :: r, x, m, hk, h => by
    simp only [List.length_cons] at hk ⊢
    unfold qd at h
    split at h
    · split at h
      · cases hq : qd r with
        | none => rw [hq] at h; simp at h
        | some p =>
          rcases p with ⟨y, n⟩
          rw [hq] at h
          simp at h
          obtain ⟨rfl, rfl⟩ := h
          have := qd_len k r y n (by omega) hq
          simp
          omega
      · simp at h; obtain ⟨rfl, rfl⟩ := h; simp
    · cases hq : qd (d :: r) with
      | none => rw [hq] at h; simp at h
      | some p =>
        rcases p with ⟨y, n⟩
        rw [hq] at h
        simp at h
        obtain ⟨rfl, rfl⟩ := h
        have := qd_len k (d :: r) y n (by simp; omega) hq
        simp only [List.length_cons] at this ⊢
        omega

def ans52 (s : Str) (x2 x4 x5 : Int) (b : Str) (p : Nat) (v : Str) (r : Option (Str × Bool × Int × Int × Int)) : Prop :=
  match qd v with
  | some (x, m) => r = some (b ++ x, true, ((p + m : Nat) : Int), x4, x5)
  | none => ∃ i, r = some ([], false, i, x2, 48)

theorem loop52 {s : Str} (hl : s.length ≤ 1000000) (x2 x3 x4 x5 : Int) (l6 : List Token) (l7 : List Str) : ∀ (k : Nat) (v pre b : Str) (n : Nat), v.length ≤ k → s = pre ++ v → v.length < n → b.length + v.length ≤ 10000000 →
    ans52 s x2 x4 x5 b pre.length v (iter (F52x1_b1 s x3 x4 x5 l6 l7 x2) n ((pre.length : Int), b)) := by
  intro k
  induction k with
  | zero =>
    intro v pre b n hk hs hn hb
    have hv : v = [] := List.length_eq_zero_iff.1 (by omega)
    subst hv
    match n, hn with
    | n + 1, hn =>
      refine ⟨(pre.length : Int), ?_⟩
      show F52x1_b1 s _ _ _ _ _ _ _ _ = _
      rw [F52x1_b1, F20_eq hs, Option.bind_some, L_IndexByte, Option.bind_some]
      rfl
  | succ k ih =>
    intro v pre b n hk hs hn hb
    match n, hn with
    | n + 1, hn =>
      have h39 : (39 : Int).toNat.toUInt8 = 39 := by decide
      rcases firstOf 39 v with hf | ⟨a, w, hf, rfl⟩
      · unfold ans52
        rw [qd_free v hf]
        refine ⟨(pre.length : Int), ?_⟩
        show F52x1_b1 s _ _ _ _ _ _ _ _ = _
        rw [F52x1_b1, F20_eq hs, Option.bind_some, L_IndexByte, Option.bind_some, h39, indexByte_free 39 v hf]
        rfl
      · have hlen : s.length = pre.length + (a.length + (w.length + 1)) := by rw [hs]; simp
        simp only [List.length_append, List.length_cons] at hk hn hb
        have e0 : sslice s (pre.length : Int) (IntKind.wrap .i64 ((pre.length : Int) + (a.length : Int))) = some a := by
          rw [wrap64 (by omega) (by omega), hs]
          simpa using sslice_part pre a (39 :: w)
        have e1 : (pre.length : Int) + ((a.length : Int) + 1) = ((pre ++ (a ++ [39])).length : Int) := by simp
        have hw : w.length ≤ 1000000 := by omega
        have head : iter (F52x1_b1 s x3 x4 x5 l6 l7 x2) (n + 1) ((pre.length : Int), b) = bif !([39] : Str).isPrefixOf w then some (b ++ a, true, ((pre ++ (a ++ [39])).length : Int), x4, x5) else iter (F52x1_b1 s x3 x4 x5 l6 l7 x2) n (IntKind.wrap .i64 (((pre ++ (a ++ [39])).length : Int) + 1), b ++ a ++ [39]) := by
          show F52x1_b1 s _ _ _ _ _ _ _ _ = _
          rw [F52x1_b1, F20_eq hs, Option.bind_some, L_IndexByte, Option.bind_some, h39, indexByte_at 39 w a hf, decide_eq_false (by omega), cond_f, e0, Option.bind_some, L_WriteString, if_pos (by omega), Option.bind_some]
          dsimp only
          rw [wrap64 (n := (a.length : Int) + 1) (by omega) (by omega), wrap64 (n := (pre.length : Int) + ((a.length : Int) + 1)) (by omega) (by omega), e1, F20_eq (t := w) (by rw [hs]; simp), Option.bind_some, F23_eq _ _ hw, Option.bind_some, L_WriteByte, if_pos ⟨by decide, by decide, by simp; omega⟩, Option.bind_some, h39]
          rfl
        rw [head]
        unfold ans52
        rw [qd_pre w a hf]
        cases hp : ([39] : Str).isPrefixOf w with
        | false =>
          rw [qd_shut hp]
          show _ = _
          rw [Bool.not_false, cond_t]
          simp
          omega
        | true =>
          rw [Bool.not_true, cond_f]
          match w, hp with
          | d :: w, hp =>
            have hd : d = 39 := by
              rw [pre_cons, Bool.and_eq_true, decide_eq_true_eq] at hp
              exact hp.1
            subst hd
            rw [qd_two, wrap64 (by simp; omega) (by simp; omega)]
            have e2 : ((pre ++ (a ++ [39])).length : Int) + 1 = ((pre ++ (a ++ [39, 39])).length : Int) := by simp; omega
            have := ih w (pre ++ (a ++ [39, 39])) (b ++ a ++ [39]) n (by simp at hk; omega) (by rw [hs]; simp) (by simp at hn; omega) (by simp at hb ⊢; omega)
            rw [e2]
            unfold ans52 at this
            cases hq : qd w with
            | none =>
              rw [hq] at this
              exact this
            | some y =>
              rcases y with ⟨y, m⟩
              rw [hq] at this
              show _ = _
              rw [this]
              simp
              omega

theorem F52_eq {s pre v : Str} {c : UInt8} (hs : s = pre ++ c :: v) (hl : s.length ≤ 1000000) (x3 x4 x5 : Int) (l6 : List Token) (l7 : List Str) : ans52 s (pre.length : Int) x4 x5 [] (pre.length + 1) v (F52x1 s (pre.length : Int) x3 x4 x5 l6 l7) := by
  have hlen : s.length = pre.length + (v.length + 1) := by rw [hs]; simp
  unfold F52x1
  rw [wrap64 (by omega) (by omega)]
  have := loop52 (s := s) hl (pre.length : Int) x3 x4 x5 l6 l7 v.length v (pre ++ [c]) [] BIG (Nat.le_refl _) (by rw [hs]; simp) (by unfold BIG; omega) (by simp; omega)
  have e1 : ((pre ++ [c]).length : Int) = (pre.length : Int) + 1 := by simp
  have e2 : (pre ++ [c]).length = pre.length + 1 := by simp
  rw [e1, e2] at this
  exact this

/-! ### Words -/

/-- A word: its text, which of its bytes were quoted, and how many bytes it takes; or where the quote stands that is not closed. -/
def wd : Nat → Str → Except Nat (Str × Str × Nat)
  | 0, _ => .ok ([], [], 0)
  | _ + 1, [] => .ok ([], [], 0)
  | k + 1, c :: r => bif ord (c :: r) then (match wd k r with
      | .error e => .error (e + 1)
      | .ok (x, q, n) => .ok (c :: x, 48 :: q, n + 1))
    else if c = 39 then (match qd r with
      | none => .error 0
      | some (x, m) => match wd k (r.drop m) with
        | .error e => .error (e + (m + 1))
        | .ok (y, q, n) => .ok (x ++ y, List.replicate x.length 49 ++ q, n + (m + 1)))
    else .ok ([], [], 0)

def ans36 (x4 x5 : Int) (b q : Str) (p : Nat) (w : Except Nat (Str × Str × Nat)) (r : Option (Str × Str × Bool × Int × Int × Int)) : Prop :=
  match w with
  | .ok (x, y, m) => r = some (b ++ x, q ++ y, true, ((p + m : Nat) : Int), x4, x5)
  | .error e => ∃ i, r = some ([], [], false, i, ((p + e : Nat) : Int), 48)

theorem loop36 {s : Str} (hl : s.length ≤ 1000000) (x3 : Int) (l6 : List Token) (l7 : List Str) (x4 x5 : Int) : ∀ (k : Nat) (t pre b q : Str) (n : Nat), t.length ≤ k → s = pre ++ t → t.length < n → b.length + t.length ≤ 10000000 → q.length + t.length ≤ 10000000 →
    ans36 x4 x5 b q pre.length (wd k t) (iter (F36x1_b1 s x3 l6 l7) n ((pre.length : Int), x4, x5, b, q)) := by
  have none : ∀ (pre b q : Str) (n : Nat), s = pre ++ [] → 0 < n → iter (F36x1_b1 s x3 l6 l7) n ((pre.length : Int), x4, x5, b, q) = some (b ++ [], q ++ [], true, ((pre.length + 0 : Nat) : Int), x4, x5) := by
    intro pre b q n hs hn
    match n, hn with
    | n + 1, hn =>
      show F36x1_b1 s _ _ _ _ _ = _
      rw [F36x1_b1, F50_eq hs hl, Option.bind_some]
      show (bif false then _ else _) = _
      rw [cond_f, F20_eq hs, Option.bind_some, F23_eq _ _ (by simp), Option.bind_some]
      show (bif false then _ else _) = _
      rw [cond_f, L_String, L_String]
      simp
  intro k
  induction k with
  | zero =>
    intro t pre b q n hk hs hn hb hq
    have ht : t = [] := List.length_eq_zero_iff.1 (by omega)
    subst ht
    exact none pre b q n hs (by omega)
  | succ k ih =>
    intro t pre b q n hk hs hn hb hq
    match t, hk, hs, hn, hb, hq with
    | [], hk, hs, hn, hb, hq => exact none pre b q n hs (by omega)
    | c :: r, hk, hs, hn, hb, hq =>
      match n, hn with
      | n + 1, hn =>
        have hlen : s.length = pre.length + (r.length + 1) := by rw [hs]; simp
        have h1 : sidx s (pre.length : Int) = some (B c) := by rw [hs]; exact sidx_mid pre c r
        have e1 : ((pre ++ [c]).length : Int) = (pre.length : Int) + 1 := by simp
        have hB : 0 ≤ B c ∧ B c ≤ 255 := by
          have := UInt8.toNat_lt c
          unfold B
          omega
        simp only [List.length_cons] at hk hn hb hq
        rw [wd]
        show ans36 x4 x5 b q pre.length _ (F36x1_b1 s x3 l6 l7 _ _)
        cases ho : ord (c :: r) with
        | true =>
          rw [F36x1_b1, F50_eq hs hl, ho, Option.bind_some, cond_t, h1, Option.bind_some, L_WriteByte, if_pos ⟨hB.1, hB.2, by omega⟩, Bback, Option.bind_some, L_WriteByte, if_pos ⟨by decide, by decide, by omega⟩, Option.bind_some, wrap64 (by omega) (by omega)]
          have h48 : ((48 : Int).toNat.toUInt8) = 48 := by decide
          have hh := ih r (pre ++ [c]) (b ++ [c]) (q ++ [48]) n (by omega) (by rw [hs]; simp) (by omega) (by simp; omega) (by simp; omega)
          rw [e1] at hh
          rw [h48, cond_t]
          cases hw : wd k r with
          | error e =>
            rw [hw] at hh
            obtain ⟨i, hi⟩ := hh
            refine ⟨i, ?_⟩
            rw [hi]
            simp
            omega
          | ok y =>
            rcases y with ⟨x, y, m⟩
            rw [hw] at hh
            show _ = _
            refine Eq.trans hh ?_
            simp
            omega
        | false =>
          have hr1 : (c :: r).length ≤ 1000000 := by simp; omega
          have hp : ([] : Str).isPrefixOf r = true := by cases r <;> rfl
          rw [F36x1_b1, F50_eq hs hl, ho, Option.bind_some, cond_f, cond_f, F20_eq hs, Option.bind_some, F23_eq _ _ hr1, Option.bind_some, pre_cons, hp, Bool.and_true]
          by_cases hc : c = 39
          · subst hc
            rw [decide_eq_true rfl, cond_t, if_pos rfl]
            have h52 := F52_eq hs hl x3 x4 x5 l6 l7
            unfold ans52 at h52
            cases hqd : qd r with
            | none =>
              rw [hqd] at h52
              obtain ⟨i, hi⟩ := h52
              refine ⟨i, ?_⟩
              rw [hi, Option.bind_some]
              rfl
            | some y =>
              rcases y with ⟨x, m⟩
              rw [hqd] at h52
              have h52' : F52x1 s (pre.length : Int) x3 x4 x5 l6 l7 = some ([] ++ x, true, ((pre.length + 1 + m : Nat) : Int), x4, x5) := h52
              obtain ⟨g1, g2, g3⟩ := qd_len r.length r x m (Nat.le_refl _) hqd
              rw [h52', Option.bind_some]
              dsimp only
              have h49 : L_Repeat [49] (x.length : Int) = some (List.replicate x.length 49) := by
                unfold L_Repeat
                rw [if_pos ⟨by omega, by omega, by simp; omega⟩]
                congr 1
                rw [Int.toNat_natCast]
                exact repeat_one 49 x.length
              rw [List.nil_append, Bool.not_true, cond_f, L_WriteString, if_pos (by omega), Option.bind_some]
              dsimp only
              rw [h49, Option.bind_some, L_WriteString, if_pos (by simp; omega), Option.bind_some]
              dsimp only
              have hh := ih (r.drop m) (pre ++ (39 :: r.take m)) (b ++ x) (q ++ List.replicate x.length 49) n (by simp; omega) (by rw [hs]; simp) (by simp; omega) (by simp; omega) (by simp; omega)
              have e2 : (pre ++ (39 :: r.take m)).length = pre.length + 1 + m := by simp; omega
              rw [e2] at hh
              cases hw : wd k (r.drop m) with
              | error e =>
                rw [hw] at hh
                obtain ⟨i, hi⟩ := hh
                refine ⟨i, ?_⟩
                rw [hi]
                simp
                omega
              | ok y =>
                rcases y with ⟨x', y, m'⟩
                rw [hw] at hh
                show _ = _
                refine Eq.trans hh ?_
                simp
                omega
          · rw [decide_eq_false hc, cond_f, if_neg hc, L_String, L_String]
            show _ = _
            simp

theorem F36_eq {s pre t : Str} (hs : s = pre ++ t) (hl : s.length ≤ 1000000) (x3 x4 x5 : Int) (l6 : List Token) (l7 : List Str) : ans36 x4 x5 [] [] pre.length (wd t.length t) (F36x1 s (pre.length : Int) x3 x4 x5 l6 l7) := by
  have hlen : s.length = pre.length + t.length := by rw [hs]; simp
  unfold F36x1
  exact loop36 hl x3 l6 l7 x4 x5 t.length t pre [] [] BIG (Nat.le_refl _) hs (by unfold BIG; omega) (by simp; omega) (by simp; omega)

/-! ### Tokens -/

def push (l : List Token) (u : Token) : Except (Int × Int) (List Token) := if 1024 ≤ l.length then .error (u.at_, 4) else .ok (l ++ [u])

def ansL (x5 x6 : Int) (w : Except (Int × Int) (List Token)) (r : Option (Bool × Int × Int × List Token)) : Prop :=
  match w with
  | .ok l => r = some (true, x5, x6, l)
  | .error (p, c) => ∃ l, r = some (false, p, c, l)

theorem F33_eq (u : Token) (s : Str) (x3 x4 x5 x6 : Int) (l : List Token) (l8 : List Str) : ansL x5 x6 (push l u) (F33x1 u s x3 x4 x5 x6 l l8) := by
  unfold F33x1 push
  by_cases h : 1024 ≤ l.length
  · rw [decide_eq_true (by omega), cond_t, if_pos h]
    exact ⟨l, rfl⟩
  · rw [decide_eq_false (by omega), cond_f, if_neg h, appO, if_pos (by simp; omega)]
    exact rfl

def hats (u : Token) (touch : Bool) : Bool := touch && (decide (u.kind_ = 1) || (decide (u.kind_ = 2) && match u.text_ with | [] => false | c :: _ => ([36, 96] : Str).contains c))

def hat (l : List Token) (u : Token) (touch : Bool) : Except (Int × Int) (List Token) :=
  bif hats u touch then (match push l ⟨2, u.at_, [94], []⟩ with
    | .error e => .error e
    | .ok l1 => push l1 u)
  else push l u

theorem F39_eq (u : Token) (touch : Bool) (s : Str) (x4 x5 x6 x7 : Int) (l : List Token) (l9 : List Str) : ansL x6 x7 (hat l u touch) (F39 u touch s x4 x5 x6 x7 l l9) := by
  have key : ∀ X : Bool → Option (Bool × Int × Int × List Token), ((guardO (!(decide (u.kind_ = 1)) && (decide (u.kind_ = 2) && !decide (u.text_ = []))) (sidx u.text_ 0)).bind fun c14 =>
      (guardO (!(decide (u.kind_ = 1)) && (decide (u.kind_ = 2) && !decide (u.text_ = []))) (L_IndexByte [36, 96] c14)).bind fun n17 =>
      X (touch && (decide (u.kind_ = 1) || ((decide (u.kind_ = 2) && !decide (u.text_ = [])) && decide (0 ≤ n17))))) = X (hats u touch) := by
    intro X
    unfold hats
    cases decide (u.kind_ = 1) with
    | true => rfl
    | false =>
      cases decide (u.kind_ = 2) with
      | false => rfl
      | true =>
        match u.text_ with
        | [] => rfl
        | c :: r =>
          have h0 : sidx (c :: r) 0 = some (B c) := sidx_mid [] c r
          rw [decide_eq_false (p := c :: r = []) (by simp), h0]
          simp only [Bool.not_false, Bool.true_and, guardO, cond_t, Option.bind_some, L_IndexByte, Bback]
          rw [idx_contains]
  unfold F39
  refine (key (fun h => bif h then _ else _)) ▸ ?_
  unfold hat
  cases hats u touch with
  | false =>
    simp only [cond_f]
    have h := F33_eq u s x4 x5 x6 x7 l l9
    cases hp : push l u with
    | error e =>
      rw [hp] at h
      obtain ⟨l', hl'⟩ := h
      exact ⟨l', by rw [hl']; rfl⟩
    | ok l1 =>
      rw [hp] at h
      have h' : F33x1 u s x4 x5 x6 x7 l l9 = some (true, x6, x7, l1) := h
      rw [h']
      exact rfl
  | true =>
    simp only [cond_t]
    have h := F33_eq ⟨2, u.at_, [94], []⟩ s x4 x5 x6 x7 l l9
    cases hp : push l ⟨2, u.at_, [94], []⟩ with
    | error e =>
      rw [hp] at h
      obtain ⟨l', hl'⟩ := h
      exact ⟨l', by rw [hl']; rfl⟩
    | ok l1 =>
      rw [hp] at h
      have h' : F33x1 ⟨2, u.at_, [94], []⟩ s x4 x5 x6 x7 l l9 = some (true, x6, x7, l1) := h
      rw [h', Option.bind_some]
      dsimp only
      rw [Bool.not_true, cond_f]
      have h2 := F33_eq u s x4 x5 x6 x7 l1 l9
      cases hp2 : push l1 u with
      | error e =>
        rw [hp2] at h2
        obtain ⟨l', hl'⟩ := h2
        exact ⟨l', by rw [hl']; rfl⟩
      | ok l2 =>
        rw [hp2] at h2
        have h2' : F33x1 u s x4 x5 x6 x7 l1 l9 = some (true, x6, x7, l2) := h2
        rw [h2']
        exact rfl

def lastWord (l : List Token) : Bool := match l.getLast? with
  | some u => decide (u.kind_ = 1)
  | none => false

theorem F37_eq (s : Str) (x2 x3 x4 x5 : Int) (l : List Token) (l7 : List Str) (hl : l.length ≤ 100000) : F37 s x2 x3 x4 x5 l l7 = some (lastWord l && decide (x3 = x2)) := by
  unfold F37 lastWord
  by_cases h : l = []
  · subst h; rfl
  · have hpos : 0 < l.length := List.length_pos_iff.2 h
    have hx : lidx l (((l.length - 1 : Nat) : Int)) = l.getLast? := by
      rw [lidx_nat, List.getLast?_eq_getElem?]
    rw [decide_eq_true (by omega), wrap64 (by omega) (by omega), show (l.length : Int) - 1 = ((l.length - 1 : Nat) : Int) by omega, hx]
    rw [List.getLast?_eq_some_getLast h]
    rfl

/-! ### Names -/

def nameB (c : UInt8) : Bool := (F55 (B c)).getD false
theorem F55_eq (c : UInt8) : F55 (B c) = some (nameB c) := rfl

def nameN : Str → Nat
  | [] => 0
  | c :: r => bif nameB c then nameN r + 1 else 0

theorem nameN_cons (c : UInt8) (r : Str) : nameN (c :: r) = bif nameB c then nameN r + 1 else 0 := rfl

theorem nameN_le : ∀ t : Str, nameN t ≤ t.length
  | [] => Nat.le_refl _
  | c :: r => by
    have := nameN_le r
    unfold nameN
    cases nameB c <;> simp <;> omega

def name (p : Nat) (t : Str) (l : List Token) : Except (Int × Int) (List Token) :=
  if nameN t = 0 then .error (p, 47) else push l ⟨1, p, t.take (nameN t), List.replicate (nameN t) 48⟩

def ansN (x5 x6 : Int) (i : Nat) (w : Except (Int × Int) (List Token)) (r : Option (Bool × Int × Int × Int × List Token)) : Prop :=
  match w with
  | .ok l => r = some (true, (i : Int), x5, x6, l)
  | .error (p, c) => ∃ j l, r = some (false, j, p, c, l)

theorem loop40 {s p0 t0 : Str} (hs0 : s = p0 ++ t0) (hl : s.length ≤ 1000000) (x3 x4 x5 : Int) (l : List Token) (l7 : List Str) : ∀ (t d : Str) (n : Nat), t0 = d ++ t → nameN t0 = d.length + nameN t → t.length < n →
    ansN x4 x5 (p0.length + nameN t0) (name p0.length t0 l) (iter (F40_b1 s (p0.length : Int) x3 x4 x5 l l7) n ((p0.length + d.length : Nat) : Int)) := by
  -- what happens when the name ends
  have fin : ∀ (t d : Str), t0 = d ++ t → nameN t0 = d.length → ansN x4 x5 (p0.length + nameN t0) (name p0.length t0 l)
      (bif decide (((p0.length + d.length : Nat) : Int) = (p0.length : Int)) then
        (F34x2 (p0.length : Int) 47 s ((p0.length + d.length : Nat) : Int) x3 x4 x5 l l7).bind fun (r25, x26, x27) => some (r25, ((p0.length + d.length : Nat) : Int), x26, x27, l)
      else
        (sslice s (p0.length : Int) ((p0.length + d.length : Nat) : Int)).bind fun t31 =>
        (L_Repeat [48] (t31.length : Int)).bind fun t34 =>
        (F33x1 (Token.mk 1 (p0.length : Int) t31 t34) s ((p0.length + d.length : Nat) : Int) x3 x4 x5 l l7).bind fun (r37, x38, x39, o40) =>
        some (r37, ((p0.length + d.length : Nat) : Int), x38, x39, o40)) := by
    intro t d ht hd
    unfold name
    by_cases h0 : d.length = 0
    · rw [decide_eq_true (by omega), cond_t, if_pos (by omega)]
      exact ⟨_, _, rfl⟩
    · have hlen : s.length = p0.length + (d.length + t.length) := by rw [hs0, ht]; simp
      have hsl : sslice s (p0.length : Int) ((p0.length + d.length : Nat) : Int) = some d := by
        have h := sslice_part p0 d t
        rw [List.append_assoc, ← ht, ← hs0, List.length_append] at h
        exact h
      have h48 : L_Repeat [48] (d.length : Int) = some (List.replicate d.length 48) := by
        unfold L_Repeat
        rw [if_pos ⟨by omega, by omega, by simp; omega⟩]
        congr 1
        rw [Int.toNat_natCast]
        exact repeat_one 48 d.length
      have htk : t0.take (nameN t0) = d := by rw [hd, ht]; simp
      rw [decide_eq_false (by omega), cond_f, if_neg (by omega), hsl, Option.bind_some, h48, Option.bind_some, htk, hd]
      have h := F33_eq ⟨1, (p0.length : Int), d, List.replicate d.length 48⟩ s ((p0.length + d.length : Nat) : Int) x3 x4 x5 l l7
      cases hp : push l ⟨1, (p0.length : Int), d, List.replicate d.length 48⟩ with
      | error e =>
        rw [hp] at h
        obtain ⟨l', hl'⟩ := h
        exact ⟨_, l', by rw [hl']; rfl⟩
      | ok l1 =>
        rw [hp] at h
        have h' : F33x1 ⟨1, (p0.length : Int), d, List.replicate d.length 48⟩ s ((p0.length + d.length : Nat) : Int) x3 x4 x5 l l7 = some (true, x4, x5, l1) := h
        rw [h']
        exact rfl
  intro t
  induction t with
  | nil =>
    intro d n ht hd hn
    match n, hn with
    | n + 1, hn =>
      have hlen : s.length = p0.length + d.length := by rw [hs0, ht]; simp
      show ansN x4 x5 _ _ (F40_b1 s _ _ _ _ _ _ _ _)
      rw [F40_b1, decide_eq_false (by omega)]
      exact fin [] d ht hd
  | cons c r ih =>
    intro d n ht hd hn
    match n, hn with
    | n + 1, hn =>
      have hlen : s.length = p0.length + (d.length + (r.length + 1)) := by rw [hs0, ht]; simp
      have h1 : sidx s ((p0.length + d.length : Nat) : Int) = some (B c) := by
        have h := sidx_mid (p0 ++ d) c r
        rw [List.append_assoc, ← ht, ← hs0, List.length_append] at h
        exact h
      show ansN x4 x5 _ _ (F40_b1 s _ _ _ _ _ _ _ _)
      rw [F40_b1, decide_eq_true (by omega), h1]
      simp only [guardO, cond_t, Option.bind_some, F55_eq, Bool.true_and]
      rw [nameN_cons] at hd
      cases hb : nameB c with
      | true =>
        rw [cond_t, wrap64 (by omega) (by omega)]
        rw [hb, cond_t] at hd
        have h := ih (d ++ [c]) n (by rw [ht]; simp) (by rw [hd]; simp; omega) (by simp at hn; omega)
        have e1 : ((p0.length + (d ++ [c]).length : Nat) : Int) = ((p0.length + d.length : Nat) : Int) + 1 := by simp; omega
        rw [e1] at h
        exact h
      | false =>
        rw [cond_f]
        rw [hb, cond_f] at hd
        exact fin (c :: r) d ht hd

theorem F40_eq {s pre t : Str} (hs : s = pre ++ t) (hl : s.length ≤ 1000000) (x3 x4 x5 : Int) (l : List Token) (l7 : List Str) : ansN x4 x5 (pre.length + nameN t) (name pre.length t l) (F40 s (pre.length : Int) x3 x4 x5 l l7) := by
  have hlen : s.length = pre.length + t.length := by rw [hs]; simp
  unfold F40
  exact loop40 hs hl x3 x4 x5 l l7 t [] BIG rfl (by simp) (by unfold BIG; omega)

/-! ### Numbers in brackets -/

theorem F65_tot (s : Str) (hl : s.length ≤ 1000000) : ∃ b, F65 s = some b := by
  obtain ⟨n, b, h⟩ : ∃ n b, L_Atoi s = some (n, b) := by
    unfold L_Atoi
    rw [if_pos (by omega)]
    cases Lib.atoiAll s <;> exact ⟨_, _, rfl⟩
  unfold F65
  rw [h, Option.bind_some]
  dsimp only
  cases hg : (!b && decide (0 ≤ n)) && decide (n < 64) with
  | false => exact ⟨_, rfl⟩
  | true =>
    simp only [Bool.and_eq_true, decide_eq_true_eq] at hg
    have h1 : L_Itoa n = some (Lib.decDigits n.toNat) := by
      unfold L_Itoa
      rw [if_pos ⟨hg.1.2, by omega⟩]
    rw [h1]
    exact ⟨_, rfl⟩

theorem cut_len (a : Str) (c : UInt8) : (Lib.cut a [c]).1.length ≤ a.length ∧ (Lib.cut a [c]).2.1.length ≤ a.length := by
  rcases firstOf c a with h | ⟨x, y, h, rfl⟩
  · rw [cut_free h]; simp
  · rw [cut_at y h]; simp; omega

theorem F54_cut {a : Str} (w : Str) (pair : Bool) (ha : (93 : UInt8) ∉ a) (hl : a.length ≤ 1000000) : F54 (91 :: (a ++ 93 :: w)) pair = F54 (91 :: (a ++ [93])) pair ∧ (F54 (91 :: (a ++ 93 :: w)) pair = some 0 ∨ F54 (91 :: (a ++ 93 :: w)) pair = some ((a.length + 2 : Nat) : Int)) := by
  have key : ∀ w : Str, F54 (91 :: (a ++ 93 :: w)) pair = ((F65 (Lib.cut a [61]).1).bind fun r16 =>
      (guardO (((r16 && (Lib.cut a [61]).2.2) && pair) && !decide ((Lib.cut a [61]).2.1 = [])) (F65 (Lib.cut a [61]).2.1)).bind fun r19 =>
      (bif (!r16 || ((Lib.cut a [61]).2.2 && (!pair || (!decide ((Lib.cut a [61]).2.1 = []) && !r19)))) then some 0 else some ((a.length + 2 : Nat) : Int))) := by
    intro w
    have h93 : (93 : Int).toNat.toUInt8 = 93 := by decide
    have hi := indexByte_at 93 w (91 :: a) (by simp only [List.mem_cons, not_or]; exact ⟨by decide, ha⟩)
    have hs : sslice (91 :: (a ++ 93 :: w)) 1 ((91 :: a).length : Int) = some a := sslice_part [91] a (93 :: w)
    unfold F54
    rw [L_IndexByte, Option.bind_some, h93]
    rw [show (91 :: (a ++ 93 :: w) : Str) = (91 :: a) ++ 93 :: w from rfl, hi, decide_eq_false (by omega), cond_f]
    rw [show ((91 :: a) ++ 93 :: w : Str) = 91 :: (a ++ 93 :: w) from rfl, hs, Option.bind_some, L_Cut, if_pos (by omega), Option.bind_some]
    rw [wrap64 (by omega) (by simp; omega)]
    have e : ((91 :: a).length : Int) + 1 = ((a.length + 2 : Nat) : Int) := by simp; omega
    rw [e]
  refine ⟨(key w).trans (key []).symm, ?_⟩
  rw [key w]
  obtain ⟨h1, h2⟩ := cut_len a 61
  obtain ⟨b1, e1⟩ := F65_tot (Lib.cut a [61]).1 (by omega)
  obtain ⟨b2, e2⟩ := F65_tot (Lib.cut a [61]).2.1 (by omega)
  rw [e1, e2, Option.bind_some]
  generalize (((b1 && (Lib.cut a [61]).2.2) && pair) && !decide ((Lib.cut a [61]).2.1 = [])) = g
  cases g
  · simp only [guardO, cond_f, Option.bind_some]
    generalize (!b1 || ((Lib.cut a [61]).2.2 && (!pair || (!decide ((Lib.cut a [61]).2.1 = []) && !default)))) = g
    cases g
    · exact .inr rfl
    · exact .inl rfl
  · simp only [guardO, cond_t, Option.bind_some]
    generalize (!b1 || ((Lib.cut a [61]).2.2 && (!pair || (!decide ((Lib.cut a [61]).2.1 = []) && !b2)))) = g
    cases g
    · exact .inr rfl
    · exact .inl rfl

theorem F54_free {r : Str} (pair : Bool) (h : (93 : UInt8) ∉ r) : F54 (91 :: r) pair = some 0 := by
  have h93 : (93 : Int).toNat.toUInt8 = 93 := by decide
  unfold F54
  rw [L_IndexByte, Option.bind_some, h93, indexByte_free 93 (91 :: r) (by simp only [List.mem_cons, not_or]; exact ⟨by decide, h⟩)]
  rfl

/-- How many bytes a number in brackets takes: 0 if there is none. -/
def brk (t : Str) (pair : Bool) : Nat := ((F54 t pair).getD 0).toNat

theorem F54_eq (r : Str) (pair : Bool) (hl : r.length ≤ 1000000) : F54 (91 :: r) pair = some (brk (91 :: r) pair : Int) ∧ brk (91 :: r) pair ≤ (91 :: r).length := by
  unfold brk
  rcases firstOf 93 r with h | ⟨a, w, h, rfl⟩
  · rw [F54_free pair h]
    exact ⟨rfl, by simp⟩
  · rcases (F54_cut w pair h (by simp at hl; omega)).2 with e | e
    · rw [e]; exact ⟨rfl, by simp⟩
    · rw [e]
      refine ⟨rfl, ?_⟩
      simp
      omega

/-! ### Symbols -/

def symB : List Str → Str → Except Nat Str
  | [], _ => .ok []
  | w :: ws, t => bif w.isPrefixOf t then (bif ([91] : Str).isPrefixOf (t.drop w.length) then
      (if brk (t.drop w.length) (!decide (w = [124])) = 0 then .error w.length else .ok (t.take (w.length + brk (t.drop w.length) (!decide (w = [124])))))
      else .ok w) else symB ws t

def symA : List Str → Str → Except Nat Str
  | [], [] => .ok []
  | [], c :: r => bif START.contains c then .ok [c] else symB [[62, 62], [62], [60], [124]] (c :: r)
  | w :: ws, t => bif w.isPrefixOf t then .ok w else symA ws t

/-- The symbol ahead, if there is one; or where a number was to stand. -/
def sym (t : Str) : Except Nat Str := symA [[38, 38], [124, 124], [36, 35]] t

theorem symB_pre : ∀ (ws : List Str) (t w : Str), symB ws t = .ok w → w <+: t
  | [], t, w, h => by
    simp only [symB, Except.ok.injEq] at h
    subst h
    exact List.nil_prefix
  | v :: ws, t, w, h => by
    unfold symB at h
    cases hv : v.isPrefixOf t with
    | false => rw [hv, cond_f] at h; exact symB_pre ws t w h
    | true =>
      rw [hv, cond_t] at h
      cases hb : ([91] : Str).isPrefixOf (t.drop v.length) with
      | false =>
        rw [hb, cond_f] at h
        injection h with h
        subst h
        exact List.isPrefixOf_iff_prefix.1 hv
      | true =>
        rw [hb, cond_t] at h
        split at h
        · cases h
        · injection h with h
          subst h
          exact List.take_prefix _ _

theorem symA_pre : ∀ (ws : List Str) (t w : Str), symA ws t = .ok w → w <+: t
  | [], [], w, h => by
    simp only [symA, Except.ok.injEq] at h
    subst h
    exact List.nil_prefix
  | [], c :: r, w, h => by
    unfold symA at h
    cases hc : START.contains c with
    | true =>
      rw [hc, cond_t] at h
      injection h with h
      subst h
      exact ⟨r, rfl⟩
    | false =>
      rw [hc, cond_f] at h
      exact symB_pre _ _ _ h
  | v :: ws, t, w, h => by
    unfold symA at h
    cases hv : v.isPrefixOf t with
    | false => rw [hv, cond_f] at h; exact symA_pre ws t w h
    | true =>
      rw [hv, cond_t] at h
      injection h with h
      subst h
      exact List.isPrefixOf_iff_prefix.1 hv

theorem sym_pre {t w : Str} (h : sym t = .ok w) : w <+: t := symA_pre _ _ _ h

def ans38 (x4 x5 : Int) (p : Nat) (w : Except Nat Str) (r : Option (Str × Bool × Int × Int)) : Prop :=
  match w with
  | .ok w => r = some (w, true, x4, x5)
  | .error e => ∃ v, r = some (v, false, ((p + e : Nat) : Int), 47)

def G38b (t : Str) (x4 x5 x2 : Int) (s : Str) (x3 : Int) (l6 : List Token) (l7 : List Str) : Str → Int → Option (Str × Bool × Int × Int) → Option (Str × Bool × Int × Int) := fun w44 _ n =>
  (F23 t w44).bind fun r47 => (bif !r47 then n else
      (sslice t (w44.length : Int) (t.length : Int)).bind fun t51 =>
      (F23 t51 [91]).bind fun r54 =>
      (bif !r54 then some (w44, true, x4, x5)
      else
        (F54 t51 (!decide (w44 = [124]))).bind fun r58 =>
        (bif decide (r58 = 0) then
          (F34x2 (IntKind.wrap .i64 (x2 + (w44.length : Int))) 47 s x2 x3 x4 x5 l6 l7).bind fun (r62, x63, x64) => some ([], r62, x63, x64)
        else
          (sslice t 0 (IntKind.wrap .i64 ((w44.length : Int) + r58))).bind fun t68 => some (t68, true, x4, x5))))

def G38a (t : Str) (x4 x5 : Int) : Str → Int → Option (Str × Bool × Int × Int) → Option (Str × Bool × Int × Int) := fun w21 _ n =>
  (F23 t w21).bind fun r24 => bif r24 then some (w21, true, x4, x5) else n

theorem loop38b {t s : Str} (ht : t.length ≤ 1000000) (x4 x5 x3 : Int) (l6 : List Token) (l7 : List Str) (p : Nat) (hp : p ≤ 1000000) : ∀ (ws : List Str) (i : Int), ans38 x4 x5 p (symB ws t) (loopR (G38b t x4 x5 (p : Int) s x3 l6 l7) (some ([], true, x4, x5)) ws i)
  | [], i => rfl
  | w :: ws, i => by
    unfold symB
    rw [loopR, G38b, F23_eq _ _ ht, Option.bind_some]
    cases hv : w.isPrefixOf t with
    | false =>
      rw [cond_f, Bool.not_false, cond_t]
      exact loop38b ht x4 x5 x3 l6 l7 p hp ws (i + 1)
    | true =>
      obtain ⟨u, hu⟩ := List.isPrefixOf_iff_prefix.1 hv
      have hlen : t.length = w.length + u.length := by rw [← hu]; simp
      have hs : sslice t (w.length : Int) (t.length : Int) = some u := by
        rw [← hu]
        exact sslice_end w u
      have hd : t.drop w.length = u := by rw [← hu]; simp
      rw [cond_t, Bool.not_true, cond_f, hs, Option.bind_some, F23_eq _ _ (by omega), Option.bind_some, hd]
      cases hb : ([91] : Str).isPrefixOf u with
      | false =>
        rw [cond_f, Bool.not_false, cond_t]
        exact rfl
      | true =>
        rw [cond_t, Bool.not_true, cond_f]
        match u, hb, hlen, hu with
        | c :: r, hb, hlen, hu =>
          have hc : c = 91 := by
            rw [pre_cons, Bool.and_eq_true, decide_eq_true_eq] at hb
            exact hb.1
          subst hc
          obtain ⟨h1, h2⟩ := F54_eq r (!decide (w = [124])) (by simp at hlen; omega)
          rw [h1, Option.bind_some]
          simp only [List.length_cons] at hlen h2
          clear h1
          generalize brk (91 :: r) (!decide (w = [124])) = m at *
          by_cases h0 : m = 0
          · rw [if_pos h0, decide_eq_true (by omega), cond_t, wrap64 (by omega) (by omega)]
            exact ⟨[], by simp [F34x2]⟩
          · rw [if_neg h0, decide_eq_false (by omega), cond_f, wrap64 (by omega) (by omega)]
            have h3 : sslice t 0 ((w.length : Int) + (m : Int)) = some (t.take (w.length + m)) := by
              unfold sslice
              rw [if_pos ⟨by omega, by omega, by omega⟩]
              have : ((w.length : Int) + (m : Int)).toNat - (0 : Int).toNat = w.length + m := by omega
              rw [this]
              rfl
            rw [h3]
            exact rfl

theorem loop38a {t : Str} (ht : t.length ≤ 1000000) (x4 x5 : Int) (p : Nat) (fin : Option (Str × Bool × Int × Int)) (hf : ans38 x4 x5 p (symA [] t) fin) : ∀ (ws : List Str) (i : Int), ans38 x4 x5 p (symA ws t) (loopR (G38a t x4 x5) fin ws i)
  | [], _ => hf
  | w :: ws, i => by
    rw [symA, loopR, G38a, F23_eq _ _ ht, Option.bind_some]
    cases hv : w.isPrefixOf t with
    | false => exact loop38a ht x4 x5 p fin hf ws (i + 1)
    | true => exact rfl

theorem F38_eq {s pre t : Str} (hs : s = pre ++ t) (hl : s.length ≤ 1000000) (x3 x4 x5 : Int) (l6 : List Token) (l7 : List Str) : ans38 x4 x5 pre.length (sym t) (F38 s (pre.length : Int) x3 x4 x5 l6 l7) := by
  have hlen : s.length = pre.length + t.length := by rw [hs]; simp
  have ht : t.length ≤ 1000000 := by omega
  unfold F38
  rw [F20_eq hs, Option.bind_some]
  have h2 : iter (F38_b2 t x4 x5 (pre.length : Int) s x3 l6 l7) BIG 0 = loopR (G38b t x4 x5 (pre.length : Int) s x3 l6 l7) (some ([], true, x4, x5)) [[62, 62], [62], [60], [124]] 0 :=
    iter_range (body := F38_b2 t x4 x5 (pre.length : Int) s x3 l6 l7) _ _ _ (fun again i => rfl) (by decide)
  have h1 := iter_range (body := F38_b1 t x4 x5 (pre.length : Int) s x3 l6 l7) [[38, 38], [124, 124], [36, 35]] (G38a t x4 x5) (bif decide (t = []) then some ([], true, x4, x5) else
      (sidx t 0).bind fun c29 => (L_IndexByte [59, 38, 40, 41, 123, 125, 61, 94, 96, 36, 33, 64] c29).bind fun n32 =>
      (bif decide (0 ≤ n32) then (sslice t 0 1).bind fun t36 => some (t36, true, x4, x5)
      else iter (F38_b2 t x4 x5 (pre.length : Int) s x3 l6 l7) BIG 0)) (fun again i => rfl) (by decide)
  rw [h1, h2]
  refine loop38a ht x4 x5 pre.length _ ?_ _ 0
  match t, ht with
  | [], ht => exact rfl
  | c :: r, ht =>
    have h0 : sidx (c :: r) 0 = some (B c) := sidx_mid [] c r
    have h3 : sslice (c :: r) 0 1 = some [c] := sslice_mid [] c r
    rw [symA, decide_eq_false (p := c :: r = []) (by simp), cond_f, h0, Option.bind_some, L_IndexByte, Option.bind_some, Bback, idx_contains, h3]
    show ans38 x4 x5 pre.length _ (bif START.contains c then _ else _)
    cases START.contains c with
    | true => exact rfl
    | false => exact loop38b ht x4 x5 x3 l6 l7 pre.length (by omega) _ 0

def tok (p : Nat) (t : Str) (l : List Token) (touch : Bool) : Except (Int × Int) (List Token × Nat) :=
  match sym t with
  | .error e => .error (((p + e : Nat) : Int), 47)
  | .ok [] => (match wd t.length t with
    | .error e => .error (((p + e : Nat) : Int), 48)
    | .ok (x, q, m) => match hat l ⟨1, p, x, q⟩ touch with
      | .error e => .error e
      | .ok l1 => .ok (l1, m))
  | .ok (c :: w) => match hat l ⟨2, p, c :: w, []⟩ touch with
    | .error e => .error e
    | .ok l1 => bif decide (c :: w = [36]) || decide (c :: w = [36, 35]) then (match name (p + (c :: w).length) (t.drop (c :: w).length) l1 with
        | .error e => .error e
        | .ok l2 => .ok (l2, (c :: w).length + nameN (t.drop (c :: w).length)))
      else .ok (l1, (c :: w).length)

def ansT (x4 x5 : Int) (p : Nat) (w : Except (Int × Int) (List Token × Nat)) (r : Option (Bool × Int × Int × Int × List Token)) : Prop :=
  match w with
  | .ok (l, m) => r = some (true, ((p + m : Nat) : Int), x4, x5, l)
  | .error (q, c) => ∃ j l, r = some (false, j, q, c, l)

theorem F25_eq {s pre t : Str} (hs : s = pre ++ t) (hl : s.length ≤ 1000000) (x3 x4 x5 : Int) (l : List Token) (l7 : List Str) (hll : l.length ≤ 100000) :
    ansT x4 x5 pre.length (tok pre.length t l (lastWord l && decide (x3 = (pre.length : Int)))) (F25 s (pre.length : Int) x3 x4 x5 l l7) := by
  have hlen : s.length = pre.length + t.length := by rw [hs]; simp
  unfold F25
  rw [F37_eq _ _ _ _ _ _ _ hll, Option.bind_some]
  generalize (lastWord l && decide (x3 = (pre.length : Int))) = tc
  have h38 := F38_eq hs hl x3 x4 x5 l l7
  unfold tok
  cases hw : sym t with
  | error e =>
    rw [hw] at h38
    obtain ⟨v, hv⟩ := h38
    rw [hv, Option.bind_some]
    dsimp only
    rw [Bool.not_false, cond_t]
    exact ⟨_, _, rfl⟩
  | ok w =>
    rw [hw] at h38
    have h38' : F38 s (pre.length : Int) x3 x4 x5 l l7 = some (w, true, x4, x5) := h38
    rw [h38', Option.bind_some]
    dsimp only
    rw [Bool.not_true, cond_f]
    match w, hw with
    | [], hw =>
      rw [decide_eq_true (p := ([] : Str) = []) rfl, Bool.not_true, cond_f]
      have h36 := F36_eq hs hl x3 x4 x5 l l7
      dsimp only
      cases hwd : wd t.length t with
      | error e =>
        rw [hwd] at h36
        obtain ⟨i, hi⟩ := h36
        rw [hi, Option.bind_some]
        exact ⟨_, _, rfl⟩
      | ok y =>
        rcases y with ⟨x, q, m⟩
        rw [hwd] at h36
        have h36' : F36x1 s (pre.length : Int) x3 x4 x5 l l7 = some ([] ++ x, [] ++ q, true, ((pre.length + m : Nat) : Int), x4, x5) := h36
        rw [h36', Option.bind_some]
        dsimp only
        rw [cond_t, List.nil_append, List.nil_append]
        have h39 := F39_eq ⟨1, (pre.length : Int), x, q⟩ tc s ((pre.length + m : Nat) : Int) x3 x4 x5 l l7
        cases hh : hat l ⟨1, (pre.length : Int), x, q⟩ tc with
        | error e =>
          rw [hh] at h39
          obtain ⟨l', hl'⟩ := h39
          rw [hl']
          exact ⟨_, _, rfl⟩
        | ok l1 =>
          rw [hh] at h39
          have h39' : F39 ⟨1, (pre.length : Int), x, q⟩ tc s ((pre.length + m : Nat) : Int) x3 x4 x5 l l7 = some (true, x4, x5, l1) := h39
          rw [h39']
          exact rfl
    | c :: w, hw =>
      obtain ⟨u, hu⟩ := sym_pre hw
      have hu2 : t.drop (c :: w).length = u := by rw [← hu]; simp
      have htl : t.length = (c :: w).length + u.length := by rw [← hu, List.length_append]
      rw [decide_eq_false (p := c :: w = []) (by simp), Bool.not_false, cond_t, wrap64 (by omega) (by omega)]
      have e1 : (pre.length : Int) + ((c :: w).length : Int) = ((pre.length + (c :: w).length : Nat) : Int) := by omega
      rw [e1]
      have h39 := F39_eq ⟨2, (pre.length : Int), c :: w, []⟩ tc s ((pre.length + (c :: w).length : Nat) : Int) x3 x4 x5 l l7
      dsimp only
      cases hh : hat l ⟨2, (pre.length : Int), c :: w, []⟩ tc with
      | error e =>
        rw [hh] at h39
        obtain ⟨l', hl'⟩ := h39
        rw [hl']
        exact ⟨_, _, rfl⟩
      | ok l1 =>
        rw [hh] at h39
        have h39' : F39 ⟨2, (pre.length : Int), c :: w, []⟩ tc s ((pre.length + (c :: w).length : Nat) : Int) x3 x4 x5 l l7 = some (true, x4, x5, l1) := h39
        rw [h39', Option.bind_some]
        dsimp only
        rw [Bool.not_true, cond_f]
        cases hd : decide (c :: w = [36]) || decide (c :: w = [36, 35]) with
        | false => exact rfl
        | true =>
          rw [cond_t, cond_t, hu2]
          have h40 := F40_eq (s := s) (pre := pre ++ (c :: w)) (t := u) (by rw [hs, ← hu]; simp) hl x3 x4 x5 l1 l7
          have e2 : (pre ++ (c :: w)).length = pre.length + (c :: w).length := List.length_append
          rw [e2] at h40
          cases hn : name (pre.length + (c :: w).length) u l1 with
          | error e =>
            rw [hn] at h40
            obtain ⟨j, l', hl'⟩ := h40
            rw [hl']
            exact ⟨_, _, rfl⟩
          | ok l2 =>
            rw [hn] at h40
            have h40' : F40 s ((pre.length + (c :: w).length : Nat) : Int) x3 x4 x5 l1 l7 = some (true, ((pre.length + (c :: w).length + nameN u : Nat) : Int), x4, x5, l2) := h40
            rw [h40']
            show _ = _
            rw [Option.bind_some]
            simp only [Nat.add_assoc]

/-! ### The names of here-documents -/

def here (p : Nat) (t : Str) (l : List Token) (ns : List Str) : Except (Int × Int) (List Token × List Str × Nat) :=
  match wd (t.drop (2 + blankN (t.drop 2))).length (t.drop (2 + blankN (t.drop 2))) with
  | .error e => .error (((p + (2 + blankN (t.drop 2)) + e : Nat) : Int), 48)
  | .ok (x, q, m) => bif decide (m = 0) then .error (((p + (2 + blankN (t.drop 2)) : Nat) : Int), 47) else match push l ⟨4, p, x, q⟩ with
    | .error e => .error e
    | .ok l1 => .ok (l1, ns ++ [x], 2 + blankN (t.drop 2) + m)

def ansH (x4 x5 : Int) (p : Nat) (w : Except (Int × Int) (List Token × List Str × Nat)) (r : Option (Bool × Int × Int × Int × List Token × List Str)) : Prop :=
  match w with
  | .ok (l, ns, m) => r = some (true, ((p + m : Nat) : Int), x4, x5, l, ns)
  | .error (q, c) => ∃ b j l ns, r = some (b, j, q, c, l, ns)

theorem F24_eq {s pre t : Str} (hs : s = pre ++ t) (h2 : 2 ≤ t.length) (hl : s.length ≤ 1000000) (x3 x4 x5 : Int) (l : List Token) (ns : List Str) (hns : ns.length ≤ 1000000) :
    ansH x4 x5 pre.length (here pre.length t l ns) (F24 s (pre.length : Int) x3 x4 x5 l ns) := by
  have hlen : s.length = pre.length + t.length := by rw [hs]; simp
  have hb := blankN_le (t.drop 2).length (t.drop 2) (Nat.le_refl _)
  have hdl : (t.drop 2).length = t.length - 2 := by simp
  have s1 : s = (pre ++ t.take 2) ++ t.drop 2 := by rw [hs, List.append_assoc, List.take_append_drop]
  have n1 : (pre ++ t.take 2).length = pre.length + 2 := by simp; omega
  have h19 := F19_eq s1 hl x3 x4 x5 l ns
  rw [n1] at h19
  unfold F24 here
  rw [wrap64 (by omega) (by omega), show (pre.length : Int) + 2 = ((pre.length + 2 : Nat) : Int) by omega, h19, Option.bind_some]
  generalize blankN (t.drop 2) = b at *
  have s2 : s = (pre ++ t.take (2 + b)) ++ t.drop (2 + b) := by rw [hs, List.append_assoc, List.take_append_drop]
  have n2 : (pre ++ t.take (2 + b)).length = pre.length + (2 + b) := by simp; omega
  have h36 := F36_eq s2 hl x3 x4 x5 l ns
  rw [n2] at h36
  rw [show pre.length + 2 + b = pre.length + (2 + b) by omega]
  cases hwd : wd (t.drop (2 + b)).length (t.drop (2 + b)) with
  | error e =>
    rw [hwd] at h36
    obtain ⟨i, hi⟩ := h36
    rw [hi, Option.bind_some]
    exact ⟨_, _, _, _, rfl⟩
  | ok y =>
    rcases y with ⟨x, q, m⟩
    rw [hwd] at h36
    have h36' : F36x1 s ((pre.length + (2 + b) : Nat) : Int) x3 x4 x5 l ns = some ([] ++ x, [] ++ q, true, ((pre.length + (2 + b) + m : Nat) : Int), x4, x5) := h36
    rw [h36', Option.bind_some]
    dsimp only
    rw [Bool.not_true, cond_f, List.nil_append, List.nil_append]
    by_cases hm : m = 0
    · subst hm
      rw [decide_eq_true (p := (((pre.length + (2 + b) + 0 : Nat) : Int) = ((pre.length + (2 + b) : Nat) : Int))) rfl, cond_t, decide_eq_true (p := 0 = 0) rfl, cond_t]
      exact ⟨_, _, _, _, rfl⟩
    · rw [decide_eq_false (p := (((pre.length + (2 + b) + m : Nat) : Int) = ((pre.length + (2 + b) : Nat) : Int))) (by omega), cond_f, decide_eq_false hm, cond_f, appO, if_pos (by simp; omega), Option.bind_some]
      have h33 := F33_eq ⟨4, (pre.length : Int), x, q⟩ s ((pre.length + (2 + b) + m : Nat) : Int) x3 x4 x5 l (ns ++ [x])
      cases hp : push l ⟨4, (pre.length : Int), x, q⟩ with
      | error e =>
        rw [hp] at h33
        obtain ⟨l', hl'⟩ := h33
        rw [hl']
        exact ⟨_, _, _, _, rfl⟩
      | ok l1 =>
        rw [hp] at h33
        have h33' : F33x1 ⟨4, (pre.length : Int), x, q⟩ s ((pre.length + (2 + b) + m : Nat) : Int) x3 x4 x5 l (ns ++ [x]) = some (true, x4, x5, l1) := h33
        rw [h33']
        show _ = _
        rw [Option.bind_some]
        simp only [Nat.add_assoc]

/-- How many bytes of text a here-document takes, its last line among them. -/
def doc : Nat → Str → Str → Option Nat
  | 0, _, _ => none
  | k + 1, e, u => if u = [] then none else
    if (Lib.cut u [10]).1 = e then some ((Lib.cut u [10]).1.length + bif (Lib.cut u [10]).2.2 then 1 else 0)
    else (doc k e (Lib.cut u [10]).2.1).map fun n => (Lib.cut u [10]).1.length + (bif (Lib.cut u [10]).2.2 then 1 else 0) + n

theorem doc_nil (k : Nat) (e : Str) : doc k e [] = none := by cases k <;> rfl

theorem doc_le : ∀ (k : Nat) (e u : Str) (n : Nat), doc k e u = some n → n ≤ u.length
  | 0, e, u, n, h => by cases h
  | k + 1, e, u, n, h => by
    unfold doc at h
    by_cases hu : u = []
    · rw [if_pos hu] at h; cases h
    · rw [if_neg hu] at h
      rcases firstOf 10 u with hf | ⟨a, b, hf, rfl⟩
      · rw [cut_free hf] at h
        dsimp only at h
        rw [doc_nil] at h
        split at h
        · simp at h; omega
        · cases h
      · rw [cut_at b hf] at h
        dsimp only at h
        split at h
        · simp at h; simp; omega
        · cases hd : doc k e b with
          | none => rw [hd] at h; cases h
          | some m =>
            rw [hd] at h
            have := doc_le k e b m hd
            simp at h
            simp
            omega

def ansD (p : Nat) (w : Option Nat) (r : Option (Str × Int × Int)) : Prop :=
  match w with
  | some n => ∃ x, r = some (x, ((p + n : Nat) : Int), 0)
  | none => r = some ([], 0, 3)

theorem loop15 {s e pre : Str} (hl : s.length ≤ 1000000) : ∀ (k : Nat) (t d : Str) (n : Nat), t.length ≤ k → s = pre ++ d ++ t → t.length < n →
    ansD (pre ++ d).length (doc k e t) (iter (F15_b2 s e (pre.length : Int)) n ((pre ++ d).length : Int)) := by
  have gone : ∀ (n : Nat) (p : Int), 0 < n → (s.length : Int) ≤ p → iter (F15_b2 s e (pre.length : Int)) n p = some ([], 0, 3) := by
    intro n p hn hp
    match n, hn with
    | n + 1, _ =>
      show F15_b2 s _ _ _ _ = _
      rw [F15_b2, decide_eq_false (by omega), cond_f]
  intro k
  induction k with
  | zero =>
    intro t d n ht hs hn
    have ht : t = [] := List.length_eq_zero_iff.1 (by omega)
    subst ht
    exact gone n _ (by omega) (by rw [hs]; simp)
  | succ k ih =>
    intro t d n ht hs hn
    by_cases h0 : t = []
    · subst h0
      rw [doc_nil]
      exact gone n _ (by omega) (by rw [hs]; simp)
    have hpos : 0 < t.length := List.length_pos_iff.2 h0
    have hlen : s.length = (pre ++ d).length + t.length := by rw [hs]; simp; omega
    have hlt : decide (((pre ++ d).length : Int) < (s.length : Int)) = true := decide_eq_true (by omega)
    have hsd : sslice s (pre.length : Int) ((pre ++ d).length : Int) = some d := by
      rw [hs]
      exact sslice_part pre d t
    rw [doc, if_neg h0]
    match n, hn with
    | n + 1, hn =>
      show ansD _ _ (F15_b2 s _ _ _ _)
      rcases firstOf 10 t with hf | ⟨a, b, hf, rfl⟩
      · have hsl : sslice s ((pre ++ d).length : Int) (s.length : Int) = some t := by
          rw [hs]
          exact sslice_end (pre ++ d) t
        rw [F15_b2, hlt, cond_t, scan15 s e _ _ _ hl t (pre ++ d) [] BIG hf (by rw [hs, List.append_nil]) (.inl rfl) (by unfold BIG; omega)]
        have e2 : ((pre ++ d ++ t).length : Int) = (s.length : Int) := by rw [hs]
        rw [e2, hsl, Option.bind_some, hsd, cut_free hf]
        dsimp only
        by_cases he : t = e
        · rw [decide_eq_true he, cond_t, if_pos he, cond_f]
          refine ⟨d, ?_⟩
          have : imin ((s.length : Int) + 1) (s.length : Int) = (((pre ++ d).length + (t.length + 0) : Nat) : Int) := by unfold imin; split <;> omega
          rw [Option.bind_some, this]
        · rw [decide_eq_false he, cond_f, if_neg he, doc_nil]
          exact gone n _ (by omega) (by omega)
      · have hs2 : s = pre ++ (d ++ (a ++ [10])) ++ b := by rw [hs]; simp
        have hta : (a ++ 10 :: b).length = a.length + b.length + 1 := by simp; omega
        rw [F15_b2, hlt, cond_t, scan15 s e _ _ _ hl a (pre ++ d) (10 :: b) BIG hf (by rw [hs]; simp) (.inr ⟨b, rfl⟩) (by unfold BIG; omega)]
        have hsa : sslice s ((pre ++ d).length : Int) ((pre ++ d ++ a).length : Int) = some a := by
          have : s = (pre ++ d) ++ a ++ 10 :: b := by rw [hs]; simp
          rw [this]
          exact sslice_part (pre ++ d) a (10 :: b)
        have e2 : ((pre ++ d ++ a).length : Int) = ((pre ++ d).length : Int) + (a.length : Int) := by simp; omega
        rw [hsa, Option.bind_some, hsd, cut_at b hf]
        dsimp only
        by_cases he : a = e
        · rw [decide_eq_true he, cond_t, if_pos he, cond_t, e2]
          refine ⟨d, ?_⟩
          have : imin (((pre ++ d).length : Int) + (a.length : Int) + 1) (s.length : Int) = (((pre ++ d).length + (a.length + 1) : Nat) : Int) := by unfold imin; split <;> omega
          rw [Option.bind_some, this]
        · rw [decide_eq_false he, cond_f, if_neg he, cond_t, e2]
          have h := ih b (d ++ (a ++ [10])) n (by omega) hs2 (by omega)
          have e3 : (pre ++ (d ++ (a ++ [10]))).length = (pre ++ d).length + (a.length + 1) := by simp; omega
          rw [e3, show (((pre ++ d).length + (a.length + 1) : Nat) : Int) = ((pre ++ d).length : Int) + (a.length : Int) + 1 by omega] at h
          cases hd : doc k e b with
          | none => rw [hd] at h; exact h
          | some m =>
            rw [hd] at h
            obtain ⟨x, hx⟩ := h
            refine ⟨x, ?_⟩
            rw [hx]
            simp only [Nat.add_assoc]

theorem F14_eq {s pre t : Str} (hs : s = pre ++ t) (hl : s.length ≤ 1000000) (e : Str) : ansD pre.length (doc t.length e t) (F14 s (pre.length : Int) e) := by
  have hlen : s.length = pre.length + t.length := by rw [hs]; simp
  obtain ⟨r, h1, h2⟩ := heres (s := s) (e := e) (at_ := (pre.length : Int)) hl
  rw [h1, ← h2]
  unfold F15
  have hr : (decide ((pre.length : Int) < 0) || decide ((s.length : Int) < (pre.length : Int))) = false := by
    rw [decide_eq_false (by omega), decide_eq_false (by omega)]
    rfl
  rw [hr, cond_f]
  have h := loop15 (s := s) (e := e) (pre := pre) hl t.length t [] BIG (Nat.le_refl _) (by rw [hs, List.append_nil]) (by unfold BIG; omega)
  rw [List.append_nil] at h
  exact h

/-- The here-documents behind an end of a line: how many bytes they take; or where one isn't closed. -/
def docs : List Str → Str → Except (Nat × Int) Nat
  | [], _ => .ok 0
  | w :: ws, u => match doc u.length w u with
    | none => .error (0, 3)
    | some n => match docs ws (u.drop n) with
      | .error (o, c) => .error (n + o, c)
      | .ok m => .ok (n + m)

theorem docs_le : ∀ (ws : List Str) (u : Str) (m : Nat), docs ws u = .ok m → m ≤ u.length
  | [], u, m, h => by simp only [docs, Except.ok.injEq] at h; omega
  | w :: ws, u, m, h => by
    unfold docs at h
    cases hd : doc u.length w u with
    | none => rw [hd] at h; cases h
    | some n =>
      rw [hd] at h
      have h1 := doc_le _ _ _ _ hd
      dsimp only at h
      cases hr : docs ws (u.drop n) with
      | error e => rcases e with ⟨o, c⟩; rw [hr] at h; cases h
      | ok k =>
        rw [hr] at h
        have h2 := docs_le ws (u.drop n) k hr
        simp at h2
        injection h with h
        omega

def ans22 (x4 x5 : Int) (l : List Token) (p : Nat) (w : Except (Nat × Int) Nat) (r : Option (Bool × Bool × Int × Int × Int × List Token)) : Prop :=
  match w with
  | .ok m => r = some (true, true, ((p + m : Nat) : Int), x4, x5, l)
  | .error (o, c) => ∃ b j, r = some (false, b, j, ((p + o : Nat) : Int), c, l)

def G22 (s : Str) (x3 x15 x16 : Int) (o17 : List Token) (l7 : List Str) : Str → Int → (Int → Option (Bool × Bool × Int × Int × Int × List Token)) → Int → Option (Bool × Bool × Int × Int × Int × List Token) := fun w28 _ n x23 =>
  (F14 s x23 w28).bind fun (r31, r32, r33) =>
    (bif !decide (r33 = 0) then
      (F34x2 x23 r33 s x23 x3 x15 x16 o17 l7).bind fun (r37, x38, x39) => some (false, r37, x23, x38, x39, o17)
    else n r32)

theorem loop22 {s : Str} (hl : s.length ≤ 1000000) (x3 x15 x16 : Int) (o17 : List Token) (l7 : List Str) : ∀ (ws : List Str) (i : Int) (pre u : Str), s = pre ++ u →
    ans22 x15 x16 o17 pre.length (docs ws u) (loopS (G22 s x3 x15 x16 o17 l7) (fun x23 => some (true, true, x23, x15, x16, o17)) ws i (pre.length : Int))
  | [], i, pre, u, hs => rfl
  | w :: ws, i, pre, u, hs => by
    unfold docs
    rw [loopS, G22]
    have h14 := F14_eq hs hl w
    cases hd : doc u.length w u with
    | none =>
      rw [hd] at h14
      have h14' : F14 s (pre.length : Int) w = some ([], 0, 3) := h14
      rw [h14']
      exact ⟨_, _, rfl⟩
    | some n =>
      rw [hd] at h14
      obtain ⟨x, hx⟩ := h14
      have h1 := doc_le _ _ _ _ hd
      rw [hx, Option.bind_some]
      dsimp only
      rw [decide_eq_true (p := (0 : Int) = 0) rfl, Bool.not_true, cond_f]
      have h := loop22 hl x3 x15 x16 o17 l7 ws (i + 1) (pre ++ u.take n) (u.drop n) (by rw [hs, List.append_assoc, List.take_append_drop])
      have e1 : (pre ++ u.take n).length = pre.length + n := by simp; omega
      rw [e1] at h
      cases hr : docs ws (u.drop n) with
      | error e =>
        rcases e with ⟨o, c⟩
        rw [hr] at h
        obtain ⟨b, j, hj⟩ := h
        refine ⟨b, j, ?_⟩
        rw [hj]
        simp only [Nat.add_assoc]
      | ok m =>
        rw [hr] at h
        show _ = _
        refine Eq.trans h ?_
        simp only [Nat.add_assoc]

/-- The end of a line, and the here-documents behind it. -/
def nls (p : Nat) (t : Str) (l : List Token) (ns : List Str) : Except (Int × Int) (List Token × Nat) :=
  match push l ⟨3, p, [10], []⟩ with
  | .error e => .error e
  | .ok l1 => match docs ns (t.drop 1) with
    | .error (o, c) => .error (((p + 1 + o : Nat) : Int), c)
    | .ok m => .ok (l1, 1 + m)

def ansE (x4 x5 : Int) (p : Nat) (w : Except (Int × Int) (List Token × Nat)) (r : Option (Bool × Bool × Int × Int × Int × List Token)) : Prop :=
  match w with
  | .ok (l, m) => r = some (true, true, ((p + m : Nat) : Int), x4, x5, l)
  | .error (q, c) => ∃ b j l, r = some (false, b, j, q, c, l)

theorem F22_eq {s pre t : Str} (hs : s = pre ++ t) (h1 : 1 ≤ t.length) (hl : s.length ≤ 1000000) (x3 x4 x5 : Int) (l : List Token) (ns : List Str) (hns : ns.length ≤ 1000000) :
    ansE x4 x5 pre.length (nls pre.length t l ns) (F22x1 s (pre.length : Int) x3 x4 x5 l ns) := by
  have hlen : s.length = pre.length + t.length := by rw [hs]; simp
  unfold F22x1 nls
  have h33 := F33_eq ⟨3, (pre.length : Int), [10], []⟩ s (pre.length : Int) x3 x4 x5 l ns
  cases hp : push l ⟨3, (pre.length : Int), [10], []⟩ with
  | error e =>
    rw [hp] at h33
    obtain ⟨l', hl'⟩ := h33
    rw [hl']
    exact ⟨_, _, _, rfl⟩
  | ok l1 =>
    rw [hp] at h33
    have h33' : F33x1 ⟨3, (pre.length : Int), [10], []⟩ s (pre.length : Int) x3 x4 x5 l ns = some (true, x4, x5, l1) := h33
    rw [h33', Option.bind_some]
    dsimp only
    rw [Bool.not_true, cond_f, wrap64 (by omega) (by omega)]
    have hit := iter_rangeS (body := F22x1_b1 ns s x3 x4 x5 l1) ns (G22 s x3 x4 x5 l1 ns) (fun x23 => some (true, true, x23, x4, x5, l1)) (fun again i x => rfl) (by omega) ((pre.length : Int) + 1)
    rw [hit]
    have h := loop22 hl x3 x4 x5 l1 ns ns 0 (pre ++ t.take 1) (t.drop 1) (by rw [hs, List.append_assoc, List.take_append_drop])
    have e1 : (pre ++ t.take 1).length = pre.length + 1 := by simp; omega
    rw [e1, show ((pre.length + 1 : Nat) : Int) = (pre.length : Int) + 1 by omega] at h
    cases hr : docs ns (t.drop 1) with
    | error e =>
      rcases e with ⟨o, c⟩
      rw [hr] at h
      obtain ⟨b, j, hj⟩ := h
      exact ⟨b, j, _, hj⟩
    | ok m =>
      rw [hr] at h
      show _ = _
      refine Eq.trans h ?_
      simp only [Nat.add_assoc]

/-! ### Steps take something, their faults have numbers, and their lists stay short -/

theorem push_ok {l l' : List Token} {u : Token} (h : push l u = .ok l') : l' = l ++ [u] ∧ l'.length ≤ 1024 := by
  unfold push at h
  split at h
  · cases h
  · injection h with h
    subst h
    exact ⟨rfl, by simp; omega⟩

theorem push_err {l : List Token} {u : Token} {q c : Int} (h : push l u = .error (q, c)) : c = 4 := by
  unfold push at h
  split at h
  · injection h with h
    injection h with h1 h2
    exact h2.symm
  · cases h

theorem hat_ok {l l' : List Token} {u : Token} {tc : Bool} (h : hat l u tc = .ok l') : l'.length ≤ 1024 := by
  unfold hat at h
  cases ht : hats u tc with
  | false => rw [ht, cond_f] at h; exact (push_ok h).2
  | true =>
    rw [ht, cond_t] at h
    cases hp : push l ⟨2, u.at_, [94], []⟩ with
    | error e => rw [hp] at h; cases h
    | ok l1 => rw [hp] at h; exact (push_ok h).2

theorem hat_err {l : List Token} {u : Token} {tc : Bool} {q c : Int} (h : hat l u tc = .error (q, c)) : c = 4 := by
  unfold hat at h
  cases ht : hats u tc with
  | false => rw [ht, cond_f] at h; exact push_err h
  | true =>
    rw [ht, cond_t] at h
    cases hp : push l ⟨2, u.at_, [94], []⟩ with
    | error e => rw [hp] at h; injection h with h; subst h; exact push_err hp
    | ok l1 => rw [hp] at h; exact push_err h

theorem name_ok {p : Nat} {t : Str} {l l' : List Token} (h : name p t l = .ok l') : l'.length ≤ 1024 := by
  unfold name at h
  split at h
  · cases h
  · exact (push_ok h).2

theorem name_err {p : Nat} {t : Str} {l : List Token} {q c : Int} (h : name p t l = .error (q, c)) : c ≠ 0 := by
  unfold name at h
  split at h
  · injection h with h
    injection h with h1 h2
    subst h2
    decide
  · rw [push_err h]
    decide

theorem docs_err : ∀ (ws : List Str) (u : Str) (o : Nat) (c : Int), docs ws u = .error (o, c) → c = 3
  | [], u, o, c, h => by cases h
  | w :: ws, u, o, c, h => by
    unfold docs at h
    cases hd : doc u.length w u with
    | none =>
      rw [hd] at h
      injection h with h
      injection h with h1 h2
      exact h2.symm
    | some n =>
      rw [hd] at h
      dsimp only at h
      cases hr : docs ws (u.drop n) with
      | error e =>
        rcases e with ⟨o', c'⟩
        rw [hr] at h
        have := docs_err ws (u.drop n) o' c' hr
        injection h with h
        injection h with h1 h2
        rw [← h2]
        exact this
      | ok k => rw [hr] at h; cases h

theorem nls_ok {p : Nat} {t : Str} {l l' : List Token} {ns : List Str} {m : Nat} (ht : 1 ≤ t.length) (h : nls p t l ns = .ok (l', m)) : l'.length ≤ 1024 ∧ 1 ≤ m ∧ m ≤ t.length := by
  unfold nls at h
  cases hp : push l ⟨3, p, [10], []⟩ with
  | error e => rw [hp] at h; cases h
  | ok l1 =>
    rw [hp] at h
    dsimp only at h
    cases hd : docs ns (t.drop 1) with
    | error e => rcases e with ⟨o, c⟩; rw [hd] at h; cases h
    | ok k =>
      rw [hd] at h
      injection h with h
      injection h with h1 h2
      subst h1
      have h3 := docs_le _ _ _ hd
      simp at h3
      exact ⟨(push_ok hp).2, by omega, by omega⟩

theorem nls_err {p : Nat} {t : Str} {l : List Token} {ns : List Str} {q c : Int} (h : nls p t l ns = .error (q, c)) : c ≠ 0 := by
  unfold nls at h
  cases hp : push l ⟨3, p, [10], []⟩ with
  | error e =>
    rcases e with ⟨q', c'⟩
    rw [hp] at h
    injection h with h
    injection h with h1 h2
    rw [← h2, push_err hp]
    decide
  | ok l1 =>
    rw [hp] at h
    dsimp only at h
    cases hd : docs ns (t.drop 1) with
    | error e =>
      rcases e with ⟨o, c'⟩
      rw [hd] at h
      injection h with h
      injection h with h1 h2
      rw [← h2, docs_err _ _ _ _ hd]
      decide
    | ok k => rw [hd] at h; cases h

theorem wd_len : ∀ (k : Nat) (t x q : Str) (m : Nat), wd k t = .ok (x, q, m) → m ≤ t.length ∧ x.length = q.length ∧ x.length ≤ m
  | 0, t, x, q, m, h => by
    unfold wd at h
    injection h with h
    injection h with h1 h2
    injection h2 with h2 h3
    subst h1; subst h2; subst h3
    simp
  | k + 1, [], x, q, m, h => by
    unfold wd at h
    injection h with h
    injection h with h1 h2
    injection h2 with h2 h3
    subst h1; subst h2; subst h3
    simp
  | k + 1, c :: r, x, q, m, h => by
    rw [wd] at h
    cases ho : ord (c :: r) with
    | true =>
      rw [ho, cond_t] at h
      cases hw : wd k r with
      | error e => rw [hw] at h; cases h
      | ok y =>
        rcases y with ⟨x', q', m'⟩
        rw [hw] at h
        have := wd_len k r x' q' m' hw
        injection h with h
        injection h with h1 h2
        injection h2 with h2 h3
        subst h1; subst h2; subst h3
        simp
        omega
    | false =>
      rw [ho, cond_f] at h
      split at h
      · cases hqd : qd r with
        | none => rw [hqd] at h; cases h
        | some y =>
          rcases y with ⟨y, n⟩
          rw [hqd] at h
          have g := qd_len r.length r y n (Nat.le_refl _) hqd
          dsimp only at h
          cases hw : wd k (r.drop n) with
          | error e => rw [hw] at h; cases h
          | ok z =>
            rcases z with ⟨x', q', m'⟩
            rw [hw] at h
            have := wd_len k (r.drop n) x' q' m' hw
            injection h with h
            injection h with h1 h2
            injection h2 with h2 h3
            subst h1; subst h2; subst h3
            simp at this ⊢
            omega
      · injection h with h
        injection h with h1 h2
        injection h2 with h2 h3
        subst h1; subst h2; subst h3
        simp

theorem here_ok {p : Nat} {t : Str} {l l' : List Token} {ns ns' : List Str} {m : Nat} (ht : 2 ≤ t.length) (h : here p t l ns = .ok (l', ns', m)) : l'.length ≤ 1024 ∧ l'.length = l.length + 1 ∧ 1 ≤ m ∧ m ≤ t.length ∧ ns'.length = ns.length + 1 := by
  have hb := blankN_le (t.drop 2).length (t.drop 2) (Nat.le_refl _)
  unfold here at h
  generalize blankN (t.drop 2) = b at *
  cases hw : wd (t.drop (2 + b)).length (t.drop (2 + b)) with
  | error e => rw [hw] at h; cases h
  | ok y =>
    rcases y with ⟨x, q, n⟩
    rw [hw] at h
    have g := wd_len _ _ _ _ _ hw
    dsimp only at h
    by_cases hn : n = 0
    · rw [decide_eq_true hn, cond_t] at h; cases h
    · rw [decide_eq_false hn, cond_f] at h
      cases hp : push l ⟨4, p, x, q⟩ with
      | error e => rw [hp] at h; cases h
      | ok l1 =>
        rw [hp] at h
        injection h with h
        injection h with h1 h2
        injection h2 with h2 h3
        subst h1; subst h2; subst h3
        obtain ⟨rfl, k2⟩ := push_ok hp
        simp at g hb k2 ⊢
        omega

theorem here_err {p : Nat} {t : Str} {l : List Token} {ns : List Str} {q c : Int} (h : here p t l ns = .error (q, c)) : c ≠ 0 := by
  unfold here at h
  cases hw : wd (t.drop (2 + blankN (t.drop 2))).length (t.drop (2 + blankN (t.drop 2))) with
  | error e =>
    rw [hw] at h
    injection h with h
    injection h with h1 h2
    rw [← h2]
    decide
  | ok y =>
    rcases y with ⟨x, q', n⟩
    rw [hw] at h
    dsimp only at h
    by_cases hn : n = 0
    · rw [decide_eq_true hn, cond_t] at h
      injection h with h
      injection h with h1 h2
      rw [← h2]
      decide
    · rw [decide_eq_false hn, cond_f] at h
      cases hp : push l ⟨4, p, x, q'⟩ with
      | error e =>
        rcases e with ⟨q2, c2⟩
        rw [hp] at h
        injection h with h
        injection h with h1 h2
        rw [← h2, push_err hp]
        decide
      | ok l1 => rw [hp] at h; cases h

/-- A byte that is no symbol and no blank begins a word. -/
theorem starts : ∀ c : UInt8, START.contains c = false → c ≠ 124 → c ≠ 62 → c ≠ 60 → c ≠ 32 → c ≠ 9 → c ≠ 10 → c ≠ 39 → SYMI.contains c = false := by
  intro c
  have : ∀ k : Fin 256, (START.contains (UInt8.ofNat k.val) || ([124, 62, 60, 32, 9, 10, 39] : Str).contains (UInt8.ofNat k.val) || !SYMI.contains (UInt8.ofNat k.val)) = true := by decide +kernel
  have h := this ⟨c.toNat, UInt8.toNat_lt c⟩
  rw [UInt8.ofNat_toNat] at h
  intro h1 n1 n2 n3 n4 n5 n6 n7
  have h2 : ([124, 62, 60, 32, 9, 10, 39] : Str).contains c = false := by
    rw [Bool.eq_false_iff]
    intro e
    simp at e
    rcases e with e | e | e | e | e | e | e
    · exact n1 e
    · exact n2 e
    · exact n3 e
    · exact n4 e
    · exact n5 e
    · exact n6 e
    · exact n7 e
  rw [h1, h2] at h
  simpa using h

theorem symB_nil : ∀ (ws : List Str) (t : Str), (∀ w ∈ ws, w ≠ []) → symB ws t = .ok [] → ∀ w ∈ ws, w.isPrefixOf t = false
  | [], t, _, _ => by simp
  | v :: ws, t, hne, h => by
    rw [symB] at h
    cases hv : v.isPrefixOf t with
    | false =>
      rw [hv, cond_f] at h
      have := symB_nil ws t (fun w hw => hne w (List.mem_cons_of_mem _ hw)) h
      intro w hw
      rcases List.mem_cons.1 hw with rfl | hw
      · exact hv
      · exact this w hw
    | true =>
      exfalso
      have hvn := hne v (List.mem_cons_self ..)
      rw [hv, cond_t] at h
      cases hb : ([91] : Str).isPrefixOf (t.drop v.length) with
      | false => rw [hb, cond_f] at h; injection h with h; exact hvn h
      | true =>
        rw [hb, cond_t] at h
        split at h
        · cases h
        · injection h with h
          have hl := (List.isPrefixOf_iff_prefix.1 hv).length_le
          have := congrArg List.length h
          have hvp : 0 < v.length := List.length_pos_iff.2 hvn
          rw [List.length_take] at this
          simp only [List.length_nil] at this
          omega

theorem symA_nil : ∀ (ws : List Str) (c : UInt8) (r : Str), (∀ w ∈ ws, w ≠ []) → symA ws (c :: r) = .ok [] → START.contains c = false ∧ symB [[62, 62], [62], [60], [124]] (c :: r) = .ok []
  | [], c, r, _, h => by
    rw [symA] at h
    cases hc : START.contains c with
    | true => rw [hc, cond_t] at h; injection h with h; cases h
    | false => rw [hc, cond_f] at h; exact ⟨rfl, h⟩
  | w :: ws, c, r, hne, h => by
    rw [symA] at h
    cases hv : w.isPrefixOf (c :: r) with
    | false => rw [hv, cond_f] at h; exact symA_nil ws c r (fun w hw => hne w (List.mem_cons_of_mem _ hw)) h
    | true =>
      rw [hv, cond_t] at h
      injection h with h
      exact absurd h (hne w (List.mem_cons_self ..))

theorem word_pos {c : UInt8} {r x q : Str} {k m : Nat} (hb : blankN (c :: r) = 0) (h10 : c ≠ 10) (hs : sym (c :: r) = .ok []) (h : wd (k + 1) (c :: r) = .ok (x, q, m)) : 1 ≤ m := by
  rw [wd] at h
  cases ho : ord (c :: r) with
  | true =>
    rw [ho, cond_t] at h
    cases hw : wd k r with
    | error e => rw [hw] at h; cases h
    | ok y =>
      rcases y with ⟨x', q', m'⟩
      rw [hw] at h
      injection h with h
      injection h with h1 h2
      injection h2 with h2 h3
      omega
  | false =>
    rw [ho, cond_f] at h
    by_cases hc : c = 39
    · rw [if_pos hc] at h
      cases hqd : qd r with
      | none => rw [hqd] at h; cases h
      | some y =>
        rcases y with ⟨y, n⟩
        rw [hqd] at h
        dsimp only at h
        cases hw : wd k (r.drop n) with
        | error e => rw [hw] at h; cases h
        | ok z =>
          rcases z with ⟨x', q', m'⟩
          rw [hw] at h
          injection h with h
          injection h with h1 h2
          injection h2 with h2 h3
          omega
    · exfalso
      obtain ⟨h1, h2⟩ := symA_nil _ c r (by simp) hs
      have h3 := symB_nil _ _ (by simp) h2
      have hp : ([] : Str).isPrefixOf r = true := by cases r <;> rfl
      have p62 := h3 [62] (by simp)
      have p60 := h3 [60] (by simp)
      have p124 := h3 [124] (by simp)
      rw [pre_cons, hp, Bool.and_true] at p62 p60 p124
      have hbl : c ≠ 32 ∧ c ≠ 9 ∧ ([92, 10] : Str).isPrefixOf (c :: r) = false := by
        match r, hb with
        | [], hb =>
          unfold blankN at hb
          split at hb
          · cases hb
          · rename_i hn
            exact ⟨fun e => hn (.inl e), fun e => hn (.inr e), by rw [pre_cons, pre_nil, Bool.and_false]⟩
        | d :: r, hb =>
          unfold blankN at hb
          split at hb
          · omega
          · rename_i hn
            split at hb
            · omega
            · rename_i hn2
              refine ⟨fun e => hn (.inl e), fun e => hn (.inr e), ?_⟩
              have hp : ([] : Str).isPrefixOf r = true := by cases r <;> rfl
              rw [pre_cons, pre_cons, hp, Bool.and_true, Bool.eq_false_iff]
              intro e
              simp at e
              exact hn2 e
      have := starts c h1 (of_decide_eq_false p124) (of_decide_eq_false p62) (of_decide_eq_false p60) hbl.1 hbl.2.1 h10 hc
      have ho' : ord (c :: r) = (!SYMI.contains c && !([92, 10] : Str).isPrefixOf (c :: r)) := rfl
      rw [ho', this, hbl.2.2] at ho
      cases ho

theorem tok_ok {p : Nat} {c : UInt8} {r : Str} {l l' : List Token} {tc : Bool} {m : Nat} (hb : blankN (c :: r) = 0) (h10 : c ≠ 10) (h : tok p (c :: r) l tc = .ok (l', m)) : l'.length ≤ 1024 ∧ 1 ≤ m ∧ m ≤ (c :: r).length := by
  unfold tok at h
  cases hs : sym (c :: r) with
  | error e => rw [hs] at h; cases h
  | ok w =>
    rw [hs] at h
    match w, hs, h with
    | [], hs, h =>
      dsimp only at h
      cases hw : wd (c :: r).length (c :: r) with
      | error e => rw [hw] at h; cases h
      | ok y =>
        rcases y with ⟨x, q, n⟩
        rw [hw] at h
        dsimp only at h
        cases hh : hat l ⟨1, p, x, q⟩ tc with
        | error e => rw [hh] at h; cases h
        | ok l1 =>
          rw [hh] at h
          injection h with h
          injection h with h1 h2
          subst h1; subst h2
          exact ⟨hat_ok hh, word_pos hb h10 hs hw, (wd_len _ _ _ _ _ hw).1⟩
    | d :: w, hs, h =>
      dsimp only at h
      have hpl := (sym_pre hs).length_le
      cases hh : hat l ⟨2, p, d :: w, []⟩ tc with
      | error e => rw [hh] at h; cases h
      | ok l1 =>
        rw [hh] at h
        dsimp only at h
        cases hd : decide (d :: w = [36]) || decide (d :: w = [36, 35]) with
        | false =>
          rw [hd, cond_f] at h
          injection h with h
          injection h with h1 h2
          subst h1; subst h2
          exact ⟨hat_ok hh, by simp, hpl⟩
        | true =>
          rw [hd, cond_t] at h
          cases hn : name (p + (d :: w).length) ((c :: r).drop (d :: w).length) l1 with
          | error e => rw [hn] at h; cases h
          | ok l2 =>
            rw [hn] at h
            injection h with h
            injection h with h1 h2
            subst h1; subst h2
            have := nameN_le ((c :: r).drop (d :: w).length)
            rw [List.length_drop] at this
            exact ⟨name_ok hn, by simp; omega, by omega⟩

theorem tok_err {p : Nat} {t : Str} {l : List Token} {tc : Bool} {q c : Int} (h : tok p t l tc = .error (q, c)) : c ≠ 0 := by
  unfold tok at h
  cases hs : sym t with
  | error e =>
    rw [hs] at h
    injection h with h
    injection h with h1 h2
    rw [← h2]
    decide
  | ok w =>
    rw [hs] at h
    match w, hs, h with
    | [], hs, h =>
      dsimp only at h
      cases hw : wd t.length t with
      | error e =>
        rw [hw] at h
        injection h with h
        injection h with h1 h2
        rw [← h2]
        decide
      | ok y =>
        rcases y with ⟨x, q', n⟩
        rw [hw] at h
        dsimp only at h
        cases hh : hat l ⟨1, p, x, q'⟩ tc with
        | error e =>
          rcases e with ⟨q2, c2⟩
          rw [hh] at h
          injection h with h
          injection h with h1 h2
          rw [← h2, hat_err hh]
          decide
        | ok l1 => rw [hh] at h; cases h
    | d :: w, hs, h =>
      dsimp only at h
      cases hh : hat l ⟨2, p, d :: w, []⟩ tc with
      | error e =>
        rcases e with ⟨q2, c2⟩
        rw [hh] at h
        injection h with h
        injection h with h1 h2
        rw [← h2, hat_err hh]
        decide
      | ok l1 =>
        rw [hh] at h
        dsimp only at h
        cases hd : decide (d :: w = [36]) || decide (d :: w = [36, 35]) with
        | false => rw [hd, cond_f] at h; cases h
        | true =>
          rw [hd, cond_t] at h
          cases hn : name (p + (d :: w).length) (t.drop (d :: w).length) l1 with
          | error e =>
            rcases e with ⟨q2, c2⟩
            rw [hn] at h
            injection h with h
            injection h with h1 h2
            rw [← h2]
            exact name_err hn
          | ok l2 => rw [hn] at h; cases h

theorem blankN_drop : ∀ (k : Nat) (t : Str), t.length ≤ k → blankN (t.drop (blankN t)) = 0
  | _, [], _ => rfl
  | _, [c], _ => by
    by_cases h : c = 32 ∨ c = 9
    · have : blankN [c] = 1 := by unfold blankN; rw [if_pos h]
      rw [this]
      rfl
    · have : blankN [c] = 0 := by unfold blankN; rw [if_neg h]
      rw [this, List.drop_zero, this]
  | 0, c :: d :: r, h => by simp at h
  | k + 1, c :: d :: r, h => by
    simp only [List.length_cons] at h
    by_cases h1 : c = 32 ∨ c = 9
    · have : blankN (c :: d :: r) = blankN (d :: r) + 1 := by rw [blankN, if_pos h1, Nat.add_comm]
      rw [this, List.drop_succ_cons]
      exact blankN_drop k (d :: r) (by simp; omega)
    · by_cases h2 : c = 92 ∧ d = 10
      · have : blankN (c :: d :: r) = blankN r + 1 + 1 := by rw [blankN, if_neg h1, if_pos h2]; omega
        rw [this, List.drop_succ_cons, List.drop_succ_cons]
        exact blankN_drop k r (by omega)
      · have : blankN (c :: d :: r) = 0 := by rw [blankN, if_neg h1, if_neg h2]
        rw [this, List.drop_zero, this]

/-- How many bytes a comment takes. -/
def cmt (t : Str) : Nat := if 0 ≤ Lib.indexByte t 10 then (Lib.indexByte t 10).toNat else t.length

theorem cmt_free {t : Str} (h : (10 : UInt8) ∉ t) : cmt t = t.length := by
  unfold cmt
  rw [indexByte_free 10 t h, if_neg (by omega)]

theorem cmt_at {a : Str} (b : Str) (h : (10 : UInt8) ∉ a) : cmt (a ++ 10 :: b) = a.length := by
  unfold cmt
  rw [indexByte_at 10 b a h, if_pos (by omega), Int.toNat_natCast]

/-- WHAT THE SCANNER COMPUTES, from the place p on, where t stands; k: more than the bytes of t. -/
def lex : Nat → Nat → Str → List Token → List Str → Except (Int × Int) (List Token)
  | 0, _, _, _, _ => .error (0, 1)
  | k + 1, p, t, l, ns =>
    match t.drop (blankN t) with
    | [] => bif decide (0 < ns.length) then .error (((p + blankN t : Nat) : Int), 3) else .ok l
    | c :: r =>
      bif decide (c = 35) then lex k (p + blankN t + cmt (c :: r)) ((c :: r).drop (cmt (c :: r))) l ns
      else bif decide (c = 10) then (match nls (p + blankN t) (c :: r) l ns with
        | .error e => .error e
        | .ok (l1, m) => lex k (p + blankN t + m) ((c :: r).drop m) l1 [])
      else bif ([60, 60] : Str).isPrefixOf (c :: r) then (match here (p + blankN t) (c :: r) l ns with
        | .error e => .error e
        | .ok (l1, ns1, m) => lex k (p + blankN t + m) ((c :: r).drop m) l1 ns1)
      else (match tok (p + blankN t) (c :: r) l (lastWord l && decide (blankN t = 0)) with
        | .error e => .error e
        | .ok (l1, m) => lex k (p + blankN t + m) ((c :: r).drop m) l1 ns)

def ans10 (w : Except (Int × Int) (List Token)) (r : Option (List Token × Int × Int)) : Prop :=
  match w with
  | .ok l => r = some (l, 0, 0)
  | .error (q, c) => r = some ([], q, c) ∧ c ≠ 0

theorem halt10 (s : Str) (n : Nat) (x6 x7 q c : Int) (l : List Token) (ns : List Str) (hn : 0 < n) (hc : c ≠ 0) : iter (F10_b1 s) n (x6, x7, q, c, l, ns) = some ([], q, c) := by
  match n, hn with
  | n + 1, _ =>
    show F10_b1 s _ _ = _
    rw [F10_b1, decide_eq_false hc, cond_f]

theorem loop10 {s : Str} (hl : s.length ≤ 100000) : ∀ (k : Nat) (t pre : Str) (n : Nat) (x7 x8 : Int) (l : List Token) (ns : List Str), t.length < k → s = pre ++ t → t.length + 1 < n → l.length ≤ 1024 → ns.length + t.length ≤ 1000000 →
    ans10 (lex k pre.length t l ns) (iter (F10_b1 s) n ((pre.length : Int), x7, x8, 0, l, ns)) := by
  intro k
  induction k with
  | zero => intro t pre n x7 x8 l ns hk; omega
  | succ k ih =>
    intro t pre n x7 x8 l ns hk hs hn hll hns
    match n, hn with
    | n + 1, hn =>
      have hlen : s.length = pre.length + t.length := by rw [hs]; simp
      have hb := blankN_le t.length t (Nat.le_refl _)
      have hz := blankN_drop t.length t (Nat.le_refl _)
      have h19 := F19_eq hs (by omega) (pre.length : Int) x8 0 l ns
      have s2 : s = (pre ++ t.take (blankN t)) ++ t.drop (blankN t) := by rw [hs, List.append_assoc, List.take_append_drop]
      have n2 : (pre ++ t.take (blankN t)).length = pre.length + blankN t := by simp; omega
      have hdl : (t.drop (blankN t)).length = t.length - blankN t := by simp
      have h20 := F20_eq s2 (pre.length : Int) x8 0 l ns
      rw [n2] at h20
      rw [lex]
      show ans10 _ (F10_b1 s _ _)
      rw [F10_b1, decide_eq_true (p := (0 : Int) = 0) rfl, cond_t, h19, Option.bind_some, h20, Option.bind_some]
      generalize blankN t = b at *
      generalize t.drop b = t' at *
      match t', s2, hz, hdl with
      | [], s2, hz, hdl =>
        rw [decide_eq_true (p := ([] : Str) = []) rfl, cond_t]
        dsimp only
        by_cases h0 : 0 < ns.length
        · rw [decide_eq_true h0, cond_t, decide_eq_true (by omega), cond_t]
          have : (s.length : Int) = ((pre.length + b : Nat) : Int) := by simp at hdl; omega
          rw [this]
          exact ⟨rfl, by decide⟩
        · rw [decide_eq_false h0, cond_f, decide_eq_false (by omega), cond_f]
          exact rfl
      | c :: r, s2, hz, hdl =>
        have h0 : sidx (c :: r) 0 = some (B c) := sidx_mid [] c r
        have cut : ∀ m, m ≤ (c :: r).length → s = (pre ++ t.take b ++ (c :: r).take m) ++ (c :: r).drop m ∧ (pre ++ t.take b ++ (c :: r).take m).length = pre.length + b + m := by
          intro m hm
          refine ⟨by rw [List.append_assoc (pre ++ t.take b), List.take_append_drop]; exact s2, ?_⟩
          rw [List.length_append, n2, List.length_take]
          omega
        rw [decide_eq_false (p := c :: r = []) (by simp), cond_f, h0, Option.bind_some, B35, B10]
        dsimp only
        by_cases h35 : c = 35
        · rw [decide_eq_true h35, cond_t, cond_t, L_IndexByte, Option.bind_some, show (10 : Int).toNat.toUInt8 = 10 by decide]
          rcases firstOf 10 (c :: r) with hf | ⟨a, w, hf, ha⟩
          · obtain ⟨c1, c2⟩ := cut (c :: r).length (Nat.le_refl _)
            rw [indexByte_free 10 _ hf, decide_eq_false (by omega), cond_f, cmt_free hf, wrap64 (by omega) (by omega)]
            have h := ih ((c :: r).drop (c :: r).length) _ n (pre.length : Int) x8 l ns (by simp at hdl ⊢; omega) c1 (by simp at hdl ⊢; omega) hll (by simp; omega)
            rw [c2] at h
            exact h
          · have hcl : (c :: r).length = a.length + (w.length + 1) := by rw [ha]; simp
            have hapos : 0 < a.length := by
              match a, ha with
              | [], ha =>
                have : c = 10 := (List.cons.inj ha).1
                rw [h35] at this
                exact absurd this (by decide)
              | d :: a, _ => simp
            obtain ⟨c1, c2⟩ := cut a.length (by omega)
            have hi : Lib.indexByte (c :: r) 10 = (a.length : Int) := by rw [ha]; exact indexByte_at 10 w a hf
            have hc : cmt (c :: r) = a.length := by rw [ha]; exact cmt_at w hf
            rw [hi, decide_eq_true (by omega), cond_t, hc, wrap64 (n := (((pre.length + b : Nat) : Int) + ((c :: r).length : Int))) (by omega) (by omega), wrap64 (n := (a.length : Int) - ((c :: r).length : Int)) (by omega) (by omega), wrap64 (by omega) (by omega)]
            have e1 : ((pre.length + b : Nat) : Int) + ((c :: r).length : Int) + ((a.length : Int) - ((c :: r).length : Int)) = ((pre.length + b + a.length : Nat) : Int) := by omega
            rw [e1]
            have h := ih ((c :: r).drop a.length) _ n (pre.length : Int) x8 l ns (by rw [List.length_drop]; omega) c1 (by rw [List.length_drop]; omega) hll (by rw [List.length_drop]; omega)
            rw [c2] at h
            exact h
        · rw [decide_eq_false h35, cond_f, cond_f]
          by_cases h10 : c = 10
          · rw [decide_eq_true h10, cond_t, cond_t]
            have h22 := F22_eq s2 (by simp) (by omega) (pre.length : Int) x8 0 l ns (by omega)
            rw [n2] at h22
            cases hq : nls (pre.length + b) (c :: r) l ns with
            | error e =>
              rcases e with ⟨q, cc⟩
              rw [hq] at h22
              obtain ⟨bb, j, l', hl'⟩ := h22
              rw [hl', Option.bind_some]
              dsimp only
              rw [cond_f]
              exact ⟨halt10 s n _ _ _ _ _ _ (by omega) (nls_err hq), nls_err hq⟩
            | ok y =>
              rcases y with ⟨l1, m⟩
              rw [hq] at h22
              obtain ⟨g1, g2, g3⟩ := nls_ok (by simp) hq
              have h22' : F22x1 s ((pre.length + b : Nat) : Int) (pre.length : Int) x8 0 l ns = some (true, true, ((pre.length + b + m : Nat) : Int), x8, 0, l1) := h22
              rw [h22', Option.bind_some]
              dsimp only
              rw [cond_t]
              obtain ⟨c1, c2⟩ := cut m g3
              have h := ih ((c :: r).drop m) _ n (pre.length : Int) x8 l1 [] (by rw [List.length_drop]; omega) c1 (by rw [List.length_drop]; omega) g1 (by rw [List.length_drop]; simp only [List.length_nil]; omega)
              rw [c2] at h
              exact h
          · rw [decide_eq_false h10, cond_f, cond_f, F23_eq _ _ (by omega), Option.bind_some]
            cases h60 : ([60, 60] : Str).isPrefixOf (c :: r) with
            | true =>
              rw [cond_t, cond_t]
              have h2l := (List.isPrefixOf_iff_prefix.1 h60).length_le
              have h24 := F24_eq s2 h2l (by omega) (pre.length : Int) x8 0 l ns (by omega)
              rw [n2] at h24
              cases hq : here (pre.length + b) (c :: r) l ns with
              | error e =>
                rcases e with ⟨q, cc⟩
                rw [hq] at h24
                obtain ⟨bb, j, l', ns', hl'⟩ := h24
                rw [hl', Option.bind_some]
                dsimp only
                exact ⟨halt10 s n _ _ _ _ _ _ (by omega) (here_err hq), here_err hq⟩
              | ok y =>
                rcases y with ⟨l1, ns1, m⟩
                rw [hq] at h24
                obtain ⟨g1, _, g2, g3, g4⟩ := here_ok h2l hq
                have h24' : F24 s ((pre.length + b : Nat) : Int) (pre.length : Int) x8 0 l ns = some (true, ((pre.length + b + m : Nat) : Int), x8, 0, l1, ns1) := h24
                rw [h24', Option.bind_some]
                dsimp only
                obtain ⟨c1, c2⟩ := cut m g3
                have h := ih ((c :: r).drop m) _ n (pre.length : Int) x8 l1 ns1 (by rw [List.length_drop]; omega) c1 (by rw [List.length_drop]; omega) g1 (by rw [List.length_drop]; omega)
                rw [c2] at h
                exact h
            | false =>
              rw [cond_f, cond_f]
              have h25 := F25_eq s2 (by omega) (pre.length : Int) x8 0 l ns (by omega)
              rw [n2] at h25
              have hd : decide ((pre.length : Int) = ((pre.length + b : Nat) : Int)) = decide (b = 0) := decide_eq_decide.2 ⟨fun e => by omega, fun e => by omega⟩
              rw [hd] at h25
              cases hq : tok (pre.length + b) (c :: r) l (lastWord l && decide (b = 0)) with
              | error e =>
                rcases e with ⟨q, cc⟩
                rw [hq] at h25
                obtain ⟨j, l', hl'⟩ := h25
                rw [hl', Option.bind_some]
                dsimp only
                exact ⟨halt10 s n _ _ _ _ _ _ (by omega) (tok_err hq), tok_err hq⟩
              | ok y =>
                rcases y with ⟨l1, m⟩
                rw [hq] at h25
                obtain ⟨g1, g2, g3⟩ := tok_ok hz h10 hq
                have h25' : F25 s ((pre.length + b : Nat) : Int) (pre.length : Int) x8 0 l ns = some (true, ((pre.length + b + m : Nat) : Int), x8, 0, l1) := h25
                rw [h25', Option.bind_some]
                dsimp only
                obtain ⟨c1, c2⟩ := cut m g3
                have h := ih ((c :: r).drop m) _ n (pre.length : Int) x8 l1 ns (by rw [List.length_drop]; omega) c1 (by rw [List.length_drop]; omega) g1 (by rw [List.length_drop]; omega)
                rw [c2] at h
                exact h

theorem F10_eq (s : Str) (hl : s.length ≤ 65536) : ans10 (lex (s.length + 1) 0 s [] []) (F10 s) := by
  unfold F10
  rw [decide_eq_false (by omega), cond_f]
  exact loop10 (s := s) (by omega) (s.length + 1) s [] BIG 0 0 [] [] (by omega) rfl (by unfold BIG; omega) (by simp) (by simp; omega)

def sh (d : Nat) (u : Token) : Token := ⟨u.kind_, u.at_ + d, u.text_, u.quoted_⟩
def shs (d : Nat) (l : List Token) : List Token := l.map (sh d)

/-- An answer, moved. -/
def mv {α : Type} (d : Nat) (f : α → α) : Except (Int × Int) α → Except (Int × Int) α
  | .ok a => .ok (f a)
  | .error (q, c) => .error (q + d, c)

theorem push_sh (d : Nat) (l : List Token) (u : Token) : push (shs d l) (sh d u) = mv d (shs d) (push l u) := by
  unfold push
  have e : (shs d l).length = l.length := List.length_map ..
  rw [e]
  split
  · rfl
  · simp [mv, shs]

theorem hat_sh (d : Nat) (l : List Token) (u : Token) (tc : Bool) : hat (shs d l) (sh d u) tc = mv d (shs d) (hat l u tc) := by
  unfold hat
  have e : hats (sh d u) tc = hats u tc := rfl
  rw [e]
  cases hats u tc with
  | false => exact push_sh d l u
  | true =>
    rw [cond_t, cond_t]
    have h := push_sh d l ⟨2, u.at_, [94], []⟩
    have e2 : sh d ⟨2, u.at_, [94], []⟩ = ⟨2, (sh d u).at_, [94], []⟩ := rfl
    rw [e2] at h
    rw [h]
    cases push l ⟨2, u.at_, [94], []⟩ with
    | error e => rcases e with ⟨q, c⟩; rfl
    | ok l1 => exact push_sh d l1 u

theorem name_sh (d p : Nat) (t : Str) (l : List Token) : name (p + d) t (shs d l) = mv d (shs d) (name p t l) := by
  unfold name
  split
  · simp [mv]
  · have h := push_sh d l ⟨1, (p : Int), t.take (nameN t), List.replicate (nameN t) 48⟩
    have e2 : sh d ⟨1, (p : Int), t.take (nameN t), List.replicate (nameN t) 48⟩ = ⟨1, ((p + d : Nat) : Int), t.take (nameN t), List.replicate (nameN t) 48⟩ := by
      unfold sh
      simp
    rw [e2] at h
    exact h

def shp (d : Nat) (x : List Token × Nat) : List Token × Nat := (shs d x.1, x.2)

theorem tok_sh (d p : Nat) (t : Str) (l : List Token) (tc : Bool) : tok (p + d) t (shs d l) tc = mv d (shp d) (tok p t l tc) := by
  unfold tok
  cases hs : sym t with
  | error e =>
    dsimp only [mv]
    congr 2
    simp
    omega
  | ok w =>
    match w with
    | [] =>
      dsimp only
      cases wd t.length t with
      | error e =>
        dsimp only [mv]
        congr 2
        simp
        omega
      | ok y =>
        rcases y with ⟨x, q, m⟩
        dsimp only
        have h := hat_sh d l ⟨1, (p : Int), x, q⟩ tc
        have e2 : sh d ⟨1, (p : Int), x, q⟩ = ⟨1, ((p + d : Nat) : Int), x, q⟩ := by unfold sh; simp
        rw [e2] at h
        rw [h]
        cases hat l ⟨1, (p : Int), x, q⟩ tc with
        | error e => rcases e with ⟨q, c⟩; rfl
        | ok l1 => rfl
    | c :: w =>
      dsimp only
      have h := hat_sh d l ⟨2, (p : Int), c :: w, []⟩ tc
      have e2 : sh d ⟨2, (p : Int), c :: w, []⟩ = ⟨2, ((p + d : Nat) : Int), c :: w, []⟩ := by unfold sh; simp
      rw [e2] at h
      rw [h]
      cases hat l ⟨2, (p : Int), c :: w, []⟩ tc with
      | error e => rcases e with ⟨q, c⟩; rfl
      | ok l1 =>
        dsimp only [mv]
        cases decide (c :: w = [36]) || decide (c :: w = [36, 35]) with
        | false => rfl
        | true =>
          rw [cond_t, cond_t]
          have h := name_sh d (p + (c :: w).length) (t.drop (c :: w).length) l1
          have e3 : p + (c :: w).length + d = p + d + (c :: w).length := by omega
          rw [e3] at h
          rw [h]
          cases name (p + (c :: w).length) (t.drop (c :: w).length) l1 with
          | error e => rcases e with ⟨q, c⟩; rfl
          | ok l2 => rfl

theorem nls_sh (d p : Nat) (t : Str) (l : List Token) (ns : List Str) : nls (p + d) t (shs d l) ns = mv d (shp d) (nls p t l ns) := by
  unfold nls
  have h := push_sh d l ⟨3, (p : Int), [10], []⟩
  have e2 : sh d ⟨3, (p : Int), [10], []⟩ = ⟨3, ((p + d : Nat) : Int), [10], []⟩ := by unfold sh; simp
  rw [e2] at h
  rw [h]
  cases push l ⟨3, (p : Int), [10], []⟩ with
  | error e => rcases e with ⟨q, c⟩; rfl
  | ok l1 =>
    dsimp only [mv]
    cases docs ns (t.drop 1) with
    | error e =>
      rcases e with ⟨o, c⟩
      dsimp only
      congr 2
      simp
      omega
    | ok m => rfl

def sht (d : Nat) (x : List Token × List Str × Nat) : List Token × List Str × Nat := (shs d x.1, x.2.1, x.2.2)

theorem here_sh (d p : Nat) (t : Str) (l : List Token) (ns : List Str) : here (p + d) t (shs d l) ns = mv d (sht d) (here p t l ns) := by
  unfold here
  generalize 2 + blankN (t.drop 2) = b
  cases wd (t.drop b).length (t.drop b) with
  | error e =>
    dsimp only [mv]
    congr 2
    simp
    omega
  | ok y =>
    rcases y with ⟨x, q, m⟩
    dsimp only
    cases decide (m = 0) with
    | true =>
      dsimp only [mv, cond_t]
      congr 2
      simp
      omega
    | false =>
      rw [cond_f, cond_f]
      have h := push_sh d l ⟨4, (p : Int), x, q⟩
      have e2 : sh d ⟨4, (p : Int), x, q⟩ = ⟨4, ((p + d : Nat) : Int), x, q⟩ := by unfold sh; simp
      rw [e2] at h
      rw [h]
      cases push l ⟨4, (p : Int), x, q⟩ with
      | error e => rcases e with ⟨q, c⟩; rfl
      | ok l1 => rfl

theorem last_sh (d : Nat) (l : List Token) : lastWord (shs d l) = lastWord l := by
  unfold lastWord shs
  rw [List.getLast?_map]
  cases l.getLast? <;> rfl

theorem lex_sh (d : Nat) : ∀ (k p : Nat) (t : Str) (l : List Token) (ns : List Str), lex k (p + d) t (shs d l) ns = mv d (shs d) (lex k p t l ns) ∨ k ≤ t.length
  | 0, p, t, l, ns => .inr (Nat.zero_le _)
  | k + 1, p, t, l, ns => by
    by_cases hk : k + 1 ≤ t.length
    · exact .inr hk
    refine .inl ?_
    rw [lex, lex]
    have hb := blankN_le t.length t (Nat.le_refl _)
    have hz := blankN_drop t.length t (Nat.le_refl _)
    have hdl : (t.drop (blankN t)).length = t.length - blankN t := by simp
    generalize blankN t = b at *
    generalize t.drop b = t' at *
    have rcs : ∀ (m : Nat) (l1 : List Token) (ns1 : List Str), 1 ≤ m → m ≤ t'.length → lex k (p + d + b + m) (t'.drop m) (shs d l1) ns1 = mv d (shs d) (lex k (p + b + m) (t'.drop m) l1 ns1) := by
      intro m l1 ns1 h1 h2
      rcases lex_sh d k (p + b + m) (t'.drop m) l1 ns1 with h | h
      · rw [show p + d + b + m = p + b + m + d by omega]
        exact h
      · rw [List.length_drop] at h
        omega
    match t', hz, hdl, rcs with
    | [], hz, hdl, rcs =>
      dsimp only
      cases decide (0 < ns.length) with
      | true =>
        dsimp only [mv, cond_t]
        congr 2
        simp
        omega
      | false => rfl
    | c :: r, hz, hdl, rcs =>
      dsimp only
      by_cases h35 : c = 35
      · rw [decide_eq_true h35, cond_t, cond_t]
        have hc : 1 ≤ cmt (c :: r) ∧ cmt (c :: r) ≤ (c :: r).length := by
          rcases firstOf 10 (c :: r) with hf | ⟨a, w, hf, ha⟩
          · rw [cmt_free hf]; simp
          · rw [ha, cmt_at w hf]
            match a, ha with
            | [], ha =>
              have : c = 10 := (List.cons.inj ha).1
              rw [h35] at this
              exact absurd this (by decide)
            | e :: a, _ => simp
        exact rcs _ l ns hc.1 hc.2
      · rw [decide_eq_false h35, cond_f, cond_f]
        by_cases h10 : c = 10
        · rw [decide_eq_true h10, cond_t, cond_t]
          have h := nls_sh d (p + b) (c :: r) l ns
          rw [show p + b + d = p + d + b by omega] at h
          rw [h]
          cases hq : nls (p + b) (c :: r) l ns with
          | error e => rcases e with ⟨q, cc⟩; rfl
          | ok y =>
            rcases y with ⟨l1, m⟩
            obtain ⟨_, g2, g3⟩ := nls_ok (by simp) hq
            exact rcs m l1 [] g2 g3
        · rw [decide_eq_false h10, cond_f, cond_f]
          cases h60 : ([60, 60] : Str).isPrefixOf (c :: r) with
          | true =>
            rw [cond_t, cond_t]
            have h2l := (List.isPrefixOf_iff_prefix.1 h60).length_le
            have h := here_sh d (p + b) (c :: r) l ns
            rw [show p + b + d = p + d + b by omega] at h
            rw [h]
            cases hq : here (p + b) (c :: r) l ns with
            | error e => rcases e with ⟨q, cc⟩; rfl
            | ok y =>
              rcases y with ⟨l1, ns1, m⟩
              obtain ⟨_, _, g2, g3, _⟩ := here_ok h2l hq
              exact rcs m l1 ns1 g2 g3
          | false =>
            rw [cond_f, cond_f, last_sh]
            have h := tok_sh d (p + b) (c :: r) l (lastWord l && decide (b = 0))
            rw [show p + b + d = p + d + b by omega] at h
            rw [h]
            cases hq : tok (p + b) (c :: r) l (lastWord l && decide (b = 0)) with
            | error e => rcases e with ⟨q, cc⟩; rfl
            | ok y =>
              rcases y with ⟨l1, m⟩
              obtain ⟨_, g2, g3⟩ := tok_ok hz h10 hq
              exact rcs m l1 ns g2 g3

/-- A token that stands where it says. -/
def GT (s : Str) (u : Token) : Prop := 0 ≤ u.at_ ∧ u.at_ < (s.length : Int) ∧
  (((u.kind_ = 1 ∨ u.kind_ = 4) ∧ u.quoted_.length = u.text_.length) ∨
   (¬ (u.kind_ = 1 ∨ u.kind_ = 4) ∧ u.quoted_ = [] ∧ (u.text_ = [94] ∨ ∃ a r, s = a ++ u.text_ ++ r ∧ (a.length : Int) = u.at_)))

def Inv (s : Str) (p : Int) (l : List Token) : Prop := l.Pairwise (fun a b => a.at_ ≤ b.at_) ∧ ∀ u ∈ l, GT s u ∧ u.at_ ≤ p

theorem Inv.mono {s : Str} {p q : Int} {l : List Token} (h : Inv s p l) (hq : p ≤ q) : Inv s q l := ⟨h.1, fun u hu => ⟨(h.2 u hu).1, Int.le_trans (h.2 u hu).2 hq⟩⟩

theorem push_inv {s : Str} {p : Int} {l l' : List Token} {u : Token} (h : Inv s p l) (hu : GT s u) (hp : p ≤ u.at_) (ho : push l u = .ok l') : Inv s u.at_ l' := by
  obtain ⟨rfl, _⟩ := push_ok ho
  refine ⟨List.pairwise_append.2 ⟨h.1, List.pairwise_singleton .., fun a ha b hb => ?_⟩, fun v hv => ?_⟩
  · rw [List.mem_singleton] at hb
    subst hb
    exact Int.le_trans (h.2 a ha).2 hp
  · rcases List.mem_append.1 hv with hv | hv
    · exact ⟨(h.2 v hv).1, Int.le_trans (h.2 v hv).2 hp⟩
    · rw [List.mem_singleton] at hv
      subst hv
      exact ⟨hu, Int.le_refl _⟩

theorem hat_inv {s : Str} {p : Int} {l l' : List Token} {u : Token} {tc : Bool} (h : Inv s p l) (hu : GT s u) (hp : p ≤ u.at_) (ho : hat l u tc = .ok l') : Inv s u.at_ l' := by
  unfold hat at ho
  cases ht : hats u tc with
  | false => rw [ht, cond_f] at ho; exact push_inv h hu hp ho
  | true =>
    rw [ht, cond_t] at ho
    cases hq : push l ⟨2, u.at_, [94], []⟩ with
    | error e => rw [hq] at ho; cases ho
    | ok l1 =>
      rw [hq] at ho
      have h1 := push_inv (u := ⟨2, u.at_, [94], []⟩) h ⟨hu.1, hu.2.1, .inr ⟨by show ¬ ((2 : Int) = 1 ∨ (2 : Int) = 4); decide, rfl, .inl rfl⟩⟩ hp hq
      exact push_inv h1 hu (Int.le_refl _) ho

theorem name_inv {s pre t : Str} {p : Int} {l l' : List Token} (hs : s = pre ++ t) (h : Inv s p l) (hp : p ≤ (pre.length : Int)) (ho : name pre.length t l = .ok l') : Inv s (pre.length : Int) l' := by
  have hlen : s.length = pre.length + t.length := by rw [hs]; simp
  have hn := nameN_le t
  unfold name at ho
  split at ho
  · cases ho
  · have hu : GT s ⟨1, (pre.length : Int), t.take (nameN t), List.replicate (nameN t) 48⟩ := ⟨by show (0 : Int) ≤ (pre.length : Int); omega, by show (pre.length : Int) < _; omega, .inl ⟨.inl rfl, by simp; omega⟩⟩
    exact push_inv h hu hp ho

theorem tok_inv {s pre t : Str} {p : Int} {l l' : List Token} {tc : Bool} {m : Nat} (hs : s = pre ++ t) (ht : t ≠ []) (h : Inv s p l) (hp : p ≤ (pre.length : Int)) (ho : tok pre.length t l tc = .ok (l', m)) : Inv s ((pre.length + m : Nat) : Int) l' := by
  have hlen : s.length = pre.length + t.length := by rw [hs]; simp
  have htp : 0 < t.length := List.length_pos_iff.2 ht
  unfold tok at ho
  cases hw : sym t with
  | error e => rw [hw] at ho; cases ho
  | ok w =>
    rw [hw] at ho
    match w, hw, ho with
    | [], hw, ho =>
      dsimp only at ho
      cases hx : wd t.length t with
      | error e => rw [hx] at ho; cases ho
      | ok y =>
        rcases y with ⟨x, q, n⟩
        rw [hx] at ho
        dsimp only at ho
        have g := wd_len _ _ _ _ _ hx
        cases hh : hat l ⟨1, (pre.length : Int), x, q⟩ tc with
        | error e => rw [hh] at ho; cases ho
        | ok l1 =>
          rw [hh] at ho
          injection ho with ho
          injection ho with h1 h2
          subst h1; subst h2
          have hu : GT s ⟨1, (pre.length : Int), x, q⟩ := ⟨by show (0 : Int) ≤ (pre.length : Int); omega, by show (pre.length : Int) < _; omega, .inl ⟨.inl rfl, g.2.1.symm⟩⟩
          exact (hat_inv h hu hp hh).mono (by show (pre.length : Int) ≤ _; omega)
    | c :: w, hw, ho =>
      dsimp only at ho
      obtain ⟨u, hu0⟩ := sym_pre hw
      cases hh : hat l ⟨2, (pre.length : Int), c :: w, []⟩ tc with
      | error e => rw [hh] at ho; cases ho
      | ok l1 =>
        rw [hh] at ho
        dsimp only at ho
        have hu : GT s ⟨2, (pre.length : Int), c :: w, []⟩ := ⟨by show (0 : Int) ≤ (pre.length : Int); omega, by show (pre.length : Int) < _; omega, .inr ⟨by show ¬ ((2 : Int) = 1 ∨ (2 : Int) = 4); decide, rfl, .inr ⟨pre, u, by rw [hs, ← hu0]; simp, rfl⟩⟩⟩
        have hi : Inv s (pre.length : Int) l1 := hat_inv h hu hp hh
        cases hd : decide (c :: w = [36]) || decide (c :: w = [36, 35]) with
        | false =>
          rw [hd, cond_f] at ho
          injection ho with ho
          injection ho with h1 h2
          subst h1; subst h2
          exact hi.mono (by omega)
        | true =>
          rw [hd, cond_t] at ho
          have hdr : t.drop (c :: w).length = u := by rw [← hu0]; simp
          rw [hdr] at ho
          have e2 : (pre ++ (c :: w)).length = pre.length + (c :: w).length := List.length_append
          cases hn : name (pre.length + (c :: w).length) u l1 with
          | error e => rw [hn] at ho; cases ho
          | ok l2 =>
            rw [hn] at ho
            injection ho with ho
            injection ho with h1 h2
            subst h1; subst h2
            rw [← e2] at hn
            have := name_inv (s := s) (pre := pre ++ (c :: w)) (t := u) (by rw [hs, ← hu0]; simp) hi (by rw [e2]; omega) hn
            exact this.mono (by rw [e2]; omega)

theorem nls_inv {s pre r : Str} {p : Int} {l l' : List Token} {ns : List Str} {m : Nat} (hs : s = pre ++ 10 :: r) (h : Inv s p l) (hp : p ≤ (pre.length : Int)) (ho : nls pre.length (10 :: r) l ns = .ok (l', m)) : Inv s ((pre.length + m : Nat) : Int) l' := by
  have hlen : s.length = pre.length + (r.length + 1) := by rw [hs]; simp
  unfold nls at ho
  cases hq : push l ⟨3, (pre.length : Int), [10], []⟩ with
  | error e => rw [hq] at ho; cases ho
  | ok l1 =>
    rw [hq] at ho
    dsimp only at ho
    have hu : GT s ⟨3, (pre.length : Int), [10], []⟩ := ⟨by show (0 : Int) ≤ (pre.length : Int); omega, by show (pre.length : Int) < _; omega, .inr ⟨by show ¬ ((3 : Int) = 1 ∨ (3 : Int) = 4); decide, rfl, .inr ⟨pre, r, by rw [hs]; simp, rfl⟩⟩⟩
    have hi : Inv s (pre.length : Int) l1 := push_inv h hu hp hq
    cases hd : docs ns ((10 :: r : Str).drop 1) with
    | error e => rcases e with ⟨o, c⟩; rw [hd] at ho; cases ho
    | ok k =>
      rw [hd] at ho
      injection ho with ho
      injection ho with h1 h2
      subst h1; subst h2
      exact hi.mono (by omega)

theorem here_inv {s pre t : Str} {p : Int} {l l' : List Token} {ns ns' : List Str} {m : Nat} (hs : s = pre ++ t) (ht : t ≠ []) (h : Inv s p l) (hp : p ≤ (pre.length : Int)) (ho : here pre.length t l ns = .ok (l', ns', m)) : Inv s ((pre.length + m : Nat) : Int) l' := by
  have hlen : s.length = pre.length + t.length := by rw [hs]; simp
  have htp : 0 < t.length := List.length_pos_iff.2 ht
  unfold here at ho
  generalize 2 + blankN (t.drop 2) = b at *
  cases hx : wd (t.drop b).length (t.drop b) with
  | error e => rw [hx] at ho; cases ho
  | ok y =>
    rcases y with ⟨x, q, n⟩
    rw [hx] at ho
    dsimp only at ho
    have g := wd_len _ _ _ _ _ hx
    by_cases hn : n = 0
    · rw [decide_eq_true hn, cond_t] at ho; cases ho
    · rw [decide_eq_false hn, cond_f] at ho
      cases hq : push l ⟨4, (pre.length : Int), x, q⟩ with
      | error e => rw [hq] at ho; cases ho
      | ok l1 =>
        rw [hq] at ho
        injection ho with ho
        injection ho with h1 h2
        injection h2 with h2 h3
        subst h1; subst h2; subst h3
        have hu : GT s ⟨4, (pre.length : Int), x, q⟩ := ⟨by show (0 : Int) ≤ (pre.length : Int); omega, by show (pre.length : Int) < _; omega, .inl ⟨.inr rfl, g.2.1.symm⟩⟩
        exact (push_inv h hu hp hq).mono (by show (pre.length : Int) ≤ _; omega)

theorem lex_inv {s : Str} : ∀ (k : Nat) (t pre : Str) (l l' : List Token) (ns : List Str), s = pre ++ t → Inv s (pre.length : Int) l → lex k pre.length t l ns = .ok l' → Inv s (s.length : Int) l'
  | 0, t, pre, l, l', ns, hs, h, ho => by rw [lex] at ho; cases ho
  | k + 1, t, pre, l, l', ns, hs, h, ho => by
    rw [lex] at ho
    have hlen : s.length = pre.length + t.length := by rw [hs]; simp
    have hb := blankN_le t.length t (Nat.le_refl _)
    have hz := blankN_drop t.length t (Nat.le_refl _)
    have s2 : s = (pre ++ t.take (blankN t)) ++ t.drop (blankN t) := by rw [hs, List.append_assoc, List.take_append_drop]
    have n2 : (pre ++ t.take (blankN t)).length = pre.length + blankN t := by simp; omega
    generalize blankN t = b at *
    generalize t.drop b = t' at *
    have h2 : (pre.length : Int) ≤ ((pre ++ t.take b).length : Int) := by omega
    have again : ∀ (m : Nat) (l1 : List Token) (ns1 : List Str), m ≤ t'.length → Inv s ((pre.length + b + m : Nat) : Int) l1 → lex k (pre.length + b + m) (t'.drop m) l1 ns1 = .ok l' → Inv s (s.length : Int) l' := by
      intro m l1 ns1 hm hi ho
      have e : (pre ++ t.take b ++ t'.take m).length = pre.length + b + m := by rw [List.length_append, n2, List.length_take]; omega
      rw [← e] at ho hi
      exact lex_inv k (t'.drop m) (pre ++ t.take b ++ t'.take m) l1 l' ns1 (by rw [List.append_assoc (pre ++ t.take b), List.take_append_drop]; exact s2) hi ho
    match t', s2, hz, ho, again with
    | [], s2, hz, ho, again =>
      dsimp only at ho
      cases hd : decide (0 < ns.length) with
      | true => rw [hd, cond_t] at ho; cases ho
      | false =>
        rw [hd, cond_f] at ho
        injection ho with ho
        subst ho
        exact h.mono (by omega)
    | c :: r, s2, hz, ho, again =>
      dsimp only at ho
      by_cases h35 : c = 35
      · rw [decide_eq_true h35, cond_t] at ho
        have hc : cmt (c :: r) ≤ (c :: r).length := by
          rcases firstOf 10 (c :: r) with hf | ⟨a, w, hf, ha⟩
          · rw [cmt_free hf]; exact Nat.le_refl _
          · rw [ha, cmt_at w hf]; simp
        exact again _ l ns hc (h.mono (by omega)) ho
      · rw [decide_eq_false h35, cond_f] at ho
        rw [← n2] at ho
        by_cases h10 : c = 10
        · subst h10
          rw [decide_eq_true rfl, cond_t] at ho
          cases hq : nls (pre ++ t.take b).length (10 :: r) l ns with
          | error e => rw [hq] at ho; cases ho
          | ok y =>
            rcases y with ⟨l1, m⟩
            rw [hq] at ho
            dsimp only at ho
            obtain ⟨_, _, g3⟩ := nls_ok (by simp) hq
            have hi := nls_inv s2 h h2 hq
            rw [n2] at ho hi
            exact again m l1 [] g3 hi ho
        · rw [decide_eq_false h10, cond_f] at ho
          cases h60 : ([60, 60] : Str).isPrefixOf (c :: r) with
          | true =>
            rw [h60, cond_t] at ho
            have h2l := (List.isPrefixOf_iff_prefix.1 h60).length_le
            cases hq : here (pre ++ t.take b).length (c :: r) l ns with
            | error e => rw [hq] at ho; cases ho
            | ok y =>
              rcases y with ⟨l1, ns1, m⟩
              rw [hq] at ho
              dsimp only at ho
              obtain ⟨_, _, _, g3, _⟩ := here_ok h2l hq
              have hi := here_inv s2 (by simp) h h2 hq
              rw [n2] at ho hi
              exact again m l1 ns1 g3 hi ho
          | false =>
            rw [h60, cond_f] at ho
            cases hq : tok (pre ++ t.take b).length (c :: r) l (lastWord l && decide (b = 0)) with
            | error e => rw [hq] at ho; cases ho
            | ok y =>
              rcases y with ⟨l1, m⟩
              rw [hq] at ho
              dsimp only at ho
              obtain ⟨_, _, g3⟩ := tok_ok hz h10 hq
              have hi := tok_inv s2 (by simp) h h2 hq
              rw [n2] at ho hi
              exact again m l1 ns g3 hi ho

theorem push_at {l : List Token} {u : Token} {q c : Int} (h : push l u = .error (q, c)) : q = u.at_ := by
  unfold push at h
  split at h
  · injection h with h
    injection h with h1 h2
    exact h1.symm
  · cases h

theorem hat_at {l : List Token} {u : Token} {tc : Bool} {q c : Int} (h : hat l u tc = .error (q, c)) : q = u.at_ := by
  unfold hat at h
  cases ht : hats u tc with
  | false => rw [ht, cond_f] at h; exact push_at h
  | true =>
    rw [ht, cond_t] at h
    cases hp : push l ⟨2, u.at_, [94], []⟩ with
    | error e => rw [hp] at h; injection h with h; subst h; exact (show q = u.at_ from push_at (u := ⟨2, u.at_, [94], []⟩) hp)
    | ok l1 => rw [hp] at h; exact push_at h

theorem name_at {p : Nat} {t : Str} {l : List Token} {q c : Int} (h : name p t l = .error (q, c)) : q = (p : Int) := by
  unfold name at h
  split at h
  · injection h with h
    injection h with h1 h2
    exact h1.symm
  · exact push_at h

theorem symB_err : ∀ (ws : List Str) (t : Str) (e : Nat), symB ws t = .error e → e ≤ t.length
  | [], t, e, h => by cases h
  | v :: ws, t, e, h => by
    rw [symB] at h
    cases hv : v.isPrefixOf t with
    | false => rw [hv, cond_f] at h; exact symB_err ws t e h
    | true =>
      have hl := (List.isPrefixOf_iff_prefix.1 hv).length_le
      rw [hv, cond_t] at h
      cases hb : ([91] : Str).isPrefixOf (t.drop v.length) with
      | false => rw [hb, cond_f] at h; cases h
      | true =>
        rw [hb, cond_t] at h
        split at h
        · injection h with h
          omega
        · cases h

theorem symA_err : ∀ (ws : List Str) (t : Str) (e : Nat), symA ws t = .error e → e ≤ t.length
  | [], [], e, h => by cases h
  | [], c :: r, e, h => by
    rw [symA] at h
    cases hc : START.contains c with
    | true => rw [hc, cond_t] at h; cases h
    | false => rw [hc, cond_f] at h; exact symB_err _ _ _ h
  | w :: ws, t, e, h => by
    rw [symA] at h
    cases hv : w.isPrefixOf t with
    | false => rw [hv, cond_f] at h; exact symA_err ws t e h
    | true => rw [hv, cond_t] at h; cases h

theorem wd_err : ∀ (k : Nat) (t : Str) (e : Nat), wd k t = .error e → e ≤ t.length
  | 0, t, e, h => by cases h
  | k + 1, [], e, h => by cases h
  | k + 1, c :: r, e, h => by
    rw [wd] at h
    cases ho : ord (c :: r) with
    | true =>
      rw [ho, cond_t] at h
      cases hw : wd k r with
      | error e' =>
        rw [hw] at h
        have := wd_err k r e' hw
        injection h with h
        simp
        omega
      | ok y => rw [hw] at h; cases h
    | false =>
      rw [ho, cond_f] at h
      split at h
      · cases hqd : qd r with
        | none => rw [hqd] at h; injection h with h; omega
        | some y =>
          rcases y with ⟨y, n⟩
          rw [hqd] at h
          have g := qd_len r.length r y n (Nat.le_refl _) hqd
          dsimp only at h
          cases hw : wd k (r.drop n) with
          | error e' =>
            rw [hw] at h
            have := wd_err k (r.drop n) e' hw
            injection h with h
            simp at this ⊢
            omega
          | ok z => rw [hw] at h; cases h
      · cases h

def In (lo hi q : Int) : Prop := lo ≤ q ∧ q ≤ hi

theorem tok_at {p : Nat} {t : Str} {l : List Token} {tc : Bool} {q c : Int} (h : tok p t l tc = .error (q, c)) : In (p : Int) ((p + t.length : Nat) : Int) q := by
  unfold tok at h
  unfold In
  cases hs : sym t with
  | error e =>
    rw [hs] at h
    have := symA_err _ _ _ hs
    injection h with h
    injection h with h1 h2
    omega
  | ok w =>
    rw [hs] at h
    match w, hs, h with
    | [], hs, h =>
      dsimp only at h
      cases hw : wd t.length t with
      | error e =>
        rw [hw] at h
        have := wd_err _ _ _ hw
        injection h with h
        injection h with h1 h2
        omega
      | ok y =>
        rcases y with ⟨x, q', n⟩
        rw [hw] at h
        dsimp only at h
        cases hh : hat l ⟨1, p, x, q'⟩ tc with
        | error e =>
          rcases e with ⟨q2, c2⟩
          rw [hh] at h
          injection h with h
          injection h with h1 h2
          have h3 : q2 = (p : Int) := hat_at hh
          omega
        | ok l1 => rw [hh] at h; cases h
    | d :: w, hs, h =>
      dsimp only at h
      have hpl := (sym_pre hs).length_le
      cases hh : hat l ⟨2, p, d :: w, []⟩ tc with
      | error e =>
        rcases e with ⟨q2, c2⟩
        rw [hh] at h
        injection h with h
        injection h with h1 h2
        have h3 : q2 = (p : Int) := hat_at hh
        omega
      | ok l1 =>
        rw [hh] at h
        dsimp only at h
        cases hd : decide (d :: w = [36]) || decide (d :: w = [36, 35]) with
        | false => rw [hd, cond_f] at h; cases h
        | true =>
          rw [hd, cond_t] at h
          cases hn : name (p + (d :: w).length) (t.drop (d :: w).length) l1 with
          | error e =>
            rcases e with ⟨q2, c2⟩
            rw [hn] at h
            injection h with h
            injection h with h1 h2
            have h3 := name_at hn
            omega
          | ok l2 => rw [hn] at h; cases h

theorem docs_at : ∀ (ws : List Str) (u : Str) (o : Nat) (c : Int), docs ws u = .error (o, c) → o ≤ u.length
  | [], u, o, c, h => by cases h
  | w :: ws, u, o, c, h => by
    unfold docs at h
    cases hd : doc u.length w u with
    | none =>
      rw [hd] at h
      injection h with h
      injection h with h1 h2
      omega
    | some n =>
      rw [hd] at h
      have hn := doc_le _ _ _ _ hd
      dsimp only at h
      cases hr : docs ws (u.drop n) with
      | error e =>
        rcases e with ⟨o', c'⟩
        rw [hr] at h
        have := docs_at ws (u.drop n) o' c' hr
        injection h with h
        injection h with h1 h2
        rw [List.length_drop] at this
        omega
      | ok k => rw [hr] at h; cases h

theorem nls_at {p : Nat} {t : Str} {l : List Token} {ns : List Str} {q c : Int} (ht : 1 ≤ t.length) (h : nls p t l ns = .error (q, c)) : In (p : Int) ((p + t.length : Nat) : Int) q := by
  unfold nls at h
  unfold In
  cases hp : push l ⟨3, p, [10], []⟩ with
  | error e =>
    rcases e with ⟨q', c'⟩
    rw [hp] at h
    injection h with h
    injection h with h1 h2
    have h3 : q' = (p : Int) := push_at hp
    omega
  | ok l1 =>
    rw [hp] at h
    dsimp only at h
    cases hd : docs ns (t.drop 1) with
    | error e =>
      rcases e with ⟨o, c'⟩
      rw [hd] at h
      injection h with h
      injection h with h1 h2
      have h3 := docs_at _ _ _ _ hd
      rw [List.length_drop] at h3
      omega
    | ok k => rw [hd] at h; cases h

theorem here_at {p : Nat} {t : Str} {l : List Token} {ns : List Str} {q c : Int} (ht : 2 ≤ t.length) (h : here p t l ns = .error (q, c)) : In (p : Int) ((p + t.length : Nat) : Int) q := by
  have hb := blankN_le (t.drop 2).length (t.drop 2) (Nat.le_refl _)
  rw [List.length_drop] at hb
  unfold here at h
  unfold In
  generalize blankN (t.drop 2) = b at *
  cases hw : wd (t.drop (2 + b)).length (t.drop (2 + b)) with
  | error e =>
    rw [hw] at h
    have h3 := wd_err _ _ _ hw
    rw [List.length_drop] at h3
    injection h with h
    injection h with h1 h2
    omega
  | ok y =>
    rcases y with ⟨x, q', n⟩
    rw [hw] at h
    dsimp only at h
    by_cases hn : n = 0
    · rw [decide_eq_true hn, cond_t] at h
      injection h with h
      injection h with h1 h2
      omega
    · rw [decide_eq_false hn, cond_f] at h
      cases hp : push l ⟨4, p, x, q'⟩ with
      | error e =>
        rcases e with ⟨q2, c2⟩
        rw [hp] at h
        injection h with h
        injection h with h1 h2
        have h3 : q2 = (p : Int) := push_at hp
        omega
      | ok l1 => rw [hp] at h; cases h

theorem lex_at : ∀ (k p : Nat) (t : Str) (l : List Token) (ns : List Str) (q c : Int), lex k p t l ns = .error (q, c) → In 0 ((p + t.length : Nat) : Int) q
  | 0, p, t, l, ns, q, c, h => by
    rw [lex] at h
    injection h with h
    injection h with h1 h2
    unfold In
    omega
  | k + 1, p, t, l, ns, q, c, ho => by
    rw [lex] at ho
    have hb := blankN_le t.length t (Nat.le_refl _)
    have hz := blankN_drop t.length t (Nat.le_refl _)
    have hdl : (t.drop (blankN t)).length = t.length - blankN t := by simp
    generalize blankN t = b at *
    generalize t.drop b = t' at *
    have again : ∀ (m : Nat) (l1 : List Token) (ns1 : List Str), m ≤ t'.length → lex k (p + b + m) (t'.drop m) l1 ns1 = .error (q, c) → In 0 ((p + t.length : Nat) : Int) q := by
      intro m l1 ns1 hm hr
      have := lex_at k (p + b + m) (t'.drop m) l1 ns1 q c hr
      rw [List.length_drop] at this
      unfold In at this ⊢
      omega
    have wide : In ((p + b : Nat) : Int) ((p + b + t'.length : Nat) : Int) q → In 0 ((p + t.length : Nat) : Int) q := by
      unfold In
      omega
    match t', hz, hdl, ho, again, wide with
    | [], hz, hdl, ho, again, wide =>
      dsimp only at ho
      cases hd : decide (0 < ns.length) with
      | true =>
        rw [hd, cond_t] at ho
        injection ho with ho
        injection ho with h1 h2
        unfold In
        omega
      | false => rw [hd, cond_f] at ho; cases ho
    | c' :: r, hz, hdl, ho, again, wide =>
      dsimp only at ho
      by_cases h35 : c' = 35
      · rw [decide_eq_true h35, cond_t] at ho
        have hc : cmt (c' :: r) ≤ (c' :: r).length := by
          rcases firstOf 10 (c' :: r) with hf | ⟨a, w, hf, ha⟩
          · rw [cmt_free hf]; exact Nat.le_refl _
          · rw [ha, cmt_at w hf]; simp
        exact again _ l ns hc ho
      · rw [decide_eq_false h35, cond_f] at ho
        by_cases h10 : c' = 10
        · rw [decide_eq_true h10, cond_t] at ho
          cases hq : nls (p + b) (c' :: r) l ns with
          | error e =>
            rw [hq] at ho
            injection ho with ho
            subst ho
            exact wide (nls_at (by simp) hq)
          | ok y =>
            rcases y with ⟨l1, m⟩
            rw [hq] at ho
            obtain ⟨_, _, g3⟩ := nls_ok (by simp) hq
            exact again m l1 [] g3 ho
        · rw [decide_eq_false h10, cond_f] at ho
          cases h60 : ([60, 60] : Str).isPrefixOf (c' :: r) with
          | true =>
            rw [h60, cond_t] at ho
            have h2l := (List.isPrefixOf_iff_prefix.1 h60).length_le
            cases hq : here (p + b) (c' :: r) l ns with
            | error e =>
              rw [hq] at ho
              injection ho with ho
              subst ho
              exact wide (here_at h2l hq)
            | ok y =>
              rcases y with ⟨l1, ns1, m⟩
              rw [hq] at ho
              obtain ⟨_, _, _, g3, _⟩ := here_ok h2l hq
              exact again m l1 ns1 g3 ho
          | false =>
            rw [h60, cond_f] at ho
            cases hq : tok (p + b) (c' :: r) l (lastWord l && decide (b = 0)) with
            | error e =>
              rw [hq] at ho
              injection ho with ho
              subst ho
              exact wide (tok_at hq)
            | ok y =>
              rcases y with ⟨l1, m⟩
              rw [hq] at ho
              obtain ⟨_, _, g3⟩ := tok_ok hz h10 hq
              exact again m l1 ns g3 ho

theorem lex_len : ∀ (k p : Nat) (t : Str) (l l' : List Token) (ns : List Str), l.length ≤ 1024 → lex k p t l ns = .ok l' → l'.length ≤ 1024
  | 0, p, t, l, l', ns, hl, h => by rw [lex] at h; cases h
  | k + 1, p, t, l, l', ns, hl, ho => by
    rw [lex] at ho
    have hz := blankN_drop t.length t (Nat.le_refl _)
    generalize blankN t = b at *
    generalize t.drop b = t' at *
    match t', hz, ho with
    | [], hz, ho =>
      dsimp only at ho
      cases hd : decide (0 < ns.length) with
      | true => rw [hd, cond_t] at ho; cases ho
      | false => rw [hd, cond_f] at ho; injection ho with ho; subst ho; exact hl
    | c' :: r, hz, ho =>
      dsimp only at ho
      by_cases h35 : c' = 35
      · rw [decide_eq_true h35, cond_t] at ho
        exact lex_len _ _ _ _ _ _ hl ho
      · rw [decide_eq_false h35, cond_f] at ho
        by_cases h10 : c' = 10
        · rw [decide_eq_true h10, cond_t] at ho
          cases hq : nls (p + b) (c' :: r) l ns with
          | error e => rw [hq] at ho; cases ho
          | ok y =>
            rcases y with ⟨l1, m⟩
            rw [hq] at ho
            exact lex_len _ _ _ _ _ _ (nls_ok (by simp) hq).1 ho
        · rw [decide_eq_false h10, cond_f] at ho
          cases h60 : ([60, 60] : Str).isPrefixOf (c' :: r) with
          | true =>
            rw [h60, cond_t] at ho
            cases hq : here (p + b) (c' :: r) l ns with
            | error e => rw [hq] at ho; cases ho
            | ok y =>
              rcases y with ⟨l1, ns1, m⟩
              rw [hq] at ho
              exact lex_len _ _ _ _ _ _ (here_ok (List.isPrefixOf_iff_prefix.1 h60).length_le hq).1 ho
          | false =>
            rw [h60, cond_f] at ho
            cases hq : tok (p + b) (c' :: r) l (lastWord l && decide (b = 0)) with
            | error e => rw [hq] at ho; cases ho
            | ok y =>
              rcases y with ⟨l1, m⟩
              rw [hq] at ho
              exact lex_len _ _ _ _ _ _ (tok_ok hz h10 hq).1 ho

theorem F10_any (s : Str) (hl : s.length ≤ 65536) (k : Nat) (hk : s.length < k) : ans10 (lex k 0 s [] []) (F10 s) := by
  unfold F10
  rw [decide_eq_false (by omega), cond_f]
  exact loop10 (s := s) (by omega) k s [] BIG 0 0 [] [] hk rfl (by unfold BIG; omega) (by simp) (by simp; omega)

theorem F17_eq (l : List Token) (d : Nat) (hl : l.length ≤ 1024) (hd : d ≤ 100000) (hu : ∀ u ∈ l, 0 ≤ u.at_ ∧ u.at_ ≤ 1000000) : F17 l (d : Int) = some (shs d l) := by
  unfold F17
  rw [appO, if_pos (by simp; omega), Option.bind_some, List.nil_append]
  refine (iter_big (α := Int × List Token) (fun a => ∃ j : Nat, a.1 = j ∧ j ≤ l.length ∧ a.2 = (l.take j).map (sh d) ++ l.drop j) (fun a => l.length - a.1.toNat) (fun _ => some (shs d l)) ?_ (0, l) ⟨0, rfl, Nat.zero_le _, by simp⟩ (by simp; omega))
  rintro again ⟨i, cur⟩ ⟨j, hi, hj, hc⟩ hag
  simp only at hi hc
  subst hi
  subst hc
  rw [F17_b1]
  by_cases h : j < l.length
  · have hg : ((l.take j).map (sh d) ++ l.drop j)[j]? = some l[j] := by
      rw [List.getElem?_append_right (by simp; omega), List.length_map, List.length_take, Nat.min_eq_left (by omega), Nat.sub_self, List.getElem?_drop, Nat.add_zero, List.getElem?_eq_getElem h]
    have hb := hu l[j] (List.getElem_mem h)
    rw [decide_eq_true (by omega), cond_t, lidx_nat, hg, Option.bind_some, wrap64 (by omega) (by omega), wrap64 (by omega) (by omega), Int.toNat_natCast]
    have hset : ((l.take j).map (sh d) ++ l.drop j).set j (Token.mk l[j].kind_ (l[j].at_ + d) l[j].text_ l[j].quoted_) = (l.take (j + 1)).map (sh d) ++ l.drop (j + 1) := by
      rw [List.set_append_right _ _ (by simp; omega), List.length_map, List.length_take, Nat.min_eq_left (by omega), Nat.sub_self, drop_at h, List.set_cons_zero, List.take_succ_eq_append_getElem h, List.map_append, List.append_assoc]
      rfl
    rw [hset]
    exact hag _ ⟨j + 1, by simp, h, rfl⟩ (by simp; omega)
  · rw [decide_eq_false (by omega), cond_f, List.take_of_length_le (by omega), List.drop_eq_nil_of_le (by omega), List.append_nil]
    rfl

theorem F16_eq (l : List Token) (hl : l.length ≤ 1000000) : F16 l l = some true := by
  unfold F16
  rw [decide_eq_true rfl, Bool.not_true, cond_f]
  refine iter_big (α := Int) (fun i => ∃ j : Nat, i = j ∧ j ≤ l.length) (fun i => l.length - i.toNat) (fun _ => some true) ?_ 0 ⟨0, rfl, Nat.zero_le _⟩ (by simp; omega)
  rintro again i ⟨j, rfl, hj⟩ hag
  rw [F16_b1]
  by_cases h : j < l.length
  · rw [decide_eq_true (by omega), cond_t, lidx_at h, Option.bind_some, Option.bind_some, wrap64 (by omega) (by omega)]
    simp only [decide_true, Bool.and_true, Bool.not_true, cond_f]
    exact hag _ ⟨j + 1, by simp, h⟩ (by simp; omega)
  · rw [decide_eq_false (by omega), cond_f]

theorem pre_app (b : Str) : ∀ (p t : Str), (10 : UInt8) ∉ p → p.isPrefixOf (t ++ 10 :: b) = p.isPrefixOf t
  | [], t, _ => by cases t <;> rfl
  | c :: p, [], h => by
    have : (10 : UInt8) ≠ c := fun e => h (by rw [e]; exact List.mem_cons_self ..)
    rw [List.nil_append, pre_cons, decide_eq_false this]
    rfl
  | c :: p, d :: t, h => by
    rw [List.cons_append, pre_cons, pre_cons, pre_app b p t (fun e => h (List.mem_cons_of_mem _ e))]

/-- No backslash at the end. -/
def open92 (t : Str) : Prop := t.getLast? ≠ some 92

theorem open92.tail {c : UInt8} {r : Str} (h : open92 (c :: r)) (hr : r ≠ []) : open92 r := by
  unfold open92 at *
  rw [List.getLast?_cons] at h
  intro e
  apply h
  rw [e]
  rfl

theorem open92.drop {t : Str} (h : open92 t) (m : Nat) : open92 (t.drop m) := by
  unfold open92 at *
  rw [List.getLast?_drop]
  split
  · simp
  · exact h

theorem blankN_app (b : Str) : ∀ (k : Nat) (t : Str), t.length ≤ k → open92 t → blankN (t ++ 10 :: b) = blankN t
  | _, [], _, _ => by
    rw [List.nil_append]
    match b with
    | [] => rfl
    | d :: r => rfl
  | _, [c], _, h => by
    have hc : c ≠ 92 := fun e => h (by rw [e]; rfl)
    have h0 := blankN_app b 0 [] (Nat.le_refl _) (by unfold open92; simp)
    rw [List.nil_append] at h0
    have e1 : blankN (c :: 10 :: b) = (if c = 32 ∨ c = 9 then 1 + blankN (10 :: b) else if c = 92 ∧ (10 : UInt8) = 10 then 2 + blankN b else 0) := by rw [blankN]
    have e2 : blankN [c] = (if c = 32 ∨ c = 9 then 1 else 0) := by rw [blankN]
    show blankN (c :: 10 :: b) = blankN [c]
    rw [e1, e2, h0]
    by_cases h1 : c = 32 ∨ c = 9
    · rw [if_pos h1, if_pos h1]; rfl
    · rw [if_neg h1, if_neg h1, if_neg (fun e => hc e.1)]
  | 0, c :: d :: r, h, _ => by simp at h
  | k + 1, c :: d :: r, hk, h => by
    simp only [List.length_cons] at hk
    have h1 := blankN_app b k (d :: r) (by simp; omega) (h.tail (by simp))
    show blankN (c :: d :: (r ++ 10 :: b)) = _
    rw [blankN, blankN]
    rw [List.cons_append] at h1
    rw [h1]
    by_cases hr : r = []
    · subst hr
      have h0 := blankN_app b 0 [] (Nat.le_refl _) (by unfold open92; simp)
      rw [h0]
    · have h2 := blankN_app b k r (by omega) ((h.tail (by simp)).tail hr)
      rw [h2]

theorem qd_app (b : Str) : ∀ (k : Nat) (v x : Str) (m : Nat), v.length ≤ k → qd v = some (x, m) → qd (v ++ 10 :: b) = some (x, m)
  | _, [], x, m, _, h => by simp [qd] at h
  | _, [c], x, m, _, h => by
    unfold qd at h
    split at h
    · rename_i hc
      simp at h
      obtain ⟨rfl, rfl⟩ := h
      show qd (c :: 10 :: b) = _
      rw [qd, if_pos hc, if_neg (by decide)]
    · simp at h
  | 0, c :: d :: r, x, m, hk, h => by simp at hk
  | k + 1, c :: d :: r, x, m, hk, h => by
    simp only [List.length_cons] at hk
    unfold qd at h
    show qd (c :: d :: (r ++ 10 :: b)) = _
    rw [qd]
    split at h
    · rename_i hc
      rw [if_pos hc]
      split at h
      · rename_i hd
        rw [if_pos hd]
        cases hq : qd r with
        | none => rw [hq] at h; simp at h
        | some p =>
          rcases p with ⟨y, n⟩
          rw [hq] at h
          rw [qd_app b k r y n (by omega) hq]
          exact h
      · rename_i hd
        rw [if_neg hd]
        exact h
    · rename_i hc
      rw [if_neg hc]
      cases hq : qd (d :: r) with
      | none => rw [hq] at h; simp at h
      | some p =>
        rcases p with ⟨y, n⟩
        rw [hq] at h
        have := qd_app b k (d :: r) y n (by simp; omega) hq
        rw [List.cons_append] at this
        rw [this]
        exact h

theorem ord_app (b : Str) (c : UInt8) (r : Str) (h : open92 (c :: r)) : ord (c :: (r ++ 10 :: b)) = ord (c :: r) := by
  show (!SYMI.contains c && !([92, 10] : Str).isPrefixOf (c :: (r ++ 10 :: b))) = (!SYMI.contains c && !([92, 10] : Str).isPrefixOf (c :: r))
  congr 2
  rw [pre_cons, pre_cons]
  match r, h with
  | [], h =>
    have hc : c ≠ 92 := fun e => h (by rw [e]; rfl)
    rw [decide_eq_false hc]
    rfl
  | d :: r, h =>
    rw [List.cons_append, pre_cons, pre_cons]
    have : ∀ s : Str, ([] : Str).isPrefixOf s = true := fun s => by cases s <;> rfl
    rw [this, this]

theorem wd_app (b : Str) : ∀ (k k' : Nat) (t x q : Str) (m : Nat), t.length ≤ k → t.length < k' → open92 t → wd k t = .ok (x, q, m) → wd k' (t ++ 10 :: b) = .ok (x, q, m)
  | k, 0, t, x, q, m, _, hk', _, _ => absurd hk' (Nat.not_lt_zero _)
  | k, k' + 1, [], x, q, m, _, _, _, h => by
    have h' : wd k [] = .ok ([], [], 0) := by cases k <;> rfl
    rw [h'] at h
    rw [← h, List.nil_append, wd]
    rfl
  | 0, k' + 1, c :: r, x, q, m, hk, _, _, _ => by simp at hk
  | k + 1, k' + 1, c :: r, x, q, m, hk, hk', ho, h => by
    simp only [List.length_cons] at hk hk'
    have hr : open92 r := by
      by_cases e : r = []
      · subst e; unfold open92; simp
      · exact ho.tail e
    rw [wd] at h
    rw [List.cons_append, wd, ord_app b c r ho]
    cases hx : ord (c :: r) with
    | true =>
      rw [hx, cond_t] at h
      rw [cond_t]
      cases hw : wd k r with
      | error e => rw [hw] at h; cases h
      | ok y =>
        rcases y with ⟨x', q', m'⟩
        rw [hw] at h
        rw [wd_app b k k' r x' q' m' (by omega) (by omega) hr hw]
        exact h
    | false =>
      rw [hx, cond_f] at h
      rw [cond_f]
      by_cases hc : c = 39
      · rw [if_pos hc] at h ⊢
        cases hqd : qd r with
        | none => rw [hqd] at h; cases h
        | some y =>
          rcases y with ⟨y, n⟩
          rw [hqd] at h
          have g := qd_len r.length r y n (Nat.le_refl _) hqd
          rw [qd_app b r.length r y n (Nat.le_refl _) hqd]
          dsimp only at h ⊢
          rw [List.drop_append_of_le_length g.2.1]
          cases hw : wd k (r.drop n) with
          | error e => rw [hw] at h; cases h
          | ok z =>
            rcases z with ⟨x', q', m'⟩
            rw [hw] at h
            rw [wd_app b k k' (r.drop n) x' q' m' (by rw [List.length_drop]; omega) (by rw [List.length_drop]; omega) (hr.drop n) hw]
            exact h
      · rw [if_neg hc] at h ⊢
        exact h

theorem nameN_app (b : Str) : ∀ t : Str, nameN (t ++ 10 :: b) = nameN t
  | [] => rfl
  | c :: r => by
    rw [List.cons_append, nameN_cons, nameN_cons, nameN_app b r]

theorem cmt_app (b t : Str) : cmt (t ++ 10 :: b) = cmt t := by
  rcases firstOf 10 t with hf | ⟨a, w, hf, rfl⟩
  · rw [cmt_at b hf, cmt_free hf]
  · rw [cmt_at w hf, List.append_assoc, List.cons_append, cmt_at (w ++ 10 :: b) hf]

theorem brk_app (b r : Str) (pair : Bool) (hl : r.length ≤ 1000000) (h : brk (91 :: r) pair ≠ 0) : brk (91 :: (r ++ 10 :: b)) pair = brk (91 :: r) pair := by
  rcases firstOf 93 r with hf | ⟨a, w, hf, rfl⟩
  · exfalso
    apply h
    unfold brk
    rw [F54_free pair hf]
    rfl
  · have ha : a.length ≤ 1000000 := by simp at hl; omega
    unfold brk
    rw [List.append_assoc, List.cons_append, (F54_cut (w ++ 10 :: b) pair hf ha).1, (F54_cut w pair hf ha).1]

theorem symB_app (b : Str) : ∀ (ws : List Str) (t w : Str), t.length ≤ 1000000 → (∀ v ∈ ws, (10 : UInt8) ∉ v) → symB ws t = .ok w → symB ws (t ++ 10 :: b) = .ok w
  | [], t, w, _, _, h => h
  | v :: ws, t, w, hl, hv, h => by
    rw [symB] at h ⊢
    rw [pre_app b v t (hv v (List.mem_cons_self ..))]
    cases hp : v.isPrefixOf t with
    | false =>
      rw [hp, cond_f] at h
      rw [cond_f]
      exact symB_app b ws t w hl (fun u hu => hv u (List.mem_cons_of_mem _ hu)) h
    | true =>
      have hle := (List.isPrefixOf_iff_prefix.1 hp).length_le
      rw [hp, cond_t] at h
      rw [cond_t, List.drop_append_of_le_length hle, pre_app b [91] _ (by decide)]
      cases hb : ([91] : Str).isPrefixOf (t.drop v.length) with
      | false => rw [hb, cond_f] at h; rw [cond_f]; exact h
      | true =>
        rw [hb, cond_t] at h
        rw [cond_t]
        obtain ⟨u, hu⟩ : ∃ u, t.drop v.length = 91 :: u := by
          obtain ⟨u, hu⟩ := List.isPrefixOf_iff_prefix.1 hb
          exact ⟨u, hu.symm⟩
        have hul : u.length ≤ 1000000 ∧ v.length + (u.length + 1) = t.length := by
          have := congrArg List.length hu
          rw [List.length_drop, List.length_cons] at this
          omega
        rw [hu] at h ⊢
        split at h
        · cases h
        · rename_i h0
          have hb1 := brk_app b u _ hul.1 h0
          rw [List.cons_append, hb1, if_neg h0]
          have hbl := (F54_eq u (!decide (v = [124])) hul.1).2
          rw [List.length_cons] at hbl
          rw [List.take_append_of_le_length (by omega)]
          exact h

theorem symA_app (b : Str) : ∀ (ws : List Str) (t w : Str), t.length ≤ 1000000 → (∀ v ∈ ws, (10 : UInt8) ∉ v) → t ≠ [] → symA ws t = .ok w → symA ws (t ++ 10 :: b) = .ok w
  | [], [], w, _, _, h0, _ => absurd rfl h0
  | [], c :: r, w, hl, _, _, h => by
    rw [symA] at h
    rw [List.cons_append, symA]
    cases hc : START.contains c with
    | true => rw [hc, cond_t] at h; rw [cond_t]; exact h
    | false =>
      rw [hc, cond_f] at h
      rw [cond_f, ← List.cons_append]
      exact symB_app b _ _ w hl (by decide) h
  | v :: ws, [], w, _, _, h0, _ => absurd rfl h0
  | v :: ws, c :: r, w, hl, hv, h0, h => by
    rw [symA] at h ⊢
    rw [pre_app b v _ (hv v (List.mem_cons_self ..))]
    cases hp : v.isPrefixOf (c :: r) with
    | true => rw [hp, cond_t] at h; rw [cond_t]; exact h
    | false =>
      rw [hp, cond_f] at h
      rw [cond_f]
      exact symA_app b ws (c :: r) w hl (fun u hu => hv u (List.mem_cons_of_mem _ hu)) (by simp) h

theorem sym_app (b : Str) {t w : Str} (hl : t.length ≤ 1000000) (ht : t ≠ []) (h : sym t = .ok w) : sym (t ++ 10 :: b) = .ok w :=
  symA_app b _ t w hl (by decide) ht h

theorem tok_app (b : Str) {p : Nat} {t : Str} {l l1 : List Token} {tc : Bool} {m : Nat} (hl : t.length ≤ 1000000) (ht : t ≠ []) (ho : open92 t) (h : tok p t l tc = .ok (l1, m)) : tok p (t ++ 10 :: b) l tc = .ok (l1, m) := by
  unfold tok at h ⊢
  cases hs : sym t with
  | error e => rw [hs] at h; cases h
  | ok w =>
    rw [hs] at h
    rw [sym_app b hl ht hs]
    match w, hs, h with
    | [], hs, h =>
      dsimp only at h ⊢
      cases hw : wd t.length t with
      | error e => rw [hw] at h; cases h
      | ok y =>
        rcases y with ⟨x, q, n⟩
        rw [hw] at h
        rw [wd_app b t.length (t ++ 10 :: b).length t x q n (Nat.le_refl _) (by simp) ho hw]
        exact h
    | c :: w, hs, h =>
      have hle := (sym_pre hs).length_le
      have hd : (t ++ 10 :: b).drop (c :: w).length = t.drop (c :: w).length ++ 10 :: b := List.drop_append_of_le_length hle
      have hnm : ∀ l2, name (p + (c :: w).length) (t.drop (c :: w).length ++ 10 :: b) l2 = name (p + (c :: w).length) (t.drop (c :: w).length) l2 := by
        intro l2
        unfold name
        rw [nameN_app, List.take_append_of_le_length (nameN_le _)]
      dsimp only at h ⊢
      rw [hd, nameN_app]
      cases hh : hat l ⟨2, p, c :: w, []⟩ tc with
      | error e => rw [hh] at h; cases h
      | ok l2 =>
        rw [hh] at h
        dsimp only at h ⊢
        rw [hnm]
        exact h

/-! ### Tokens are only added -/

theorem push_pre {l l' : List Token} {u : Token} (h : push l u = .ok l') : l <+: l' := by
  obtain ⟨rfl, _⟩ := push_ok h
  exact ⟨[u], rfl⟩

theorem hat_pre {l l' : List Token} {u : Token} {tc : Bool} (h : hat l u tc = .ok l') : l <+: l' := by
  unfold hat at h
  cases ht : hats u tc with
  | false => rw [ht, cond_f] at h; exact push_pre h
  | true =>
    rw [ht, cond_t] at h
    cases hp : push l ⟨2, u.at_, [94], []⟩ with
    | error e => rw [hp] at h; cases h
    | ok l1 => rw [hp] at h; exact (push_pre hp).trans (push_pre h)

theorem name_pre {p : Nat} {t : Str} {l l' : List Token} (h : name p t l = .ok l') : l <+: l' := by
  unfold name at h
  split at h
  · cases h
  · exact push_pre h

theorem tok_pre {p : Nat} {t : Str} {l l' : List Token} {tc : Bool} {m : Nat} (h : tok p t l tc = .ok (l', m)) : l <+: l' := by
  unfold tok at h
  cases hs : sym t with
  | error e => rw [hs] at h; cases h
  | ok w =>
    rw [hs] at h
    match w, hs, h with
    | [], hs, h =>
      dsimp only at h
      cases hw : wd t.length t with
      | error e => rw [hw] at h; cases h
      | ok y =>
        rcases y with ⟨x, q, n⟩
        rw [hw] at h
        dsimp only at h
        cases hh : hat l ⟨1, p, x, q⟩ tc with
        | error e => rw [hh] at h; cases h
        | ok l1 => rw [hh] at h; injection h with h; injection h with h1 h2; subst h1; exact hat_pre hh
    | c :: w, hs, h =>
      dsimp only at h
      cases hh : hat l ⟨2, p, c :: w, []⟩ tc with
      | error e => rw [hh] at h; cases h
      | ok l1 =>
        rw [hh] at h
        dsimp only at h
        cases hd : decide (c :: w = [36]) || decide (c :: w = [36, 35]) with
        | false => rw [hd, cond_f] at h; injection h with h; injection h with h1 h2; subst h1; exact hat_pre hh
        | true =>
          rw [hd, cond_t] at h
          cases hn : name (p + (c :: w).length) (t.drop (c :: w).length) l1 with
          | error e => rw [hn] at h; cases h
          | ok l2 => rw [hn] at h; injection h with h; injection h with h1 h2; subst h1; exact (hat_pre hh).trans (name_pre hn)

theorem nls_pre {p : Nat} {t : Str} {l l' : List Token} {ns : List Str} {m : Nat} (h : nls p t l ns = .ok (l', m)) : l <+: l' := by
  unfold nls at h
  cases hp : push l ⟨3, p, [10], []⟩ with
  | error e => rw [hp] at h; cases h
  | ok l1 =>
    rw [hp] at h
    dsimp only at h
    cases hd : docs ns (t.drop 1) with
    | error e => rcases e with ⟨o, c⟩; rw [hd] at h; cases h
    | ok k => rw [hd] at h; injection h with h; injection h with h1 h2; subst h1; exact push_pre hp

theorem here_pre {p : Nat} {t : Str} {l l' : List Token} {ns ns' : List Str} {m : Nat} (h : here p t l ns = .ok (l', ns', m)) : l <+: l' ∧ ∃ u ∈ l', u.kind_ = 4 := by
  unfold here at h
  cases hx : wd (t.drop (2 + blankN (t.drop 2))).length (t.drop (2 + blankN (t.drop 2))) with
  | error e => rw [hx] at h; cases h
  | ok y =>
    rcases y with ⟨x, q, n⟩
    rw [hx] at h
    dsimp only at h
    by_cases hn : n = 0
    · rw [decide_eq_true hn, cond_t] at h; cases h
    · rw [decide_eq_false hn, cond_f] at h
      cases hp : push l ⟨4, p, x, q⟩ with
      | error e => rw [hp] at h; cases h
      | ok l1 =>
        rw [hp] at h
        injection h with h
        injection h with h1 h2
        subst h1
        obtain ⟨rfl, _⟩ := push_ok hp
        exact ⟨⟨_, rfl⟩, ⟨4, p, x, q⟩, by simp, rfl⟩

theorem lex_pre : ∀ (k p : Nat) (t : Str) (l l' : List Token) (ns : List Str), lex k p t l ns = .ok l' → l <+: l'
  | 0, p, t, l, l', ns, h => by rw [lex] at h; cases h
  | k + 1, p, t, l, l', ns, ho => by
    rw [lex] at ho
    generalize blankN t = b at *
    generalize t.drop b = t' at *
    match t', ho with
    | [], ho =>
      dsimp only at ho
      cases hd : decide (0 < ns.length) with
      | true => rw [hd, cond_t] at ho; cases ho
      | false => rw [hd, cond_f] at ho; injection ho with ho; subst ho; exact List.prefix_refl _
    | c' :: r, ho =>
      dsimp only at ho
      by_cases h35 : c' = 35
      · rw [decide_eq_true h35, cond_t] at ho
        exact lex_pre _ _ _ _ _ _ ho
      · rw [decide_eq_false h35, cond_f] at ho
        by_cases h10 : c' = 10
        · rw [decide_eq_true h10, cond_t] at ho
          cases hq : nls (p + b) (c' :: r) l ns with
          | error e => rw [hq] at ho; cases ho
          | ok y =>
            rcases y with ⟨l1, m⟩
            rw [hq] at ho
            exact (nls_pre hq).trans (lex_pre _ _ _ _ _ _ ho)
        · rw [decide_eq_false h10, cond_f] at ho
          cases h60 : ([60, 60] : Str).isPrefixOf (c' :: r) with
          | true =>
            rw [h60, cond_t] at ho
            cases hq : here (p + b) (c' :: r) l ns with
            | error e => rw [hq] at ho; cases ho
            | ok y =>
              rcases y with ⟨l1, ns1, m⟩
              rw [hq] at ho
              exact (here_pre hq).1.trans (lex_pre _ _ _ _ _ _ ho)
          | false =>
            rw [h60, cond_f] at ho
            cases hq : tok (p + b) (c' :: r) l (lastWord l && decide (b = 0)) with
            | error e => rw [hq] at ho; cases ho
            | ok y =>
              rcases y with ⟨l1, m⟩
              rw [hq] at ho
              exact (tok_pre hq).trans (lex_pre _ _ _ _ _ _ ho)

/-- A run goes the same way with more text behind, up to the end of the line. -/
theorem lex_app (b : Str) : ∀ (k k' p : Nat) (t : Str) (l la : List Token), t.length ≤ 1000000 → open92 t → (∀ u ∈ la, u.kind_ ≠ 4) → t.length + (b.length + 1) < k' → lex k p t l [] = .ok la →
    ∃ k2, b.length + 1 < k2 ∧ lex k' p (t ++ 10 :: b) l [] = lex k2 (p + t.length) (10 :: b) la []
  | 0, k', p, t, l, la, _, _, _, _, h => by rw [lex] at h; cases h
  | k + 1, 0, p, t, l, la, _, _, _, hk, _ => absurd hk (Nat.not_lt_zero _)
  | k + 1, k' + 1, p, t, l, la, hl, ho, h4, hk, h => by
    rw [lex] at h
    have hb := blankN_le t.length t (Nat.le_refl _)
    have hz := blankN_drop t.length t (Nat.le_refl _)
    have ht' : open92 (t.drop (blankN t)) := ho.drop _
    have hdl : (t.drop (blankN t)).length = t.length - blankN t := by simp
    have hd : (t ++ 10 :: b).drop (blankN t) = t.drop (blankN t) ++ 10 :: b := List.drop_append_of_le_length hb
    have hba := blankN_app b t.length t (Nat.le_refl _) ho
    have hgo : ∀ (t' : Str) (bn : Nat), t' = t.drop (blankN t) → bn = blankN t → lex (k' + 1) p (t ++ 10 :: b) l [] = (match t' ++ 10 :: b with
        | [] => bif decide (0 < ([] : List Str).length) then .error (((p + bn : Nat) : Int), 3) else .ok l
        | c :: r =>
          bif decide (c = 35) then lex k' (p + bn + cmt (c :: r)) ((c :: r).drop (cmt (c :: r))) l []
          else bif decide (c = 10) then (match nls (p + bn) (c :: r) l [] with
            | .error e => .error e
            | .ok (l1, m) => lex k' (p + bn + m) ((c :: r).drop m) l1 [])
          else bif ([60, 60] : Str).isPrefixOf (c :: r) then (match here (p + bn) (c :: r) l [] with
            | .error e => .error e
            | .ok (l1, ns1, m) => lex k' (p + bn + m) ((c :: r).drop m) l1 ns1)
          else (match tok (p + bn) (c :: r) l (lastWord l && decide (bn = 0)) with
            | .error e => .error e
            | .ok (l1, m) => lex k' (p + bn + m) ((c :: r).drop m) l1 [])) := by
      intro t' bn e1 e2
      rw [lex, hba, hd, e1, e2]
      rfl
    have hgo := hgo _ _ rfl rfl
    rw [hgo]
    clear hgo hd hba
    generalize blankN t = bn at *
    generalize t.drop bn = t' at *
    have again : ∀ (m : Nat) (l1 : List Token), 1 ≤ m → m ≤ t'.length → lex k (p + bn + m) (t'.drop m) l1 [] = .ok la → ∃ k2, b.length + 1 < k2 ∧ lex k' (p + bn + m) (t'.drop m ++ 10 :: b) l1 [] = lex k2 (p + t.length) (10 :: b) la [] := by
      intro m l1 h1 h2 hr
      obtain ⟨k2, q1, q2⟩ := lex_app b k k' (p + bn + m) (t'.drop m) l1 la (by rw [List.length_drop]; omega) (ht'.drop m) h4 (by rw [List.length_drop]; omega) hr
      refine ⟨k2, q1, ?_⟩
      rw [q2, List.length_drop]
      congr 1
      omega
    match t', hz, ht', hdl, h, again with
    | [], hz, ht', hdl, h, again =>
      dsimp only at h
      injection h with h
      subst h
      refine ⟨k' + 1, by omega, ?_⟩
      have hb0 : blankN (10 :: b) = 0 := by
        match b with
        | [] => rfl
        | d :: r => rfl
      rw [List.nil_append]
      rw [lex, hb0, List.drop_zero]
      simp at hdl
      have e : p + t.length + 0 = p + bn := by omega
      rw [e]
      rfl
    | c :: r, hz, ht', hdl, h, again =>
      dsimp only [List.cons_append] at h ⊢
      by_cases h35 : c = 35
      · rw [decide_eq_true h35, cond_t] at h ⊢
        have hc : 1 ≤ cmt (c :: r) ∧ cmt (c :: r) ≤ (c :: r).length := by
          rcases firstOf 10 (c :: r) with hf | ⟨a, w, hf, ha⟩
          · rw [cmt_free hf]; simp
          · rw [ha, cmt_at w hf]
            match a, ha with
            | [], ha =>
              have : c = 10 := (List.cons.inj ha).1
              rw [h35] at this
              exact absurd this (by decide)
            | e :: a, _ => simp
        have e1 : cmt (c :: (r ++ 10 :: b)) = cmt (c :: r) := cmt_app b (c :: r)
        have e2 : (c :: (r ++ 10 :: b)).drop (cmt (c :: r)) = (c :: r).drop (cmt (c :: r)) ++ 10 :: b := List.drop_append_of_le_length (l₁ := c :: r) hc.2
        rw [e1, e2]
        exact again _ l hc.1 hc.2 h
      · rw [decide_eq_false h35, cond_f] at h ⊢
        by_cases h10 : c = 10
        · rw [decide_eq_true h10, cond_t] at h ⊢
          cases hq : nls (p + bn) (c :: r) l [] with
          | error e => rw [hq] at h; cases h
          | ok y =>
            rcases y with ⟨l1, m⟩
            rw [hq] at h
            obtain ⟨_, g2, g3⟩ := nls_ok (by simp) hq
            have hq' : nls (p + bn) (c :: (r ++ 10 :: b)) l [] = .ok (l1, m) := by rw [← hq]; rfl
            have e2 : (c :: (r ++ 10 :: b)).drop m = (c :: r).drop m ++ 10 :: b := List.drop_append_of_le_length (l₁ := c :: r) g3
            rw [hq']
            dsimp only
            rw [e2]
            exact again m l1 g2 g3 h
        · rw [decide_eq_false h10, cond_f] at h ⊢
          have e6 : ([60, 60] : Str).isPrefixOf (c :: (r ++ 10 :: b)) = ([60, 60] : Str).isPrefixOf (c :: r) := pre_app b [60, 60] (c :: r) (by decide)
          rw [e6]
          cases h60 : ([60, 60] : Str).isPrefixOf (c :: r) with
          | true =>
            exfalso
            rw [h60, cond_t] at h
            cases hq : here (p + bn) (c :: r) l [] with
            | error e => rw [hq] at h; cases h
            | ok y =>
              rcases y with ⟨l1, ns1, m⟩
              rw [hq] at h
              obtain ⟨_, u, hu, hk4⟩ := here_pre hq
              exact h4 u ((lex_pre _ _ _ _ _ _ h).subset hu) hk4
          | false =>
            rw [h60, cond_f] at h
            rw [cond_f]
            cases hq : tok (p + bn) (c :: r) l (lastWord l && decide (bn = 0)) with
            | error e => rw [hq] at h; cases h
            | ok y =>
              rcases y with ⟨l1, m⟩
              rw [hq] at h
              obtain ⟨_, g2, g3⟩ := tok_ok hz h10 hq
              have hq' : tok (p + bn) (c :: (r ++ 10 :: b)) l (lastWord l && decide (bn = 0)) = .ok (l1, m) := tok_app b (t := c :: r) (by omega) (by simp) ht' hq
              have e2 : (c :: (r ++ 10 :: b)).drop m = (c :: r).drop m ++ 10 :: b := List.drop_append_of_le_length (l₁ := c :: r) g3
              rw [hq']
              dsimp only
              rw [e2]
              exact again m l1 g2 g3 h

theorem push_front {l0 l l' : List Token} {u : Token} (h : push l u = .ok l') (hl : l0.length + l'.length ≤ 1024) : push (l0 ++ l) u = .ok (l0 ++ l') := by
  obtain ⟨rfl, _⟩ := push_ok h
  unfold push
  rw [if_neg (by simp at hl ⊢; omega), List.append_assoc]

theorem hat_front {l0 l l' : List Token} {u : Token} {tc : Bool} (h : hat l u tc = .ok l') (hl : l0.length + l'.length ≤ 1024) : hat (l0 ++ l) u tc = .ok (l0 ++ l') := by
  unfold hat at h ⊢
  cases ht : hats u tc with
  | false => rw [ht, cond_f] at h; rw [cond_f]; exact push_front h hl
  | true =>
    rw [ht, cond_t] at h
    rw [cond_t]
    cases hp : push l ⟨2, u.at_, [94], []⟩ with
    | error e => rw [hp] at h; cases h
    | ok l1 =>
      rw [hp] at h
      have := (push_pre h).length_le
      rw [push_front hp (by omega)]
      exact push_front h hl

theorem name_front {p : Nat} {t : Str} {l0 l l' : List Token} (h : name p t l = .ok l') (hl : l0.length + l'.length ≤ 1024) : name p t (l0 ++ l) = .ok (l0 ++ l') := by
  unfold name at h ⊢
  split at h
  · cases h
  · rename_i hn
    rw [if_neg hn]
    exact push_front h hl

theorem tok_front {p : Nat} {t : Str} {l0 l l' : List Token} {tc : Bool} {m : Nat} (h : tok p t l tc = .ok (l', m)) (hl : l0.length + l'.length ≤ 1024) : tok p t (l0 ++ l) tc = .ok (l0 ++ l', m) := by
  unfold tok at h ⊢
  cases hs : sym t with
  | error e => rw [hs] at h; cases h
  | ok w =>
    rw [hs] at h
    match w, hs, h with
    | [], hs, h =>
      dsimp only at h ⊢
      cases hw : wd t.length t with
      | error e => rw [hw] at h; cases h
      | ok y =>
        rcases y with ⟨x, q, n⟩
        rw [hw] at h
        dsimp only at h ⊢
        cases hh : hat l ⟨1, p, x, q⟩ tc with
        | error e => rw [hh] at h; cases h
        | ok l1 => rw [hh] at h; injection h with h; injection h with h1 h2; subst h1; subst h2; rw [hat_front hh hl]
    | c :: w, hs, h =>
      dsimp only at h ⊢
      cases hh : hat l ⟨2, p, c :: w, []⟩ tc with
      | error e => rw [hh] at h; cases h
      | ok l1 =>
        rw [hh] at h
        dsimp only at h
        cases hd : decide (c :: w = [36]) || decide (c :: w = [36, 35]) with
        | false => rw [hd, cond_f] at h; injection h with h; injection h with h1 h2; subst h1; subst h2; rw [hat_front hh hl]; rfl
        | true =>
          rw [hd, cond_t] at h
          cases hn : name (p + (c :: w).length) (t.drop (c :: w).length) l1 with
          | error e => rw [hn] at h; cases h
          | ok l2 =>
            rw [hn] at h
            injection h with h; injection h with h1 h2; subst h1; subst h2
            have := (name_pre hn).length_le
            rw [hat_front hh (by omega)]
            dsimp only
            rw [cond_t, name_front hn hl]

theorem nls_front {p : Nat} {t : Str} {l0 l l' : List Token} {ns : List Str} {m : Nat} (h : nls p t l ns = .ok (l', m)) (hl : l0.length + l'.length ≤ 1024) : nls p t (l0 ++ l) ns = .ok (l0 ++ l', m) := by
  unfold nls at h ⊢
  cases hp : push l ⟨3, p, [10], []⟩ with
  | error e => rw [hp] at h; cases h
  | ok l1 =>
    rw [hp] at h
    dsimp only at h
    cases hd : docs ns (t.drop 1) with
    | error e => rcases e with ⟨o, c⟩; rw [hd] at h; cases h
    | ok k => rw [hd] at h; injection h with h; injection h with h1 h2; subst h1; subst h2; rw [push_front hp hl]

theorem here_front {p : Nat} {t : Str} {l0 l l' : List Token} {ns ns' : List Str} {m : Nat} (h : here p t l ns = .ok (l', ns', m)) (hl : l0.length + l'.length ≤ 1024) : here p t (l0 ++ l) ns = .ok (l0 ++ l', ns', m) := by
  unfold here at h ⊢
  cases hx : wd (t.drop (2 + blankN (t.drop 2))).length (t.drop (2 + blankN (t.drop 2))) with
  | error e => rw [hx] at h; cases h
  | ok y =>
    rcases y with ⟨x, q, n⟩
    rw [hx] at h
    dsimp only at h ⊢
    by_cases hn : n = 0
    · rw [decide_eq_true hn, cond_t] at h; cases h
    · rw [decide_eq_false hn, cond_f] at h ⊢
      cases hp : push l ⟨4, p, x, q⟩ with
      | error e => rw [hp] at h; cases h
      | ok l1 =>
        rw [hp] at h
        injection h with h; injection h with h1 h2; injection h2 with h2 h3
        subst h1; subst h2; subst h3
        rw [push_front hp hl]

theorem last_front {l0 : List Token} (h0 : lastWord l0 = false) (l : List Token) : lastWord (l0 ++ l) = lastWord l := by
  by_cases h : l = []
  · subst h
    rw [List.append_nil, h0]
    rfl
  · unfold lastWord
    have e : (l0 ++ l).getLast? = l.getLast? := by
      rw [List.getLast?_append]
      rw [List.getLast?_eq_some_getLast h]
      rfl
    rw [e]

theorem lex_front {l0 : List Token} (h0 : lastWord l0 = false) : ∀ (k p : Nat) (t : Str) (l l' : List Token) (ns : List Str), lex k p t l ns = .ok l' → l0.length + l'.length ≤ 1024 → lex k p t (l0 ++ l) ns = .ok (l0 ++ l')
  | 0, p, t, l, l', ns, h, _ => by rw [lex] at h; cases h
  | k + 1, p, t, l, l', ns, ho, hl => by
    rw [lex] at ho ⊢
    rw [last_front h0]
    generalize blankN t = b at *
    generalize t.drop b = t' at *
    match t', ho with
    | [], ho =>
      dsimp only at ho ⊢
      cases hd : decide (0 < ns.length) with
      | true => rw [hd, cond_t] at ho; cases ho
      | false => rw [hd, cond_f] at ho; injection ho with ho; subst ho; rfl
    | c' :: r, ho =>
      dsimp only at ho ⊢
      by_cases h35 : c' = 35
      · rw [decide_eq_true h35, cond_t] at ho ⊢
        exact lex_front h0 _ _ _ _ _ _ ho hl
      · rw [decide_eq_false h35, cond_f] at ho ⊢
        by_cases h10 : c' = 10
        · rw [decide_eq_true h10, cond_t] at ho ⊢
          cases hq : nls (p + b) (c' :: r) l ns with
          | error e => rw [hq] at ho; cases ho
          | ok y =>
            rcases y with ⟨l1, m⟩
            rw [hq] at ho
            have := (lex_pre _ _ _ _ _ _ ho).length_le
            rw [nls_front hq (by omega)]
            exact lex_front h0 _ _ _ _ _ _ ho hl
        · rw [decide_eq_false h10, cond_f] at ho ⊢
          cases h60 : ([60, 60] : Str).isPrefixOf (c' :: r) with
          | true =>
            rw [h60, cond_t] at ho
            rw [cond_t]
            cases hq : here (p + b) (c' :: r) l ns with
            | error e => rw [hq] at ho; cases ho
            | ok y =>
              rcases y with ⟨l1, ns1, m⟩
              rw [hq] at ho
              have := (lex_pre _ _ _ _ _ _ ho).length_le
              rw [here_front hq (by omega)]
              exact lex_front h0 _ _ _ _ _ _ ho hl
          | false =>
            rw [h60, cond_f] at ho
            rw [cond_f]
            cases hq : tok (p + b) (c' :: r) l (lastWord l && decide (b = 0)) with
            | error e => rw [hq] at ho; cases ho
            | ok y =>
              rcases y with ⟨l1, m⟩
              rw [hq] at ho
              have := (lex_pre _ _ _ _ _ _ ho).length_le
              rw [tok_front hq (by omega)]
              exact lex_front h0 _ _ _ _ _ _ ho hl

theorem lex_of {s : Str} {l : List Token} (hl : s.length ≤ 65536) (h : F10 s = some (l, 0, 0)) (k : Nat) (hk : s.length < k) : lex k 0 s [] [] = .ok l := by
  have h1 := F10_any s hl k hk
  cases hx : lex k 0 s [] [] with
  | ok l1 =>
    rw [hx] at h1
    have h2 : F10 s = some (l1, 0, 0) := h1
    rw [h] at h2
    injection h2 with h2
    injection h2 with h2 h3
    rw [h2]
  | error e =>
    rcases e with ⟨q, c⟩
    rw [hx] at h1
    have h2 := h1.1
    rw [h] at h2
    injection h2 with h2
    injection h2 with h2 h3
    injection h3 with h3 h4
    exact absurd h4.symm h1.2

theorem join10 {a b : Str} {la lb : List Token} (ha : a.length ≤ 1000) (hb : b.length ≤ 1000) (ho : open92 a) (h1 : F10 a = some (la, 0, 0)) (h2 : F10 b = some (lb, 0, 0)) (h4 : ∀ u ∈ la, u.kind_ ≠ 4) (hn : la.length + 1 + lb.length ≤ 1024) :
    F10 (a ++ 10 :: b) = some (la ++ [⟨3, (a.length : Int), [10], []⟩] ++ shs (a.length + 1) lb, 0, 0) := by
  have hla := lex_of (by omega) h1 (a.length + b.length + 5) (by omega)
  obtain ⟨k2, q1, q2⟩ := lex_app b (a.length + b.length + 5) (a.length + b.length + 5) 0 a [] la (by omega) ho h4 (by omega) hla
  have h3 := F10_any (a ++ 10 :: b) (by simp; omega) (a.length + b.length + 5) (by simp; omega)
  rw [q2, Nat.zero_add] at h3
  match k2, q1 with
  | k3 + 1, q1 =>
    have hb0 : blankN (10 :: b) = 0 := by
      match b with
      | [] => rfl
      | d :: r => rfl
    have hp : push la ⟨3, (a.length : Int), [10], []⟩ = .ok (la ++ [⟨3, (a.length : Int), [10], []⟩]) := by
      unfold push
      rw [if_neg (by omega)]
    have hlb := lex_of (by omega) h2 k3 (by omega)
    have hsh : lex k3 (a.length + 1) b [] [] = .ok (shs (a.length + 1) lb) := by
      rcases lex_sh (a.length + 1) k3 0 b [] [] with h | h
      · rw [Nat.zero_add, hlb] at h
        exact h
      · omega
    have hl0 : lastWord (la ++ [⟨3, (a.length : Int), [10], []⟩]) = false := by
      unfold lastWord
      rw [List.getLast?_append]
      rfl
    have hf := lex_front hl0 k3 (a.length + 1) b [] (shs (a.length + 1) lb) [] hsh (by unfold shs; simp; omega)
    have hstep : lex (k3 + 1) a.length (10 :: b) la [] = lex k3 (a.length + 1) b (la ++ [⟨3, (a.length : Int), [10], []⟩]) [] := by
      rw [lex, hb0, List.drop_zero]
      dsimp only
      rw [decide_eq_false (p := (10 : UInt8) = 35) (by decide), cond_f, decide_eq_true (p := (10 : UInt8) = 10) rfl, cond_t, Nat.add_zero]
      unfold nls
      rw [hp]
      rfl
    rw [hstep] at h3
    rw [List.append_nil] at hf
    rw [hf] at h3
    exact h3

theorem loop7 {a b : Str} {la lb : List Token} (ha : a.length ≤ 1000) (hb : b.length ≤ 1000) (ho : open92 a) (h1 : F10 a = some (la, 0, 0)) (h2 : F10 b = some (lb, 0, 0)) (hn : la.length + 1 + lb.length ≤ 1024) (hu : ∀ u ∈ lb, 0 ≤ u.at_ ∧ u.at_ ≤ 1000000) :
    iter (F7_b1 la a lb b) BIG 0 = some true := by
  refine iter_big (α := Int) (fun i => ∃ j : Nat, i = j ∧ j ≤ la.length ∧ ∀ u ∈ la.take j, u.kind_ ≠ 4) (fun i => la.length - i.toNat) (fun _ => some true) ?_ 0 ⟨0, rfl, Nat.zero_le _, by simp⟩ (by simp; omega)
  rintro again i ⟨j, rfl, hj, hk⟩ hag
  rw [F7_b1]
  by_cases h : j < la.length
  · rw [decide_eq_true (by omega), cond_t, lidx_at h, Option.bind_some]
    by_cases h4 : la[j].kind_ = 4
    · rw [decide_eq_true h4, cond_t, alive]
      rfl
    · rw [decide_eq_false h4, cond_f, wrap64 (by omega) (by omega)]
      refine hag _ ⟨j + 1, by simp, h, fun u hu => ?_⟩ (by simp; omega)
      rw [List.take_succ_eq_append_getElem h] at hu
      rcases List.mem_append.1 hu with hu | hu
      · exact hk u hu
      · rw [List.mem_singleton] at hu
        rw [hu]
        exact h4
  · rw [List.take_of_length_le (by omega)] at hk
    have hj10 := join10 ha hb ho h1 h2 hk hn
    rw [decide_eq_false (by omega), cond_f, appO, if_pos (by simp; omega), Option.bind_some, List.nil_append, appO, if_pos (by simp; omega), Option.bind_some, wrap64 (by omega) (by omega)]
    have e1 : (a.length : Int) + 1 = ((a.length + 1 : Nat) : Int) := by omega
    rw [e1, F17_eq lb (a.length + 1) (by omega) (by omega) hu, Option.bind_some, appO, if_pos (by unfold shs; simp; omega), Option.bind_some, catO_eq (by simp; omega), Option.bind_some, catO_eq (by simp; omega), Option.bind_some]
    have e2 : a ++ [10] ++ b = a ++ 10 :: b := by simp
    rw [e2, hj10, Option.bind_some]
    dsimp only
    rw [decide_eq_true (p := (0 : Int) = 0) rfl]
    simp only [guardO, cond_t]
    rw [F16_eq _ (by unfold shs; simp; omega), Option.bind_some]
    simp only [Bool.and_true, cond_t, alive, Option.bind_some]

theorem law7 (a : Str) (w0 : a.length ≤ maxLen) (b : Str) (w1 : b.length ≤ maxLen) : F7 a b = some true := by
  unfold F7
  cases hbig : decide (1000 < (a.length : Int)) || decide (1000 < (b.length : Int)) with
  | true =>
    simp only [Bool.not_true, Bool.false_and, guardO, cond_f, Option.bind_some, Bool.true_or, cond_t, alive]
  | false =>
    have hab : a.length ≤ 1000 ∧ b.length ≤ 1000 := by
      simp only [Bool.or_eq_false_iff, decide_eq_false_iff_not] at hbig
      omega
    -- the rest, once a does not end in a backslash
    have rest : open92 a → ((F10 a).bind fun (r11, r12, r13) => (F10 b).bind fun (r16, r17, r18) =>
        (bif ((!decide (r13 = 0) || !decide (r18 = 0)) || decide (1024 < IntKind.wrap .i64 ((IntKind.wrap .i64 ((r11.length : Int) + 1)) + (r16.length : Int)))) then
          (F8).bind fun r22 => some r22
        else iter (F7_b1 r11 a r16 b) BIG 0)) = some true := by
      intro ho
      have ha := F10_eq a (by omega)
      have hb := F10_eq b (by omega)
      cases hx : lex (a.length + 1) 0 a [] [] with
      | error e =>
        rcases e with ⟨q, c⟩
        rw [hx] at ha
        cases hy : lex (b.length + 1) 0 b [] [] with
        | error e' =>
          rcases e' with ⟨q', c'⟩
          rw [hy] at hb
          rw [ha.1, Option.bind_some]
          dsimp only
          rw [hb.1, Option.bind_some]
          dsimp only
          rw [decide_eq_false ha.2, alive]
          rfl
        | ok lb =>
          rw [hy] at hb
          have hb' : F10 b = some (lb, 0, 0) := hb
          rw [ha.1, Option.bind_some]
          dsimp only
          rw [hb', Option.bind_some]
          dsimp only
          rw [decide_eq_false ha.2, alive]
          rfl
      | ok la =>
        rw [hx] at ha
        have ha' : F10 a = some (la, 0, 0) := ha
        have hla := lex_len _ _ _ _ _ _ (by simp) hx
        cases hy : lex (b.length + 1) 0 b [] [] with
        | error e' =>
          rcases e' with ⟨q', c'⟩
          rw [hy] at hb
          rw [ha', Option.bind_some]
          dsimp only
          rw [hb.1, Option.bind_some]
          dsimp only
          rw [decide_eq_false hb.2, alive]
          rfl
        | ok lb =>
          rw [hy] at hb
          have hb' : F10 b = some (lb, 0, 0) := hb
          have hlb := lex_len _ _ _ _ _ _ (by simp) hy
          have hi := lex_inv (s := b) (b.length + 1) b [] [] lb [] rfl ⟨List.Pairwise.nil, by simp⟩ hy
          rw [ha', Option.bind_some]
          dsimp only
          rw [hb', Option.bind_some]
          dsimp only
          rw [decide_eq_true (p := (0 : Int) = 0) rfl, Bool.not_true, Bool.false_or, Bool.false_or, wrap64 (n := (la.length : Int) + 1) (by omega) (by omega), wrap64 (by omega) (by omega)]
          by_cases hn : 1024 < (la.length : Int) + 1 + (lb.length : Int)
          · rw [decide_eq_true hn, cond_t, alive]
            rfl
          · rw [decide_eq_false hn, cond_f]
            exact loop7 hab.1 hab.2 ho ha' hb' (by omega) fun u hu => ⟨(hi.2 u hu).1.1, by have := (hi.2 u hu).1.2.1; omega⟩
    by_cases h0 : a = []
    · subst h0
      have := rest (by unfold open92; simp)
      simp only [List.length_nil, Bool.not_false, Bool.true_and, guardO, show decide ((0 : Int) < ((0 : Nat) : Int)) = false from rfl, cond_f, Option.bind_some, Bool.false_and, Bool.or_false]
      exact this
    · have hpos : 0 < a.length := List.length_pos_iff.2 h0
      have hsx : sidx a (IntKind.wrap .i64 ((a.length : Int) - 1)) = some (B (a.getLast h0)) := by
        rw [wrap64 (by omega) (by omega), show (a.length : Int) - 1 = ((a.length - 1 : Nat) : Int) by omega, sidx_nat, ← List.getLast?_eq_getElem?, List.getLast?_eq_some_getLast h0]
        rfl
      rw [decide_eq_true (p := (0 : Int) < (a.length : Int)) (by omega), hsx]
      simp only [Bool.not_false, Bool.true_and, guardO, cond_t, Option.bind_some, Bool.false_or]
      by_cases h92 : a.getLast h0 = 92
      · rw [h92, show decide (B 92 = 92) = true from rfl, cond_t, alive]
        rfl
      · have hc : decide (B (a.getLast h0) = 92) = false := Bf (d := 92) rfl h92
        rw [hc, cond_f]
        exact rest (by unfold open92; rw [List.getLast?_eq_some_getLast h0]; intro e; injection e with e; exact h92 e)

end Go.Abs.U47
