/- LexScans, in plain Lean: the program's scanner and the reference's compute the same -/
import Derived.Test.YtdmihmnegakgbaaGreatDoorD1
import Derived.Test.YtdmihmnegakgbaaGreatDoorTY
import Derived.Lib.IndexBytes
import Derived.Lib.IndexLaws
import Derived.Lib.TrimUEq
import Derived.Lib.SplitLaws
set_option linter.unusedVariables false
set_option linter.unusedSimpArgs false
namespace Go.Abs

def loopR {α R : Type} (G : α → Int → Option R → Option R) (fin : Option R) : List α → Int → Option R
  | [], _ => fin
  | x :: xs, i => G x i (loopR G fin xs (i + 1))

def loopS {α S R : Type} (G : α → Int → (S → Option R) → S → Option R) (fin : S → Option R) : List α → Int → S → Option R
  | [], _, s => fin s
  | x :: xs, i, s => G x i (loopS G fin xs (i + 1)) s

theorem wrap64 {n : Int} (h1 : -9223372036854775808 ≤ n) (h2 : n ≤ 9223372036854775807) : IntKind.wrap .i64 n = n := wrap_i64_id h1 h2

theorem lidx_nat {α : Type} (xs : List α) (i : Nat) : lidx xs (i : Int) = xs[i]? := by
  unfold lidx
  rw [if_pos (Int.natCast_nonneg i), Int.toNat_natCast]

theorem lidx_at {α : Type} {xs : List α} {i : Nat} (h : i < xs.length) : lidx xs (i : Int) = some xs[i] := by
  rw [lidx_nat, List.getElem?_eq_getElem h]

theorem sidx_nat (s : List UInt8) (i : Nat) : sidx s (i : Int) = s[i]?.map fun c => (c.toNat : Int) := by
  unfold sidx
  rw [if_pos (Int.natCast_nonneg i), Int.toNat_natCast]

theorem sidx_at {s : List UInt8} {i : Nat} (h : i < s.length) : sidx s (i : Int) = some (s[i].toNat : Int) := by
  rw [sidx_nat, List.getElem?_eq_getElem h]
  rfl

theorem drop_at {α : Type} {l : List α} {j : Nat} (h : j < l.length) : l.drop j = l[j] :: l.drop (j + 1) := List.drop_eq_getElem_cons h

theorem iter_range {α R : Type} {body : (Int → Option R) → Int → Option R} (l : List α) (G : α → Int → Option R → Option R) (fin : Option R)
    (hb : ∀ again i, body again i = bif decide (i < (l.length : Int)) then (lidx l i).bind (fun x => G x i (again (IntKind.wrap .i64 (i + 1)))) else fin) (hl : l.length ≤ 9223372036854775807) :
    iter body BIG 0 = loopR G fin l 0 := by
  have h : ∀ (n j : Nat), j ≤ l.length → l.length - j < n → iter body n (j : Int) = loopR G fin (l.drop j) j := by
    intro n
    induction n with
    | zero => intro j _ h; omega
    | succ n ih =>
      intro j hj hn
      show body (iter body n) j = _
      rw [hb]
      by_cases hlt : j < l.length
      · rw [decide_eq_true (by omega), lidx_at hlt, drop_at hlt]
        simp only [cond_true, Option.bind_some, loopR]
        rw [wrap64 (by omega) (by omega)]
        congr 1
        exact ih (j + 1) (by omega) (by omega)
      · rw [decide_eq_false (by omega), List.drop_eq_nil_of_le (by omega)]
        rfl
  exact h BIG 0 (Nat.zero_le _) (by unfold BIG; omega)

theorem iter_rangeS {α S R : Type} {body : (Int × S → Option R) → Int × S → Option R} (l : List α) (G : α → Int → (S → Option R) → S → Option R) (fin : S → Option R)
    (hb : ∀ again i s, body again (i, s) = bif decide (i < (l.length : Int)) then (lidx l i).bind (fun x => G x i (fun s' => again (IntKind.wrap .i64 (i + 1), s')) s) else fin s) (hl : l.length ≤ 9223372036854775807) (s : S) :
    iter body BIG (0, s) = loopS G fin l 0 s := by
  have h : ∀ (n j : Nat) (s : S), j ≤ l.length → l.length - j < n → iter body n ((j : Int), s) = loopS G fin (l.drop j) j s := by
    intro n
    induction n with
    | zero => intro j _ _ h; omega
    | succ n ih =>
      intro j s hj hn
      show body (iter body n) (j, s) = _
      rw [hb]
      by_cases hlt : j < l.length
      · rw [decide_eq_true (by omega), lidx_at hlt, drop_at hlt]
        simp only [cond_true, Option.bind_some, loopS]
        rw [wrap64 (by omega) (by omega)]
        congr 1
        funext s'
        exact ih (j + 1) s' (by omega) (by omega)
      · rw [decide_eq_false (by omega), List.drop_eq_nil_of_le (by omega)]
        rfl
  exact h BIG 0 s (Nat.zero_le _) (by unfold BIG; omega)

def B (c : UInt8) : Int := (c.toNat : Int)

theorem iter_rangeB {R : Type} {body : (Int → Option R) → Int → Option R} (s : List UInt8) (G : Int → Int → Option R → Option R) (fin : Option R)
    (hb : ∀ again i, body again i = bif decide (i < (s.length : Int)) then (sidx s i).bind (fun x => G x i (again (IntKind.wrap .i64 (i + 1)))) else fin) (hl : s.length ≤ 9223372036854775807) :
    iter body BIG 0 = loopR G fin (s.map B) 0 := by
  have h : ∀ (n j : Nat), j ≤ s.length → s.length - j < n → iter body n (j : Int) = loopR G fin ((s.drop j).map B) j := by
    intro n
    induction n with
    | zero => intro j _ h; omega
    | succ n ih =>
      intro j hj hn
      show body (iter body n) j = _
      rw [hb]
      by_cases hlt : j < s.length
      · rw [decide_eq_true (by omega), sidx_at hlt, drop_at hlt]
        simp only [cond_true, Option.bind_some, loopR, List.map_cons]
        rw [wrap64 (by omega) (by omega)]
        unfold B
        congr 1
        exact ih (j + 1) (by omega) (by omega)
      · rw [decide_eq_false (by omega), List.drop_eq_nil_of_le (by omega)]
        rfl
  exact h BIG 0 (Nat.zero_le _) (by unfold BIG; omega)

theorem byte_eq (a b : UInt8) : decide ((a.toNat : Int) = (b.toNat : Int)) = decide (a = b) := by
  rw [Bool.eq_iff_iff, decide_eq_true_eq, decide_eq_true_eq, Int.ofNat_inj]
  exact ⟨fun h => UInt8.toNat_inj.1 h, fun h => by rw [h]⟩

theorem cond_f {α : Type} (a b : α) : (bif false then a else b) = b := rfl
theorem cond_t {α : Type} (a b : α) : (bif true then a else b) = a := rfl

end Go.Abs

namespace Go.Abs.U47
open Go

theorem alive : F4 = some true := by kernel_rfl

theorem indexByte_free (c : UInt8) : ∀ a : Str, c ∉ a → Lib.indexByte a c = -1
  | [], _ => rfl
  | x :: a, h => by
    simp only [List.mem_cons, not_or] at h
    have ih := indexByte_free c a h.2
    have h3 : ¬ x = c := fun e => h.1 e.symm
    simp [Lib.indexByte, ih, h3]

theorem indexByte_at (c : UInt8) (b : Str) : ∀ a : Str, c ∉ a → Lib.indexByte (a ++ c :: b) c = (a.length : Int)
  | [], _ => by simp [Lib.indexByte]
  | x :: a, h => by
    simp only [List.mem_cons, not_or] at h
    have ih := indexByte_at c b a h.2
    have h1 : ¬ ((a.length : Int) = -1) := by omega
    have h3 : ¬ x = c := fun e => h.1 e.symm
    simp [Lib.indexByte, ih, h3, h1]

theorem cut_free {c : UInt8} {a : Str} (h : c ∉ a) : Lib.cut a [c] = (a, [], false) := by
  unfold Lib.cut
  rw [Lib.index_one, indexByte_free c a h]
  rfl

theorem cut_at {c : UInt8} {a : Str} (b : Str) (h : c ∉ a) : Lib.cut (a ++ c :: b) [c] = (a, b, true) := by
  unfold Lib.cut
  rw [Lib.index_one, indexByte_at c b a h, if_pos (by omega)]
  simp

theorem firstOf (c : UInt8) : ∀ t : Str, c ∉ t ∨ ∃ a b, c ∉ a ∧ t = a ++ c :: b
  | [] => .inl (by simp)
  | x :: t => by
    by_cases h : x = c
    · exact .inr ⟨[], t, by simp, by rw [h]; rfl⟩
    · rcases firstOf c t with h1 | ⟨a, b, h1, h2⟩
      · exact .inl (by simp only [List.mem_cons, not_or]; exact ⟨fun e => h e.symm, h1⟩)
      · exact .inr ⟨x :: a, b, by simp only [List.mem_cons, not_or]; exact ⟨fun e => h e.symm, h1⟩, by rw [h2]; rfl⟩

theorem sidx_mid (pre : Str) (c : UInt8) (r : Str) : sidx (pre ++ c :: r) (pre.length : Int) = some (B c) := by
  rw [sidx_nat]
  simp [B]

theorem sslice_end (pre : Str) (r : Str) : sslice (pre ++ r) (pre.length : Int) ((pre ++ r).length : Int) = some r := by
  unfold sslice
  rw [if_pos ⟨by omega, by simp only [List.length_append]; omega, by omega⟩]
  have : (((pre ++ r).length : Int)).toNat - (pre.length : Int).toNat = r.length := by simp only [List.length_append]; omega
  rw [this, Int.toNat_natCast]
  simp

theorem sslice_part (pre a r : Str) : sslice (pre ++ a ++ r) (pre.length : Int) ((pre ++ a).length : Int) = some a := by
  unfold sslice
  rw [if_pos ⟨by omega, by simp only [List.length_append]; omega, by simp only [List.length_append]; omega⟩]
  have : (((pre ++ a).length : Int)).toNat - (pre.length : Int).toNat = a.length := by simp only [List.length_append]; omega
  rw [this, Int.toNat_natCast]
  simp

theorem Bf {c d : UInt8} {k : Int} (hk : B d = k) (h : c ≠ d) : decide (B c = k) = false := by
  subst hk
  exact (byte_eq c d).trans (decide_eq_false h)

/-- The end of a line is found. -/
theorem scan15 (s e : Str) (from_ at_ : Int) (again9 : Int → Option (Str × Int × Int)) (hl : s.length ≤ 1000000) : ∀ (a pre rest : Str) (n : Nat), (10 : UInt8) ∉ a → s = pre ++ a ++ rest → (rest = [] ∨ ∃ b, rest = 10 :: b) → a.length < n →
    iter (F54_b3 s from_ e at_ again9) n (pre.length : Int) = (sslice s from_ ((pre ++ a).length : Int)).bind fun t21 =>
      bif decide (t21 = e) then (sslice s at_ from_).bind fun t25 => some (t25, imin (((pre ++ a).length : Int) + 1) (s.length : Int), 0)
      else again9 (((pre ++ a).length : Int) + 1)
  | _, _, _, 0, _, _, _, h => absurd h (Nat.not_lt_zero _)
  | [], pre, rest, n + 1, h10, hs, hr, hn => by
    have hlen : s.length = pre.length + rest.length := by rw [hs]; simp
    show F54_b3 s _ _ _ _ _ _ = _
    rw [F54_b3]
    rcases hr with rfl | ⟨b, rfl⟩
    · have he : decide ((pre.length : Int) < (s.length : Int)) = false := decide_eq_false (by simp at hlen; omega)
      rw [he]
      simp only [guardO, cond_f, Option.bind_some, Bool.false_and, List.append_nil]
      rw [wrap64 (by omega) (by omega)]
    · have he : decide ((pre.length : Int) < (s.length : Int)) = true := decide_eq_true (by simp at hlen; omega)
      have h1 : sidx s (pre.length : Int) = some (B 10) := by rw [hs, List.append_nil]; exact sidx_mid pre 10 b
      have h2 : decide (B 10 = 10) = true := by decide
      rw [he, h1]
      simp only [guardO, cond_t, Option.bind_some, Bool.true_and, h2, Bool.not_true, cond_f, List.append_nil]
      rw [wrap64 (by omega) (by omega)]
  | c :: a, pre, rest, n + 1, h10, hs, hr, hn => by
    simp only [List.mem_cons, not_or] at h10
    have hlen : s.length = pre.length + (a.length + 1) + rest.length := by rw [hs]; simp; omega
    have he : decide ((pre.length : Int) < (s.length : Int)) = true := decide_eq_true (by omega)
    have h1 : sidx s (pre.length : Int) = some (B c) := by
      rw [hs, List.append_assoc]
      exact sidx_mid pre c (a ++ rest)
    have h2 : decide (B c = 10) = false := Bf (d := 10) rfl fun e => h10.1 e.symm
    show F54_b3 s _ _ _ _ _ _ = _
    rw [F54_b3, he, h1]
    simp only [guardO, cond_t, Option.bind_some, Bool.true_and, h2, Bool.not_false]
    rw [wrap64 (by omega) (by omega)]
    have ih := scan15 s e from_ at_ again9 hl a (pre ++ [c]) rest n h10.2 (by rw [hs]; simp) hr (by simp at hn; omega)
    have e1 : ((pre ++ [c]).length : Int) = (pre.length : Int) + 1 := by simp
    have e2 : pre ++ [c] ++ a = pre ++ c :: a := by simp
    rw [e1, e2] at ih
    exact ih

/-- What both answer, from the lines and the places behind them. -/
def res (e : Str) : Str → List Str → List Int → Str × Int × Int
  | d, a :: L, x :: E => if a = e then (d, x, 0) else res e (d ++ (a ++ [10])) L E
  | _, _, _ => ([], 0, 3)

def glueNL (L : List Str) : Str := L.flatMap (· ++ [10])

theorem both {s e pre : Str} (hl : s.length ≤ 1000000) : ∀ (k : Nat) (t d : Str), t.length ≤ k → s = pre ++ d ++ t → ∃ (L : List Str) (E : List Int), L.length = E.length ∧ L.length ≤ t.length ∧ (glueNL L).length ≤ t.length + 1 ∧
    (∀ n ls es, t.length < n → ls.length + t.length ≤ 3000000 → es.length + t.length ≤ 3000000 → iter (F20_b1 s) n (((pre ++ d).length : Int), ls, es) = some (ls ++ L, es ++ E)) ∧
    (∀ n, t.length < n → iter (F54_b2 s e (pre.length : Int)) n ((pre ++ d).length : Int) = some (res e d L E)) := by
  have empty : ∀ (t d : Str), t = [] → s = pre ++ d ++ t → 
    (∀ n ls es, t.length < n → iter (F20_b1 s) n (((pre ++ d).length : Int), ls, es) = some (ls, es)) ∧
    (∀ n (p : Int), t.length < n → (s.length : Int) ≤ p → iter (F54_b2 s e (pre.length : Int)) n p = some ([], 0, 3)) := by
    intro t d ht hs
    subst ht
    have hlen : s.length = (pre ++ d).length := by rw [hs]; simp
    refine ⟨fun n ls es hn => ?_, fun n p hn hp => ?_⟩
    · match n, hn with
      | n + 1, _ =>
        show F20_b1 s _ _ = _
        rw [F20_b1, decide_eq_false (by omega), cond_f]
    · match n, hn with
      | n + 1, _ =>
        show F54_b2 s _ _ _ _ = _
        rw [F54_b2, decide_eq_false (by omega), cond_f]
  intro k
  induction k with
  | zero =>
    intro t d ht hs
    have ht : t = [] := List.length_eq_zero_iff.1 (by omega)
    have hE := empty t d ht hs
    subst ht
    have hlen : s.length = (pre ++ d).length := by rw [hs]; simp
    exact ⟨[], [], rfl, Nat.le_refl _, by simp [glueNL], fun n ls es hn _ _ => by rw [List.append_nil, List.append_nil]; exact hE.1 n ls es hn, fun n hn => hE.2 n _ hn (by omega)⟩
  | succ k ih =>
    intro t d ht hs
    by_cases h0 : t = []
    · have hE := empty t d h0 hs
      subst h0
      have hlen : s.length = (pre ++ d).length := by rw [hs]; simp
      exact ⟨[], [], rfl, Nat.le_refl _, by simp [glueNL], fun n ls es hn _ _ => by rw [List.append_nil, List.append_nil]; exact hE.1 n ls es hn, fun n hn => hE.2 n _ hn (by omega)⟩
    have hpos : 0 < t.length := List.length_pos_iff.2 h0
    have hlen : s.length = (pre ++ d).length + t.length := by rw [hs]; simp; omega
    have hlt : decide (((pre ++ d).length : Int) < (s.length : Int)) = true := decide_eq_true (by omega)
    have hsl : sslice s ((pre ++ d).length : Int) (s.length : Int) = some t := by
      rw [hs]
      exact sslice_end (pre ++ d) t
    have hsd : sslice s (pre.length : Int) ((pre ++ d).length : Int) = some d := by
      rw [hs]
      exact sslice_part pre d t
    rcases firstOf 10 t with hf | ⟨a, b, hf, rfl⟩
    · have hs' : s = (pre ++ (d ++ t)) ++ [] := by rw [hs]; simp
      have hE := empty [] (d ++ t) rfl (by rw [hs]; simp)
      have e1 : (((pre ++ (d ++ t)).length : Nat) : Int) = ((pre ++ d).length : Int) + (t.length : Int) := by simp; omega
      refine ⟨[t], [((pre ++ d).length : Int) + (t.length : Int)], rfl, hpos, by simp [glueNL], fun n ls es hn hls hes => ?_, fun n hn => ?_⟩
      · match n, hn with
        | n + 1, hn =>
          show F20_b1 s _ _ = _
          rw [F20_b1, hlt, cond_t, hsl]
          simp only [Option.bind_some]
          rw [L_Cut, if_pos (by omega), cut_free hf]
          simp only [Option.bind_some, cond_f]
          rw [wrap64 (n := ((pre ++ d).length : Int) + (t.length : Int)) (by omega) (by omega), appO, if_pos (by simp; omega)]
          simp only [Option.bind_some]
          rw [appO, if_pos (by simp; omega)]
          simp only [Option.bind_some]
          have := hE.1 n (ls ++ [t]) (es ++ [((pre ++ d).length : Int) + (t.length : Int)]) (by simp; omega)
          rw [e1] at this
          exact this
      · match n, hn with
        | n + 1, hn =>
          show F54_b2 s _ _ _ _ = _
          rw [F54_b2, hlt, cond_t, scan15 s e _ _ _ hl t (pre ++ d) [] BIG hf (by rw [hs, List.append_nil]) (.inl rfl) (by unfold BIG; omega)]
          have e2 : ((pre ++ d ++ t).length : Int) = (s.length : Int) := by rw [hs]
          rw [e2, hsl]
          simp only [Option.bind_some, hsd]
          by_cases he : t = e
          · rw [decide_eq_true he, cond_t, res, if_pos he]
            have : imin ((s.length : Int) + 1) (s.length : Int) = ((pre ++ d).length : Int) + (t.length : Int) := by unfold imin; split <;> omega
            rw [this]
          · rw [decide_eq_false he, cond_f, res, if_neg he]
            exact hE.2 n _ (by simp; omega) (by omega)
    · have hb : b.length ≤ k := by simp at ht; omega
      have hs2 : s = pre ++ (d ++ (a ++ [10])) ++ b := by rw [hs]; simp
      obtain ⟨L, E, q1, q2, q3, q4, q5⟩ := ih b (d ++ (a ++ [10])) hb hs2
      have e1 : (((pre ++ (d ++ (a ++ [10]))).length : Nat) : Int) = ((pre ++ d).length : Int) + (a.length : Int) + 1 := by simp; omega
      rw [e1] at q4 q5
      have hta : (a ++ 10 :: b).length = a.length + b.length + 1 := by simp; omega
      refine ⟨a :: L, (((pre ++ d).length : Int) + (a.length : Int) + 1) :: E, by simp [q1], by simp; omega, by simp [glueNL] at q3 ⊢; omega, fun n ls es hn hls hes => ?_, fun n hn => ?_⟩
      · match n, hn with
        | n + 1, hn =>
          show F20_b1 s _ _ = _
          rw [F20_b1, hlt, cond_t, hsl]
          simp only [Option.bind_some]
          rw [L_Cut, if_pos (by omega), cut_at b hf]
          simp only [Option.bind_some, cond_t]
          rw [wrap64 (n := ((pre ++ d).length : Int) + (a.length : Int)) (by omega) (by omega), wrap64 (by omega) (by omega), appO, if_pos (by simp; omega)]
          simp only [Option.bind_some]
          rw [appO, if_pos (by simp; omega)]
          simp only [Option.bind_some]
          have := q4 n (ls ++ [a]) (es ++ [((pre ++ d).length : Int) + (a.length : Int) + 1]) (by omega) (by simp; omega) (by simp; omega)
          rw [this]
          simp
      · match n, hn with
        | n + 1, hn =>
          show F54_b2 s _ _ _ _ = _
          rw [F54_b2, hlt, cond_t, scan15 s e _ _ _ hl a (pre ++ d) (10 :: b) BIG hf (by rw [hs]; simp) (.inr ⟨b, rfl⟩) (by unfold BIG; omega)]
          have hsa : sslice s ((pre ++ d).length : Int) ((pre ++ d ++ a).length : Int) = some a := by
            have : s = (pre ++ d) ++ a ++ 10 :: b := by rw [hs]; simp
            rw [this]
            exact sslice_part (pre ++ d) a (10 :: b)
          have e2 : ((pre ++ d ++ a).length : Int) = ((pre ++ d).length : Int) + (a.length : Int) := by simp; omega
          rw [hsa]
          simp only [Option.bind_some, hsd]
          by_cases he : a = e
          · rw [decide_eq_true he, cond_t, res, if_pos he, e2]
            have : imin (((pre ++ d).length : Int) + (a.length : Int) + 1) (s.length : Int) = ((pre ++ d).length : Int) + (a.length : Int) + 1 := by unfold imin; split <;> omega
            rw [this]
          · rw [decide_eq_false he, cond_f, res, if_neg he, e2]
            exact q5 n (by omega)

def G29 (e : Str) : Str → Int → Option Int → Option Int := fun w i n => bif decide (e = w) then some i else n

theorem loop29 (e : Str) : ∀ (L : List Str) (E : List Int) (d : Str) (i : Int), L.length = E.length →
    (loopR (G29 e) (some (-1)) L i = some (-1) ∧ res e d L E = ([], 0, 3)) ∨
    ∃ (j : Nat) (x : Int), j < L.length ∧ loopR (G29 e) (some (-1)) L i = some (i + j) ∧ E[j]? = some x ∧ res e d L E = (d ++ glueNL (L.take j), x, 0)
  | [], _, d, i, _ => .inl ⟨rfl, by rw [res]; intros; contradiction⟩
  | a :: L, [], d, i, h => by simp at h
  | a :: L, x :: E, d, i, h => by
    by_cases ha : a = e
    · refine .inr ⟨0, x, by simp, ?_, by simp, ?_⟩
      · rw [loopR, G29, decide_eq_true ha.symm, cond_t]
        simp
      · rw [res, if_pos ha]
        simp [glueNL]
    · have ih := loop29 e L E (d ++ (a ++ [10])) (i + 1) (by simp at h; exact h)
      rw [loopR, G29, decide_eq_false (fun q => ha q.symm), cond_f, res, if_neg ha]
      rcases ih with ⟨h1, h2⟩ | ⟨j, y, h1, h2, h3, h4⟩
      · exact .inl ⟨h1, h2⟩
      · refine .inr ⟨j + 1, y, by simp; omega, ?_, by simpa using h3, ?_⟩
        · rw [h2]
          congr 1
          omega
        · rw [h4]
          simp [glueNL]

theorem F21_eq (L : List Str) (e : Str) (h : L.length ≤ 9223372036854775807) : F21 L e = loopR (G29 e) (some (-1)) L 0 := by
  unfold F21
  exact iter_range (body := F21_b1 L e) L (G29 e) (some (-1)) (fun again i => rfl) h

theorem join_glueNL : ∀ (x : Str) (L : List Str), Lib.join (x :: L) [10] ++ [10] = glueNL (x :: L)
  | x, [] => by rw [Lib.join_one]; simp [glueNL]
  | x, y :: L => by
    have ih := join_glueNL y L
    rw [Lib.join_cons] at ih ⊢
    simp only [Lib.joinTail, List.map_cons, List.flatten_cons, glueNL, List.flatMap_cons] at ih ⊢
    simp only [List.append_assoc] at ih ⊢
    rw [← ih]
    try simp

theorem heres {s e : Str} {at_ : Int} (hs : s.length ≤ 1000000) : ∃ r, F8 s at_ e = some r ∧ F54 s at_ e = some r := by
  unfold F8 F54
  cases hr : (decide (at_ < 0) || decide ((s.length : Int) < at_)) with
  | true => exact ⟨_, rfl, rfl⟩
  | false =>
    simp only [Bool.or_eq_false_iff, decide_eq_false_iff_not] at hr
    obtain ⟨L, E, q1, q2, q3, q4, q5⟩ := both (s := s) (e := e) (pre := s.take at_.toNat) hs (s.drop at_.toNat).length (s.drop at_.toNat) [] (Nat.le_refl _) (by simp)
    have e1 : (((s.take at_.toNat ++ []).length : Nat) : Int) = at_ := by simp; omega
    have e2 : (((s.take at_.toNat).length : Nat) : Int) = at_ := by simp; omega
    have hd : (s.drop at_.toNat).length ≤ 1000000 := by simp; omega
    rw [e1] at q4 q5
    rw [e2] at q5
    have a1 : F20 s at_ = some (L, E) := by
      have := q4 BIG [] [] (by unfold BIG; omega) (by simp at hd ⊢; omega) (by simp at hd ⊢; omega)
      exact this
    have a2 : iter (F54_b2 s e at_) BIG at_ = some (res e [] L E) := q5 BIG (by unfold BIG; omega)
    simp only [cond_f]
    refine ⟨res e [] L E, ?_, a2⟩
    rw [a1]
    simp only [Option.bind_some]
    rw [F21_eq L e (by omega)]
    rcases loop29 e L E [] 0 q1 with ⟨h1, h2⟩ | ⟨j, x, h1, h2, h3, h4⟩
    · rw [h1, h2]
      rfl
    · rw [h2, h4]
      simp only [Option.bind_some, Int.zero_add]
      have hx : lidx E (j : Int) = some x := by rw [lidx_nat]; exact h3
      rw [decide_eq_false (by omega), cond_f, hx]
      by_cases hj : 0 < j
      · have hsl : lslice L 0 (j : Int) = some (L.take j) := by
          unfold lslice
          rw [if_pos ⟨by omega, by omega, by omega⟩]
          simp
        rw [decide_eq_true (by omega), cond_t, hsl]
        simp only [Option.bind_some]
        match L, j, hj, h1 with
        | y :: M, j + 1, _, h1 =>
          have hg := join_glueNL y (M.take j)
          have hlen : (glueNL ((y :: M).take (j + 1))).length ≤ (glueNL (y :: M)).length := by
            have : glueNL (y :: M) = glueNL ((y :: M).take (j + 1)) ++ glueNL ((y :: M).drop (j + 1)) := by
              unfold glueNL
              rw [← List.flatMap_append, List.take_append_drop]
            rw [this, List.length_append]
            omega
          rw [List.take_succ_cons] at hlen ⊢
          have hlg := congrArg List.length hg
          rw [List.length_append] at hlg
          have hM : (y :: M.take j).length ≤ 140737488355328 := by
            simp at q2 ⊢
            simp at hd
            omega
          rw [L_Join, if_pos ⟨by simp at hlg; omega, hM⟩]
          simp only [Option.bind_some]
          rw [catO_eq (by simp at hlg ⊢; omega), hg]
          simp
      · have : j = 0 := by omega
        subst this
        simp [glueNL]

def BAD : Str := [32, 9, 10, 59, 38, 124, 40, 41, 123, 125, 60, 62, 61, 94, 96, 36, 39, 92, 42, 63, 91]

def badc (c : UInt8) : Bool := BAD.contains c

def headc (c : UInt8) : Bool := ([35, 33, 64] : Str).contains c

def plainQ : Str → Bool
  | [] => false
  | c :: r => !headc c && (c :: r).all fun x => !badc x

theorem Bback (c : UInt8) : (B c).toNat.toUInt8 = c := by
  unfold B
  rw [Int.toNat_natCast]
  exact UInt8.ofNat_toNat

theorem idx_contains (c : UInt8) : ∀ l : Str, decide (0 ≤ Lib.indexByte l c) = l.contains c
  | [] => by simp [Lib.indexByte]
  | x :: l => by
    have ih := idx_contains c l
    have hge := Lib.indexByte_ge l c
    rw [List.contains_cons, ← ih]
    by_cases hx : x = c
    · subst hx
      simp [Lib.indexByte]
    · have hx' : (c == x) = false := by simp; exact fun e => hx e.symm
      rw [hx', Bool.false_or]
      by_cases h1 : Lib.indexByte l c = -1
      · have : Lib.indexByte (x :: l) c = -1 := by simp [Lib.indexByte, hx, h1]
        rw [this, h1]
      · have : Lib.indexByte (x :: l) c = Lib.indexByte l c + 1 := by simp [Lib.indexByte, hx, h1]
        rw [this, decide_eq_true (by omega), decide_eq_true (by omega)]

theorem idx_neg (c : UInt8) (l : Str) : decide (Lib.indexByte l c < 0) = !l.contains c := by
  rw [← idx_contains c l]
  by_cases h : (0 : Int) ≤ Lib.indexByte l c
  · rw [decide_eq_true h, decide_eq_false (by omega)]; rfl
  · rw [decide_eq_false h, decide_eq_true (by omega)]; rfl

def SYM : Str := [10, 59, 38, 124, 40, 41, 123, 125, 60, 62, 61, 94, 96, 36, 39]

def G27 (c : Int) : Int → Int → Option Bool → Option Bool := fun x _ n => bif decide (x = c) then some true else n

theorem loop27 (b : UInt8) : ∀ (l : Str) (i : Int), loopR (G27 (B b)) (some false) (l.map B) i = some (l.contains b)
  | [], _ => rfl
  | x :: l, i => by
    rw [List.map_cons, loopR, G27, loop27 b l (i + 1), List.contains_cons]
    have h : decide (B x = B b) = decide (x = b) := byte_eq x b
    rw [h]
    by_cases hx : x = b
    · subst hx; simp
    · have hx' : (b == x) = false := by simp; exact fun e => hx e.symm
      rw [decide_eq_false hx, hx']
      rfl

theorem F55_eq (b : UInt8) (l : Str) (hl : l.length ≤ 1000000) : F55 (B b) l = some (l.contains b) := by
  unfold F55
  rw [iter_rangeB (body := F55_b1 l (B b)) l (G27 (B b)) (some false) (fun again i => rfl) (by omega), loop27]

def nl : Str → Bool
  | [] => false
  | d :: _ => decide (d = 10)

theorem B32 (c : UInt8) : decide (B c = 32) = decide (c = 32) := byte_eq c 32

theorem B9 (c : UInt8) : decide (B c = 9) = decide (c = 9) := byte_eq c 9

theorem B92 (c : UInt8) : decide (B c = 92) = decide (c = 92) := byte_eq c 92

theorem B10 (c : UInt8) : decide (B c = 10) = decide (c = 10) := byte_eq c 10

theorem B39 (c : UInt8) : decide (B c = 39) = decide (c = 39) := byte_eq c 39

theorem B35 (c : UInt8) : decide (B c = 35) = decide (c = 35) := byte_eq c 35

def gap (c : UInt8) (r : Str) : Int := bif decide (c = 32) || decide (c = 9) then 1 else bif decide (c = 92) && nl r then 2 else 0

theorem F34_eq {s pre : Str} {c : UInt8} {r : Str} (hs : s = pre ++ c :: r) (hl : s.length ≤ 1000000) : F34 s (pre.length : Int) = some (gap c r) := by
  have hlen : s.length = pre.length + (r.length + 1) := by rw [hs]; simp
  have h1 : sidx s (pre.length : Int) = some (B c) := by rw [hs]; exact sidx_mid pre c r
  unfold F34 gap
  rw [decide_eq_true (by omega), h1]
  simp only [guardO, cond_t, Option.bind_some, Bool.true_and, B32, B9]
  cases decide (c = 32) || decide (c = 9) with
  | true => rfl
  | false =>
    simp only [cond_f]
    rw [wrap64 (by omega) (by omega)]
    match r, hs with
    | [], hs =>
      rw [decide_eq_false (by simp at hlen; omega)]
      simp [guardO, nl]
    | d :: r, hs =>
      have h2 : sidx s ((pre.length : Int) + 1) = some (B d) := by
        have : s = (pre ++ [c]) ++ d :: r := by rw [hs]; simp
        have h := sidx_mid (pre ++ [c]) d r
        rw [← this] at h
        simpa using h
      rw [decide_eq_true (by simp at hlen; omega)]
      simp only [cond_t, Option.bind_some, Bool.true_and, B92]
      cases decide (c = 92) with
      | false => simp [guardO]
      | true =>
        simp only [cond_t, h2, Option.bind_some, B10, Bool.true_and, nl]
        cases decide (d = 10) <;> rfl

theorem F57_eq {s pre : Str} {c : UInt8} {r : Str} (hs : s = pre ++ c :: r) (hl : s.length ≤ 1000000) : F57 s (pre.length : Int) = some (decide (gap c r = 0) && !SYM.contains c) := by
  have hlen : s.length = pre.length + (r.length + 1) := by rw [hs]; simp
  have h1 : sidx s (pre.length : Int) = some (B c) := by rw [hs]; exact sidx_mid pre c r
  unfold F57
  rw [decide_eq_true (by omega), F34_eq hs hl, h1]
  simp only [guardO, cond_t, Option.bind_some, Bool.true_and]
  cases decide (gap c r = 0) with
  | false => rfl
  | true =>
    simp only [cond_t, Option.bind_some]
    have := F55_eq c SYM (by decide)
    unfold SYM at this ⊢
    rw [this]
    rfl

/-- Quotes doubled. -/
def dbl : Str → Str
  | [] => []
  | c :: r => if c = 39 then 39 :: 39 :: dbl r else c :: dbl r

def quote (s : Str) : Str := bif plainQ s then s else 39 :: (dbl s ++ [39])

theorem sslice_mid (pre : Str) (c : UInt8) (r : Str) : sslice (pre ++ c :: r) (pre.length : Int) ((pre.length : Int) + 1) = some [c] := by
  have h := sslice_part pre [c] r
  simpa using h

theorem F12_eq {s pre t : Str} (hs : s = pre ++ t) (x3 x4 x5 : Int) (l6 : List Token) (l7 : List Str) : F12x2 s (pre.length : Int) x3 x4 x5 l6 l7 = some t := by
  unfold F12x2
  subst hs
  rw [sslice_end]
  rfl

theorem F15_eq (s p : Str) (hl : s.length ≤ 1000000) : F15 s p = some (p.isPrefixOf s) := by
  unfold F15 F27
  by_cases h : p.length ≤ s.length
  · have h1 : sslice s 0 (p.length : Int) = some (s.take p.length) := by
      unfold sslice
      rw [if_pos ⟨by omega, by omega, by omega⟩]
      simp
    rw [decide_eq_true (by omega), h1]
    simp only [guardO, cond_t, Option.bind_some, Bool.true_and]
    congr 1
    rw [Bool.eq_iff_iff, decide_eq_true_eq, List.isPrefixOf_iff_prefix, List.prefix_iff_eq_take]
    exact ⟨fun e => e.symm, fun e => e.symm⟩
  · rw [decide_eq_false (by omega)]
    simp only [guardO, cond_f, Option.bind_some, Bool.false_and]
    congr 1
    symm
    rw [Bool.eq_false_iff]
    intro e
    have := List.IsPrefix.length_le (List.isPrefixOf_iff_prefix.1 e)
    omega

def SYMI : Str := [32, 9, 10, 59, 38, 124, 40, 41, 123, 125, 60, 62, 61, 94, 96, 36, 39]

def ord : Str → Bool
  | [] => false
  | c :: r => !SYMI.contains c && !([92, 10] : Str).isPrefixOf (c :: r)

theorem F47_eq {s pre t : Str} (hs : s = pre ++ t) (hl : s.length ≤ 1000000) (x3 x4 x5 : Int) (l6 : List Token) (l7 : List Str) : F47x1 s (pre.length : Int) x3 x4 x5 l6 l7 = some (ord t) := by
  unfold F47x1
  rw [F12_eq hs]
  match t, hs with
  | [], hs => rfl
  | c :: r, hs =>
    have hlen : s.length = pre.length + (r.length + 1) := by rw [hs]; simp
    have h0 : sidx (c :: r) 0 = some (B c) := sidx_mid [] c r
    rw [Option.bind_some, decide_eq_false (by simp), h0]
    simp only [Bool.not_false, guardO, cond_t, Option.bind_some, L_IndexByte, Bback, Bool.true_and]
    rw [idx_neg]
    show ((bif !SYMI.contains c then F15 (c :: r) [92, 10] else some default).bind fun r19 => some (!SYMI.contains c && !r19)) = some (!SYMI.contains c && !([92, 10] : Str).isPrefixOf (c :: r))
    cases SYMI.contains c with
    | true => rfl
    | false =>
      rw [F15_eq _ _ (by simp; omega)]
      rfl

theorem repeat_one (c : UInt8) : ∀ n : Nat, Lib.repeatL [c] n = List.replicate n c
  | 0 => rfl
  | n + 1 => by
    rw [Lib.repeatL, repeat_one c n, List.replicate_succ]
    rfl

def START : Str := [59, 38, 40, 41, 123, 125, 61, 94, 96, 36, 33, 64]

theorem pre_ne {p c : UInt8} {q r : Str} (h : c ≠ p) : (p :: q).isPrefixOf (c :: r) = false := by
  have : (p == c) = false := by simp; exact fun e => h e.symm
  simp [List.isPrefixOf, this]

theorem pre_cons (p c : UInt8) (q r : Str) : (p :: q).isPrefixOf (c :: r) = (decide (c = p) && q.isPrefixOf r) := by
  by_cases h : c = p
  · subst h; simp [List.isPrefixOf]
  · rw [pre_ne h, decide_eq_false h]; rfl

theorem pre_nil (p : UInt8) (q : Str) : (p :: q).isPrefixOf [] = false := rfl

/-- How many bytes of blanks (and of ends of lines that a backslash hides) stand ahead. -/
def blankN : Str → Nat
  | [] => 0
  | [c] => if c = 32 ∨ c = 9 then 1 else 0
  | c :: d :: r => if c = 32 ∨ c = 9 then 1 + blankN (d :: r) else if c = 92 ∧ d = 10 then 2 + blankN r else 0

theorem blankN_le : ∀ (k : Nat) (t : Str), t.length ≤ k → blankN t ≤ t.length
  | _, [], _ => Nat.le_refl _
  | _, [c], _ => by unfold blankN; split <;> simp
  | 0, c :: d :: r, h => by simp at h
  | k + 1, c :: d :: r, h => by
    have h1 := blankN_le k (d :: r) (by simp at h ⊢; omega)
    have h2 := blankN_le k r (by simp at h ⊢; omega)
    unfold blankN
    simp only [List.length_cons] at h1 ⊢
    split
    · omega
    · split <;> omega

theorem loop19 {s : Str} (hl : s.length ≤ 1000000) (x3 x4 x5 : Int) (l6 : List Token) (l7 : List Str) : ∀ (k : Nat) (t pre : Str) (n : Nat), t.length ≤ k → s = pre ++ t → t.length < n →
    iter (F11x2_b1 s x3 x4 x5 l6 l7) n (pre.length : Int) = some ((pre.length + blankN t : Nat) : Int) := by
  intro k
  induction k with
  | zero =>
    intro t pre n ht hs hn
    have ht : t = [] := List.length_eq_zero_iff.1 (by omega)
    subst ht
    match n, hn with
    | n + 1, hn =>
      show F11x2_b1 s _ _ _ _ _ _ _ = _
      rw [F11x2_b1, F12_eq hs, Option.bind_some, F15_eq _ _ (by simp), Option.bind_some, F15_eq _ _ (by simp), pre_nil, pre_nil]
      simp only [Bool.not_false, guardO, cond_t, Option.bind_some, Bool.or_false, cond_f]
      rw [F15_eq _ _ (by simp), pre_nil, Option.bind_some, cond_f]
      rfl
  | succ k ih =>
    intro t pre n ht hs hn
    match t, ht, hs, hn with
    | [], ht, hs, hn => exact ih [] pre n (by simp) hs hn
    | c :: r, ht, hs, hn =>
      match n, hn with
      | n + 1, hn =>
        have hlen : s.length = pre.length + (r.length + 1) := by rw [hs]; simp
        have hr : (c :: r).length ≤ 1000000 := by simp; omega
        have e1 : ((pre ++ [c]).length : Int) = (pre.length : Int) + 1 := by simp
        simp only [List.length_cons] at ht hn
        show F11x2_b1 s _ _ _ _ _ _ _ = _
        rw [F11x2_b1, F12_eq hs, Option.bind_some, F15_eq _ _ hr, Option.bind_some, F15_eq _ _ hr, pre_cons, pre_cons]
        have hg : ((guardO (!(decide (c = 32) && ([] : Str).isPrefixOf r)) (some (decide (c = 9) && ([] : Str).isPrefixOf r))).bind fun r20 => bif ((decide (c = 32) && ([] : Str).isPrefixOf r) || r20) then iter (F11x2_b1 s x3 x4 x5 l6 l7) n (IntKind.wrap .i64 ((pre.length : Int) + 1)) else (F15 (c :: r) [92, 10]).bind fun r24 => bif r24 then iter (F11x2_b1 s x3 x4 x5 l6 l7) n (IntKind.wrap .i64 ((pre.length : Int) + 2)) else some (pre.length : Int)) =
            bif decide (c = 32 ∨ c = 9) then iter (F11x2_b1 s x3 x4 x5 l6 l7) n ((pre.length : Int) + 1) else bif decide (c = 92) && ([10] : Str).isPrefixOf r then iter (F11x2_b1 s x3 x4 x5 l6 l7) n ((pre.length : Int) + 2) else some (pre.length : Int) := by
          rw [wrap64 (by omega) (by omega), wrap64 (by omega) (by omega), F15_eq _ _ hr, pre_cons]
          have hp : ([] : Str).isPrefixOf r = true := by cases r <;> rfl
          rw [hp]
          by_cases h1 : c = 32 <;> by_cases h2 : c = 9 <;> simp [h1, h2, guardO]
        refine hg.trans ?_
        by_cases h1 : c = 32 ∨ c = 9
        · rw [decide_eq_true h1, cond_t]
          have := ih r (pre ++ [c]) n (by omega) (by rw [hs]; simp) (by omega)
          rw [e1] at this
          rw [this]
          match r with
          | [] => simp [blankN, h1]
          | d :: r => simp [blankN, h1]; omega
        · rw [decide_eq_false h1, cond_f]
          match r, hs, hlen, ht, hn with
          | [], hs, hlen, ht, hn => simp [pre_nil, blankN, h1]
          | d :: r, hs, hlen, ht, hn =>
            have hp : ([] : Str).isPrefixOf r = true := by cases r <;> rfl
            rw [pre_cons, hp, Bool.and_true]
            by_cases h2 : c = 92 ∧ d = 10
            · rw [decide_eq_true h2.1, decide_eq_true h2.2, Bool.and_true, cond_t]
              have e2 : ((pre ++ [c, d]).length : Int) = (pre.length : Int) + 2 := by simp
              have := ih r (pre ++ [c, d]) n (by simp at ht; omega) (by rw [hs]; simp) (by simp at hn; omega)
              rw [e2] at this
              rw [this]
              simp [blankN, h1, h2]
              omega
            · have : (decide (c = 92) && decide (d = 10)) = false := by
                rw [Bool.eq_false_iff]
                intro e
                simp at e
                exact h2 e
              rw [this, cond_f]
              simp only [blankN, if_neg h1, if_neg h2, Nat.add_zero]

theorem F11_eq {s pre t : Str} (hs : s = pre ++ t) (hl : s.length ≤ 1000000) (x3 x4 x5 : Int) (l6 : List Token) (l7 : List Str) : F11x2 s (pre.length : Int) x3 x4 x5 l6 l7 = some ((pre.length + blankN t : Nat) : Int) := by
  have hlen : s.length = pre.length + t.length := by rw [hs]; simp
  unfold F11x2
  exact loop19 hl x3 x4 x5 l6 l7 t.length t pre BIG (Nat.le_refl _) hs (by unfold BIG; omega)

/-- Behind a quote: the text, and how many bytes it takes, the closing quote among them. -/
def qd : Str → Option (Str × Nat)
  | [] => none
  | [c] => if c = 39 then some ([], 1) else none
  | c :: d :: r => if c = 39 then (if d = 39 then (qd r).map fun (x, n) => (39 :: x, n + 2) else some ([], 1)) else (qd (d :: r)).map fun (x, n) => (c :: x, n + 1)

theorem qd_free : ∀ a : Str, (39 : UInt8) ∉ a → qd a = none
  | [], _ => rfl
  | [c], h => by
    simp only [List.mem_cons, not_or, List.not_mem_nil, not_false_eq_true, and_true] at h
    rw [qd, if_neg (fun e => h e.symm)]
  | c :: d :: r, h => by
    have h' := h
    rw [List.mem_cons, not_or] at h
    rw [qd, if_neg (fun e => h.1 e.symm), qd_free (d :: r) h.2]
    rfl

theorem qd_pre (w : Str) : ∀ a : Str, (39 : UInt8) ∉ a → qd (a ++ 39 :: w) = (qd (39 :: w)).map fun (x, n) => (a ++ x, n + a.length)
  | [], _ => by
    cases h : qd (39 :: w) <;> simp [h]
  | [c], h => by
    simp only [List.mem_cons, not_or, List.not_mem_nil, not_false_eq_true, and_true] at h
    show qd (c :: 39 :: w) = _
    rw [qd, if_neg (fun e => h e.symm)]
    rfl
  | c :: d :: r, h => by
    have h' := h
    rw [List.mem_cons, not_or] at h
    have ih := qd_pre w (d :: r) h.2
    show qd (c :: d :: (r ++ 39 :: w)) = _
    rw [qd, if_neg (fun e => h.1 e.symm)]
    show ((qd (d :: r ++ 39 :: w)).map _) = _
    rw [ih]
    cases qd (39 :: w) with
    | none => rfl
    | some p => rcases p with ⟨x, n⟩; rfl

theorem qd_shut {w : Str} (h : ([39] : Str).isPrefixOf w = false) : qd (39 :: w) = some ([], 1) := by
  match w, h with
  | [], _ => rfl
  | d :: r, h =>
    have hp : ([] : Str).isPrefixOf r = true := by cases r <;> rfl
    rw [pre_cons, hp, Bool.and_true] at h
    rw [qd, if_pos rfl, if_neg (of_decide_eq_false h)]

theorem qd_two (w : Str) : qd (39 :: 39 :: w) = (qd w).map fun (x, n) => (39 :: x, n + 2) := by
  rw [qd, if_pos rfl, if_pos rfl]

theorem qd_len : ∀ (k : Nat) (v x : Str) (m : Nat), v.length ≤ k → qd v = some (x, m) → 1 ≤ m ∧ m ≤ v.length ∧ x.length ≤ m
  | _, [], x, m, _, h => by simp [qd] at h
  | _, [c], x, m, _, h => by
    unfold qd at h
    split at h
    · simp at h; obtain ⟨rfl, rfl⟩ := h; simp
    · simp at h
  | 0, c :: d :: r, x, m, hk, h => by simp at hk
  | k + 1, c :: d :: r, x, m, hk, h => by
    simp only [List.length_cons] at hk ⊢
    unfold qd at h
    split at h
    · split at h
      · cases hq : qd r with
        | none => rw [hq] at h; simp at h
        | some p =>
          rcases p with ⟨y, n⟩
          rw [hq] at h
          simp at h
          obtain ⟨rfl, rfl⟩ := h
          have := qd_len k r y n (by omega) hq
          simp
          omega
      · simp at h; obtain ⟨rfl, rfl⟩ := h; simp
    · cases hq : qd (d :: r) with
      | none => rw [hq] at h; simp at h
      | some p =>
        rcases p with ⟨y, n⟩
        rw [hq] at h
        simp at h
        obtain ⟨rfl, rfl⟩ := h
        have := qd_len k (d :: r) y n (by simp; omega) hq
        simp only [List.length_cons] at this ⊢
        omega

def ans52 (s : Str) (x2 x4 x5 : Int) (b : Str) (p : Nat) (v : Str) (r : Option (Str × Bool × Int × Int × Int)) : Prop :=
  match qd v with
  | some (x, m) => r = some (b ++ x, true, ((p + m : Nat) : Int), x4, x5)
  | none => ∃ i, r = some ([], false, i, x2, 48)

theorem loop52 {s : Str} (hl : s.length ≤ 1000000) (x2 x3 x4 x5 : Int) (l6 : List Token) (l7 : List Str) : ∀ (k : Nat) (v pre b : Str) (n : Nat), v.length ≤ k → s = pre ++ v → v.length < n → b.length + v.length ≤ 10000000 →
    ans52 s x2 x4 x5 b pre.length v (iter (F49x1_b1 s x3 x4 x5 l6 l7 x2) n ((pre.length : Int), b)) := by
  intro k
  induction k with
  | zero =>
    intro v pre b n hk hs hn hb
    have hv : v = [] := List.length_eq_zero_iff.1 (by omega)
    subst hv
    match n, hn with
    | n + 1, hn =>
      refine ⟨(pre.length : Int), ?_⟩
      show F49x1_b1 s _ _ _ _ _ _ _ _ = _
      rw [F49x1_b1, F12_eq hs, Option.bind_some, L_IndexByte, Option.bind_some]
      rfl
  | succ k ih =>
    intro v pre b n hk hs hn hb
    match n, hn with
    | n + 1, hn =>
      have h39 : (39 : Int).toNat.toUInt8 = 39 := by decide
      rcases firstOf 39 v with hf | ⟨a, w, hf, rfl⟩
      · unfold ans52
        rw [qd_free v hf]
        refine ⟨(pre.length : Int), ?_⟩
        show F49x1_b1 s _ _ _ _ _ _ _ _ = _
        rw [F49x1_b1, F12_eq hs, Option.bind_some, L_IndexByte, Option.bind_some, h39, indexByte_free 39 v hf]
        rfl
      · have hlen : s.length = pre.length + (a.length + (w.length + 1)) := by rw [hs]; simp
        simp only [List.length_append, List.length_cons] at hk hn hb
        have e0 : sslice s (pre.length : Int) (IntKind.wrap .i64 ((pre.length : Int) + (a.length : Int))) = some a := by
          rw [wrap64 (by omega) (by omega), hs]
          simpa using sslice_part pre a (39 :: w)
        have e1 : (pre.length : Int) + ((a.length : Int) + 1) = ((pre ++ (a ++ [39])).length : Int) := by simp
        have hw : w.length ≤ 1000000 := by omega
        have head : iter (F49x1_b1 s x3 x4 x5 l6 l7 x2) (n + 1) ((pre.length : Int), b) = bif !([39] : Str).isPrefixOf w then some (b ++ a, true, ((pre ++ (a ++ [39])).length : Int), x4, x5) else iter (F49x1_b1 s x3 x4 x5 l6 l7 x2) n (IntKind.wrap .i64 (((pre ++ (a ++ [39])).length : Int) + 1), b ++ a ++ [39]) := by
          show F49x1_b1 s _ _ _ _ _ _ _ _ = _
          rw [F49x1_b1, F12_eq hs, Option.bind_some, L_IndexByte, Option.bind_some, h39, indexByte_at 39 w a hf, decide_eq_false (by omega), cond_f, e0, Option.bind_some, L_WriteString, if_pos (by omega), Option.bind_some]
          dsimp only
          rw [wrap64 (n := (a.length : Int) + 1) (by omega) (by omega), wrap64 (n := (pre.length : Int) + ((a.length : Int) + 1)) (by omega) (by omega), e1, F12_eq (t := w) (by rw [hs]; simp), Option.bind_some, F15_eq _ _ hw, Option.bind_some, L_WriteByte, if_pos ⟨by decide, by decide, by simp; omega⟩, Option.bind_some, h39]
          rfl
        rw [head]
        unfold ans52
        rw [qd_pre w a hf]
        cases hp : ([39] : Str).isPrefixOf w with
        | false =>
          rw [qd_shut hp]
          show _ = _
          rw [Bool.not_false, cond_t]
          simp
          omega
        | true =>
          rw [Bool.not_true, cond_f]
          match w, hp with
          | d :: w, hp =>
            have hd : d = 39 := by
              rw [pre_cons, Bool.and_eq_true, decide_eq_true_eq] at hp
              exact hp.1
            subst hd
            rw [qd_two, wrap64 (by simp; omega) (by simp; omega)]
            have e2 : ((pre ++ (a ++ [39])).length : Int) + 1 = ((pre ++ (a ++ [39, 39])).length : Int) := by simp; omega
            have := ih w (pre ++ (a ++ [39, 39])) (b ++ a ++ [39]) n (by simp at hk; omega) (by rw [hs]; simp) (by simp at hn; omega) (by simp at hb ⊢; omega)
            rw [e2]
            unfold ans52 at this
            cases hq : qd w with
            | none =>
              rw [hq] at this
              exact this
            | some y =>
              rcases y with ⟨y, m⟩
              rw [hq] at this
              show _ = _
              rw [this]
              simp
              omega

theorem F49_eq {s pre v : Str} {c : UInt8} (hs : s = pre ++ c :: v) (hl : s.length ≤ 1000000) (x3 x4 x5 : Int) (l6 : List Token) (l7 : List Str) : ans52 s (pre.length : Int) x4 x5 [] (pre.length + 1) v (F49x1 s (pre.length : Int) x3 x4 x5 l6 l7) := by
  have hlen : s.length = pre.length + (v.length + 1) := by rw [hs]; simp
  unfold F49x1
  rw [wrap64 (by omega) (by omega)]
  have := loop52 (s := s) hl (pre.length : Int) x3 x4 x5 l6 l7 v.length v (pre ++ [c]) [] BIG (Nat.le_refl _) (by rw [hs]; simp) (by unfold BIG; omega) (by simp; omega)
  have e1 : ((pre ++ [c]).length : Int) = (pre.length : Int) + 1 := by simp
  have e2 : (pre ++ [c]).length = pre.length + 1 := by simp
  rw [e1, e2] at this
  exact this

/-- A word: its text, which of its bytes were quoted, and how many bytes it takes; or where the quote stands that is not closed. -/
def wd : Nat → Str → Except Nat (Str × Str × Nat)
  | 0, _ => .ok ([], [], 0)
  | _ + 1, [] => .ok ([], [], 0)
  | k + 1, c :: r => bif ord (c :: r) then (match wd k r with
      | .error e => .error (e + 1)
      | .ok (x, q, n) => .ok (c :: x, 48 :: q, n + 1))
    else if c = 39 then (match qd r with
      | none => .error 0
      | some (x, m) => match wd k (r.drop m) with
        | .error e => .error (e + (m + 1))
        | .ok (y, q, n) => .ok (x ++ y, List.replicate x.length 49 ++ q, n + (m + 1)))
    else .ok ([], [], 0)

def ans36 (x4 x5 : Int) (b q : Str) (p : Nat) (w : Except Nat (Str × Str × Nat)) (r : Option (Str × Str × Bool × Int × Int × Int)) : Prop :=
  match w with
  | .ok (x, y, m) => r = some (b ++ x, q ++ y, true, ((p + m : Nat) : Int), x4, x5)
  | .error e => ∃ i, r = some ([], [], false, i, ((p + e : Nat) : Int), 48)

theorem loop36 {s : Str} (hl : s.length ≤ 1000000) (x3 : Int) (l6 : List Token) (l7 : List Str) (x4 x5 : Int) : ∀ (k : Nat) (t pre b q : Str) (n : Nat), t.length ≤ k → s = pre ++ t → t.length < n → b.length + t.length ≤ 10000000 → q.length + t.length ≤ 10000000 →
    ans36 x4 x5 b q pre.length (wd k t) (iter (F28x1_b1 s x3 l6 l7) n ((pre.length : Int), x4, x5, b, q)) := by
  have none : ∀ (pre b q : Str) (n : Nat), s = pre ++ [] → 0 < n → iter (F28x1_b1 s x3 l6 l7) n ((pre.length : Int), x4, x5, b, q) = some (b ++ [], q ++ [], true, ((pre.length + 0 : Nat) : Int), x4, x5) := by
    intro pre b q n hs hn
    match n, hn with
    | n + 1, hn =>
      show F28x1_b1 s _ _ _ _ _ = _
      rw [F28x1_b1, F47_eq hs hl, Option.bind_some]
      show (bif false then _ else _) = _
      rw [cond_f, F12_eq hs, Option.bind_some, F15_eq _ _ (by simp), Option.bind_some]
      show (bif false then _ else _) = _
      rw [cond_f, L_String, L_String]
      simp
  intro k
  induction k with
  | zero =>
    intro t pre b q n hk hs hn hb hq
    have ht : t = [] := List.length_eq_zero_iff.1 (by omega)
    subst ht
    exact none pre b q n hs (by omega)
  | succ k ih =>
    intro t pre b q n hk hs hn hb hq
    match t, hk, hs, hn, hb, hq with
    | [], hk, hs, hn, hb, hq => exact none pre b q n hs (by omega)
    | c :: r, hk, hs, hn, hb, hq =>
      match n, hn with
      | n + 1, hn =>
        have hlen : s.length = pre.length + (r.length + 1) := by rw [hs]; simp
        have h1 : sidx s (pre.length : Int) = some (B c) := by rw [hs]; exact sidx_mid pre c r
        have e1 : ((pre ++ [c]).length : Int) = (pre.length : Int) + 1 := by simp
        have hB : 0 ≤ B c ∧ B c ≤ 255 := by
          have := UInt8.toNat_lt c
          unfold B
          omega
        simp only [List.length_cons] at hk hn hb hq
        rw [wd]
        show ans36 x4 x5 b q pre.length _ (F28x1_b1 s x3 l6 l7 _ _)
        cases ho : ord (c :: r) with
        | true =>
          rw [F28x1_b1, F47_eq hs hl, ho, Option.bind_some, cond_t, h1, Option.bind_some, L_WriteByte, if_pos ⟨hB.1, hB.2, by omega⟩, Bback, Option.bind_some, L_WriteByte, if_pos ⟨by decide, by decide, by omega⟩, Option.bind_some, wrap64 (by omega) (by omega)]
          have h48 : ((48 : Int).toNat.toUInt8) = 48 := by decide
          have hh := ih r (pre ++ [c]) (b ++ [c]) (q ++ [48]) n (by omega) (by rw [hs]; simp) (by omega) (by simp; omega) (by simp; omega)
          rw [e1] at hh
          rw [h48, cond_t]
          cases hw : wd k r with
          | error e =>
            rw [hw] at hh
            obtain ⟨i, hi⟩ := hh
            refine ⟨i, ?_⟩
            rw [hi]
            simp
            omega
          | ok y =>
            rcases y with ⟨x, y, m⟩
            rw [hw] at hh
            show _ = _
            refine Eq.trans hh ?_
            simp
            omega
        | false =>
          have hr1 : (c :: r).length ≤ 1000000 := by simp; omega
          have hp : ([] : Str).isPrefixOf r = true := by cases r <;> rfl
          rw [F28x1_b1, F47_eq hs hl, ho, Option.bind_some, cond_f, cond_f, F12_eq hs, Option.bind_some, F15_eq _ _ hr1, Option.bind_some, pre_cons, hp, Bool.and_true]
          by_cases hc : c = 39
          · subst hc
            rw [decide_eq_true rfl, cond_t, if_pos rfl]
            have h52 := F49_eq hs hl x3 x4 x5 l6 l7
            unfold ans52 at h52
            cases hqd : qd r with
            | none =>
              rw [hqd] at h52
              obtain ⟨i, hi⟩ := h52
              refine ⟨i, ?_⟩
              rw [hi, Option.bind_some]
              rfl
            | some y =>
              rcases y with ⟨x, m⟩
              rw [hqd] at h52
              have h52' : F49x1 s (pre.length : Int) x3 x4 x5 l6 l7 = some ([] ++ x, true, ((pre.length + 1 + m : Nat) : Int), x4, x5) := h52
              obtain ⟨g1, g2, g3⟩ := qd_len r.length r x m (Nat.le_refl _) hqd
              rw [h52', Option.bind_some]
              dsimp only
              have h49 : L_Repeat [49] (x.length : Int) = some (List.replicate x.length 49) := by
                unfold L_Repeat
                rw [if_pos ⟨by omega, by omega, by simp; omega⟩]
                congr 1
                rw [Int.toNat_natCast]
                exact repeat_one 49 x.length
              rw [List.nil_append, Bool.not_true, cond_f, L_WriteString, if_pos (by omega), Option.bind_some]
              dsimp only
              rw [h49, Option.bind_some, L_WriteString, if_pos (by simp; omega), Option.bind_some]
              dsimp only
              have hh := ih (r.drop m) (pre ++ (39 :: r.take m)) (b ++ x) (q ++ List.replicate x.length 49) n (by simp; omega) (by rw [hs]; simp) (by simp; omega) (by simp; omega) (by simp; omega)
              have e2 : (pre ++ (39 :: r.take m)).length = pre.length + 1 + m := by simp; omega
              rw [e2] at hh
              cases hw : wd k (r.drop m) with
              | error e =>
                rw [hw] at hh
                obtain ⟨i, hi⟩ := hh
                refine ⟨i, ?_⟩
                rw [hi]
                simp
                omega
              | ok y =>
                rcases y with ⟨x', y, m'⟩
                rw [hw] at hh
                show _ = _
                refine Eq.trans hh ?_
                simp
                omega
          · rw [decide_eq_false hc, cond_f, if_neg hc, L_String, L_String]
            show _ = _
            simp

theorem F28_eq {s pre t : Str} (hs : s = pre ++ t) (hl : s.length ≤ 1000000) (x3 x4 x5 : Int) (l6 : List Token) (l7 : List Str) : ans36 x4 x5 [] [] pre.length (wd t.length t) (F28x1 s (pre.length : Int) x3 x4 x5 l6 l7) := by
  have hlen : s.length = pre.length + t.length := by rw [hs]; simp
  unfold F28x1
  exact loop36 hl x3 l6 l7 x4 x5 t.length t pre [] [] BIG (Nat.le_refl _) hs (by unfold BIG; omega) (by simp; omega) (by simp; omega)

def push (l : List Token) (u : Token) : Except (Int × Int) (List Token) := if 1024 ≤ l.length then .error (u.at_, 4) else .ok (l ++ [u])

def ansL (x5 x6 : Int) (w : Except (Int × Int) (List Token)) (r : Option (Bool × Int × Int × List Token)) : Prop :=
  match w with
  | .ok l => r = some (true, x5, x6, l)
  | .error (p, c) => ∃ l, r = some (false, p, c, l)

theorem F25_eq (u : Token) (s : Str) (x3 x4 x5 x6 : Int) (l : List Token) (l8 : List Str) : ansL x5 x6 (push l u) (F25x1 u s x3 x4 x5 x6 l l8) := by
  unfold F25x1 push
  by_cases h : 1024 ≤ l.length
  · rw [decide_eq_true (by omega), cond_t, if_pos h]
    exact ⟨l, rfl⟩
  · rw [decide_eq_false (by omega), cond_f, if_neg h, appO, if_pos (by simp; omega)]
    exact rfl

def hats (u : Token) (touch : Bool) : Bool := touch && (decide (u.kind_ = 1) || (decide (u.kind_ = 2) && match u.text_ with | [] => false | c :: _ => ([36, 96] : Str).contains c))

def hat (l : List Token) (u : Token) (touch : Bool) : Except (Int × Int) (List Token) :=
  bif hats u touch then (match push l ⟨2, u.at_, [94], []⟩ with
    | .error e => .error e
    | .ok l1 => push l1 u)
  else push l u

theorem F31_eq (u : Token) (touch : Bool) (s : Str) (x4 x5 x6 x7 : Int) (l : List Token) (l9 : List Str) : ansL x6 x7 (hat l u touch) (F31 u touch s x4 x5 x6 x7 l l9) := by
  have key : ∀ X : Bool → Option (Bool × Int × Int × List Token), ((guardO (!(decide (u.kind_ = 1)) && (decide (u.kind_ = 2) && !decide (u.text_ = []))) (sidx u.text_ 0)).bind fun c14 =>
      (guardO (!(decide (u.kind_ = 1)) && (decide (u.kind_ = 2) && !decide (u.text_ = []))) (L_IndexByte [36, 96] c14)).bind fun n17 =>
      X (touch && (decide (u.kind_ = 1) || ((decide (u.kind_ = 2) && !decide (u.text_ = [])) && decide (0 ≤ n17))))) = X (hats u touch) := by
    intro X
    unfold hats
    cases decide (u.kind_ = 1) with
    | true => rfl
    | false =>
      cases decide (u.kind_ = 2) with
      | false => rfl
      | true =>
        match u.text_ with
        | [] => rfl
        | c :: r =>
          have h0 : sidx (c :: r) 0 = some (B c) := sidx_mid [] c r
          rw [decide_eq_false (p := c :: r = []) (by simp), h0]
          simp only [Bool.not_false, Bool.true_and, guardO, cond_t, Option.bind_some, L_IndexByte, Bback]
          rw [idx_contains]
  unfold F31
  refine (key (fun h => bif h then _ else _)) ▸ ?_
  unfold hat
  cases hats u touch with
  | false =>
    simp only [cond_f]
    have h := F25_eq u s x4 x5 x6 x7 l l9
    cases hp : push l u with
    | error e =>
      rw [hp] at h
      obtain ⟨l', hl'⟩ := h
      exact ⟨l', by rw [hl']; rfl⟩
    | ok l1 =>
      rw [hp] at h
      have h' : F25x1 u s x4 x5 x6 x7 l l9 = some (true, x6, x7, l1) := h
      rw [h']
      exact rfl
  | true =>
    simp only [cond_t]
    have h := F25_eq ⟨2, u.at_, [94], []⟩ s x4 x5 x6 x7 l l9
    cases hp : push l ⟨2, u.at_, [94], []⟩ with
    | error e =>
      rw [hp] at h
      obtain ⟨l', hl'⟩ := h
      exact ⟨l', by rw [hl']; rfl⟩
    | ok l1 =>
      rw [hp] at h
      have h' : F25x1 ⟨2, u.at_, [94], []⟩ s x4 x5 x6 x7 l l9 = some (true, x6, x7, l1) := h
      rw [h', Option.bind_some]
      dsimp only
      rw [Bool.not_true, cond_f]
      have h2 := F25_eq u s x4 x5 x6 x7 l1 l9
      cases hp2 : push l1 u with
      | error e =>
        rw [hp2] at h2
        obtain ⟨l', hl'⟩ := h2
        exact ⟨l', by rw [hl']; rfl⟩
      | ok l2 =>
        rw [hp2] at h2
        have h2' : F25x1 u s x4 x5 x6 x7 l1 l9 = some (true, x6, x7, l2) := h2
        rw [h2']
        exact rfl

def lastWord (l : List Token) : Bool := match l.getLast? with
  | some u => decide (u.kind_ = 1)
  | none => false

theorem F29_eq (s : Str) (x2 x3 x4 x5 : Int) (l : List Token) (l7 : List Str) (hl : l.length ≤ 100000) : F29 s x2 x3 x4 x5 l l7 = some (lastWord l && decide (x3 = x2)) := by
  unfold F29 lastWord
  by_cases h : l = []
  · subst h; rfl
  · have hpos : 0 < l.length := List.length_pos_iff.2 h
    have hx : lidx l (((l.length - 1 : Nat) : Int)) = l.getLast? := by
      rw [lidx_nat, List.getLast?_eq_getElem?]
    rw [decide_eq_true (by omega), wrap64 (by omega) (by omega), show (l.length : Int) - 1 = ((l.length - 1 : Nat) : Int) by omega, hx]
    rw [List.getLast?_eq_some_getLast h]
    rfl

def nameB (c : UInt8) : Bool := (F52 (B c)).getD false

theorem F52_eq (c : UInt8) : F52 (B c) = some (nameB c) := rfl

def nameN : Str → Nat
  | [] => 0
  | c :: r => bif nameB c then nameN r + 1 else 0

theorem nameN_cons (c : UInt8) (r : Str) : nameN (c :: r) = bif nameB c then nameN r + 1 else 0 := rfl

theorem nameN_le : ∀ t : Str, nameN t ≤ t.length
  | [] => Nat.le_refl _
  | c :: r => by
    have := nameN_le r
    unfold nameN
    cases nameB c <;> simp <;> omega

def name (p : Nat) (t : Str) (l : List Token) : Except (Int × Int) (List Token) :=
  if nameN t = 0 then .error (p, 47) else push l ⟨1, p, t.take (nameN t), List.replicate (nameN t) 48⟩

def ansN (x5 x6 : Int) (i : Nat) (w : Except (Int × Int) (List Token)) (r : Option (Bool × Int × Int × Int × List Token)) : Prop :=
  match w with
  | .ok l => r = some (true, (i : Int), x5, x6, l)
  | .error (p, c) => ∃ j l, r = some (false, j, p, c, l)

theorem loop40 {s p0 t0 : Str} (hs0 : s = p0 ++ t0) (hl : s.length ≤ 1000000) (x3 x4 x5 : Int) (l : List Token) (l7 : List Str) : ∀ (t d : Str) (n : Nat), t0 = d ++ t → nameN t0 = d.length + nameN t → t.length < n →
    ansN x4 x5 (p0.length + nameN t0) (name p0.length t0 l) (iter (F32_b1 s (p0.length : Int) x3 x4 x5 l l7) n ((p0.length + d.length : Nat) : Int)) := by
  -- what happens when the name ends
  have fin : ∀ (t d : Str), t0 = d ++ t → nameN t0 = d.length → ansN x4 x5 (p0.length + nameN t0) (name p0.length t0 l)
      (bif decide (((p0.length + d.length : Nat) : Int) = (p0.length : Int)) then
        (F26x2 (p0.length : Int) 47 s ((p0.length + d.length : Nat) : Int) x3 x4 x5 l l7).bind fun (r25, x26, x27) => some (r25, ((p0.length + d.length : Nat) : Int), x26, x27, l)
      else
        (sslice s (p0.length : Int) ((p0.length + d.length : Nat) : Int)).bind fun t31 =>
        (L_Repeat [48] (t31.length : Int)).bind fun t34 =>
        (F25x1 (Token.mk 1 (p0.length : Int) t31 t34) s ((p0.length + d.length : Nat) : Int) x3 x4 x5 l l7).bind fun (r37, x38, x39, o40) =>
        some (r37, ((p0.length + d.length : Nat) : Int), x38, x39, o40)) := by
    intro t d ht hd
    unfold name
    by_cases h0 : d.length = 0
    · rw [decide_eq_true (by omega), cond_t, if_pos (by omega)]
      exact ⟨_, _, rfl⟩
    · have hlen : s.length = p0.length + (d.length + t.length) := by rw [hs0, ht]; simp
      have hsl : sslice s (p0.length : Int) ((p0.length + d.length : Nat) : Int) = some d := by
        have h := sslice_part p0 d t
        rw [List.append_assoc, ← ht, ← hs0, List.length_append] at h
        exact h
      have h48 : L_Repeat [48] (d.length : Int) = some (List.replicate d.length 48) := by
        unfold L_Repeat
        rw [if_pos ⟨by omega, by omega, by simp; omega⟩]
        congr 1
        rw [Int.toNat_natCast]
        exact repeat_one 48 d.length
      have htk : t0.take (nameN t0) = d := by rw [hd, ht]; simp
      rw [decide_eq_false (by omega), cond_f, if_neg (by omega), hsl, Option.bind_some, h48, Option.bind_some, htk, hd]
      have h := F25_eq ⟨1, (p0.length : Int), d, List.replicate d.length 48⟩ s ((p0.length + d.length : Nat) : Int) x3 x4 x5 l l7
      cases hp : push l ⟨1, (p0.length : Int), d, List.replicate d.length 48⟩ with
      | error e =>
        rw [hp] at h
        obtain ⟨l', hl'⟩ := h
        exact ⟨_, l', by rw [hl']; rfl⟩
      | ok l1 =>
        rw [hp] at h
        have h' : F25x1 ⟨1, (p0.length : Int), d, List.replicate d.length 48⟩ s ((p0.length + d.length : Nat) : Int) x3 x4 x5 l l7 = some (true, x4, x5, l1) := h
        rw [h']
        exact rfl
  intro t
  induction t with
  | nil =>
    intro d n ht hd hn
    match n, hn with
    | n + 1, hn =>
      have hlen : s.length = p0.length + d.length := by rw [hs0, ht]; simp
      show ansN x4 x5 _ _ (F32_b1 s _ _ _ _ _ _ _ _)
      rw [F32_b1, decide_eq_false (by omega)]
      exact fin [] d ht hd
  | cons c r ih =>
    intro d n ht hd hn
    match n, hn with
    | n + 1, hn =>
      have hlen : s.length = p0.length + (d.length + (r.length + 1)) := by rw [hs0, ht]; simp
      have h1 : sidx s ((p0.length + d.length : Nat) : Int) = some (B c) := by
        have h := sidx_mid (p0 ++ d) c r
        rw [List.append_assoc, ← ht, ← hs0, List.length_append] at h
        exact h
      show ansN x4 x5 _ _ (F32_b1 s _ _ _ _ _ _ _ _)
      rw [F32_b1, decide_eq_true (by omega), h1]
      simp only [guardO, cond_t, Option.bind_some, F52_eq, Bool.true_and]
      rw [nameN_cons] at hd
      cases hb : nameB c with
      | true =>
        rw [cond_t, wrap64 (by omega) (by omega)]
        rw [hb, cond_t] at hd
        have h := ih (d ++ [c]) n (by rw [ht]; simp) (by rw [hd]; simp; omega) (by simp at hn; omega)
        have e1 : ((p0.length + (d ++ [c]).length : Nat) : Int) = ((p0.length + d.length : Nat) : Int) + 1 := by simp; omega
        rw [e1] at h
        exact h
      | false =>
        rw [cond_f]
        rw [hb, cond_f] at hd
        exact fin (c :: r) d ht hd

theorem F32_eq {s pre t : Str} (hs : s = pre ++ t) (hl : s.length ≤ 1000000) (x3 x4 x5 : Int) (l : List Token) (l7 : List Str) : ansN x4 x5 (pre.length + nameN t) (name pre.length t l) (F32 s (pre.length : Int) x3 x4 x5 l l7) := by
  have hlen : s.length = pre.length + t.length := by rw [hs]; simp
  unfold F32
  exact loop40 hs hl x3 x4 x5 l l7 t [] BIG rfl (by simp) (by unfold BIG; omega)

theorem F67_tot (s : Str) (hl : s.length ≤ 1000000) : ∃ b, F67 s = some b := by
  obtain ⟨n, b, h⟩ : ∃ n b, L_Atoi s = some (n, b) := by
    unfold L_Atoi
    rw [if_pos (by omega)]
    cases Lib.atoiAll s <;> exact ⟨_, _, rfl⟩
  unfold F67
  rw [h, Option.bind_some]
  dsimp only
  cases hg : (!b && decide (0 ≤ n)) && decide (n < 64) with
  | false => exact ⟨_, rfl⟩
  | true =>
    simp only [Bool.and_eq_true, decide_eq_true_eq] at hg
    have h1 : L_Itoa n = some (Lib.decDigits n.toNat) := by
      unfold L_Itoa
      rw [if_pos ⟨hg.1.2, by omega⟩]
    rw [h1]
    exact ⟨_, rfl⟩

theorem cut_len (a : Str) (c : UInt8) : (Lib.cut a [c]).1.length ≤ a.length ∧ (Lib.cut a [c]).2.1.length ≤ a.length := by
  rcases firstOf c a with h | ⟨x, y, h, rfl⟩
  · rw [cut_free h]; simp
  · rw [cut_at y h]; simp; omega

theorem F51_cut {a : Str} (w : Str) (pair : Bool) (ha : (93 : UInt8) ∉ a) (hl : a.length ≤ 1000000) : F51 (91 :: (a ++ 93 :: w)) pair = F51 (91 :: (a ++ [93])) pair ∧ (F51 (91 :: (a ++ 93 :: w)) pair = some 0 ∨ F51 (91 :: (a ++ 93 :: w)) pair = some ((a.length + 2 : Nat) : Int)) := by
  have key : ∀ w : Str, F51 (91 :: (a ++ 93 :: w)) pair = ((F67 (Lib.cut a [61]).1).bind fun r16 =>
      (guardO (((r16 && (Lib.cut a [61]).2.2) && pair) && !decide ((Lib.cut a [61]).2.1 = [])) (F67 (Lib.cut a [61]).2.1)).bind fun r19 =>
      (bif (!r16 || ((Lib.cut a [61]).2.2 && (!pair || (!decide ((Lib.cut a [61]).2.1 = []) && !r19)))) then some 0 else some ((a.length + 2 : Nat) : Int))) := by
    intro w
    have h93 : (93 : Int).toNat.toUInt8 = 93 := by decide
    have hi := indexByte_at 93 w (91 :: a) (by simp only [List.mem_cons, not_or]; exact ⟨by decide, ha⟩)
    have hs : sslice (91 :: (a ++ 93 :: w)) 1 ((91 :: a).length : Int) = some a := sslice_part [91] a (93 :: w)
    unfold F51
    rw [L_IndexByte, Option.bind_some, h93]
    rw [show (91 :: (a ++ 93 :: w) : Str) = (91 :: a) ++ 93 :: w from rfl, hi, decide_eq_false (by omega), cond_f]
    rw [show ((91 :: a) ++ 93 :: w : Str) = 91 :: (a ++ 93 :: w) from rfl, hs, Option.bind_some, L_Cut, if_pos (by omega), Option.bind_some]
    rw [wrap64 (by omega) (by simp; omega)]
    have e : ((91 :: a).length : Int) + 1 = ((a.length + 2 : Nat) : Int) := by simp; omega
    rw [e]
  refine ⟨(key w).trans (key []).symm, ?_⟩
  rw [key w]
  obtain ⟨h1, h2⟩ := cut_len a 61
  obtain ⟨b1, e1⟩ := F67_tot (Lib.cut a [61]).1 (by omega)
  obtain ⟨b2, e2⟩ := F67_tot (Lib.cut a [61]).2.1 (by omega)
  rw [e1, e2, Option.bind_some]
  generalize (((b1 && (Lib.cut a [61]).2.2) && pair) && !decide ((Lib.cut a [61]).2.1 = [])) = g
  cases g
  · simp only [guardO, cond_f, Option.bind_some]
    generalize (!b1 || ((Lib.cut a [61]).2.2 && (!pair || (!decide ((Lib.cut a [61]).2.1 = []) && !default)))) = g
    cases g
    · exact .inr rfl
    · exact .inl rfl
  · simp only [guardO, cond_t, Option.bind_some]
    generalize (!b1 || ((Lib.cut a [61]).2.2 && (!pair || (!decide ((Lib.cut a [61]).2.1 = []) && !b2)))) = g
    cases g
    · exact .inr rfl
    · exact .inl rfl

theorem F51_free {r : Str} (pair : Bool) (h : (93 : UInt8) ∉ r) : F51 (91 :: r) pair = some 0 := by
  have h93 : (93 : Int).toNat.toUInt8 = 93 := by decide
  unfold F51
  rw [L_IndexByte, Option.bind_some, h93, indexByte_free 93 (91 :: r) (by simp only [List.mem_cons, not_or]; exact ⟨by decide, h⟩)]
  rfl

/-- How many bytes a number in brackets takes: 0 if there is none. -/
def brk (t : Str) (pair : Bool) : Nat := ((F51 t pair).getD 0).toNat

theorem F51_eq (r : Str) (pair : Bool) (hl : r.length ≤ 1000000) : F51 (91 :: r) pair = some (brk (91 :: r) pair : Int) ∧ brk (91 :: r) pair ≤ (91 :: r).length := by
  unfold brk
  rcases firstOf 93 r with h | ⟨a, w, h, rfl⟩
  · rw [F51_free pair h]
    exact ⟨rfl, by simp⟩
  · rcases (F51_cut w pair h (by simp at hl; omega)).2 with e | e
    · rw [e]; exact ⟨rfl, by simp⟩
    · rw [e]
      refine ⟨rfl, ?_⟩
      simp
      omega

def symB : List Str → Str → Except Nat Str
  | [], _ => .ok []
  | w :: ws, t => bif w.isPrefixOf t then (bif ([91] : Str).isPrefixOf (t.drop w.length) then
      (if brk (t.drop w.length) (!decide (w = [124])) = 0 then .error w.length else .ok (t.take (w.length + brk (t.drop w.length) (!decide (w = [124])))))
      else .ok w) else symB ws t

def symA : List Str → Str → Except Nat Str
  | [], [] => .ok []
  | [], c :: r => bif START.contains c then .ok [c] else symB [[62, 62], [62], [60], [124]] (c :: r)
  | w :: ws, t => bif w.isPrefixOf t then .ok w else symA ws t

/-- The symbol ahead, if there is one; or where a number was to stand. -/
def sym (t : Str) : Except Nat Str := symA [[38, 38], [124, 124], [36, 35]] t

theorem symB_pre : ∀ (ws : List Str) (t w : Str), symB ws t = .ok w → w <+: t
  | [], t, w, h => by
    simp only [symB, Except.ok.injEq] at h
    subst h
    exact List.nil_prefix
  | v :: ws, t, w, h => by
    unfold symB at h
    cases hv : v.isPrefixOf t with
    | false => rw [hv, cond_f] at h; exact symB_pre ws t w h
    | true =>
      rw [hv, cond_t] at h
      cases hb : ([91] : Str).isPrefixOf (t.drop v.length) with
      | false =>
        rw [hb, cond_f] at h
        injection h with h
        subst h
        exact List.isPrefixOf_iff_prefix.1 hv
      | true =>
        rw [hb, cond_t] at h
        split at h
        · cases h
        · injection h with h
          subst h
          exact List.take_prefix _ _

theorem symA_pre : ∀ (ws : List Str) (t w : Str), symA ws t = .ok w → w <+: t
  | [], [], w, h => by
    simp only [symA, Except.ok.injEq] at h
    subst h
    exact List.nil_prefix
  | [], c :: r, w, h => by
    unfold symA at h
    cases hc : START.contains c with
    | true =>
      rw [hc, cond_t] at h
      injection h with h
      subst h
      exact ⟨r, rfl⟩
    | false =>
      rw [hc, cond_f] at h
      exact symB_pre _ _ _ h
  | v :: ws, t, w, h => by
    unfold symA at h
    cases hv : v.isPrefixOf t with
    | false => rw [hv, cond_f] at h; exact symA_pre ws t w h
    | true =>
      rw [hv, cond_t] at h
      injection h with h
      subst h
      exact List.isPrefixOf_iff_prefix.1 hv

theorem sym_pre {t w : Str} (h : sym t = .ok w) : w <+: t := symA_pre _ _ _ h

def ans38 (x4 x5 : Int) (p : Nat) (w : Except Nat Str) (r : Option (Str × Bool × Int × Int)) : Prop :=
  match w with
  | .ok w => r = some (w, true, x4, x5)
  | .error e => ∃ v, r = some (v, false, ((p + e : Nat) : Int), 47)

def G38b (t : Str) (x4 x5 x2 : Int) (s : Str) (x3 : Int) (l6 : List Token) (l7 : List Str) : Str → Int → Option (Str × Bool × Int × Int) → Option (Str × Bool × Int × Int) := fun w44 _ n =>
  (F15 t w44).bind fun r47 => (bif !r47 then n else
      (sslice t (w44.length : Int) (t.length : Int)).bind fun t51 =>
      (F15 t51 [91]).bind fun r54 =>
      (bif !r54 then some (w44, true, x4, x5)
      else
        (F51 t51 (!decide (w44 = [124]))).bind fun r58 =>
        (bif decide (r58 = 0) then
          (F26x2 (IntKind.wrap .i64 (x2 + (w44.length : Int))) 47 s x2 x3 x4 x5 l6 l7).bind fun (r62, x63, x64) => some ([], r62, x63, x64)
        else
          (sslice t 0 (IntKind.wrap .i64 ((w44.length : Int) + r58))).bind fun t68 => some (t68, true, x4, x5))))

def G38a (t : Str) (x4 x5 : Int) : Str → Int → Option (Str × Bool × Int × Int) → Option (Str × Bool × Int × Int) := fun w21 _ n =>
  (F15 t w21).bind fun r24 => bif r24 then some (w21, true, x4, x5) else n

theorem loop38b {t s : Str} (ht : t.length ≤ 1000000) (x4 x5 x3 : Int) (l6 : List Token) (l7 : List Str) (p : Nat) (hp : p ≤ 1000000) : ∀ (ws : List Str) (i : Int), ans38 x4 x5 p (symB ws t) (loopR (G38b t x4 x5 (p : Int) s x3 l6 l7) (some ([], true, x4, x5)) ws i)
  | [], i => rfl
  | w :: ws, i => by
    unfold symB
    rw [loopR, G38b, F15_eq _ _ ht, Option.bind_some]
    cases hv : w.isPrefixOf t with
    | false =>
      rw [cond_f, Bool.not_false, cond_t]
      exact loop38b ht x4 x5 x3 l6 l7 p hp ws (i + 1)
    | true =>
      obtain ⟨u, hu⟩ := List.isPrefixOf_iff_prefix.1 hv
      have hlen : t.length = w.length + u.length := by rw [← hu]; simp
      have hs : sslice t (w.length : Int) (t.length : Int) = some u := by
        rw [← hu]
        exact sslice_end w u
      have hd : t.drop w.length = u := by rw [← hu]; simp
      rw [cond_t, Bool.not_true, cond_f, hs, Option.bind_some, F15_eq _ _ (by omega), Option.bind_some, hd]
      cases hb : ([91] : Str).isPrefixOf u with
      | false =>
        rw [cond_f, Bool.not_false, cond_t]
        exact rfl
      | true =>
        rw [cond_t, Bool.not_true, cond_f]
        match u, hb, hlen, hu with
        | c :: r, hb, hlen, hu =>
          have hc : c = 91 := by
            rw [pre_cons, Bool.and_eq_true, decide_eq_true_eq] at hb
            exact hb.1
          subst hc
          obtain ⟨h1, h2⟩ := F51_eq r (!decide (w = [124])) (by simp at hlen; omega)
          rw [h1, Option.bind_some]
          simp only [List.length_cons] at hlen h2
          clear h1
          generalize brk (91 :: r) (!decide (w = [124])) = m at *
          by_cases h0 : m = 0
          · rw [if_pos h0, decide_eq_true (by omega), cond_t, wrap64 (by omega) (by omega)]
            exact ⟨[], by simp [F26x2]⟩
          · rw [if_neg h0, decide_eq_false (by omega), cond_f, wrap64 (by omega) (by omega)]
            have h3 : sslice t 0 ((w.length : Int) + (m : Int)) = some (t.take (w.length + m)) := by
              unfold sslice
              rw [if_pos ⟨by omega, by omega, by omega⟩]
              have : ((w.length : Int) + (m : Int)).toNat - (0 : Int).toNat = w.length + m := by omega
              rw [this]
              rfl
            rw [h3]
            exact rfl

theorem loop38a {t : Str} (ht : t.length ≤ 1000000) (x4 x5 : Int) (p : Nat) (fin : Option (Str × Bool × Int × Int)) (hf : ans38 x4 x5 p (symA [] t) fin) : ∀ (ws : List Str) (i : Int), ans38 x4 x5 p (symA ws t) (loopR (G38a t x4 x5) fin ws i)
  | [], _ => hf
  | w :: ws, i => by
    rw [symA, loopR, G38a, F15_eq _ _ ht, Option.bind_some]
    cases hv : w.isPrefixOf t with
    | false => exact loop38a ht x4 x5 p fin hf ws (i + 1)
    | true => exact rfl

theorem F30_eq {s pre t : Str} (hs : s = pre ++ t) (hl : s.length ≤ 1000000) (x3 x4 x5 : Int) (l6 : List Token) (l7 : List Str) : ans38 x4 x5 pre.length (sym t) (F30 s (pre.length : Int) x3 x4 x5 l6 l7) := by
  have hlen : s.length = pre.length + t.length := by rw [hs]; simp
  have ht : t.length ≤ 1000000 := by omega
  unfold F30
  rw [F12_eq hs, Option.bind_some]
  have h2 : iter (F30_b2 t x4 x5 (pre.length : Int) s x3 l6 l7) BIG 0 = loopR (G38b t x4 x5 (pre.length : Int) s x3 l6 l7) (some ([], true, x4, x5)) [[62, 62], [62], [60], [124]] 0 :=
    iter_range (body := F30_b2 t x4 x5 (pre.length : Int) s x3 l6 l7) _ _ _ (fun again i => rfl) (by decide)
  have h1 := iter_range (body := F30_b1 t x4 x5 (pre.length : Int) s x3 l6 l7) [[38, 38], [124, 124], [36, 35]] (G38a t x4 x5) (bif decide (t = []) then some ([], true, x4, x5) else
      (sidx t 0).bind fun c29 => (L_IndexByte [59, 38, 40, 41, 123, 125, 61, 94, 96, 36, 33, 64] c29).bind fun n32 =>
      (bif decide (0 ≤ n32) then (sslice t 0 1).bind fun t36 => some (t36, true, x4, x5)
      else iter (F30_b2 t x4 x5 (pre.length : Int) s x3 l6 l7) BIG 0)) (fun again i => rfl) (by decide)
  rw [h1, h2]
  refine loop38a ht x4 x5 pre.length _ ?_ _ 0
  match t, ht with
  | [], ht => exact rfl
  | c :: r, ht =>
    have h0 : sidx (c :: r) 0 = some (B c) := sidx_mid [] c r
    have h3 : sslice (c :: r) 0 1 = some [c] := sslice_mid [] c r
    rw [symA, decide_eq_false (p := c :: r = []) (by simp), cond_f, h0, Option.bind_some, L_IndexByte, Option.bind_some, Bback, idx_contains, h3]
    show ans38 x4 x5 pre.length _ (bif START.contains c then _ else _)
    cases START.contains c with
    | true => exact rfl
    | false => exact loop38b ht x4 x5 x3 l6 l7 pre.length (by omega) _ 0

def tok (p : Nat) (t : Str) (l : List Token) (touch : Bool) : Except (Int × Int) (List Token × Nat) :=
  match sym t with
  | .error e => .error (((p + e : Nat) : Int), 47)
  | .ok [] => (match wd t.length t with
    | .error e => .error (((p + e : Nat) : Int), 48)
    | .ok (x, q, m) => match hat l ⟨1, p, x, q⟩ touch with
      | .error e => .error e
      | .ok l1 => .ok (l1, m))
  | .ok (c :: w) => match hat l ⟨2, p, c :: w, []⟩ touch with
    | .error e => .error e
    | .ok l1 => bif decide (c :: w = [36]) || decide (c :: w = [36, 35]) then (match name (p + (c :: w).length) (t.drop (c :: w).length) l1 with
        | .error e => .error e
        | .ok l2 => .ok (l2, (c :: w).length + nameN (t.drop (c :: w).length)))
      else .ok (l1, (c :: w).length)

def ansT (x4 x5 : Int) (p : Nat) (w : Except (Int × Int) (List Token × Nat)) (r : Option (Bool × Int × Int × Int × List Token)) : Prop :=
  match w with
  | .ok (l, m) => r = some (true, ((p + m : Nat) : Int), x4, x5, l)
  | .error (q, c) => ∃ j l, r = some (false, j, q, c, l)

theorem F17_eq {s pre t : Str} (hs : s = pre ++ t) (hl : s.length ≤ 1000000) (x3 x4 x5 : Int) (l : List Token) (l7 : List Str) (hll : l.length ≤ 100000) :
    ansT x4 x5 pre.length (tok pre.length t l (lastWord l && decide (x3 = (pre.length : Int)))) (F17 s (pre.length : Int) x3 x4 x5 l l7) := by
  have hlen : s.length = pre.length + t.length := by rw [hs]; simp
  unfold F17
  rw [F29_eq _ _ _ _ _ _ _ hll, Option.bind_some]
  generalize (lastWord l && decide (x3 = (pre.length : Int))) = tc
  have h38 := F30_eq hs hl x3 x4 x5 l l7
  unfold tok
  cases hw : sym t with
  | error e =>
    rw [hw] at h38
    obtain ⟨v, hv⟩ := h38
    rw [hv, Option.bind_some]
    dsimp only
    rw [Bool.not_false, cond_t]
    exact ⟨_, _, rfl⟩
  | ok w =>
    rw [hw] at h38
    have h38' : F30 s (pre.length : Int) x3 x4 x5 l l7 = some (w, true, x4, x5) := h38
    rw [h38', Option.bind_some]
    dsimp only
    rw [Bool.not_true, cond_f]
    match w, hw with
    | [], hw =>
      rw [decide_eq_true (p := ([] : Str) = []) rfl, Bool.not_true, cond_f]
      have h36 := F28_eq hs hl x3 x4 x5 l l7
      dsimp only
      cases hwd : wd t.length t with
      | error e =>
        rw [hwd] at h36
        obtain ⟨i, hi⟩ := h36
        rw [hi, Option.bind_some]
        exact ⟨_, _, rfl⟩
      | ok y =>
        rcases y with ⟨x, q, m⟩
        rw [hwd] at h36
        have h36' : F28x1 s (pre.length : Int) x3 x4 x5 l l7 = some ([] ++ x, [] ++ q, true, ((pre.length + m : Nat) : Int), x4, x5) := h36
        rw [h36', Option.bind_some]
        dsimp only
        rw [cond_t, List.nil_append, List.nil_append]
        have h39 := F31_eq ⟨1, (pre.length : Int), x, q⟩ tc s ((pre.length + m : Nat) : Int) x3 x4 x5 l l7
        cases hh : hat l ⟨1, (pre.length : Int), x, q⟩ tc with
        | error e =>
          rw [hh] at h39
          obtain ⟨l', hl'⟩ := h39
          rw [hl']
          exact ⟨_, _, rfl⟩
        | ok l1 =>
          rw [hh] at h39
          have h39' : F31 ⟨1, (pre.length : Int), x, q⟩ tc s ((pre.length + m : Nat) : Int) x3 x4 x5 l l7 = some (true, x4, x5, l1) := h39
          rw [h39']
          exact rfl
    | c :: w, hw =>
      obtain ⟨u, hu⟩ := sym_pre hw
      have hu2 : t.drop (c :: w).length = u := by rw [← hu]; simp
      have htl : t.length = (c :: w).length + u.length := by rw [← hu, List.length_append]
      rw [decide_eq_false (p := c :: w = []) (by simp), Bool.not_false, cond_t, wrap64 (by omega) (by omega)]
      have e1 : (pre.length : Int) + ((c :: w).length : Int) = ((pre.length + (c :: w).length : Nat) : Int) := by omega
      rw [e1]
      have h39 := F31_eq ⟨2, (pre.length : Int), c :: w, []⟩ tc s ((pre.length + (c :: w).length : Nat) : Int) x3 x4 x5 l l7
      dsimp only
      cases hh : hat l ⟨2, (pre.length : Int), c :: w, []⟩ tc with
      | error e =>
        rw [hh] at h39
        obtain ⟨l', hl'⟩ := h39
        rw [hl']
        exact ⟨_, _, rfl⟩
      | ok l1 =>
        rw [hh] at h39
        have h39' : F31 ⟨2, (pre.length : Int), c :: w, []⟩ tc s ((pre.length + (c :: w).length : Nat) : Int) x3 x4 x5 l l7 = some (true, x4, x5, l1) := h39
        rw [h39', Option.bind_some]
        dsimp only
        rw [Bool.not_true, cond_f]
        cases hd : decide (c :: w = [36]) || decide (c :: w = [36, 35]) with
        | false => exact rfl
        | true =>
          rw [cond_t, cond_t, hu2]
          have h40 := F32_eq (s := s) (pre := pre ++ (c :: w)) (t := u) (by rw [hs, ← hu]; simp) hl x3 x4 x5 l1 l7
          have e2 : (pre ++ (c :: w)).length = pre.length + (c :: w).length := List.length_append
          rw [e2] at h40
          cases hn : name (pre.length + (c :: w).length) u l1 with
          | error e =>
            rw [hn] at h40
            obtain ⟨j, l', hl'⟩ := h40
            rw [hl']
            exact ⟨_, _, rfl⟩
          | ok l2 =>
            rw [hn] at h40
            have h40' : F32 s ((pre.length + (c :: w).length : Nat) : Int) x3 x4 x5 l1 l7 = some (true, ((pre.length + (c :: w).length + nameN u : Nat) : Int), x4, x5, l2) := h40
            rw [h40']
            show _ = _
            rw [Option.bind_some]
            simp only [Nat.add_assoc]

def here (p : Nat) (t : Str) (l : List Token) (ns : List Str) : Except (Int × Int) (List Token × List Str × Nat) :=
  match wd (t.drop (2 + blankN (t.drop 2))).length (t.drop (2 + blankN (t.drop 2))) with
  | .error e => .error (((p + (2 + blankN (t.drop 2)) + e : Nat) : Int), 48)
  | .ok (x, q, m) => bif decide (m = 0) then .error (((p + (2 + blankN (t.drop 2)) : Nat) : Int), 47) else match push l ⟨4, p, x, q⟩ with
    | .error e => .error e
    | .ok l1 => .ok (l1, ns ++ [x], 2 + blankN (t.drop 2) + m)

def ansH (x4 x5 : Int) (p : Nat) (w : Except (Int × Int) (List Token × List Str × Nat)) (r : Option (Bool × Int × Int × Int × List Token × List Str)) : Prop :=
  match w with
  | .ok (l, ns, m) => r = some (true, ((p + m : Nat) : Int), x4, x5, l, ns)
  | .error (q, c) => ∃ b j l ns, r = some (b, j, q, c, l, ns)

theorem F16_eq {s pre t : Str} (hs : s = pre ++ t) (h2 : 2 ≤ t.length) (hl : s.length ≤ 1000000) (x3 x4 x5 : Int) (l : List Token) (ns : List Str) (hns : ns.length ≤ 1000000) :
    ansH x4 x5 pre.length (here pre.length t l ns) (F16 s (pre.length : Int) x3 x4 x5 l ns) := by
  have hlen : s.length = pre.length + t.length := by rw [hs]; simp
  have hb := blankN_le (t.drop 2).length (t.drop 2) (Nat.le_refl _)
  have hdl : (t.drop 2).length = t.length - 2 := by simp
  have s1 : s = (pre ++ t.take 2) ++ t.drop 2 := by rw [hs, List.append_assoc, List.take_append_drop]
  have n1 : (pre ++ t.take 2).length = pre.length + 2 := by simp; omega
  have h19 := F11_eq s1 hl x3 x4 x5 l ns
  rw [n1] at h19
  unfold F16 here
  rw [wrap64 (by omega) (by omega), show (pre.length : Int) + 2 = ((pre.length + 2 : Nat) : Int) by omega, h19, Option.bind_some]
  generalize blankN (t.drop 2) = b at *
  have s2 : s = (pre ++ t.take (2 + b)) ++ t.drop (2 + b) := by rw [hs, List.append_assoc, List.take_append_drop]
  have n2 : (pre ++ t.take (2 + b)).length = pre.length + (2 + b) := by simp; omega
  have h36 := F28_eq s2 hl x3 x4 x5 l ns
  rw [n2] at h36
  rw [show pre.length + 2 + b = pre.length + (2 + b) by omega]
  cases hwd : wd (t.drop (2 + b)).length (t.drop (2 + b)) with
  | error e =>
    rw [hwd] at h36
    obtain ⟨i, hi⟩ := h36
    rw [hi, Option.bind_some]
    exact ⟨_, _, _, _, rfl⟩
  | ok y =>
    rcases y with ⟨x, q, m⟩
    rw [hwd] at h36
    have h36' : F28x1 s ((pre.length + (2 + b) : Nat) : Int) x3 x4 x5 l ns = some ([] ++ x, [] ++ q, true, ((pre.length + (2 + b) + m : Nat) : Int), x4, x5) := h36
    rw [h36', Option.bind_some]
    dsimp only
    rw [Bool.not_true, cond_f, List.nil_append, List.nil_append]
    by_cases hm : m = 0
    · subst hm
      rw [decide_eq_true (p := (((pre.length + (2 + b) + 0 : Nat) : Int) = ((pre.length + (2 + b) : Nat) : Int))) rfl, cond_t, decide_eq_true (p := 0 = 0) rfl, cond_t]
      exact ⟨_, _, _, _, rfl⟩
    · rw [decide_eq_false (p := (((pre.length + (2 + b) + m : Nat) : Int) = ((pre.length + (2 + b) : Nat) : Int))) (by omega), cond_f, decide_eq_false hm, cond_f, appO, if_pos (by simp; omega), Option.bind_some]
      have h33 := F25_eq ⟨4, (pre.length : Int), x, q⟩ s ((pre.length + (2 + b) + m : Nat) : Int) x3 x4 x5 l (ns ++ [x])
      cases hp : push l ⟨4, (pre.length : Int), x, q⟩ with
      | error e =>
        rw [hp] at h33
        obtain ⟨l', hl'⟩ := h33
        rw [hl']
        exact ⟨_, _, _, _, rfl⟩
      | ok l1 =>
        rw [hp] at h33
        have h33' : F25x1 ⟨4, (pre.length : Int), x, q⟩ s ((pre.length + (2 + b) + m : Nat) : Int) x3 x4 x5 l (ns ++ [x]) = some (true, x4, x5, l1) := h33
        rw [h33']
        show _ = _
        rw [Option.bind_some]
        simp only [Nat.add_assoc]

/-- How many bytes of text a here-document takes, its last line among them. -/
def doc : Nat → Str → Str → Option Nat
  | 0, _, _ => none
  | k + 1, e, u => if u = [] then none else
    if (Lib.cut u [10]).1 = e then some ((Lib.cut u [10]).1.length + bif (Lib.cut u [10]).2.2 then 1 else 0)
    else (doc k e (Lib.cut u [10]).2.1).map fun n => (Lib.cut u [10]).1.length + (bif (Lib.cut u [10]).2.2 then 1 else 0) + n

theorem doc_nil (k : Nat) (e : Str) : doc k e [] = none := by cases k <;> rfl

theorem doc_le : ∀ (k : Nat) (e u : Str) (n : Nat), doc k e u = some n → n ≤ u.length
  | 0, e, u, n, h => by cases h
  | k + 1, e, u, n, h => by
    unfold doc at h
    by_cases hu : u = []
    · rw [if_pos hu] at h; cases h
    · rw [if_neg hu] at h
      rcases firstOf 10 u with hf | ⟨a, b, hf, rfl⟩
      · rw [cut_free hf] at h
        dsimp only at h
        rw [doc_nil] at h
        split at h
        · simp at h; omega
        · cases h
      · rw [cut_at b hf] at h
        dsimp only at h
        split at h
        · simp at h; simp; omega
        · cases hd : doc k e b with
          | none => rw [hd] at h; cases h
          | some m =>
            rw [hd] at h
            have := doc_le k e b m hd
            simp at h
            simp
            omega

def ansD (p : Nat) (w : Option Nat) (r : Option (Str × Int × Int)) : Prop :=
  match w with
  | some n => ∃ x, r = some (x, ((p + n : Nat) : Int), 0)
  | none => r = some ([], 0, 3)

theorem loop15 {s e pre : Str} (hl : s.length ≤ 1000000) : ∀ (k : Nat) (t d : Str) (n : Nat), t.length ≤ k → s = pre ++ d ++ t → t.length < n →
    ansD (pre ++ d).length (doc k e t) (iter (F54_b2 s e (pre.length : Int)) n ((pre ++ d).length : Int)) := by
  have gone : ∀ (n : Nat) (p : Int), 0 < n → (s.length : Int) ≤ p → iter (F54_b2 s e (pre.length : Int)) n p = some ([], 0, 3) := by
    intro n p hn hp
    match n, hn with
    | n + 1, _ =>
      show F54_b2 s _ _ _ _ = _
      rw [F54_b2, decide_eq_false (by omega), cond_f]
  intro k
  induction k with
  | zero =>
    intro t d n ht hs hn
    have ht : t = [] := List.length_eq_zero_iff.1 (by omega)
    subst ht
    exact gone n _ (by omega) (by rw [hs]; simp)
  | succ k ih =>
    intro t d n ht hs hn
    by_cases h0 : t = []
    · subst h0
      rw [doc_nil]
      exact gone n _ (by omega) (by rw [hs]; simp)
    have hpos : 0 < t.length := List.length_pos_iff.2 h0
    have hlen : s.length = (pre ++ d).length + t.length := by rw [hs]; simp; omega
    have hlt : decide (((pre ++ d).length : Int) < (s.length : Int)) = true := decide_eq_true (by omega)
    have hsd : sslice s (pre.length : Int) ((pre ++ d).length : Int) = some d := by
      rw [hs]
      exact sslice_part pre d t
    rw [doc, if_neg h0]
    match n, hn with
    | n + 1, hn =>
      show ansD _ _ (F54_b2 s _ _ _ _)
      rcases firstOf 10 t with hf | ⟨a, b, hf, rfl⟩
      · have hsl : sslice s ((pre ++ d).length : Int) (s.length : Int) = some t := by
          rw [hs]
          exact sslice_end (pre ++ d) t
        rw [F54_b2, hlt, cond_t, scan15 s e _ _ _ hl t (pre ++ d) [] BIG hf (by rw [hs, List.append_nil]) (.inl rfl) (by unfold BIG; omega)]
        have e2 : ((pre ++ d ++ t).length : Int) = (s.length : Int) := by rw [hs]
        rw [e2, hsl, Option.bind_some, hsd, cut_free hf]
        dsimp only
        by_cases he : t = e
        · rw [decide_eq_true he, cond_t, if_pos he, cond_f]
          refine ⟨d, ?_⟩
          have : imin ((s.length : Int) + 1) (s.length : Int) = (((pre ++ d).length + (t.length + 0) : Nat) : Int) := by unfold imin; split <;> omega
          rw [Option.bind_some, this]
        · rw [decide_eq_false he, cond_f, if_neg he, doc_nil]
          exact gone n _ (by omega) (by omega)
      · have hs2 : s = pre ++ (d ++ (a ++ [10])) ++ b := by rw [hs]; simp
        have hta : (a ++ 10 :: b).length = a.length + b.length + 1 := by simp; omega
        rw [F54_b2, hlt, cond_t, scan15 s e _ _ _ hl a (pre ++ d) (10 :: b) BIG hf (by rw [hs]; simp) (.inr ⟨b, rfl⟩) (by unfold BIG; omega)]
        have hsa : sslice s ((pre ++ d).length : Int) ((pre ++ d ++ a).length : Int) = some a := by
          have : s = (pre ++ d) ++ a ++ 10 :: b := by rw [hs]; simp
          rw [this]
          exact sslice_part (pre ++ d) a (10 :: b)
        have e2 : ((pre ++ d ++ a).length : Int) = ((pre ++ d).length : Int) + (a.length : Int) := by simp; omega
        rw [hsa, Option.bind_some, hsd, cut_at b hf]
        dsimp only
        by_cases he : a = e
        · rw [decide_eq_true he, cond_t, if_pos he, cond_t, e2]
          refine ⟨d, ?_⟩
          have : imin (((pre ++ d).length : Int) + (a.length : Int) + 1) (s.length : Int) = (((pre ++ d).length + (a.length + 1) : Nat) : Int) := by unfold imin; split <;> omega
          rw [Option.bind_some, this]
        · rw [decide_eq_false he, cond_f, if_neg he, cond_t, e2]
          have h := ih b (d ++ (a ++ [10])) n (by omega) hs2 (by omega)
          have e3 : (pre ++ (d ++ (a ++ [10]))).length = (pre ++ d).length + (a.length + 1) := by simp; omega
          rw [e3, show (((pre ++ d).length + (a.length + 1) : Nat) : Int) = ((pre ++ d).length : Int) + (a.length : Int) + 1 by omega] at h
          cases hd : doc k e b with
          | none => rw [hd] at h; exact h
          | some m =>
            rw [hd] at h
            obtain ⟨x, hx⟩ := h
            refine ⟨x, ?_⟩
            rw [hx]
            simp only [Nat.add_assoc]

theorem F8_eq {s pre t : Str} (hs : s = pre ++ t) (hl : s.length ≤ 1000000) (e : Str) : ansD pre.length (doc t.length e t) (F8 s (pre.length : Int) e) := by
  have hlen : s.length = pre.length + t.length := by rw [hs]; simp
  obtain ⟨r, h1, h2⟩ := heres (s := s) (e := e) (at_ := (pre.length : Int)) hl
  rw [h1, ← h2]
  unfold F54
  have hr : (decide ((pre.length : Int) < 0) || decide ((s.length : Int) < (pre.length : Int))) = false := by
    rw [decide_eq_false (by omega), decide_eq_false (by omega)]
    rfl
  rw [hr, cond_f]
  have h := loop15 (s := s) (e := e) (pre := pre) hl t.length t [] BIG (Nat.le_refl _) (by rw [hs, List.append_nil]) (by unfold BIG; omega)
  rw [List.append_nil] at h
  exact h

/-- The here-documents behind an end of a line: how many bytes they take; or where one isn't closed. -/
def docs : List Str → Str → Except (Nat × Int) Nat
  | [], _ => .ok 0
  | w :: ws, u => match doc u.length w u with
    | none => .error (0, 3)
    | some n => match docs ws (u.drop n) with
      | .error (o, c) => .error (n + o, c)
      | .ok m => .ok (n + m)

theorem docs_le : ∀ (ws : List Str) (u : Str) (m : Nat), docs ws u = .ok m → m ≤ u.length
  | [], u, m, h => by simp only [docs, Except.ok.injEq] at h; omega
  | w :: ws, u, m, h => by
    unfold docs at h
    cases hd : doc u.length w u with
    | none => rw [hd] at h; cases h
    | some n =>
      rw [hd] at h
      have h1 := doc_le _ _ _ _ hd
      dsimp only at h
      cases hr : docs ws (u.drop n) with
      | error e => rcases e with ⟨o, c⟩; rw [hr] at h; cases h
      | ok k =>
        rw [hr] at h
        have h2 := docs_le ws (u.drop n) k hr
        simp at h2
        injection h with h
        omega

def ans22 (x4 x5 : Int) (l : List Token) (p : Nat) (w : Except (Nat × Int) Nat) (r : Option (Bool × Bool × Int × Int × Int × List Token)) : Prop :=
  match w with
  | .ok m => r = some (true, true, ((p + m : Nat) : Int), x4, x5, l)
  | .error (o, c) => ∃ b j, r = some (false, b, j, ((p + o : Nat) : Int), c, l)

def G22 (s : Str) (x3 x15 x16 : Int) (o17 : List Token) (l7 : List Str) : Str → Int → (Int → Option (Bool × Bool × Int × Int × Int × List Token)) → Int → Option (Bool × Bool × Int × Int × Int × List Token) := fun w28 _ n x23 =>
  (F8 s x23 w28).bind fun (r31, r32, r33) =>
    (bif !decide (r33 = 0) then
      (F26x2 x23 r33 s x23 x3 x15 x16 o17 l7).bind fun (r37, x38, x39) => some (false, r37, x23, x38, x39, o17)
    else n r32)

theorem loop22 {s : Str} (hl : s.length ≤ 1000000) (x3 x15 x16 : Int) (o17 : List Token) (l7 : List Str) : ∀ (ws : List Str) (i : Int) (pre u : Str), s = pre ++ u →
    ans22 x15 x16 o17 pre.length (docs ws u) (loopS (G22 s x3 x15 x16 o17 l7) (fun x23 => some (true, true, x23, x15, x16, o17)) ws i (pre.length : Int))
  | [], i, pre, u, hs => rfl
  | w :: ws, i, pre, u, hs => by
    unfold docs
    rw [loopS, G22]
    have h14 := F8_eq hs hl w
    cases hd : doc u.length w u with
    | none =>
      rw [hd] at h14
      have h14' : F8 s (pre.length : Int) w = some ([], 0, 3) := h14
      rw [h14']
      exact ⟨_, _, rfl⟩
    | some n =>
      rw [hd] at h14
      obtain ⟨x, hx⟩ := h14
      have h1 := doc_le _ _ _ _ hd
      rw [hx, Option.bind_some]
      dsimp only
      rw [decide_eq_true (p := (0 : Int) = 0) rfl, Bool.not_true, cond_f]
      have h := loop22 hl x3 x15 x16 o17 l7 ws (i + 1) (pre ++ u.take n) (u.drop n) (by rw [hs, List.append_assoc, List.take_append_drop])
      have e1 : (pre ++ u.take n).length = pre.length + n := by simp; omega
      rw [e1] at h
      cases hr : docs ws (u.drop n) with
      | error e =>
        rcases e with ⟨o, c⟩
        rw [hr] at h
        obtain ⟨b, j, hj⟩ := h
        refine ⟨b, j, ?_⟩
        rw [hj]
        simp only [Nat.add_assoc]
      | ok m =>
        rw [hr] at h
        show _ = _
        refine Eq.trans h ?_
        simp only [Nat.add_assoc]

/-- The end of a line, and the here-documents behind it. -/
def nls (p : Nat) (t : Str) (l : List Token) (ns : List Str) : Except (Int × Int) (List Token × Nat) :=
  match push l ⟨3, p, [10], []⟩ with
  | .error e => .error e
  | .ok l1 => match docs ns (t.drop 1) with
    | .error (o, c) => .error (((p + 1 + o : Nat) : Int), c)
    | .ok m => .ok (l1, 1 + m)

def ansE (x4 x5 : Int) (p : Nat) (w : Except (Int × Int) (List Token × Nat)) (r : Option (Bool × Bool × Int × Int × Int × List Token)) : Prop :=
  match w with
  | .ok (l, m) => r = some (true, true, ((p + m : Nat) : Int), x4, x5, l)
  | .error (q, c) => ∃ b j l, r = some (false, b, j, q, c, l)

theorem F14_eq {s pre t : Str} (hs : s = pre ++ t) (h1 : 1 ≤ t.length) (hl : s.length ≤ 1000000) (x3 x4 x5 : Int) (l : List Token) (ns : List Str) (hns : ns.length ≤ 1000000) :
    ansE x4 x5 pre.length (nls pre.length t l ns) (F14x1 s (pre.length : Int) x3 x4 x5 l ns) := by
  have hlen : s.length = pre.length + t.length := by rw [hs]; simp
  unfold F14x1 nls
  have h33 := F25_eq ⟨3, (pre.length : Int), [10], []⟩ s (pre.length : Int) x3 x4 x5 l ns
  cases hp : push l ⟨3, (pre.length : Int), [10], []⟩ with
  | error e =>
    rw [hp] at h33
    obtain ⟨l', hl'⟩ := h33
    rw [hl']
    exact ⟨_, _, _, rfl⟩
  | ok l1 =>
    rw [hp] at h33
    have h33' : F25x1 ⟨3, (pre.length : Int), [10], []⟩ s (pre.length : Int) x3 x4 x5 l ns = some (true, x4, x5, l1) := h33
    rw [h33', Option.bind_some]
    dsimp only
    rw [Bool.not_true, cond_f, wrap64 (by omega) (by omega)]
    have hit := iter_rangeS (body := F14x1_b1 ns s x3 x4 x5 l1) ns (G22 s x3 x4 x5 l1 ns) (fun x23 => some (true, true, x23, x4, x5, l1)) (fun again i x => rfl) (by omega) ((pre.length : Int) + 1)
    rw [hit]
    have h := loop22 hl x3 x4 x5 l1 ns ns 0 (pre ++ t.take 1) (t.drop 1) (by rw [hs, List.append_assoc, List.take_append_drop])
    have e1 : (pre ++ t.take 1).length = pre.length + 1 := by simp; omega
    rw [e1, show ((pre.length + 1 : Nat) : Int) = (pre.length : Int) + 1 by omega] at h
    cases hr : docs ns (t.drop 1) with
    | error e =>
      rcases e with ⟨o, c⟩
      rw [hr] at h
      obtain ⟨b, j, hj⟩ := h
      exact ⟨b, j, _, hj⟩
    | ok m =>
      rw [hr] at h
      show _ = _
      refine Eq.trans h ?_
      simp only [Nat.add_assoc]

theorem push_ok {l l' : List Token} {u : Token} (h : push l u = .ok l') : l' = l ++ [u] ∧ l'.length ≤ 1024 := by
  unfold push at h
  split at h
  · cases h
  · injection h with h
    subst h
    exact ⟨rfl, by simp; omega⟩

theorem push_err {l : List Token} {u : Token} {q c : Int} (h : push l u = .error (q, c)) : c = 4 := by
  unfold push at h
  split at h
  · injection h with h
    injection h with h1 h2
    exact h2.symm
  · cases h

theorem hat_ok {l l' : List Token} {u : Token} {tc : Bool} (h : hat l u tc = .ok l') : l'.length ≤ 1024 := by
  unfold hat at h
  cases ht : hats u tc with
  | false => rw [ht, cond_f] at h; exact (push_ok h).2
  | true =>
    rw [ht, cond_t] at h
    cases hp : push l ⟨2, u.at_, [94], []⟩ with
    | error e => rw [hp] at h; cases h
    | ok l1 => rw [hp] at h; exact (push_ok h).2

theorem hat_err {l : List Token} {u : Token} {tc : Bool} {q c : Int} (h : hat l u tc = .error (q, c)) : c = 4 := by
  unfold hat at h
  cases ht : hats u tc with
  | false => rw [ht, cond_f] at h; exact push_err h
  | true =>
    rw [ht, cond_t] at h
    cases hp : push l ⟨2, u.at_, [94], []⟩ with
    | error e => rw [hp] at h; injection h with h; subst h; exact push_err hp
    | ok l1 => rw [hp] at h; exact push_err h

theorem name_ok {p : Nat} {t : Str} {l l' : List Token} (h : name p t l = .ok l') : l'.length ≤ 1024 := by
  unfold name at h
  split at h
  · cases h
  · exact (push_ok h).2

theorem name_err {p : Nat} {t : Str} {l : List Token} {q c : Int} (h : name p t l = .error (q, c)) : c ≠ 0 := by
  unfold name at h
  split at h
  · injection h with h
    injection h with h1 h2
    subst h2
    decide
  · rw [push_err h]
    decide

theorem docs_err : ∀ (ws : List Str) (u : Str) (o : Nat) (c : Int), docs ws u = .error (o, c) → c = 3
  | [], u, o, c, h => by cases h
  | w :: ws, u, o, c, h => by
    unfold docs at h
    cases hd : doc u.length w u with
    | none =>
      rw [hd] at h
      injection h with h
      injection h with h1 h2
      exact h2.symm
    | some n =>
      rw [hd] at h
      dsimp only at h
      cases hr : docs ws (u.drop n) with
      | error e =>
        rcases e with ⟨o', c'⟩
        rw [hr] at h
        have := docs_err ws (u.drop n) o' c' hr
        injection h with h
        injection h with h1 h2
        rw [← h2]
        exact this
      | ok k => rw [hr] at h; cases h

theorem nls_ok {p : Nat} {t : Str} {l l' : List Token} {ns : List Str} {m : Nat} (ht : 1 ≤ t.length) (h : nls p t l ns = .ok (l', m)) : l'.length ≤ 1024 ∧ 1 ≤ m ∧ m ≤ t.length := by
  unfold nls at h
  cases hp : push l ⟨3, p, [10], []⟩ with
  | error e => rw [hp] at h; cases h
  | ok l1 =>
    rw [hp] at h
    dsimp only at h
    cases hd : docs ns (t.drop 1) with
    | error e => rcases e with ⟨o, c⟩; rw [hd] at h; cases h
    | ok k =>
      rw [hd] at h
      injection h with h
      injection h with h1 h2
      subst h1
      have h3 := docs_le _ _ _ hd
      simp at h3
      exact ⟨(push_ok hp).2, by omega, by omega⟩

theorem nls_err {p : Nat} {t : Str} {l : List Token} {ns : List Str} {q c : Int} (h : nls p t l ns = .error (q, c)) : c ≠ 0 := by
  unfold nls at h
  cases hp : push l ⟨3, p, [10], []⟩ with
  | error e =>
    rcases e with ⟨q', c'⟩
    rw [hp] at h
    injection h with h
    injection h with h1 h2
    rw [← h2, push_err hp]
    decide
  | ok l1 =>
    rw [hp] at h
    dsimp only at h
    cases hd : docs ns (t.drop 1) with
    | error e =>
      rcases e with ⟨o, c'⟩
      rw [hd] at h
      injection h with h
      injection h with h1 h2
      rw [← h2, docs_err _ _ _ _ hd]
      decide
    | ok k => rw [hd] at h; cases h

theorem wd_len : ∀ (k : Nat) (t x q : Str) (m : Nat), wd k t = .ok (x, q, m) → m ≤ t.length ∧ x.length = q.length ∧ x.length ≤ m
  | 0, t, x, q, m, h => by
    unfold wd at h
    injection h with h
    injection h with h1 h2
    injection h2 with h2 h3
    subst h1; subst h2; subst h3
    simp
  | k + 1, [], x, q, m, h => by
    unfold wd at h
    injection h with h
    injection h with h1 h2
    injection h2 with h2 h3
    subst h1; subst h2; subst h3
    simp
  | k + 1, c :: r, x, q, m, h => by
    rw [wd] at h
    cases ho : ord (c :: r) with
    | true =>
      rw [ho, cond_t] at h
      cases hw : wd k r with
      | error e => rw [hw] at h; cases h
      | ok y =>
        rcases y with ⟨x', q', m'⟩
        rw [hw] at h
        have := wd_len k r x' q' m' hw
        injection h with h
        injection h with h1 h2
        injection h2 with h2 h3
        subst h1; subst h2; subst h3
        simp
        omega
    | false =>
      rw [ho, cond_f] at h
      split at h
      · cases hqd : qd r with
        | none => rw [hqd] at h; cases h
        | some y =>
          rcases y with ⟨y, n⟩
          rw [hqd] at h
          have g := qd_len r.length r y n (Nat.le_refl _) hqd
          dsimp only at h
          cases hw : wd k (r.drop n) with
          | error e => rw [hw] at h; cases h
          | ok z =>
            rcases z with ⟨x', q', m'⟩
            rw [hw] at h
            have := wd_len k (r.drop n) x' q' m' hw
            injection h with h
            injection h with h1 h2
            injection h2 with h2 h3
            subst h1; subst h2; subst h3
            simp at this ⊢
            omega
      · injection h with h
        injection h with h1 h2
        injection h2 with h2 h3
        subst h1; subst h2; subst h3
        simp

theorem here_ok {p : Nat} {t : Str} {l l' : List Token} {ns ns' : List Str} {m : Nat} (ht : 2 ≤ t.length) (h : here p t l ns = .ok (l', ns', m)) : l'.length ≤ 1024 ∧ l'.length = l.length + 1 ∧ 1 ≤ m ∧ m ≤ t.length ∧ ns'.length = ns.length + 1 := by
  have hb := blankN_le (t.drop 2).length (t.drop 2) (Nat.le_refl _)
  unfold here at h
  generalize blankN (t.drop 2) = b at *
  cases hw : wd (t.drop (2 + b)).length (t.drop (2 + b)) with
  | error e => rw [hw] at h; cases h
  | ok y =>
    rcases y with ⟨x, q, n⟩
    rw [hw] at h
    have g := wd_len _ _ _ _ _ hw
    dsimp only at h
    by_cases hn : n = 0
    · rw [decide_eq_true hn, cond_t] at h; cases h
    · rw [decide_eq_false hn, cond_f] at h
      cases hp : push l ⟨4, p, x, q⟩ with
      | error e => rw [hp] at h; cases h
      | ok l1 =>
        rw [hp] at h
        injection h with h
        injection h with h1 h2
        injection h2 with h2 h3
        subst h1; subst h2; subst h3
        obtain ⟨rfl, k2⟩ := push_ok hp
        simp at g hb k2 ⊢
        omega

theorem here_err {p : Nat} {t : Str} {l : List Token} {ns : List Str} {q c : Int} (h : here p t l ns = .error (q, c)) : c ≠ 0 := by
  unfold here at h
  cases hw : wd (t.drop (2 + blankN (t.drop 2))).length (t.drop (2 + blankN (t.drop 2))) with
  | error e =>
    rw [hw] at h
    injection h with h
    injection h with h1 h2
    rw [← h2]
    decide
  | ok y =>
    rcases y with ⟨x, q', n⟩
    rw [hw] at h
    dsimp only at h
    by_cases hn : n = 0
    · rw [decide_eq_true hn, cond_t] at h
      injection h with h
      injection h with h1 h2
      rw [← h2]
      decide
    · rw [decide_eq_false hn, cond_f] at h
      cases hp : push l ⟨4, p, x, q'⟩ with
      | error e =>
        rcases e with ⟨q2, c2⟩
        rw [hp] at h
        injection h with h
        injection h with h1 h2
        rw [← h2, push_err hp]
        decide
      | ok l1 => rw [hp] at h; cases h

/-- A byte that is no symbol and no blank begins a word. -/
theorem starts : ∀ c : UInt8, START.contains c = false → c ≠ 124 → c ≠ 62 → c ≠ 60 → c ≠ 32 → c ≠ 9 → c ≠ 10 → c ≠ 39 → SYMI.contains c = false := by
  intro c
  have : ∀ k : Fin 256, (START.contains (UInt8.ofNat k.val) || ([124, 62, 60, 32, 9, 10, 39] : Str).contains (UInt8.ofNat k.val) || !SYMI.contains (UInt8.ofNat k.val)) = true := by decide +kernel
  have h := this ⟨c.toNat, UInt8.toNat_lt c⟩
  rw [UInt8.ofNat_toNat] at h
  intro h1 n1 n2 n3 n4 n5 n6 n7
  have h2 : ([124, 62, 60, 32, 9, 10, 39] : Str).contains c = false := by
    rw [Bool.eq_false_iff]
    intro e
    simp at e
    rcases e with e | e | e | e | e | e | e
    · exact n1 e
    · exact n2 e
    · exact n3 e
    · exact n4 e
    · exact n5 e
    · exact n6 e
    · exact n7 e
  rw [h1, h2] at h
  simpa using h

theorem symB_nil : ∀ (ws : List Str) (t : Str), (∀ w ∈ ws, w ≠ []) → symB ws t = .ok [] → ∀ w ∈ ws, w.isPrefixOf t = false
  | [], t, _, _ => by simp
  | v :: ws, t, hne, h => by
    rw [symB] at h
    cases hv : v.isPrefixOf t with
    | false =>
      rw [hv, cond_f] at h
      have := symB_nil ws t (fun w hw => hne w (List.mem_cons_of_mem _ hw)) h
      intro w hw
      rcases List.mem_cons.1 hw with rfl | hw
      · exact hv
      · exact this w hw
    | true =>
      exfalso
      have hvn := hne v (List.mem_cons_self ..)
      rw [hv, cond_t] at h
      cases hb : ([91] : Str).isPrefixOf (t.drop v.length) with
      | false => rw [hb, cond_f] at h; injection h with h; exact hvn h
      | true =>
        rw [hb, cond_t] at h
        split at h
        · cases h
        · injection h with h
          have hl := (List.isPrefixOf_iff_prefix.1 hv).length_le
          have := congrArg List.length h
          have hvp : 0 < v.length := List.length_pos_iff.2 hvn
          rw [List.length_take] at this
          simp only [List.length_nil] at this
          omega

theorem symA_nil : ∀ (ws : List Str) (c : UInt8) (r : Str), (∀ w ∈ ws, w ≠ []) → symA ws (c :: r) = .ok [] → START.contains c = false ∧ symB [[62, 62], [62], [60], [124]] (c :: r) = .ok []
  | [], c, r, _, h => by
    rw [symA] at h
    cases hc : START.contains c with
    | true => rw [hc, cond_t] at h; injection h with h; cases h
    | false => rw [hc, cond_f] at h; exact ⟨rfl, h⟩
  | w :: ws, c, r, hne, h => by
    rw [symA] at h
    cases hv : w.isPrefixOf (c :: r) with
    | false => rw [hv, cond_f] at h; exact symA_nil ws c r (fun w hw => hne w (List.mem_cons_of_mem _ hw)) h
    | true =>
      rw [hv, cond_t] at h
      injection h with h
      exact absurd h (hne w (List.mem_cons_self ..))

theorem word_pos {c : UInt8} {r x q : Str} {k m : Nat} (hb : blankN (c :: r) = 0) (h10 : c ≠ 10) (hs : sym (c :: r) = .ok []) (h : wd (k + 1) (c :: r) = .ok (x, q, m)) : 1 ≤ m := by
  rw [wd] at h
  cases ho : ord (c :: r) with
  | true =>
    rw [ho, cond_t] at h
    cases hw : wd k r with
    | error e => rw [hw] at h; cases h
    | ok y =>
      rcases y with ⟨x', q', m'⟩
      rw [hw] at h
      injection h with h
      injection h with h1 h2
      injection h2 with h2 h3
      omega
  | false =>
    rw [ho, cond_f] at h
    by_cases hc : c = 39
    · rw [if_pos hc] at h
      cases hqd : qd r with
      | none => rw [hqd] at h; cases h
      | some y =>
        rcases y with ⟨y, n⟩
        rw [hqd] at h
        dsimp only at h
        cases hw : wd k (r.drop n) with
        | error e => rw [hw] at h; cases h
        | ok z =>
          rcases z with ⟨x', q', m'⟩
          rw [hw] at h
          injection h with h
          injection h with h1 h2
          injection h2 with h2 h3
          omega
    · exfalso
      obtain ⟨h1, h2⟩ := symA_nil _ c r (by simp) hs
      have h3 := symB_nil _ _ (by simp) h2
      have hp : ([] : Str).isPrefixOf r = true := by cases r <;> rfl
      have p62 := h3 [62] (by simp)
      have p60 := h3 [60] (by simp)
      have p124 := h3 [124] (by simp)
      rw [pre_cons, hp, Bool.and_true] at p62 p60 p124
      have hbl : c ≠ 32 ∧ c ≠ 9 ∧ ([92, 10] : Str).isPrefixOf (c :: r) = false := by
        match r, hb with
        | [], hb =>
          unfold blankN at hb
          split at hb
          · cases hb
          · rename_i hn
            exact ⟨fun e => hn (.inl e), fun e => hn (.inr e), by rw [pre_cons, pre_nil, Bool.and_false]⟩
        | d :: r, hb =>
          unfold blankN at hb
          split at hb
          · omega
          · rename_i hn
            split at hb
            · omega
            · rename_i hn2
              refine ⟨fun e => hn (.inl e), fun e => hn (.inr e), ?_⟩
              have hp : ([] : Str).isPrefixOf r = true := by cases r <;> rfl
              rw [pre_cons, pre_cons, hp, Bool.and_true, Bool.eq_false_iff]
              intro e
              simp at e
              exact hn2 e
      have := starts c h1 (of_decide_eq_false p124) (of_decide_eq_false p62) (of_decide_eq_false p60) hbl.1 hbl.2.1 h10 hc
      have ho' : ord (c :: r) = (!SYMI.contains c && !([92, 10] : Str).isPrefixOf (c :: r)) := rfl
      rw [ho', this, hbl.2.2] at ho
      cases ho

theorem tok_ok {p : Nat} {c : UInt8} {r : Str} {l l' : List Token} {tc : Bool} {m : Nat} (hb : blankN (c :: r) = 0) (h10 : c ≠ 10) (h : tok p (c :: r) l tc = .ok (l', m)) : l'.length ≤ 1024 ∧ 1 ≤ m ∧ m ≤ (c :: r).length := by
  unfold tok at h
  cases hs : sym (c :: r) with
  | error e => rw [hs] at h; cases h
  | ok w =>
    rw [hs] at h
    match w, hs, h with
    | [], hs, h =>
      dsimp only at h
      cases hw : wd (c :: r).length (c :: r) with
      | error e => rw [hw] at h; cases h
      | ok y =>
        rcases y with ⟨x, q, n⟩
        rw [hw] at h
        dsimp only at h
        cases hh : hat l ⟨1, p, x, q⟩ tc with
        | error e => rw [hh] at h; cases h
        | ok l1 =>
          rw [hh] at h
          injection h with h
          injection h with h1 h2
          subst h1; subst h2
          exact ⟨hat_ok hh, word_pos hb h10 hs hw, (wd_len _ _ _ _ _ hw).1⟩
    | d :: w, hs, h =>
      dsimp only at h
      have hpl := (sym_pre hs).length_le
      cases hh : hat l ⟨2, p, d :: w, []⟩ tc with
      | error e => rw [hh] at h; cases h
      | ok l1 =>
        rw [hh] at h
        dsimp only at h
        cases hd : decide (d :: w = [36]) || decide (d :: w = [36, 35]) with
        | false =>
          rw [hd, cond_f] at h
          injection h with h
          injection h with h1 h2
          subst h1; subst h2
          exact ⟨hat_ok hh, by simp, hpl⟩
        | true =>
          rw [hd, cond_t] at h
          cases hn : name (p + (d :: w).length) ((c :: r).drop (d :: w).length) l1 with
          | error e => rw [hn] at h; cases h
          | ok l2 =>
            rw [hn] at h
            injection h with h
            injection h with h1 h2
            subst h1; subst h2
            have := nameN_le ((c :: r).drop (d :: w).length)
            rw [List.length_drop] at this
            exact ⟨name_ok hn, by simp; omega, by omega⟩

theorem tok_err {p : Nat} {t : Str} {l : List Token} {tc : Bool} {q c : Int} (h : tok p t l tc = .error (q, c)) : c ≠ 0 := by
  unfold tok at h
  cases hs : sym t with
  | error e =>
    rw [hs] at h
    injection h with h
    injection h with h1 h2
    rw [← h2]
    decide
  | ok w =>
    rw [hs] at h
    match w, hs, h with
    | [], hs, h =>
      dsimp only at h
      cases hw : wd t.length t with
      | error e =>
        rw [hw] at h
        injection h with h
        injection h with h1 h2
        rw [← h2]
        decide
      | ok y =>
        rcases y with ⟨x, q', n⟩
        rw [hw] at h
        dsimp only at h
        cases hh : hat l ⟨1, p, x, q'⟩ tc with
        | error e =>
          rcases e with ⟨q2, c2⟩
          rw [hh] at h
          injection h with h
          injection h with h1 h2
          rw [← h2, hat_err hh]
          decide
        | ok l1 => rw [hh] at h; cases h
    | d :: w, hs, h =>
      dsimp only at h
      cases hh : hat l ⟨2, p, d :: w, []⟩ tc with
      | error e =>
        rcases e with ⟨q2, c2⟩
        rw [hh] at h
        injection h with h
        injection h with h1 h2
        rw [← h2, hat_err hh]
        decide
      | ok l1 =>
        rw [hh] at h
        dsimp only at h
        cases hd : decide (d :: w = [36]) || decide (d :: w = [36, 35]) with
        | false => rw [hd, cond_f] at h; cases h
        | true =>
          rw [hd, cond_t] at h
          cases hn : name (p + (d :: w).length) (t.drop (d :: w).length) l1 with
          | error e =>
            rcases e with ⟨q2, c2⟩
            rw [hn] at h
            injection h with h
            injection h with h1 h2
            rw [← h2]
            exact name_err hn
          | ok l2 => rw [hn] at h; cases h

theorem blankN_drop : ∀ (k : Nat) (t : Str), t.length ≤ k → blankN (t.drop (blankN t)) = 0
  | _, [], _ => rfl
  | _, [c], _ => by
    by_cases h : c = 32 ∨ c = 9
    · have : blankN [c] = 1 := by unfold blankN; rw [if_pos h]
      rw [this]
      rfl
    · have : blankN [c] = 0 := by unfold blankN; rw [if_neg h]
      rw [this, List.drop_zero, this]
  | 0, c :: d :: r, h => by simp at h
  | k + 1, c :: d :: r, h => by
    simp only [List.length_cons] at h
    by_cases h1 : c = 32 ∨ c = 9
    · have : blankN (c :: d :: r) = blankN (d :: r) + 1 := by rw [blankN, if_pos h1, Nat.add_comm]
      rw [this, List.drop_succ_cons]
      exact blankN_drop k (d :: r) (by simp; omega)
    · by_cases h2 : c = 92 ∧ d = 10
      · have : blankN (c :: d :: r) = blankN r + 1 + 1 := by rw [blankN, if_neg h1, if_pos h2]; omega
        rw [this, List.drop_succ_cons, List.drop_succ_cons]
        exact blankN_drop k r (by omega)
      · have : blankN (c :: d :: r) = 0 := by rw [blankN, if_neg h1, if_neg h2]
        rw [this, List.drop_zero, this]

/-- How many bytes a comment takes. -/
def cmt (t : Str) : Nat := if 0 ≤ Lib.indexByte t 10 then (Lib.indexByte t 10).toNat else t.length

theorem cmt_free {t : Str} (h : (10 : UInt8) ∉ t) : cmt t = t.length := by
  unfold cmt
  rw [indexByte_free 10 t h, if_neg (by omega)]

theorem cmt_at {a : Str} (b : Str) (h : (10 : UInt8) ∉ a) : cmt (a ++ 10 :: b) = a.length := by
  unfold cmt
  rw [indexByte_at 10 b a h, if_pos (by omega), Int.toNat_natCast]

/-- WHAT THE SCANNER COMPUTES, from the place p on, where t stands; k: more than the bytes of t. -/
def lex : Nat → Nat → Str → List Token → List Str → Except (Int × Int) (List Token)
  | 0, _, _, _, _ => .error (0, 1)
  | k + 1, p, t, l, ns =>
    match t.drop (blankN t) with
    | [] => bif decide (0 < ns.length) then .error (((p + blankN t : Nat) : Int), 3) else .ok l
    | c :: r =>
      bif decide (c = 35) then lex k (p + blankN t + cmt (c :: r)) ((c :: r).drop (cmt (c :: r))) l ns
      else bif decide (c = 10) then (match nls (p + blankN t) (c :: r) l ns with
        | .error e => .error e
        | .ok (l1, m) => lex k (p + blankN t + m) ((c :: r).drop m) l1 [])
      else bif ([60, 60] : Str).isPrefixOf (c :: r) then (match here (p + blankN t) (c :: r) l ns with
        | .error e => .error e
        | .ok (l1, ns1, m) => lex k (p + blankN t + m) ((c :: r).drop m) l1 ns1)
      else (match tok (p + blankN t) (c :: r) l (lastWord l && decide (blankN t = 0)) with
        | .error e => .error e
        | .ok (l1, m) => lex k (p + blankN t + m) ((c :: r).drop m) l1 ns)

def ans10 (w : Except (Int × Int) (List Token)) (r : Option (List Token × Int × Int)) : Prop :=
  match w with
  | .ok l => r = some (l, 0, 0)
  | .error (q, c) => r = some ([], q, c) ∧ c ≠ 0

theorem halt10 (s : Str) (n : Nat) (x6 x7 q c : Int) (l : List Token) (ns : List Str) (hn : 0 < n) (hc : c ≠ 0) : iter (F5_b1 s) n (x6, x7, q, c, l, ns) = some ([], q, c) := by
  match n, hn with
  | n + 1, _ =>
    show F5_b1 s _ _ = _
    rw [F5_b1, decide_eq_false hc, cond_f]

theorem loop10 {s : Str} (hl : s.length ≤ 100000) : ∀ (k : Nat) (t pre : Str) (n : Nat) (x7 x8 : Int) (l : List Token) (ns : List Str), t.length < k → s = pre ++ t → t.length + 1 < n → l.length ≤ 1024 → ns.length + t.length ≤ 1000000 →
    ans10 (lex k pre.length t l ns) (iter (F5_b1 s) n ((pre.length : Int), x7, x8, 0, l, ns)) := by
  intro k
  induction k with
  | zero => intro t pre n x7 x8 l ns hk; omega
  | succ k ih =>
    intro t pre n x7 x8 l ns hk hs hn hll hns
    match n, hn with
    | n + 1, hn =>
      have hlen : s.length = pre.length + t.length := by rw [hs]; simp
      have hb := blankN_le t.length t (Nat.le_refl _)
      have hz := blankN_drop t.length t (Nat.le_refl _)
      have h19 := F11_eq hs (by omega) (pre.length : Int) x8 0 l ns
      have s2 : s = (pre ++ t.take (blankN t)) ++ t.drop (blankN t) := by rw [hs, List.append_assoc, List.take_append_drop]
      have n2 : (pre ++ t.take (blankN t)).length = pre.length + blankN t := by simp; omega
      have hdl : (t.drop (blankN t)).length = t.length - blankN t := by simp
      have h20 := F12_eq s2 (pre.length : Int) x8 0 l ns
      rw [n2] at h20
      rw [lex]
      show ans10 _ (F5_b1 s _ _)
      rw [F5_b1, decide_eq_true (p := (0 : Int) = 0) rfl, cond_t, h19, Option.bind_some, h20, Option.bind_some]
      generalize blankN t = b at *
      generalize t.drop b = t' at *
      match t', s2, hz, hdl with
      | [], s2, hz, hdl =>
        rw [decide_eq_true (p := ([] : Str) = []) rfl, cond_t]
        dsimp only
        by_cases h0 : 0 < ns.length
        · rw [decide_eq_true h0, cond_t, decide_eq_true (by omega), cond_t]
          have : (s.length : Int) = ((pre.length + b : Nat) : Int) := by simp at hdl; omega
          rw [this]
          exact ⟨rfl, by decide⟩
        · rw [decide_eq_false h0, cond_f, decide_eq_false (by omega), cond_f]
          exact rfl
      | c :: r, s2, hz, hdl =>
        have h0 : sidx (c :: r) 0 = some (B c) := sidx_mid [] c r
        have cut : ∀ m, m ≤ (c :: r).length → s = (pre ++ t.take b ++ (c :: r).take m) ++ (c :: r).drop m ∧ (pre ++ t.take b ++ (c :: r).take m).length = pre.length + b + m := by
          intro m hm
          refine ⟨by rw [List.append_assoc (pre ++ t.take b), List.take_append_drop]; exact s2, ?_⟩
          rw [List.length_append, n2, List.length_take]
          omega
        rw [decide_eq_false (p := c :: r = []) (by simp), cond_f, h0, Option.bind_some, B35, B10]
        dsimp only
        by_cases h35 : c = 35
        · rw [decide_eq_true h35, cond_t, cond_t, L_IndexByte, Option.bind_some, show (10 : Int).toNat.toUInt8 = 10 by decide]
          rcases firstOf 10 (c :: r) with hf | ⟨a, w, hf, ha⟩
          · obtain ⟨c1, c2⟩ := cut (c :: r).length (Nat.le_refl _)
            rw [indexByte_free 10 _ hf, decide_eq_false (by omega), cond_f, cmt_free hf, wrap64 (by omega) (by omega)]
            have h := ih ((c :: r).drop (c :: r).length) _ n (pre.length : Int) x8 l ns (by simp at hdl ⊢; omega) c1 (by simp at hdl ⊢; omega) hll (by simp; omega)
            rw [c2] at h
            exact h
          · have hcl : (c :: r).length = a.length + (w.length + 1) := by rw [ha]; simp
            have hapos : 0 < a.length := by
              match a, ha with
              | [], ha =>
                have : c = 10 := (List.cons.inj ha).1
                rw [h35] at this
                exact absurd this (by decide)
              | d :: a, _ => simp
            obtain ⟨c1, c2⟩ := cut a.length (by omega)
            have hi : Lib.indexByte (c :: r) 10 = (a.length : Int) := by rw [ha]; exact indexByte_at 10 w a hf
            have hc : cmt (c :: r) = a.length := by rw [ha]; exact cmt_at w hf
            rw [hi, decide_eq_true (by omega), cond_t, hc, wrap64 (n := (((pre.length + b : Nat) : Int) + ((c :: r).length : Int))) (by omega) (by omega), wrap64 (n := (a.length : Int) - ((c :: r).length : Int)) (by omega) (by omega), wrap64 (by omega) (by omega)]
            have e1 : ((pre.length + b : Nat) : Int) + ((c :: r).length : Int) + ((a.length : Int) - ((c :: r).length : Int)) = ((pre.length + b + a.length : Nat) : Int) := by omega
            rw [e1]
            have h := ih ((c :: r).drop a.length) _ n (pre.length : Int) x8 l ns (by rw [List.length_drop]; omega) c1 (by rw [List.length_drop]; omega) hll (by rw [List.length_drop]; omega)
            rw [c2] at h
            exact h
        · rw [decide_eq_false h35, cond_f, cond_f]
          by_cases h10 : c = 10
          · rw [decide_eq_true h10, cond_t, cond_t]
            have h22 := F14_eq s2 (by simp) (by omega) (pre.length : Int) x8 0 l ns (by omega)
            rw [n2] at h22
            cases hq : nls (pre.length + b) (c :: r) l ns with
            | error e =>
              rcases e with ⟨q, cc⟩
              rw [hq] at h22
              obtain ⟨bb, j, l', hl'⟩ := h22
              rw [hl', Option.bind_some]
              dsimp only
              rw [cond_f]
              exact ⟨halt10 s n _ _ _ _ _ _ (by omega) (nls_err hq), nls_err hq⟩
            | ok y =>
              rcases y with ⟨l1, m⟩
              rw [hq] at h22
              obtain ⟨g1, g2, g3⟩ := nls_ok (by simp) hq
              have h22' : F14x1 s ((pre.length + b : Nat) : Int) (pre.length : Int) x8 0 l ns = some (true, true, ((pre.length + b + m : Nat) : Int), x8, 0, l1) := h22
              rw [h22', Option.bind_some]
              dsimp only
              rw [cond_t]
              obtain ⟨c1, c2⟩ := cut m g3
              have h := ih ((c :: r).drop m) _ n (pre.length : Int) x8 l1 [] (by rw [List.length_drop]; omega) c1 (by rw [List.length_drop]; omega) g1 (by rw [List.length_drop]; simp only [List.length_nil]; omega)
              rw [c2] at h
              exact h
          · rw [decide_eq_false h10, cond_f, cond_f, F15_eq _ _ (by omega), Option.bind_some]
            cases h60 : ([60, 60] : Str).isPrefixOf (c :: r) with
            | true =>
              rw [cond_t, cond_t]
              have h2l := (List.isPrefixOf_iff_prefix.1 h60).length_le
              have h24 := F16_eq s2 h2l (by omega) (pre.length : Int) x8 0 l ns (by omega)
              rw [n2] at h24
              cases hq : here (pre.length + b) (c :: r) l ns with
              | error e =>
                rcases e with ⟨q, cc⟩
                rw [hq] at h24
                obtain ⟨bb, j, l', ns', hl'⟩ := h24
                rw [hl', Option.bind_some]
                dsimp only
                exact ⟨halt10 s n _ _ _ _ _ _ (by omega) (here_err hq), here_err hq⟩
              | ok y =>
                rcases y with ⟨l1, ns1, m⟩
                rw [hq] at h24
                obtain ⟨g1, _, g2, g3, g4⟩ := here_ok h2l hq
                have h24' : F16 s ((pre.length + b : Nat) : Int) (pre.length : Int) x8 0 l ns = some (true, ((pre.length + b + m : Nat) : Int), x8, 0, l1, ns1) := h24
                rw [h24', Option.bind_some]
                dsimp only
                obtain ⟨c1, c2⟩ := cut m g3
                have h := ih ((c :: r).drop m) _ n (pre.length : Int) x8 l1 ns1 (by rw [List.length_drop]; omega) c1 (by rw [List.length_drop]; omega) g1 (by rw [List.length_drop]; omega)
                rw [c2] at h
                exact h
            | false =>
              rw [cond_f, cond_f]
              have h25 := F17_eq s2 (by omega) (pre.length : Int) x8 0 l ns (by omega)
              rw [n2] at h25
              have hd : decide ((pre.length : Int) = ((pre.length + b : Nat) : Int)) = decide (b = 0) := decide_eq_decide.2 ⟨fun e => by omega, fun e => by omega⟩
              rw [hd] at h25
              cases hq : tok (pre.length + b) (c :: r) l (lastWord l && decide (b = 0)) with
              | error e =>
                rcases e with ⟨q, cc⟩
                rw [hq] at h25
                obtain ⟨j, l', hl'⟩ := h25
                rw [hl', Option.bind_some]
                dsimp only
                exact ⟨halt10 s n _ _ _ _ _ _ (by omega) (tok_err hq), tok_err hq⟩
              | ok y =>
                rcases y with ⟨l1, m⟩
                rw [hq] at h25
                obtain ⟨g1, g2, g3⟩ := tok_ok hz h10 hq
                have h25' : F17 s ((pre.length + b : Nat) : Int) (pre.length : Int) x8 0 l ns = some (true, ((pre.length + b + m : Nat) : Int), x8, 0, l1) := h25
                rw [h25', Option.bind_some]
                dsimp only
                obtain ⟨c1, c2⟩ := cut m g3
                have h := ih ((c :: r).drop m) _ n (pre.length : Int) x8 l1 ns (by rw [List.length_drop]; omega) c1 (by rw [List.length_drop]; omega) g1 (by rw [List.length_drop]; omega)
                rw [c2] at h
                exact h

theorem F5_eq (s : Str) (hl : s.length ≤ 65536) : ans10 (lex (s.length + 1) 0 s [] []) (F5 s) := by
  unfold F5
  rw [decide_eq_false (by omega), cond_f]
  exact loop10 (s := s) (by omega) (s.length + 1) s [] BIG 0 0 [] [] (by omega) rfl (by unfold BIG; omega) (by simp) (by simp; omega)

theorem lex_len : ∀ (k p : Nat) (t : Str) (l l' : List Token) (ns : List Str), l.length ≤ 1024 → lex k p t l ns = .ok l' → l'.length ≤ 1024
  | 0, p, t, l, l', ns, hl, h => by rw [lex] at h; cases h
  | k + 1, p, t, l, l', ns, hl, ho => by
    rw [lex] at ho
    have hz := blankN_drop t.length t (Nat.le_refl _)
    generalize blankN t = b at *
    generalize t.drop b = t' at *
    match t', hz, ho with
    | [], hz, ho =>
      dsimp only at ho
      cases hd : decide (0 < ns.length) with
      | true => rw [hd, cond_t] at ho; cases ho
      | false => rw [hd, cond_f] at ho; injection ho with ho; subst ho; exact hl
    | c' :: r, hz, ho =>
      dsimp only at ho
      by_cases h35 : c' = 35
      · rw [decide_eq_true h35, cond_t] at ho
        exact lex_len _ _ _ _ _ _ hl ho
      · rw [decide_eq_false h35, cond_f] at ho
        by_cases h10 : c' = 10
        · rw [decide_eq_true h10, cond_t] at ho
          cases hq : nls (p + b) (c' :: r) l ns with
          | error e => rw [hq] at ho; cases ho
          | ok y =>
            rcases y with ⟨l1, m⟩
            rw [hq] at ho
            exact lex_len _ _ _ _ _ _ (nls_ok (by simp) hq).1 ho
        · rw [decide_eq_false h10, cond_f] at ho
          cases h60 : ([60, 60] : Str).isPrefixOf (c' :: r) with
          | true =>
            rw [h60, cond_t] at ho
            cases hq : here (p + b) (c' :: r) l ns with
            | error e => rw [hq] at ho; cases ho
            | ok y =>
              rcases y with ⟨l1, ns1, m⟩
              rw [hq] at ho
              exact lex_len _ _ _ _ _ _ (here_ok (List.isPrefixOf_iff_prefix.1 h60).length_le hq).1 ho
          | false =>
            rw [h60, cond_f] at ho
            cases hq : tok (p + b) (c' :: r) l (lastWord l && decide (b = 0)) with
            | error e => rw [hq] at ho; cases ho
            | ok y =>
              rcases y with ⟨l1, m⟩
              rw [hq] at ho
              exact lex_len _ _ _ _ _ _ (tok_ok hz h10 hq).1 ho

theorem F7_eq (l : List Token) (hl : l.length ≤ 1000000) : F7 l l = some true := by
  unfold F7
  rw [decide_eq_true rfl, Bool.not_true, cond_f]
  refine iter_big (α := Int) (fun i => ∃ j : Nat, i = j ∧ j ≤ l.length) (fun i => l.length - i.toNat) (fun _ => some true) ?_ 0 ⟨0, rfl, Nat.zero_le _⟩ (by simp; omega)
  rintro again i ⟨j, rfl, hj⟩ hag
  rw [F7_b1]
  by_cases h : j < l.length
  · rw [decide_eq_true (by omega), cond_t, lidx_at h, Option.bind_some, Option.bind_some, wrap64 (by omega) (by omega)]
    simp only [decide_true, Bool.and_true, Bool.not_true, cond_f]
    exact hag _ ⟨j + 1, by simp, h⟩ (by simp; omega)
  · rw [decide_eq_false (by omega), cond_f]

theorem F34_end {s pre : Str} (hs : s = pre) (hl : s.length ≤ 1000000) : F34 s (pre.length : Int) = some 0 := by
  subst hs
  unfold F34
  rw [wrap64 (by omega) (by omega), decide_eq_false (by omega), decide_eq_false (by omega)]
  rfl

theorem gap_one {c : UInt8} {r : Str} (h : c = 32 ∨ c = 9) : gap c r = 1 ∧ blankN (c :: r) = 1 + blankN r := by
  refine ⟨?_, ?_⟩
  · unfold gap
    rw [show (decide (c = 32) || decide (c = 9)) = true by simpa using h]
    rfl
  · match r with
    | [] => simp [blankN, h]
    | d :: r => rw [blankN, if_pos h]

theorem gap_two {r : Str} : gap 92 (10 :: r) = 2 ∧ blankN (92 :: 10 :: r) = 2 + blankN r := ⟨rfl, rfl⟩

theorem gap_none {c : UInt8} {r : Str} (h : ¬ (c = 32 ∨ c = 9)) (h2 : ¬ (c = 92 ∧ nl r = true)) : gap c r = 0 ∧ blankN (c :: r) = 0 := by
  refine ⟨?_, ?_⟩
  · unfold gap
    rw [show (decide (c = 32) || decide (c = 9)) = false by simpa using h, show (decide (c = 92) && nl r) = false by simpa using h2]
    rfl
  · match r, h2 with
    | [], _ => simp [blankN, h]
    | d :: r, h2 =>
      rw [blankN, if_neg h, if_neg (fun e => h2 ⟨e.1, by simp [nl, e.2]⟩)]

theorem gap_cases (c : UInt8) (r : Str) : (gap c r = 1 ∧ blankN (c :: r) = 1 + blankN r) ∨ (∃ r', r = 10 :: r' ∧ gap c r = 2 ∧ blankN (c :: r) = 2 + blankN r') ∨ (gap c r = 0 ∧ blankN (c :: r) = 0) := by
  by_cases h : c = 32 ∨ c = 9
  · exact .inl (gap_one h)
  · by_cases h2 : c = 92 ∧ nl r = true
    · obtain ⟨rfl, h2⟩ := h2
      match r, h2 with
      | d :: r, h2 =>
        have : d = 10 := by simpa [nl] using h2
        subst this
        exact .inr (.inl ⟨r, rfl, gap_two⟩)
    · exact .inr (.inr (gap_none h h2))

/-- An ordinary byte, the two ways. -/
theorem ordR (c : UInt8) (r : Str) : (decide (gap c r = 0) && !SYM.contains c) = ord (c :: r) := by
  have hS : ∀ c : UInt8, SYMI.contains c = (decide (c = 32 ∨ c = 9) || SYM.contains c) := by
    intro c
    simp [SYMI, SYM, Bool.decide_or, Bool.or_assoc]
  show _ = (!SYMI.contains c && !([92, 10] : Str).isPrefixOf (c :: r))
  rw [hS, pre_cons]
  by_cases h : c = 32 ∨ c = 9
  · rw [(gap_one h).1, decide_eq_true h]
    rfl
  · rw [decide_eq_false h, Bool.false_or]
    have hn : ([10] : Str).isPrefixOf r = nl r := by
      match r with
      | [] => rfl
      | d :: r => rw [pre_cons, nl]; cases r <;> simp
    rw [hn]
    by_cases h2 : c = 92 ∧ nl r = true
    · have : gap c r = 2 := by
        obtain ⟨rfl, h2⟩ := h2
        unfold gap
        rw [h2]
        rfl
      rw [this, h2.2, decide_eq_true h2.1]
      simp
    · rw [(gap_none h h2).1]
      have : (decide (c = 92) && nl r) = false := by simpa using h2
      rw [this]
      simp

def ansQ (at_ p : Nat) (b : Str) (v : Str) : Part :=
  match qd v with
  | some (x, m) => ⟨b ++ x, List.replicate (b ++ x).length 49, ((p + m : Nat) : Int), true⟩
  | none => ⟨[], [], (at_ : Int), false⟩

theorem catO_ok {a b : Str} (h : a.length + b.length ≤ 100000000) : catO a b = some (a ++ b) := catO_eq (by omega)

theorem rep_snoc (n : Nat) (c : UInt8) : List.replicate n c ++ [c] = List.replicate (n + 1) c := by
  rw [List.replicate_succ']

theorem loop58 {s : Str} (hl : s.length ≤ 1000000) (at_ : Nat) : ∀ (k : Nat) (v pre b : Str) (n : Nat), v.length ≤ k → s = pre ++ v → v.length < n → b.length + v.length ≤ 10000000 →
    iter (F58_b2 s (at_ : Int)) n ((pre.length : Int), b, List.replicate b.length 49) = some (ansQ at_ pre.length b v) := by
  intro k
  induction k with
  | zero =>
    intro v pre b n hv hs hn hb
    have : v = [] := List.length_eq_zero_iff.1 (by omega)
    subst this
    match n, hn with
    | n + 1, hn =>
      show F58_b2 s _ _ _ = _
      have hlen : s.length = pre.length := by rw [hs]; simp
      rw [F58_b2, decide_eq_false (by omega), cond_f]
      rfl
  | succ k ih =>
    intro v pre b n hv hs hn hb
    match v, hv, hs, hn, hb with
    | [], hv, hs, hn, hb => exact ih [] pre b n (by simp) hs hn hb
    | c :: r, hv, hs, hn, hb =>
      match n, hn with
      | n + 1, hn =>
        have hlen : s.length = pre.length + (r.length + 1) := by rw [hs]; simp
        have h1 : sidx s (pre.length : Int) = some (B c) := by rw [hs]; exact sidx_mid pre c r
        simp only [List.length_cons] at hv hn hb
        have e1 : ((pre ++ [c]).length : Int) = (pre.length : Int) + 1 := by simp
        have stepJ : ∀ (i : Nat) (d : UInt8) (w p2 : Str), s = p2 ++ d :: w → i = p2.length → w.length ≤ k → w.length < n → b.length + 1 + w.length ≤ 10000000 →
            F58_j3 s b (List.replicate b.length 49) (iter (F58_b2 s (at_ : Int)) n) (i : Int) = some (ansQ at_ (p2.length + 1) (b ++ [d]) w) := by
          intro i d w p2 hs2 hi hw1 hw2 hw3
          subst hi
          have hlen2 : s.length = p2.length + (w.length + 1) := by rw [hs2]; simp
          have hsl : sslice s (p2.length : Int) ((p2.length : Int) + 1) = some [d] := by rw [hs2]; exact sslice_mid p2 d w
          rw [F58_j3, wrap64 (by omega) (by omega), hsl, Option.bind_some, catO_ok (by simp; omega), Option.bind_some, catO_ok (by simp; omega), Option.bind_some, rep_snoc]
          have h := ih w (p2 ++ [d]) (b ++ [d]) n hw1 (by rw [hs2]; simp) hw2 (by simp; omega)
          have e2 : ((p2 ++ [d]).length : Int) = (p2.length : Int) + 1 := by simp
          have e3 : (b ++ [d]).length = b.length + 1 := by simp
          have e4 : (p2 ++ [d]).length = p2.length + 1 := by simp
          rw [e2, e3, e4] at h
          exact h
        show F58_b2 s _ _ _ = _
        rw [F58_b2, decide_eq_true (by omega), cond_t, h1, Option.bind_some, B39]
        by_cases hc : c = 39
        · subst hc
          rw [decide_eq_true rfl, cond_t, wrap64 (by omega) (by omega)]
          match r, hs, hlen, hv, hn, hb with
          | [], hs, hlen, hv, hn, hb =>
            rw [decide_eq_true (p := (pre.length : Int) + 1 = (s.length : Int)) (by simp at hlen; omega)]
            simp only [Bool.not_true, guardO, cond_f, Option.bind_some, Bool.true_or, cond_t]
            simp [ansQ, qd]
          | d :: w, hs, hlen, hv, hn, hb =>
            have h2 : sidx s ((pre.length : Int) + 1) = some (B d) := by
              have : s = (pre ++ [39]) ++ d :: w := by rw [hs]; simp
              have h := sidx_mid (pre ++ [39]) d w
              rw [← this] at h
              simpa using h
            rw [decide_eq_false (p := (pre.length : Int) + 1 = (s.length : Int)) (by simp at hlen; omega), h2]
            simp only [Bool.not_false, guardO, cond_t, Option.bind_some, Bool.false_or, B39]
            by_cases hd : d = 39
            · subst hd
              simp only [decide_true, Bool.not_true, cond_f]
              have e0 : (39 :: w : Str).length = w.length + 1 := rfl
              have h := stepJ (pre.length + 1) 39 w (pre ++ [39]) (by rw [hs]; simp) (by simp) (by omega) (by omega) (by omega)
              have e5 : ((pre.length + 1 : Nat) : Int) = (pre.length : Int) + 1 := by omega
              rw [e5] at h
              rw [h]
              unfold ansQ
              rw [qd_two]
              cases hq : qd w with
              | none => rfl
              | some p =>
                rcases p with ⟨x, m⟩
                simp
                omega
            · rw [decide_eq_false hd]
              simp only [Bool.not_false, cond_t]
              simp [ansQ, qd, hd]
        · rw [decide_eq_false hc, cond_f]
          have h := stepJ pre.length c r pre hs rfl (by omega) (by omega) (by omega)
          rw [h]
          unfold ansQ
          match r with
          | [] => simp [qd, hc]
          | d :: w =>
            have hq : qd (c :: d :: w) = (qd (d :: w)).map fun (x, n) => (c :: x, n + 1) := by rw [qd, if_neg hc]
            rw [hq]
            cases qd (d :: w) with
            | none => rfl
            | some p =>
              rcases p with ⟨x, m⟩
              simp
              omega

theorem F58_eq {s pre v : Str} {c : UInt8} (hs : s = pre ++ c :: v) (hl : s.length ≤ 1000000) : F58 s (pre.length : Int) = some (ansQ pre.length (pre.length + 1) [] v) := by
  have hlen : s.length = pre.length + (v.length + 1) := by rw [hs]; simp
  unfold F58
  rw [wrap64 (by omega) (by omega)]
  have h := loop58 hl pre.length v.length v (pre ++ [c]) [] BIG (Nat.le_refl _) (by rw [hs]; simp) (by unfold BIG; omega) (by simp; omega)
  have e1 : ((pre ++ [c]).length : Int) = (pre.length : Int) + 1 := by simp
  rw [e1] at h
  simpa using h

def ansP (p : Nat) (b q : Str) (w : Except Nat (Str × Str × Nat)) : Part :=
  match w with
  | .ok (x, y, m) => ⟨b ++ x, q ++ y, ((p + m : Nat) : Int), true⟩
  | .error e => ⟨[], [], ((p + e : Nat) : Int), false⟩

theorem loop40r {s : Str} (hl : s.length ≤ 1000000) : ∀ (k : Nat) (t pre b q : Str) (n : Nat), t.length ≤ k → s = pre ++ t → t.length < n → b.length + t.length ≤ 10000000 → q.length + t.length ≤ 10000000 →
    iter (F40_b1 s) n (b, q, (pre.length : Int), true) = some (ansP pre.length b q (wd k t)) := by
  intro k
  induction k with
  | zero =>
    intro t pre b q n ht hs hn hb hq
    have : t = [] := List.length_eq_zero_iff.1 (by omega)
    subst this
    match n, hn with
    | n + 1, hn =>
      have hlen : s.length = pre.length := by rw [hs]; simp
      show F40_b1 s _ _ = _
      rw [F40_b1]
      unfold F57
      rw [decide_eq_false (by omega)]
      simp [guardO, wd, ansP]
  | succ k ih =>
    intro t pre b q n ht hs hn hb hq
    match t, ht, hs, hn, hb, hq with
    | [], ht, hs, hn, hb, hq =>
      match n, hn with
      | n + 1, hn =>
        have hlen : s.length = pre.length := by rw [hs]; simp
        show F40_b1 s _ _ = _
        rw [F40_b1]
        unfold F57
        rw [decide_eq_false (by omega)]
        simp [guardO, wd, ansP]
    | c :: r, ht, hs, hn, hb, hq =>
      match n, hn with
      | n + 1, hn =>
        have hlen : s.length = pre.length + (r.length + 1) := by rw [hs]; simp
        have h1 : sidx s (pre.length : Int) = some (B c) := by rw [hs]; exact sidx_mid pre c r
        simp only [List.length_cons] at ht hn hb hq
        have e1 : ((pre ++ [c]).length : Int) = (pre.length : Int) + 1 := by simp
        have e2 : (pre ++ [c]).length = pre.length + 1 := by simp
        show F40_b1 s _ _ = _
        rw [F40_b1, F57_eq hs hl, Option.bind_some, ordR, decide_eq_true (by omega), h1, wd]
        cases ho : ord (c :: r) with
        | true =>
          simp only [Bool.not_true, Bool.false_and, guardO, cond_f, Option.bind_some, Bool.true_or, cond_t, B39]
          have hc : c ≠ 39 := by
            rintro rfl
            simp [ord, SYMI] at ho
          have hsl : sslice s (pre.length : Int) ((pre.length : Int) + 1) = some [c] := by rw [hs]; exact sslice_mid pre c r
          rw [decide_eq_false hc, cond_f, wrap64 (by omega) (by omega), hsl, Option.bind_some, catO_ok (by simp; omega), Option.bind_some, catO_ok (by simp; omega), Option.bind_some]
          have h := ih r (pre ++ [c]) (b ++ [c]) (q ++ [48]) n (by omega) (by rw [hs]; simp) (by omega) (by simp; omega) (by simp; omega)
          rw [e1, e2] at h
          rw [h]
          cases hw : wd k r with
          | error e => simp [ansP]; omega
          | ok y =>
            rcases y with ⟨x, y, m⟩
            simp [ansP]
            omega
        | false =>
          simp only [Bool.not_false, Bool.true_and, guardO, cond_t, Option.bind_some, Bool.false_or, B39, cond_f]
          by_cases hc : c = 39
          · subst hc
            rw [if_pos rfl]
            simp only [decide_true, cond_t]
            rw [F58_eq hs hl, Option.bind_some]
            unfold ansQ
            cases hqd : qd r with
            | none =>
              simp [ansP]
            | some p =>
              rcases p with ⟨x, m⟩
              obtain ⟨q1, q2, q3⟩ := qd_len r.length r x m (Nat.le_refl _) hqd
              simp only [List.nil_append, Bool.not_true, cond_f]
              rw [catO_ok (by omega), Option.bind_some, catO_ok (by simp; omega), Option.bind_some]
              have hs2 : s = (pre ++ 39 :: r.take m) ++ r.drop m := by rw [hs]; simp
              have hn2 : (pre ++ 39 :: r.take m).length = pre.length + 1 + m := by simp; omega
              have h := ih (r.drop m) (pre ++ 39 :: r.take m) (b ++ x) (q ++ List.replicate x.length 49) n (by rw [List.length_drop]; omega) hs2 (by rw [List.length_drop]; omega) (by rw [List.length_drop, List.length_append]; omega) (by rw [List.length_drop, List.length_append, List.length_replicate]; omega)
              rw [hn2] at h
              rw [h]
              cases hw : wd k (r.drop m) with
              | error e => simp [ansP]; omega
              | ok y =>
                rcases y with ⟨x', y', m'⟩
                simp [ansP]
                omega
          · rw [if_neg hc, decide_eq_false hc]
            simp [ansP]

theorem F40_eq {s pre t : Str} (hs : s = pre ++ t) (hl : s.length ≤ 1000000) : F40 s (pre.length : Int) = some (ansP pre.length [] [] (wd t.length t)) := by
  have hlen : s.length = pre.length + t.length := by rw [hs]; simp
  exact loop40r hl t.length t pre [] [] BIG (Nat.le_refl _) hs (by unfold BIG; omega) (by simp; omega) (by simp; omega)

theorem F19_0 (a e : Int) (nm : Bool) (off c q : Int) (l : List Token) (ns : List Str) : F19 a e nm 0 off c q l ns = some (a, e, nm, c, q) := rfl

theorem F19_1 (a e : Int) (nm : Bool) {x : Int} (hx : x ≠ 0) (off c q : Int) (l : List Token) (ns : List Str) : F19 a e nm x off c q l ns = some (a, e, nm, x, off) := by
  unfold F19
  rw [decide_eq_false hx]
  rfl

/-- A token put. -/
theorem F35_eq (a e : Int) (nm : Bool) (off : Int) (u : Token) (l : List Token) (ns : List Str) : F35 a e nm 0 off u l ns = (match push l u with
    | .ok l' => some (a, e, nm, 0, off, l')
    | .error (q, c) => some (a, e, nm, c, q, l)) := by
  unfold F35 push
  by_cases h : 1024 ≤ l.length
  · rw [decide_eq_true (by omega), cond_t, F19_0, if_pos h]
    rfl
  · rw [decide_eq_false (by omega), cond_f, if_neg h, appO_eq (by simp; omega)]
    rfl

/-- The same after an error. -/
theorem F35_err (a e : Int) (nm : Bool) {x : Int} (hx : x ≠ 0) (off : Int) (u : Token) (l : List Token) (ns : List Str) : ∃ l', F35 a e nm x off u l ns = some (a, e, nm, x, off, l') := by
  unfold F35
  by_cases h : 1024 ≤ l.length
  · rw [decide_eq_true (by omega), cond_t, F19_1 _ _ _ hx]
    exact ⟨_, rfl⟩
  · rw [decide_eq_false (by omega), cond_f, appO_eq (by simp; omega)]
    exact ⟨_, rfl⟩

theorem push_c {l : List Token} {u : Token} {q c : Int} (h : push l u = .error (q, c)) : c ≠ 0 := by
  rw [push_err h]
  decide

theorem F53_eq (c : UInt8) : F53 (B c) = some (nameB c) := rfl

theorem loop33 {s p0 t0 : Str} (hs0 : s = p0 ++ t0) (hl : s.length ≤ 1000000) (e : Int) (nm : Bool) (off : Int) (l : List Token) (ns : List Str) : ∀ (t d : Str) (n : Nat), t0 = d ++ t → nameN t0 = d.length + nameN t → t.length < n →
    iter (F33_b1 s (p0.length : Int) e nm 0 off l ns) n (((p0.length + d.length : Nat) : Int), List.replicate d.length 48) = (match name p0.length t0 l with
      | .ok l' => some (((p0.length + nameN t0 : Nat) : Int), ((p0.length + nameN t0 : Nat) : Int), false, 0, off, l')
      | .error (q, c) => if nameN t0 = 0 then some ((p0.length : Int), e, nm, c, q, l) else some (((p0.length + nameN t0 : Nat) : Int), ((p0.length + nameN t0 : Nat) : Int), false, c, q, l)) := by
  have fin : ∀ (t d : Str), t0 = d ++ t → nameN t0 = d.length →
      (bif decide (((p0.length + d.length : Nat) : Int) = (p0.length : Int)) then
        (F19 (p0.length : Int) e nm 0 off 47 (p0.length : Int) l ns).bind fun (at31, end32, name33, e34, off35) => some (at31, end32, name33, e34, off35, l)
      else
        (sslice s (p0.length : Int) ((p0.length + d.length : Nat) : Int)).bind fun t39 =>
        (F35 (p0.length : Int) e nm 0 off (Token.mk 1 (p0.length : Int) t39 (List.replicate d.length 48)) l ns).bind fun (at42, end43, name44, e45, off46, o47) =>
        some (((p0.length + d.length : Nat) : Int), ((p0.length + d.length : Nat) : Int), false, e45, off46, o47)) = (match name p0.length t0 l with
      | .ok l' => some (((p0.length + nameN t0 : Nat) : Int), ((p0.length + nameN t0 : Nat) : Int), false, 0, off, l')
      | .error (q, c) => if nameN t0 = 0 then some ((p0.length : Int), e, nm, c, q, l) else some (((p0.length + nameN t0 : Nat) : Int), ((p0.length + nameN t0 : Nat) : Int), false, c, q, l)) := by
    intro t d ht hd
    unfold name
    by_cases h0 : d.length = 0
    · rw [decide_eq_true (by omega), cond_t, if_pos (by omega), F19_0]
      dsimp only
      rw [if_pos (by omega)]
      rfl
    · have hlen : s.length = p0.length + (d.length + t.length) := by rw [hs0, ht]; simp
      have hsl : sslice s (p0.length : Int) ((p0.length + d.length : Nat) : Int) = some d := by
        have h := sslice_part p0 d t
        rw [List.append_assoc, ← ht, ← hs0, List.length_append] at h
        exact h
      have htk : t0.take (nameN t0) = d := by rw [hd, ht]; simp
      rw [decide_eq_false (by omega), cond_f, if_neg (by omega), hsl, Option.bind_some, F35_eq, htk, hd]
      cases push l ⟨1, (p0.length : Int), d, List.replicate d.length 48⟩ with
      | error y =>
        rcases y with ⟨q, c⟩
        dsimp only
        rw [if_neg h0]
        rfl
      | ok l1 => rfl
  intro t
  induction t with
  | nil =>
    intro d n ht hd hn
    match n, hn with
    | n + 1, hn =>
      have hlen : s.length = p0.length + d.length := by rw [hs0, ht]; simp
      show F33_b1 s _ _ _ _ _ _ _ _ _ = _
      rw [F33_b1, decide_eq_false (by omega)]
      exact fin [] d ht hd
  | cons c r ih =>
    intro d n ht hd hn
    match n, hn with
    | n + 1, hn =>
      have hlen : s.length = p0.length + (d.length + (r.length + 1)) := by rw [hs0, ht]; simp
      have h1 : sidx s ((p0.length + d.length : Nat) : Int) = some (B c) := by
        have h := sidx_mid (p0 ++ d) c r
        rw [List.append_assoc, ← ht, ← hs0, List.length_append] at h
        exact h
      show F33_b1 s _ _ _ _ _ _ _ _ _ = _
      rw [F33_b1, decide_eq_true (by omega), h1]
      simp only [guardO, cond_t, Option.bind_some, F53_eq, Bool.true_and]
      rw [nameN_cons] at hd
      cases hb : nameB c with
      | true =>
        rw [cond_t, wrap64 (by omega) (by omega), catO_ok (by simp; omega), Option.bind_some, rep_snoc]
        rw [hb, cond_t] at hd
        have h := ih (d ++ [c]) n (by rw [ht]; simp) (by rw [hd]; simp; omega) (by simp at hn; omega)
        have e1 : ((p0.length + (d ++ [c]).length : Nat) : Int) = ((p0.length + d.length : Nat) : Int) + 1 := by simp; omega
        have e2 : (d ++ [c]).length = d.length + 1 := by simp
        rw [e1, e2] at h
        exact h
      | false =>
        rw [cond_f]
        rw [hb, cond_f] at hd
        exact fin (c :: r) d ht hd

theorem F33_eq {s pre t : Str} (hs : s = pre ++ t) (hl : s.length ≤ 1000000) (e : Int) (nm : Bool) (off : Int) (l : List Token) (ns : List Str) : F33 s (pre.length : Int) e nm 0 off l ns = (match name pre.length t l with
      | .ok l' => some (((pre.length + nameN t : Nat) : Int), ((pre.length + nameN t : Nat) : Int), false, 0, off, l')
      | .error (q, c) => if nameN t = 0 then some ((pre.length : Int), e, nm, c, q, l) else some (((pre.length + nameN t : Nat) : Int), ((pre.length + nameN t : Nat) : Int), false, c, q, l)) := by
  have hlen : s.length = pre.length + t.length := by rw [hs]; simp
  unfold F33
  exact loop33 hs hl e nm off l ns t [] BIG rfl (by simp) (by unfold BIG; omega)

theorem F54_eq {s pre t : Str} (hs : s = pre ++ t) (hl : s.length ≤ 1000000) (e : Str) : ansD pre.length (doc t.length e t) (F54 s (pre.length : Int) e) := by
  obtain ⟨r, h1, h2⟩ := heres (s := s) (e := e) (at_ := (pre.length : Int)) hl
  have h := F8_eq hs hl e
  rw [h1] at h
  rw [h2]
  exact h

theorem halt36 (s : Str) (l : List Token) (W : List Str) (n : Nat) (i a e : Int) (nm : Bool) {c : Int} (hc : c ≠ 0) (off : Int) : iter (F36_b1 W s l) (n + 1) (i, a, e, nm, c, off) = some (a, e, nm, c, off) := by
  show F36_b1 W s l _ _ = _
  rw [F36_b1, decide_eq_false (p := c = 0) hc, Bool.and_false, cond_f]

theorem loop36r {s : Str} (hl : s.length ≤ 1000000) (W : List Str) (hW : W.length ≤ 1000000) (l : List Token) (e : Int) (nm : Bool) (off : Int) : ∀ (ws done : List Str) (pre u : Str) (n : Nat), W = done ++ ws → s = pre ++ u → ws.length + 1 < n →
    iter (F36_b1 W s l) n ((done.length : Int), (pre.length : Int), e, nm, 0, off) = (match docs ws u with
      | .ok m => some (((pre.length + m : Nat) : Int), e, nm, 0, off)
      | .error (o, c) => some (((pre.length + o : Nat) : Int), e, nm, c, ((pre.length + o : Nat) : Int)))
  | [], done, pre, u, n, hd, hs, hn => by
    match n, hn with
    | n + 1, hn =>
      show F36_b1 W s l _ _ = _
      have : W.length = done.length := by rw [hd]; simp
      rw [F36_b1, decide_eq_false (by omega), Bool.false_and, cond_f]
      rfl
  | w :: ws, done, pre, u, n, hd, hs, hn => by
    match n, hn with
    | n + 2, hn =>
      have hWl : W.length = done.length + (ws.length + 1) := by rw [hd]; simp
      have hw : lidx W (done.length : Int) = some w := by
        rw [lidx, if_pos (by omega), hd]
        simp
      show F36_b1 W s l _ _ = _
      rw [F36_b1, decide_eq_true (by omega), decide_eq_true (p := (0 : Int) = 0) rfl, Bool.and_self, cond_t, hw, Option.bind_some]
      have h54 := F54_eq hs hl w
      unfold docs
      cases hdc : doc u.length w u with
      | none =>
        rw [hdc] at h54
        have h' : F54 s (pre.length : Int) w = some ([], 0, 3) := h54
        rw [h', Option.bind_some]
        dsimp only
        rw [decide_eq_false (p := (3 : Int) = 0) (by decide), Bool.not_false, cond_t, F19_0, Option.bind_some]
        dsimp only
        refine (halt36 s l W n _ _ _ _ (by decide) _).trans ?_
        rfl
      | some m =>
        rw [hdc] at h54
        obtain ⟨x, hx⟩ := h54
        have h1 := doc_le _ _ _ _ hdc
        rw [hx, Option.bind_some]
        dsimp only
        rw [decide_eq_true (p := (0 : Int) = 0) rfl, Bool.not_true, cond_f, wrap64 (by omega) (by omega)]
        have h := loop36r hl W hW l e nm off ws (done ++ [w]) (pre ++ u.take m) (u.drop m) (n + 1) (by rw [hd]; simp) (by rw [hs, List.append_assoc, List.take_append_drop]) (by simp at hn; omega)
        have e1 : (pre ++ u.take m).length = pre.length + m := by simp; omega
        have e2 : ((done ++ [w]).length : Int) = (done.length : Int) + 1 := by simp
        rw [e1, e2] at h
        refine Eq.trans h ?_
        cases docs ws (u.drop m) with
        | error y => rcases y with ⟨o, c⟩; simp only [Nat.add_assoc]
        | ok k => simp only [Nat.add_assoc]

theorem F36_eq {s pre u : Str} (hs : s = pre ++ u) (hl : s.length ≤ 1000000) (e : Int) (nm : Bool) (off : Int) (l : List Token) (ns : List Str) (hns : ns.length ≤ 1000000) : F36 s (pre.length : Int) e nm 0 off l ns = (match docs ns u with
      | .ok m => some (((pre.length + m : Nat) : Int), e, nm, 0, off)
      | .error (o, c) => some (((pre.length + o : Nat) : Int), e, nm, c, ((pre.length + o : Nat) : Int))) := by
  unfold F36
  have h := loop36r hl ns hns l e nm off ns [] pre u BIG rfl hs (by unfold BIG; omega)
  rw [show (([] : List Str).length : Int) = 0 from rfl] at h
  exact h

theorem F36_err (s : Str) (a e : Int) (nm : Bool) {c : Int} (hc : c ≠ 0) (off : Int) (l : List Token) (ns : List Str) : F36 s a e nm c off l ns = some (a, e, nm, c, off) := by
  obtain ⟨n, hn⟩ : ∃ n, BIG = n + 1 := ⟨1180591620717411303423, rfl⟩
  unfold F36
  rw [hn]
  exact halt36 s l ns n 0 a e nm hc off

/-- Blanks skipped, as the loop of here does. -/
theorem loop37 {s : Str} (hl : s.length ≤ 1000000) (a e : Int) (nm : Bool) (x off : Int) (l : List Token) (ns : List Str) : ∀ (k : Nat) (t pre : Str) (n : Nat), t.length ≤ k → s = pre ++ t → t.length < n →
    ∃ n', 0 < n' ∧ iter (F37_b1 s a e nm x off l ns) n (pre.length : Int) = iter (F37_b1 s a e nm x off l ns) n' ((pre.length + blankN t : Nat) : Int) := by
  intro k
  induction k with
  | zero =>
    intro t pre n ht hs hn
    have : t = [] := List.length_eq_zero_iff.1 (by omega)
    subst this
    exact ⟨n, by omega, rfl⟩
  | succ k ih =>
    intro t pre n ht hs hn
    match t, ht, hs, hn with
    | [], ht, hs, hn => exact ⟨n, by omega, rfl⟩
    | c :: r, ht, hs, hn =>
      match n, hn with
      | n + 1, hn =>
        have hlen : s.length = pre.length + (r.length + 1) := by rw [hs]; simp
        simp only [List.length_cons] at ht hn
        rcases gap_cases c r with ⟨h1, h2⟩ | ⟨r', rfl, h1, h2⟩ | ⟨h1, h2⟩
        · obtain ⟨n', h3, h4⟩ := ih r (pre ++ [c]) n (by omega) (by rw [hs]; simp) (by omega)
          refine ⟨n', h3, ?_⟩
          show F37_b1 s _ _ _ _ _ _ _ _ _ = _
          rw [F37_b1, F34_eq hs hl, Option.bind_some, h1, decide_eq_true (by decide), cond_t, wrap64 (by omega) (by omega)]
          have e1 : ((pre ++ [c]).length : Int) = (pre.length : Int) + 1 := by simp
          rw [e1] at h4
          rw [h4, h2]
          congr 2
          simp
          omega
        · simp only [List.length_cons] at ht hn hlen
          obtain ⟨n', h3, h4⟩ := ih r' (pre ++ [c, 10]) n (by omega) (by rw [hs]; simp) (by omega)
          refine ⟨n', h3, ?_⟩
          show F37_b1 s _ _ _ _ _ _ _ _ _ = _
          rw [F37_b1, F34_eq hs hl, Option.bind_some, h1, decide_eq_true (by decide), cond_t, wrap64 (by omega) (by omega)]
          have e1 : ((pre ++ [c, 10]).length : Int) = (pre.length : Int) + 2 := by simp
          rw [e1] at h4
          rw [h4, h2]
          congr 2
          simp
          omega
        · exact ⟨n + 1, by omega, by rw [h2]; rfl⟩

theorem F34_0 {s pre t : Str} (hs : s = pre ++ t) (hl : s.length ≤ 1000000) (hb : blankN t = 0) : F34 s (pre.length : Int) = some 0 := by
  match t, hb with
  | [], hb => exact F34_end (by rw [hs]; simp) hl
  | c :: r, hb =>
    rw [F34_eq hs hl]
    rcases gap_cases c r with ⟨h1, h2⟩ | ⟨r', rfl, h1, h2⟩ | ⟨h1, h2⟩
    · omega
    · omega
    · rw [h1]

/-- What the reference makes of the name of a here-document. -/
theorem F37_eq {s pre t : Str} (hs : s = pre ++ t) (h2 : 2 ≤ t.length) (hl : s.length ≤ 1000000) (e : Int) (nm : Bool) (off : Int) (l : List Token) (ns : List Str) (hns : ns.length ≤ 1000000) :
    match here pre.length t l ns with
    | .ok (l', ns', m) => F37 s (pre.length : Int) e nm 0 off l ns = some (((pre.length + m : Nat) : Int), -1, nm, 0, off, l', ns')
    | .error (q, c) => ∃ a b nm' l' ns', F37 s (pre.length : Int) e nm 0 off l ns = some (a, b, nm', c, q, l', ns') := by
  have hlen : s.length = pre.length + t.length := by rw [hs]; simp
  have hb := blankN_le (t.drop 2).length (t.drop 2) (Nat.le_refl _)
  have hz := blankN_drop (t.drop 2).length (t.drop 2) (Nat.le_refl _)
  have hdl : (t.drop 2).length = t.length - 2 := by simp
  have s1 : s = (pre ++ t.take 2) ++ t.drop 2 := by rw [hs, List.append_assoc, List.take_append_drop]
  have n1 : (pre ++ t.take 2).length = pre.length + 2 := by simp; omega
  obtain ⟨n', hn', hit⟩ := loop37 hl (pre.length : Int) e nm 0 off l ns (t.drop 2).length (t.drop 2) (pre ++ t.take 2) BIG (Nat.le_refl _) s1 (by rw [hdl]; unfold BIG; omega)
  rw [n1, show ((pre.length + 2 : Nat) : Int) = (pre.length : Int) + 2 by omega] at hit
  unfold F37 here
  rw [wrap64 (by omega) (by omega), hit]
  rw [List.drop_drop] at hz
  generalize blankN (t.drop 2) = b at *
  have s2 : s = (pre ++ t.take (2 + b)) ++ t.drop (2 + b) := by rw [hs, List.append_assoc, List.take_append_drop]
  have n2 : (pre ++ t.take (2 + b)).length = pre.length + (2 + b) := by simp; omega
  have h34 := F34_0 s2 hl hz
  have h40 := F40_eq s2 hl
  rw [n2] at h34 h40
  match n', hn' with
  | n' + 1, _ =>
    rw [show pre.length + 2 + b = pre.length + (2 + b) by omega]
    have hstep : iter (F37_b1 s (pre.length : Int) e nm 0 off l ns) (n' + 1) ((pre.length + (2 + b) : Nat) : Int) = F37_b1 s (pre.length : Int) e nm 0 off l ns (iter (F37_b1 s (pre.length : Int) e nm 0 off l ns) n') ((pre.length + (2 + b) : Nat) : Int) := rfl
    rw [hstep, F37_b1, h34, Option.bind_some, decide_eq_false (by decide), cond_f]
    cases hwd : wd (t.drop (2 + b)).length (t.drop (2 + b)) with
    | error y =>
      rw [hwd] at h40
      have h40' : F40 s ((pre.length + (2 + b) : Nat) : Int) = some ⟨[], [], ((pre.length + (2 + b) + y : Nat) : Int), false⟩ := h40
      rw [h40', Option.bind_some]
      dsimp only
      rw [Bool.not_false, cond_t, F19_0]
      exact ⟨_, _, _, _, _, rfl⟩
    | ok y =>
      rcases y with ⟨x, q, m⟩
      rw [hwd] at h40
      have h40' : F40 s ((pre.length + (2 + b) : Nat) : Int) = some ⟨x, q, ((pre.length + (2 + b) + m : Nat) : Int), true⟩ := h40
      rw [h40', Option.bind_some]
      dsimp only
      rw [Bool.not_true, cond_f]
      by_cases hm : m = 0
      · subst hm
        rw [decide_eq_true (p := (((pre.length + (2 + b) + 0 : Nat) : Int) = ((pre.length + (2 + b) : Nat) : Int))) rfl, cond_t, decide_eq_true (p := 0 = 0) rfl, cond_t, F19_0]
        exact ⟨_, _, _, _, _, rfl⟩
      · rw [decide_eq_false (p := (((pre.length + (2 + b) + m : Nat) : Int) = ((pre.length + (2 + b) : Nat) : Int))) (by omega), cond_f, decide_eq_false hm, cond_f, F35_eq]
        cases hp : push l ⟨4, (pre.length : Int), x, q⟩ with
        | error y =>
          rcases y with ⟨q', c⟩
          dsimp only
          rw [Option.bind_some]
          dsimp only
          rw [appO_eq (by simp; omega)]
          exact ⟨_, _, _, _, _, rfl⟩
        | ok l1 =>
          dsimp only
          rw [Option.bind_some]
          dsimp only
          rw [appO_eq (by simp; omega), Option.bind_some]
          simp only [Nat.add_assoc]

def isD (c : UInt8) : Bool := decide (48 ≤ c.toNat) && decide (c.toNat ≤ 57)

def two (c d : UInt8) : Option Nat := if c = 48 then none else if 10 * (c.toNat - 48) + (d.toNat - 48) < 64 then some 2 else none

/-- How many bytes the number of a file descriptor takes. -/
def numR : Str → Option Nat
  | [] => none
  | [c] => if isD c then some 1 else none
  | [c, d] => if isD c then (if isD d then two c d else some 1) else none
  | c :: d :: e :: _ => if isD c then (if isD d then (if isD e then none else two c d) else some 1) else none

theorem isD_spec {c : UInt8} (h : isD c = true) : 48 ≤ c.toNat ∧ c.toNat ≤ 57 := by
  unfold isD at h
  simpa using h

theorem dig_of {c : UInt8} (h : isD c = true) : c = UInt8.ofNat (48 + (c.toNat - 48)) := by
  obtain ⟨h1, h2⟩ := isD_spec h
  rw [show 48 + (c.toNat - 48) = c.toNat by omega, UInt8.ofNat_toNat]

theorem atoi1 : ((List.range 10).all fun i => match Lib.atoiAll [UInt8.ofNat (48 + i)] with | .ok v => v == (i : Int) | _ => false) = true := by kernel_rfl

theorem atoi2 : ((List.range 54).all fun i => match Lib.atoiAll [UInt8.ofNat (48 + (i + 10) / 10), UInt8.ofNat (48 + (i + 10) % 10)] with | .ok v => v == ((i + 10 : Nat) : Int) | _ => false) = true := by kernel_rfl

theorem F67_dec {n : Nat} (h : n < 64) : F67 (Lib.decDigits n) = some true := by
  have ha : L_Atoi (Lib.decDigits n) = some ((n : Int), false) := by
    unfold L_Atoi
    by_cases h10 : n < 10
    · have := List.all_eq_true.1 atoi1 n (List.mem_range.2 h10)
      rw [Lib.decDigits_one h10, if_pos (by simp)]
      split at this
      · rename_i v hv
        rw [hv]
        simp only [beq_iff_eq] at this
        rw [this]
      · cases this
    · have := List.all_eq_true.1 atoi2 (n - 10) (List.mem_range.2 (by omega))
      rw [show n - 10 + 10 = n by omega] at this
      rw [Lib.decDigits_two h10 (by omega), if_pos (by simp)]
      split at this
      · rename_i v hv
        rw [hv]
        simp only [beq_iff_eq] at this
        rw [this]
      · cases this
  unfold F67
  rw [ha, Option.bind_some]
  dsimp only
  have hi : L_Itoa (n : Int) = some (Lib.decDigits n) := by
    unfold L_Itoa
    rw [if_pos ⟨by omega, by omega⟩, Int.toNat_natCast]
  rw [hi, decide_eq_true (p := (0 : Int) ≤ (n : Int)) (by omega), decide_eq_true (p := (n : Int) < 64) (by omega)]
  simp [guardO]

theorem F67_num {x : Str} (hl : x.length ≤ 1000000) (h : F67 x = some true) : ∃ n, n < 64 ∧ x = Lib.decDigits n := by
  unfold F67 at h
  obtain ⟨⟨n, b⟩, hn, h⟩ := Option.bind_eq_some_iff.1 h
  dsimp only at h
  cases hg : (!b && decide (0 ≤ n)) && decide (n < 64) with
  | false =>
    rw [hg] at h
    simp [guardO] at h
  | true =>
    rw [hg] at h
    simp only [Bool.and_eq_true, decide_eq_true_eq] at hg
    have hi : L_Itoa n = some (Lib.decDigits n.toNat) := by
      unfold L_Itoa
      rw [if_pos ⟨hg.1.2, by omega⟩]
    rw [hi] at h
    simp [guardO] at h
    exact ⟨n.toNat, by omega, h.symm⟩

theorem toNat_dig {i : Nat} (h : i < 10) : (UInt8.ofNat (48 + i)).toNat = 48 + i := by
  rw [UInt8.toNat_ofNat']
  omega

theorem isD_dig {i : Nat} (h : i < 10) : isD (UInt8.ofNat (48 + i)) = true := by
  unfold isD
  rw [toNat_dig h]
  simp
  omega

theorem numR_dec {n : Nat} (h : n < 64) : numR (Lib.decDigits n) = some (Lib.decDigits n).length := by
  by_cases h10 : n < 10
  · rw [Lib.decDigits_one h10, numR, isD_dig h10]
    rfl
  · rw [Lib.decDigits_two h10 (by omega), numR, isD_dig (by omega), isD_dig (by omega), if_pos rfl, if_pos rfl, two, toNat_dig (by omega), toNat_dig (by omega), if_neg, if_pos (by omega)]
    · rfl
    · intro e
      have := congrArg UInt8.toNat e
      rw [toNat_dig (by omega)] at this
      simp at this
      omega

/-- The program's numbers are the reference's. -/
theorem F67_R {x : Str} (hl : x.length ≤ 1000000) : F67 x = some (decide (numR x = some x.length)) := by
  obtain ⟨b, hb⟩ := F67_tot x hl
  cases b with
  | true =>
    obtain ⟨n, hn, rfl⟩ := F67_num hl hb
    rw [hb, numR_dec hn]
    simp
  | false =>
    rw [hb]
    congr 1
    refine (decide_eq_false fun h => ?_).symm
    have hd : ∃ n, n < 64 ∧ x = Lib.decDigits n := by
      match x, h with
      | [c], h =>
        rw [numR] at h
        split at h
        · rename_i hc
          obtain ⟨h1, h2⟩ := isD_spec hc
          exact ⟨c.toNat - 48, by omega, by rw [Lib.decDigits_one (by omega), ← dig_of hc]⟩
        · cases h
      | [c, d], h =>
        rw [numR] at h
        split at h
        · rename_i hc
          split at h
          · rename_i hd
            obtain ⟨h1, h2⟩ := isD_spec hc
            obtain ⟨h3, h4⟩ := isD_spec hd
            unfold two at h
            split at h
            · cases h
            · rename_i hz
              split at h
              · rename_i h64
                have hz' : c.toNat ≠ 48 := fun e => hz (by rw [← UInt8.ofNat_toNat (x := c), e]; rfl)
                refine ⟨10 * (c.toNat - 48) + (d.toNat - 48), h64, ?_⟩
                rw [Lib.decDigits_two (by omega) (by omega)]
                rw [show (10 * (c.toNat - 48) + (d.toNat - 48)) / 10 = c.toNat - 48 by omega, show (10 * (c.toNat - 48) + (d.toNat - 48)) % 10 = d.toNat - 48 by omega, ← dig_of hc, ← dig_of hd]
              · cases h
          · simp at h
        · cases h
      | c :: d :: e :: r, h =>
        rw [numR] at h
        split at h
        · split at h
          · split at h
            · cases h
            · unfold two at h
              split at h
              · cases h
              · split at h
                · simp at h
                · cases h
          · simp at h
        · cases h
    obtain ⟨n, hn, rfl⟩ := hd
    rw [F67_dec hn] at hb
    cases hb

def hd0 : Str → Bool
  | [] => false
  | c :: _ => isD c

/-- A number ahead of what is no digit. -/
theorem numR_app {y : Str} (hy : hd0 y = false) : ∀ x : Str, (numR x = some x.length → numR (x ++ y) = some x.length) ∧ (numR x ≠ some x.length → numR (x ++ y) = none ∨ ∃ k, k < x.length ∧ numR (x ++ y) = some k)
  | [] => by
    refine ⟨fun h => by simp [numR] at h, fun _ => .inl ?_⟩
    match y, hy with
    | [], _ => rfl
    | [c], hy => simp only [hd0] at hy; simp [numR, hy]
    | [c, d], hy => simp only [hd0] at hy; simp [numR, hy]
    | c :: d :: e :: r, hy => simp only [hd0] at hy; simp [numR, hy]
  | [c] => by
    have key : numR (c :: y) = if isD c then some 1 else none := by
      match y, hy with
      | [], _ => rfl
      | [d], hy => simp only [hd0] at hy; simp [numR, hy]
      | d :: e :: r, hy => simp only [hd0] at hy; simp [numR, hy]
    show (numR [c] = some 1 → numR (c :: y) = some 1) ∧ (numR [c] ≠ some 1 → numR (c :: y) = none ∨ ∃ k, k < 1 ∧ numR (c :: y) = some k)
    rw [key]
    simp only [numR]
    cases isD c <;> simp
  | [c, d] => by
    have key : numR (c :: d :: y) = if isD c then (if isD d then two c d else some 1) else none := by
      match y, hy with
      | [], _ => rfl
      | e :: r, hy => simp only [hd0] at hy; simp [numR, hy]
    show (numR [c, d] = some 2 → numR (c :: d :: y) = some 2) ∧ (numR [c, d] ≠ some 2 → numR (c :: d :: y) = none ∨ ∃ k, k < 2 ∧ numR (c :: d :: y) = some k)
    rw [key]
    simp only [numR]
    cases isD c <;> cases isD d <;> simp
    unfold two
    split
    · simp
    · split <;> simp
  | c :: d :: e :: r => by
    have key : numR (c :: d :: e :: r ++ y) = numR (c :: d :: e :: r) := rfl
    rw [key]
    refine ⟨fun h => h, fun h => ?_⟩
    cases hn : numR (c :: d :: e :: r) with
    | none => exact .inl rfl
    | some k =>
      refine .inr ⟨k, ?_, rfl⟩
      rw [numR] at hn
      split at hn
      · split at hn
        · split at hn
          · cases hn
          · unfold two at hn
            split at hn
            · cases hn
            · split at hn
              · injection hn with hn; simp; omega
              · cases hn
        · injection hn with hn; simp; omega
      · cases hn

theorem wrap8 {n : Int} (h1 : 0 ≤ n) (h2 : n < 256) : IntKind.wrap .u8 n = n := by
  show n % 256 = n
  omega

theorem isD_B (c : UInt8) : (decide (48 ≤ B c) && decide (B c ≤ 57)) = isD c := by
  unfold isD B
  congr 1
  · exact decide_eq_decide.2 (by omega)
  · exact decide_eq_decide.2 (by omega)

theorem sidx_at {s pre : Str} {d : Str} {c : UInt8} {r : Str} (hs : s = pre ++ (d ++ c :: r)) : sidx s ((pre.length + d.length : Nat) : Int) = some (B c) := by
  have h := sidx_mid (pre ++ d) c r
  rw [List.append_assoc, ← hs, List.length_append] at h
  exact h

/-- One round of the reference's loop over digits. -/
theorem step68 {s pre d : Str} {c : UInt8} {r : Str} (hs : s = pre ++ (d ++ c :: r)) (hl : s.length ≤ 1000000) (hc : isD c = true) (hd : d.length < 3) (v : Nat) (hv : v ≤ 1000) (n : Nat) :
    iter (F68_b1 s (pre.length : Int)) (n + 1) ((v : Int), ((pre.length + d.length : Nat) : Int)) = iter (F68_b1 s (pre.length : Int)) n (((10 * v + (c.toNat - 48) : Nat) : Int), ((pre.length + d.length + 1 : Nat) : Int)) := by
  have hlen : s.length = pre.length + (d.length + (r.length + 1)) := by rw [hs]; simp
  obtain ⟨h1, h2⟩ := isD_spec hc
  have hB : B c = (c.toNat : Int) := rfl
  have h8 : IntKind.wrap .u8 ((c.toNat : Int) - 48) = (c.toNat : Int) - 48 := wrap8 (by omega) (by omega)
  show F68_b1 s _ _ _ = _
  rw [F68_b1, decide_eq_true (p := ((pre.length + d.length : Nat) : Int) < (s.length : Int)) (by omega), sidx_at hs]
  simp only [guardO, cond_t, Option.bind_some, Bool.true_and]
  rw [isD_B, hc, wrap64 (n := (pre.length : Int) + 3) (by omega) (by omega), decide_eq_true (p := ((pre.length + d.length : Nat) : Int) < (pre.length : Int) + 3) (by omega)]
  simp only [Bool.and_self, cond_t, hB, h8]
  rw [wrap64 (n := (c.toNat : Int) - 48) (by omega) (by omega), wrap64 (n := 10 * (v : Int)) (by omega) (by omega), wrap64 (by omega) (by omega), wrap64 (by omega) (by omega)]
  congr 2
  omega

/-- The loop's end. -/
theorem end68 {s pre d t : Str} (hs : s = pre ++ (d ++ t)) (hl : s.length ≤ 1000000) (ht : hd0 t = false ∨ 3 ≤ d.length) (v : Nat) (n : Nat) (hdl : d.length ≤ 3) (c0 : UInt8) (hc0 : d ≠ [] → s[pre.length]? = some c0) :
    iter (F68_b1 s (pre.length : Int)) (n + 1) ((v : Int), ((pre.length + d.length : Nat) : Int)) = some (if d = [] ∨ 64 ≤ v ∨ (1 < d.length ∧ c0 = 48) then -1 else ((pre.length + d.length : Nat) : Int)) := by
  have hlen : s.length = pre.length + (d.length + t.length) := by rw [hs]; simp
  show F68_b1 s _ _ _ = _
  have hg : ∃ x, (guardO (decide (((pre.length + d.length : Nat) : Int) < (s.length : Int))) (sidx s ((pre.length + d.length : Nat) : Int))) = some x ∧
      (((decide (((pre.length + d.length : Nat) : Int) < (s.length : Int)) && decide (48 ≤ x)) && decide (x ≤ 57)) && decide (((pre.length + d.length : Nat) : Int) < (pre.length : Int) + 3)) = false := by
    match t, ht, hs, hlen with
    | [], ht, hs, hlen =>
      rw [decide_eq_false (by simp at hlen; omega)]
      exact ⟨_, rfl, rfl⟩
    | c :: r, ht, hs, hlen =>
      rw [decide_eq_true (by simp at hlen; omega), sidx_at hs]
      refine ⟨B c, rfl, ?_⟩
      rw [Bool.true_and, isD_B]
      rcases ht with h | h
      · have : isD c = false := h
        rw [this]
        rfl
      · rw [decide_eq_false (by omega), Bool.and_false]
  obtain ⟨x, hx, hcond⟩ := hg
  rw [F68_b1, hx, Option.bind_some, wrap64 (n := (pre.length : Int) + 3) (by omega) (by omega), hcond, cond_f, wrap64 (n := (pre.length : Int) + 1) (by omega) (by omega)]
  by_cases h0 : d = []
  · subst h0
    rw [decide_eq_true (p := ((pre.length + ([] : Str).length : Nat) : Int) = (pre.length : Int)) (by simp)]
    simp [guardO]
  · have hd1 : 1 ≤ d.length := List.length_pos_iff.2 h0
    rw [decide_eq_false (p := ((pre.length + d.length : Nat) : Int) = (pre.length : Int)) (by omega)]
    by_cases hv : 64 ≤ v
    · rw [decide_eq_true (p := (64 : Int) ≤ (v : Int)) (by omega)]
      simp [guardO, hv]
    · rw [decide_eq_false (p := (64 : Int) ≤ (v : Int)) (by omega)]
      by_cases h1 : 1 < d.length
      · have hsi : sidx s (pre.length : Int) = some (B c0) := by
          rw [sidx_nat, hc0 h0]
          rfl
        have hB : decide (B c0 = 48) = decide (c0 = 48) := byte_eq c0 48
        rw [decide_eq_true (p := (pre.length : Int) + 1 < ((pre.length + d.length : Nat) : Int)) (by omega), hsi]
        simp only [Bool.or_self, Bool.not_false, Bool.and_self, guardO, cond_t, Option.bind_some, Bool.true_and, Bool.false_or, hB]
        by_cases hc : c0 = 48
        · simp [hc, h0, hv, h1]
        · simp [hc, h0, hv]
      · rw [decide_eq_false (p := (pre.length : Int) + 1 < ((pre.length + d.length : Nat) : Int)) (by omega)]
        simp [guardO, h0, hv, h1]

def ansM (p : Nat) : Option Nat → Int
  | some m => ((p + m : Nat) : Int)
  | none => -1

theorem F68_eq {s pre t : Str} (hs : s = pre ++ t) (hl : s.length ≤ 1000000) : F68 s (pre.length : Int) = some (ansM pre.length (numR t)) := by
  obtain ⟨n, hn⟩ : ∃ n, BIG = n + 4 := ⟨1180591620717411303420, rfl⟩
  unfold F68
  rw [hn]
  have z : ∀ {α : Type} (f : Int × Int → α), f (0, (pre.length : Int)) = f (((0 : Nat) : Int), ((pre.length + ([] : Str).length : Nat) : Int)) := fun f => by simp
  rw [z (iter (F68_b1 s (pre.length : Int)) (n + 4))]
  have hat : ∀ c r, t = c :: r → s[pre.length]? = some c := by
    intro c r h
    rw [hs, h]
    simp
  cases h0 : hd0 t with
  | false =>
    rw [end68 (d := []) (t := t) hs hl (.inl h0) 0 (n + 3) (by simp) 0 (fun h => absurd rfl h), if_pos (.inl rfl)]
    have : numR t = none := by
      match t, h0 with
      | [], _ => rfl
      | [c], h0 => simp only [hd0] at h0; simp [numR, h0]
      | [c, d], h0 => simp only [hd0] at h0; simp [numR, h0]
      | c :: d :: e :: r, h0 => simp only [hd0] at h0; simp [numR, h0]
    rw [this]
    rfl
  | true =>
    match t, h0, hs, hat with
    | c :: r, h0, hs, hat =>
      have hc : isD c = true := h0
      obtain ⟨hc1, hc2⟩ := isD_spec hc
      rw [step68 (d := []) hs hl hc (by simp) 0 (by omega) (n + 3)]
      have e1 : pre.length + ([] : Str).length + 1 = pre.length + [c].length := rfl
      rw [e1]
      cases h1 : hd0 r with
      | false =>
        rw [end68 (d := [c]) (t := r) hs hl (.inl h1) _ (n + 2) (by simp) c (fun _ => hat c r rfl), if_neg (by simp; omega)]
        have : numR (c :: r) = some 1 := by
          match r, h1 with
          | [], _ => simp [numR, hc]
          | [d], h1 => simp only [hd0] at h1; simp [numR, hc, h1]
          | d :: e :: r, h1 => simp only [hd0] at h1; simp [numR, hc, h1]
        rw [this]
        rfl
      | true =>
        match r, h1, hs, hat with
        | d :: r, h1, hs, hat =>
          have hd : isD d = true := h1
          obtain ⟨hd1, hd2⟩ := isD_spec hd
          rw [step68 (d := [c]) hs hl hd (by simp) _ (by omega) (n + 2)]
          have e2 : pre.length + [c].length + 1 = pre.length + [c, d].length := rfl
          rw [e2]
          have hz : c = 48 ↔ c.toNat = 48 := ⟨fun e => by rw [e]; rfl, fun e => by rw [← UInt8.ofNat_toNat (x := c), e]; rfl⟩
          cases h2 : hd0 r with
          | false =>
            rw [end68 (d := [c, d]) (t := r) hs hl (.inl h2) _ (n + 1) (by simp) c (fun _ => hat c (d :: r) rfl)]
            have : numR (c :: d :: r) = two c d := by
              match r, h2 with
              | [], _ => simp [numR, hc, hd]
              | e :: r, h2 => simp only [hd0] at h2; simp [numR, hc, hd, h2]
            rw [this]
            unfold two
            by_cases h48 : c = 48
            · rw [if_pos h48, if_pos (.inr (.inr ⟨by simp, h48⟩))]
              rfl
            · rw [if_neg h48]
              by_cases h64 : 10 * (c.toNat - 48) + (d.toNat - 48) < 64
              · rw [if_pos h64, if_neg (by simp [h48]; omega)]
                rfl
              · rw [if_neg h64, if_pos (.inr (.inl (by omega)))]
                rfl
          | true =>
            match r, h2, hs, hat with
            | e :: r, h2, hs, hat =>
              have he : isD e = true := h2
              obtain ⟨he1, he2⟩ := isD_spec he
              rw [step68 (d := [c, d]) hs hl he (by simp) _ (by omega) (n + 1)]
              have e3 : pre.length + [c, d].length + 1 = pre.length + [c, d, e].length := rfl
              rw [e3, end68 (d := [c, d, e]) (t := r) hs hl (.inr (by simp)) _ n (by simp) c (fun _ => hat c (d :: e :: r) rfl)]
              have : numR (c :: d :: e :: r) = none := by simp [numR, hc, hd, he]
              rw [this, if_pos]
              · rfl
              · by_cases h48 : c = 48
                · exact .inr (.inr ⟨by simp, h48⟩)
                · have : c.toNat ≠ 48 := fun e => h48 (hz.2 e)
                  exact .inr (.inl (by omega))

def chk (r : Str) (k : Nat) : Option Nat := if r[k]? = some 93 then some (k + 1) else none

/-- Where a number in brackets ends, as the reference reads it: from behind the bracket. -/
def refB (r : Str) (pair : Bool) : Option Nat :=
  match numR r with
  | none => none
  | some m => if r[m]? = some 61 ∧ pair = true then (match r[m + 1]? with
      | some c => if c = 93 then chk r (m + 1) else (match numR (r.drop (m + 1)) with
        | none => none
        | some k => chk r (m + 1 + k))
      | none => chk r (m + 1))
    else chk r m

theorem sidx_of {s pre r : Str} {k : Nat} (hs : s = pre ++ r) : sidx s ((pre.length + k : Nat) : Int) = (r[k]?).map B := by
  rw [sidx_nat, hs, List.getElem?_append_right (by omega), show pre.length + k - pre.length = k by omega]
  rfl

theorem j1_eq {s pre r : Str} (hs : s = pre ++ r) (hl : s.length ≤ 1000000) (k : Nat) : F56_j1 s ((pre.length + k : Nat) : Int) = some (ansM pre.length (chk r k)) := by
  have hlen : s.length = pre.length + r.length := by rw [hs]; simp
  unfold F56_j1 chk
  rw [decide_eq_false (p := ((pre.length + k : Nat) : Int) < 0) (by omega)]
  by_cases hk : k < r.length
  · rw [decide_eq_false (p := (s.length : Int) ≤ ((pre.length + k : Nat) : Int)) (by omega), sidx_of hs, List.getElem?_eq_getElem hk]
    have hB : decide (B r[k] = 93) = decide (r[k] = 93) := byte_eq r[k] 93
    simp only [Bool.or_self, Bool.not_false, guardO, cond_t, Option.map_some, Option.bind_some, Bool.false_or, hB]
    by_cases h : r[k] = 93
    · rw [decide_eq_true h, if_pos (by rw [h]), Bool.not_true, cond_f, wrap64 (by omega) (by omega)]
      rfl
    · rw [decide_eq_false h, if_neg (by simpa using h)]
      rfl
  · rw [decide_eq_true (p := (s.length : Int) ≤ ((pre.length + k : Nat) : Int)) (by omega), if_neg (by rw [List.getElem?_eq_none (by omega)]; simp)]
    simp [guardO, ansM]

theorem j1_neg (s : Str) : F56_j1 s (-1) = some (-1) := by
  unfold F56_j1
  simp [guardO]

theorem numR_le {t : Str} {m : Nat} (h : numR t = some m) : m ≤ t.length := by
  match t, h with
  | [], h => simp [numR] at h
  | [c], h =>
    rw [numR] at h
    split at h
    · injection h with h; simp; omega
    · cases h
  | [c, d], h =>
    rw [numR] at h
    split at h
    · split at h
      · unfold two at h
        split at h
        · cases h
        · split at h
          · injection h with h; simp; omega
          · cases h
      · injection h with h; simp; omega
    · cases h
  | c :: d :: e :: r, h =>
    rw [numR] at h
    split at h
    · split at h
      · split at h
        · cases h
        · unfold two at h
          split at h
          · cases h
          · split at h
            · injection h with h; simp; omega
            · cases h
      · injection h with h; simp; omega
    · cases h

theorem F56_eq {s pre : Str} {r : Str} (hs : s = pre ++ 91 :: r) (hl : s.length ≤ 1000000) (pair : Bool) : F56 s (pre.length : Int) pair = some (ansM (pre.length + 1) (refB r pair)) := by
  have hlen : s.length = pre.length + (r.length + 1) := by rw [hs]; simp
  have s1 : s = (pre ++ [91]) ++ r := by rw [hs]; simp
  have n1 : (pre ++ [91]).length = pre.length + 1 := by simp
  have h68 := F68_eq s1 hl
  rw [n1] at h68
  unfold F56 refB
  rw [wrap64 (by omega) (by omega), show (pre.length : Int) + 1 = ((pre.length + 1 : Nat) : Int) by omega]
  cases hn : numR r with
  | none =>
    rw [hn] at h68
    have h68' : F68 s ((pre.length + 1 : Nat) : Int) = some (-1) := h68
    rw [h68', Option.bind_some, decide_eq_false (p := (0 : Int) ≤ -1) (by decide)]
    simp only [Bool.false_and, guardO, cond_f, Option.bind_some]
    exact j1_neg s
  | some m =>
    have hm := numR_le hn
    rw [hn] at h68
    have h68' : F68 s ((pre.length + 1 : Nat) : Int) = some ((pre.length + 1 + m : Nat) : Int) := h68
    rw [h68', Option.bind_some, decide_eq_true (p := (0 : Int) ≤ ((pre.length + 1 + m : Nat) : Int)) (by omega), Bool.true_and]
    dsimp only
    have hj := fun k => j1_eq s1 hl k
    simp only [n1] at hj
    have hsi := fun k => sidx_of (k := k) s1
    simp only [n1] at hsi
    by_cases hk : m < r.length
    · rw [decide_eq_true (p := ((pre.length + 1 + m : Nat) : Int) < (s.length : Int)) (by omega), hsi, List.getElem?_eq_getElem hk]
      have hB : decide (B r[m] = 61) = decide (r[m] = 61) := byte_eq r[m] 61
      simp only [guardO, cond_t, Option.map_some, Option.bind_some, Bool.true_and, hB]
      by_cases h61 : r[m] = 61 ∧ pair = true
      · rw [decide_eq_true h61.1, h61.2, Bool.and_self, cond_t, if_pos ⟨by rw [h61.1], rfl⟩, wrap64 (by omega) (by omega), show ((pre.length + 1 + m : Nat) : Int) + 1 = ((pre.length + 1 + (m + 1) : Nat) : Int) by omega]
        by_cases hk2 : m + 1 < r.length
        · rw [decide_eq_true (p := ((pre.length + 1 + (m + 1) : Nat) : Int) < (s.length : Int)) (by omega), hsi, List.getElem?_eq_getElem hk2]
          have hB2 : decide (B r[m + 1] = 93) = decide (r[m + 1] = 93) := byte_eq r[m + 1] 93
          simp only [cond_t, Option.map_some, Option.bind_some, Bool.true_and, hB2]
          by_cases h93 : r[m + 1] = 93
          · rw [decide_eq_true h93, if_pos h93, Bool.not_true, cond_f, hj]
          · rw [decide_eq_false h93, if_neg h93, Bool.not_false, cond_t]
            have s2 : s = (pre ++ 91 :: r.take (m + 1)) ++ r.drop (m + 1) := by rw [hs]; simp
            have n2 : (pre ++ 91 :: r.take (m + 1)).length = pre.length + 1 + (m + 1) := by simp; omega
            have h68' := F68_eq s2 hl
            rw [n2] at h68'
            cases hn2 : numR (r.drop (m + 1)) with
            | none =>
              rw [hn2] at h68'
              have h68n : F68 s ((pre.length + 1 + (m + 1) : Nat) : Int) = some (-1) := h68'
              rw [h68n]
              exact j1_neg s
            | some k =>
              rw [hn2] at h68'
              have h68n : F68 s ((pre.length + 1 + (m + 1) : Nat) : Int) = some ((pre.length + 1 + (m + 1) + k : Nat) : Int) := h68'
              rw [h68n, Option.bind_some]
              rw [show ((pre.length + 1 + (m + 1) + k : Nat) : Int) = ((pre.length + 1 + (m + 1 + k) : Nat) : Int) by omega, hj]
        · rw [decide_eq_false (p := ((pre.length + 1 + (m + 1) : Nat) : Int) < (s.length : Int)) (by omega), List.getElem?_eq_none (by omega)]
          simp only [cond_f, Option.bind_some, Bool.false_and]
          rw [hj]
      · have hcnd : (decide (r[m] = 61) && pair) = false := by
          cases pair
          · simp
          · simpa using h61
        rw [hcnd, cond_f, hj, if_neg (by simpa using h61)]
    · rw [decide_eq_false (p := ((pre.length + 1 + m : Nat) : Int) < (s.length : Int)) (by omega)]
      have hno : r[m]? = none := List.getElem?_eq_none (by omega)
      simp only [guardO, cond_f, Option.bind_some, Bool.false_and]
      rw [hj, if_neg (by rw [hno]; simp)]

/-- The program's brackets, by the numbers in them. -/
theorem F51_key {a : Str} (w : Str) (pair : Bool) (ha : (93 : UInt8) ∉ a) (hl : a.length ≤ 1000000) : F51 (91 :: (a ++ 93 :: w)) pair = ((F67 (Lib.cut a [61]).1).bind fun r16 =>
      (guardO (((r16 && (Lib.cut a [61]).2.2) && pair) && !decide ((Lib.cut a [61]).2.1 = [])) (F67 (Lib.cut a [61]).2.1)).bind fun r19 =>
      (bif (!r16 || ((Lib.cut a [61]).2.2 && (!pair || (!decide ((Lib.cut a [61]).2.1 = []) && !r19)))) then some 0 else some ((a.length + 2 : Nat) : Int))) := by
  have h93 : (93 : Int).toNat.toUInt8 = 93 := by decide
  have hi := indexByte_at 93 w (91 :: a) (by simp only [List.mem_cons, not_or]; exact ⟨by decide, ha⟩)
  have hs : sslice (91 :: (a ++ 93 :: w)) 1 ((91 :: a).length : Int) = some a := sslice_part [91] a (93 :: w)
  unfold F51
  rw [L_IndexByte, Option.bind_some, h93]
  rw [show (91 :: (a ++ 93 :: w) : Str) = (91 :: a) ++ 93 :: w from rfl, hi, decide_eq_false (by omega), cond_f]
  rw [show ((91 :: a) ++ 93 :: w : Str) = 91 :: (a ++ 93 :: w) from rfl, hs, Option.bind_some, L_Cut, if_pos (by omega), Option.bind_some]
  rw [wrap64 (by omega) (by simp; omega)]
  have e : ((91 :: a).length : Int) + 1 = ((a.length + 2 : Nat) : Int) := by simp; omega
  rw [e]

theorem brk_of {t : Str} {pair : Bool} {k : Nat} (h : F51 t pair = some (k : Int)) : brk t pair = k := by
  unfold brk
  rw [h]
  simp

/-- The program's brackets are the reference's. -/
theorem brk_ref (r : Str) (pair : Bool) (hl : r.length ≤ 1000000) : brk (91 :: r) pair = (match refB r pair with
    | some k => k + 1
    | none => 0) := by
  rcases firstOf 93 r with h | ⟨a, w, ha, rfl⟩
  · have hc : ∀ k, chk r k = none := by
      intro k
      unfold chk
      rw [if_neg]
      intro e
      exact h (List.mem_of_getElem? e)
    have : refB r pair = none := by
      unfold refB
      split
      · rfl
      · split
        · split
          · split
            · exact hc _
            · split
              · rfl
              · exact hc _
          · exact hc _
        · exact hc _
    rw [this]
    exact brk_of (k := 0) (F51_free pair h)
  · have hal : a.length ≤ 1000000 := by simp at hl; omega
    have at_ : ∀ k, k < a.length → ((a ++ 93 :: w)[k]? ≠ some 93) := by
      intro k hk e
      rw [List.getElem?_append_left hk] at e
      exact ha (List.mem_of_getElem? e)
    have chk_lt : ∀ k, k < a.length → chk (a ++ 93 :: w) k = none := fun k hk => if_neg (at_ k hk)
    have chk_at : chk (a ++ 93 :: w) a.length = some (a.length + 1) := by
      unfold chk
      rw [if_pos]
      simp
    have key := F51_key w pair ha hal
    rcases firstOf 61 a with h61 | ⟨x, y, hx, rfl⟩
    · -- one number
      rw [cut_free h61] at key
      simp only [Bool.and_false, Bool.false_and, guardO, cond_f, Option.bind_some, Bool.or_false] at key
      rw [F67_R hal, Option.bind_some] at key
      obtain ⟨h1, h2⟩ := numR_app (y := 93 :: w) rfl a
      by_cases hn : numR a = some a.length
      · rw [decide_eq_true hn, Bool.not_true, cond_f] at key
        rw [brk_of key]
        unfold refB
        rw [h1 hn]
        have : ¬ ((a ++ 93 :: w)[a.length]? = some 61 ∧ pair = true) := by simp
        simp only [if_neg this, chk_at]
      · rw [decide_eq_false hn, Bool.not_false, cond_t] at key
        rw [brk_of (k := 0) key]
        unfold refB
        rcases h2 hn with e | ⟨k, hk, e⟩
        · rw [e]
        · rw [e]
          have : ¬ ((a ++ 93 :: w)[k]? = some 61 ∧ pair = true) := by
            rintro ⟨e, _⟩
            rw [List.getElem?_append_left hk] at e
            exact h61 (List.mem_of_getElem? e)
          simp only [if_neg this, chk_lt k hk]
    · -- two
      have hxl : x.length ≤ 1000000 := by simp at hal; omega
      have hyl : y.length ≤ 1000000 := by simp at hal; omega
      rw [cut_at y hx] at key
      have hap : (x ++ 61 :: y) ++ 93 :: w = x ++ 61 :: (y ++ 93 :: w) := by simp
      obtain ⟨h1, h2⟩ := numR_app (y := 61 :: (y ++ 93 :: w)) rfl x
      rw [F67_R hxl, F67_R hyl] at key
      have hxa : x.length < (x ++ 61 :: y).length := by simp
      by_cases hn : numR x = some x.length
      · rw [decide_eq_true hn, Option.bind_some] at key
        have h61at : ((x ++ 61 :: y) ++ 93 :: w)[x.length]? = some 61 := by rw [hap]; simp
        cases pair with
        | false =>
          simp only [Bool.true_and, Bool.and_false, Bool.false_and, guardO, cond_f, Option.bind_some, Bool.not_true, Bool.not_false, Bool.true_or, Bool.or_true, cond_t] at key
          rw [brk_of (k := 0) key]
          unfold refB
          rw [hap, h1 hn, ← hap]
          simp only [Bool.false_eq_true, and_false, if_false]
          rw [chk_lt _ hxa]
        | true =>
          unfold refB
          rw [hap, h1 hn, ← hap]
          simp only [h61at, and_self, if_true]
          match y, hyl, key, hap, ha, hal, at_, chk_lt, chk_at, hxa, h61at with
          | [], hyl, key, hap, ha, hal, at_, chk_lt, chk_at, hxa, h61at =>
            simp only [Bool.true_and, decide_true, Bool.not_true, Bool.false_and, guardO, cond_f, Option.bind_some, Bool.or_false, Bool.false_or, Bool.and_self] at key
            have e1 : (x ++ [61]).length = x.length + 1 := by simp
            have hc : ((x ++ [61]) ++ 93 :: w)[x.length + 1]? = some 93 := by simp
            rw [hc]
            simp only [if_true]
            rw [← e1, chk_at, brk_of key]
          | z :: y, hyl, key, hap, ha, hal, at_, chk_lt, chk_at, hxa, h61at =>
            have hz : z ≠ 93 := fun e => ha (by rw [e]; simp)
            have hc : ((x ++ 61 :: z :: y) ++ 93 :: w)[x.length + 1]? = some z := by rw [hap]; simp
            rw [hc]
            simp only [if_neg hz]
            have hdr : ((x ++ 61 :: z :: y) ++ 93 :: w).drop (x.length + 1) = (z :: y) ++ 93 :: w := by rw [hap]; simp
            rw [hdr]
            rw [decide_eq_false (p := z :: y = []) (by simp)] at key
            simp only [Bool.true_and, Bool.not_false, guardO, cond_t, Option.bind_some, Bool.not_true, Bool.false_or] at key
            obtain ⟨g1, g2⟩ := numR_app (y := 93 :: w) rfl (z :: y)
            have e1 : (x ++ 61 :: z :: y).length = x.length + 1 + (z :: y).length := by simp; omega
            by_cases hm : numR (z :: y) = some (z :: y).length
            · rw [decide_eq_true hm, Bool.not_true, cond_f] at key
              rw [g1 hm]
              simp only []
              rw [← e1, chk_at, brk_of key]
            · rw [decide_eq_false hm, Bool.not_false, cond_t] at key
              rw [brk_of (k := 0) key]
              rcases g2 hm with e | ⟨k, hk, e⟩
              · rw [e]
              · rw [e]
                simp only []
                rw [chk_lt _ (by omega)]
      · rw [decide_eq_false hn, Option.bind_some] at key
        simp only [Bool.false_and, guardO, cond_f, Option.bind_some, Bool.not_false, Bool.true_or, cond_t] at key
        rw [brk_of (k := 0) key]
        unfold refB
        rcases h2 hn with e | ⟨k, hk, e⟩
        · rw [hap, e]
        · rw [hap, e, ← hap]
          have hka : k < (x ++ 61 :: y).length := by omega
          have : ¬ (((x ++ 61 :: y) ++ 93 :: w)[k]? = some 61 ∧ pair = true) := by
            rintro ⟨e, _⟩
            rw [hap, List.getElem?_append_left hk] at e
            exact hx (List.mem_of_getElem? e)
          simp only [if_neg this, chk_lt k hka]

/-- What comes behind the byte or the two bytes of a symbol that may have brackets. -/
theorem part38 {s pre u : Str} (hs : s = pre ++ u) (hl : s.length ≤ 1000000) (pair : Bool) : ((guardO (decide ((pre.length : Int) < (s.length : Int))) (sidx s (pre.length : Int))).bind fun c17 =>
    bif (decide ((pre.length : Int) < (s.length : Int)) && decide (c17 = 91)) then (F56 s (pre.length : Int) pair).bind fun r21 => some r21 else some (pre.length : Int)) =
    some (if ([91] : Str).isPrefixOf u = true then (if brk u pair = 0 then -1 else ((pre.length + brk u pair : Nat) : Int)) else (pre.length : Int)) := by
  have hlen : s.length = pre.length + u.length := by rw [hs]; simp
  match u, hs, hlen with
  | [], hs, hlen =>
    rw [decide_eq_false (by simp at hlen; omega)]
    simp [guardO]
  | c :: r, hs, hlen =>
    have h1 : sidx s (pre.length : Int) = some (B c) := by rw [hs]; exact sidx_mid pre c r
    have hB : decide (B c = 91) = decide (c = 91) := byte_eq c 91
    rw [decide_eq_true (by simp at hlen; omega), h1]
    simp only [guardO, cond_t, Option.bind_some, Bool.true_and, hB]
    have hp : ([91] : Str).isPrefixOf (c :: r) = decide (c = 91) := by
      rw [pre_cons]
      cases r <;> simp
    rw [hp]
    by_cases hc : c = 91
    · subst hc
      rw [decide_eq_true rfl, cond_t, if_pos rfl, F56_eq hs hl, Option.bind_some, brk_ref r pair (by simp at hlen; omega)]
      cases refB r pair with
      | none => rfl
      | some k =>
        simp only [ansM]
        rw [if_neg (by omega)]
        congr 2
        omega
    · rw [decide_eq_false hc, cond_f, if_neg (by simp)]

def symN (p : Nat) : Except Nat Str → Int
  | .ok w => ((p + w.length : Nat) : Int)
  | .error _ => -1

def twoOf (c : UInt8) : Str → Str
  | [] => []
  | d :: _ => [c, d]

theorem two_pre (a b c : UInt8) (r : Str) : decide (twoOf c r = [a, b]) = ([a, b] : Str).isPrefixOf (c :: r) := by
  match r with
  | [] =>
    rw [pre_cons, pre_nil, Bool.and_false]
    simp [twoOf]
  | d :: r =>
    rw [twoOf]
    rw [pre_cons, pre_cons]
    have : ([] : Str).isPrefixOf r = true := by cases r <;> rfl
    rw [this, Bool.and_true, ← Bool.decide_and]
    exact decide_eq_decide.2 (by simp)

def SYM15 : Str := [59, 38, 124, 40, 41, 123, 125, 60, 62, 61, 94, 96, 36, 33, 64]

theorem sym15 : ∀ c : UInt8, SYM15.contains c = (START.contains c || ([60, 62, 124] : Str).contains c) ∧ (START.contains c = true → ([60, 62, 124] : Str).contains c = false ∧ c ≠ 62) := by
  intro c
  have : ∀ k : Fin 256, SYM15.contains (UInt8.ofNat k.val) = (START.contains (UInt8.ofNat k.val) || ([60, 62, 124] : Str).contains (UInt8.ofNat k.val)) ∧ (START.contains (UInt8.ofNat k.val) = true → ([60, 62, 124] : Str).contains (UInt8.ofNat k.val) = false ∧ UInt8.ofNat k.val ≠ 62) := by decide +kernel
  have h := this ⟨c.toNat, UInt8.toNat_lt c⟩
  rwa [UInt8.ofNat_toNat] at h

theorem symB_at {w t : Str} {ws : List Str} (h : w.isPrefixOf t = true) (hl : t.length ≤ 1000000) (p : Nat) : symN p (symB (w :: ws) t) = if ([91] : Str).isPrefixOf (t.drop w.length) = true then (if brk (t.drop w.length) (!decide (w = [124])) = 0 then -1 else ((p + w.length + brk (t.drop w.length) (!decide (w = [124])) : Nat) : Int)) else ((p + w.length : Nat) : Int) := by
  obtain ⟨u, hu⟩ := List.isPrefixOf_iff_prefix.1 h
  have hd : t.drop w.length = u := by rw [← hu]; simp
  have hlen : t.length = w.length + u.length := by rw [← hu]; simp
  unfold symB
  rw [h, cond_t, hd]
  cases hb : ([91] : Str).isPrefixOf u with
  | false => rw [cond_f, if_neg (by decide)]; rfl
  | true =>
    rw [cond_t, if_pos rfl]
    match u, hb, hlen with
    | c :: r, hb, hlen =>
      have hc : c = 91 := by
        rw [pre_cons, Bool.and_eq_true, decide_eq_true_eq] at hb
        exact hb.1
      subst hc
      obtain ⟨_, h2⟩ := F51_eq r (!decide (w = [124])) (by simp at hlen; omega)
      split
      · rfl
      · simp only [symN, List.length_take]
        rw [hlen]
        congr 1
        omega

theorem F38_eq {s pre : Str} {c : UInt8} {r : Str} (hs : s = pre ++ c :: r) (hl : s.length ≤ 1000000) : F38 s (pre.length : Int) = some (symN pre.length (sym (c :: r))) := by
  have hlen : s.length = pre.length + (r.length + 1) := by rw [hs]; simp
  have h1 : sidx s (pre.length : Int) = some (B c) := by rw [hs]; exact sidx_mid pre c r
  have h0 : F38 s (pre.length : Int) = F38_j1 (pre.length : Int) s (twoOf c r) := by
    unfold F38
    rw [wrap64 (by omega) (by omega)]
    match r, hs, hlen with
    | [], hs, hlen => rw [decide_eq_false (by simp at hlen; omega), cond_f]; rfl
    | d :: r, hs, hlen =>
      rw [decide_eq_true (by simp at hlen; omega), cond_t]
      have h := sslice_part pre [c, d] r
      have e : pre ++ [c, d] ++ r = s := by rw [hs]; simp
      rw [e] at h
      have e2 : ((pre ++ [c, d]).length : Int) = (pre.length : Int) + 2 := by simp
      rw [e2] at h
      rw [h, Option.bind_some]
      rfl
  rw [h0, F38_j1]
  simp only [two_pre]
  rw [wrap64 (n := (pre.length : Int) + 2) (by omega) (by omega), wrap64 (n := (pre.length : Int) + 1) (by omega) (by omega), h1]
  unfold sym
  simp only [symA]
  cases hA : ([38, 38] : Str).isPrefixOf (c :: r) with
  | true => rw [Bool.true_or, Bool.true_or, cond_t, cond_t]; rfl
  | false =>
    rw [Bool.false_or, cond_f]
    cases hB : ([124, 124] : Str).isPrefixOf (c :: r) with
    | true => rw [Bool.true_or, cond_t, cond_t]; rfl
    | false =>
      rw [Bool.false_or, cond_f]
      cases hC : ([36, 35] : Str).isPrefixOf (c :: r) with
      | true => rw [cond_t, cond_t]; rfl
      | false =>
        rw [cond_f, cond_f, Option.bind_some]
        have e15 := F55_eq c SYM15 (by decide)
        have e3 := F55_eq c [60, 62, 124] (by decide)
        unfold SYM15 at e15
        rw [e15, Option.bind_some, e3]
        have g15 := sym15 c
        unfold SYM15 at g15
        rw [g15.1]
        have hpr : ∀ q : Str, ([] : Str).isPrefixOf q = true := fun q => by cases q <;> rfl
        have m62 : ([62] : Str).isPrefixOf (c :: r) = decide (c = 62) := by rw [pre_cons, hpr, Bool.and_true]
        have m60 : ([60] : Str).isPrefixOf (c :: r) = decide (c = 60) := by rw [pre_cons, hpr, Bool.and_true]
        have m124 : ([124] : Str).isPrefixOf (c :: r) = decide (c = 124) := by rw [pre_cons, hpr, Bool.and_true]
        have hB124 : decide (B c = 124) = decide (c = 124) := byte_eq c 124
        cases hS : START.contains c with
        | true =>
          obtain ⟨n3, n62⟩ := g15.2 hS
          have h62 : ([62, 62] : Str).isPrefixOf (c :: r) = false := by rw [pre_cons, decide_eq_false n62, Bool.false_and]
          rw [Bool.true_or, Bool.not_true, cond_f, Option.bind_some, n3, h62]
          simp only [Bool.false_and, guardO, cond_f, Option.bind_some, cond_t]
          rfl
        | false =>
          rw [Bool.false_or, cond_f]
          have s1 : s = (pre ++ [c]) ++ r := by rw [hs]; simp
          have n1 : (pre ++ [c]).length = pre.length + 1 := by simp
          cases h3 : ([60, 62, 124] : Str).contains c with
          | false =>
            have hne : c ≠ 60 ∧ c ≠ 62 ∧ c ≠ 124 := by simpa using h3
            rw [Bool.not_false, cond_t]
            simp only [symB]
            rw [m62, m60, m124, decide_eq_false hne.1, decide_eq_false hne.2.1, decide_eq_false hne.2.2, pre_cons, decide_eq_false hne.2.1, Bool.false_and, cond_f, cond_f, cond_f, cond_f]
            simp [symN]
          | true =>
            rw [Bool.not_true, cond_f, Option.bind_some]
            simp only [Bool.true_and]
            by_cases c62 : c = 62
            · subst c62
              rw [show (!decide (B (62 : UInt8) = 124)) = true by decide]
              cases h62 : ([62, 62] : Str).isPrefixOf (62 :: r) with
              | true =>
                rw [cond_t]
                rw [pre_cons] at h62
                match r, h62, hs with
                | d :: r, h62, hs =>
                  have hd : d = 62 := by
                    rw [pre_cons] at h62
                    simp at h62
                    exact h62
                  subst hd
                  have s2 : s = (pre ++ [62, 62]) ++ r := by rw [hs]; simp
                  have n2 : ((pre ++ [62, 62]).length : Int) = (pre.length : Int) + 2 := by simp
                  have hp := part38 s2 hl true
                  rw [n2] at hp
                  rw [hp, symB_at (w := [62, 62]) (by rw [pre_cons, pre_cons, hpr]; rfl) (by simp at hlen ⊢; omega)]
                  simp
              | false =>
                rw [cond_f]
                have hp := part38 s1 hl true
                have n62 : ((pre ++ [62]).length : Int) = (pre.length : Int) + 1 := by simp
                rw [n62] at hp
                rw [hp]
                have hskip : symB [[62, 62], [62], [60], [124]] (62 :: r) = symB [[62], [60], [124]] (62 :: r) := by rw [symB, h62, cond_f]
                rw [hskip, symB_at (w := [62]) (by rw [m62]; rfl) (by simp; omega)]
                simp
            · have h62 : ([62, 62] : Str).isPrefixOf (c :: r) = false := by rw [pre_cons, decide_eq_false c62, Bool.false_and]
              rw [h62, cond_f]
              have hp := part38 s1 hl (!decide (c = 124))
              have nc : ((pre ++ [c]).length : Int) = (pre.length : Int) + 1 := by simp
              rw [nc] at hp
              rw [hB124, hp]
              have hskip : symB [[62, 62], [62], [60], [124]] (c :: r) = symB [[60], [124]] (c :: r) := by rw [symB, h62, cond_f, symB, m62, decide_eq_false c62, cond_f]
              rw [hskip]
              by_cases c60 : c = 60
              · subst c60
                rw [symB_at (w := [60]) (by rw [m60]; rfl) (by simp; omega)]
                simp
              · have c124 : c = 124 := by
                  have : c = 60 ∨ c = 62 ∨ c = 124 := by simpa using h3
                  rcases this with e | e | e
                  · exact absurd e c60
                  · exact absurd e c62
                  · exact e
                subst c124
                have hskip2 : symB [[60], [124]] (124 :: r) = symB [[124]] (124 :: r) := by rw [symB, m60]; rfl
                rw [hskip2, symB_at (w := [124]) (by rw [m124]; rfl) (by simp; omega)]
                simp

/-- Where a number in brackets was to stand: the first opening bracket behind the first byte. -/
theorem symB_err : ∀ (ws : List Str) (c : UInt8) (r : Str) (e : Nat), (∀ w ∈ ws, w ≠ [] ∧ (91 : UInt8) ∉ w) → symB ws (c :: r) = .error e → ∃ w u, c :: r = w ++ 91 :: u ∧ e = w.length ∧ 1 ≤ e ∧ (91 : UInt8) ∉ w
  | [], c, r, e, _, h => by simp [symB] at h
  | w :: ws, c, r, e, hw, h => by
    unfold symB at h
    cases hv : w.isPrefixOf (c :: r) with
    | false =>
      rw [hv, cond_f] at h
      exact symB_err ws c r e (fun v hv => hw v (List.mem_cons_of_mem _ hv)) h
    | true =>
      rw [hv, cond_t] at h
      obtain ⟨u, hu⟩ := List.isPrefixOf_iff_prefix.1 hv
      have hd : (c :: r).drop w.length = u := by rw [← hu]; simp
      rw [hd] at h
      cases hb : ([91] : Str).isPrefixOf u with
      | false => rw [hb, cond_f] at h; cases h
      | true =>
        rw [hb, cond_t] at h
        split at h
        · injection h with h
          match u, hb, hu with
          | d :: u, hb, hu =>
            have hdd : d = 91 := by
              rw [pre_cons, Bool.and_eq_true, decide_eq_true_eq] at hb
              exact hb.1
            subst hdd
            obtain ⟨h1, h2⟩ := hw w (by simp)
            exact ⟨w, u, hu.symm, h.symm, by rw [← h]; exact List.length_pos_iff.2 h1, h2⟩
        · cases h

theorem sym_err {c : UInt8} {r : Str} {e : Nat} (h : sym (c :: r) = .error e) : ∃ w u, c :: r = w ++ 91 :: u ∧ e = w.length ∧ 1 ≤ e ∧ (91 : UInt8) ∉ w := by
  unfold sym at h
  simp only [symA] at h
  cases hA : ([38, 38] : Str).isPrefixOf (c :: r) with
  | true => rw [hA, cond_t] at h; cases h
  | false =>
    rw [hA, cond_f] at h
    cases hB : ([124, 124] : Str).isPrefixOf (c :: r) with
    | true => rw [hB, cond_t] at h; cases h
    | false =>
      rw [hB, cond_f] at h
      cases hC : ([36, 35] : Str).isPrefixOf (c :: r) with
      | true => rw [hC, cond_t] at h; cases h
      | false =>
        rw [hC, cond_f] at h
        cases hS : START.contains c with
        | true => rw [hS, cond_t] at h; cases h
        | false =>
          rw [hS, cond_f] at h
          exact symB_err _ c r e (by decide) h

theorem j2_err (s : Str) (a e : Int) (nm : Bool) {c : Int} (hc : c ≠ 0) (off : Int) (l : List Token) (ns : List Str) : F6_j2 ns s l (a, e, nm, c, off) = some ([], off, c) := by
  have h3 : F6_j3 l (a, e, nm, c, off) = some ([], off, c) := by
    rw [F6_j3, decide_eq_false hc]
    rfl
  rw [F6_j2]
  by_cases h0 : 0 < ns.length
  · rw [decide_eq_true (by omega), cond_t, F19_1 _ _ _ hc, Option.bind_some]
    exact h3
  · rw [decide_eq_false (by omega), cond_f, h3]

/-- Nothing more is read after an error. -/
theorem halt6 (s : Str) (n : Nat) (a e : Int) (nm : Bool) {c : Int} (hc : c ≠ 0) (off : Int) (l : List Token) (ns : List Str) : iter (F6_b1 s) (n + 1) (a, e, nm, c, off, l, ns) = some ([], off, c) := by
  show F6_b1 s _ _ = _
  rw [F6_b1, decide_eq_false hc, Bool.false_and, cond_f]
  cases nm with
  | true =>
    rw [cond_t, F19_1 _ _ _ hc, Option.bind_some]
    exact j2_err s _ _ _ hc off l ns
  | false => rw [cond_f, j2_err s _ _ _ hc off l ns]

theorem cmtLoop {s : Str} (hl : s.length ≤ 1000000) (nm : Bool) (x off : Int) (l : List Token) (ns : List Str) : ∀ (a pre rest : Str) (n : Nat), (10 : UInt8) ∉ a → s = pre ++ (a ++ rest) → (rest = [] ∨ nl rest = true) → a.length < n →
    iter (F18_b1 s nm x off l ns) n (pre.length : Int) = some (true, ((pre.length + a.length : Nat) : Int), -1, nm, x, off, l, ns)
  | [], pre, rest, n, ha, hs, hr, hn => by
    match n, hn with
    | n + 1, hn =>
      have hlen : s.length = pre.length + rest.length := by rw [hs]; simp
      show F18_b1 s _ _ _ _ _ _ _ = _
      rw [F18_b1]
      match rest, hr, hs, hlen with
      | [], hr, hs, hlen =>
        rw [decide_eq_false (by simp at hlen; omega)]
        rfl
      | c :: r, hr, hs, hlen =>
        have hc : c = 10 := by
          rcases hr with h | h
          · cases h
          · simpa [nl] using h
        subst hc
        have h1 : sidx s (pre.length : Int) = some (B 10) := by rw [hs]; exact sidx_mid pre 10 r
        rw [decide_eq_true (by simp at hlen; omega), h1]
        rfl
  | c :: a, pre, rest, n, ha, hs, hr, hn => by
    match n, hn with
    | n + 1, hn =>
      have hlen : s.length = pre.length + (a.length + 1 + rest.length) := by rw [hs]; simp; omega
      simp only [List.mem_cons, not_or] at ha
      have h1 : sidx s (pre.length : Int) = some (B c) := by rw [hs]; exact sidx_mid pre c (a ++ rest)
      show F18_b1 s _ _ _ _ _ _ _ = _
      rw [F18_b1, decide_eq_true (by omega), h1]
      simp only [guardO, cond_t, Option.bind_some, Bool.true_and, B10]
      rw [decide_eq_false (fun e => ha.1 e.symm), Bool.not_false, cond_t, wrap64 (by omega) (by omega)]
      have h := cmtLoop hl nm x off l ns a (pre ++ [c]) rest n ha.2 (by rw [hs]; simp) hr (by simp at hn; omega)
      have e1 : ((pre ++ [c]).length : Int) = (pre.length : Int) + 1 := by simp
      rw [e1] at h
      rw [h]
      simp
      omega

theorem openLoop {s : Str} (hl : s.length ≤ 1000000) (p e : Int) (nm : Bool) (off : Int) (l : List Token) (ns : List Str) : ∀ (a pre rest : Str) (n : Nat), (91 : UInt8) ∉ a → s = pre ++ (a ++ 91 :: rest) → a.length < n →
    iter (F18_b2 s p e nm 0 off l ns) n (pre.length : Int) = some (true, p, e, nm, 47, ((pre.length + a.length : Nat) : Int), l, ns)
  | [], pre, rest, n, ha, hs, hn => by
    match n, hn with
    | n + 1, hn =>
      have h1 : sidx s (pre.length : Int) = some (B 91) := by rw [hs]; exact sidx_mid pre 91 rest
      show F18_b2 s _ _ _ _ _ _ _ _ _ = _
      rw [F18_b2, h1]
      rfl
  | c :: a, pre, rest, n, ha, hs, hn => by
    match n, hn with
    | n + 1, hn =>
      have hlen : s.length = pre.length + (a.length + 1 + (rest.length + 1)) := by rw [hs]; simp; omega
      simp only [List.mem_cons, not_or] at ha
      have h1 : sidx s (pre.length : Int) = some (B c) := by rw [hs]; exact sidx_mid pre c (a ++ 91 :: rest)
      have hB : decide (B c = 91) = decide (c = 91) := byte_eq c 91
      show F18_b2 s _ _ _ _ _ _ _ _ _ = _
      rw [F18_b2, h1, Option.bind_some, hB, decide_eq_false (fun e => ha.1 e.symm), Bool.not_false, cond_t, wrap64 (by omega) (by omega)]
      have h := openLoop hl p e nm off l ns a (pre ++ [c]) rest n ha.2 (by rw [hs]; simp) (by simp at hn; omega)
      have e1 : ((pre ++ [c]).length : Int) = (pre.length : Int) + 1 := by simp
      rw [e1] at h
      rw [h]
      simp
      omega

theorem lastWord_push {l l' : List Token} {u : Token} (h : push l u = .ok l') : lastWord l' = decide (u.kind_ = 1) := by
  rw [(push_ok h).1]
  simp [lastWord]

theorem lastWord_hat {l l' : List Token} {u : Token} {tc : Bool} (h : hat l u tc = .ok l') : lastWord l' = decide (u.kind_ = 1) := by
  unfold hat at h
  cases hh : hats u tc with
  | false => rw [hh, cond_f] at h; exact lastWord_push h
  | true =>
    rw [hh, cond_t] at h
    split at h
    · cases h
    · exact lastWord_push h

theorem F39_t (a : Int) (nm : Bool) (off : Int) (l : List Token) (ns : List Str) : F39 a a nm 0 off l ns = (match push l ⟨2, a, [94], []⟩ with
    | .ok l' => some (a, a, nm, 0, off, l')
    | .error (q, c) => some (a, a, nm, c, q, l)) := by
  unfold F39
  rw [decide_eq_true rfl, cond_t, F35_eq]
  cases push l ⟨2, a, [94], []⟩ with
  | ok l' => rfl
  | error y => rcases y with ⟨q, c⟩; rfl

theorem F39_f {a e : Int} (h : e ≠ a) (nm : Bool) (off : Int) (l : List Token) (ns : List Str) : F39 a e nm 0 off l ns = some (a, e, nm, 0, off, l) := by
  unfold F39
  rw [decide_eq_false h, cond_f]

/-- A word put, with what joins it to the word ahead. -/
theorem putW (p : Nat) (e : Int) (off : Int) (l : List Token) (ns : List Str) (x q : Str) (tc : Bool) (he : decide (e = (p : Int)) = tc) :
    match hat l ⟨1, p, x, q⟩ tc with
    | .ok l1 => ((F39 (p : Int) e false 0 off l ns).bind fun (at141, end142, name143, e144, off145, o146) => F35 at141 end142 name143 e144 off145 (Token.mk 1 (p : Int) x q) o146 ns) = some ((p : Int), e, false, 0, off, l1)
    | .error (q', c) => ∃ l', ((F39 (p : Int) e false 0 off l ns).bind fun (at141, end142, name143, e144, off145, o146) => F35 at141 end142 name143 e144 off145 (Token.mk 1 (p : Int) x q) o146 ns) = some ((p : Int), e, false, c, q', l') := by
  have hh : hats ⟨1, p, x, q⟩ tc = tc := by
    unfold hats
    cases tc <;> rfl
  unfold hat
  rw [hh]
  cases tc with
  | false =>
    rw [cond_f, F39_f (of_decide_eq_false he), Option.bind_some]
    dsimp only
    rw [F35_eq]
    cases push l ⟨1, (p : Int), x, q⟩ with
    | ok l1 => rfl
    | error y => rcases y with ⟨a, b⟩; exact ⟨_, rfl⟩
  | true =>
    have he' := of_decide_eq_true he
    subst he'
    rw [cond_t, F39_t]
    cases hp : push l ⟨2, (p : Int), [94], []⟩ with
    | error y =>
      rcases y with ⟨a, b⟩
      dsimp only
      rw [Option.bind_some]
      dsimp only
      exact F35_err _ _ _ (push_c hp) _ _ _ _
    | ok l1 =>
      dsimp only
      rw [Option.bind_some]
      dsimp only
      rw [F35_eq]
      cases push l1 ⟨1, (p : Int), x, q⟩ with
      | ok l2 => rfl
      | error y => rcases y with ⟨a, b⟩; exact ⟨_, rfl⟩

/-- A symbol put. -/
theorem putS {s pre w u : Str} {c : UInt8} {w' : Str} (hw : w = c :: w') (hs : s = pre ++ (w ++ u)) (hl : s.length ≤ 1000000) (e : Int) (off : Int) (l : List Token) (ns : List Str) (tc : Bool) (he : decide (e = (pre.length : Int)) = tc) :
    match hat l ⟨2, pre.length, w, []⟩ tc with
    | .ok l1 => (bif (decide (B c = 36) || decide (B c = 96)) then
        (F39 (pre.length : Int) e false 0 off l ns).bind fun (at120, end121, name122, e123, off124, o125) => F18_j3 s ((pre.length + w.length : Nat) : Int) ns (o125, at120, end121, name122, e123, off124)
      else F18_j3 s ((pre.length + w.length : Nat) : Int) ns (l, (pre.length : Int), e, false, 0, off)) = some (true, ((pre.length + w.length : Nat) : Int), -1, decide (c = 36), 0, off, l1, ns)
    | .error (q, cc) => ∃ l', (bif (decide (B c = 36) || decide (B c = 96)) then
        (F39 (pre.length : Int) e false 0 off l ns).bind fun (at120, end121, name122, e123, off124, o125) => F18_j3 s ((pre.length + w.length : Nat) : Int) ns (o125, at120, end121, name122, e123, off124)
      else F18_j3 s ((pre.length + w.length : Nat) : Int) ns (l, (pre.length : Int), e, false, 0, off)) = some (true, ((pre.length + w.length : Nat) : Int), -1, decide (c = 36), cc, q, l', ns) := by
  have h36 : decide (B c = 36) = decide (c = 36) := byte_eq c 36
  have h96 : decide (B c = 96) = decide (c = 96) := byte_eq c 96
  have hsl : sslice s (pre.length : Int) ((pre.length + w.length : Nat) : Int) = some w := by
    have h := sslice_part pre w u
    rw [List.append_assoc, ← hs, List.length_append] at h
    exact h
  have h1 : sidx s (pre.length : Int) = some (B c) := by rw [hs, hw]; exact sidx_mid pre c (w' ++ u)
  have j0 : ∀ (l0 : List Token) (e0 : Int), F18_j3 s ((pre.length + w.length : Nat) : Int) ns (l0, (pre.length : Int), e0, false, 0, off) = (match push l0 ⟨2, pre.length, w, []⟩ with
      | .ok l1 => some (true, ((pre.length + w.length : Nat) : Int), -1, decide (c = 36), 0, off, l1, ns)
      | .error (q, cc) => some (true, ((pre.length + w.length : Nat) : Int), -1, decide (c = 36), cc, q, l0, ns)) := by
    intro l0 e0
    rw [F18_j3, hsl, Option.bind_some, F35_eq]
    cases push l0 ⟨2, (pre.length : Int), w, []⟩ with
    | ok l1 =>
      dsimp only
      rw [Option.bind_some]
      dsimp only
      rw [h1, Option.bind_some, h36]
    | error y =>
      rcases y with ⟨q, cc⟩
      dsimp only
      rw [Option.bind_some]
      dsimp only
      rw [h1, Option.bind_some, h36]
  have j1 : ∀ (l0 : List Token) (e0 : Int) (cc q : Int), cc ≠ 0 → ∃ l', F18_j3 s ((pre.length + w.length : Nat) : Int) ns (l0, (pre.length : Int), e0, false, cc, q) = some (true, ((pre.length + w.length : Nat) : Int), -1, decide (c = 36), cc, q, l', ns) := by
    intro l0 e0 cc q hcc
    obtain ⟨l', hl'⟩ := F35_err (pre.length : Int) e0 false hcc q (Token.mk 2 (pre.length : Int) w []) l0 ns
    refine ⟨l', ?_⟩
    rw [F18_j3, hsl, Option.bind_some, hl', Option.bind_some]
    dsimp only
    rw [h1, Option.bind_some, h36]
  have hh : hats ⟨2, pre.length, w, []⟩ tc = (tc && (decide (c = 36) || decide (c = 96))) := by
    subst hw
    show (tc && (decide ((2 : Int) = 1) || (decide ((2 : Int) = 2) && ([36, 96] : Str).contains c))) = _
    rw [decide_eq_false (by decide), decide_eq_true rfl, Bool.false_or, Bool.true_and]
    congr 1
    simp
  rw [h36, h96]
  unfold hat
  rw [hh]
  cases hc : decide (c = 36) || decide (c = 96) with
  | false =>
    rw [Bool.and_false, cond_f, cond_f, j0]
    cases push l ⟨2, (pre.length : Int), w, []⟩ with
    | ok l1 => rfl
    | error y => rcases y with ⟨a, b⟩; exact ⟨_, rfl⟩
  | true =>
    rw [Bool.and_true, cond_t]
    cases tc with
    | false =>
      rw [cond_f, F39_f (of_decide_eq_false he), Option.bind_some]
      dsimp only
      rw [j0]
      cases push l ⟨2, (pre.length : Int), w, []⟩ with
      | ok l1 => rfl
      | error y => rcases y with ⟨a, b⟩; exact ⟨_, rfl⟩
    | true =>
      have he' := of_decide_eq_true he
      subst he'
      rw [cond_t, F39_t]
      cases hp : push l ⟨2, (pre.length : Int), [94], []⟩ with
      | error y =>
        rcases y with ⟨a, b⟩
        dsimp only
        rw [Option.bind_some]
        dsimp only
        exact j1 _ _ _ _ (push_c hp)
      | ok l1 =>
        dsimp only
        rw [Option.bind_some]
        dsimp only
        rw [j0]
        cases push l1 ⟨2, (pre.length : Int), w, []⟩ with
        | ok l2 => rfl
        | error y => rcases y with ⟨a, b⟩; exact ⟨_, rfl⟩

theorem sym36 {r w' : Str} (h : sym (36 :: r) = .ok (36 :: w')) : w' = [] ∨ w' = [35] := by
  have hpr : ∀ q : Str, ([] : Str).isPrefixOf q = true := fun q => by cases q <;> rfl
  unfold sym at h
  simp only [symA, pre_cons] at h
  rw [decide_eq_false (by decide), decide_eq_false (by decide), Bool.false_and, cond_f, Bool.false_and, cond_f, decide_true, Bool.true_and] at h
  cases hr : ([35] : Str).isPrefixOf r with
  | true =>
    rw [hr, cond_t] at h
    injection h with h
    injection h with _ h
    exact .inr h.symm
  | false =>
    rw [hr, cond_f, show START.contains 36 = true by decide, cond_t] at h
    injection h with h
    injection h with _ h
    exact .inl h.symm

theorem blanks6 {s : Str} (hl : s.length ≤ 1000000) (off : Int) (l : List Token) (ns : List Str) : ∀ (k : Nat) (t pre : Str) (n : Nat) (e : Int), t.length ≤ k → s = pre ++ t → t.length + 1 < n →
    ∃ n', (t.drop (blankN t)).length + 1 < n' ∧ iter (F6_b1 s) n ((pre.length : Int), e, false, 0, off, l, ns) = iter (F6_b1 s) n' (((pre.length + blankN t : Nat) : Int), (if blankN t = 0 then e else -1), false, 0, off, l, ns) := by
  intro k
  induction k with
  | zero =>
    intro t pre n e ht hs hn
    have : t = [] := List.length_eq_zero_iff.1 (by omega)
    subst this
    exact ⟨n, hn, rfl⟩
  | succ k ih =>
    intro t pre n e ht hs hn
    match t, ht, hs, hn with
    | [], ht, hs, hn => exact ⟨n, hn, rfl⟩
    | c :: r, ht, hs, hn =>
      match n, hn with
      | n + 1, hn =>
        have hlen : s.length = pre.length + (r.length + 1) := by rw [hs]; simp
        simp only [List.length_cons] at ht hn
        have step : ∀ g : Int, gap c r = g → 0 < g → g ≤ 2 → F6_b1 s (iter (F6_b1 s) n) ((pre.length : Int), e, false, 0, off, l, ns) = iter (F6_b1 s) n ((pre.length : Int) + g, -1, false, 0, off, l, ns) := by
          intro g hg h0 h2
          rw [F6_b1, decide_eq_true (p := (0 : Int) = 0) rfl, decide_eq_true (p := (pre.length : Int) < (s.length : Int)) (by omega), Bool.and_self, cond_t]
          unfold F18
          rw [cond_f, F34_eq hs hl, Option.bind_some, hg, decide_eq_true h0, cond_t, wrap64 (by omega) (by omega), Option.bind_some]
          dsimp only
          rw [cond_t]
        rcases gap_cases c r with ⟨h1, h2⟩ | ⟨r', rfl, h1, h2⟩ | ⟨h1, h2⟩
        · obtain ⟨n', h3, h4⟩ := ih r (pre ++ [c]) n (-1) (by omega) (by rw [hs]; simp) (by omega)
          have e1 : ((pre ++ [c]).length : Int) = (pre.length : Int) + 1 := by simp
          have e2 : (pre ++ [c]).length = pre.length + 1 := by simp
          refine ⟨n', ?_, ?_⟩
          · rw [h2, Nat.add_comm 1, List.drop_succ_cons]
            exact h3
          · show F6_b1 s _ _ = _
            rw [step 1 h1 (by decide) (by decide)]
            rw [e1, e2] at h4
            have : (if blankN r = 0 then (-1 : Int) else -1) = -1 := by split <;> rfl
            rw [h4, this, h2, if_neg (by omega), Nat.add_assoc]
        · simp only [List.length_cons] at ht hn hlen
          obtain ⟨n', h3, h4⟩ := ih r' (pre ++ [c, 10]) n (-1) (by omega) (by rw [hs]; simp) (by omega)
          have e1 : ((pre ++ [c, 10]).length : Int) = (pre.length : Int) + 2 := by simp
          have e2 : (pre ++ [c, 10]).length = pre.length + 2 := by simp
          refine ⟨n', ?_, ?_⟩
          · rw [h2, Nat.add_comm 2, List.drop_succ_cons, List.drop_succ_cons]
            exact h3
          · show F6_b1 s _ _ = _
            rw [step 2 h1 (by decide) (by decide)]
            rw [e1, e2] at h4
            have : (if blankN r' = 0 then (-1 : Int) else -1) = -1 := by split <;> rfl
            rw [h4, this, h2, if_neg (by omega), Nat.add_assoc]
        · refine ⟨n + 1, ?_, ?_⟩
          · rw [h2]
            simp
            omega
          · rw [h2, if_pos rfl]
            rfl

theorem here_last {p : Nat} {t : Str} {l l' : List Token} {ns ns' : List Str} {m : Nat} (h : here p t l ns = .ok (l', ns', m)) : lastWord l' = false := by
  unfold here at h
  split at h
  · cases h
  · rename_i x q m' _
    cases hm : decide (m' = 0) with
    | true => rw [hm, cond_t] at h; cases h
    | false =>
      rw [hm, cond_f] at h
      cases hp : push l ⟨4, p, x, q⟩ with
      | error y => rw [hp] at h; cases h
      | ok l1 =>
        rw [hp] at h
        injection h with h
        injection h with h _
        subst h
        rw [lastWord_push hp]
        rfl

theorem loop6 {s : Str} (hl : s.length ≤ 100000) : ∀ (k : Nat) (t pre : Str) (n : Nat) (e off : Int) (l : List Token) (ns : List Str), t.length < k → s = pre ++ t → t.length + 1 < n → l.length ≤ 1024 → ns.length + t.length ≤ 1000000 →
    (t = [] ∨ nl t = true ∨ decide (e = (pre.length : Int)) = lastWord l) → ans10 (lex k pre.length t l ns) (iter (F6_b1 s) n ((pre.length : Int), e, false, 0, off, l, ns)) := by
  intro k
  induction k with
  | zero => intro t pre n e off l ns hk; omega
  | succ k ih =>
    intro t pre n e off l ns hk hs hn hll hns hE
    have hlen : s.length = pre.length + t.length := by rw [hs]; simp
    have hl6 : s.length ≤ 1000000 := by omega
    have hb := blankN_le t.length t (Nat.le_refl _)
    have hz := blankN_drop t.length t (Nat.le_refl _)
    obtain ⟨n', hn', hit⟩ := blanks6 hl6 off l ns t.length t pre n e (Nat.le_refl _) hs hn
    have s2 : s = (pre ++ t.take (blankN t)) ++ t.drop (blankN t) := by rw [hs, List.append_assoc, List.take_append_drop]
    have n2 : (pre ++ t.take (blankN t)).length = pre.length + blankN t := by simp; omega
    have hdl : (t.drop (blankN t)).length = t.length - blankN t := by simp
    have hT : ∀ c r, t.drop (blankN t) = c :: r → c ≠ 10 → decide ((if blankN t = 0 then e else -1) = ((pre.length + blankN t : Nat) : Int)) = (lastWord l && decide (blankN t = 0)) := by
      intro c r hcr hc
      by_cases h0 : blankN t = 0
      · rw [h0] at hcr ⊢
        rw [List.drop_zero] at hcr
        rw [if_pos rfl, decide_eq_true (p := (0 : Nat) = 0) rfl, Bool.and_true, Nat.add_zero]
        rcases hE with h | h | h
        · rw [h] at hcr; cases hcr
        · rw [hcr] at h
          exact absurd (by simpa [nl] using h) hc
        · exact h
      · rw [if_neg h0, decide_eq_false h0, Bool.and_false]
        exact decide_eq_false (by omega)
    rw [hit, lex]
    generalize (if blankN t = 0 then e else (-1 : Int)) = e' at *
    generalize blankN t = b at *
    generalize t.drop b = t' at *
    clear hit
    match n', hn' with
    | n' + 1, hn' =>
      show ans10 _ (F6_b1 s _ _)
      match t', s2, hz, hdl, hn', hT with
      | [], s2, hz, hdl, hn', hT =>
        have hat : (s.length : Int) = ((pre.length + b : Nat) : Int) := by simp at hdl; omega
        rw [F6_b1, decide_eq_false (p := ((pre.length + b : Nat) : Int) < (s.length : Int)) (by omega), Bool.and_false, cond_f, cond_f, F6_j2]
        dsimp only
        by_cases h0 : 0 < ns.length
        · rw [decide_eq_true h0, cond_t, decide_eq_true (by omega), cond_t, F19_0, Option.bind_some]
          dsimp only
          rw [F6_j3, hat]
          exact ⟨rfl, by decide⟩
        · rw [decide_eq_false h0, cond_f, decide_eq_false (by omega), cond_f]
          exact rfl
      | c :: r, s2, hz, hdl, hn', hT =>
        have hlt : ((pre.length + b : Nat) : Int) < (s.length : Int) := by simp at hdl; omega
        have h0 : sidx s ((pre.length + b : Nat) : Int) = some (B c) := by
          have h := sidx_mid (pre ++ t.take b) c r
          rw [← s2, n2] at h
          exact h
        have cut : ∀ m, m ≤ (c :: r).length → s = (pre ++ t.take b ++ (c :: r).take m) ++ (c :: r).drop m ∧ (pre ++ t.take b ++ (c :: r).take m).length = pre.length + b + m := by
          intro m hm
          refine ⟨by rw [List.append_assoc (pre ++ t.take b), List.take_append_drop]; exact s2, ?_⟩
          rw [List.length_append, n2, List.length_take]
          omega
        have hF34 := F34_0 s2 hl6 hz
        rw [n2] at hF34
        rw [F6_b1, decide_eq_true (p := (0 : Int) = 0) rfl, decide_eq_true hlt, Bool.and_self, cond_t]
        have h18 : F18 s ((pre.length + b : Nat) : Int) e' false 0 off l ns = (bif decide (c = 35) then iter (F18_b1 s false 0 off l ns) BIG ((pre.length + b : Nat) : Int) else
            (bif decide (c = 10) then
              (F35 ((pre.length + b : Nat) : Int) e' false 0 off (Token.mk 3 ((pre.length + b : Nat) : Int) [10] []) l ns).bind fun (at45, end46, name47, e48, off49, o50) =>
              (F36 s (IntKind.wrap .i64 (at45 + 1)) (-1) name47 e48 off49 o50 ns).bind fun (at54, end55, name56, e57, off58) =>
              some (false, at54, end55, name56, e57, off58, o50, ns)
            else (bif ([60, 60] : Str).isPrefixOf (c :: r) then
              (F37 s ((pre.length + b : Nat) : Int) e' false 0 off l ns).bind fun (at66, end67, name68, e69, off70, o71, o72) =>
              some (true, at66, end67, name68, e69, off70, o71, o72)
            else
              (bif decide (symN (pre.length + b) (sym (c :: r)) < 0) then
                iter (F18_b2 s ((pre.length + b : Nat) : Int) e' false 0 off l ns) BIG (IntKind.wrap .i64 (((pre.length + b : Nat) : Int) + 1))
              else
                (bif decide (((pre.length + b : Nat) : Int) < symN (pre.length + b) (sym (c :: r))) then
                  (bif (decide (B c = 36) || decide (B c = 96)) then
                    (F39 ((pre.length + b : Nat) : Int) e' false 0 off l ns).bind fun (at120, end121, name122, e123, off124, o125) =>
                    F18_j3 s (symN (pre.length + b) (sym (c :: r))) ns (o125, at120, end121, name122, e123, off124)
                  else
                    F18_j3 s (symN (pre.length + b) (sym (c :: r))) ns (l, ((pre.length + b : Nat) : Int), e', false, 0, off))
                else
                  (F40 s ((pre.length + b : Nat) : Int)).bind fun r129 =>
                  (bif !r129.ok_ then
                    (F19 ((pre.length + b : Nat) : Int) e' false 0 off 48 r129.to_ l ns).bind fun (at133, end134, name135, e136, off137) =>
                    some (true, at133, end134, name135, e136, off137, l, ns)
                  else
                    (F39 ((pre.length + b : Nat) : Int) e' false 0 off l ns).bind fun (at141, end142, name143, e144, off145, o146) =>
                    (F35 at141 end142 name143 e144 off145 (Token.mk 1 ((pre.length + b : Nat) : Int) r129.text_ r129.quoted_) o146 ns).bind fun (at150, end151, name152, e153, off154, o155) =>
                    some (true, r129.to_, r129.to_, name152, e153, off154, o155, ns))))))) := by
          unfold F18
          rw [cond_f, hF34, Option.bind_some, decide_eq_false (p := (0 : Int) < 0) (by decide), cond_f, h0, Option.bind_some, B35, B10]
          have h38 := F38_eq s2 hl6
          rw [n2] at h38
          rw [wrap64 (n := ((pre.length + b : Nat) : Int) + 2) (by omega) (by omega), h38, Option.bind_some]
          have hg : ∃ x, (guardO (decide (((pre.length + b : Nat) : Int) + 2 ≤ (s.length : Int))) (sslice s ((pre.length + b : Nat) : Int) (((pre.length + b : Nat) : Int) + 2))) = some x ∧ (decide (((pre.length + b : Nat) : Int) + 2 ≤ (s.length : Int)) && decide (x = [60, 60])) = ([60, 60] : Str).isPrefixOf (c :: r) := by
            match r, s2, hdl with
            | [], s2, hdl =>
              rw [decide_eq_false (by simp at hdl; omega)]
              refine ⟨_, rfl, ?_⟩
              rw [pre_cons, pre_nil, Bool.and_false]
              rfl
            | d :: r, s2, hdl =>
              have h := sslice_part (pre ++ t.take b) [c, d] r
              have ee : pre ++ t.take b ++ [c, d] ++ r = s := by rw [s2]; simp
              have e2l : (pre ++ t.take b ++ [c, d]).length = pre.length + b + [c, d].length := by rw [List.length_append, n2]
              rw [ee, n2, e2l] at h
              have e3 : ((pre.length + b + [c, d].length : Nat) : Int) = ((pre.length + b : Nat) : Int) + 2 := by simp
              rw [e3] at h
              rw [decide_eq_true (by simp at hdl; omega), h]
              exact ⟨[c, d], rfl, two_pre 60 60 c (d :: r)⟩
          obtain ⟨x, hx, hxx⟩ := hg
          rw [hx, Option.bind_some, hxx]
        rw [h18]
        clear h18
        dsimp only
        by_cases h35 : c = 35
        · rw [decide_eq_true h35, cond_t, cond_t]
          obtain ⟨a, rest, ha, hca, hr, hcm⟩ : ∃ a rest : Str, (10 : UInt8) ∉ a ∧ c :: r = a ++ rest ∧ (rest = [] ∨ nl rest = true) ∧ cmt (c :: r) = a.length := by
            rcases firstOf 10 (c :: r) with hf | ⟨a, w, hf, ha⟩
            · exact ⟨c :: r, [], hf, by simp, .inl rfl, cmt_free hf⟩
            · exact ⟨a, 10 :: w, hf, ha, .inr rfl, by rw [ha]; exact cmt_at w hf⟩
          have hcl : (c :: r).length = a.length + rest.length := by rw [hca]; simp
          have hapos : 0 < a.length := by
            match a, hca, hr with
            | [], hca, hr =>
              rw [List.nil_append] at hca
              rw [← hca] at hr
              rcases hr with h | h
              · cases h
              · have : c = 10 := by simpa [nl] using h
                rw [h35] at this
                exact absurd this (by decide)
            | d :: a, _, _ => simp
          have hloop := cmtLoop hl6 false 0 off l ns a (pre ++ t.take b) rest BIG ha (by rw [s2, hca]) hr (by unfold BIG; omega)
          rw [n2] at hloop
          rw [hloop, Option.bind_some]
          dsimp only
          rw [cond_t, hcm]
          obtain ⟨c1, c2⟩ := cut a.length (by omega)
          have hdr : (c :: r).drop a.length = rest := by rw [hca]; simp
          have h := ih ((c :: r).drop a.length) _ n' (-1) off l ns (by rw [List.length_drop]; omega) c1 (by rw [List.length_drop]; omega) hll (by rw [List.length_drop]; omega) (by
            rw [hdr]
            rcases hr with h | h
            · exact .inl h
            · exact .inr (.inl h))
          rw [c2] at h
          exact h
        · rw [decide_eq_false h35, cond_f, cond_f]
          by_cases h10 : c = 10
          · rw [decide_eq_true h10, cond_t, cond_t, F35_eq]
            unfold nls
            cases hp : push l ⟨3, ((pre.length + b : Nat) : Int), [10], []⟩ with
            | error y =>
              rcases y with ⟨q, cc⟩
              dsimp only
              rw [Option.bind_some]
              dsimp only
              rw [F36_err _ _ _ _ (push_c hp), Option.bind_some]
              dsimp only
              rw [Option.bind_some]
              dsimp only
              rw [cond_f]
              match n', hn' with
              | n' + 1, hn' => exact ⟨halt6 s n' _ _ _ (push_c hp) _ _ _, push_c hp⟩
            | ok l1 =>
              dsimp only
              rw [Option.bind_some]
              dsimp only
              obtain ⟨c1, c2⟩ := cut 1 (by simp)
              have h36 := F36_eq c1 hl6 (-1) false off l1 ns (by omega)
              rw [c2] at h36
              rw [wrap64 (by omega) (by omega), show ((pre.length + b : Nat) : Int) + 1 = ((pre.length + b + 1 : Nat) : Int) by omega, h36]
              cases hd : docs ns ((c :: r).drop 1) with
              | error y =>
                rcases y with ⟨o, cc⟩
                have hcc : cc ≠ 0 := by rw [docs_err _ _ _ _ hd]; decide
                dsimp only
                rw [Option.bind_some]
                dsimp only
                rw [Option.bind_some]
                dsimp only
                rw [cond_f]
                match n', hn' with
                | n' + 1, hn' => exact ⟨halt6 s n' _ _ _ hcc _ _ _, hcc⟩
              | ok m =>
                have hm := docs_le _ _ _ hd
                dsimp only
                rw [Option.bind_some]
                dsimp only
                rw [Option.bind_some]
                dsimp only
                rw [cond_f]
                have hm' : m ≤ r.length := by simpa using hm
                obtain ⟨d1, d2⟩ := cut (1 + m) (by simp; omega)
                have h := ih ((c :: r).drop (1 + m)) _ n' (-1) off l1 [] (by rw [List.length_drop]; simp at hdl ⊢; omega) d1 (by rw [List.length_drop]; simp at hn' ⊢; omega) (push_ok hp).2 (by rw [List.length_drop]; simp at hdl ⊢; omega) (.inr (.inr (by
                  rw [lastWord_push hp, d2]
                  exact decide_eq_false (by omega))))
                rw [d2] at h
                rw [Nat.add_assoc (pre.length + b) 1 m]
                exact h
          · rw [decide_eq_false h10, cond_f, cond_f]
            have hTc := hT c r rfl h10
            cases h60 : ([60, 60] : Str).isPrefixOf (c :: r) with
            | true =>
              rw [cond_t, cond_t]
              have h2l := (List.isPrefixOf_iff_prefix.1 h60).length_le
              have h37 := F37_eq s2 h2l hl6 e' false off l ns (by omega)
              rw [n2] at h37
              cases hq : here (pre.length + b) (c :: r) l ns with
              | error y =>
                rcases y with ⟨q, cc⟩
                rw [hq] at h37
                obtain ⟨x1, x2, x3, x4, x5, hx⟩ := h37
                rw [hx, Option.bind_some]
                dsimp only
                rw [Option.bind_some]
                dsimp only
                rw [cond_t]
                match n', hn' with
                | n' + 1, hn' => exact ⟨halt6 s n' _ _ _ (here_err hq) _ _ _, here_err hq⟩
              | ok y =>
                rcases y with ⟨l1, ns1, m⟩
                rw [hq] at h37
                obtain ⟨g1, _, g2, g3, g4⟩ := here_ok h2l hq
                have h37' : F37 s ((pre.length + b : Nat) : Int) e' false 0 off l ns = some (((pre.length + b + m : Nat) : Int), -1, false, 0, off, l1, ns1) := h37
                rw [h37', Option.bind_some]
                dsimp only
                rw [Option.bind_some]
                dsimp only
                rw [cond_t]
                obtain ⟨c1, c2⟩ := cut m g3
                have h := ih ((c :: r).drop m) _ n' (-1) off l1 ns1 (by rw [List.length_drop]; omega) c1 (by rw [List.length_drop]; omega) g1 (by rw [List.length_drop]; omega) (.inr (.inr (by
                  rw [here_last hq, c2]
                  exact decide_eq_false (by omega))))
                rw [c2] at h
                exact h
            | false =>
              rw [cond_f, cond_f]
              cases hq : tok (pre.length + b) (c :: r) l (lastWord l && decide (b = 0)) with
              | error y =>
                rcases y with ⟨q, cc⟩
                have hcc := tok_err hq
                dsimp only
                unfold tok at hq
                cases hsy : sym (c :: r) with
                | error o =>
                  rw [hsy] at hq
                  injection hq with hq
                  injection hq with e1 e2
                  subst e1 e2
                  obtain ⟨w, u, hw1, hw2, hw3, hw4⟩ := sym_err hsy
                  match w, hw1, hw2, hw3, hw4 with
                  | d :: w, hw1, hw2, hw3, hw4 =>
                    have hd : c = d := by injection hw1
                    have hr : r = w ++ 91 :: u := by injection hw1
                    subst hd
                    rw [show symN (pre.length + b) (Except.error o) = -1 from rfl, decide_eq_true (p := (-1 : Int) < 0) (by decide), cond_t, wrap64 (by omega) (by omega)]
                    obtain ⟨c1, c2⟩ := cut 1 (by simp)
                    have hloop := openLoop hl6 ((pre.length + b : Nat) : Int) e' false off l ns w (pre ++ t.take b ++ (c :: r).take 1) u BIG (fun h => hw4 (List.mem_cons_of_mem _ h)) (by rw [c1]; simp [hr]) (by
                      have : r.length = w.length + (u.length + 1) := by rw [hr]; simp
                      simp at hdl
                      unfold BIG
                      omega)
                    rw [c2, show ((pre.length + b + 1 : Nat) : Int) = ((pre.length + b : Nat) : Int) + 1 by omega] at hloop
                    rw [hloop, Option.bind_some]
                    dsimp only
                    rw [cond_t]
                    have e3 : ((pre.length + b + 1 + w.length : Nat) : Int) = ((pre.length + b + o : Nat) : Int) := by
                      rw [hw2]
                      simp
                      omega
                    rw [e3]
                    match n', hn' with
                    | n' + 1, hn' => exact ⟨halt6 s n' _ _ _ (by decide) _ _ _, by decide⟩
                | ok w =>
                  rw [hsy] at hq
                  rw [show symN (pre.length + b) (Except.ok w) = ((pre.length + b + w.length : Nat) : Int) from rfl, decide_eq_false (p := ((pre.length + b + w.length : Nat) : Int) < 0) (by omega), cond_f]
                  match w, hsy, hq with
                  | [], hsy, hq =>
                    dsimp only at hq
                    rw [decide_eq_false (p := ((pre.length + b : Nat) : Int) < ((pre.length + b + ([] : Str).length : Nat) : Int)) (by simp), cond_f]
                    have h40 := F40_eq s2 hl6
                    rw [n2] at h40
                    cases hwd : wd (c :: r).length (c :: r) with
                    | error o =>
                      rw [hwd] at hq
                      injection hq with hq
                      injection hq with e1 e2
                      subst e1 e2
                      rw [hwd] at h40
                      have h40' : F40 s ((pre.length + b : Nat) : Int) = some ⟨[], [], ((pre.length + b + o : Nat) : Int), false⟩ := h40
                      rw [h40', Option.bind_some]
                      dsimp only
                      rw [Bool.not_false, cond_t, F19_0, Option.bind_some]
                      dsimp only
                      rw [Option.bind_some]
                      dsimp only
                      rw [cond_t]
                      match n', hn' with
                      | n' + 1, hn' => exact ⟨halt6 s n' _ _ _ (by decide) _ _ _, by decide⟩
                    | ok y =>
                      rcases y with ⟨x, y, m⟩
                      rw [hwd] at hq h40
                      have h40' : F40 s ((pre.length + b : Nat) : Int) = some ⟨x, y, ((pre.length + b + m : Nat) : Int), true⟩ := h40
                      dsimp only at hq
                      have hput := putW (pre.length + b) e' off l ns x y _ hTc
                      cases hh : hat l ⟨1, ((pre.length + b : Nat) : Int), x, y⟩ (lastWord l && decide (b = 0)) with
                      | ok l1 => rw [hh] at hq; cases hq
                      | error z =>
                        rw [hh] at hq hput
                        injection hq with hq
                        subst hq
                        obtain ⟨l', hl'⟩ := hput
                        rw [h40', Option.bind_some]
                        dsimp only
                        rw [Bool.not_true, cond_f]
                        obtain ⟨⟨y1, y2, y3, y4, y5, y6⟩, hy, hy'⟩ := Option.bind_eq_some_iff.1 hl'
                        dsimp only at hy'
                        rw [hy, Option.bind_some]
                        dsimp only
                        rw [hy', Option.bind_some]
                        dsimp only
                        rw [Option.bind_some]
                        dsimp only
                        rw [cond_t]
                        match n', hn' with
                        | n' + 1, hn' => exact ⟨halt6 s n' _ _ _ hcc _ _ _, hcc⟩
                  | d :: w, hsy, hq =>
                    obtain ⟨u, hu⟩ := sym_pre hsy
                    have hd : c = d := by injection hu with h1 _; exact h1.symm
                    subst hd
                    rw [decide_eq_true (p := ((pre.length + b : Nat) : Int) < ((pre.length + b + (c :: w).length : Nat) : Int)) (by simp; omega), cond_t]
                    have hput := putS (s := s) (pre := pre ++ t.take b) (w := c :: w) (u := u) rfl (by rw [s2, hu]) hl6 e' off l ns (lastWord l && decide (b = 0)) (by rw [n2]; exact hTc)
                    rw [n2] at hput
                    cases hh : hat l ⟨2, ((pre.length + b : Nat) : Int), c :: w, []⟩ (lastWord l && decide (b = 0)) with
                    | error z =>
                      rcases z with ⟨z1, z2⟩
                      rw [hh] at hput
                      dsimp only at hq
                      rw [hh] at hq
                      injection hq with hq
                      injection hq with e1 e2
                      subst e1 e2
                      obtain ⟨l', hl'⟩ := hput
                      rw [hl', Option.bind_some]
                      dsimp only
                      rw [cond_t]
                      match n', hn' with
                      | n' + 1, hn' => exact ⟨halt6 s n' _ _ _ hcc _ _ _, hcc⟩
                    | ok l1 =>
                      rw [hh] at hput
                      dsimp only at hq
                      rw [hh] at hq
                      dsimp only at hq
                      rw [hput, Option.bind_some]
                      dsimp only
                      rw [cond_t]
                      -- the name is at fault
                      cases hdol : decide (c :: w = [36]) || decide (c :: w = [36, 35]) with
                      | false => rw [hdol, cond_f] at hq; cases hq
                      | true =>
                        rw [hdol, cond_t] at hq
                        have hc36 : c = 36 := by
                          simp only [Bool.or_eq_true, decide_eq_true_eq] at hdol
                          rcases hdol with h | h
                          · injection h
                          · injection h
                        cases hnm : name (pre.length + b + (c :: w).length) ((c :: r).drop (c :: w).length) l1 with
                        | ok l2 => rw [hnm] at hq; cases hq
                        | error z =>
                          rcases z with ⟨z1, z2⟩
                          rw [hnm] at hq
                          injection hq with hq
                          injection hq with e1 e2
                          subst e1 e2
                          have hul : (c :: w).length ≤ (c :: r).length := by rw [← hu]; simp
                          obtain ⟨c1, c2⟩ := cut (c :: w).length hul
                          have hdu : (c :: r).drop (c :: w).length = u := by rw [← hu]; simp
                          rw [hdu] at c1 hnm
                          rw [decide_eq_true hc36]
                          match n', hn' with
                          | n' + 1, hn' =>
                            show ans10 _ (F6_b1 s _ _)
                            have hl2 : s.length = pre.length + b + (c :: w).length + u.length := by
                              rw [c1, List.length_append, c2]
                            by_cases hue : u = []
                            · subst hue
                              have hnm0 : name (pre.length + b + (c :: w).length) [] l1 = .error (((pre.length + b + (c :: w).length : Nat) : Int), 47) := rfl
                              rw [hnm0] at hnm
                              injection hnm with hnm
                              injection hnm with e1 e2
                              subst e1 e2
                              rw [F6_b1, decide_eq_false (p := ((pre.length + b + (c :: w).length : Nat) : Int) < (s.length : Int)) (by simp at hl2 ⊢; omega), Bool.and_false, cond_f, cond_t, F19_0, Option.bind_some]
                              dsimp only
                              exact ⟨j2_err s _ _ _ (by decide) _ _ _, by decide⟩
                            · have hup : 0 < u.length := List.length_pos_iff.2 hue
                              rw [F6_b1, decide_eq_true (p := (0 : Int) = 0) rfl, decide_eq_true (p := ((pre.length + b + (c :: w).length : Nat) : Int) < (s.length : Int)) (by omega), Bool.and_self, cond_t]
                              unfold F18
                              have h33 := F33_eq c1 hl6 (-1) true off l1 ns
                              rw [c2, hnm] at h33
                              dsimp only at h33
                              rw [cond_t, h33]
                              by_cases hz0 : nameN u = 0
                              · rw [if_pos hz0, Option.bind_some]
                                dsimp only
                                rw [Option.bind_some]
                                dsimp only
                                rw [cond_t]
                                match n', hn' with
                                | n' + 1, hn' => exact ⟨halt6 s n' _ _ _ hcc _ _ _, hcc⟩
                                | 0, hn' => simp at hn'; omega
                              · rw [if_neg hz0, Option.bind_some]
                                dsimp only
                                rw [Option.bind_some]
                                dsimp only
                                rw [cond_t]
                                match n', hn' with
                                | n' + 1, hn' => exact ⟨halt6 s n' _ _ _ hcc _ _ _, hcc⟩
                                | 0, hn' => simp at hn'; omega
              | ok y =>
                rcases y with ⟨l1, m⟩
                obtain ⟨g1, g2, g3⟩ := tok_ok hz h10 hq
                dsimp only
                obtain ⟨d1, d2⟩ := cut m g3
                have fin : ∀ (e2 : Int) (n2 : Nat), decide (e2 = ((pre.length + b + m : Nat) : Int)) = lastWord l1 → (c :: r).length - m + 1 < n2 → ans10 (lex k (pre.length + b + m) ((c :: r).drop m) l1 ns) (iter (F6_b1 s) n2 (((pre.length + b + m : Nat) : Int), e2, false, 0, off, l1, ns)) := by
                  intro e2 n2 he2 hn2
                  have h := ih ((c :: r).drop m) _ n2 e2 off l1 ns (by rw [List.length_drop]; omega) d1 (by rw [List.length_drop]; omega) g1 (by rw [List.length_drop]; omega) (.inr (.inr (by rw [d2]; exact he2)))
                  rw [d2] at h
                  exact h
                unfold tok at hq
                cases hsy : sym (c :: r) with
                | error o => rw [hsy] at hq; cases hq
                | ok w =>
                  rw [hsy] at hq
                  rw [show symN (pre.length + b) (Except.ok w) = ((pre.length + b + w.length : Nat) : Int) from rfl, decide_eq_false (p := ((pre.length + b + w.length : Nat) : Int) < 0) (by omega), cond_f]
                  match w, hsy, hq with
                  | [], hsy, hq =>
                    dsimp only at hq
                    rw [decide_eq_false (p := ((pre.length + b : Nat) : Int) < ((pre.length + b + ([] : Str).length : Nat) : Int)) (by simp), cond_f]
                    have h40 := F40_eq s2 hl6
                    rw [n2] at h40
                    cases hwd : wd (c :: r).length (c :: r) with
                    | error o => rw [hwd] at hq; cases hq
                    | ok y =>
                      rcases y with ⟨x, y, m'⟩
                      rw [hwd] at hq h40
                      have h40' : F40 s ((pre.length + b : Nat) : Int) = some ⟨x, y, ((pre.length + b + m' : Nat) : Int), true⟩ := h40
                      dsimp only at hq
                      have hput := putW (pre.length + b) e' off l ns x y _ hTc
                      cases hh : hat l ⟨1, ((pre.length + b : Nat) : Int), x, y⟩ (lastWord l && decide (b = 0)) with
                      | error z => rw [hh] at hq; cases hq
                      | ok l2 =>
                        rw [hh] at hq hput
                        injection hq with hq
                        injection hq with e1 e2
                        subst e1 e2
                        rw [h40', Option.bind_some]
                        dsimp only
                        rw [Bool.not_true, cond_f]
                        obtain ⟨⟨y1, y2, y3, y4, y5, y6⟩, hy, hy'⟩ := Option.bind_eq_some_iff.1 hput
                        dsimp only at hy'
                        rw [hy, Option.bind_some]
                        dsimp only
                        rw [hy', Option.bind_some]
                        dsimp only
                        rw [Option.bind_some]
                        dsimp only
                        rw [cond_t]
                        exact fin _ n' (by rw [lastWord_hat hh, decide_eq_true rfl]; rfl) (by simp at hn' g2 g3 ⊢; omega)
                  | d :: w, hsy, hq =>
                    obtain ⟨u, hu⟩ := sym_pre hsy
                    have hd : c = d := by injection hu with h1 _; exact h1.symm
                    subst hd
                    rw [decide_eq_true (p := ((pre.length + b : Nat) : Int) < ((pre.length + b + (c :: w).length : Nat) : Int)) (by simp; omega), cond_t]
                    have hput := putS (s := s) (pre := pre ++ t.take b) (w := c :: w) (u := u) rfl (by rw [s2, hu]) hl6 e' off l ns (lastWord l && decide (b = 0)) (by rw [n2]; exact hTc)
                    rw [n2] at hput
                    cases hh : hat l ⟨2, ((pre.length + b : Nat) : Int), c :: w, []⟩ (lastWord l && decide (b = 0)) with
                    | error z => dsimp only at hq; rw [hh] at hq; cases hq
                    | ok l2 =>
                      rw [hh] at hput
                      dsimp only at hq
                      rw [hh] at hq
                      dsimp only at hq
                      rw [hput, Option.bind_some]
                      dsimp only
                      rw [cond_t]
                      cases hdol : decide (c :: w = [36]) || decide (c :: w = [36, 35]) with
                      | false =>
                        rw [hdol, cond_f] at hq
                        injection hq with hq
                        injection hq with e1 e2
                        subst e1 e2
                        have hc36 : c ≠ 36 := by
                          intro h
                          subst h
                          rcases sym36 hsy with h | h
                          · subst h; simp at hdol
                          · subst h; simp at hdol
                        rw [decide_eq_false hc36]
                        exact fin _ n' (by rw [lastWord_hat hh]; exact decide_eq_false (by omega)) (by simp at hn' g2 g3 ⊢; omega)
                      | true =>
                        rw [hdol, cond_t] at hq
                        have hc36 : c = 36 := by
                          simp only [Bool.or_eq_true, decide_eq_true_eq] at hdol
                          rcases hdol with h | h
                          · injection h
                          · injection h
                        cases hnm : name (pre.length + b + (c :: w).length) ((c :: r).drop (c :: w).length) l2 with
                        | error z => rw [hnm] at hq; cases hq
                        | ok l3 =>
                          rw [hnm] at hq
                          injection hq with hq
                          injection hq with e1 e2
                          have hul : (c :: w).length ≤ (c :: r).length := by rw [← hu]; simp
                          obtain ⟨c1, c2⟩ := cut (c :: w).length hul
                          have hdu : (c :: r).drop (c :: w).length = u := by rw [← hu]; simp
                          rw [hdu] at c1 hnm e2
                          have hlw : lastWord l3 = true := by
                            unfold name at hnm
                            split at hnm
                            · cases hnm
                            · rw [lastWord_push hnm]; rfl
                          have hup : 0 < nameN u := by
                            unfold name at hnm
                            split at hnm
                            · cases hnm
                            · omega
                          have hul2 := nameN_le u
                          subst e1
                          rw [decide_eq_true hc36]
                          match n', hn' with
                          | n' + 1, hn' =>
                            show ans10 _ (F6_b1 s _ _)
                            have hl2 : s.length = pre.length + b + (c :: w).length + u.length := by
                              rw [c1, List.length_append, c2]
                            rw [F6_b1, decide_eq_true (p := (0 : Int) = 0) rfl, decide_eq_true (p := ((pre.length + b + (c :: w).length : Nat) : Int) < (s.length : Int)) (by omega), Bool.and_self, cond_t]
                            unfold F18
                            have h33 := F33_eq c1 hl6 (-1) true off l2 ns
                            rw [c2, hnm] at h33
                            have h33' : F33 s ((pre.length + b + (c :: w).length : Nat) : Int) (-1) true 0 off l2 ns = some (((pre.length + b + (c :: w).length + nameN u : Nat) : Int), ((pre.length + b + (c :: w).length + nameN u : Nat) : Int), false, 0, off, l3) := h33
                            rw [cond_t, h33', Option.bind_some]
                            dsimp only
                            rw [Option.bind_some]
                            dsimp only
                            rw [cond_t, Nat.add_assoc (pre.length + b), e2]
                            exact fin _ n' (by rw [hlw]; exact decide_eq_true rfl) (by simp at hn' g2 g3 e2 ⊢; omega)

theorem F6_eq (s : Str) (hl : s.length ≤ 65536) : ans10 (lex (s.length + 1) 0 s [] []) (F6 s) := by
  unfold F6
  rw [decide_eq_false (by omega), cond_f]
  exact loop6 (s := s) (by omega) (s.length + 1) s [] BIG (-1) 0 [] [] (by omega) rfl (by unfold BIG; omega) (by simp) (by simp; omega) (.inr (.inr rfl))

theorem law3 (s : Str) (w0 : s.length ≤ maxLen) : F3 s = some true := by
  unfold F3
  by_cases h : 3000 < s.length
  · rw [decide_eq_true (by omega), cond_t, alive]
    rfl
  · rw [decide_eq_false (by omega), cond_f]
    have h5 := F5_eq s (by omega)
    have h6 := F6_eq s (by omega)
    cases hx : lex (s.length + 1) 0 s [] [] with
    | ok l =>
      rw [hx] at h5 h6
      have h5' : F5 s = some (l, 0, 0) := h5
      have h6' : F6 s = some (l, 0, 0) := h6
      have hll := lex_len _ _ _ _ _ _ (by simp) hx
      rw [h5', h6', Option.bind_some]
      dsimp only
      rw [Option.bind_some]
      dsimp only
      rw [F7_eq l (by omega), Option.bind_some, alive]
      rfl
    | error y =>
      rcases y with ⟨q, c⟩
      rw [hx] at h5 h6
      have h5' : F5 s = some ([], q, c) := h5.1
      have h6' : F6 s = some ([], q, c) := h6.1
      rw [h5', h6', Option.bind_some]
      dsimp only
      rw [Option.bind_some]
      dsimp only
      rw [F7_eq [] (by simp), Option.bind_some, alive]
      simp [guardO]

end Go.Abs.U47
