/- The layer 47 laws, in plain Lean: a quoted word is read back as it was. -/
import Derived.Test.YtdmihmnegakgbaaDoorPH
import Derived.Lib.TrimUEq
import Derived.Lib.SplitLaws
set_option linter.unusedVariables false
set_option linter.unusedSimpArgs false
namespace Go.Abs.U47
open Go

/-! ### Plain words -/

def BAD : Str := [32, 9, 10, 59, 38, 124, 40, 41, 123, 125, 60, 62, 61, 94, 96, 36, 39, 92, 42, 63, 91]
def badc (c : UInt8) : Bool := BAD.contains c
def headc (c : UInt8) : Bool := ([35, 33, 64] : Str).contains c
def plainQ : Str → Bool
  | [] => false
  | c :: r => !headc c && (c :: r).all fun x => !badc x

theorem Bback (c : UInt8) : (B c).toNat.toUInt8 = c := by
  unfold B
  rw [Int.toNat_natCast]
  exact UInt8.ofNat_toNat

theorem idx_contains (c : UInt8) : ∀ l : Str, decide (0 ≤ Lib.indexByte l c) = l.contains c
  | [] => by simp [Lib.indexByte]
  | x :: l => by
    have ih := idx_contains c l
    have hge := Lib.indexByte_ge l c
    rw [List.contains_cons, ← ih]
    by_cases hx : x = c
    · subst hx
      simp [Lib.indexByte]
    · have hx' : (c == x) = false := by simp; exact fun e => hx e.symm
      rw [hx', Bool.false_or]
      by_cases h1 : Lib.indexByte l c = -1
      · have : Lib.indexByte (x :: l) c = -1 := by simp [Lib.indexByte, hx, h1]
        rw [this, h1]
      · have : Lib.indexByte (x :: l) c = Lib.indexByte l c + 1 := by simp [Lib.indexByte, hx, h1]
        rw [this, decide_eq_true (by omega), decide_eq_true (by omega)]

theorem idx_neg (c : UInt8) (l : Str) : decide (Lib.indexByte l c < 0) = !l.contains c := by
  rw [← idx_contains c l]
  by_cases h : (0 : Int) ≤ Lib.indexByte l c
  · rw [decide_eq_true h, decide_eq_false (by omega)]; rfl
  · rw [decide_eq_false h, decide_eq_true (by omega)]; rfl

theorem widths (n b0 b1 b2 b3 : Nat) : (1 ≤ (Lib.decodeN n b0 b1 b2 b3).2 ∧ (Lib.decodeN n b0 b1 b2 b3).2 ≤ 4) ∧ (2 ≤ (Lib.decodeN n b0 b1 b2 b3).2 → 1 < n ∧ b1 / 64 = 2) ∧ (3 ≤ (Lib.decodeN n b0 b1 b2 b3).2 → 2 < n ∧ b2 / 64 = 2) ∧ (4 ≤ (Lib.decodeN n b0 b1 b2 b3).2 → 3 < n ∧ b3 / 64 = 2) := by
  unfold Lib.decodeN
  repeat' split
  all_goals refine ⟨⟨by simp, by simp⟩, fun h => ?_, fun h => ?_, fun h => ?_⟩
  all_goals first | omega | (simp at h)

theorem rune_step (s : Str) (p : Nat) (hp : p < s.length) : p < runeN s p ∧ runeN s p ≤ s.length ∧ ∀ j, p < j → j < runeN s p → 128 ≤ (s.getD j 0).toNat := by
  unfold runeN
  rw [Lib.decode_N]
  obtain ⟨⟨h1, h2⟩, h3, h4, h5⟩ := widths (s.length - p) (s.getD p 0).toNat (s.getD (p + 1) 0).toNat (s.getD (p + 2) 0).toNat (s.getD (p + 3) 0).toNat
  show p < p + (Lib.decodeN (s.length - p) (s.getD p 0).toNat (s.getD (p + 1) 0).toNat (s.getD (p + 2) 0).toNat (s.getD (p + 3) 0).toNat).2 ∧ p + (Lib.decodeN (s.length - p) (s.getD p 0).toNat (s.getD (p + 1) 0).toNat (s.getD (p + 2) 0).toNat (s.getD (p + 3) 0).toNat).2 ≤ s.length ∧ ∀ j, p < j → j < p + (Lib.decodeN (s.length - p) (s.getD p 0).toNat (s.getD (p + 1) 0).toNat (s.getD (p + 2) 0).toNat (s.getD (p + 3) 0).toNat).2 → 128 ≤ (s.getD j 0).toNat
  generalize (Lib.decodeN (s.length - p) (s.getD p 0).toNat (s.getD (p + 1) 0).toNat (s.getD (p + 2) 0).toNat (s.getD (p + 3) 0).toNat).2 = w at *
  refine ⟨by omega, ?_, fun j h6 h7 => ?_⟩
  · rcases Nat.lt_or_ge w 2 with q | q
    · omega
    · have := (h3 q).1
      rcases Nat.lt_or_ge w 3 with q | q
      · omega
      · have := (h4 q).1
        rcases Nat.lt_or_ge w 4 with q | q
        · omega
        · have := (h5 q).1
          omega
  · rcases (by omega : j = p + 1 ∨ j = p + 2 ∨ j = p + 3) with rfl | rfl | rfl
    · have := (h3 (by omega)).2; omega
    · have := (h4 (by omega)).2; omega
    · have := (h5 (by omega)).2; omega

theorem big_ok : ∀ c : UInt8, 128 ≤ c.toNat → badc c = false := by
  intro c hc
  have : ∀ k : Fin 256, 128 ≤ k.val → badc (UInt8.ofNat k.val) = false := by decide +kernel
  have h := this ⟨c.toNat, UInt8.toNat_lt c⟩ hc
  rwa [UInt8.ofNat_toNat] at h

theorem all_skip (s : Str) : ∀ (d p : Nat), (∀ j, p ≤ j → j < p + d → 128 ≤ (s.getD j 0).toNat) → p + d ≤ s.length → (s.drop p).all (fun x => !badc x) = (s.drop (p + d)).all fun x => !badc x
  | 0, p, _, _ => rfl
  | d + 1, p, h, hl => by
    rw [drop_at (j := p) (by omega), List.all_cons]
    have h1 := h p (Nat.le_refl _) (by omega)
    have hg : s.getD p 0 = s[p]'(by omega) := by simp [List.getD, List.getElem?_eq_getElem (show p < s.length by omega)]
    rw [hg] at h1
    rw [big_ok _ h1, all_skip s d (p + 1) (fun j h2 h3 => h j (by omega) (by omega)) (by omega)]
    simp only [Bool.not_false, Bool.true_and]
    rw [show p + 1 + d = p + (d + 1) by omega]

theorem loop12 (s : Str) (hl : s.length ≤ 1000000) : iter (F12_b1 s) BIG 0 = some (s.all fun x => !badc x) := by
  refine (iter_big (α := Nat) (fun p => p ≤ s.length) (fun p => s.length - p) (fun p => some ((s.drop p).all fun x => !badc x)) ?_ 0 (Nat.zero_le _) (by omega)).trans (by simp)
  intro again p hp hag
  rw [F12_b1]
  by_cases h : p < s.length
  · have hs : sidx s (p : Int) = some (B s[p]) := sidx_at h
    rw [decide_eq_true h, cond_t, hs]
    simp only [Option.bind_some, L_IndexByte, Bback]
    rw [idx_contains]
    show (bif badc s[p] then _ else _) = _
    obtain ⟨h1, h2, h3⟩ := rune_step s p h
    rw [drop_at h, List.all_cons]
    cases hb : badc s[p] with
    | true => rfl
    | false =>
      rw [cond_f, hag (runeN s p) h2 (by omega)]
      have := all_skip s (runeN s p - (p + 1)) (p + 1) (fun j h4 h5 => h3 j (by omega) (by omega)) (by omega)
      rw [this, show p + 1 + (runeN s p - (p + 1)) = runeN s p by omega]
      rfl
  · rw [decide_eq_false h, cond_f, List.drop_eq_nil_of_le (by omega)]
    rfl

theorem F12_eq (s : Str) (hl : s.length ≤ 1000000) : F12 s = some (plainQ s) := by
  unfold F12
  rw [loop12 s hl]
  match s with
  | [] => rfl
  | c :: r =>
    have h0 : sidx (c :: r) 0 = some (B c) := sidx_mid [] c r
    rw [h0, decide_eq_false (by simp)]
    simp only [Bool.not_false, guardO, cond_t, Option.bind_some, L_IndexByte, Bback, Bool.false_or]
    rw [idx_contains]
    show (bif headc c then _ else _) = _
    cases hc : headc c <;> simp [plainQ, hc]

/-! ### The same, the other way -/

def SYM : Str := [10, 59, 38, 124, 40, 41, 123, 125, 60, 62, 61, 94, 96, 36, 39]
def ESC : Str := [92, 42, 63, 91]

theorem bad_eq : ∀ c : UInt8, badc c = ((decide (c = 32) || decide (c = 9)) || (SYM.contains c || ESC.contains c)) := by
  intro c
  have : ∀ k : Fin 256, badc (UInt8.ofNat k.val) = ((decide (UInt8.ofNat k.val = 32) || decide (UInt8.ofNat k.val = 9)) || (SYM.contains (UInt8.ofNat k.val) || ESC.contains (UInt8.ofNat k.val))) := by decide +kernel
  have h := this ⟨c.toNat, UInt8.toNat_lt c⟩
  rwa [UInt8.ofNat_toNat] at h

def G27 (c : Int) : Int → Int → Option Bool → Option Bool := fun x _ n => bif decide (x = c) then some true else n

theorem loop27 (b : UInt8) : ∀ (l : Str) (i : Int), loopR (G27 (B b)) (some false) (l.map B) i = some (l.contains b)
  | [], _ => rfl
  | x :: l, i => by
    rw [List.map_cons, loopR, G27, loop27 b l (i + 1), List.contains_cons]
    have h : decide (B x = B b) = decide (x = b) := byte_eq x b
    rw [h]
    by_cases hx : x = b
    · subst hx; simp
    · have hx' : (b == x) = false := by simp; exact fun e => hx e.symm
      rw [decide_eq_false hx, hx']
      rfl

theorem F27_eq (b : UInt8) (l : Str) (hl : l.length ≤ 1000000) : F27 (B b) l = some (l.contains b) := by
  unfold F27
  rw [iter_rangeB (body := F27_b1 l (B b)) l (G27 (B b)) (some false) (fun again i => rfl) (by omega), loop27]

def nl : Str → Bool
  | [] => false
  | d :: _ => decide (d = 10)

theorem B32 (c : UInt8) : decide (B c = 32) = decide (c = 32) := byte_eq c 32
theorem B9 (c : UInt8) : decide (B c = 9) = decide (c = 9) := byte_eq c 9
theorem B92 (c : UInt8) : decide (B c = 92) = decide (c = 92) := byte_eq c 92
theorem B10 (c : UInt8) : decide (B c = 10) = decide (c = 10) := byte_eq c 10
theorem B39 (c : UInt8) : decide (B c = 39) = decide (c = 39) := byte_eq c 39
theorem B35 (c : UInt8) : decide (B c = 35) = decide (c = 35) := byte_eq c 35

def gap (c : UInt8) (r : Str) : Int := bif decide (c = 32) || decide (c = 9) then 1 else bif decide (c = 92) && nl r then 2 else 0

theorem F41_eq {s pre : Str} {c : UInt8} {r : Str} (hs : s = pre ++ c :: r) (hl : s.length ≤ 1000000) : F41 s (pre.length : Int) = some (gap c r) := by
  have hlen : s.length = pre.length + (r.length + 1) := by rw [hs]; simp
  have h1 : sidx s (pre.length : Int) = some (B c) := by rw [hs]; exact sidx_mid pre c r
  unfold F41 gap
  rw [decide_eq_true (by omega), h1]
  simp only [guardO, cond_t, Option.bind_some, Bool.true_and, B32, B9]
  cases decide (c = 32) || decide (c = 9) with
  | true => rfl
  | false =>
    simp only [cond_f]
    rw [wrap64 (by omega) (by omega)]
    match r, hs with
    | [], hs =>
      rw [decide_eq_false (by simp at hlen; omega)]
      simp [guardO, nl]
    | d :: r, hs =>
      have h2 : sidx s ((pre.length : Int) + 1) = some (B d) := by
        have : s = (pre ++ [c]) ++ d :: r := by rw [hs]; simp
        have h := sidx_mid (pre ++ [c]) d r
        rw [← this] at h
        simpa using h
      rw [decide_eq_true (by simp at hlen; omega)]
      simp only [cond_t, Option.bind_some, Bool.true_and, B92]
      cases decide (c = 92) with
      | false => simp [guardO]
      | true =>
        simp only [cond_t, h2, Option.bind_some, B10, Bool.true_and, nl]
        cases decide (d = 10) <;> rfl

theorem F26_eq {s pre : Str} {c : UInt8} {r : Str} (hs : s = pre ++ c :: r) (hl : s.length ≤ 1000000) : F26 s (pre.length : Int) = some (decide (gap c r = 0) && !SYM.contains c) := by
  have hlen : s.length = pre.length + (r.length + 1) := by rw [hs]; simp
  have h1 : sidx s (pre.length : Int) = some (B c) := by rw [hs]; exact sidx_mid pre c r
  unfold F26
  rw [decide_eq_true (by omega), F41_eq hs hl, h1]
  simp only [guardO, cond_t, Option.bind_some, Bool.true_and]
  cases decide (gap c r = 0) with
  | false => rfl
  | true =>
    simp only [cond_t, Option.bind_some]
    have := F27_eq c SYM (by decide)
    unfold SYM at this ⊢
    rw [this]
    rfl

theorem loop13 (s : Str) (hl : s.length ≤ 1000000) (z : Bool) (hz : ((guardO (!decide (s = [])) (sidx s 0)).bind fun c18 => (guardO (!decide (s = [])) (F27 c18 [35, 33, 64])).bind fun r21 => some (!decide (s = []) && !r21)) = some z) : ∀ (t pre : Str) (n : Nat), s = pre ++ t → t.length < n → iter (F13_b1 s) n (pre.length : Int) = some ((t.all fun x => !badc x) && z)
  | _, _, 0, _, h => absurd h (Nat.not_lt_zero _)
  | [], pre, n + 1, hs, hn => by
    have hlen : s.length = pre.length := by rw [hs]; simp
    show F13_b1 s _ _ = _
    rw [F13_b1, decide_eq_false (by omega), cond_f, hz]
    rfl
  | c :: r, pre, n + 1, hs, hn => by
    have hlen : s.length = pre.length + (r.length + 1) := by rw [hs]; simp
    have h1 : sidx s (pre.length : Int) = some (B c) := by rw [hs]; exact sidx_mid pre c r
    have ih := loop13 s hl z hz r (pre ++ [c]) n (by rw [hs]; simp) (by simp at hn; omega)
    show F13_b1 s _ _ = _
    rw [F13_b1, decide_eq_true (by omega), cond_t, F26_eq hs hl, h1]
    simp only [Option.bind_some]
    rw [wrap64 (by omega) (by omega), List.all_cons, bad_eq]
    have e1 : ((pre ++ [c]).length : Int) = (pre.length : Int) + 1 := by simp
    rw [e1] at ih
    have h3 := F27_eq c ESC (by decide)
    unfold ESC at h3
    unfold gap
    cases he : decide (c = 32) || decide (c = 9) with
    | true => simp [guardO]
    | false =>
      cases hg : decide (c = 92) && nl r with
      | true =>
        have hc : c = 92 := by simp at hg; exact hg.1
        subst hc
        simp [guardO, SYM, ESC]
      | false =>
        simp only [cond_f, decide_true, Bool.true_and, Bool.false_or]
        cases hsym : SYM.contains c with
        | true => simp [guardO]
        | false =>
          simp only [Bool.not_false, guardO, cond_t, Option.bind_some, h3, Bool.not_true, Bool.false_or]
          unfold ESC
          cases hq : ([92, 42, 63, 91] : Str).contains c with
          | true => rfl
          | false =>
            rw [cond_f, ih]
            rfl

theorem F13_eq (s : Str) (hl : s.length ≤ 1000000) : F13 s = some (plainQ s) := by
  unfold F13
  match s, hl with
  | [], hl =>
    exact loop13 [] hl false rfl [] [] BIG rfl (by unfold BIG; decide)
  | c :: r, hl =>
    have h := loop13 (c :: r) hl (!headc c) (by
      have h0 : sidx (c :: r) 0 = some (B c) := sidx_mid [] c r
      rw [h0, decide_eq_false (by simp)]
      have h3 := F27_eq c [35, 33, 64] (by decide)
      simp only [Bool.not_false, guardO, cond_t, Option.bind_some, h3, Bool.true_and]
      rfl) (c :: r) [] BIG rfl (by unfold BIG; omega)
    rw [show (0 : Int) = (([] : Str).length : Int) from rfl, h, plainQ, Bool.and_comm]

/-! ### Quoting -/

/-- Quotes doubled. -/
def dbl : Str → Str
  | [] => []
  | c :: r => if c = 39 then 39 :: 39 :: dbl r else c :: dbl r

def quote (s : Str) : Str := bif plainQ s then s else 39 :: (dbl s ++ [39])

theorem dbl_len : ∀ s : Str, (dbl s).length ≤ 2 * s.length
  | [] => Nat.le_refl _
  | c :: r => by
    have := dbl_len r
    simp only [dbl]
    split <;> simp <;> omega

theorem replaceK_one (c : UInt8) (new : Str) : ∀ s : Str, Lib.replaceK [c] new (Lib.count s [c]) s = s.flatMap fun x => if x = c then new else [x]
  | [] => by
    have : Lib.count [] [c] = 0 := by rw [Lib.count_one]; rfl
    rw [this]
    rfl
  | x :: s => by
    have ih := replaceK_one c new s
    rw [List.flatMap_cons, ← ih]
    by_cases hx : x = c
    · subst hx
      rw [Lib.count_cons_eq, Nat.add_comm, Lib.replaceK_hit [x] new _ (x :: s) 0 (by rw [Lib.index_one]; simp [Lib.indexByte])]
      simp
    · rw [Lib.count_cons_ne x c s hx, if_neg hx]
      cases hk : Lib.count s [c] with
      | zero => rfl
      | succ k =>
        obtain ⟨i, hi⟩ := Lib.index_of_count (s := s) (old := [c]) (by omega)
        have h1 : Lib.index (x :: s) [c] = ((i + 1 : Nat) : Int) := by
          rw [Lib.index_one] at hi ⊢
          simp only [Lib.indexByte]
          rw [if_neg (by simpa using hx), if_neg (by rw [hi]; simp), hi]
          simp
        rw [Lib.replaceK_hit [c] new k (x :: s) (i + 1) h1, Lib.replaceK_hit [c] new k s i hi]
        simp

theorem dbl_flatMap : ∀ s : Str, (s.flatMap fun x => if x = 39 then [39, 39] else [x]) = dbl s
  | [] => rfl
  | c :: r => by
    rw [List.flatMap_cons, dbl_flatMap r, dbl]
    split <;> rfl

theorem F9_eq (s : Str) (hs : s.length ≤ 1000000) : F9 s = some (quote s) := by
  unfold F9
  rw [F12_eq s hs]
  simp only [Option.bind_some]
  unfold quote
  cases plainQ s with
  | true => rfl
  | false =>
    have hc : Lib.countB ⟨⟨s⟩⟩ ⟨⟨[39]⟩⟩ ≤ s.length := Lib.countB_le ⟨⟨[39]⟩⟩ (by decide) s.length ⟨⟨s⟩⟩ (Nat.le_refl _)
    have : Lib.replaceAll s [39] [39, 39] = Lib.replaceK [39] [39, 39] (Lib.count s [39]) s := rfl
    have hd := dbl_len s
    rw [cond_f, cond_f, L_ReplaceAll, if_pos ⟨by omega, by decide, by simp only [List.length_cons, List.length_nil]; omega⟩, this, replaceK_one, dbl_flatMap]
    simp only [Option.bind_some]
    rw [catO_eq (by simp; omega)]
    simp only [Option.bind_some]
    rw [catO_eq (by simp; omega)]
    rfl

theorem sslice_mid (pre : Str) (c : UInt8) (r : Str) : sslice (pre ++ c :: r) (pre.length : Int) ((pre.length : Int) + 1) = some [c] := by
  have h := sslice_part pre [c] r
  simpa using h

theorem loop11 (s : Str) (hl : s.length ≤ 1000000) : ∀ (t pre out : Str) (n : Nat), s = pre ++ t → t.length < n → out.length + 2 * t.length ≤ 10000000 → iter (F11_b1 s) n (out, (pre.length : Int)) = some (out ++ (dbl t ++ [39]))
  | _, _, _, 0, _, h, _ => absurd h (Nat.not_lt_zero _)
  | [], pre, out, n + 1, hs, hn, ho => by
    have hlen : s.length = pre.length := by rw [hs]; simp
    show F11_b1 s _ _ = _
    rw [F11_b1, decide_eq_false (by omega), cond_f, catO_eq (by simp at ho ⊢; omega)]
    rfl
  | c :: r, pre, out, n + 1, hs, hn, ho => by
    have hlen : s.length = pre.length + (r.length + 1) := by rw [hs]; simp
    have h1 : sidx s (pre.length : Int) = some (B c) := by rw [hs]; exact sidx_mid pre c r
    have h2 : sslice s (pre.length : Int) ((pre.length : Int) + 1) = some [c] := by rw [hs]; exact sslice_mid pre c r
    have e1 : ((pre ++ [c]).length : Int) = (pre.length : Int) + 1 := by simp
    show F11_b1 s _ _ = _
    rw [F11_b1, decide_eq_true (by omega), cond_t, wrap64 (by omega) (by omega), h2, h1]
    simp only [Option.bind_some]
    rw [catO_eq (by simp at ho ⊢; omega)]
    simp only [Option.bind_some, B39]
    simp only [List.length_cons] at ho hn
    by_cases hc : c = 39
    · subst hc
      rw [decide_eq_true rfl, cond_t, catO_eq (by simp; omega)]
      simp only [Option.bind_some]
      have ih := loop11 s hl r (pre ++ [39]) (out ++ [39] ++ [39]) n (by rw [hs]; simp) (by omega) (by simp; omega)
      rw [e1] at ih
      rw [ih, dbl, if_pos rfl]
      simp
    · rw [decide_eq_false hc, cond_f]
      have ih := loop11 s hl r (pre ++ [c]) (out ++ [c]) n (by rw [hs]; simp) (by omega) (by simp; omega)
      rw [e1] at ih
      rw [ih, dbl, if_neg hc]
      simp

theorem F11_eq (s : Str) (hs : s.length ≤ 1000000) : F11 s = some (quote s) := by
  unfold F11
  rw [F13_eq s hs]
  simp only [Option.bind_some]
  unfold quote
  cases plainQ s with
  | true => rfl
  | false =>
    have h := loop11 s hs s [] [39] BIG rfl (by unfold BIG; omega) (by simp; omega)
    exact h

/-! ### The scanner, at a quoted word -/

theorem F20_eq {s pre t : Str} (hs : s = pre ++ t) (x3 x4 x5 : Int) (l6 : List Token) (l7 : List Str) : F20x2 s (pre.length : Int) x3 x4 x5 l6 l7 = some t := by
  unfold F20x2
  subst hs
  rw [sslice_end]
  rfl

theorem F23_eq (s p : Str) (hl : s.length ≤ 1000000) : F23 s p = some (p.isPrefixOf s) := by
  unfold F23 F35
  by_cases h : p.length ≤ s.length
  · have h1 : sslice s 0 (p.length : Int) = some (s.take p.length) := by
      unfold sslice
      rw [if_pos ⟨by omega, by omega, by omega⟩]
      simp
    rw [decide_eq_true (by omega), h1]
    simp only [guardO, cond_t, Option.bind_some, Bool.true_and]
    congr 1
    rw [Bool.eq_iff_iff, decide_eq_true_eq, List.isPrefixOf_iff_prefix, List.prefix_iff_eq_take]
    exact ⟨fun e => e.symm, fun e => e.symm⟩
  · rw [decide_eq_false (by omega)]
    simp only [guardO, cond_f, Option.bind_some, Bool.false_and]
    congr 1
    symm
    rw [Bool.eq_false_iff]
    intro e
    have := List.IsPrefix.length_le (List.isPrefixOf_iff_prefix.1 e)
    omega

def SYMI : Str := [32, 9, 10, 59, 38, 124, 40, 41, 123, 125, 60, 62, 61, 94, 96, 36, 39]

def ord : Str → Bool
  | [] => false
  | c :: r => !SYMI.contains c && !([92, 10] : Str).isPrefixOf (c :: r)

theorem F50_eq {s pre t : Str} (hs : s = pre ++ t) (hl : s.length ≤ 1000000) (x3 x4 x5 : Int) (l6 : List Token) (l7 : List Str) : F50x1 s (pre.length : Int) x3 x4 x5 l6 l7 = some (ord t) := by
  unfold F50x1
  rw [F20_eq hs]
  match t, hs with
  | [], hs => rfl
  | c :: r, hs =>
    have hlen : s.length = pre.length + (r.length + 1) := by rw [hs]; simp
    have h0 : sidx (c :: r) 0 = some (B c) := sidx_mid [] c r
    rw [Option.bind_some, decide_eq_false (by simp), h0]
    simp only [Bool.not_false, guardO, cond_t, Option.bind_some, L_IndexByte, Bback, Bool.true_and]
    rw [idx_neg]
    show ((bif !SYMI.contains c then F23 (c :: r) [92, 10] else some default).bind fun r19 => some (!SYMI.contains c && !r19)) = some (!SYMI.contains c && !([92, 10] : Str).isPrefixOf (c :: r))
    cases SYMI.contains c with
    | true => rfl
    | false =>
      rw [F23_eq _ _ (by simp; omega)]
      rfl

theorem firsts : ∀ c : UInt8, badc c = false → SYMI.contains c = false ∧ c ≠ 92 := by
  intro c hc
  have : ∀ k : Fin 256, badc (UInt8.ofNat k.val) = false → SYMI.contains (UInt8.ofNat k.val) = false ∧ UInt8.ofNat k.val ≠ 92 := by decide +kernel
  have h := this ⟨c.toNat, UInt8.toNat_lt c⟩
  rw [UInt8.ofNat_toNat] at h
  exact h hc

theorem scanW {s : Str} (hl : s.length ≤ 1000000) (x3 : Int) (l6 : List Token) (l7 : List Str) (x4 x5 : Int) : ∀ (t pre b q : Str) (n : Nat), s = pre ++ t → (t.all fun x => !badc x) = true → t.length < n → b.length + t.length ≤ 10000000 → q.length + t.length ≤ 10000000 →
    iter (F36x1_b1 s x3 l6 l7) n ((pre.length : Int), x4, x5, b, q) = some (b ++ t, q ++ List.replicate t.length 48, true, (s.length : Int), x4, x5)
  | _, _, _, _, 0, _, _, h, _, _ => absurd h (Nat.not_lt_zero _)
  | [], pre, b, q, n + 1, hs, ha, hn, hb, hq => by
    have hlen : s.length = pre.length := by rw [hs]; simp
    show F36x1_b1 s _ _ _ _ _ = _
    rw [F36x1_b1, F50_eq hs hl, Option.bind_some]
    show (bif false then _ else _) = _
    rw [cond_f, F20_eq hs, Option.bind_some, F23_eq _ _ (by simp), Option.bind_some]
    show (bif false then _ else _) = _
    rw [cond_f, L_String, L_String, hlen]
    simp
  | c :: r, pre, b, q, n + 1, hs, ha, hn, hb, hq => by
    have hlen : s.length = pre.length + (r.length + 1) := by rw [hs]; simp
    have h1 : sidx s (pre.length : Int) = some (B c) := by rw [hs]; exact sidx_mid pre c r
    rw [List.all_cons, Bool.and_eq_true] at ha
    obtain ⟨k1, k2⟩ := firsts c (by simpa using ha.1)
    have ho : ord (c :: r) = true := by
      show (!SYMI.contains c && !([92, 10] : Str).isPrefixOf (c :: r)) = true
      rw [k1]
      have : (92 == c) = false := by simp; exact fun e => k2 e.symm
      simp [List.isPrefixOf, this]
    have e1 : ((pre ++ [c]).length : Int) = (pre.length : Int) + 1 := by simp
    have hB : 0 ≤ B c ∧ B c ≤ 255 := by
      have := UInt8.toNat_lt c
      unfold B
      omega
    simp only [List.length_cons] at hn hb hq
    show F36x1_b1 s _ _ _ _ _ = _
    rw [F36x1_b1, F50_eq hs hl, ho, Option.bind_some, cond_t, h1, Option.bind_some, L_WriteByte, if_pos ⟨hB.1, hB.2, by omega⟩, Bback, Option.bind_some, L_WriteByte, if_pos ⟨by decide, by decide, by omega⟩, Option.bind_some, wrap64 (by omega) (by omega)]
    have ih := scanW hl x3 l6 l7 x4 x5 r (pre ++ [c]) (b ++ [c]) (q ++ [48]) n (by rw [hs]; simp) ha.2 (by omega) (by simp; omega) (by simp; omega)
    rw [e1] at ih
    have h48 : ((48 : Int).toNat.toUInt8) = 48 := by decide
    rw [h48, ih]
    simp [List.replicate_succ]

theorem dbl_free : ∀ a : Str, (39 : UInt8) ∉ a → dbl a = a
  | [], _ => rfl
  | c :: a, h => by
    simp only [List.mem_cons, not_or] at h
    rw [dbl, if_neg (fun e => h.1 e.symm), dbl_free a h.2]

theorem dbl_at (t : Str) : ∀ a : Str, (39 : UInt8) ∉ a → dbl (a ++ 39 :: t) = a ++ 39 :: 39 :: dbl t
  | [], _ => by simp [dbl]
  | c :: a, h => by
    simp only [List.mem_cons, not_or] at h
    rw [List.cons_append, dbl, if_neg (fun e => h.1 e.symm), dbl_at t a h.2]
    rfl

theorem scanQ {s rest : Str} (hl : s.length ≤ 1000000) (hr : ([39] : Str).isPrefixOf rest = false) (x2 x3 x4 x5 : Int) (l6 : List Token) (l7 : List Str) : ∀ (k : Nat) (t pre b : Str) (n : Nat), t.length ≤ k → s = pre ++ (dbl t ++ 39 :: rest) → t.length < n → b.length + t.length ≤ 10000000 →
    iter (F52x1_b1 s x3 x4 x5 l6 l7 x2) n ((pre.length : Int), b) = some (b ++ t, true, ((pre.length + ((dbl t).length + 1) : Nat) : Int), x4, x5) := by
  intro k
  induction k with
  | zero =>
    intro t pre b n ht hs hn hb
    have ht : t = [] := List.length_eq_zero_iff.1 (by omega)
    subst ht
    match n, hn with
    | n + 1, hn =>
      have hlen : s.length = pre.length + (rest.length + 1) := by rw [hs]; simp [dbl]
      have hs2 : s = pre ++ 39 :: rest := by rw [hs]; rfl
      show F52x1_b1 s _ _ _ _ _ _ _ _ = _
      have h39 : (39 : Int).toNat.toUInt8 = 39 := by decide
      have hi : Lib.indexByte (39 :: rest) 39 = 0 := indexByte_at 39 rest [] (by simp)
      rw [F52x1_b1, F20_eq hs2, Option.bind_some, L_IndexByte, Option.bind_some, h39, hi]
      have e0 : sslice s (pre.length : Int) (IntKind.wrap .i64 ((pre.length : Int) + 0)) = some [] := by
        rw [wrap64 (by omega) (by omega), hs2]
        simpa using sslice_part pre [] (39 :: rest)
      rw [decide_eq_false (by omega), cond_f, e0, Option.bind_some, L_WriteString, if_pos (by simp; omega), Option.bind_some]
      dsimp only
      rw [wrap64 (n := 0 + 1) (by omega) (by omega), wrap64 (n := (pre.length : Int) + (0 + 1)) (by omega) (by omega)]
      have e1 : (pre.length : Int) + (0 + 1) = ((pre ++ [39]).length : Int) := by simp
      rw [e1, F20_eq (t := rest) (by rw [hs2]; simp), Option.bind_some, F23_eq _ _ (by omega), hr, Option.bind_some, Bool.not_false, cond_t, L_String, Option.bind_some]
      simp [dbl]
  | succ k ih =>
    intro t pre b n ht hs hn hb
    match n, hn with
    | n + 1, hn =>
      have h39 : (39 : Int).toNat.toUInt8 = 39 := by decide
      show F52x1_b1 s _ _ _ _ _ _ _ _ = _
      rcases firstOf 39 t with hf | ⟨a, t', hf, rfl⟩
      · rw [dbl_free t hf] at hs ⊢
        have hlen : s.length = pre.length + (t.length + (rest.length + 1)) := by rw [hs]; simp
        rw [F52x1_b1, F20_eq hs, Option.bind_some, L_IndexByte, Option.bind_some, h39, indexByte_at 39 rest t hf]
        have e0 : sslice s (pre.length : Int) (IntKind.wrap .i64 ((pre.length : Int) + (t.length : Int))) = some t := by
          rw [wrap64 (by omega) (by omega), hs]
          simpa using sslice_part pre t (39 :: rest)
        rw [decide_eq_false (by omega), cond_f, e0, Option.bind_some, L_WriteString, if_pos (by omega), Option.bind_some]
        dsimp only
        rw [wrap64 (n := (t.length : Int) + 1) (by omega) (by omega), wrap64 (n := (pre.length : Int) + ((t.length : Int) + 1)) (by omega) (by omega)]
        have e1 : (pre.length : Int) + ((t.length : Int) + 1) = ((pre ++ (t ++ [39])).length : Int) := by simp
        rw [e1, F20_eq (t := rest) (by rw [hs]; simp), Option.bind_some, F23_eq _ _ (by omega), hr, Option.bind_some, Bool.not_false, cond_t, L_String, Option.bind_some]
        simp
      · rw [dbl_at t' a hf] at hs ⊢
        have hlen : s.length = pre.length + (a.length + (2 + ((dbl t').length + (rest.length + 1)))) := by rw [hs]; simp; omega
        simp only [List.length_append, List.length_cons] at ht hn hb
        have hs2 : s = pre ++ (a ++ 39 :: (39 :: (dbl t' ++ 39 :: rest))) := by rw [hs]; simp
        rw [F52x1_b1, F20_eq hs2, Option.bind_some, L_IndexByte, Option.bind_some, h39, indexByte_at 39 _ a hf]
        have e0 : sslice s (pre.length : Int) (IntKind.wrap .i64 ((pre.length : Int) + (a.length : Int))) = some a := by
          rw [wrap64 (by omega) (by omega), hs2]
          simpa using sslice_part pre a (39 :: (39 :: (dbl t' ++ 39 :: rest)))
        rw [decide_eq_false (by omega), cond_f, e0, Option.bind_some, L_WriteString, if_pos (by omega), Option.bind_some]
        dsimp only
        rw [wrap64 (n := (a.length : Int) + 1) (by omega) (by omega), wrap64 (n := (pre.length : Int) + ((a.length : Int) + 1)) (by omega) (by omega)]
        have e1 : (pre.length : Int) + ((a.length : Int) + 1) = ((pre ++ (a ++ [39])).length : Int) := by simp
        have hp : ([39] : Str).isPrefixOf (39 :: (dbl t' ++ 39 :: rest)) = true := by simp [List.isPrefixOf]
        rw [e1, F20_eq (t := 39 :: (dbl t' ++ 39 :: rest)) (by rw [hs2]; simp), Option.bind_some, F23_eq _ _ (by simp; omega), hp, Option.bind_some, Bool.not_true, cond_f, L_WriteByte, if_pos ⟨by decide, by decide, by simp; omega⟩, Option.bind_some, h39, wrap64 (by simp; omega) (by simp; omega)]
        have e2 : ((pre ++ (a ++ [39])).length : Int) + 1 = ((pre ++ (a ++ [39, 39])).length : Int) := by simp; omega
        rw [e2, ih t' (pre ++ (a ++ [39, 39])) (b ++ a ++ [39]) n (by omega) (by rw [hs2]; simp) (by omega) (by simp; omega)]
        simp
        omega

theorem F20_0 (s : Str) (x3 x4 x5 : Int) (l6 : List Token) (l7 : List Str) : F20x2 s 0 x3 x4 x5 l6 l7 = some s := F20_eq (s := s) (pre := []) (t := s) rfl x3 x4 x5 l6 l7

theorem F50_0 {s : Str} (hl : s.length ≤ 1000000) (x3 x4 x5 : Int) (l6 : List Token) (l7 : List Str) : F50x1 s 0 x3 x4 x5 l6 l7 = some (ord s) := F50_eq (s := s) (pre := []) (t := s) rfl hl x3 x4 x5 l6 l7

theorem repeat_one (c : UInt8) : ∀ n : Nat, Lib.repeatL [c] n = List.replicate n c
  | 0 => rfl
  | n + 1 => by
    rw [Lib.repeatL, repeat_one c n, List.replicate_succ]
    rfl

theorem scan_plain {s : Str} (hl : s.length ≤ 1000000) (hp : (s.all fun x => !badc x) = true) (x3 x4 x5 : Int) (l6 : List Token) (l7 : List Str) : F36x1 s 0 x3 x4 x5 l6 l7 = some (s, List.replicate s.length 48, true, (s.length : Int), x4, x5) := by
  have h := scanW hl x3 l6 l7 x4 x5 s [] [] [] BIG rfl hp (by unfold BIG; omega) (by simp; omega) (by simp; omega)
  exact h

theorem scan_quote {s t : Str} (hs : s = 39 :: (dbl t ++ [39])) (ht : t.length ≤ 10000) (x3 x4 x5 : Int) (l6 : List Token) (l7 : List Str) : F36x1 s 0 x3 x4 x5 l6 l7 = some (t, List.replicate t.length 49, true, (s.length : Int), x4, x5) := by
  have hd := dbl_len t
  have hlen : s.length = (dbl t).length + 2 := by rw [hs]; simp
  have hl : s.length ≤ 1000000 := by omega
  have e0 : (0 : Int) = (([] : Str).length : Int) := rfl
  have hB : BIG = 1180591620717411303422 + 1 + 1 := rfl
  unfold F36x1
  rw [hB]
  show F36x1_b1 s _ _ _ _ _ = _
  rw [F36x1_b1, F50_0 hl, Option.bind_some]
  have ho : ord s = false := by rw [hs]; rfl
  have hq : ([39] : Str).isPrefixOf s = true := by rw [hs]; simp [List.isPrefixOf]
  rw [ho, cond_f, F20_0, Option.bind_some, F23_eq _ _ hl, hq, Option.bind_some, cond_t]
  have h52 : F52x1 s 0 x3 x4 x5 l6 l7 = some (t, true, (s.length : Int), x4, x5) := by
    unfold F52x1
    have h := scanQ (s := s) (rest := []) hl rfl 0 x3 x4 x5 l6 l7 t.length t [39] [] BIG (Nat.le_refl _) (by rw [hs]; rfl) (by unfold BIG; omega) (by simp; omega)
    have e1 : IntKind.wrap .i64 (0 + 1) = (([39] : Str).length : Int) := rfl
    rw [e1, h, hlen]
    simp
    omega
  rw [h52, Option.bind_some]
  dsimp only
  rw [Bool.not_true, cond_f, L_WriteString, if_pos (by simp; omega), Option.bind_some]
  dsimp only
  have h49 : L_Repeat [49] (t.length : Int) = some (List.replicate t.length 49) := by
    unfold L_Repeat
    rw [if_pos ⟨by omega, by omega, by simp; omega⟩]
    congr 1
    rw [Int.toNat_natCast]
    exact repeat_one 49 t.length
  rw [h49, Option.bind_some, L_WriteString, if_pos (by simp; omega), Option.bind_some]
  dsimp only
  have h := scanW (s := s) hl x3 l6 l7 x4 x5 [] s ([] ++ t) ([] ++ List.replicate t.length 49) (1180591620717411303422 + 1) (by simp) rfl (by simp) (by simp; omega) (by simp; omega)
  rw [h]
  simp

def START : Str := [59, 38, 40, 41, 123, 125, 61, 94, 96, 36, 33, 64]

/-- A byte that can begin a word. -/
def wordB (c : UInt8) : Bool := decide (c = 39) || (!badc c && !headc c)

theorem wordB_ok : ∀ c : UInt8, wordB c = true → (START.contains c = false ∧ ([32, 9, 92, 35, 10] : Str).contains c = false) ∧ ([38, 124, 36, 62, 60] : Str).contains c = false := by
  intro c hc
  have : ∀ k : Fin 256, wordB (UInt8.ofNat k.val) = true → (START.contains (UInt8.ofNat k.val) = false ∧ ([32, 9, 92, 35, 10] : Str).contains (UInt8.ofNat k.val) = false) ∧ ([38, 124, 36, 62, 60] : Str).contains (UInt8.ofNat k.val) = false := by decide +kernel
  have h := this ⟨c.toNat, UInt8.toNat_lt c⟩
  rw [UInt8.ofNat_toNat] at h
  exact h hc

theorem pre_ne {p c : UInt8} {q r : Str} (h : c ≠ p) : (p :: q).isPrefixOf (c :: r) = false := by
  have : (p == c) = false := by simp; exact fun e => h e.symm
  simp [List.isPrefixOf, this]

theorem F38_word {c : UInt8} {r s : Str} (hs : s = c :: r) (hl : s.length ≤ 1000000) (hc : wordB c = true) (x3 x4 x5 : Int) (l6 : List Token) (l7 : List Str) : F38 s 0 x3 x4 x5 l6 l7 = some ([], true, x4, x5) := by
  obtain ⟨⟨h1, h2⟩, h3⟩ := wordB_ok c hc
  simp only [List.contains_eq_mem, List.mem_cons, List.not_mem_nil, or_false, decide_eq_false_iff_not, not_or] at h2 h3
  have e0 : (0 : Int) = (([] : Str).length : Int) := rfl
  have hF : ∀ p q, c ≠ p → F23 s (p :: q) = some false := fun p q h => by rw [F23_eq _ _ hl, hs, pre_ne h]
  unfold F38
  rw [F20_0, Option.bind_some]
  have hB : BIG = 1180591620717411303419 + 1 + 1 + 1 + 1 + 1 := rfl
  have b1 : ∀ (again : Int → Option (Str × Bool × Int × Int)) (i : Int) (w : Str), decide (i < ([[38, 38], [124, 124], [36, 35]].length : Int)) = true → lidx ([[38, 38], [124, 124], [36, 35]] : List Str) i = some w → F23 s w = some false → F38_b1 s x4 x5 0 s x3 l6 l7 again i = again (IntKind.wrap .i64 (i + 1)) := by
    intro again i w q1 q2 q3
    rw [F38_b1, q1, cond_t, q2, Option.bind_some, q3, Option.bind_some, cond_f]
  have b2 : ∀ (again : Int → Option (Str × Bool × Int × Int)) (i : Int) (w : Str), decide (i < ([[62, 62], [62], [60], [124]].length : Int)) = true → lidx ([[62, 62], [62], [60], [124]] : List Str) i = some w → F23 s w = some false → F38_b2 s x4 x5 0 s x3 l6 l7 again i = again (IntKind.wrap .i64 (i + 1)) := by
    intro again i w q1 q2 q3
    rw [F38_b2, q1, cond_t, q2, Option.bind_some, q3, Option.bind_some, Bool.not_false, cond_t]
  have l2 : iter (F38_b2 s x4 x5 0 s x3 l6 l7) BIG 0 = some ([], true, x4, x5) := by
    rw [hB]
    show F38_b2 s x4 x5 0 s x3 l6 l7 _ 0 = _
    rw [b2 _ 0 [62, 62] rfl rfl (hF _ _ h3.2.2.2.1)]
    show F38_b2 s x4 x5 0 s x3 l6 l7 _ 1 = _
    rw [b2 _ 1 [62] rfl rfl (hF _ _ h3.2.2.2.1)]
    show F38_b2 s x4 x5 0 s x3 l6 l7 _ 2 = _
    rw [b2 _ 2 [60] rfl rfl (hF _ _ h3.2.2.2.2)]
    show F38_b2 s x4 x5 0 s x3 l6 l7 _ 3 = _
    rw [b2 _ 3 [124] rfl rfl (hF _ _ h3.2.1)]
    rfl
  rw [hB]
  show F38_b1 s x4 x5 0 s x3 l6 l7 _ 0 = _
  rw [b1 _ 0 [38, 38] rfl rfl (hF _ _ h3.1)]
  show F38_b1 s x4 x5 0 s x3 l6 l7 _ 1 = _
  rw [b1 _ 1 [124, 124] rfl rfl (hF _ _ h3.2.1)]
  show F38_b1 s x4 x5 0 s x3 l6 l7 _ 2 = _
  rw [b1 _ 2 [36, 35] rfl rfl (hF _ _ h3.2.2.1)]
  show F38_b1 s x4 x5 0 s x3 l6 l7 _ 3 = _
  rw [F38_b1]
  have h0 : sidx s 0 = some (B c) := by rw [hs]; exact sidx_mid [] c r
  have hne : decide (s = []) = false := by rw [hs]; exact decide_eq_false (by simp)
  have hd : decide ((3 : Int) < ([[38, 38], [124, 124], [36, 35]].length : Int)) = false := rfl
  have hge : decide ((0 : Int) ≤ Lib.indexByte START c) = false := by rw [idx_contains, h1]
  unfold START at hge
  rw [hd, cond_f, hne, cond_f, h0, Option.bind_some, L_IndexByte, Option.bind_some, Bback, hge, cond_f]
  exact l2

theorem stay19 {s pre t : Str} (hs : s = pre ++ t) (hl : s.length ≤ 1000000) (h1 : ([32] : Str).isPrefixOf t = false) (h2 : ([9] : Str).isPrefixOf t = false) (h3 : ([92, 10] : Str).isPrefixOf t = false) (x3 x4 x5 : Int) (l6 : List Token) (l7 : List Str) : F19x2 s (pre.length : Int) x3 x4 x5 l6 l7 = some (pre.length : Int) := by
  have hlen : s.length = pre.length + t.length := by rw [hs]; simp
  have hB : BIG = 1180591620717411303423 + 1 := rfl
  unfold F19x2
  rw [hB]
  show F19x2_b1 s x3 x4 x5 l6 l7 _ _ = _
  rw [F19x2_b1, F20_eq hs, Option.bind_some, F23_eq _ _ (by omega), h1, Option.bind_some, F23_eq _ _ (by omega), h2]
  simp only [Bool.not_false, guardO, cond_t, Option.bind_some, Bool.or_false, cond_f]
  rw [F23_eq _ _ (by omega), h3, Option.bind_some, cond_f]

theorem F10_word {s x q : Str} {c : UInt8} {r : Str} (hs : s = c :: r) (hl : s.length ≤ 60000) (hc : wordB c = true) (h36 : ∀ x3 x4 x5 l6 l7, F36x1 s 0 x3 x4 x5 l6 l7 = some (x, q, true, (s.length : Int), x4, x5)) :
    F10 s = some ([⟨1, 0, x, q⟩], 0, 0) := by
  obtain ⟨⟨h1, h2⟩, h3⟩ := wordB_ok c hc
  simp only [List.contains_eq_mem, List.mem_cons, List.not_mem_nil, or_false, decide_eq_false_iff_not, not_or] at h2 h3
  have e0 : (0 : Int) = (([] : Str).length : Int) := rfl
  have hF : ∀ p q, c ≠ p → (p :: q).isPrefixOf s = false := fun p q h => by rw [hs, pre_ne h]
  have hB : BIG = 1180591620717411303422 + 1 + 1 := rfl
  have h19 := stay19 (s := s) (pre := []) (t := s) rfl (by omega) (hF _ _ h2.1) (hF _ _ h2.2.1) (hF _ _ h2.2.2.1)
  have h20 := F20_eq (s := s) (pre := []) (t := s) rfl
  have h0 : sidx s 0 = some (B c) := by rw [hs]; exact sidx_mid [] c r
  have hne : decide (s = []) = false := by rw [hs]; exact decide_eq_false (by simp)
  rw [← e0] at h19 h20
  unfold F10
  rw [decide_eq_false (by omega), cond_f, hB]
  show F10_b1 s _ _ = _
  rw [F10_b1, decide_eq_true rfl, cond_t, h19, Option.bind_some, h20, Option.bind_some, hne, cond_f, h0, Option.bind_some, B35, decide_eq_false h2.2.2.2.1, cond_f, B10, decide_eq_false h2.2.2.2.2, cond_f,
    F23_eq _ _ (by omega), hF 60 [60] h3.2.2.2.2, Option.bind_some, cond_f]
  have h25 : F25 s 0 0 0 0 [] [] = some (true, (s.length : Int), 0, 0, [⟨1, 0, x, q⟩]) := by
    unfold F25
    have h37 : F37 s 0 0 0 0 [] [] = some false := rfl
    rw [h37, Option.bind_some, F38_word hs (by omega) hc, Option.bind_some]
    dsimp only
    rw [Bool.not_true, cond_f, decide_eq_true (p := ([] : Str) = []) rfl, Bool.not_true, cond_f, h36, Option.bind_some]
    dsimp only
    rw [cond_t]
    have h39 : F39 ⟨1, 0, x, q⟩ false s (s.length : Int) 0 0 0 [] [] = some (true, 0, 0, [⟨1, 0, x, q⟩]) := rfl
    rw [h39]
    rfl
  rw [h25, Option.bind_some]
  show F10_b1 s _ _ = _
  have k19 := stay19 (s := s) (pre := s) (t := []) (by simp) (by omega) rfl rfl rfl
  have k20 := F20_eq (s := s) (pre := s) (t := []) (by simp)
  rw [F10_b1, decide_eq_true rfl, cond_t, k19, Option.bind_some, k20, Option.bind_some, decide_eq_true rfl, cond_t]
  rfl

theorem F10_quote (s : Str) (hl : s.length ≤ 1000) : F10 (quote s) = some ([⟨1, 0, s, List.replicate s.length (bif plainQ s then 48 else 49)⟩], 0, 0) := by
  unfold quote
  cases hp : plainQ s with
  | true =>
    rw [cond_t, cond_t]
    match s, hp with
    | c :: r, hp =>
      simp only [plainQ, Bool.and_eq_true] at hp
      have hb := hp.2
      rw [List.all_cons, Bool.and_eq_true] at hb
      exact F10_word rfl (by omega) (by unfold wordB; rw [hb.1, hp.1]; simp) (fun x3 x4 x5 l6 l7 => scan_plain (by omega) hp.2 x3 x4 x5 l6 l7)
  | false =>
    rw [cond_f, cond_f]
    have hd := dbl_len s
    exact F10_word rfl (by simp; omega) rfl (fun x3 x4 x5 l6 l7 => scan_quote rfl (by omega) x3 x4 x5 l6 l7)

theorem loop3 (s : Str) (hl : s.length ≤ 1000) : iter (F3_b1 s ⟨1, 0, s, List.replicate s.length (bif plainQ s then 48 else 49)⟩) BIG 0 = some true := by
  refine iter_big (α := Int) (fun i => ∃ j : Nat, i = j ∧ j ≤ s.length) (fun i => s.length - i.toNat) (fun _ => some true) ?_ 0 ⟨0, rfl, Nat.zero_le _⟩ (by simp; omega)
  rintro again i ⟨j, rfl, hj⟩ hag
  rw [F3_b1]
  by_cases h : j < s.length
  · have hx : sidx (List.replicate s.length (bif plainQ s then 48 else 49)) (j : Int) = some (bif plainQ s then 48 else 49) := by
      rw [sidx_at (by simpa using h)]
      simp only [List.getElem_replicate]
      cases plainQ s <;> rfl
    rw [decide_eq_true (by omega), cond_t, hx, Option.bind_some, F12_eq s (by omega), wrap64 (by omega) (by omega)]
    have := hag ((j : Int) + 1) ⟨j + 1, by simp, by omega⟩ (by simp; omega)
    rw [this]
    cases plainQ s <;> rfl
  · rw [decide_eq_false (by omega), cond_f, alive]
    rfl

theorem law3 (s : Str) (w0 : s.length ≤ maxLen) : F3 s = some true := by
  unfold F3
  cases h : decide (1000 < (s.length : Int)) with
  | true =>
    rw [cond_t, alive]
    rfl
  | false =>
    have hl : s.length ≤ 1000 := by
      have := of_decide_eq_false h
      omega
    rw [cond_f, F9_eq s (by omega), Option.bind_some, F10_quote s hl, Option.bind_some]
    dsimp only
    rw [F11_eq s (by omega), Option.bind_some, F12_eq s (by omega), F13_eq s (by omega), decide_eq_true rfl]
    simp only [guardO, cond_t, Option.bind_some, Bool.not_true, Bool.false_or, beq_self_eq_true, decide_true, List.length_cons, List.length_nil]
    rw [show (bif !decide (((0 + 1 : Nat) : Int) = 1) then some false else _) = _ from rfl]
    rw [show lidx [Token.mk 1 0 s (List.replicate s.length (bif plainQ s then 48 else 49))] 0 = some (Token.mk 1 0 s (List.replicate s.length (bif plainQ s then 48 else 49))) from rfl, Option.bind_some]
    simp only [decide_true, Bool.not_true, Bool.false_or, List.length_replicate, cond_f]
    exact loop3 s hl

end Go.Abs.U47
