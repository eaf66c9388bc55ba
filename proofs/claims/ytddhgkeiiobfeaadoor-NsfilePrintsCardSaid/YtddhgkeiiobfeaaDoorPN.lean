/- The layer 45 laws, in plain Lean: Show and Print agree with the reference, and what is printed is read back. -/
import Derived.Test.YtddhgkeiiobfeaaDoorP3
set_option linter.unusedVariables false
set_option linter.unusedSimpArgs false
namespace Go.Abs.U45
open Go

/-! ### Short name spaces -/

def smallT : List Target → Bool
  | [] => true
  | t :: ts => !decide (1100 < (t.chan_.name_.length : Int)) && smallT ts
def smallM : List Mount → Bool
  | [] => true
  | u :: us => !(decide (20 < (u.to_.length : Int)) || decide (1100 < (u.from_.name_.length : Int))) && smallT u.to_ && smallM us
def small (n : Ns) : Bool := !decide (20 < (n.mounts_.length : Int)) && smallM n.mounts_

theorem loop_smallT (next : Option Bool) : ∀ (ts : List Target) (i : Int), loopR (fun t _ n => bif decide (1100 < (t.chan_.name_.length : Int)) then some false else n) next ts i = bif smallT ts then next else some false
  | [], _ => rfl
  | t :: ts, i => by
    simp only [loopR, smallT, loop_smallT next ts]
    cases decide (1100 < (t.chan_.name_.length : Int)) <;> rfl

theorem F12_eq (n : Ns) : F12 n = some (small n) := by
  unfold F12 small
  cases h : decide (20 < (n.mounts_.length : Int)) with
  | true => rfl
  | false =>
    simp only [decide_eq_false_iff_not] at h
    rw [cond_f]
    refine (iter_big (α := Int) (fun a => ∃ j : Nat, a = j ∧ j ≤ n.mounts_.length) (fun a => n.mounts_.length - a.toNat) (fun a => some (smallM (n.mounts_.drop a.toNat))) ?_ 0 ⟨0, rfl, Nat.zero_le _⟩ (by simp; omega)).trans rfl
    rintro again i ⟨j, rfl, hjl⟩ hag
    rw [F12_b2]
    simp only [Int.toNat_natCast]
    by_cases hlt : j < n.mounts_.length
    · rw [decide_eq_true (by omega), cond_t, lidx_at hlt, drop_at hlt]
      have hag' : again ((j : Int) + 1) = some (smallM (n.mounts_.drop (j + 1))) := hag ((j + 1 : Nat) : Int) ⟨j + 1, rfl, hlt⟩ (by simp only [Int.toNat_natCast]; omega)
      simp only [Option.bind_some, smallM]
      generalize n.mounts_[j] = u
      cases hc : (decide (20 < (u.to_.length : Int)) || decide (1100 < (u.from_.name_.length : Int))) with
      | true => rfl
      | false =>
        simp only [Bool.or_eq_false_iff, decide_eq_false_iff_not] at hc
        rw [cond_f, iter_range (body := F12_b3 u again (j : Int)) u.to_ (fun t _ n => bif decide (1100 < (t.chan_.name_.length : Int)) then some false else n) (again (IntKind.wrap .i64 ((j : Int) + 1))) (fun _ _ => rfl) (by omega), loop_smallT, wrap64 (by omega) (by omega), hag']
        cases smallT u.to_ <;> rfl
    · rw [decide_eq_false (by omega), List.drop_eq_nil_of_le (by omega)]
      rfl

theorem smallT_mem : ∀ {ts : List Target}, smallT ts = true → ∀ t ∈ ts, t.chan_.name_.length ≤ 1100
  | [], _, t, ht => by cases ht
  | x :: ts, h, t, ht => by
    simp only [smallT, Bool.and_eq_true, Bool.not_eq_true', decide_eq_false_iff_not] at h
    rcases List.mem_cons.1 ht with rfl | ht
    · omega
    · exact smallT_mem h.2 t ht

theorem smallM_mem : ∀ {l : List Mount}, smallM l = true → ∀ u ∈ l, u.to_.length ≤ 20 ∧ u.from_.name_.length ≤ 1100 ∧ ∀ t ∈ u.to_, t.chan_.name_.length ≤ 1100
  | [], _, u, hu => by cases hu
  | x :: l, h, u, hu => by
    simp only [smallM, Bool.and_eq_true, Bool.not_eq_true', Bool.or_eq_false_iff, decide_eq_false_iff_not] at h
    rcases List.mem_cons.1 hu with rfl | hu
    · exact ⟨by omega, by omega, smallT_mem h.1.2⟩
    · exact smallM_mem h.2 u hu

theorem small_of {n : Ns} (h : small n = true) : n.mounts_.length ≤ 20 ∧ smallM n.mounts_ = true := by
  unfold small at h
  simp only [Bool.and_eq_true, Bool.not_eq_true', decide_eq_false_iff_not] at h
  exact ⟨by omega, h.2⟩

/-! ### Show -/

def fl (i : Int) (c : Bool) : Int := bif c then IntKind.wrap .i64 ((bif decide (0 < i) then 2 else 0) + 4) else (bif decide (0 < i) then 2 else 0)

theorem fl_flagged (i : Int) (c : Bool) : flagged (fl i c) = true := by
  unfold fl
  cases c <;> cases decide (0 < i) <;> decide

def opT (u : Mount) (t : Target) (i : Int) : NsOp := ⟨1, fl i t.create_, t.chan_.name_, u.from_.name_⟩
def skip (u : Mount) (t : Target) (i : Int) : Bool := (decide (i = 0) && (decide (t.chan_.dev_ = u.from_.dev_) && decide (t.chan_.id_ = u.from_.id_))) && !t.create_

def opsT (u : Mount) : List Target → Int → List NsOp
  | [], _ => []
  | t :: ts, i => (bif skip u t i then [] else [opT u t i]) ++ opsT u ts (i + 1)

def opsM : List Mount → List NsOp
  | [] => []
  | u :: us => opsT u u.to_ 0 ++ opsM us

def opsN (n : Ns) (cwd : Str) : List NsOp := opsM n.mounts_ ++ [⟨5, 0, cwd, []⟩]

def text : List NsOp → Str
  | [] => []
  | op :: l => line op ++ (10 :: text l)

theorem text_append : ∀ a b : List NsOp, text (a ++ b) = text a ++ text b
  | [], b => rfl
  | x :: a, b => by simp [text, text_append a b]

theorem line_len {k f : Int} {n o : Str} (hk : k = 1 ∨ k = 2) (hf : flagged f = true) : (line ⟨k, f, n, o⟩).length ≤ 110 + 2 * n.length + 2 * o.length := by
  have h1 := head_len (k := k) (f := f) (by omega) hf
  have q1 := quote_len n
  have q2 := quote_len o
  rw [line_12 hk, glue_two 32 _ _ _ (by simp)]
  simp only [List.length_append, List.length_cons]
  omega

theorem opsT_len (u : Mount) (hu : u.from_.name_.length ≤ 1100) : ∀ (ts : List Target) (i : Int), (∀ t ∈ ts, t.chan_.name_.length ≤ 1100) → (text (opsT u ts i)).length ≤ 5000 * ts.length
  | [], _, _ => Nat.le_refl _
  | t :: ts, i, h => by
    have ih := opsT_len u hu ts (i + 1) fun t ht => h t (by simp [ht])
    have ht := h t (by simp)
    have hl := line_len (k := 1) (f := fl i t.create_) (n := t.chan_.name_) (o := u.from_.name_) (.inl rfl) (fl_flagged _ _)
    simp only [opsT, text_append, List.length_append, List.length_cons]
    cases skip u t i with
    | true => simp only [cond_t, text, List.length_nil]; omega
    | false =>
      simp only [cond_f, text, opT, List.length_append, List.length_cons, List.length_nil]
      omega

theorem inner13 (u : Mount) (hu : u.from_.name_.length ≤ 1100) (again : Int × Str → Option Str) (m : Int) (hts : ∀ t ∈ u.to_, t.chan_.name_.length ≤ 1100) (h20 : u.to_.length ≤ 20) (b : Str) (hb : b.length ≤ 1000000000) :
    iter (F13_b3 u again m) BIG (0, b) = again (IntKind.wrap .i64 (m + 1), b ++ text (opsT u u.to_ 0)) := by
  rw [iter_rangeS (body := F13_b3 u again m) u.to_ (fun t i k b => (guardO (decide (i = 0)) (F25 t.chan_ u.from_)).bind fun r => bif ((decide (i = 0) && r) && !t.create_) then k b else (F23 (opT u t i)).bind fun r28 => (catO r28 [10]).bind fun s31 => (L_WriteString b s31).bind fun (_, c35) => k c35)
    (fun b => again (IntKind.wrap .i64 (m + 1), b)) (fun _ _ _ => rfl) (by omega)]
  have : ∀ (ts : List Target) (i : Int) (b : Str), (∀ t ∈ ts, t.chan_.name_.length ≤ 1100) → b.length + 5000 * ts.length ≤ 100000000000 →
      loopS (fun t i k b => (guardO (decide (i = 0)) (F25 t.chan_ u.from_)).bind fun r => bif ((decide (i = 0) && r) && !t.create_) then k b else (F23 (opT u t i)).bind fun r28 => (catO r28 [10]).bind fun s31 => (L_WriteString b s31).bind fun (_, c35) => k c35)
        (fun b => again (IntKind.wrap .i64 (m + 1), b)) ts i b = again (IntKind.wrap .i64 (m + 1), b ++ text (opsT u ts i)) := by
    intro ts
    induction ts with
    | nil => intro i b _ _; simp [loopS, opsT, text]
    | cons t ts ih =>
      intro i b h hl
      simp only [List.length_cons] at hl
      have ht := h t (by simp)
      have hll := line_len (k := 1) (f := fl i t.create_) (n := t.chan_.name_) (o := u.from_.name_) (.inl rfl) (fl_flagged _ _)
      have h25 : (guardO (decide (i = 0)) (F25 t.chan_ u.from_)) = some (decide (i = 0) && (decide (t.chan_.dev_ = u.from_.dev_) && decide (t.chan_.id_ = u.from_.id_))) := by
        cases decide (i = 0) <;> rfl
      have h23 : F23 (opT u t i) = some (line (opT u t i)) := F23_12 (.inl rfl) (fl_flagged _ _) (by omega) (by omega)
      have hc : catO (line (opT u t i)) [10] = some (line (opT u t i) ++ [10]) := catO_eq (by simp only [opT, List.length_cons, List.length_nil]; omega)
      have hw : L_WriteString b (line (opT u t i) ++ [10]) = some (((line (opT u t i) ++ [10]).length : Int), b ++ (line (opT u t i) ++ [10])) := if_pos (by simp only [opT, List.length_append, List.length_cons, List.length_nil]; omega)
      have hs : ((decide (i = 0) && (decide (i = 0) && (decide (t.chan_.dev_ = u.from_.dev_) && decide (t.chan_.id_ = u.from_.id_)))) && !t.create_) = skip u t i := by
        unfold skip
        cases decide (i = 0) <;> rfl
      simp only [loopS, h25, Option.bind_some, hs, h23, hc, hw, opsT]
      cases skip u t i with
      | true =>
        simp only [cond_t, List.nil_append]
        exact ih (i + 1) b (fun t ht => h t (by simp [ht])) (by omega)
      | false =>
        simp only [cond_f]
        rw [ih (i + 1) _ (fun t ht => h t (by simp [ht])) (by simp only [opT, List.length_append, List.length_cons, List.length_nil]; omega)]
        simp [text]
  exact this u.to_ 0 b hts (by omega)

theorem inner14 (u : Mount) (hu : u.from_.name_.length ≤ 1100) (again : Str × Int → Option Str) (m : Int) (hts : ∀ t ∈ u.to_, t.chan_.name_.length ≤ 1100) (h20 : u.to_.length ≤ 20) (b : Str) (hb : b.length ≤ 1000000000) :
    iter (F14_b3 u again m) BIG (b, 0) = again (b ++ text (opsT u u.to_ 0), IntKind.wrap .i64 (m + 1)) := by
  rw [iter_rangeT (body := F14_b3 u again m) u.to_ (fun t i k b => bif (((decide (i = 0) && !t.create_) && decide (t.chan_.dev_ = u.from_.dev_)) && decide (t.chan_.id_ = u.from_.id_)) then k b else (F24 (opT u t i)).bind fun r25 => (catO b r25).bind fun s28 => (catO s28 [10]).bind fun s31 => k s31)
    (fun b => again (b, IntKind.wrap .i64 (m + 1))) (fun _ _ _ => rfl) (by omega)]
  have : ∀ (ts : List Target) (i : Int) (b : Str), (∀ t ∈ ts, t.chan_.name_.length ≤ 1100) → b.length + 5000 * ts.length ≤ 100000000000 →
      loopS (fun t i k b => bif (((decide (i = 0) && !t.create_) && decide (t.chan_.dev_ = u.from_.dev_)) && decide (t.chan_.id_ = u.from_.id_)) then k b else (F24 (opT u t i)).bind fun r25 => (catO b r25).bind fun s28 => (catO s28 [10]).bind fun s31 => k s31)
        (fun b => again (b, IntKind.wrap .i64 (m + 1))) ts i b = again (b ++ text (opsT u ts i), IntKind.wrap .i64 (m + 1)) := by
    intro ts
    induction ts with
    | nil => intro i b _ _; simp [loopS, opsT, text]
    | cons t ts ih =>
      intro i b h hl
      simp only [List.length_cons] at hl
      have ht := h t (by simp)
      have hll := line_len (k := 1) (f := fl i t.create_) (n := t.chan_.name_) (o := u.from_.name_) (.inl rfl) (fl_flagged _ _)
      have h24 : F24 (opT u t i) = some (line (opT u t i)) := F24_12 (.inl rfl) (fl_flagged _ _) (by omega) (by omega)
      have hc : catO b (line (opT u t i)) = some (b ++ line (opT u t i)) := catO_eq (by simp only [opT]; omega)
      have hw : catO (b ++ line (opT u t i)) [10] = some (b ++ line (opT u t i) ++ [10]) := catO_eq (by simp only [opT, List.length_append, List.length_cons, List.length_nil]; omega)
      have hs : (((decide (i = 0) && !t.create_) && decide (t.chan_.dev_ = u.from_.dev_)) && decide (t.chan_.id_ = u.from_.id_)) = skip u t i := by
        unfold skip
        cases decide (i = 0) <;> cases t.create_ <;> cases decide (t.chan_.dev_ = u.from_.dev_) <;> cases decide (t.chan_.id_ = u.from_.id_) <;> rfl
      simp only [loopS, hs, h24, hc, hw, Option.bind_some, opsT]
      cases skip u t i with
      | true =>
        simp only [cond_t, List.nil_append]
        exact ih (i + 1) b (fun t ht => h t (by simp [ht])) (by omega)
      | false =>
        simp only [cond_f]
        rw [ih (i + 1) _ (fun t ht => h t (by simp [ht])) (by simp only [opT, List.length_append, List.length_cons, List.length_nil]; omega)]
        simp [text]
  exact this u.to_ 0 b hts (by omega)

theorem opsM_len : ∀ l : List Mount, smallM l = true → (text (opsM l)).length ≤ 100000 * l.length
  | [], _ => Nat.le_refl _
  | u :: l, h => by
    obtain ⟨h1, h2, h3⟩ := smallM_mem h u (by simp)
    have h4 := opsT_len u h2 u.to_ 0 h3
    simp only [smallM, Bool.and_eq_true] at h
    have ih := opsM_len l h.2
    simp only [opsM, text_append, List.length_append, List.length_cons]
    omega

theorem cd_len (cwd : Str) : (line ⟨5, 0, cwd, []⟩).length ≤ 10 + 2 * cwd.length := by
  have q := quote_len cwd
  have : line ⟨5, 0, cwd, []⟩ = [99, 100] ++ 32 :: quote cwd := rfl
  rw [this]
  simp only [List.length_append, List.length_cons, List.length_nil]
  omega

theorem F13_eq {n : Ns} (h : small n = true) {cwd : Str} (hc : cwd.length ≤ 100000) : F13 n cwd = some (text (opsN n cwd)) := by
  obtain ⟨h20, hM⟩ := small_of h
  have hmem := fun u hu => smallM_mem hM u hu
  have hcd := cd_len cwd
  unfold F13
  refine (iter_big (α := Int × Str) (fun a => ∃ j : Nat, a.1 = j ∧ j ≤ n.mounts_.length ∧ a.2.length ≤ 100000 * j) (fun a => n.mounts_.length - a.1.toNat) (fun a => some (a.2 ++ (text (opsM (n.mounts_.drop a.1.toNat)) ++ text [⟨5, 0, cwd, []⟩]))) ?_ (0, []) ⟨0, rfl, Nat.zero_le _, Nat.zero_le _⟩ (by simp; omega)).trans (by simp [opsN, text_append])
  rintro again ⟨i, b⟩ ⟨j, hj, hjl, hb⟩ hag
  simp only at hj hb
  subst hj
  rw [F13_b2]
  simp only [Int.toNat_natCast]
  by_cases hlt : j < n.mounts_.length
  · rw [decide_eq_true (by omega), cond_t, lidx_at hlt, drop_at hlt]
    have hag' : ∀ b, b.length ≤ 100000 * (j + 1) → again ((j : Int) + 1, b) = some (b ++ (text (opsM (n.mounts_.drop (j + 1))) ++ text [⟨5, 0, cwd, []⟩])) := fun b hb => hag (((j + 1 : Nat) : Int), b) ⟨j + 1, rfl, hlt, hb⟩ (by simp only [Int.toNat_natCast]; omega)
    obtain ⟨g1, g2, g3⟩ := hmem n.mounts_[j] (List.getElem_mem hlt)
    simp only [Option.bind_some]
    generalize n.mounts_[j] = u at g1 g2 g3
    have gl := opsT_len u g2 u.to_ 0 g3
    rw [inner13 u g2 again j g3 g1 b (by omega), wrap64 (by omega) (by omega), hag' _ (by simp only [List.length_append]; omega)]
    simp [opsM, text_append]
  · rw [decide_eq_false (by omega), cond_f, List.drop_eq_nil_of_le (by omega), F23_5 (by omega)]
    simp only [Option.bind_some]
    rw [catO_eq (by simp; omega)]
    simp only [Option.bind_some]
    have hw : L_WriteString b (line ⟨5, 0, cwd, []⟩ ++ [10]) = some (((line ⟨5, 0, cwd, []⟩ ++ [10]).length : Int), b ++ (line ⟨5, 0, cwd, []⟩ ++ [10])) := if_pos (by simp only [List.length_append, List.length_cons, List.length_nil]; omega)
    rw [hw]
    rfl

theorem F14_eq {n : Ns} (h : small n = true) {cwd : Str} (hc : cwd.length ≤ 100000) : F14 n cwd = some (text (opsN n cwd)) := by
  obtain ⟨h20, hM⟩ := small_of h
  have hmem := fun u hu => smallM_mem hM u hu
  have hcd := cd_len cwd
  unfold F14
  refine (iter_big (α := Str × Int) (fun a => ∃ j : Nat, a.2 = j ∧ j ≤ n.mounts_.length ∧ a.1.length ≤ 100000 * j) (fun a => n.mounts_.length - a.2.toNat) (fun a => some (a.1 ++ (text (opsM (n.mounts_.drop a.2.toNat)) ++ text [⟨5, 0, cwd, []⟩]))) ?_ ([], 0) ⟨0, rfl, Nat.zero_le _, Nat.zero_le _⟩ (by simp; omega)).trans (by simp [opsN, text_append])
  rintro again ⟨b, i⟩ ⟨j, hj, hjl, hb⟩ hag
  simp only at hj hb
  subst hj
  rw [F14_b2]
  simp only [Int.toNat_natCast]
  by_cases hlt : j < n.mounts_.length
  · rw [decide_eq_true (by omega), cond_t, lidx_at hlt, drop_at hlt]
    have hag' : ∀ b, b.length ≤ 100000 * (j + 1) → again (b, (j : Int) + 1) = some (b ++ (text (opsM (n.mounts_.drop (j + 1))) ++ text [⟨5, 0, cwd, []⟩])) := fun b hb => hag (b, ((j + 1 : Nat) : Int)) ⟨j + 1, rfl, hlt, hb⟩ (by simp only [Int.toNat_natCast]; omega)
    obtain ⟨g1, g2, g3⟩ := hmem n.mounts_[j] (List.getElem_mem hlt)
    simp only [Option.bind_some]
    generalize n.mounts_[j] = u at g1 g2 g3
    have gl := opsT_len u g2 u.to_ 0 g3
    rw [inner14 u g2 again j g3 g1 b (by omega), wrap64 (by omega) (by omega), hag' _ (by simp only [List.length_append]; omega)]
    simp [opsM, text_append]
  · rw [decide_eq_false (by omega), cond_f, List.drop_eq_nil_of_le (by omega), F24_5 (by omega)]
    simp only [Option.bind_some]
    rw [catO_eq (by omega)]
    simp only [Option.bind_some]
    rw [catO_eq (by simp; omega)]
    simp [opsM, text]

theorem plain4 (n : Ns) (cwd : Str) : F4 n cwd = some true := by
  unfold F4
  rw [F12_eq, awake]
  simp only [Option.bind_some]
  cases h : (!small n || decide (1100 < (cwd.length : Int))) with
  | true => rfl
  | false =>
    simp only [Bool.or_eq_false_iff, Bool.not_eq_false', decide_eq_false_iff_not] at h
    rw [cond_f, F13_eq h.1 (by omega), F14_eq h.1 (by omega)]
    simp only [Option.bind_some, decide_true, guardO_true, Bool.and_true]

/-! ### Print -/

theorem lineR_len {op : NsOp} (h : light op = true) (ho : okOp op = true) : (line op).length ≤ 10000 := by
  have hl := ok_lens ho
  obtain ⟨k, f, n, o⟩ := op
  simp only at hl
  have q1 := quote_len n
  have q2 := quote_len o
  rcases okOp_cases ho with ⟨hk, hf, _, _⟩ | ⟨hk, hf, _, _⟩ | ⟨hk, hf, _, _⟩ | ⟨hk, hf, _, _⟩ <;> simp only at hk hf
  · have := line_len (n := n) (o := o) hk hf
    omega
  · subst hk hf
    have hl : line ⟨3, 0, n, o⟩ = glue 32 (bif decide (n = []) then [verb 3, quote o] else [verb 3, quote n, quote o]) := by
      unfold line words
      cases decide (n = []) <;> rfl
    have hv : (verb 3).length = 7 := rfl
    rw [hl]
    cases decide (n = []) with
    | true => simp [glue]; omega
    | false => simp [glue]; omega
  · subst hk hf
    have : (line ⟨4, 0, n, o⟩).length = 5 := rfl
    omega
  · subst hk hf
    have : line ⟨5, 0, n, o⟩ = [99, 100] ++ 32 :: quote n := rfl
    rw [this]
    simp only [List.length_append, List.length_cons, List.length_nil]
    omega

/-- What Print returns behind what is written. -/
def pr : List NsOp → Str → Str × Int
  | [], b => (b, 0)
  | op :: l, b => bif okOp op then pr l (b ++ (line op ++ [10])) else ([], 1)

def lightL (l : List NsOp) : Bool := l.all light

theorem F17_eq {l : List NsOp} (hl : l.length ≤ 50) (hli : lightL l = true) (hf : ∀ op ∈ l, op.flag_ ≤ 9223372036854775807) : F17 l = some (pr l []) := by
  unfold F17
  rw [iter_rangeS (body := F17_b1 l) l (fun op _ k b => (F10 op).bind fun (r13, r14) => bif !decide (r14 = 0) then some ([], r14) else (catO r13 [10]).bind fun s18 => (L_WriteString b s18).bind fun (_, c22) => k c22) (fun b => (L_String b).bind fun s => some (s, 0)) (fun _ _ _ => rfl) (by omega)]
  have : ∀ (l : List NsOp) (i : Int) (b : Str), lightL l = true → (∀ op ∈ l, op.flag_ ≤ 9223372036854775807) → b.length + 20000 * l.length ≤ 100000000000 →
      loopS (fun op _ k b => (F10 op).bind fun (r13, r14) => bif !decide (r14 = 0) then some ([], r14) else (catO r13 [10]).bind fun s18 => (L_WriteString b s18).bind fun (_, c22) => k c22) (fun b => (L_String b).bind fun s => some (s, 0)) l i b = some (pr l b) := by
    intro l
    induction l with
    | nil => intro i b _ _ _; rfl
    | cons op l ih =>
      intro i b h1 h2 h3
      simp only [lightL, List.all_cons, Bool.and_eq_true] at h1
      simp only [List.length_cons] at h3
      simp only [loopS, F10_eq (h2 op (by simp)), Option.bind_some, pr]
      unfold lineR
      cases ho : okOp op with
      | false => rfl
      | true =>
        have hll := lineR_len h1.1 ho
        have hc : catO (line op) [10] = some (line op ++ [10]) := catO_eq (by simp; omega)
        have hw : L_WriteString b (line op ++ [10]) = some (((line op ++ [10]).length : Int), b ++ (line op ++ [10])) := if_pos (by simp only [List.length_append, List.length_cons, List.length_nil]; omega)
        simp only [cond_t, decide_true, Bool.not_true, cond_f, hc, hw, Option.bind_some]
        exact ih (i + 1) _ h1.2 (fun o h => h2 o (by simp [h])) (by simp only [List.length_append, List.length_cons, List.length_nil]; omega)
  exact this l 0 [] hli hf (by simp; omega)

theorem F18_eq {l : List NsOp} (hl : l.length ≤ 50) (hli : lightL l = true) : F18 l = some (pr l []) := by
  unfold F18
  rw [iter_rangeT (body := F18_b1 l) l (fun op _ k b => (F11 op).bind fun (r13, r14) => bif !decide (r14 = 0) then some ([], r14) else (catO b r13).bind fun s18 => (catO s18 [10]).bind fun s21 => k s21) (fun b => some (b, 0)) (fun _ _ _ => rfl) (by omega)]
  have : ∀ (l : List NsOp) (i : Int) (b : Str), lightL l = true → b.length + 20000 * l.length ≤ 100000000000 →
      loopS (fun op _ k b => (F11 op).bind fun (r13, r14) => bif !decide (r14 = 0) then some ([], r14) else (catO b r13).bind fun s18 => (catO s18 [10]).bind fun s21 => k s21) (fun b => some (b, (0 : Int))) l i b = some (pr l b) := by
    intro l
    induction l with
    | nil => intro i b _ _; rfl
    | cons op l ih =>
      intro i b h1 h3
      simp only [lightL, List.all_cons, Bool.and_eq_true] at h1
      simp only [List.length_cons] at h3
      have hlen := light_len h1.1
      simp only [loopS, F11_eq (op := op) (by omega) (by omega), Option.bind_some, pr]
      unfold lineR
      cases ho : okOp op with
      | false => rfl
      | true =>
        have hll := lineR_len h1.1 ho
        have hc : catO b (line op) = some (b ++ line op) := catO_eq (by omega)
        have hw : catO (b ++ line op) [10] = some (b ++ (line op ++ [10])) := by
          rw [catO_eq (by simp; omega), List.append_assoc]
        simp only [cond_t, decide_true, Bool.not_true, cond_f, hc, hw, Option.bind_some]
        exact ih (i + 1) _ h1.2 (by simp only [List.length_append, List.length_cons, List.length_nil]; omega)
  exact this l 0 [] hli (by simp; omega)

theorem loop_light (next : Option Bool) : ∀ (l : List NsOp) (i : Int), loopR (fun op _ n => (F8 op).bind fun r => bif !r then F9.bind fun r => some r else n) next l i = bif lightL l then next else some true
  | [], _ => rfl
  | op :: l, i => by
    have h8 : F8 op = some (light op) := rfl
    have hc : lightL (op :: l) = (light op && lightL l) := List.all_cons
    rw [loopR, loop_light next l (i + 1), h8, awake, hc]
    cases light op <;> rfl

theorem plain6 (l : List NsOp) (hf : ∀ op ∈ l, op.flag_ ≤ 9223372036854775807) : F6 l = some true := by
  unfold F6
  cases h : decide (50 < (l.length : Int)) with
  | true =>
    rw [cond_t, awake]
    rfl
  | false =>
    simp only [decide_eq_false_iff_not] at h
    rw [cond_f, iter_range (body := F6_b1 l) l (fun op _ n => (F8 op).bind fun r => bif !r then F9.bind fun r => some r else n) _ (fun _ _ => rfl) (by omega), loop_light]
    cases hl : lightL l with
    | false => rfl
    | true =>
      rw [cond_t, F17_eq (by omega) hl hf, F18_eq (by omega) hl, awake]
      simp only [Option.bind_some, decide_true, Bool.and_true, guardO_true]


theorem sidx_mid (pre : Str) (c : UInt8) (r : Str) : sidx (pre ++ c :: r) (pre.length : Int) = some (B c) := by
  rw [sidx_nat]
  simp [B]

theorem sslice_mid (pre : Str) (c : UInt8) (r : Str) : sslice (pre ++ c :: r) (pre.length : Int) ((pre.length : Int) + 1) = some [c] := by
  unfold sslice
  rw [if_pos ⟨by omega, by omega, by simp; omega⟩]
  have : ((pre.length : Int) + 1).toNat - (pre.length : Int).toNat = 1 := by omega
  rw [this, Int.toNat_natCast]
  simp

theorem sslice_end (pre : Str) (r : Str) : sslice (pre ++ r) (pre.length : Int) ((pre ++ r).length : Int) = some r := by
  unfold sslice
  rw [if_pos ⟨by omega, by simp only [List.length_append]; omega, by omega⟩]
  have : (((pre ++ r).length : Int)).toNat - (pre.length : Int).toNat = r.length := by simp only [List.length_append]; omega
  rw [this, Int.toNat_natCast]
  simp

/-- What stands behind a word: nothing, or a blank. -/
def stops (rest : Str) : Prop := rest = [] ∨ ∃ r, rest = 32 :: r

theorem Bf {c d : UInt8} {k : Int} (hk : B d = k) (h : c ≠ d) : decide (B c = k) = false := by
  subst hk
  exact (byte_eq c d).trans (decide_eq_false h)

theorem B39 (c : UInt8) : decide (B c = 39) = decide (c = 39) := byte_eq c 39

/-- A quoted string is read back. -/
theorem unq (rest : Str) (hr : stops rest) : ∀ (t pre x s : Str) (n : Nat), s = pre ++ (dbl t ++ 39 :: rest) → t.length < n → s.length ≤ 1000000000 → x.length + 2 * t.length ≤ 4000000000 →
    iter (F42_b1 s) n (x, (pre.length : Int)) = some (x ++ t, (pre.length : Int) + (dbl t).length + 1, true)
  | _, _, _, _, 0, _, h, _, _ => absurd h (Nat.not_lt_zero _)
  | [], pre, x, s, n + 1, hs, hn, hl, hx => by
    have hlen : s.length = pre.length + (rest.length + 1) := by rw [hs]; simp [dbl]
    show F42_b1 s _ _ = _
    rw [F42_b1]
    have h1 : sidx s (pre.length : Int) = some (B 39) := by rw [hs]; exact sidx_mid pre 39 rest
    rw [decide_eq_true (by omega), cond_t, h1]
    simp only [Option.bind_some]
    rw [B39, decide_eq_true rfl, cond_t, wrap64 (by omega) (by omega)]
    rcases hr with rfl | ⟨r, rfl⟩
    · have he : decide ((pre.length : Int) + 1 = (s.length : Int)) = true := decide_eq_true (by simp at hlen; omega)
      rw [he]
      simp [dbl, guardO]
    · have he : decide ((pre.length : Int) + 1 = (s.length : Int)) = false := decide_eq_false (by simp at hlen; omega)
      have h2 : sidx s ((pre.length : Int) + 1) = some (B 32) := by
        have : s = (pre ++ [39]) ++ 32 :: r := by rw [hs]; simp [dbl]
        rw [this]
        have hh := sidx_mid (pre ++ [39]) 32 r
        rw [List.length_append] at hh
        exact hh
      rw [he, h2]
      simp [dbl, guardO, B]
  | c :: t, pre, x, s, n + 1, hs, hn, hl, hx => by
    show F42_b1 s _ _ = _
    rw [F42_b1]
    simp only [List.length_cons] at hn hx
    by_cases hc : c = 39
    · subst hc
      have hd : dbl (39 :: t) = 39 :: 39 :: dbl t := rfl
      rw [hd] at hs
      have hlen : s.length = pre.length + ((dbl t).length + (rest.length + 1) + 2) := by rw [hs]; simp only [List.length_append, List.length_cons, List.length_nil]; omega
      have h1 : sidx s (pre.length : Int) = some (B 39) := by rw [hs]; exact sidx_mid pre 39 _
      have h2 : s = (pre ++ [39]) ++ 39 :: (dbl t ++ 39 :: rest) := by rw [hs]; simp
      have hp : ((pre ++ [39]).length : Int) = (pre.length : Int) + 1 := by simp
      have h3 : sidx s ((pre.length : Int) + 1) = some (B 39) := by rw [h2, ← hp]; exact sidx_mid _ 39 _
      have h4 : sslice s ((pre.length : Int) + 1) ((pre.length : Int) + 1 + 1) = some [39] := by rw [h2, ← hp]; exact sslice_mid _ 39 _
      have he : decide ((pre.length : Int) + 1 = (s.length : Int)) = false := decide_eq_false (by omega)
      have h5 : s = (pre ++ [39, 39]) ++ (dbl t ++ 39 :: rest) := by rw [hs]; simp
      have ih := unq rest hr t (pre ++ [39, 39]) (x ++ [39]) s n h5 (by omega) hl (by simp; omega)
      have hp2 : ((pre ++ [39, 39]).length : Int) = (pre.length : Int) + 1 + 1 := by simp only [List.length_append, List.length_cons, List.length_nil]; omega
      rw [hp2] at ih
      rw [decide_eq_true (by omega), cond_t, h1]
      simp only [Option.bind_some]
      rw [B39, decide_eq_true rfl, cond_t, wrap64 (by omega) (by omega), he, wrap64 (by omega) (by omega), h3, h4]
      simp only [Bool.not_false, guardO_true, Option.bind_some, B39, decide_true, Bool.not_true, Bool.or_false, cond_f]
      rw [catO_eq (by simp; omega)]
      simp only [Option.bind_some]
      rw [ih, hd]
      simp
      omega
    · have hd : dbl (c :: t) = c :: dbl t := by
        have : decide (B c = 39) = false := by rw [B39]; exact decide_eq_false hc
        simp [dbl, this]
      rw [hd] at hs
      have hlen : s.length = pre.length + ((dbl t).length + (rest.length + 1) + 1) := by rw [hs]; simp only [List.length_append, List.length_cons, List.length_nil]; omega
      have h1 : sidx s (pre.length : Int) = some (B c) := by rw [hs]; exact sidx_mid pre c _
      have h4 : sslice s (pre.length : Int) ((pre.length : Int) + 1) = some [c] := by rw [hs]; exact sslice_mid _ c _
      have h5 : s = (pre ++ [c]) ++ (dbl t ++ 39 :: rest) := by rw [hs]; simp
      have ih := unq rest hr t (pre ++ [c]) (x ++ [c]) s n h5 (by omega) hl (by simp; omega)
      have hp2 : ((pre ++ [c]).length : Int) = (pre.length : Int) + 1 := by simp
      rw [hp2] at ih
      rw [decide_eq_true (by omega), cond_t, h1]
      simp only [Option.bind_some]
      rw [B39, decide_eq_false hc, cond_f, wrap64 (by omega) (by omega), h4]
      simp only [Option.bind_some]
      rw [catO_eq (by simp; omega)]
      simp only [Option.bind_some]
      rw [ih, hd]
      simp
      omega

theorem F42_eq {t rest : Str} (hr : stops rest) (hl : (dbl t ++ 39 :: rest).length ≤ 1000000000) : F42 (dbl t ++ 39 :: rest) = some (t, ((dbl t).length : Int) + 1, true) := by
  have hd : t.length ≤ (dbl t).length := by
    clear hl
    induction t with
    | nil => exact Nat.le_refl _
    | cons c t ih => simp only [dbl]; cases decide (B c = 39) <;> simp <;> omega
  have hlen : (dbl t ++ 39 :: rest).length = (dbl t).length + (rest.length + 1) := by simp
  unfold F42
  have := unq rest hr t [] [] (dbl t ++ 39 :: rest) BIG rfl (by unfold BIG; omega) hl (by simp; omega)
  simpa using this

/-- A word without blanks and quotes. -/
def bare (p : Str) : Prop := ∀ c ∈ p, c ≠ 32 ∧ c ≠ 9 ∧ c ≠ 39

theorem Bne (c : UInt8) (k : Nat) (hk : k < 256) : decide (B c = (k : Int)) = decide (c = UInt8.ofNat k) := by
  rw [Bool.eq_iff_iff, decide_eq_true_eq, decide_eq_true_eq]
  unfold B
  constructor
  · intro h
    have : c.toNat = k := by omega
    rw [← this]; simp
  · rintro rfl
    simp
    omega

section
variable (s : Str) (l : List Word) (c10 : Int) (again6 : (Int × List Word) → Option (List Word × Bool))

def out29 (i : Int) (x : Str) : Option (List Word × Bool) := (appO 24 l [⟨x, decide (c10 = 39)⟩]).bind fun out => again6 (i, out)

theorem end29 {rest : Str} (hr : stops rest) (pre x : Str) (n : Nat) (hs : s = pre ++ rest) (hl : s.length ≤ 1000000000) :
    iter (F29_b3 s l c10 again6) (n + 1) ((pre.length : Int), x) = out29 l c10 again6 (pre.length : Int) x := by
  show F29_b3 s l c10 again6 _ _ = _
  rw [F29_b3]
  rcases hr with rfl | ⟨r, rfl⟩
  · rw [decide_eq_false (by rw [hs]; simp)]
    simp only [guardO_false, Option.bind_some, Bool.false_and, cond_f]
    rfl
  · have h1 : sidx s (pre.length : Int) = some (B 32) := by rw [hs]; exact sidx_mid pre 32 r
    rw [decide_eq_true (by rw [hs]; simp only [List.length_append, List.length_cons]; omega), h1]
    simp only [guardO_true, Option.bind_some]
    have : (true && !decide (B 32 = 32) && !decide (B 32 = 9)) = false := by decide
    rw [this, cond_f]
    rfl

theorem bare29 {rest : Str} (hr : stops rest) (hl : s.length ≤ 1000000000) : ∀ (p pre x : Str) (n : Nat), bare p → s = pre ++ (p ++ rest) → p.length < n → x.length + p.length ≤ 1000000000 →
    iter (F29_b3 s l c10 again6) n ((pre.length : Int), x) = out29 l c10 again6 ((pre.length : Int) + p.length) (x ++ p)
  | _, _, _, 0, _, _, h, _ => absurd h (Nat.not_lt_zero _)
  | [], pre, x, n + 1, _, hs, _, _ => by
    rw [end29 s l c10 again6 hr pre x n hs hl]
    simp
  | c :: p, pre, x, n + 1, hb, hs, hn, hx => by
    simp only [List.length_cons] at hn hx
    have hlen : s.length = pre.length + (p.length + rest.length + 1) := by rw [hs]; simp only [List.length_append, List.length_cons, List.length_nil]; omega
    obtain ⟨h32, h9, h39⟩ := hb c (by simp)
    have h1 : sidx s (pre.length : Int) = some (B c) := by rw [hs]; exact sidx_mid pre c _
    have h4 : sslice s (pre.length : Int) ((pre.length : Int) + 1) = some [c] := by rw [hs]; exact sslice_mid _ c _
    have ih := bare29 hr hl p (pre ++ [c]) (x ++ [c]) n (fun d hd => hb d (by simp [hd])) (by rw [hs]; simp) (by omega) (by simp; omega)
    have hp2 : ((pre ++ [c]).length : Int) = (pre.length : Int) + 1 := by simp
    rw [hp2] at ih
    have d32 : decide (B c = 32) = false := Bf rfl h32
    have d9 : decide (B c = 9) = false := Bf rfl h9
    have d39 : decide (B c = 39) = false := by rw [B39]; exact decide_eq_false h39
    show F29_b3 s l c10 again6 _ _ = _
    rw [F29_b3, decide_eq_true (by omega), h1]
    simp only [guardO_true, Option.bind_some, d32, d9, d39, Bool.not_false, Bool.and_true, cond_t]
    rw [wrap64 (by omega) (by omega), h4]
    simp only [Option.bind_some]
    rw [catO_eq (by simp; omega)]
    simp only [Option.bind_some]
    rw [ih]
    simp only [List.length_cons, List.append_assoc, List.cons_append, List.nil_append]
    congr 1
    omega

theorem quoted29 {rest : Str} (hr : stops rest) (hl : s.length ≤ 1000000000) (t pre : Str) (n : Nat) (hs : s = pre ++ ((39 :: (dbl t ++ [39])) ++ rest)) :
    iter (F29_b3 s l c10 again6) (n + 2) ((pre.length : Int), []) = out29 l c10 again6 ((pre.length : Int) + (39 :: (dbl t ++ [39])).length) t := by
  have hlen : s.length = pre.length + ((dbl t).length + rest.length + 2) := by rw [hs]; simp only [List.length_append, List.length_cons, List.length_nil]; omega
  have hdt : t.length ≤ (dbl t).length := by
    clear hlen hs
    induction t with
    | nil => exact Nat.le_refl _
    | cons c t ih => simp only [dbl]; cases decide (B c = 39) <;> simp <;> omega
  have hs2 : s = pre ++ 39 :: (dbl t ++ 39 :: rest) := by rw [hs]; simp
  have h1 : sidx s (pre.length : Int) = some (B 39) := by rw [hs2]; exact sidx_mid pre 39 _
  have h3 : s = (pre ++ [39]) ++ (dbl t ++ 39 :: rest) := by rw [hs]; simp
  have hp2 : ((pre ++ [39]).length : Int) = (pre.length : Int) + 1 := by simp
  have h4 : sslice s ((pre.length : Int) + 1) (s.length : Int) = some (dbl t ++ 39 :: rest) := by
    have := sslice_end (pre ++ [39]) (dbl t ++ 39 :: rest)
    rw [← h3, hp2] at this
    exact this
  have hF := F42_eq (t := t) hr (by have : (dbl t ++ 39 :: rest).length = (dbl t).length + (rest.length + 1) := by simp
                                    omega)
  have he := end29 s l c10 again6 hr (pre ++ 39 :: (dbl t ++ [39])) t n (by rw [hs]; simp) hl
  have hp3 : ((pre ++ 39 :: (dbl t ++ [39])).length : Int) = (pre.length : Int) + (1 + (((dbl t).length : Int) + 1)) := by simp; omega
  have e1 : (true && !decide (B 39 = 32) && !decide (B 39 = 9)) = true := by decide
  have e2 : (!decide (B 39 = 39)) = false := by decide
  show F29_b3 s l c10 again6 _ _ = _
  rw [F29_b3, decide_eq_true (by omega), h1]
  simp only [guardO_true, Option.bind_some, e1, e2, cond_t, cond_f]
  rw [wrap64 (by omega) (by omega), h4]
  simp only [Option.bind_some, hF, Bool.not_true, cond_f]
  rw [catO_eq (by simp; omega)]
  simp only [Option.bind_some, List.nil_append]
  rw [wrap64 (n := 1 + (((dbl t).length : Int) + 1)) (by omega) (by omega), wrap64 (by omega) (by omega), ← hp3, he, hp3]
  congr 1
  simp
  omega
end

/-- A printed word: how it stands in the line, and what it says. -/
structure PW where
  form : Str
  word : Word

structure PW.ok (w : PW) : Prop where
  how : (w.form = w.word.text_ ∧ bare w.form ∧ w.word.quoted_ = false ∧ ∃ c r, w.form = c :: r ∧ c ≠ 35) ∨ (w.form = 39 :: (dbl w.word.text_ ++ [39]) ∧ w.word.quoted_ = true)

theorem PW.ok.cons {w : PW} (h : w.ok) : ∃ c r, w.form = c :: r ∧ c ≠ 32 ∧ c ≠ 9 ∧ c ≠ 35 ∧ decide (B c = 39) = w.word.quoted_ := by
  rcases h.how with ⟨_, hb, hq, c, r, hf, h35⟩ | ⟨hf, hq⟩
  · obtain ⟨h1, h2, h3⟩ := hb c (by rw [hf]; simp)
    exact ⟨c, r, hf, h1, h2, h35, by rw [hq, B39]; exact decide_eq_false h3⟩
  · exact ⟨39, _, hf, by decide, by decide, by decide, by rw [hq]; rfl⟩

theorem word29 {w : PW} (h : w.ok) {s rest : Str} (hr : stops rest) (hl : s.length ≤ 1000000000) (l : List Word) (again6 : (Int × List Word) → Option (List Word × Bool)) (pre : Str) (hs : s = pre ++ (w.form ++ rest)) {c : UInt8} {r : Str} (hc : w.form = c :: r) :
    iter (F29_b3 s l (B c) again6) BIG ((pre.length : Int), []) = (appO 24 l [w.word]).bind fun out => again6 ((pre.length : Int) + w.form.length, out) := by
  have hlen : s.length = pre.length + (w.form.length + rest.length) := by rw [hs]; simp
  obtain ⟨c', r', hc', _, _, _, hq⟩ := h.cons
  rw [hc] at hc'
  injection hc' with hcc _
  subst hcc
  have hw : (⟨w.word.text_, decide (B c = 39)⟩ : Word) = w.word := by rw [hq]
  rcases h.how with ⟨h1, h2, h3, _⟩ | ⟨h1, h2⟩
  · rw [bare29 s l (B c) again6 hr hl w.form pre [] BIG h2 hs (by unfold BIG; omega) (by simp; omega)]
    unfold out29
    rw [List.nil_append, h1, hw]
  · have : BIG = 1180591620717411303422 + 2 := rfl
    rw [this, quoted29 s l (B c) again6 hr hl w.word.text_ pre _ (by rw [hs, h1])]
    unfold out29
    rw [← h1, hw]

theorem glue_stops : ∀ ws : List Str, ws = [] ∨ ∃ w r, ws = w :: r
  | [] => .inl rfl
  | w :: r => .inr ⟨w, r, rfl⟩

/-- The words of a line are read back. -/
theorem line29 : ∀ (ws : List PW) (pre s : Str) (l : List Word) (n : Nat), (∀ w ∈ ws, w.ok) → s = pre ++ glue 32 (ws.map PW.form) → s.length ≤ 1000000000 → 2 * ws.length < n → l.length + ws.length ≤ 1000000 →
    iter (F29_b2 s) n ((pre.length : Int), l) = some (l ++ ws.map PW.word, true)
  | _, _, _, _, 0, _, _, _, h, _ => absurd h (Nat.not_lt_zero _)
  | [], pre, s, l, n + 1, _, hs, hl, _, _ => by
    show F29_b2 s _ _ = _
    rw [F29_b2, decide_eq_false (by rw [hs]; simp [glue])]
    simp
  | w :: ws, pre, s, l, n + 1, hok, hs, hl, hn, hll => by
    simp only [List.length_cons] at hn hll
    have hw := hok w (by simp)
    obtain ⟨c, r, hc, h32, h9, h35, _⟩ := hw.cons
    have hrest : ∃ rest, s = pre ++ (w.form ++ rest) ∧ stops rest ∧ ((rest = [] ∧ ws = []) ∨ ∃ n', rest = 32 :: glue 32 (ws.map PW.form) ∧ n = n' + 1 ∧ 2 * ws.length < n') := by
      cases ws with
      | nil => exact ⟨[], by rw [hs]; simp [glue], .inl rfl, .inl ⟨rfl, rfl⟩⟩
      | cons v vs => exact ⟨32 :: glue 32 ((v :: vs).map PW.form), by rw [hs]; simp [glue], .inr ⟨_, rfl⟩, .inr ⟨n - 1, rfl, by omega, by simp only [List.length_cons] at hn ⊢; omega⟩⟩
    obtain ⟨rest, hs2, hst, hcase⟩ := hrest
    have hlen : s.length = pre.length + (w.form.length + rest.length) := by rw [hs2]; simp
    have hfl : w.form.length = r.length + 1 := by rw [hc]; simp
    have h1 : sidx s (pre.length : Int) = some (B c) := by rw [hs2, hc]; exact sidx_mid pre c _
    have d32 : decide (B c = 32) = false := Bf rfl h32
    have d9 : decide (B c = 9) = false := Bf rfl h9
    have d35 : decide (B c = 35) = false := Bf rfl h35
    show F29_b2 s _ _ = _
    rw [F29_b2, decide_eq_true (by omega), cond_t, h1]
    simp only [Option.bind_some, d32, d9, d35, cond_f]
    rw [word29 hw hst hl l _ pre hs2 hc, appO_eq (by simp; omega)]
    simp only [Option.bind_some]
    have hp : ((pre ++ w.form).length : Int) = (pre.length : Int) + w.form.length := by simp
    rcases hcase with ⟨hre, hws⟩ | ⟨n', hre, rfl, hn'⟩
    · subst hws
      have hn1 : ∃ m, n = m + 1 := ⟨n - 1, by simp at hn; omega⟩
      obtain ⟨m, rfl⟩ := hn1
      show F29_b2 s _ _ = _
      rw [F29_b2, decide_eq_false (by rw [hre] at hlen; simp at hlen; omega)]
      simp
    · have h2 : sidx s ((pre.length : Int) + w.form.length) = some (B 32) := by
        rw [← hp, hs2, hre, ← List.append_assoc]
        exact sidx_mid _ 32 _
      have ih := line29 ws (pre ++ w.form ++ [32]) s (l ++ [w.word]) n' (fun v hv => hok v (by simp [hv])) (by rw [hs2, hre]; simp) hl hn' (by simp; omega)
      have hp2 : ((pre ++ w.form ++ [32]).length : Int) = (pre.length : Int) + w.form.length + 1 := by simp only [List.length_append, List.length_cons, List.length_nil]; omega
      rw [hp2] at ih
      have e1 : (bif decide (B 32 = 32) then decide (B 32 = 32) else decide (B 32 = 9)) = true := by decide
      show F29_b2 s _ _ = _
      rw [F29_b2, decide_eq_true (by rw [hre] at hlen; simp at hlen; omega), cond_t, h2]
      simp only [Option.bind_some, e1, cond_t]
      rw [wrap64 (by omega) (by omega), ih]
      simp

theorem F29_eq {ws : List PW} (h : ∀ w ∈ ws, w.ok) (hl : (glue 32 (ws.map PW.form)).length ≤ 1000000000) (hw : ws.length ≤ 1000000) : F29 (glue 32 (ws.map PW.form)) = some (ws.map PW.word, true) := by
  unfold F29
  have := line29 ws [] (glue 32 (ws.map PW.form)) [] BIG h rfl hl (by unfold BIG; omega) (by simp; omega)
  simpa using this


def qw (s : Str) : PW := ⟨quote s, ⟨s, !plain s⟩⟩
def bw (s : Str) : PW := ⟨s, ⟨s, false⟩⟩

theorem qw_ok (s : Str) : (qw s).ok := by
  cases h : plain s with
  | false => exact ⟨.inr ⟨by simp [qw, quote, h], by simp [qw, h]⟩⟩
  | true =>
    refine ⟨.inl ⟨by simp [qw, quote, h], ?_, by simp [qw, h], ?_⟩⟩
    · have hf : (qw s).form = s := by simp [qw, quote, h]
      rw [hf]
      cases s with
      | nil => cases h
      | cons c r =>
        simp only [plain, Bool.and_eq_true] at h
        intro d hd
        have := List.all_eq_true.1 h.2 (B d) (List.mem_map.2 ⟨d, hd, rfl⟩)
        refine ⟨?_, ?_, ?_⟩ <;> (rintro rfl; exact absurd this (by decide))
    · have hf : (qw s).form = s := by simp [qw, quote, h]
      rw [hf]
      cases s with
      | nil => cases h
      | cons c r =>
        refine ⟨c, r, rfl, ?_⟩
        rintro rfl
        simp only [plain, Bool.and_eq_true] at h
        exact absurd h.1.2 (by decide)

theorem bw_ok {s : Str} (h : bare s) (h2 : ∃ c r, s = c :: r ∧ c ≠ 35) : (bw s).ok := ⟨.inl ⟨rfl, h, rfl, h2⟩⟩

def flagP (f : Int) : List PW := (flagW f).map bw

def pws (op : NsOp) : List PW :=
  bif decide (op.kind_ = 4) then [bw (verb 4)] else bif decide (op.kind_ = 5) then [bw (verb 5), qw op.new_] else bif decide (op.kind_ = 3) && decide (op.new_ = []) then [bw (verb 3), qw op.old_]
  else bw (verb op.kind_) :: (flagP op.flag_ ++ [qw op.new_, qw op.old_])

theorem pws_form (op : NsOp) : (pws op).map PW.form = words op := by
  unfold pws words
  cases decide (op.kind_ = 4) <;> cases decide (op.kind_ = 5) <;> cases (decide (op.kind_ = 3) && decide (op.new_ = [])) <;> simp [bw, qw, flagP, Function.comp_def]

def bareB (s : Str) : Bool := s.all fun c => decide (c ≠ 32) && decide (c ≠ 9) && decide (c ≠ 39)
def headB : Str → Bool
  | [] => false
  | c :: _ => decide (c ≠ 35)

theorem bw_okB {s : Str} (h : (bareB s && headB s) = true) : (bw s).ok := by
  rw [Bool.and_eq_true] at h
  refine bw_ok (fun c hc => ?_) ?_
  · have := List.all_eq_true.1 h.1 c hc
    simp only [Bool.and_eq_true, decide_eq_true_eq] at this
    exact ⟨this.1.1, this.1.2, this.2⟩
  · cases s with
    | nil => exact absurd h.2 (by decide)
    | cons c r => exact ⟨c, r, rfl, of_decide_eq_true h.2⟩

theorem verb_ok (k : Int) : (bw (verb k)).ok := by
  unfold verb
  cases decide (k = 1) <;> cases decide (k = 2) <;> cases decide (k = 3) <;> cases decide (k = 4) <;> exact bw_okB (by decide)

theorem flagP_ok (f : Int) : ∀ w ∈ flagP f, w.ok := by
  intro w hw
  unfold flagP at hw
  obtain ⟨s, hs, rfl⟩ := List.mem_map.1 hw
  unfold flagW at hs
  revert hs
  cases decide (f = 0) <;> cases decide (f = 1) <;> cases decide (f = 2) <;> cases decide (f = 4) <;> cases decide (f = 5) <;> (intro hs; simp only [cond_t, cond_f, List.mem_singleton, List.not_mem_nil] at hs) <;> first | (subst hs; exact bw_okB (by decide)) | cases hs

theorem pws_ok (op : NsOp) : ∀ w ∈ pws op, w.ok := by
  unfold pws
  intro w hw
  revert hw
  cases decide (op.kind_ = 4) with
  | true => intro hw; simp only [cond_t, List.mem_singleton] at hw; subst hw; exact verb_ok 4
  | false =>
    cases decide (op.kind_ = 5) with
    | true => intro hw; simp only [cond_t, cond_f, List.mem_cons, List.not_mem_nil, or_false] at hw; (rcases hw with rfl | rfl) <;> first | exact verb_ok 5 | exact qw_ok _
    | false =>
      cases (decide (op.kind_ = 3) && decide (op.new_ = [])) with
      | true => intro hw; simp only [cond_t, cond_f, List.mem_cons, List.not_mem_nil, or_false] at hw; (rcases hw with rfl | rfl) <;> first | exact verb_ok 3 | exact qw_ok _
      | false =>
        intro hw
        simp only [cond_f, List.mem_cons, List.mem_append, List.not_mem_nil, or_false] at hw
        (rcases hw with rfl | hw | rfl | rfl) <;> first | exact verb_ok _ | exact flagP_ok _ w hw | exact qw_ok _ | exact qw_ok _

theorem pws_len (op : NsOp) : 1 ≤ (pws op).length ∧ (pws op).length ≤ 4 := by
  unfold pws flagP flagW
  cases decide (op.kind_ = 4) <;> cases decide (op.kind_ = 5) <;> cases (decide (op.kind_ = 3) && decide (op.new_ = [])) <;> cases decide (op.flag_ = 0) <;> cases decide (op.flag_ = 1) <;> cases decide (op.flag_ = 2) <;> cases decide (op.flag_ = 4) <;> cases decide (op.flag_ = 5) <;> simp

theorem line_eq (op : NsOp) : line op = glue 32 ((pws op).map PW.form) := by rw [pws_form]; rfl

theorem F29_line {op : NsOp} (h : (line op).length ≤ 1000000000) : F29 (line op) = some ((pws op).map PW.word, true) := by
  have := pws_len op
  rw [line_eq] at h ⊢
  exact F29_eq (pws_ok op) h (by omega)

/-! ### The operation of the words -/

theorem F57_places (l : List Word) (hl : l.length ≤ 4611686018427387904) (h : ∀ w ∈ l, place w.text_ = true) : F57 l = some (-1) := by
  unfold F57
  rw [iter_range (body := F57_b1 l) l (fun u i n => (F48 u).bind fun r => bif r then some i else n) (some (-1)) (fun _ _ => rfl) (by omega)]
  have : ∀ (l : List Word) (i : Int), (∀ w ∈ l, place w.text_ = true) → loopR (fun u i n => (F48 u).bind fun r => bif r then some i else n) (some (-1)) l i = some (-1) := by
    intro l
    induction l with
    | nil => intro i _; rfl
    | cons w l ih =>
      intro i h
      have h1 : F48 w = some false := by unfold F48; rw [F34_eq, h w (by simp)]; rfl
      simp only [loopR, h1, Option.bind_some, cond_f]
      exact ih _ fun v hv => h v (by simp [hv])
  exact this l 0 h

theorem F47_places {l : List Word} (hl : l.length ≤ 4611686018427387904) (h : ∀ w ∈ l, place w.text_ = true) : F47 l = some false := by
  unfold F47
  rw [F57_places l hl h]
  rfl

theorem F45_plain {s : Str} (h : plain s = true) : F45 s [45] = some false := by
  cases s with
  | nil => cases h
  | cons c r =>
    have hc : c ≠ 45 := by
      rintro rfl
      simp only [plain, Bool.and_eq_true] at h
      exact absurd h.1.1 (by decide)
    have hs : sslice (c :: r) 0 1 = some [c] := by
      have := sslice_mid [] c r
      simpa using this
    unfold F45 F56
    have h1 : decide ((([45] : Str).length : Int) ≤ ((c :: r).length : Int)) = true := decide_eq_true (by simp; omega)
    have h2 : ((([45] : Str).length : Int)) = 1 := rfl
    rw [h1, h2, guardO_true, hs]
    simp [hc]

def ends (op : NsOp) (n : Nat) : Option (NsOp × Bool) := (F22 op).bind fun r => some (op, r)

theorem j2_two {k x : Int} {n o : Str} (q1 q2 : Bool) (hk : k = 1 ∨ k = 2 ∨ k = 3) (hn : n ≠ []) (ho : o ≠ []) (hv : okOp ⟨k, x, n, o⟩ = true) (hx : x ≤ 9223372036854775807) : F32_j2 [⟨n, q1⟩, ⟨o, q2⟩] k x (n, o) = some (⟨k, x, n, o⟩, true) := by
  have h0 : F32_j2 [⟨n, q1⟩, ⟨o, q2⟩] k x (n, o) = (F22 ⟨k, x, n, o⟩).bind fun r23 => some (⟨k, x, n, o⟩, ((true && r23) && (false == decide (k = 4))) && (false || (!decide (o = []) && !decide (n = [])))) := rfl
  rw [h0, F22_eq (op := ⟨k, x, n, o⟩) hx, hv, decide_eq_false hn, decide_eq_false ho, decide_eq_false (p := k = 4) (by omega)]
  rfl

theorem j1_two {k x : Int} {n o : Str} (q1 q2 : Bool) (hk : k = 1 ∨ k = 2 ∨ k = 3) (hn : place n = true) (ho : place o = true) (hv : okOp ⟨k, x, n, o⟩ = true) (hx : x ≤ 9223372036854775807) : F32_j1 k ([⟨n, q1⟩, ⟨o, q2⟩], x) = some (⟨k, x, n, o⟩, true) := by
  have h0 : F32_j1 k ([⟨n, q1⟩, ⟨o, q2⟩], x) = (F47 [⟨n, q1⟩, ⟨o, q2⟩]).bind fun r16 => bif r16 then some (NsOp.mk 0 0 [] [], false) else F32_j2 [⟨n, q1⟩, ⟨o, q2⟩] k x (n, o) := by
    rcases hk with rfl | rfl | rfl <;> kernel_rfl
  rw [h0, F47_places (by simp) (by intro w hw; simp only [List.mem_cons, List.not_mem_nil, or_false] at hw; (rcases hw with rfl | rfl) <;> first | exact hn | exact ho)]
  exact j2_two q1 q2 hk (place_len hn).1 (place_len ho).1 hv hx

theorem F44_verb {k : Int} (h : k = 1 ∨ k = 2 ∨ k = 3 ∨ k = 4 ∨ k = 5) : F44 (verb k) = some k := by
  rcases h with rfl | rfl | rfl | rfl | rfl <;> kernel_rfl

theorem F32_head {k : Int} (h : k = 1 ∨ k = 2 ∨ k = 3 ∨ k = 4 ∨ k = 5) (l11 : List Word) : F32 (⟨verb k, false⟩ :: l11) =
    (guardO ((decide (k = 1) || decide (k = 2)) && decide (0 < (l11.length : Int))) (lidx l11 0)).bind fun u41 =>
    (guardO (((decide (k = 1) || decide (k = 2)) && decide (0 < (l11.length : Int))) && !u41.quoted_) (F45 u41.text_ [45])).bind fun r44 =>
    (bif ((((decide (k = 1) || decide (k = 2)) && decide (0 < (l11.length : Int))) && !u41.quoted_) && r44) then
      (lidx l11 0).bind fun u48 =>
      (F46 u48.text_).bind fun (r51, r52) =>
      (bif !r52 then
        some (NsOp.mk 0 0 [] [], false)
      else
        (lslice l11 1 (l11.length : Int)).bind fun l56 =>
        F32_j1 k (l56, r51))
    else
      F32_j1 k (l11, 0)) := by
  have h1 : decide (((⟨verb k, false⟩ :: l11 : List Word).length : Int) = 0) = false := decide_eq_false (by simp only [List.length_cons]; omega)
  have h2 : lidx (⟨verb k, false⟩ :: l11 : List Word) 0 = some ⟨verb k, false⟩ := rfl
  have h3 : lslice (⟨verb k, false⟩ :: l11 : List Word) 1 ((⟨verb k, false⟩ :: l11 : List Word).length : Int) = some l11 := by
    unfold lslice
    rw [if_pos ⟨by omega, by simp only [List.length_cons]; omega, by omega⟩]
    have : (((⟨verb k, false⟩ :: l11 : List Word).length : Int)).toNat - (1 : Int).toNat = l11.length := by simp
    rw [this]
    simp
  unfold F32
  rw [h1, cond_f, h2]
  simp only [Option.bind_some]
  rw [F44_verb h]
  simp only [Option.bind_some]
  rw [h3]
  rfl

theorem F32_flag {k f : Int} {n o : Str} {q1 q2 : Bool} (hk : k = 1 ∨ k = 2) (hf : flagged f = true) (h0 : f ≠ 0) : F32 (⟨verb k, false⟩ :: ((flagP f).map PW.word ++ [⟨n, q1⟩, ⟨o, q2⟩])) = F32_j1 k ([⟨n, q1⟩, ⟨o, q2⟩], f) := by
  rw [F32_head (by omega)]
  rcases hk with rfl | rfl <;> rcases flagged_cases hf with rfl | rfl | rfl | rfl | rfl | rfl <;> first | exact absurd rfl h0 | kernel_rfl

theorem F32_noflag {k : Int} {n : Str} {l : List Word} (hk : k = 1 ∨ k = 2 ∨ k = 3) : F32 (⟨verb k, false⟩ :: ⟨n, !plain n⟩ :: l) = F32_j1 k (⟨n, !plain n⟩ :: l, 0) := by
  rw [F32_head (by omega)]
  have h1 : decide (0 < ((⟨n, !plain n⟩ :: l : List Word).length : Int)) = true := decide_eq_true (by simp only [List.length_cons]; omega)
  have h2 : lidx (⟨n, !plain n⟩ :: l : List Word) 0 = some ⟨n, !plain n⟩ := rfl
  rw [h1, h2]
  rcases hk with rfl | rfl | rfl
  · cases hp : plain n with
    | false => rfl
    | true =>
      have : ((decide ((1 : Int) = 1) || decide ((1 : Int) = 2)) && true) = true := rfl
      rw [this, guardO_true]
      simp only [Bool.and_true, guardO_true, Option.bind_some, Bool.not_true, Bool.not_false, F45_plain hp, Bool.and_false, cond_f]
  · cases hp : plain n with
    | false => rfl
    | true =>
      have : ((decide ((2 : Int) = 1) || decide ((2 : Int) = 2)) && true) = true := rfl
      rw [this, guardO_true]
      simp only [Bool.and_true, guardO_true, Option.bind_some, Bool.not_true, Bool.not_false, F45_plain hp, Bool.and_false, cond_f]
  · rfl

theorem F32_eq {op : NsOp} (h : okOp op = true) : F32 ((pws op).map PW.word) = some (op, true) := by
  have h' := h
  obtain ⟨k, f, n, o⟩ := op
  rcases okOp_cases h with ⟨hk, hf, hn, ho⟩ | ⟨hk, hf, hn, ho⟩ | ⟨hk, hf, hn, ho⟩ | ⟨hk, hf, hn, ho⟩ <;> simp only at hk hf hn ho
  · have hfx : f ≤ 9223372036854775807 := by have := flagged_cases hf; omega
    have hp : pws ⟨k, f, n, o⟩ = bw (verb k) :: (flagP f ++ [qw n, qw o]) := by
      rcases hk with rfl | rfl <;> rfl
    rw [hp]
    simp only [List.map_cons, List.map_append, List.map_nil, bw, qw]
    by_cases h0 : f = 0
    · subst h0
      have : (flagP 0).map PW.word = [] := rfl
      rw [this, List.nil_append, F32_noflag (by omega)]
      exact j1_two _ _ (by omega) hn ho h' hfx
    · rw [F32_flag hk hf h0]
      exact j1_two _ _ (by omega) hn ho h' hfx
  · subst hk hf
    rcases hn with rfl | hn
    · have hp : pws ⟨3, 0, [], o⟩ = [bw (verb 3), qw o] := rfl
      rw [hp]
      simp only [List.map_cons, List.map_nil, bw, qw]
      rw [F32_noflag (by omega)]
      have h0 : F32_j1 3 ([⟨o, !plain o⟩], 0) = (F47 [⟨o, !plain o⟩]).bind fun r16 => bif r16 then some (NsOp.mk 0 0 [] [], false) else F32_j2 [⟨o, !plain o⟩] 3 0 ([], o) := by kernel_rfl
      have h1 : F32_j2 [⟨o, !plain o⟩] 3 0 ([], o) = (F22 ⟨3, 0, [], o⟩).bind fun r23 => some (⟨3, 0, [], o⟩, ((true && r23) && true) && true) := by kernel_rfl
      rw [h0, F47_places (by simp) (by intro w hw; simp only [List.mem_cons, List.not_mem_nil, or_false] at hw; subst hw; exact ho)]
      simp only [Option.bind_some, cond_f]
      rw [h1, F22_eq (op := ⟨3, 0, [], o⟩) (by simp), h']
      rfl
    · have hp : pws ⟨3, 0, n, o⟩ = [bw (verb 3), qw n, qw o] := by
        have : decide (n = []) = false := decide_eq_false (place_len hn).1
        simp [pws, this, flagP, flagW]
      rw [hp]
      simp only [List.map_cons, List.map_nil, bw, qw]
      rw [F32_noflag (by omega)]
      exact j1_two _ _ (by omega) hn ho h' (by omega)
  · subst hk hf hn ho
    exact (by kernel_rfl : F32 [⟨verb 4, false⟩] = some (⟨4, 0, [], []⟩, true))
  · subst hk hf ho
    have hp : pws ⟨5, 0, n, []⟩ = [bw (verb 5), qw n] := rfl
    have h00 : F32 [⟨verb 5, false⟩, ⟨n, !plain n⟩] = F32_j1 5 ([⟨n, !plain n⟩], 0) := by
      rw [F32_head (by omega)]
      rfl
    rw [hp]
    simp only [List.map_cons, List.map_nil, bw, qw]
    have h0 : F32_j1 5 ([⟨n, !plain n⟩], 0) = (F47 [⟨n, !plain n⟩]).bind fun r16 => bif r16 then some (NsOp.mk 0 0 [] [], false) else F32_j2 [⟨n, !plain n⟩] 5 0 (n, []) := by kernel_rfl
    have h1 : F32_j2 [⟨n, !plain n⟩] 5 0 (n, []) = (F22 ⟨5, 0, n, []⟩).bind fun r23 => some (⟨5, 0, n, []⟩, ((true && r23) && true) && true) := by kernel_rfl
    rw [h00, h0, F47_places (by simp) (by intro w hw; simp only [List.mem_cons, List.not_mem_nil, or_false] at hw; subst hw; exact hn)]
    simp only [Option.bind_some, cond_f]
    rw [h1, F22_eq (op := ⟨5, 0, n, []⟩) (by simp), h']
    rfl

/-! ### No line feed and no zero in a line -/

def nice (s : Str) : Prop := ∀ c ∈ s, c ≠ 0 ∧ c ≠ 10

theorem nice.append {a b : Str} (ha : nice a) (hb : nice b) : nice (a ++ b) := fun c hc => (List.mem_append.1 hc).elim (ha c) (hb c)
theorem nice.cons {c : UInt8} {b : Str} (h0 : c ≠ 0) (h1 : c ≠ 10) (hb : nice b) : nice (c :: b) := fun d hd => by
  rcases List.mem_cons.1 hd with rfl | hd
  · exact ⟨h0, h1⟩
  · exact hb d hd
theorem nice.nil : nice [] := fun c hc => by cases hc
theorem nice_B {s : Str} (h : (s.all fun c => decide (c ≠ 0) && decide (c ≠ 10)) = true) : nice s := fun c hc => by
  have := List.all_eq_true.1 h c hc
  simpa using this

theorem nice_dbl : ∀ {s : Str}, nice s → nice (dbl s)
  | [], _ => nice.nil
  | c :: r, h => by
    have ih := nice_dbl (s := r) fun d hd => h d (by simp [hd])
    obtain ⟨h0, h1⟩ := h c (by simp)
    simp only [dbl]
    cases decide (B c = 39) with
    | true => exact .cons h0 h1 (.cons (by decide) (by decide) ih)
    | false => exact .cons h0 h1 ih

theorem nice_quote {s : Str} (h : nice s) : nice (quote s) := by
  unfold quote
  cases plain s with
  | true => exact h
  | false => exact .cons (by decide) (by decide) ((nice_dbl h).append (nice_B (by decide)))

theorem nice_glue : ∀ {ws : List Str}, (∀ w ∈ ws, nice w) → nice (glue 32 ws)
  | [], _ => nice.nil
  | [x], h => h x (by simp)
  | x :: y :: r, h => (h x (by simp)).append (.cons (by decide) (by decide) (nice_glue (ws := y :: r) fun w hw => h w (by simp at hw ⊢; exact .inr hw)))

theorem nice_place {s : Str} (h : place s = true) : nice s := fun _ hc => place_free h hc

theorem nice_verb (k : Int) : nice (verb k) := by
  unfold verb
  cases decide (k = 1) <;> cases decide (k = 2) <;> cases decide (k = 3) <;> cases decide (k = 4) <;> exact nice_B (by decide)

theorem nice_flag (f : Int) : ∀ w ∈ flagW f, nice w := by
  intro s hs
  unfold flagW at hs
  revert hs
  cases decide (f = 0) <;> cases decide (f = 1) <;> cases decide (f = 2) <;> cases decide (f = 4) <;> cases decide (f = 5) <;> (intro hs; simp only [cond_t, cond_f, List.mem_singleton, List.not_mem_nil] at hs) <;> first | (subst hs; exact nice_B (by decide)) | cases hs

theorem nice_line {op : NsOp} (h : okOp op = true) : nice (line op) := by
  have hnew : op.new_ = [] ∨ nice op.new_ := by
    rcases okOp_cases h with ⟨_, _, h1, _⟩ | ⟨_, _, h1, _⟩ | ⟨_, _, h1, _⟩ | ⟨_, _, h1, _⟩
    · exact .inr (nice_place h1)
    · exact h1.imp id nice_place
    · exact .inl h1
    · exact .inr (nice_place h1)
  have hold : op.old_ = [] ∨ nice op.old_ := by
    rcases okOp_cases h with ⟨_, _, _, h1⟩ | ⟨_, _, _, h1⟩ | ⟨_, _, _, h1⟩ | ⟨_, _, _, h1⟩
    · exact .inr (nice_place h1)
    · exact .inr (nice_place h1)
    · exact .inl h1
    · exact .inl h1
  have hn : nice (quote op.new_) := by
    rcases hnew with h | h
    · rw [h]; exact nice_B (by decide)
    · exact nice_quote h
  have ho : nice (quote op.old_) := by
    rcases hold with h | h
    · rw [h]; exact nice_B (by decide)
    · exact nice_quote h
  unfold line words
  refine nice_glue ?_
  intro w hw
  revert hw
  cases decide (op.kind_ = 4) with
  | true => intro hw; simp only [cond_t, List.mem_singleton] at hw; subst hw; exact nice_verb 4
  | false =>
    cases decide (op.kind_ = 5) with
    | true => intro hw; simp only [cond_t, cond_f, List.mem_cons, List.not_mem_nil, or_false] at hw; (rcases hw with rfl | rfl) <;> first | exact nice_verb 5 | exact hn
    | false =>
      cases (decide (op.kind_ = 3) && decide (op.new_ = [])) with
      | true => intro hw; simp only [cond_t, cond_f, List.mem_cons, List.not_mem_nil, or_false] at hw; (rcases hw with rfl | rfl) <;> first | exact nice_verb 3 | exact ho
      | false =>
        intro hw
        simp only [cond_f, List.mem_cons, List.mem_append, List.not_mem_nil, or_false] at hw
        (rcases hw with rfl | hw | rfl | rfl) <;> first | exact nice_verb _ | exact nice_flag _ w hw | exact hn | exact ho

theorem nice_index {s : Str} (h : nice s) : decide (0 ≤ Lib.indexByte s 0) = false ∧ decide (0 ≤ Lib.indexByte s 10) = false := by
  have h1 : (s.map B).all okP = true := by
    rw [List.all_eq_true]
    intro x hx
    obtain ⟨c, hc, rfl⟩ := List.mem_map.1 hx
    obtain ⟨h0, h10⟩ := h c hc
    unfold okP
    rw [(Bf rfl h0 : decide (B c = 0) = false), (Bf rfl h10 : decide (B c = 10) = false)]
    rfl
  rw [all_okP, Bool.and_eq_true, decide_eq_true_eq, decide_eq_true_eq] at h1
  exact ⟨decide_eq_false (by omega), decide_eq_false (by omega)⟩

theorem F20_line {op : NsOp} (h : okOp op = true) (hl : (line op).length ≤ 1000000000) : F20 (line op) = some (op, 0) := by
  obtain ⟨h0, h10⟩ := nice_index (nice_line h)
  have e0 : L_IndexByte (line op) 0 = some (Lib.indexByte (line op) 0) := rfl
  have e10 : L_IndexByte (line op) 10 = some (Lib.indexByte (line op) 10) := rfl
  unfold F20
  rw [e0, e10]
  simp only [Option.bind_some, h0, Bool.not_false, guardO_true, h10, Bool.or_self, cond_f]
  rw [F29_line hl]
  simp only [Option.bind_some, Bool.not_true, cond_f]
  rw [F32_eq h]
  rfl


/-- The parts of a text between separators. -/
def parts (c : UInt8) : Str → List Str
  | [] => [[]]
  | x :: r => if x = c then [] :: parts c r else match parts c r with
    | [] => [[x]]
    | p :: ps => (x :: p) :: ps

theorem parts_ne (c : UInt8) : ∀ s : Str, ∃ p ps, parts c s = p :: ps
  | [] => ⟨[], [], rfl⟩
  | x :: r => by
    obtain ⟨p, ps, h⟩ := parts_ne c r
    simp only [parts]
    split
    · exact ⟨_, _, rfl⟩
    · rw [h]
      exact ⟨_, _, rfl⟩

theorem parts_hit {c : UInt8} : ∀ (n : Nat) (t : Str), n < t.length → (∀ j, j < n → t.getD j 0 ≠ c) → t.getD n 0 = c → parts c t = t.take n :: parts c (t.drop (n + 1))
  | 0, [], h, _, _ => by simp at h
  | 0, x :: r, _, _, h2 => by
    simp only [List.getD_cons_zero] at h2
    simp [parts, h2]
  | n + 1, [], h, _, _ => by simp at h
  | n + 1, x :: r, h, h1, h2 => by
    have hx : x ≠ c := by simpa using h1 0 (by omega)
    have ih := parts_hit n r (by simpa using h) (fun j hj => by simpa using h1 (j + 1) (by omega)) (by simpa using h2)
    simp only [parts, if_neg hx]
    rw [ih]
    simp

theorem parts_last {c : UInt8} : ∀ (t : Str), (∀ j, j < t.length → t.getD j 0 ≠ c) → parts c t = [t]
  | [], _ => rfl
  | x :: r, h => by
    have hx : x ≠ c := by simpa using h 0 (by simp)
    have ih := parts_last r (fun j hj => by simpa using h (j + 1) (by simpa using hj))
    simp only [parts, if_neg hx]
    rw [ih]

theorem parts_cut {c : UInt8} (b : Str) : ∀ (a : Str), c ∉ a → parts c (a ++ c :: b) = a :: parts c b
  | [], _ => by simp [parts]
  | x :: r, h => by
    simp only [List.mem_cons, not_or] at h
    simp only [List.cons_append, parts, if_neg (fun e => h.1 (Eq.symm e)), parts_cut b r h.2]

theorem index1 (c : UInt8) : ∀ s : Str, (Lib.index s [c] = -1 ∧ ∀ j, j < s.length → s.getD j 0 ≠ c) ∨ ∃ i : Nat, i < s.length ∧ Lib.index s [c] = i ∧ s.getD i 0 = c ∧ ∀ j, j < i → s.getD j 0 ≠ c
  | [] => .inl ⟨rfl, fun j hj => absurd hj (Nat.not_lt_zero j)⟩
  | x :: r => by
    by_cases hx : c = x
    · refine .inr ⟨0, by simp, ?_, by simp [hx], fun j hj => absurd hj (Nat.not_lt_zero j)⟩
      simp [Lib.index, List.isPrefixOf, hx]
    · have hp : ([c] : Str).isPrefixOf (x :: r) = false := by simp [List.isPrefixOf, hx]
      rcases index1 c r with ⟨h1, h2⟩ | ⟨i, hi, h1, h2, h3⟩
      · refine .inl ⟨by simp [Lib.index, hp, h1], fun j hj => ?_⟩
        cases j with
        | zero => simpa using fun e => hx (Eq.symm e)
        | succ j => simpa using h2 j (by simpa using hj)
      · refine .inr ⟨i + 1, by simpa using hi, ?_, by simpa using h2, fun j hj => ?_⟩
        · have : ((i : Int) == -1) = false := by rw [beq_eq_false_iff_ne]; omega
          simp [Lib.index, hp, h1, this]
        · cases j with
          | zero => simpa using fun e => hx (Eq.symm e)
          | succ j => simpa using h3 j (by omega)

theorem splitK_parts (c : UInt8) : ∀ (fuel : Nat) (s : Str), s.length < fuel → Lib.splitK [c] 0 (Lib.countFrom [c] fuel s) s = parts c s
  | 0, s, h => absurd h (Nat.not_lt_zero _)
  | fuel + 1, s, h => by
    simp only [Lib.countFrom]
    rcases index1 c s with ⟨h1, h2⟩ | ⟨i, hi, h1, h2, h3⟩
    · rw [h1]
      simp only [beq_self_eq_true, if_true]
      rw [parts_last s h2]
      rfl
    · have hne : ((i : Int) == -1) = false := by rw [beq_eq_false_iff_ne]; omega
      rw [h1, hne]
      simp only [Bool.false_eq_true, if_false, Int.toNat_natCast, List.length_singleton]
      rw [Nat.add_comm 1, Lib.splitK, h1, hne]
      simp only [Bool.false_eq_true, if_false, Int.toNat_natCast, List.length_singleton, Nat.add_zero]
      rw [splitK_parts c fuel (s.drop (i + 1)) (by simp; omega), parts_hit i s hi h3 h2]

theorem splitS_parts (s : Str) (c : UInt8) : splitS s [c] = parts c s := by
  unfold splitS
  have := Lib.splitB_data ⟨⟨[c]⟩⟩ 0 (Lib.countB ⟨⟨s⟩⟩ ⟨⟨[c]⟩⟩) ⟨⟨s⟩⟩
  rw [this]
  exact splitK_parts c (s.length + 1) s (Nat.lt_succ_self _)

theorem L_Split_eq {s : Str} (c : UInt8) (h : s.length ≤ 4294967280) : L_Split s [c] = some (parts c s) := by
  unfold L_Split
  rw [if_pos ⟨by omega, by simp⟩, splitS_parts]

/-! ### Texts of lines -/

theorem parts_text : ∀ l : List NsOp, (∀ op ∈ l, okOp op = true) → parts 10 (text l) = l.map line ++ [[]]
  | [], _ => rfl
  | op :: l, h => by
    have h10 : (10 : UInt8) ∉ line op := fun hm => (nice_line (h op (by simp)) 10 hm).2 rfl
    rw [text, parts_cut _ _ h10, parts_text l fun o ho => h o (by simp [ho])]
    rfl

theorem text_mem : ∀ {l : List NsOp} {op : NsOp}, op ∈ l → (line op).length ≤ (text l).length
  | [], _, h => by cases h
  | x :: l, op, h => by
    simp only [text, List.length_append, List.length_cons]
    rcases List.mem_cons.1 h with rfl | h
    · omega
    · have := text_mem h
      omega

theorem text_long : ∀ l : List NsOp, l.length ≤ (text l).length
  | [] => Nat.le_refl _
  | op :: l => by
    have := text_long l
    simp only [text, List.length_append, List.length_cons]
    omega

theorem F29_nil : F29 [] = some ([], true) := by kernel_rfl

def G16 : Str → Int → (List NsOp → Option (List NsOp × Int × Int)) → List NsOp → Option (List NsOp × Int × Int) := fun w i k acc =>
  (F29 w).bind fun (r18, r19) => bif (r19 && decide ((r18.length : Int) = 0)) then k acc else (F20 w).bind fun (r23, r24) => bif !decide (r24 = 0) then some ([], i, r24) else (appO 48 acc [r23]).bind fun out28 => k out28

theorem loop16 : ∀ (l : List NsOp) (i : Int) (acc : List NsOp), (∀ op ∈ l, okOp op = true) → (∀ op ∈ l, (line op).length ≤ 1000000000) → acc.length + l.length ≤ 1000000000 →
    loopS G16 (fun acc => some (acc, 0, 0)) (l.map line ++ [[]]) i acc = some (acc ++ l, 0, 0)
  | [], i, acc, _, _, _ => by
    simp only [List.map_nil, List.nil_append, loopS]
    unfold G16
    rw [F29_nil]
    simp
  | op :: l, i, acc, h, hl, ha => by
    simp only [List.length_cons] at ha
    have ih := loop16 l (i + 1) (acc ++ [op]) (fun o ho => h o (by simp [ho])) (fun o ho => hl o (by simp [ho])) (by simp; omega)
    have hp := pws_len op
    have hlen : decide ((((pws op).map PW.word).length : Int) = 0) = false := decide_eq_false (by rw [List.length_map]; omega)
    simp only [List.map_cons, List.cons_append, loopS]
    rw [G16, F29_line (hl op (by simp)), F20_line (h op (by simp)) (hl op (by simp))]
    simp only [Option.bind_some, hlen, Bool.and_false, cond_f, decide_true, Bool.not_true]
    rw [appO_eq (by simp; omega)]
    simp only [Option.bind_some]
    rw [ih]
    simp

theorem F16_text {l : List NsOp} (h : ∀ op ∈ l, okOp op = true) (hl : (text l).length ≤ 65536) : F16 (text l) = some (l, 0, 0) := by
  have hm := text_long l
  unfold F16
  rw [decide_eq_false (by omega), cond_f, L_Split_eq 10 (by omega)]
  simp only [Option.bind_some]
  rw [parts_text l h, iter_rangeS (body := F16_b1 (l.map line ++ [[]])) (l.map line ++ [[]]) G16 (fun acc => some (acc, 0, 0)) (fun _ _ _ => rfl) (by simp; omega), loop16 l 0 [] h (fun op ho => by have := text_mem ho; omega) (by simp; omega)]
  rfl

theorem F16_long {l : Str} (hl : 65536 < l.length) : F16 l = some ([], 0, 4) := by
  unfold F16
  rw [decide_eq_true (by omega)]
  rfl

theorem op_same (u : NsOp) : (decide (u.kind_ = u.kind_) && (decide (u.flag_ = u.flag_) && (decide (u.new_ = u.new_) && (decide (u.old_ = u.old_))))) = true := by simp

theorem F21_same {l : List NsOp} (hl : l.length ≤ 1000000) : F21 l l = some true := by
  unfold F21
  rw [decide_eq_true rfl, Bool.not_true, cond_f]
  rw [iter_range (body := F21_b1 l l) l (fun _ _ n => n) (some true) ?_ (by omega)]
  · have : ∀ (l : List NsOp) (i : Int), loopR (fun _ _ n => n) (some true) l i = some true := by
      intro l
      induction l with
      | nil => intro i; rfl
      | cons _ l ih => intro i; exact ih _
    exact this l 0
  · intro again i
    rw [F21_b1]
    cases hx : lidx l i with
    | none => rfl
    | some u =>
      simp only [Option.bind_some, decide_true, Bool.and_self, Bool.not_true, cond_f]

/-! ### Law 7 -/

theorem pr_text : ∀ (l : List NsOp) (b : Str), (∀ op ∈ l, okOp op = true) → pr l b = (b ++ text l, 0)
  | [], b, _ => by simp [pr, text]
  | op :: l, b, h => by
    rw [pr, h op (by simp), cond_t, pr_text l _ fun o ho => h o (by simp [ho])]
    simp [text]

def G7 : NsOp → Int → Option Bool → Option Bool := fun u12 _ n =>
  (F8 u12).bind fun r15 =>
    (guardO r15 (F19 u12)).bind fun r18 =>
    (bif (!r15 || !r18) then
      (F9).bind fun r22 =>
      some r22
    else
      (F10 u12).bind fun (r25, r26) =>
      (F20 r25).bind fun (r29, r30) =>
      (bif ((!decide (r26 = 0) || !decide (r30 = 0)) || !(decide (r29.kind_ = u12.kind_) && (decide (r29.flag_ = u12.flag_) && (decide (r29.new_ = u12.new_) && (decide (r29.old_ = u12.old_)))))) then
        some false
      else n))

theorem step7 (u : NsOp) (i : Int) (n : Option Bool) (hf : u.flag_ ≤ 9223372036854775807) : G7 u i n = bif light u && okOp u then n else some true := by
  have h8 : F8 u = some (light u) := rfl
  unfold G7
  rw [h8, awake]
  simp only [Option.bind_some]
  cases hl : light u with
  | false => rfl
  | true =>
    have hlen := light_len hl
    rw [guardO_true, F19_eq (by omega) (by omega)]
    simp only [Option.bind_some]
    cases ho : okOp u with
    | false => rfl
    | true =>
      have h10 : F10 u = some (line u, 0) := by rw [F10_eq hf, lineR, ho]; rfl
      have hll := lineR_len hl ho
      rw [h10]
      simp only [Option.bind_some, Bool.not_true, Bool.or_self, cond_f]
      rw [F20_line ho (by omega)]
      simp only [Option.bind_some, decide_true, Bool.not_true, Bool.or_self, op_same, cond_f, Bool.and_true, cond_t, Bool.and_self]

theorem loop7 (fin : Option Bool) : ∀ (l : List NsOp) (i : Int), (∀ op ∈ l, op.flag_ ≤ 9223372036854775807) → loopR G7 fin l i = bif l.all (fun u => light u && okOp u) then fin else some true
  | [], _, _ => rfl
  | u :: l, i, h => by
    rw [loopR, loop7 fin l (i + 1) fun o ho => h o (by simp [ho]), step7 u i _ (h u (by simp)), List.all_cons]
    cases light u && okOp u <;> rfl

theorem plain7 (l : List NsOp) (hf : ∀ op ∈ l, op.flag_ ≤ 9223372036854775807) : F7 l = some true := by
  unfold F7
  cases h : decide (50 < (l.length : Int)) with
  | true => rw [cond_t, awake]; rfl
  | false =>
    simp only [decide_eq_false_iff_not] at h
    rw [cond_f, iter_range (body := F7_b1 l) l G7 _ (fun _ _ => rfl) (by omega), loop7 _ l 0 hf]
    cases ha : l.all (fun u => light u && okOp u) with
    | false => rfl
    | true =>
      rw [List.all_eq_true] at ha
      have hok : ∀ op ∈ l, okOp op = true := fun op ho => ((Bool.and_eq_true _ _).mp (ha op ho)).2
      have hli : lightL l = true := List.all_eq_true.2 fun op ho => ((Bool.and_eq_true _ _).mp (ha op ho)).1
      rw [cond_t, F17_eq (by omega) hli hf, pr_text l [] hok, awake]
      simp only [Option.bind_some, List.nil_append, decide_true, Bool.not_true, cond_f]
      by_cases hb : (text l).length ≤ 65536
      · rw [F16_text hok hb, decide_eq_false (p := 65536 < ((text l).length : Int)) (by omega)]
        simp only [Option.bind_some, cond_f]
        rw [F21_same (by omega)]
        rfl
      · rw [F16_long (by omega), decide_eq_true (p := 65536 < ((text l).length : Int)) (by omega)]
        rfl

/-! ### Law 5 -/

def putT (u : Mount) : List Target → Bool
  | [] => true
  | t :: ts => (place t.chan_.name_ && place u.from_.name_) && putT u ts
def putM : List Mount → Bool
  | [] => true
  | u :: us => putT u u.to_ && putM us

def G5 (u : Mount) : Target → Int → (Int → Option Bool) → Int → Option Bool := fun u29 i24 k many23 =>
    (F15 u29.chan_.name_).bind fun r32 =>
    (guardO r32 (F15 u.from_.name_)).bind fun r35 =>
    (bif (!r32 || !r35) then
      (F9).bind fun r39 =>
      some r39
    else
      (bif (((decide (0 < i24) || u29.create_) || !decide (u29.chan_.dev_ = u.from_.dev_)) || !decide (u29.chan_.id_ = u.from_.id_)) then
        k (IntKind.wrap .i64 (many23 + 1))
      else
        k many23))

theorem skip_eq (u : Mount) (t : Target) (i : Int) (hi : 0 ≤ i) : (((decide (0 < i) || t.create_) || !decide (t.chan_.dev_ = u.from_.dev_)) || !decide (t.chan_.id_ = u.from_.id_)) = !skip u t i := by
  unfold skip
  have : decide (0 < i) = !decide (i = 0) := by
    by_cases h : i = 0
    · subst h; rfl
    · rw [decide_eq_false h, decide_eq_true (by omega)]; rfl
  rw [this]
  cases decide (i = 0) <;> cases t.create_ <;> cases decide (t.chan_.dev_ = u.from_.dev_) <;> cases decide (t.chan_.id_ = u.from_.id_) <;> rfl

theorem loop5 (u : Mount) (hu : u.from_.name_.length ≤ 1100) (fin : Int → Option Bool) : ∀ (ts : List Target) (i many : Int), (∀ t ∈ ts, t.chan_.name_.length ≤ 1100) → 0 ≤ i → 0 ≤ many → many + ts.length ≤ 1000000 →
    loopS (G5 u) fin ts i many = bif putT u ts then fin (many + (opsT u ts i).length) else some true
  | [], _, _, _, _, _, _ => by simp [loopS, putT, opsT]
  | t :: ts, i, many, h, hi, hm, hb => by
    simp only [List.length_cons] at hb
    have ht := h t (by simp)
    have ih := fun m h0 hb => loop5 u hu fin ts (i + 1) m (fun t ht => h t (by simp [ht])) (by omega) h0 hb
    rw [loopS, G5, F15_eq (by omega), F15_eq (by omega), awake, skip_eq u t i hi]
    simp only [Option.bind_some, putT, opsT]
    cases hp : place t.chan_.name_ with
    | false => rfl
    | true =>
      simp only [guardO_true, Option.bind_some]
      cases hq : place u.from_.name_ with
      | false => rfl
      | true =>
        simp only [Bool.not_true, Bool.or_self, cond_f, Bool.true_and]
        cases skip u t i with
        | true =>
          simp only [Bool.not_true, cond_f, cond_t, List.nil_append]
          exact ih many hm (by omega)
        | false =>
          simp only [Bool.not_false, cond_t, cond_f, List.cons_append, List.nil_append, List.length_cons]
          rw [wrap64 (by omega) (by omega), ih (many + 1) (by omega) (by omega)]
          congr 2
          omega

theorem opsT_count (u : Mount) : ∀ (ts : List Target) (i : Int), (opsT u ts i).length ≤ ts.length
  | [], _ => Nat.le_refl _
  | t :: ts, i => by
    have := opsT_count u ts (i + 1)
    simp only [opsT, List.length_append, List.length_cons]
    cases skip u t i <;> simp <;> omega

theorem opsM_count : ∀ l : List Mount, smallM l = true → (opsM l).length ≤ 20 * l.length
  | [], _ => Nat.le_refl _
  | u :: l, h => by
    obtain ⟨h1, h2, h3⟩ := smallM_mem h u (by simp)
    have h4 := opsT_count u u.to_ 0
    simp only [smallM, Bool.and_eq_true] at h
    have ih := opsM_count l h.2
    simp only [opsM, List.length_append, List.length_cons]
    omega

theorem opsT_ok (u : Mount) : ∀ (ts : List Target) (i : Int), putT u ts = true → ∀ op ∈ opsT u ts i, okOp op = true ∧ op.kind_ = 1
  | [], _, _, _, h => by cases h
  | t :: ts, i, hp, op, h => by
    simp only [putT, Bool.and_eq_true] at hp
    simp only [opsT, List.mem_append] at h
    rcases h with h | h
    · cases hs : skip u t i with
      | true => rw [hs] at h; cases h
      | false =>
        rw [hs] at h
        simp only [cond_f, List.mem_singleton] at h
        subst h
        have : okOp (opT u t i) = (flagged (fl i t.create_) && place t.chan_.name_ && place u.from_.name_) := rfl
        exact ⟨by rw [this, fl_flagged, hp.1.1, hp.1.2]; rfl, rfl⟩
    · exact opsT_ok u ts (i + 1) hp.2 op h

theorem opsM_ok : ∀ l : List Mount, putM l = true → ∀ op ∈ opsM l, okOp op = true ∧ op.kind_ = 1
  | [], _, _, h => by cases h
  | u :: l, hp, op, h => by
    simp only [putM, Bool.and_eq_true] at hp
    simp only [opsM, List.mem_append] at h
    rcases h with h | h
    · exact opsT_ok u u.to_ 0 hp.1 op h
    · exact opsM_ok l hp.2 op h

def cdOp (cwd : Str) : NsOp := ⟨5, 0, cwd, []⟩

theorem loop54 {l : List NsOp} {cwd : Str} (hl : l.length ≤ 100000) (h : ∀ op ∈ l, op.kind_ = 1) (hc : place cwd = true) :
    iter (F5_b4 l (l ++ [cdOp cwd]) ((l.length : Int) + 1) cwd) BIG 0 = some true := by
  refine (iter_big (α := Int) (fun a => ∃ j : Nat, a = j ∧ j ≤ l.length) (fun a => l.length - a.toNat) (fun _ => some true) ?_ 0 ⟨0, rfl, Nat.zero_le _⟩ (by simp; omega))
  rintro again i ⟨j, rfl, hjl⟩ hag
  rw [F5_b4]
  by_cases hlt : j < l.length
  · have h1 : lidx (l ++ [cdOp cwd]) (j : Int) = some l[j] := by
      rw [lidx_nat, List.getElem?_append_left hlt, List.getElem?_eq_getElem hlt]
    have h2 : decide (l[j].kind_ = 1) = true := decide_eq_true (h _ (List.getElem_mem hlt))
    have hag' : again ((j : Int) + 1) = some true := hag ((j + 1 : Nat) : Int) ⟨j + 1, rfl, hlt⟩ (by simp only [Int.toNat_natCast]; omega)
    rw [decide_eq_true (by omega), cond_t, h1]
    simp only [Option.bind_some, h2, Bool.not_true, cond_f]
    rw [wrap64 (by omega) (by omega), hag']
  · have h1 : lidx (l ++ [cdOp cwd]) ((l.length : Int) + 1 - 1) = some (cdOp cwd) := by
      have : (l.length : Int) + 1 - 1 = (l.length : Nat) := by omega
      rw [this, lidx_nat]
      simp
    rw [decide_eq_false (by omega), cond_f, wrap64 (by omega) (by omega), h1, awake]
    simp [cdOp, guardO]

theorem plain5 (n : Ns) (cwd : Str) (hcl : cwd.length ≤ 9223372036854775807) : F5 n cwd = some true := by
  unfold F5
  rw [F12_eq, awake]
  simp only [Option.bind_some]
  cases hs : small n with
  | false => rfl
  | true =>
    rw [guardO_true, F15_eq hcl]
    simp only [Option.bind_some]
    cases hp : place cwd with
    | false => rfl
    | true =>
      obtain ⟨h20, hM⟩ := small_of hs
      have hmem := fun u hu => smallM_mem hM u hu
      have hcw := (place_len hp).2
      simp only [Bool.not_true, Bool.or_self, cond_f]
      have key : ∀ many : Int, many = 1 + (opsM n.mounts_).length → putM n.mounts_ = true →
          ((F13 n cwd).bind fun r44 =>
            (bif decide (65536 < (r44.length : Int)) then
              (F9).bind fun r48 =>
              some r48
            else
              (F16 r44).bind fun (r51, r52, r53) =>
              (bif (!decide (r53 = 0) || !decide ((r51.length : Int) = many)) then
                some false
              else
                (lslice r51 1 (r51.length : Int)).bind fun l57 =>
                iter (F5_b4 l57 r51 many cwd) BIG 0))) = some true := by
        intro many hmany hput
        rw [F13_eq hs (by omega), awake]
        simp only [Option.bind_some]
        by_cases hb : (text (opsN n cwd)).length ≤ 65536
        · have hall : ∀ op ∈ opsN n cwd, okOp op = true := by
            intro op ho
            rcases List.mem_append.1 ho with ho | ho
            · exact (opsM_ok _ hput op ho).1
            · simp only [List.mem_singleton] at ho
              subst ho
              have : okOp ⟨5, 0, cwd, []⟩ = ((true && place cwd) && true) := rfl
              rw [this, hp]
              rfl
          have hlen : ((opsN n cwd).length : Int) = many := by rw [hmany]; simp [opsN]; omega
          rw [decide_eq_false (by omega), cond_f, F16_text hall hb]
          simp only [Option.bind_some, decide_true, hlen, Bool.not_true, Bool.or_self, cond_f]
          -- the part behind the first
          have hcnt := opsM_count _ hM
          have : ∀ tl : List NsOp, tl.length = (opsM n.mounts_).length → iter (F5_b4 tl (opsN n cwd) many cwd) BIG 0 = some true := by
            intro tl htl
            have h54 := loop54 (l := opsM n.mounts_) (cwd := cwd) (by omega) (fun op ho => (opsM_ok _ hput op ho).2) hp
            have e1 : F5_b4 tl (opsN n cwd) many cwd = F5_b4 (opsM n.mounts_) (opsM n.mounts_ ++ [cdOp cwd]) (((opsM n.mounts_).length : Int) + 1) cwd := by
              funext again i
              have e2 : (1 : Int) + ((opsM n.mounts_).length : Int) = ((opsM n.mounts_).length : Int) + 1 := Int.add_comm _ _
              rw [F5_b4, F5_b4, htl, hmany, e2]
              rfl
            rw [e1, h54]
          unfold lslice
          rw [if_pos ⟨by omega, by omega, by omega⟩]
          simp only [Option.bind_some]
          refine this _ ?_
          rw [List.length_take, List.length_drop]
          omega
        · rw [decide_eq_true (by omega)]
          rfl
      refine (iter_big (α := Int × Int) (fun a => ∃ j : Nat, a.2 = j ∧ j ≤ n.mounts_.length ∧ 0 ≤ a.1 ∧ a.1 ≤ 1 + 20 * j ∧ (putM (n.mounts_.drop j) = true → putM n.mounts_ = true) ∧ a.1 + (opsM (n.mounts_.drop j)).length = 1 + (opsM n.mounts_).length) (fun a => n.mounts_.length - a.2.toNat) (fun _ => some true) ?_ (1, 0) ⟨0, rfl, Nat.zero_le _, by decide, by decide, fun h => h, by simp⟩ (by simp; omega))
      rintro again ⟨many, i⟩ ⟨j, hj, hjl, h0, h1, h2, h3⟩ hag
      simp only at hj h0 h1 h3
      subst hj
      rw [F5_b2]
      by_cases hlt : j < n.mounts_.length
      · rw [decide_eq_true (by omega), cond_t, lidx_at hlt]
        rw [drop_at hlt] at h2 h3
        obtain ⟨g1, g2, g3⟩ := hmem n.mounts_[j] (List.getElem_mem hlt)
        simp only [Option.bind_some]
        generalize n.mounts_[j] = u at g1 g2 g3 h2 h3
        rw [iter_rangeT (body := F5_b3 u again j) u.to_ (G5 u) (fun many => again (many, IntKind.wrap .i64 ((j : Int) + 1))) ?_ (by omega)]
        · rw [loop5 u g2 _ u.to_ 0 many g3 (by omega) h0 (by omega)]
          cases hpt : putT u u.to_ with
          | false => rfl
          | true =>
            have hcnt := opsT_count u u.to_ 0
            rw [cond_t, wrap64 (by omega) (by omega)]
            refine hag (many + (opsT u u.to_ 0).length, ((j + 1 : Nat) : Int)) ⟨j + 1, rfl, hlt, by simp only; omega, by simp only; omega, fun h => h2 (by simp [putM, hpt, h]), ?_⟩ (by simp only [Int.toNat_natCast]; omega)
            simp only [opsM, List.length_append] at h3 ⊢
            omega
        · intro ag i s
          rw [F5_b3]
          rfl
      · have hd : n.mounts_.drop j = [] := List.drop_eq_nil_of_le (by omega)
        rw [hd] at h2 h3
        rw [decide_eq_false (by omega), cond_f]
        exact key many (by simpa [opsM] using h3) (h2 rfl)

end Go.Abs.U45
