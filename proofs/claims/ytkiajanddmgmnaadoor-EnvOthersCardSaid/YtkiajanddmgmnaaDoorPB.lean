/- Layer 29: the plain laws: Encode and Decode. -/
import Derived.Test.YtkiajanddmgmnaaDoorPA
import Derived.Lib.SplitLaws
set_option linter.unusedVariables false
set_option linter.unusedSimpArgs false
namespace Go.Abs.U29
open Go

/-- The parts of a text between separators. -/
def parts (c : UInt8) : Str → List Str
  | [] => [[]]
  | x :: r => if x = c then [] :: parts c r else match parts c r with
    | [] => [[x]]
    | p :: ps => (x :: p) :: ps

theorem parts_ne (c : UInt8) : ∀ s : Str, ∃ p ps, parts c s = p :: ps
  | [] => ⟨[], [], rfl⟩
  | x :: r => by
    obtain ⟨p, ps, h⟩ := parts_ne c r
    simp only [parts]
    split
    · exact ⟨_, _, rfl⟩
    · rw [h]
      exact ⟨_, _, rfl⟩

theorem parts_hit {c : UInt8} : ∀ (n : Nat) (t : Str), n < t.length → (∀ j, j < n → t.getD j 0 ≠ c) → t.getD n 0 = c → parts c t = t.take n :: parts c (t.drop (n + 1))
  | 0, [], h, _, _ => by simp at h
  | 0, x :: r, _, _, h2 => by
    simp only [List.getD_cons_zero] at h2
    simp [parts, h2]
  | n + 1, [], h, _, _ => by simp at h
  | n + 1, x :: r, h, h1, h2 => by
    have hx : x ≠ c := by simpa using h1 0 (by omega)
    have ih := parts_hit n r (by simpa using h) (fun j hj => by simpa using h1 (j + 1) (by omega)) (by simpa using h2)
    simp only [parts, if_neg hx]
    rw [ih]
    simp

theorem parts_last {c : UInt8} : ∀ (t : Str), (∀ j, j < t.length → t.getD j 0 ≠ c) → parts c t = [t]
  | [], _ => rfl
  | x :: r, h => by
    have hx : x ≠ c := by simpa using h 0 (by simp)
    have ih := parts_last r (fun j hj => by simpa using h (j + 1) (by simpa using hj))
    simp only [parts, if_neg hx]
    rw [ih]

theorem parts_free {c : UInt8} : ∀ (a : Str), c ∉ a → parts c a = [a]
  | [], _ => rfl
  | x :: r, h => by
    simp only [List.mem_cons, not_or] at h
    simp only [parts, if_neg (fun e => h.1 (Eq.symm e)), parts_free r h.2]

theorem parts_cut {c : UInt8} (b : Str) : ∀ (a : Str), c ∉ a → parts c (a ++ c :: b) = a :: parts c b
  | [], _ => by simp [parts]
  | x :: r, h => by
    simp only [List.mem_cons, not_or] at h
    simp only [List.cons_append, parts, if_neg (fun e => h.1 (Eq.symm e)), parts_cut b r h.2]

theorem parts_len (c : UInt8) : ∀ s : Str, (parts c s).length ≤ s.length + 1
  | [] => Nat.le_refl _
  | x :: r => by
    have ih := parts_len c r
    simp only [parts]
    split
    · simp only [List.length_cons]; omega
    · obtain ⟨p, ps, h⟩ := parts_ne c r
      rw [h] at ih ⊢
      simp only [List.length_cons] at ih ⊢
      omega

theorem parts_mem_len (c : UInt8) : ∀ (s : Str), ∀ p ∈ parts c s, p.length ≤ s.length
  | [], p, h => by simp [parts] at h; subst h; exact Nat.le_refl _
  | x :: r, p, h => by
    have ih := parts_mem_len c r
    simp only [parts] at h
    split at h
    · rcases List.mem_cons.1 h with rfl | h
      · exact Nat.zero_le _
      · have := ih p h
        simp only [List.length_cons]; omega
    · obtain ⟨q, ps, hq⟩ := parts_ne c r
      rw [hq] at h ih
      rcases List.mem_cons.1 h with rfl | h
      · have := ih q (by simp)
        simp only [List.length_cons]; omega
      · have := ih p (by simp [h])
        simp only [List.length_cons]; omega

/-- The parts with the separator between them. -/
def glue (c : UInt8) : List Str → Str
  | [] => []
  | [x] => x
  | x :: y :: r => x ++ c :: glue c (y :: r)

theorem glue_parts (c : UInt8) : ∀ s : Str, glue c (parts c s) = s
  | [] => rfl
  | x :: r => by
    have ih := glue_parts c r
    obtain ⟨p, ps, h⟩ := parts_ne c r
    rw [h] at ih
    simp only [parts]
    split
    · rename_i hx
      rw [h, glue, ih, hx]
      rfl
    · rw [h]
      cases ps with
      | nil => simp only [glue] at ih ⊢; rw [ih]
      | cons y ys => simp only [glue] at ih ⊢; rw [List.cons_append, ih]

theorem parts_join {c : UInt8} : ∀ (x : Str) (xs : List Str), (∀ w ∈ x :: xs, c ∉ w) → parts c (glue c (x :: xs)) = x :: xs
  | x, [], h => parts_free x (h x (by simp))
  | x, y :: r, h => by
    rw [glue, parts_cut _ x (h x (by simp)), parts_join y r fun w hw => h w (by simp at hw ⊢; exact .inr hw)]

/-! ### The library -/

theorem index1 (c : UInt8) : ∀ s : Str, (Lib.index s [c] = -1 ∧ ∀ j, j < s.length → s.getD j 0 ≠ c) ∨ ∃ i : Nat, i < s.length ∧ Lib.index s [c] = i ∧ s.getD i 0 = c ∧ ∀ j, j < i → s.getD j 0 ≠ c
  | [] => .inl ⟨rfl, fun j hj => absurd hj (Nat.not_lt_zero j)⟩
  | x :: r => by
    by_cases hx : c = x
    · refine .inr ⟨0, by simp, ?_, by simp [hx], fun j hj => absurd hj (Nat.not_lt_zero j)⟩
      simp [Lib.index, List.isPrefixOf, hx]
    · have hp : ([c] : Str).isPrefixOf (x :: r) = false := by simp [List.isPrefixOf, hx]
      rcases index1 c r with ⟨h1, h2⟩ | ⟨i, hi, h1, h2, h3⟩
      · refine .inl ⟨by simp [Lib.index, hp, h1], fun j hj => ?_⟩
        cases j with
        | zero => simpa using fun e => hx (Eq.symm e)
        | succ j => simpa using h2 j (by simpa using hj)
      · refine .inr ⟨i + 1, by simpa using hi, ?_, by simpa using h2, fun j hj => ?_⟩
        · have : ((i : Int) == -1) = false := by rw [beq_eq_false_iff_ne]; omega
          simp [Lib.index, hp, h1, this]
        · cases j with
          | zero => simpa using fun e => hx (Eq.symm e)
          | succ j => simpa using h3 j (by omega)

theorem splitK_parts (c : UInt8) : ∀ (fuel : Nat) (s : Str), s.length < fuel → Lib.splitK [c] 0 (Lib.countFrom [c] fuel s) s = parts c s
  | 0, s, h => absurd h (Nat.not_lt_zero _)
  | fuel + 1, s, h => by
    simp only [Lib.countFrom]
    rcases index1 c s with ⟨h1, h2⟩ | ⟨i, hi, h1, h2, h3⟩
    · rw [h1]
      simp only [beq_self_eq_true, if_true]
      rw [parts_last s h2]
      rfl
    · have hne : ((i : Int) == -1) = false := by rw [beq_eq_false_iff_ne]; omega
      rw [h1, hne]
      simp only [Bool.false_eq_true, if_false, Int.toNat_natCast, List.length_singleton]
      rw [Nat.add_comm 1, Lib.splitK, h1, hne]
      simp only [Bool.false_eq_true, if_false, Int.toNat_natCast, List.length_singleton, Nat.add_zero]
      rw [splitK_parts c fuel (s.drop (i + 1)) (by simp; omega), parts_hit i s hi h3 h2]

theorem splitS_parts (s : Str) (c : UInt8) : splitS s [c] = parts c s := by
  unfold splitS
  have := Lib.splitB_data ⟨⟨[c]⟩⟩ 0 (Lib.countB ⟨⟨s⟩⟩ ⟨⟨[c]⟩⟩) ⟨⟨s⟩⟩
  rw [this]
  exact splitK_parts c (s.length + 1) s (Nat.lt_succ_self _)

theorem L_Split_eq {s : Str} (c : UInt8) (h : s.length ≤ 4294967280) : L_Split s [c] = some (parts c s) := by
  unfold L_Split
  rw [if_pos ⟨by omega, by simp⟩, splitS_parts]

theorem join_glue (c : UInt8) : ∀ xs : List Str, Lib.join xs [c] = glue c xs
  | [] => rfl
  | [x] => Lib.join_one x [c]
  | x :: y :: r => by
    rw [glue, ← join_glue c (y :: r), Lib.join_cons, Lib.join_cons]
    simp [Lib.joinTail]


/-! ### contains -/

theorem mem_getD {c : UInt8} : ∀ {s : Str}, c ∈ s ↔ ∃ j, j < s.length ∧ s.getD j 0 = c
  | [] => by simp
  | x :: r => by
    rw [List.mem_cons, mem_getD (s := r)]
    constructor
    · rintro (rfl | ⟨j, hj, h⟩)
      · exact ⟨0, by simp, rfl⟩
      · exact ⟨j + 1, by simpa using hj, by simpa using h⟩
    · rintro ⟨j, hj, h⟩
      cases j with
      | zero => exact .inl (by simpa using h.symm)
      | succ j => exact .inr ⟨j, by simpa using hj, by simpa using h⟩

theorem contains1 (c : UInt8) (s : Str) : Lib.contains s [c] = decide (c ∈ s) := by
  unfold Lib.contains
  rw [Bool.eq_iff_iff, decide_eq_true_eq, decide_eq_true_eq, mem_getD]
  rcases index1 c s with ⟨h1, h2⟩ | ⟨i, hi, h1, h2, h3⟩
  · rw [h1]
    exact ⟨fun h => by omega, fun ⟨j, hj, h⟩ => absurd h (h2 j hj)⟩
  · rw [h1]
    exact ⟨fun _ => ⟨i, hi, h2⟩, fun _ => by omega⟩

theorem F35_is {v : Str} (h : v.length ≤ 1000000) : F35 v = some (decide ((0 : UInt8) ∈ v)) := by
  unfold F35 L_SContains
  rw [if_pos (by omega), contains1]
  rfl

def hasZ (vs : List Str) : Bool := vs.any fun v => decide ((0 : UInt8) ∈ v)

theorem loop72 : ∀ (l : List Str) (i : Int), 0 ≤ i → (∀ x ∈ l, x.length ≤ 1000000) → ∃ r, loopR (fun w i k => (F35 w).bind fun b => bif b then some i else k) (some (-1)) l i = some r ∧ (decide (0 ≤ r) = hasZ l)
  | [], i, hi, _ => ⟨-1, rfl, rfl⟩
  | x :: l, i, hi, h => by
    rw [loopR, F35_is (h x (by simp)), Option.bind_some]
    by_cases hx : (0 : UInt8) ∈ x
    · rw [decide_eq_true hx]
      refine ⟨i, rfl, ?_⟩
      rw [decide_eq_true hi, hasZ, List.any_cons, decide_eq_true hx]
      rfl
    · rw [decide_eq_false hx]
      obtain ⟨r, h1, h2⟩ := loop72 l (i + 1) (by omega) fun y hy => h y (by simp [hy])
      refine ⟨r, h1, ?_⟩
      rw [h2, hasZ, hasZ, List.any_cons, decide_eq_false hx]
      rfl

theorem F34_is {vs : List Str} (hl : vs.length ≤ 1000000) (h : ∀ x ∈ vs, x.length ≤ 1000000) : F34 vs = some (hasZ vs) := by
  obtain ⟨r, h1, h2⟩ := loop72 vs 0 (by omega) h
  have : F72 vs = some r := by
    unfold F72
    rw [iter_range (body := F72_b1 vs) vs (fun w i k => (F35 w).bind fun b => bif b then some i else k) (some (-1)) (fun _ _ => rfl) (by omega)]
    exact h1
  unfold F34
  rw [this, Option.bind_some, h2]

/-! ### Encode -/

def enc (vs : List Str) : Str × Int :=
  if vs.length = 0 then ([], 1) else if 256 < vs.length then ([], 22) else if hasZ vs = true then ([], 2) else if 65536 < (glue 0 vs).length then ([], 4) else (glue 0 vs, 0)

def lens : List Str → Nat
  | [] => 0
  | x :: r => x.length + lens r

theorem glue_len (c : UInt8) : ∀ vs : List Str, (glue c vs).length = lens vs + (vs.length - 1)
  | [] => rfl
  | [x] => rfl
  | x :: y :: r => by
    have := glue_len c (y :: r)
    simp only [lens, List.length_cons] at this ⊢
    rw [glue, List.length_append, List.length_cons, this]
    omega

theorem loop9 (fin : Int → Option (Str × Int)) : ∀ (l : List Str) (i : Int) (n : Nat), (∀ x ∈ l, x.length ≤ 1000000) → n ≤ 65536 →
    loopS (fun w i k n => bif decide (65536 < IntKind.wrap .i64 (n + (w.length : Int))) then some ([], 4) else k (IntKind.wrap .i64 (n + (w.length : Int)))) fin l i (n : Int) = if 65536 < n + lens l then some ([], 4) else fin ((n + lens l : Nat) : Int)
  | [], i, n, _, hn => by rw [loopS, lens, if_neg (by omega)]; rfl
  | x :: l, i, n, h, hn => by
    have hx := h x (by simp)
    rw [loopS, lens, wrap64 (by omega) (by omega)]
    by_cases hb : 65536 < n + x.length
    · rw [decide_eq_true (by omega), cond_t, if_pos (by omega)]
    · rw [decide_eq_false (by omega), cond_f, show ((n : Int) + (x.length : Int)) = ((n + x.length : Nat) : Int) by omega, loop9 fin l (i + 1) (n + x.length) (fun y hy => h y (by simp [hy])) (by omega)]
      rw [Nat.add_assoc]

theorem F9_is {vs : List Str} (hl : vs.length ≤ 1000000) (h : ∀ x ∈ vs, x.length ≤ 1000000) : F9 vs = some (enc vs) := by
  unfold F9 enc
  by_cases h0 : vs.length = 0
  · rw [decide_eq_true (by omega), cond_t, if_pos h0]
  · rw [decide_eq_false (by omega), cond_f, if_neg h0]
    by_cases h1 : 256 < vs.length
    · rw [decide_eq_true (by omega), cond_t, if_pos h1]
    · rw [decide_eq_false (by omega), cond_f, if_neg h1, F34_is hl h, Option.bind_some]
      cases hz : hasZ vs with
      | true => rw [cond_t, if_pos rfl]
      | false =>
        rw [cond_f, if_neg (by decide), wrap64 (by omega) (by omega), iter_rangeT (body := F9_b1 vs) vs (fun w i k n => bif decide (65536 < IntKind.wrap .i64 (n + (w.length : Int))) then some ([], 4) else k (IntKind.wrap .i64 (n + (w.length : Int))))
          (fun _ => (L_Join vs [0]).bind fun s => some (s, 0)) (fun _ _ _ => rfl) (by omega), show ((vs.length : Int) - 1) = ((vs.length - 1 : Nat) : Int) by omega, loop9 _ vs 0 _ h (by omega)]
        have hg := glue_len 0 vs
        by_cases hb : 65536 < (glue 0 vs).length
        · rw [if_pos (by omega), if_pos hb]
        · rw [if_neg (by omega), if_neg hb]
          unfold L_Join
          rw [join_glue, if_pos ⟨by omega, by omega⟩]
          rfl

theorem glue_snoc (c : UInt8) (w : Str) : ∀ l : List Str, l ≠ [] → glue c (l ++ [w]) = glue c l ++ c :: w
  | [], h => absurd rfl h
  | [x], _ => rfl
  | x :: y :: r, _ => by
    have := glue_snoc c w (y :: r) (by simp)
    rw [List.cons_append, List.cons_append, glue, ← List.cons_append, this, glue]
    simp

theorem in10 {values : List Str} {i : Nat} (hi : i < values.length) {s : Str} {again : (Str × Int) → Option (Str × Int)} (hw : values[i].length ≤ 1000000) (hs : s.length ≤ 1000000000000) (hil : i ≤ 1000000) :
    iter (F10_b3 values i s again) BIG 0 = if (0 : UInt8) ∈ values[i] then some ([], 2) else again (if 0 < i then s ++ 0 :: values[i] else s ++ values[i], ((i + 1 : Nat) : Int)) := by
  have h : ∀ (n j : Nat), j ≤ values[i].length → values[i].length - j < n → iter (F10_b3 values i s again) n (j : Int) = if (0 : UInt8) ∈ values[i].drop j then some ([], 2) else again (if 0 < i then s ++ 0 :: values[i] else s ++ values[i], ((i + 1 : Nat) : Int)) := by
    intro n
    induction n with
    | zero => intro j _ h; omega
    | succ n ih =>
      intro j hj hn
      show F10_b3 values i s again (iter (F10_b3 values i s again) n) j = _
      rw [F10_b3, lidx_at hi, Option.bind_some]
      by_cases hlt : j < values[i].length
      · rw [decide_eq_true (by omega), cond_t, sidx_at hlt, Option.bind_some, drop_at hlt, show (0 : Int) = ((0 : UInt8).toNat : Int) from rfl, byte_eq]
        by_cases h0 : values[i][j] = 0
        · rw [decide_eq_true h0, cond_t, if_pos (by rw [h0]; simp)]
        · rw [decide_eq_false h0, cond_f, wrap64 (by omega) (by omega), show ((j : Int) + 1) = ((j + 1 : Nat) : Int) by omega, ih (j + 1) (by omega) (by omega)]
          have : ((0 : UInt8) ∈ values[i][j] :: values[i].drop (j + 1)) ↔ ((0 : UInt8) ∈ values[i].drop (j + 1)) := by
            rw [List.mem_cons]
            exact ⟨fun h => h.resolve_left (fun e => h0 e.symm), .inr⟩
          simp only [this]
      · rw [decide_eq_false (by omega), cond_f, List.drop_eq_nil_of_le (by omega), if_neg (by simp)]
        by_cases h0 : 0 < i
        · rw [decide_eq_true (by omega), cond_t, if_pos h0, catO_eq (by simp; omega), Option.bind_some, catO_eq (by simp; omega), Option.bind_some, wrap64 (by omega) (by omega), List.append_assoc]
          rfl
        · rw [decide_eq_false (by omega), cond_f, if_neg h0, catO_eq (by omega), Option.bind_some, wrap64 (by omega) (by omega)]
          rfl
  have := h BIG 0 (Nat.zero_le _) (by unfold BIG; omega)
  rw [List.drop_zero] at this
  exact this

theorem lens_le : ∀ {vs : List Str}, (∀ x ∈ vs, x.length ≤ 1000000) → lens vs ≤ vs.length * 1000000
  | [], _ => Nat.zero_le _
  | x :: r, h => by
    have h1 := h x (by simp)
    have h2 := lens_le (vs := r) fun y hy => h y (by simp [hy])
    rw [lens, List.length_cons]
    omega

theorem F10_is {vs : List Str} (hl : vs.length ≤ 1000000) (h : ∀ x ∈ vs, x.length ≤ 1000000) : F10 vs = some (enc vs) := by
  unfold F10 enc
  by_cases h0 : vs.length = 0
  · rw [decide_eq_true (by omega), cond_t, if_pos h0]
  · rw [decide_eq_false (by omega), cond_f, if_neg h0]
    by_cases h1 : 256 < vs.length
    · rw [decide_eq_true (by omega), cond_t, if_pos h1]
    · rw [decide_eq_false (by omega), cond_f, if_neg h1]
      have hm : ∀ (n j : Nat), j ≤ vs.length → vs.length - j < n → iter (F10_b2 vs) n (glue 0 (vs.take j), (j : Int)) = some (if hasZ (vs.drop j) = true then ([], 2) else if 65536 < (glue 0 vs).length then ([], 4) else (glue 0 vs, 0)) := by
        intro n
        induction n with
        | zero => intro j _ h; omega
        | succ n ih =>
          intro j hj hn
          show F10_b2 vs (iter (F10_b2 vs) n) (glue 0 (vs.take j), j) = _
          unfold F10_b2
          by_cases hlt : j < vs.length
          · have hg : (glue 0 (vs.take j)).length ≤ 1000000000000 := by
              have q1 := glue_len 0 (vs.take j)
              have q2 := lens_le (vs := vs.take j) fun y hy => h y (List.mem_of_mem_take hy)
              rw [List.length_take] at q1 q2
              omega
            have hin := in10 (again := iter (F10_b2 vs) n) hlt (h _ (List.getElem_mem hlt)) hg (by omega)
            simp only
            rw [decide_eq_true (by omega), cond_t]
            refine Eq.trans hin ?_
            rw [drop_at hlt]
            by_cases hz : (0 : UInt8) ∈ vs[j]
            · rw [if_pos hz, hasZ, List.any_cons, decide_eq_true hz, Bool.true_or, if_pos rfl]
            · rw [if_neg hz, hasZ, List.any_cons, decide_eq_false hz, Bool.false_or]
              have e : (if 0 < j then glue 0 (vs.take j) ++ 0 :: vs[j] else glue 0 (vs.take j) ++ vs[j]) = glue 0 (vs.take (j + 1)) := by
                rw [List.take_succ_eq_append_getElem hlt]
                split
                · rw [glue_snoc 0 _ _ (fun e => by have := congrArg List.length e; rw [List.length_take, List.length_nil] at this; omega)]
                · have : j = 0 := by omega
                  subst this
                  rfl
              rw [e]
              exact ih (j + 1) (by omega) (by omega)
          · obtain rfl : j = vs.length := by omega
            simp only
            rw [decide_eq_false (by omega), cond_f, List.drop_eq_nil_of_le (Nat.le_refl _), List.take_of_length_le (Nat.le_refl _), if_neg (by simp [hasZ])]
            by_cases hb : 65536 < (glue 0 vs).length
            · rw [decide_eq_true (by omega), cond_t, if_pos hb]
            · rw [decide_eq_false (by omega), cond_f, if_neg hb]
      have := hm BIG 0 (Nat.zero_le _) (by unfold BIG; omega)
      rw [List.take_zero, List.drop_zero] at this
      exact this

/-! ### Decode -/

def dec (s : Str) : List Str × Int := if 65536 < s.length then ([], 4) else if 256 < (parts 0 s).length then ([], 22) else (parts 0 s, 0)

theorem count_parts (s : Str) : Lib.countB ⟨⟨s⟩⟩ ⟨⟨[0]⟩⟩ + 1 = (parts 0 s).length := by
  rw [← splitS_parts]
  unfold splitS
  rw [List.length_map]
  exact (Lib.splitB_all ⟨⟨[0]⟩⟩ (by decide) 0 _ ⟨⟨s⟩⟩ rfl).symm

theorem F11_is (s : Str) : F11 s = some (dec s) := by
  unfold F11 dec
  by_cases h : 65536 < s.length
  · rw [decide_eq_true (by omega), cond_t, if_pos h]
  · rw [decide_eq_false (by omega), cond_f, if_neg h]
    have hc := count_parts s
    unfold L_Count
    rw [if_pos ⟨by omega, by decide⟩, Option.bind_some]
    by_cases h1 : 256 < (parts 0 s).length
    · rw [decide_eq_true (by omega), cond_t, if_pos h1]
    · rw [decide_eq_false (by omega), cond_f, if_neg h1, L_Split_eq 0 (by omega)]
      rfl

theorem sslice_in {s : Str} {a b : Nat} (h1 : a ≤ b) (h2 : b ≤ s.length) : sslice s (a : Int) (b : Int) = some ((s.drop a).take (b - a)) := by
  unfold sslice
  rw [if_pos ⟨by omega, by omega, by omega⟩]
  rfl

theorem F12_is (s : Str) : F12 s = some (dec s) := by
  unfold F12 dec
  by_cases h : 65536 < s.length
  · rw [decide_eq_true (by omega), cond_t, if_pos h]
  · rw [decide_eq_false (by omega), cond_f, if_neg h]
    have fin : ∀ (n : Nat) (a : Int), 0 < n → iter (F12_b1 s) n (a, ((s.length + 1 : Nat) : Int), parts 0 s) = some (if 256 < (parts 0 s).length then ([], 22) else (parts 0 s, 0)) := by
      intro n a hn
      cases n with
      | zero => omega
      | succ n =>
        show F12_b1 s (iter (F12_b1 s) n) (a, ((s.length + 1 : Nat) : Int), parts 0 s) = _
        unfold F12_b1
        simp only
        rw [decide_eq_false (by omega), cond_f]
        by_cases h1 : 256 < (parts 0 s).length
        · rw [decide_eq_true (by omega), cond_t, if_pos h1]
        · rw [decide_eq_false (by omega), cond_f, if_neg h1]
    have hm : ∀ (n i a : Nat) (l : List Str), a ≤ i → i ≤ s.length → s.length - i + 1 < n → l.length ≤ i → parts 0 s = l ++ parts 0 (s.drop a) → (∀ j, a ≤ j → j < i → s.getD j 0 ≠ 0) →
        iter (F12_b1 s) n ((a : Int), (i : Int), l) = some (if 256 < (parts 0 s).length then ([], 22) else (parts 0 s, 0)) := by
      intro n
      induction n with
      | zero => intro i a l _ _ h; omega
      | succ n ih =>
        intro i a l hai his hn hll hp hz
        show F12_b1 s (iter (F12_b1 s) n) ((a : Int), (i : Int), l) = _
        unfold F12_b1
        simp only
        rw [decide_eq_true (by omega), cond_t]
        by_cases he : i = s.length
        · subst he
          have hlast : parts 0 (s.drop a) = [s.drop a] := parts_last _ fun j hj => by
            rw [List.length_drop] at hj
            have := hz (a + j) (by omega) (by omega)
            rw [List.getD_eq_getElem?_getD] at this ⊢
            rw [List.getElem?_drop]
            exact this
          rw [hlast] at hp
          rw [decide_eq_true (p := ((s.length : Int) = (s.length : Int))) rfl, Bool.not_true, guardO_false, Option.bind_some, Bool.true_or, cond_t, sslice_in hai (Nat.le_refl _), Option.bind_some, List.take_of_length_le (by rw [List.length_drop]; exact Nat.le_refl _), appO_eq (by simp; omega), Option.bind_some,
            wrap64 (by omega) (by omega), ← hp]
          exact fin n _ (by omega)
        · have hlt : i < s.length := by omega
          rw [decide_eq_false (p := ((i : Int) = (s.length : Int))) (by omega), Bool.not_false, guardO_true, sidx_at hlt, Option.bind_some, Bool.false_or, show (0 : Int) = ((0 : UInt8).toNat : Int) from rfl, byte_eq, wrap64 (by omega) (by omega), show ((i : Int) + 1) = ((i + 1 : Nat) : Int) by omega]
          have hgi : s.getD i 0 = s[i] := by rw [List.getD_eq_getElem?_getD, List.getElem?_eq_getElem hlt]; rfl
          by_cases h0 : s[i] = 0
          · rw [decide_eq_true h0, cond_t, sslice_in hai (by omega), Option.bind_some, appO_eq (by simp; omega), Option.bind_some]
            refine ih (i + 1) (i + 1) _ (Nat.le_refl _) (by omega) (by omega) (by simp; omega) ?_ (fun j h1 h2 => by omega)
            have hd : ∀ j, (s.drop a).getD j 0 = s.getD (a + j) 0 := fun j => by rw [List.getD_eq_getElem?_getD, List.getD_eq_getElem?_getD, List.getElem?_drop]
            rw [parts_hit (c := 0) (i - a) (s.drop a) (by rw [List.length_drop]; omega) (fun j hj => by rw [hd]; exact hz _ (by omega) (by omega)) (by rw [hd, show a + (i - a) = i by omega, hgi, h0]), List.drop_drop, show a + (i - a + 1) = i + 1 by omega] at hp
            rw [hp, List.append_assoc]
            rfl
          · rw [decide_eq_false h0, cond_f]
            refine ih (i + 1) a l (by omega) (by omega) (by omega) (by omega) hp (fun j h1 h2 => ?_)
            by_cases hji : j = i
            · rw [hji, hgi]
              exact h0
            · exact hz j h1 (by omega)
    have := hm BIG 0 0 [] (Nat.le_refl _) (Nat.zero_le _) (by unfold BIG; omega) (Nat.le_refl _) (by simp) (fun j _ hj => by omega)
    exact this

/-! ### the law -/

theorem dec_len {s : Str} : (dec s).1.length ≤ 256 ∧ ∀ x ∈ (dec s).1, x.length ≤ 65536 := by
  unfold dec
  split
  · exact ⟨by simp, fun x hx => by cases hx⟩
  · split
    · exact ⟨by simp, fun x hx => by cases hx⟩
    · rename_i h1 h2
      refine ⟨by show (parts 0 s).length ≤ 256; omega, fun x hx => ?_⟩
      have := parts_mem_len 0 s x hx
      omega

theorem parts_free0 (c : UInt8) : ∀ (s : Str) (x : Str), x ∈ parts c s → c ∉ x
  | [], x, h => by simp [parts] at h; subst h; simp
  | y :: r, x, h => by
    have ih := parts_free0 c r
    obtain ⟨p, ps, hp⟩ := parts_ne c r
    simp only [parts] at h
    split at h
    · rcases List.mem_cons.1 h with rfl | h
      · simp
      · exact ih x h
    · rename_i hy
      rw [hp] at h ih
      rcases List.mem_cons.1 h with rfl | h
      · rw [List.mem_cons, not_or]
        exact ⟨fun e => hy e.symm, ih p (by simp)⟩
      · exact ih x (by simp [h])

theorem hasZ_false {vs : List Str} : hasZ vs = false ↔ ∀ x ∈ vs, (0 : UInt8) ∉ x := by
  unfold hasZ
  rw [Bool.eq_false_iff, ne_eq, List.any_eq_true]
  constructor
  · intro h x hx h0
    exact h ⟨x, hx, by simpa using h0⟩
  · rintro h ⟨x, hx, h0⟩
    exact h x hx (by simpa using h0)

/-- Encode, then Decode. -/
theorem dec_enc {vs : List Str} (h : (enc vs).2 = 0) : dec (enc vs).1 = (vs, 0) := by
  unfold enc at h ⊢
  split
  · rename_i h0; rw [if_pos h0] at h; cases h
  rename_i h0
  rw [if_neg h0] at h
  split
  · rename_i h1; rw [if_pos h1] at h; cases h
  rename_i h1
  rw [if_neg h1] at h
  split
  · rename_i h2; rw [if_pos h2] at h; cases h
  rename_i h2
  rw [if_neg h2] at h
  split
  · rename_i h3; rw [if_pos h3] at h; cases h
  rename_i h3
  cases vs with
  | nil => exact absurd rfl h0
  | cons x r =>
    have hp : parts 0 (glue 0 (x :: r)) = x :: r := parts_join x r (hasZ_false.1 (by simpa using h2))
    unfold dec
    simp only
    rw [if_neg h3, hp, if_neg h1]

/-- Decode, then Encode. -/
theorem enc_dec {s : Str} (h : (dec s).2 = 0) : enc (dec s).1 = (s, 0) := by
  unfold dec at h ⊢
  split
  · rename_i h0; rw [if_pos h0] at h; cases h
  rename_i h0
  rw [if_neg h0] at h
  split
  · rename_i h1; rw [if_pos h1] at h; cases h
  rename_i h1
  obtain ⟨p, ps, hp⟩ := parts_ne 0 s
  have hg := glue_parts 0 s
  unfold enc
  simp only
  rw [hg, if_neg (by rw [hp]; simp), if_neg h1, if_neg (by rw [(hasZ_false (vs := parts 0 s)).2 (parts_free0 0 s)]; decide), if_neg h0]

theorem plain3 (values : List Str) (wv : values.length ≤ maxLen) (s : Str) : F3 values s = some true := by
  unfold F3
  by_cases hsh : Sh values 70000
  · rw [show (70000 : Int) = ((70000 : Nat) : Int) from rfl, F7_sh hsh, Option.bind_some, Bool.not_true, Bool.false_or]
    by_cases hs : 70000 < s.length
    · rw [decide_eq_true (by omega), cond_t, alive]
      rfl
    · rw [decide_eq_false (by omega), cond_f]
      have hv1 : values.length ≤ 1000000 := by have := hsh.1; omega
      have hv2 : ∀ x ∈ values, x.length ≤ 1000000 := fun x hx => by have := hsh.mem (by omega) hx; omega
      have hd := dec_len (s := s)
      have q9 := F9_is hv1 hv2
      have q10 := F10_is hv1 hv2
      have q11 := F11_is s
      have q12 := F12_is s
      have qe := dec_enc (vs := values)
      have qd := enc_dec (s := s)
      rcases hE : enc values with ⟨a, e⟩
      rcases hD : dec s with ⟨c, g⟩
      rw [hE] at q9 q10 qe
      rw [hD] at q11 q12 qd hd
      simp only at qe qd hd
      have hd2 : c.length ≤ maxLen := by have := hd.1; unfold maxLen; omega
      rw [q9, Option.bind_some]
      simp only
      rw [q10, Option.bind_some]
      simp only
      rw [q11, Option.bind_some]
      simp only
      rw [q12, Option.bind_some]
      simp only
      have j1 : F3_j1 g c s () = some true := by
        unfold F3_j1
        by_cases h0 : g = 0
        · rw [decide_eq_true h0, cond_t, F9_is (by have := hd.1; omega) (fun x hx => by have := hd.2 x hx; omega), qd h0, Option.bind_some]
          simp only [decide_true, Bool.not_true, Bool.or_self, cond_f]
          rw [alive]
          rfl
        · rw [decide_eq_false h0, cond_f, alive]
          rfl
      simp only [decide_true, Bool.not_true, Bool.or_self, Bool.not_false, guardO_true]
      rw [F13_is _ _ hd2, decide_eq_true rfl, Option.bind_some]
      simp only [Bool.not_true, Bool.or_self, cond_f]
      by_cases h0 : e = 0
      · rw [decide_eq_true h0, cond_t, F11_is, qe h0, Option.bind_some]
        simp only [decide_true, guardO_true]
        rw [F13_is _ _ wv, decide_eq_true rfl, Option.bind_some]
        simp only [Bool.not_true, Bool.or_self, cond_f]
        exact j1
      · rw [decide_eq_false h0, cond_f]
        exact j1
  · rw [show (70000 : Int) = ((70000 : Nat) : Int) from rfl, F7_not wv hsh, Option.bind_some, Bool.not_false, Bool.true_or, cond_t, alive]
    rfl

theorem law3 (values : List Str) (wv : values.length ≤ maxLen ∧ ∀ x ∈ values, List.length x ≤ maxLen) (s : Str) (ws : s.length ≤ maxLen) : F3 values s = some true := plain3 values wv.1 s

end Go.Abs.U29
