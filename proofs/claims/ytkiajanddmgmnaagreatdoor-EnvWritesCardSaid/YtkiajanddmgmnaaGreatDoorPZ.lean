/- EnvWrites: the plain law: every call on a valid list returns what the document says -/
import Derived.Test.YtkiajanddmgmnaaGreatDoorA34
import Derived.Test.YtkiajanddmgmnaaGreatDoorD1
import Derived.Lib.SplitLaws
import Derived.Test.YtkiajanddmgmnaaGreatDoorTY
set_option linter.unusedVariables false
set_option linter.unusedSimpArgs false
namespace Go.Abs.U2Z
open Go

theorem iter_list {α S R : Type} {body : (Int × S → Option R) → Int × S → Option R} (l : List α) (G : α → Int → (S → Option R) → S → Option R) (fin : S → Option R)
    (hb : ∀ again (i : Nat) (h : i < l.length) s, body again ((i : Int), s) = G l[i] i (fun s' => again ((i : Int) + 1, s')) s)
    (hf : ∀ again s, body again ((l.length : Int), s) = fin s) (hl : l.length ≤ 9223372036854775807) (s : S) :
    iter body BIG (0, s) = loopS G fin l 0 s := by
  have h : ∀ (n j : Nat) (s : S), j ≤ l.length → l.length - j < n → iter body n ((j : Int), s) = loopS G fin (l.drop j) j s := by
    intro n
    induction n with
    | zero => intro j _ _ h; omega
    | succ n ih =>
      intro j s hj hn
      show body (iter body n) (j, s) = _
      by_cases hlt : j < l.length
      · rw [hb _ _ hlt, drop_at hlt]
        simp only [loopS]
        congr 1
        funext s'
        exact ih (j + 1) s' (by omega) (by omega)
      · obtain rfl : j = l.length := by omega
        rw [hf, List.drop_eq_nil_of_le (by omega)]
        rfl
  exact h BIG 0 s (Nat.zero_le _) (by unfold BIG; omega)

def tot : List Str → Nat
  | [] => 0
  | x :: r => min x.length 1048576 + tot r

theorem tot_le : ∀ l : List Str, tot l ≤ l.length * 1048576
  | [] => Nat.zero_le _
  | x :: r => by
    have := tot_le r
    rw [tot, List.length_cons]
    omega

def G7 : Str → Int → (Int → Option Bool) → Int → Option Bool := fun w _ k n => k (IntKind.wrap .i64 (n + imin (w.length : Int) 1048576))

theorem loop7 (fin : Int → Option Bool) : ∀ (l : List Str) (i : Int) (n : Nat), n + tot l ≤ 4611686018427387904 → loopS G7 fin l i n = fin ((n + tot l : Nat) : Int)
  | [], i, n, h => by rw [loopS, tot]; rfl
  | x :: r, i, n, h => by
    rw [tot] at h
    have e : imin (x.length : Int) 1048576 = ((min x.length 1048576 : Nat) : Int) := by unfold imin; split <;> omega
    rw [loopS, G7, e, wrap64 (by omega) (by omega)]
    have := loop7 fin r (i + 1) (n + min x.length 1048576) (by omega)
    rw [tot, show n + (min x.length 1048576 + tot r) = n + min x.length 1048576 + tot r by omega, ← this]
    congr 1

theorem loop7' (fin : Int → Option Bool) : ∀ (l : List Str) (i n : Int), ∃ m, loopS G7 fin l i n = fin m
  | [], i, n => ⟨n, rfl⟩
  | x :: r, i, n => loop7' fin r (i + 1) _

theorem F9_is (l : List Str) (w : l.length ≤ maxLen) (most : Int) : F9 l most = some (decide ((tot l : Int) ≤ most) && decide (l.length ≤ 400)) := by
  unfold maxLen at w
  unfold F9
  rw [iter_rangeT (body := F9_b1 l most) l G7 (fun n => some (decide (n ≤ most) && decide ((l.length : Int) ≤ 400))) (fun _ _ _ => rfl) (by omega)]
  by_cases h : l.length ≤ 400
  · have := loop7 (fun n => some (decide (n ≤ most) && decide ((l.length : Int) ≤ 400))) l 0 0 (by have := tot_le l; omega)
    rw [show ((0 : Nat) : Int) = 0 from rfl] at this
    rw [this, Nat.zero_add, decide_eq_true (p := l.length ≤ 400) h, decide_eq_true (p := ((l.length : Int) ≤ 400)) (by omega)]
  · obtain ⟨m, hm⟩ := loop7' (fun n => some (decide (n ≤ most) && decide ((l.length : Int) ≤ 400))) l 0 0
    rw [hm, decide_eq_false (p := l.length ≤ 400) h, decide_eq_false (p := ((l.length : Int) ≤ 400)) (by omega), Bool.and_false, Bool.and_false]

/-- A short list. -/
def Sh (l : List Str) (most : Nat) : Prop := l.length ≤ 400 ∧ tot l ≤ most

theorem F9_sh {l : List Str} {most : Nat} (h : Sh l most) : F9 l most = some true := by
  rw [F9_is l (by have := h.1; unfold maxLen; omega), decide_eq_true (by have := h.2; omega), decide_eq_true h.1]; rfl

theorem F9_not {l : List Str} {most : Nat} (w : l.length ≤ maxLen) (h : ¬ Sh l most) : F9 l most = some false := by
  rw [F9_is l w]
  by_cases h1 : l.length ≤ 400
  · rw [decide_eq_false (p := (tot l : Int) ≤ most) (fun h2 => h ⟨h1, by omega⟩)]; rfl
  · rw [decide_eq_false (p := l.length ≤ 400) h1, Bool.and_false]

theorem tot_mem : ∀ {l : List Str} {x : Str}, x ∈ l → min x.length 1048576 ≤ tot l
  | y :: r, x, h => by
    rw [tot]
    rcases List.mem_cons.1 h with rfl | h
    · omega
    · have := tot_mem h; omega

theorem Sh.mem {l : List Str} {most : Nat} (h : Sh l most) (hm : most < 1048576) {x : Str} (hx : x ∈ l) : x.length ≤ most := by
  have := tot_mem hx
  have := h.2
  omega

theorem F20_is (a b : List Str) (w : a.length ≤ maxLen) : F20 a b = some (decide (a = b)) := by
  unfold maxLen at w
  unfold F20
  by_cases hl : a.length = b.length
  · rw [decide_eq_true (by omega)]
    show iter (F20_b1 a b) BIG 0 = _
    have h : ∀ (n j : Nat), j ≤ a.length → a.length - j < n → iter (F20_b1 a b) n (j : Int) = some (decide (a.drop j = b.drop j)) := by
      intro n
      induction n with
      | zero => intro j _ h; omega
      | succ n ih =>
        intro j hj hn
        show F20_b1 a b (iter (F20_b1 a b) n) j = _
        rw [F20_b1]
        by_cases hlt : j < a.length
        · rw [decide_eq_true (by omega), cond_t, lidx_at hlt, Option.bind_some, lidx_at (xs := b) (by omega), Option.bind_some, drop_at hlt, drop_at (l := b) (by omega)]
          by_cases he : a[j] = b[j]
          · rw [decide_eq_true he, Bool.not_true, cond_f, wrap64 (by omega) (by omega), show ((j : Int) + 1) = ((j + 1 : Nat) : Int) by omega, ih (j + 1) (by omega) (by omega), he]
            congr 1
            rw [Bool.eq_iff_iff, decide_eq_true_eq, decide_eq_true_eq]
            exact ⟨fun h => by rw [h], fun h => (List.cons.inj h).2⟩
          · rw [decide_eq_false he, Bool.not_false, cond_t, decide_eq_false]
            intro h
            exact he (List.cons.inj h).1
        · rw [decide_eq_false (by omega), cond_f, List.drop_eq_nil_of_le (by omega), List.drop_eq_nil_of_le (by omega), decide_eq_true rfl]
    have := h BIG 0 (Nat.zero_le _) (by unfold BIG; omega)
    rw [show ((0 : Nat) : Int) = 0 from rfl] at this
    rw [this, List.drop_zero, List.drop_zero]
  · rw [decide_eq_false (p := ((a.length : Int) = (b.length : Int))) (by omega), Bool.not_false, cond_t, decide_eq_false]
    intro h
    exact hl (by rw [h])

theorem alive : F7 = some true := by kernel_rfl

/-- The parts of a text between separators. -/
def parts (c : UInt8) : Str → List Str
  | [] => [[]]
  | x :: r => if x = c then [] :: parts c r else match parts c r with
    | [] => [[x]]
    | p :: ps => (x :: p) :: ps

theorem parts_ne (c : UInt8) : ∀ s : Str, ∃ p ps, parts c s = p :: ps
  | [] => ⟨[], [], rfl⟩
  | x :: r => by
    obtain ⟨p, ps, h⟩ := parts_ne c r
    simp only [parts]
    split
    · exact ⟨_, _, rfl⟩
    · rw [h]
      exact ⟨_, _, rfl⟩

theorem parts_hit {c : UInt8} : ∀ (n : Nat) (t : Str), n < t.length → (∀ j, j < n → t.getD j 0 ≠ c) → t.getD n 0 = c → parts c t = t.take n :: parts c (t.drop (n + 1))
  | 0, [], h, _, _ => by simp at h
  | 0, x :: r, _, _, h2 => by
    simp only [List.getD_cons_zero] at h2
    simp [parts, h2]
  | n + 1, [], h, _, _ => by simp at h
  | n + 1, x :: r, h, h1, h2 => by
    have hx : x ≠ c := by simpa using h1 0 (by omega)
    have ih := parts_hit n r (by simpa using h) (fun j hj => by simpa using h1 (j + 1) (by omega)) (by simpa using h2)
    simp only [parts, if_neg hx]
    rw [ih]
    simp

theorem parts_last {c : UInt8} : ∀ (t : Str), (∀ j, j < t.length → t.getD j 0 ≠ c) → parts c t = [t]
  | [], _ => rfl
  | x :: r, h => by
    have hx : x ≠ c := by simpa using h 0 (by simp)
    have ih := parts_last r (fun j hj => by simpa using h (j + 1) (by simpa using hj))
    simp only [parts, if_neg hx]
    rw [ih]

theorem parts_mem_len (c : UInt8) : ∀ (s : Str), ∀ p ∈ parts c s, p.length ≤ s.length
  | [], p, h => by simp [parts] at h; subst h; exact Nat.le_refl _
  | x :: r, p, h => by
    have ih := parts_mem_len c r
    simp only [parts] at h
    split at h
    · rcases List.mem_cons.1 h with rfl | h
      · exact Nat.zero_le _
      · have := ih p h
        simp only [List.length_cons]; omega
    · obtain ⟨q, ps, hq⟩ := parts_ne c r
      rw [hq] at h ih
      rcases List.mem_cons.1 h with rfl | h
      · have := ih q (by simp)
        simp only [List.length_cons]; omega
      · have := ih p (by simp [h])
        simp only [List.length_cons]; omega

/-- The parts with the separator between them. -/
def glue (c : UInt8) : List Str → Str
  | [] => []
  | [x] => x
  | x :: y :: r => x ++ c :: glue c (y :: r)

theorem glue_parts (c : UInt8) : ∀ s : Str, glue c (parts c s) = s
  | [] => rfl
  | x :: r => by
    have ih := glue_parts c r
    obtain ⟨p, ps, h⟩ := parts_ne c r
    rw [h] at ih
    simp only [parts]
    split
    · rename_i hx
      rw [h, glue, ih, hx]
      rfl
    · rw [h]
      cases ps with
      | nil => simp only [glue] at ih ⊢; rw [ih]
      | cons y ys => simp only [glue] at ih ⊢; rw [List.cons_append, ih]

theorem index1 (c : UInt8) : ∀ s : Str, (Lib.index s [c] = -1 ∧ ∀ j, j < s.length → s.getD j 0 ≠ c) ∨ ∃ i : Nat, i < s.length ∧ Lib.index s [c] = i ∧ s.getD i 0 = c ∧ ∀ j, j < i → s.getD j 0 ≠ c
  | [] => .inl ⟨rfl, fun j hj => absurd hj (Nat.not_lt_zero j)⟩
  | x :: r => by
    by_cases hx : c = x
    · refine .inr ⟨0, by simp, ?_, by simp [hx], fun j hj => absurd hj (Nat.not_lt_zero j)⟩
      simp [Lib.index, List.isPrefixOf, hx]
    · have hp : ([c] : Str).isPrefixOf (x :: r) = false := by simp [List.isPrefixOf, hx]
      rcases index1 c r with ⟨h1, h2⟩ | ⟨i, hi, h1, h2, h3⟩
      · refine .inl ⟨by simp [Lib.index, hp, h1], fun j hj => ?_⟩
        cases j with
        | zero => simpa using fun e => hx (Eq.symm e)
        | succ j => simpa using h2 j (by simpa using hj)
      · refine .inr ⟨i + 1, by simpa using hi, ?_, by simpa using h2, fun j hj => ?_⟩
        · have : ((i : Int) == -1) = false := by rw [beq_eq_false_iff_ne]; omega
          simp [Lib.index, hp, h1, this]
        · cases j with
          | zero => simpa using fun e => hx (Eq.symm e)
          | succ j => simpa using h3 j (by omega)

theorem splitK_parts (c : UInt8) : ∀ (fuel : Nat) (s : Str), s.length < fuel → Lib.splitK [c] 0 (Lib.countFrom [c] fuel s) s = parts c s
  | 0, s, h => absurd h (Nat.not_lt_zero _)
  | fuel + 1, s, h => by
    simp only [Lib.countFrom]
    rcases index1 c s with ⟨h1, h2⟩ | ⟨i, hi, h1, h2, h3⟩
    · rw [h1]
      simp only [beq_self_eq_true, if_true]
      rw [parts_last s h2]
      rfl
    · have hne : ((i : Int) == -1) = false := by rw [beq_eq_false_iff_ne]; omega
      rw [h1, hne]
      simp only [Bool.false_eq_true, if_false, Int.toNat_natCast, List.length_singleton]
      rw [Nat.add_comm 1, Lib.splitK, h1, hne]
      simp only [Bool.false_eq_true, if_false, Int.toNat_natCast, List.length_singleton, Nat.add_zero]
      rw [splitK_parts c fuel (s.drop (i + 1)) (by simp; omega), parts_hit i s hi h3 h2]

theorem splitS_parts (s : Str) (c : UInt8) : splitS s [c] = parts c s := by
  unfold splitS
  have := Lib.splitB_data ⟨⟨[c]⟩⟩ 0 (Lib.countB ⟨⟨s⟩⟩ ⟨⟨[c]⟩⟩) ⟨⟨s⟩⟩
  rw [this]
  exact splitK_parts c (s.length + 1) s (Nat.lt_succ_self _)

theorem L_Split_eq {s : Str} (c : UInt8) (h : s.length ≤ 4294967280) : L_Split s [c] = some (parts c s) := by
  unfold L_Split
  rw [if_pos ⟨by omega, by simp⟩, splitS_parts]

theorem join_glue (c : UInt8) : ∀ xs : List Str, Lib.join xs [c] = glue c xs
  | [] => rfl
  | [x] => Lib.join_one x [c]
  | x :: y :: r => by
    rw [glue, ← join_glue c (y :: r), Lib.join_cons, Lib.join_cons]
    simp [Lib.joinTail]

theorem mem_getD {c : UInt8} : ∀ {s : Str}, c ∈ s ↔ ∃ j, j < s.length ∧ s.getD j 0 = c
  | [] => by simp
  | x :: r => by
    rw [List.mem_cons, mem_getD (s := r)]
    constructor
    · rintro (rfl | ⟨j, hj, h⟩)
      · exact ⟨0, by simp, rfl⟩
      · exact ⟨j + 1, by simpa using hj, by simpa using h⟩
    · rintro ⟨j, hj, h⟩
      cases j with
      | zero => exact .inl (by simpa using h.symm)
      | succ j => exact .inr ⟨j, by simpa using hj, by simpa using h⟩

theorem contains1 (c : UInt8) (s : Str) : Lib.contains s [c] = decide (c ∈ s) := by
  unfold Lib.contains
  rw [Bool.eq_iff_iff, decide_eq_true_eq, decide_eq_true_eq, mem_getD]
  rcases index1 c s with ⟨h1, h2⟩ | ⟨i, hi, h1, h2, h3⟩
  · rw [h1]
    exact ⟨fun h => by omega, fun ⟨j, hj, h⟩ => absurd h (h2 j hj)⟩
  · rw [h1]
    exact ⟨fun _ => ⟨i, hi, h2⟩, fun _ => by omega⟩

theorem F68_is {v : Str} (h : v.length ≤ 1000000) : F68 v = some (decide ((0 : UInt8) ∈ v)) := by
  unfold F68 L_SContains
  rw [if_pos (by omega), contains1]
  rfl

def hasZ (vs : List Str) : Bool := vs.any fun v => decide ((0 : UInt8) ∈ v)

theorem loop72 : ∀ (l : List Str) (i : Int), 0 ≤ i → (∀ x ∈ l, x.length ≤ 1000000) → ∃ r, loopR (fun w i k => (F68 w).bind fun b => bif b then some i else k) (some (-1)) l i = some r ∧ (decide (0 ≤ r) = hasZ l)
  | [], i, hi, _ => ⟨-1, rfl, rfl⟩
  | x :: l, i, hi, h => by
    rw [loopR, F68_is (h x (by simp)), Option.bind_some]
    by_cases hx : (0 : UInt8) ∈ x
    · rw [decide_eq_true hx]
      refine ⟨i, rfl, ?_⟩
      rw [decide_eq_true hi, hasZ, List.any_cons, decide_eq_true hx]
      rfl
    · rw [decide_eq_false hx]
      obtain ⟨r, h1, h2⟩ := loop72 l (i + 1) (by omega) fun y hy => h y (by simp [hy])
      refine ⟨r, h1, ?_⟩
      rw [h2, hasZ, hasZ, List.any_cons, decide_eq_false hx]
      rfl

theorem F67_is {vs : List Str} (hl : vs.length ≤ 1000000) (h : ∀ x ∈ vs, x.length ≤ 1000000) : F67 vs = some (hasZ vs) := by
  obtain ⟨r, h1, h2⟩ := loop72 vs 0 (by omega) h
  have : F84 vs = some r := by
    unfold F84
    rw [iter_range (body := F84_b1 vs) vs (fun w i k => (F68 w).bind fun b => bif b then some i else k) (some (-1)) (fun _ _ => rfl) (by omega)]
    exact h1
  unfold F67
  rw [this, Option.bind_some, h2]

def enc (vs : List Str) : Str × Int :=
  if vs.length = 0 then ([], 1) else if 256 < vs.length then ([], 22) else if hasZ vs = true then ([], 2) else if 65536 < (glue 0 vs).length then ([], 4) else (glue 0 vs, 0)

def lens : List Str → Nat
  | [] => 0
  | x :: r => x.length + lens r

theorem glue_len (c : UInt8) : ∀ vs : List Str, (glue c vs).length = lens vs + (vs.length - 1)
  | [] => rfl
  | [x] => rfl
  | x :: y :: r => by
    have := glue_len c (y :: r)
    simp only [lens, List.length_cons] at this ⊢
    rw [glue, List.length_append, List.length_cons, this]
    omega

theorem loop9 (fin : Int → Option (Str × Int)) : ∀ (l : List Str) (i : Int) (n : Nat), (∀ x ∈ l, x.length ≤ 1000000) → n ≤ 65536 →
    loopS (fun w i k n => bif decide (65536 < IntKind.wrap .i64 (n + (w.length : Int))) then some ([], 4) else k (IntKind.wrap .i64 (n + (w.length : Int)))) fin l i (n : Int) = if 65536 < n + lens l then some ([], 4) else fin ((n + lens l : Nat) : Int)
  | [], i, n, _, hn => by rw [loopS, lens, if_neg (by omega)]; rfl
  | x :: l, i, n, h, hn => by
    have hx := h x (by simp)
    rw [loopS, lens, wrap64 (by omega) (by omega)]
    by_cases hb : 65536 < n + x.length
    · rw [decide_eq_true (by omega), cond_t, if_pos (by omega)]
    · rw [decide_eq_false (by omega), cond_f, show ((n : Int) + (x.length : Int)) = ((n + x.length : Nat) : Int) by omega, loop9 fin l (i + 1) (n + x.length) (fun y hy => h y (by simp [hy])) (by omega)]
      rw [Nat.add_assoc]

theorem F39_is {vs : List Str} (hl : vs.length ≤ 1000000) (h : ∀ x ∈ vs, x.length ≤ 1000000) : F39 vs = some (enc vs) := by
  unfold F39 enc
  by_cases h0 : vs.length = 0
  · rw [decide_eq_true (by omega), cond_t, if_pos h0]
  · rw [decide_eq_false (by omega), cond_f, if_neg h0]
    by_cases h1 : 256 < vs.length
    · rw [decide_eq_true (by omega), cond_t, if_pos h1]
    · rw [decide_eq_false (by omega), cond_f, if_neg h1, F67_is hl h, Option.bind_some]
      cases hz : hasZ vs with
      | true => rw [cond_t, if_pos rfl]
      | false =>
        rw [cond_f, if_neg (by decide), wrap64 (by omega) (by omega), iter_rangeT (body := F39_b1 vs) vs (fun w i k n => bif decide (65536 < IntKind.wrap .i64 (n + (w.length : Int))) then some ([], 4) else k (IntKind.wrap .i64 (n + (w.length : Int))))
          (fun _ => (L_Join vs [0]).bind fun s => some (s, 0)) (fun _ _ _ => rfl) (by omega), show ((vs.length : Int) - 1) = ((vs.length - 1 : Nat) : Int) by omega, loop9 _ vs 0 _ h (by omega)]
        have hg := glue_len 0 vs
        by_cases hb : 65536 < (glue 0 vs).length
        · rw [if_pos (by omega), if_pos hb]
        · rw [if_neg (by omega), if_neg hb]
          unfold L_Join
          rw [join_glue, if_pos ⟨by omega, by omega⟩]
          rfl

theorem glue_snoc (c : UInt8) (w : Str) : ∀ l : List Str, l ≠ [] → glue c (l ++ [w]) = glue c l ++ c :: w
  | [], h => absurd rfl h
  | [x], _ => rfl
  | x :: y :: r, _ => by
    have := glue_snoc c w (y :: r) (by simp)
    rw [List.cons_append, List.cons_append, glue, ← List.cons_append, this, glue]
    simp

theorem in10 {values : List Str} {i : Nat} (hi : i < values.length) {s : Str} {again : (Str × Int) → Option (Str × Int)} (hw : values[i].length ≤ 1000000) (hs : s.length ≤ 1000000000000) (hil : i ≤ 1000000) :
    iter (F10_b3 values i s again) BIG 0 = if (0 : UInt8) ∈ values[i] then some ([], 2) else again (if 0 < i then s ++ 0 :: values[i] else s ++ values[i], ((i + 1 : Nat) : Int)) := by
  have h : ∀ (n j : Nat), j ≤ values[i].length → values[i].length - j < n → iter (F10_b3 values i s again) n (j : Int) = if (0 : UInt8) ∈ values[i].drop j then some ([], 2) else again (if 0 < i then s ++ 0 :: values[i] else s ++ values[i], ((i + 1 : Nat) : Int)) := by
    intro n
    induction n with
    | zero => intro j _ h; omega
    | succ n ih =>
      intro j hj hn
      show F10_b3 values i s again (iter (F10_b3 values i s again) n) j = _
      rw [F10_b3, lidx_at hi, Option.bind_some]
      by_cases hlt : j < values[i].length
      · rw [decide_eq_true (by omega), cond_t, sidx_at hlt, Option.bind_some, drop_at hlt, show (0 : Int) = ((0 : UInt8).toNat : Int) from rfl, byte_eq]
        by_cases h0 : values[i][j] = 0
        · rw [decide_eq_true h0, cond_t, if_pos (by rw [h0]; simp)]
        · rw [decide_eq_false h0, cond_f, wrap64 (by omega) (by omega), show ((j : Int) + 1) = ((j + 1 : Nat) : Int) by omega, ih (j + 1) (by omega) (by omega)]
          have : ((0 : UInt8) ∈ values[i][j] :: values[i].drop (j + 1)) ↔ ((0 : UInt8) ∈ values[i].drop (j + 1)) := by
            rw [List.mem_cons]
            exact ⟨fun h => h.resolve_left (fun e => h0 e.symm), .inr⟩
          simp only [this]
      · rw [decide_eq_false (by omega), cond_f, List.drop_eq_nil_of_le (by omega), if_neg (by simp)]
        by_cases h0 : 0 < i
        · rw [decide_eq_true (by omega), cond_t, if_pos h0, catO_eq (by simp; omega), Option.bind_some, catO_eq (by simp; omega), Option.bind_some, wrap64 (by omega) (by omega), List.append_assoc]
          rfl
        · rw [decide_eq_false (by omega), cond_f, if_neg h0, catO_eq (by omega), Option.bind_some, wrap64 (by omega) (by omega)]
          rfl
  have := h BIG 0 (Nat.zero_le _) (by unfold BIG; omega)
  rw [List.drop_zero] at this
  exact this

theorem lens_le : ∀ {vs : List Str}, (∀ x ∈ vs, x.length ≤ 1000000) → lens vs ≤ vs.length * 1000000
  | [], _ => Nat.zero_le _
  | x :: r, h => by
    have h1 := h x (by simp)
    have h2 := lens_le (vs := r) fun y hy => h y (by simp [hy])
    rw [lens, List.length_cons]
    omega

theorem F10_is {vs : List Str} (hl : vs.length ≤ 1000000) (h : ∀ x ∈ vs, x.length ≤ 1000000) : F10 vs = some (enc vs) := by
  unfold F10 enc
  by_cases h0 : vs.length = 0
  · rw [decide_eq_true (by omega), cond_t, if_pos h0]
  · rw [decide_eq_false (by omega), cond_f, if_neg h0]
    by_cases h1 : 256 < vs.length
    · rw [decide_eq_true (by omega), cond_t, if_pos h1]
    · rw [decide_eq_false (by omega), cond_f, if_neg h1]
      have hm : ∀ (n j : Nat), j ≤ vs.length → vs.length - j < n → iter (F10_b2 vs) n (glue 0 (vs.take j), (j : Int)) = some (if hasZ (vs.drop j) = true then ([], 2) else if 65536 < (glue 0 vs).length then ([], 4) else (glue 0 vs, 0)) := by
        intro n
        induction n with
        | zero => intro j _ h; omega
        | succ n ih =>
          intro j hj hn
          show F10_b2 vs (iter (F10_b2 vs) n) (glue 0 (vs.take j), j) = _
          unfold F10_b2
          by_cases hlt : j < vs.length
          · have hg : (glue 0 (vs.take j)).length ≤ 1000000000000 := by
              have q1 := glue_len 0 (vs.take j)
              have q2 := lens_le (vs := vs.take j) fun y hy => h y (List.mem_of_mem_take hy)
              rw [List.length_take] at q1 q2
              omega
            have hin := in10 (again := iter (F10_b2 vs) n) hlt (h _ (List.getElem_mem hlt)) hg (by omega)
            simp only
            rw [decide_eq_true (by omega), cond_t]
            refine Eq.trans hin ?_
            rw [drop_at hlt]
            by_cases hz : (0 : UInt8) ∈ vs[j]
            · rw [if_pos hz, hasZ, List.any_cons, decide_eq_true hz, Bool.true_or, if_pos rfl]
            · rw [if_neg hz, hasZ, List.any_cons, decide_eq_false hz, Bool.false_or]
              have e : (if 0 < j then glue 0 (vs.take j) ++ 0 :: vs[j] else glue 0 (vs.take j) ++ vs[j]) = glue 0 (vs.take (j + 1)) := by
                rw [List.take_succ_eq_append_getElem hlt]
                split
                · rw [glue_snoc 0 _ _ (fun e => by have := congrArg List.length e; rw [List.length_take, List.length_nil] at this; omega)]
                · have : j = 0 := by omega
                  subst this
                  rfl
              rw [e]
              exact ih (j + 1) (by omega) (by omega)
          · obtain rfl : j = vs.length := by omega
            simp only
            rw [decide_eq_false (by omega), cond_f, List.drop_eq_nil_of_le (Nat.le_refl _), List.take_of_length_le (Nat.le_refl _), if_neg (by simp [hasZ])]
            by_cases hb : 65536 < (glue 0 vs).length
            · rw [decide_eq_true (by omega), cond_t, if_pos hb]
            · rw [decide_eq_false (by omega), cond_f, if_neg hb]
      have := hm BIG 0 (Nat.zero_le _) (by unfold BIG; omega)
      rw [List.take_zero, List.drop_zero] at this
      exact this

def dec (s : Str) : List Str × Int := if 65536 < s.length then ([], 4) else if 256 < (parts 0 s).length then ([], 22) else (parts 0 s, 0)

theorem count_parts (s : Str) : Lib.countB ⟨⟨s⟩⟩ ⟨⟨[0]⟩⟩ + 1 = (parts 0 s).length := by
  rw [← splitS_parts]
  unfold splitS
  rw [List.length_map]
  exact (Lib.splitB_all ⟨⟨[0]⟩⟩ (by decide) 0 _ ⟨⟨s⟩⟩ rfl).symm

theorem F19_is (s : Str) : F19 s = some (dec s) := by
  unfold F19 dec
  by_cases h : 65536 < s.length
  · rw [decide_eq_true (by omega), cond_t, if_pos h]
  · rw [decide_eq_false (by omega), cond_f, if_neg h]
    have hc := count_parts s
    unfold L_Count
    rw [if_pos ⟨by omega, by decide⟩, Option.bind_some]
    by_cases h1 : 256 < (parts 0 s).length
    · rw [decide_eq_true (by omega), cond_t, if_pos h1]
    · rw [decide_eq_false (by omega), cond_f, if_neg h1, L_Split_eq 0 (by omega)]
      rfl

theorem sslice_in {s : Str} {a b : Nat} (h1 : a ≤ b) (h2 : b ≤ s.length) : sslice s (a : Int) (b : Int) = some ((s.drop a).take (b - a)) := by
  unfold sslice
  rw [if_pos ⟨by omega, by omega, by omega⟩]
  rfl

theorem F57_is (s : Str) : F57 s = some (dec s) := by
  unfold F57 dec
  by_cases h : 65536 < s.length
  · rw [decide_eq_true (by omega), cond_t, if_pos h]
  · rw [decide_eq_false (by omega), cond_f, if_neg h]
    have fin : ∀ (n : Nat) (a : Int), 0 < n → iter (F57_b1 s) n (a, ((s.length + 1 : Nat) : Int), parts 0 s) = some (if 256 < (parts 0 s).length then ([], 22) else (parts 0 s, 0)) := by
      intro n a hn
      cases n with
      | zero => omega
      | succ n =>
        show F57_b1 s (iter (F57_b1 s) n) (a, ((s.length + 1 : Nat) : Int), parts 0 s) = _
        unfold F57_b1
        simp only
        rw [decide_eq_false (by omega), cond_f]
        by_cases h1 : 256 < (parts 0 s).length
        · rw [decide_eq_true (by omega), cond_t, if_pos h1]
        · rw [decide_eq_false (by omega), cond_f, if_neg h1]
    have hm : ∀ (n i a : Nat) (l : List Str), a ≤ i → i ≤ s.length → s.length - i + 1 < n → l.length ≤ i → parts 0 s = l ++ parts 0 (s.drop a) → (∀ j, a ≤ j → j < i → s.getD j 0 ≠ 0) →
        iter (F57_b1 s) n ((a : Int), (i : Int), l) = some (if 256 < (parts 0 s).length then ([], 22) else (parts 0 s, 0)) := by
      intro n
      induction n with
      | zero => intro i a l _ _ h; omega
      | succ n ih =>
        intro i a l hai his hn hll hp hz
        show F57_b1 s (iter (F57_b1 s) n) ((a : Int), (i : Int), l) = _
        unfold F57_b1
        simp only
        rw [decide_eq_true (by omega), cond_t]
        by_cases he : i = s.length
        · subst he
          have hlast : parts 0 (s.drop a) = [s.drop a] := parts_last _ fun j hj => by
            rw [List.length_drop] at hj
            have := hz (a + j) (by omega) (by omega)
            rw [List.getD_eq_getElem?_getD] at this ⊢
            rw [List.getElem?_drop]
            exact this
          rw [hlast] at hp
          rw [decide_eq_true (p := ((s.length : Int) = (s.length : Int))) rfl, Bool.not_true, guardO_false, Option.bind_some, Bool.true_or, cond_t, sslice_in hai (Nat.le_refl _), Option.bind_some, List.take_of_length_le (by rw [List.length_drop]; exact Nat.le_refl _), appO_eq (by simp; omega), Option.bind_some,
            wrap64 (by omega) (by omega), ← hp]
          exact fin n _ (by omega)
        · have hlt : i < s.length := by omega
          rw [decide_eq_false (p := ((i : Int) = (s.length : Int))) (by omega), Bool.not_false, guardO_true, sidx_at hlt, Option.bind_some, Bool.false_or, show (0 : Int) = ((0 : UInt8).toNat : Int) from rfl, byte_eq, wrap64 (by omega) (by omega), show ((i : Int) + 1) = ((i + 1 : Nat) : Int) by omega]
          have hgi : s.getD i 0 = s[i] := by rw [List.getD_eq_getElem?_getD, List.getElem?_eq_getElem hlt]; rfl
          by_cases h0 : s[i] = 0
          · rw [decide_eq_true h0, cond_t, sslice_in hai (by omega), Option.bind_some, appO_eq (by simp; omega), Option.bind_some]
            refine ih (i + 1) (i + 1) _ (Nat.le_refl _) (by omega) (by omega) (by simp; omega) ?_ (fun j h1 h2 => by omega)
            have hd : ∀ j, (s.drop a).getD j 0 = s.getD (a + j) 0 := fun j => by rw [List.getD_eq_getElem?_getD, List.getD_eq_getElem?_getD, List.getElem?_drop]
            rw [parts_hit (c := 0) (i - a) (s.drop a) (by rw [List.length_drop]; omega) (fun j hj => by rw [hd]; exact hz _ (by omega) (by omega)) (by rw [hd, show a + (i - a) = i by omega, hgi, h0]), List.drop_drop, show a + (i - a + 1) = i + 1 by omega] at hp
            rw [hp, List.append_assoc]
            rfl
          · rw [decide_eq_false h0, cond_f]
            refine ih (i + 1) a l (by omega) (by omega) (by omega) (by omega) hp (fun j h1 h2 => ?_)
            by_cases hji : j = i
            · rw [hji, hgi]
              exact h0
            · exact hz j h1 (by omega)
    have := hm BIG 0 0 [] (Nat.le_refl _) (Nat.zero_le _) (by unfold BIG; omega) (Nat.le_refl _) (by simp) (fun j _ hj => by omega)
    exact this

theorem dec_len {s : Str} : (dec s).1.length ≤ 256 ∧ ∀ x ∈ (dec s).1, x.length ≤ 65536 := by
  unfold dec
  split
  · exact ⟨by simp, fun x hx => by cases hx⟩
  · split
    · exact ⟨by simp, fun x hx => by cases hx⟩
    · rename_i h1 h2
      refine ⟨by show (parts 0 s).length ≤ 256; omega, fun x hx => ?_⟩
      have := parts_mem_len 0 s x hx
      omega

theorem parts_free0 (c : UInt8) : ∀ (s : Str) (x : Str), x ∈ parts c s → c ∉ x
  | [], x, h => by simp [parts] at h; subst h; simp
  | y :: r, x, h => by
    have ih := parts_free0 c r
    obtain ⟨p, ps, hp⟩ := parts_ne c r
    simp only [parts] at h
    split at h
    · rcases List.mem_cons.1 h with rfl | h
      · simp
      · exact ih x h
    · rename_i hy
      rw [hp] at h ih
      rcases List.mem_cons.1 h with rfl | h
      · rw [List.mem_cons, not_or]
        exact ⟨fun e => hy e.symm, ih p (by simp)⟩
      · exact ih x (by simp [h])

theorem hasZ_false {vs : List Str} : hasZ vs = false ↔ ∀ x ∈ vs, (0 : UInt8) ∉ x := by
  unfold hasZ
  rw [Bool.eq_false_iff, ne_eq, List.any_eq_true]
  constructor
  · intro h x hx h0
    exact h ⟨x, hx, by simpa using h0⟩
  · rintro h ⟨x, hx, h0⟩
    exact h x hx (by simpa using h0)

/-- Decode, then Encode. -/
theorem enc_dec {s : Str} (h : (dec s).2 = 0) : enc (dec s).1 = (s, 0) := by
  unfold dec at h ⊢
  split
  · rename_i h0; rw [if_pos h0] at h; cases h
  rename_i h0
  rw [if_neg h0] at h
  split
  · rename_i h1; rw [if_pos h1] at h; cases h
  rename_i h1
  obtain ⟨p, ps, hp⟩ := parts_ne 0 s
  have hg := glue_parts 0 s
  unfold enc
  simp only
  rw [hg, if_neg (by rw [hp]; simp), if_neg h1, if_neg (by rw [(hasZ_false (vs := parts 0 s)).2 (parts_free0 0 s)]; decide), if_neg h0]

/-- The index of the first that p holds of. -/
def ix {α : Type} (p : α → Bool) : List α → Option Nat
  | [] => none
  | x :: r => if p x = true then some 0 else (ix p r).map (· + 1)

def ixI {α : Type} (p : α → Bool) (l : List α) : Int := match ix p l with
  | some k => (k : Int)
  | none => -1

theorem ix_some {α : Type} {p : α → Bool} : ∀ {l : List α} {i : Nat}, ix p l = some i → ∃ h : i < l.length, p l[i] = true ∧ l.find? p = some l[i]
  | [], i, h => by cases h
  | x :: r, i, h => by
    unfold ix at h
    split at h
    · rename_i hx
      cases h
      exact ⟨by simp, hx, by simp [List.find?, hx]⟩
    · rename_i hx
      obtain ⟨k, hk, rfl⟩ := Option.map_eq_some_iff.1 h
      obtain ⟨h1, h2, h3⟩ := ix_some hk
      refine ⟨by simpa using h1, by simpa using h2, ?_⟩
      rw [List.find?_cons, (by simpa using hx : p x = false)]
      simpa using h3

theorem ix_none {α : Type} {p : α → Bool} : ∀ {l : List α}, ix p l = none → l.find? p = none
  | [], _ => rfl
  | x :: r, h => by
    unfold ix at h
    split at h
    · cases h
    · rename_i hx
      rw [List.find?_cons, (by simpa using hx : p x = false)]
      exact ix_none (Option.map_eq_none_iff.1 h)

theorem loop_ix {α : Type} (p : α → Bool) : ∀ (l : List α) (i : Int), loopR (fun x i k => bif p x then some i else k) (some (-1)) l i = some (match ix p l with | some k => i + k | none => -1)
  | [], i => rfl
  | x :: r, i => by
    rw [loopR, ix]
    cases hx : p x with
    | true => rw [cond_t, if_pos rfl]; simp
    | false =>
      rw [cond_f, if_neg (by decide), loop_ix p r (i + 1)]
      cases hr : ix p r with
      | none => rfl
      | some k =>
        show some (i + 1 + (k : Int)) = some (i + ((k + 1 : Nat) : Int))
        congr 1
        omega

theorem loop_ix0 {α : Type} (p : α → Bool) (l : List α) : loopR (fun x i k => bif p x then some i else k) (some (-1)) l 0 = some (ixI p l) := by
  rw [loop_ix, ixI]
  cases ix p l with
  | none => rfl
  | some k => simp

def idP (i : Int) : GEnv → Bool := fun g => decide (g.id_ = i)

def nmP (n : Str) : Var → Bool := fun v => decide (v.name_ = n)

def vidP (i : Int) : Var → Bool := fun v => decide (v.id_ = i)

theorem F60_is (l : List GEnv) (i : Int) (h : l.length ≤ maxLen) : F60 l i = some (ixI (idP i) l) := by
  unfold maxLen at h
  unfold F60
  rw [iter_range (body := F60_b1 l i) l (fun x i k => bif idP _ x then some i else k) (some (-1)) (fun _ _ => rfl) (by omega), loop_ix0]

theorem F33_is (l : List GEnv) (i : Int) (h : l.length ≤ maxLen) : F33 l i = some (ixI (idP i) l) := by
  unfold F33
  rw [F60_is l i h]
  rfl

theorem F65_is (l : List Var) (n : Str) (h : l.length ≤ maxLen) : F65 l n = some (ixI (nmP n) l) := by
  unfold maxLen at h
  unfold F65
  rw [iter_range (body := F65_b1 l n) l (fun x i k => bif nmP n x then some i else k) (some (-1)) (fun _ _ => rfl) (by omega), loop_ix0]

theorem F65x2_is (l : List Var) (n : Str) (h : l.length ≤ maxLen) : F65x2 l n = some (ixI (nmP n) l) := by
  unfold maxLen at h
  unfold F65x2
  rw [iter_range (body := F65x2_b1 l n) l (fun x i k => bif nmP n x then some i else k) (some (-1)) (fun _ _ => rfl) (by omega), loop_ix0]

theorem F12_is (g : GEnv) (n : Str) (h : g.vars_.length ≤ maxLen) : F12 g n = some (ixI (nmP n) g.vars_) := by
  unfold maxLen at h
  unfold F12
  rw [iter_range (body := F12_b1 g n) g.vars_ (fun x i k => bif nmP n x then some i else k) (some (-1)) (fun _ _ => rfl) (by omega), loop_ix0]

theorem F37_is (a b : Int) (n : Str) (l : List Var) (h : l.length ≤ maxLen) : F37 a b n l = some (ixI (nmP n) l) := by
  unfold F37
  rw [F65_is l n h]
  rfl

theorem F37x1_is (g : GEnv) (n : Str) (h : g.vars_.length ≤ maxLen) : F37x1 g n = some (ixI (nmP n) g.vars_) := by
  unfold F37x1
  rw [F65x2_is _ n h]
  rfl

def badC (c : Int) : Bool := (decide (c < 33) || decide (126 < c)) || decide (c = 47)

/-- A name that is valid. -/
def vn (n : Str) : Bool := ((decide (1 ≤ (n.length : Int)) && decide ((n.length : Int) ≤ 64)) && !decide (n = [46]) && !decide (n = [46, 46])) && n.all fun c => !badC (B c)

theorem loop_bad (b : Bool) : ∀ (s : Str) (i : Int), loopR (fun c _ k => bif badC c then some false else k) (some b) (s.map B) i = some (b && s.all fun c => !badC (B c))
  | [], i => by simp [loopR]
  | x :: r, i => by
    rw [List.map_cons, loopR]
    cases hx : badC (B x) with
    | true => rw [cond_t, List.all_cons, hx]; simp
    | false => rw [cond_f, loop_bad b r (i + 1), List.all_cons, hx]; simp

theorem F11_is (n : Str) (h : n.length ≤ maxLen) : F11 n = some (vn n) := by
  unfold maxLen at h
  unfold F11
  rw [iter_rangeB (body := F11_b1 n) n (fun c _ k => bif badC c then some false else k) (some (((decide (1 ≤ (n.length : Int)) && decide ((n.length : Int) ≤ 64)) && !decide (n = [46])) && !decide (n = [46, 46]))) (fun _ _ => rfl) (by omega), loop_bad]
  rfl

theorem F36_is (n : Str) (h : n.length ≤ maxLen) : F36 n = some (vn n) := by
  unfold maxLen at h
  unfold F36 vn
  by_cases h1 : n = []
  · subst h1; rfl
  by_cases h2 : n = [46]
  · subst h2; rfl
  by_cases h3 : n = [46, 46]
  · subst h3; rfl
  have h0 : 1 ≤ n.length := by cases n with | nil => exact absurd rfl h1 | cons a b => simp
  by_cases h4 : 64 < n.length
  · rw [decide_eq_false h1, decide_eq_false h2, decide_eq_false h3, decide_eq_true (p := (64 : Int) < (n.length : Int)) (by omega), decide_eq_false (p := (n.length : Int) ≤ 64) (by omega)]
    simp
  · rw [decide_eq_false h1, decide_eq_false h2, decide_eq_false h3, decide_eq_false (p := (64 : Int) < (n.length : Int)) (by omega), decide_eq_true (p := (n.length : Int) ≤ 64) (by omega), decide_eq_true (p := (1 : Int) ≤ (n.length : Int)) (by omega)]
    simp only [Bool.or_self, cond_f]
    rw [iter_rangeB (body := F36_b1 n) n (fun c _ k => bif badC c then some false else k) (some true) (fun _ _ => rfl) (by omega), loop_bad]
    rfl

theorem F34_is (l : List Var) (h : l.length ≤ 1000000) (hv : ∀ v ∈ l, v.values_.length ≤ 1000000) : F34 l = some l := by
  unfold F34 L_CloneV
  rw [if_pos h, Option.bind_some]
  have hm : ∀ (n j : Nat), j ≤ l.length → l.length - j < n → iter (F34_b1 l) n ((j : Int), l) = some l := by
    intro n
    induction n with
    | zero => intro j _ h; omega
    | succ n ih =>
      intro j hj hn
      show F34_b1 l (iter (F34_b1 l) n) ((j : Int), l) = _
      unfold F34_b1
      simp only
      by_cases hlt : j < l.length
      · have := hv _ (List.getElem_mem hlt)
        rw [decide_eq_true (by omega), cond_t, lidx_at hlt, Option.bind_some, L_Clone, if_pos (by omega), Option.bind_some, wrap64 (by omega) (by omega)]
        have e : l.set (Int.toNat (j : Int)) (Var.mk l[j].id_ l[j].name_ l[j].values_) = l := by
          rw [Int.toNat_natCast]
          exact set_self (List.getElem?_eq_getElem hlt)
        rw [e, show ((j : Int) + 1) = ((j + 1 : Nat) : Int) by omega]
        exact ih (j + 1) (by omega) (by omega)
      · rw [decide_eq_false (by omega), cond_f]
  exact hm BIG 0 (Nat.zero_le _) (by unfold BIG; omega)

/-- A list of groups of bearable size. -/
def Bear (N : Nat) (l : List GEnv) : Prop := l.length ≤ N ∧ ∀ g ∈ l, g.vars_.length ≤ N ∧ ∀ v ∈ g.vars_, v.name_.length ≤ N ∧ v.values_.length ≤ N ∧ ∀ x ∈ v.values_, x.length ≤ N

theorem F32_is {l : List GEnv} (h : Bear 1000000 l) : F32 l = some (l, l.length) := by
  unfold F32 L_CloneE
  rw [if_pos h.1, Option.bind_some]
  have hl := h.1
  have hm : ∀ (n j : Nat), j ≤ l.length → l.length - j < n → iter (F32_b1 l) n ((j : Int), l, j) = some (l, l.length) := by
    intro n
    induction n with
    | zero => intro j _ h; omega
    | succ n ih =>
      intro j hj hn
      show F32_b1 l (iter (F32_b1 l) n) ((j : Int), l, j) = _
      unfold F32_b1
      simp only
      by_cases hlt : j < l.length
      · have hb := h.2 _ (List.getElem_mem hlt)
        rw [decide_eq_true (by omega), cond_t, lidx_at hlt, Option.bind_some, Int.toNat_natCast, eqO, if_pos rfl, Option.bind_some, F34_is _ hb.1 (fun v hv => (hb.2 v hv).2.1), Option.bind_some, wrap64 (by omega) (by omega)]
        have e : l.set j (GEnv.mk l[j].id_ l[j].next_ l[j].vars_) = l := set_self (List.getElem?_eq_getElem hlt)
        rw [e, show ((j : Int) + 1) = ((j + 1 : Nat) : Int) by omega]
        exact ih (j + 1) (by omega) (by omega)
      · obtain rfl : j = l.length := by omega
        rw [decide_eq_false (by omega), cond_f]
  exact hm BIG 0 (Nat.zero_le _) (by unfold BIG; omega)

theorem iter_listT {α S R : Type} {body : (S × Int → Option R) → S × Int → Option R} (l : List α) (G : α → Int → (S → Option R) → S → Option R) (fin : S → Option R)
    (hb : ∀ again (i : Nat) (h : i < l.length) s, body again (s, (i : Int)) = G l[i] i (fun s' => again (s', (i : Int) + 1)) s)
    (hf : ∀ again s, body again (s, (l.length : Int)) = fin s) (hl : l.length ≤ 9223372036854775807) (s : S) :
    iter body BIG (s, 0) = loopS G fin l 0 s := by
  have h : ∀ (n j : Nat) (s : S), j ≤ l.length → l.length - j < n → iter body n (s, (j : Int)) = loopS G fin (l.drop j) j s := by
    intro n
    induction n with
    | zero => intro j _ _ h; omega
    | succ n ih =>
      intro j s hj hn
      show body (iter body n) (s, j) = _
      by_cases hlt : j < l.length
      · rw [hb _ _ hlt, drop_at hlt]
        simp only [loopS]
        congr 1
        funext s'
        exact ih (j + 1) s' (by omega) (by omega)
      · obtain rfl : j = l.length := by omega
        rw [hf, List.drop_eq_nil_of_le (by omega)]
        rfl
  exact h BIG 0 s (Nat.zero_le _) (by unfold BIG; omega)

/-- What a list's type says of its lengths. -/
def Wd (l : List GEnv) : Prop := l.length ≤ maxLen ∧ ∀ g ∈ l, g.vars_.length ≤ maxLen ∧ ∀ v ∈ g.vars_, v.name_.length ≤ maxLen ∧ v.values_.length ≤ maxLen

def svB (v : Var) : Bool := decide ((tot v.values_ : Int) ≤ 70000) && decide (v.values_.length ≤ 400) && decide ((v.name_.length : Int) ≤ 1000)

theorem inner14 (k : Option Bool) : ∀ (vs : List Var) (i : Int), (∀ v ∈ vs, v.values_.length ≤ maxLen) →
    loopR (fun v _ k => (F9 v.values_ 70000).bind fun b => bif (!b || decide (1000 < (v.name_.length : Int))) then some false else k) k vs i = bif vs.all svB then k else some false
  | [], i, _ => rfl
  | v :: r, i, h => by
    rw [loopR, F9_is _ (h v (by simp)), Option.bind_some, List.all_cons, inner14 k r (i + 1) fun x hx => h x (by simp [hx]), svB]
    by_cases h1 : (v.name_.length : Int) ≤ 1000
    · rw [decide_eq_true h1, decide_eq_false (p := (1000 : Int) < (v.name_.length : Int)) (by omega), Bool.or_false, Bool.and_true]
      cases (decide ((tot v.values_ : Int) ≤ 70000) && decide (v.values_.length ≤ 400)) <;> rfl
    · rw [decide_eq_false h1, decide_eq_true (p := (1000 : Int) < (v.name_.length : Int)) (by omega), Bool.or_true, Bool.and_false]
      rfl

theorem loop14 : ∀ (l : List GEnv) (i n : Int), ∃ b, loopS (fun (g : GEnv) _ (k : Int → Option Bool) (n : Int) => bif decide (200 < IntKind.wrap .i64 (n + (g.vars_.length : Int))) then some false else bif g.vars_.all svB then k (IntKind.wrap .i64 (n + (g.vars_.length : Int))) else some false) (fun _ => some true) l i n = some b ∧ (b = true → ∀ g ∈ l, g.vars_.all svB = true)
  | [], i, n => ⟨true, rfl, fun _ g hg => by cases hg⟩
  | g :: r, i, n => by
    rw [loopS]
    cases decide (200 < IntKind.wrap .i64 (n + (g.vars_.length : Int))) with
    | true => exact ⟨false, rfl, fun h => by cases h⟩
    | false =>
      cases hg : g.vars_.all svB with
      | false => exact ⟨false, rfl, fun h => by cases h⟩
      | true =>
        obtain ⟨b, h1, h2⟩ := loop14 r (i + 1) (IntKind.wrap .i64 (n + (g.vars_.length : Int)))
        refine ⟨b, h1, fun hb x hx => ?_⟩
        rcases List.mem_cons.1 hx with rfl | hx
        · exact hg
        · exact h2 hb x hx

theorem F4_is {l : List GEnv} (h : Wd l) : ∃ b, F4 l = some b ∧ (b = true → l.length ≤ 70 ∧ ∀ g ∈ l, ∀ v ∈ g.vars_, svB v = true) := by
  have hl := h.1
  unfold maxLen at hl
  unfold F4
  by_cases h1 : l.length ≤ 70
  · rw [decide_eq_false (by omega), cond_f]
    rw [iter_listT (body := F4_b2 l) l (fun (g : GEnv) _ (k : Int → Option Bool) (n : Int) => bif decide (200 < IntKind.wrap .i64 (n + (g.vars_.length : Int))) then some false else bif g.vars_.all svB then k (IntKind.wrap .i64 (n + (g.vars_.length : Int))) else some false) (fun _ => some true) ?_ ?_ (by omega)]
    · obtain ⟨b, q1, q2⟩ := loop14 l 0 0
      exact ⟨b, q1, fun hb => ⟨h1, fun g hg => List.all_eq_true.1 (q2 hb g hg)⟩⟩
    · intro again i hi n
      have hg := h.2 _ (List.getElem_mem hi)
      have hm := hg.1
      unfold maxLen at hm
      unfold F4_b2
      simp only
      rw [decide_eq_true (by omega), cond_t, lidx_at hi, Option.bind_some]
      congr 1
      rw [iter_range (body := F4_b3 l[i] again n i) l[i].vars_ (fun v _ k => (F9 v.values_ 70000).bind fun b => bif (!b || decide (1000 < (v.name_.length : Int))) then some false else k) (again (IntKind.wrap .i64 (n + (l[i].vars_.length : Int)), IntKind.wrap .i64 ((i : Int) + 1))) (fun _ _ => rfl) (by omega),
        inner14 _ _ _ (fun v hv => (hg.2 v hv).2), wrap64 (n := (i : Int) + 1) (by omega) (by omega)]
    · intro again n
      unfold F4_b2
      simp only
      rw [decide_eq_false (by omega), cond_f]
  · rw [decide_eq_true (by omega), cond_t]
    exact ⟨false, rfl, fun hb => by cases hb⟩

def okV (g : GEnv) (k : Nat) : Bool :=
  decide ((enc (g.vars_.getD k default).values_).2 = 0) && vn (g.vars_.getD k default).name_ && decide (ixI (nmP (g.vars_.getD k default).name_) g.vars_ = (k : Int)) &&
    !decide ((g.vars_.getD k default).id_ < 2) && !decide (g.next_ ≤ (g.vars_.getD k default).id_) && !(decide (0 < (k : Int)) && decide ((g.vars_.getD k default).id_ ≤ (g.vars_.getD (k - 1) default).id_))

def okE (l : List GEnv) (i : Nat) : Bool :=
  !(decide ((l.getD i default).id_ < 1) || decide (1099511627776 < (l.getD i default).id_)) && !(decide (0 < (i : Int)) && decide ((l.getD i default).id_ ≤ (l.getD (i - 1) default).id_)) &&
    !decide ((l.getD i default).next_ < 2) && !decide (1048576 < (l.getD i default).next_) && !decide (64 < ((l.getD i default).vars_.length : Int)) && (List.range' 0 (l.getD i default).vars_.length).all (okV (l.getD i default))

def right (l : List GEnv) : Bool := !decide (64 < (l.length : Int)) && (List.range' 0 l.length).all (okE l)

theorem getD_at {α : Type} {l : List α} {d : α} {j : Nat} (h : j < l.length) : l.getD j d = l[j] := by rw [List.getD_eq_getElem?_getD, List.getElem?_eq_getElem h]; rfl

theorem b3_is {g : GEnv} {again5 : Int → Option Bool} {i4 : Int} {again17 : Int → Option Bool} {j : Nat} (hlt : j < g.vars_.length) (hm : g.vars_.length ≤ 1000000)
    (hn : g.vars_[j].name_.length ≤ 1000000) (hv : g.vars_[j].values_.length ≤ 1000000) (hx : ∀ x ∈ g.vars_[j].values_, x.length ≤ 1000000) :
    F6_b3 g again5 i4 again17 (j : Int) = bif okV g j then again17 ((j + 1 : Nat) : Int) else some false := by
  unfold F6_b3 okV
  rw [decide_eq_true (by omega), cond_t, lidx_at hlt, Option.bind_some, F10_is hv hx, Option.bind_some, getD_at hlt, F11_is _ (by unfold maxLen; omega), F12_is _ _ (by unfold maxLen; omega), wrap64 (n := (j : Int) + 1) (by omega) (by omega)]
  simp only
  have hprev : 0 < j → lidx g.vars_ (IntKind.wrap .i64 ((j : Int) - 1)) = some (g.vars_.getD (j - 1) default) := fun h0 => by
    rw [wrap64 (by omega) (by omega), show ((j : Int) - 1) = ((j - 1 : Nat) : Int) by omega, lidx_at (by omega), getD_at (by omega)]
  rw [show ((j : Int) + 1) = ((j + 1 : Nat) : Int) by omega]
  cases decide ((enc g.vars_[j].values_).2 = 0) with
  | false => simp [guardO]
  | true =>
    cases vn g.vars_[j].name_ with
    | false => simp [guardO]
    | true =>
      simp only [Bool.not_true, Bool.or_self, Bool.not_false, guardO_true, Option.bind_some, Bool.false_or, Bool.true_and]
      cases decide (ixI (nmP g.vars_[j].name_) g.vars_ = (j : Int)) with
      | false => simp [guardO]
      | true =>
        cases decide (g.vars_[j].id_ < 2) with
        | true => simp [guardO]
        | false =>
          cases decide (g.next_ ≤ g.vars_[j].id_) with
          | true => simp [guardO]
          | false =>
            by_cases h0 : 0 < j
            · rw [decide_eq_true (p := (0 : Int) < (j : Int)) (by omega), hprev h0]
              simp only [Bool.not_true, Bool.or_self, Bool.not_false, guardO_true, Option.bind_some, Bool.false_or, Bool.true_and, Bool.and_true]
              cases decide (g.vars_[j].id_ ≤ (g.vars_.getD (j - 1) default).id_) <;> rfl
            · rw [decide_eq_false (p := (0 : Int) < (j : Int)) (by omega)]
              simp [guardO]

theorem inner16 {g : GEnv} {again5 : Int → Option Bool} {i4 : Int} (hm : g.vars_.length ≤ 1000000) (hv : ∀ v ∈ g.vars_, v.name_.length ≤ 1000000 ∧ v.values_.length ≤ 1000000 ∧ ∀ x ∈ v.values_, x.length ≤ 1000000) :
    iter (F6_b3 g again5 i4) BIG 0 = bif (List.range' 0 g.vars_.length).all (okV g) then again5 (IntKind.wrap .i64 (i4 + 1)) else some false := by
  have h : ∀ (n j m : Nat), j + m = g.vars_.length → m < n → iter (F6_b3 g again5 i4) n (j : Int) = bif (List.range' j m).all (okV g) then again5 (IntKind.wrap .i64 (i4 + 1)) else some false := by
    intro n
    induction n with
    | zero => intro j m _ h; omega
    | succ n ih =>
      intro j m hj hn
      show F6_b3 g again5 i4 (iter (F6_b3 g again5 i4) n) j = _
      cases m with
      | zero =>
        unfold F6_b3
        rw [decide_eq_false (by omega), cond_f]
        rfl
      | succ m =>
        have hlt : j < g.vars_.length := by omega
        have hb := hv _ (List.getElem_mem hlt)
        rw [b3_is hlt hm hb.1 hb.2.1 hb.2.2, List.range'_succ, List.all_cons]
        cases okV g j with
        | false => rfl
        | true =>
          rw [cond_t, Bool.true_and]
          exact ih (j + 1) m (by omega) (by omega)
  exact h BIG 0 _ (Nat.zero_add _) (by unfold BIG; omega)

theorem b2_is {l : List GEnv} {again5 : Int → Option Bool} {j : Nat} (hlt : j < l.length) (hl : l.length ≤ 1000000)
    (hv : ∀ v ∈ l[j].vars_, v.name_.length ≤ 1000000 ∧ v.values_.length ≤ 1000000 ∧ ∀ x ∈ v.values_, x.length ≤ 1000000) :
    F6_b2 l again5 (j : Int) = bif okE l j then again5 ((j + 1 : Nat) : Int) else some false := by
  unfold F6_b2 okE
  rw [decide_eq_true (by omega), cond_t, lidx_at hlt, Option.bind_some, getD_at hlt]
  have hprev : 0 < j → lidx l (IntKind.wrap .i64 ((j : Int) - 1)) = some (l.getD (j - 1) default) := fun h0 => by
    rw [wrap64 (by omega) (by omega), show ((j : Int) - 1) = ((j - 1 : Nat) : Int) by omega, lidx_at (by omega), getD_at (by omega)]
  cases decide (l[j].id_ < 1) || decide (1099511627776 < l[j].id_) with
  | true => simp [guardO]
  | false =>
    have hg : ∃ p, guardO (!false && decide (0 < (j : Int))) (lidx l (IntKind.wrap .i64 ((j : Int) - 1))) = some p ∧ (decide (0 < (j : Int)) && decide (l[j].id_ ≤ p.id_)) = (decide (0 < (j : Int)) && decide (l[j].id_ ≤ (l.getD (j - 1) default).id_)) := by
      by_cases h0 : 0 < j
      · rw [decide_eq_true (p := (0 : Int) < (j : Int)) (by omega), hprev h0]
        exact ⟨_, rfl, rfl⟩
      · rw [decide_eq_false (p := (0 : Int) < (j : Int)) (by omega)]
        exact ⟨_, rfl, rfl⟩
    obtain ⟨p, h1, h2⟩ := hg
    rw [h1, Option.bind_some, h2]
    cases decide (0 < (j : Int)) && decide (l[j].id_ ≤ (l.getD (j - 1) default).id_) with
    | true => rfl
    | false =>
      cases decide (l[j].next_ < 2) with
      | true => rfl
      | false =>
        cases decide (1048576 < l[j].next_) with
        | true => rfl
        | false =>
          by_cases h4 : 64 < l[j].vars_.length
          · rw [decide_eq_true (p := (64 : Int) < (l[j].vars_.length : Int)) (by omega)]; rfl
          · rw [decide_eq_false (p := (64 : Int) < (l[j].vars_.length : Int)) (by omega)]
            simp only [Bool.or_self, cond_f, Bool.not_false, Bool.true_and]
            rw [inner16 (by omega) hv, wrap64 (by omega) (by omega)]
            rfl

theorem F6_is {l : List GEnv} (hv : ∀ g ∈ l, ∀ v ∈ g.vars_, v.name_.length ≤ 1000000 ∧ v.values_.length ≤ 1000000 ∧ ∀ x ∈ v.values_, x.length ≤ 1000000) : F6 l = some (right l) := by
  unfold F6 right
  by_cases hl : 64 < l.length
  · rw [decide_eq_true (by omega), cond_t]; rfl
  · rw [decide_eq_false (by omega), cond_f, Bool.not_false, Bool.true_and]
    have h : ∀ (n j m : Nat), j + m = l.length → m < n → iter (F6_b2 l) n (j : Int) = some ((List.range' j m).all (okE l)) := by
      intro n
      induction n with
      | zero => intro j m _ h; omega
      | succ n ih =>
        intro j m hj hn
        show F6_b2 l (iter (F6_b2 l) n) j = _
        cases m with
        | zero =>
          unfold F6_b2
          rw [decide_eq_false (by omega), cond_f]
          rfl
        | succ m =>
          have hlt : j < l.length := by omega
          rw [b2_is hlt (by omega) (hv _ (List.getElem_mem hlt)), List.range'_succ, List.all_cons]
          cases okE l j with
          | false => rfl
          | true =>
            rw [cond_t, Bool.true_and]
            exact ih (j + 1) m (by omega) (by omega)
    exact h BIG 0 _ (Nat.zero_add _) (by unfold BIG; omega)

theorem mem_range0 {n k : Nat} (h : k < n) : k ∈ List.range' 0 n := by
  rw [List.mem_range']
  exact ⟨k, h, by omega⟩

instance : DecidableEq Var := fun a b => decidable_of_iff (a.id_ = b.id_ ∧ a.name_ = b.name_ ∧ a.values_ = b.values_) ⟨fun h => by
  cases a
  cases b
  simp only at h
  rw [h.1, h.2.1, h.2.2], fun h => by rw [h]; exact ⟨rfl, rfl, rfl⟩⟩

instance : DecidableEq GEnv := fun a b => decidable_of_iff (a.id_ = b.id_ ∧ a.next_ = b.next_ ∧ a.vars_ = b.vars_) ⟨fun h => by
  cases a
  cases b
  simp only at h
  rw [h.1, h.2.1, h.2.2], fun h => by rw [h]; exact ⟨rfl, rfl, rfl⟩⟩

theorem F54_is (a b : Var) (w : a.values_.length ≤ maxLen) : F54 a b = some (decide (a = b)) := by
  obtain ⟨i, n, v⟩ := a
  obtain ⟨i', n', v'⟩ := b
  unfold F54
  simp only
  rw [F20_is _ _ w]
  by_cases h1 : i = i'
  · by_cases h2 : n = n'
    · rw [decide_eq_true h1, decide_eq_true h2]
      subst h1 h2
      simp [guardO]
    · rw [decide_eq_false h2, Bool.and_false]
      have : ¬ (Var.mk i n v = Var.mk i' n' v') := fun h => h2 (by injection h)
      rw [decide_eq_false this]
      rfl
  · rw [decide_eq_false h1, Bool.false_and]
    have : ¬ (Var.mk i n v = Var.mk i' n' v') := fun h => h1 (by injection h)
    rw [decide_eq_false this]
    rfl

theorem inner18 {u v : GEnv} {again6 : Int → Option Bool} {i5 : Int} (hl : u.vars_.length = v.vars_.length) (hm : u.vars_.length ≤ 1000000) (hv : ∀ x ∈ u.vars_, x.values_.length ≤ 1000000) :
    iter (F23_b3 u v again6 i5) BIG 0 = bif decide (u.vars_ = v.vars_) then again6 (IntKind.wrap .i64 (i5 + 1)) else some false := by
  have h : ∀ (n j : Nat), j ≤ u.vars_.length → u.vars_.length - j < n → iter (F23_b3 u v again6 i5) n (j : Int) = bif decide (u.vars_.drop j = v.vars_.drop j) then again6 (IntKind.wrap .i64 (i5 + 1)) else some false := by
    intro n
    induction n with
    | zero => intro j _ h; omega
    | succ n ih =>
      intro j hj hn
      show F23_b3 u v again6 i5 (iter (F23_b3 u v again6 i5) n) j = _
      rw [F23_b3]
      by_cases hlt : j < u.vars_.length
      · rw [decide_eq_true (by omega), cond_t, lidx_at hlt, Option.bind_some, lidx_at (xs := v.vars_) (by omega), Option.bind_some, F54_is _ _ (by have := hv _ (List.getElem_mem hlt); unfold maxLen; omega), Option.bind_some, drop_at hlt, drop_at (l := v.vars_) (by omega)]
        by_cases he : u.vars_[j] = v.vars_[j]
        · rw [decide_eq_true he, Bool.not_true, cond_f, wrap64 (n := (j : Int) + 1) (by omega) (by omega), show ((j : Int) + 1) = ((j + 1 : Nat) : Int) by omega, ih (j + 1) (by omega) (by omega), he]
          congr 1
          rw [Bool.eq_iff_iff, decide_eq_true_eq, decide_eq_true_eq]
          exact ⟨fun h => by rw [h], fun h => (List.cons.inj h).2⟩
        · rw [decide_eq_false he, Bool.not_false, cond_t, decide_eq_false (fun h => he (List.cons.inj h).1)]
          rfl
      · rw [decide_eq_false (by omega), cond_f, List.drop_eq_nil_of_le (by omega), List.drop_eq_nil_of_le (by omega), decide_eq_true rfl]
        rfl
  have := h BIG 0 (Nat.zero_le _) (by unfold BIG; omega)
  rw [List.drop_zero, List.drop_zero] at this
  exact this

theorem F23_is {a b : List GEnv} (h : Bear 1000000 a) : F23 a b = some (decide (a = b)) := by
  have hl := h.1
  unfold F23
  by_cases he : a.length = b.length
  · rw [decide_eq_true (by omega), Bool.not_true, cond_f]
    have hm : ∀ (n j : Nat), j ≤ a.length → a.length - j < n → iter (F23_b2 a b) n (j : Int) = some (decide (a.drop j = b.drop j)) := by
      intro n
      induction n with
      | zero => intro j _ h; omega
      | succ n ih =>
        intro j hj hn
        show F23_b2 a b (iter (F23_b2 a b) n) j = _
        rw [F23_b2]
        by_cases hlt : j < a.length
        · have hb := h.2 _ (List.getElem_mem hlt)
          rw [decide_eq_true (by omega), cond_t, lidx_at hlt, Option.bind_some, lidx_at (xs := b) (by omega), Option.bind_some, drop_at hlt, drop_at (l := b) (by omega)]
          have hne : ∀ {P : Prop}, (a[j] = b[j] → P) → ¬ P → ¬ (a[j] :: a.drop (j + 1) = b[j] :: b.drop (j + 1)) := fun f g h => g (f (List.cons.inj h).1)
          by_cases h1 : a[j].id_ = b[j].id_
          · by_cases h2 : a[j].next_ = b[j].next_
            · by_cases h3 : a[j].vars_.length = b[j].vars_.length
              · rw [decide_eq_true h1, decide_eq_true h2, decide_eq_true (p := (a[j].vars_.length : Int) = (b[j].vars_.length : Int)) (by omega)]
                simp only [Bool.not_true, Bool.or_self, cond_f]
                rw [inner18 h3 hb.1 (fun x hx => (hb.2 x hx).2.1)]
                by_cases h4 : a[j].vars_ = b[j].vars_
                · have hab : a[j] = b[j] := by
                    cases ha : a[j]
                    cases hb' : b[j]
                    rw [ha, hb'] at h1 h2 h4
                    simp only at h1 h2 h4
                    rw [h1, h2, h4]
                  rw [decide_eq_true h4, cond_t, wrap64 (n := (j : Int) + 1) (by omega) (by omega), show ((j : Int) + 1) = ((j + 1 : Nat) : Int) by omega, ih (j + 1) (by omega) (by omega), hab]
                  congr 1
                  rw [Bool.eq_iff_iff, decide_eq_true_eq, decide_eq_true_eq]
                  exact ⟨fun h => by rw [h], fun h => (List.cons.inj h).2⟩
                · rw [decide_eq_false h4, cond_f, decide_eq_false (hne (fun h => congrArg GEnv.vars_ h) h4)]
              · rw [decide_eq_false (p := (a[j].vars_.length : Int) = (b[j].vars_.length : Int)) (by omega), decide_eq_false (hne (fun h => congrArg (fun g => g.vars_.length) h) h3)]
                simp
            · rw [decide_eq_false h2, decide_eq_false (hne (fun h => congrArg GEnv.next_ h) h2)]
              simp
          · rw [decide_eq_false h1, decide_eq_false (hne (fun h => congrArg GEnv.id_ h) h1)]
            simp
        · rw [decide_eq_false (by omega), cond_f, List.drop_eq_nil_of_le (by omega), List.drop_eq_nil_of_le (by omega), decide_eq_true rfl]
    have := hm BIG 0 (Nat.zero_le _) (by unfold BIG; omega)
    rw [List.drop_zero, List.drop_zero] at this
    exact this
  · rw [decide_eq_false (p := (a.length : Int) = (b.length : Int)) (by omega), Bool.not_false, cond_t, decide_eq_false (fun h' => he (congrArg List.length h'))]

theorem ixI_some {α : Type} {p : α → Bool} {l : List α} {k : Nat} (h : ix p l = some k) : ixI p l = (k : Int) := by rw [ixI, h]

theorem ixI_none {α : Type} {p : α → Bool} {l : List α} (h : ix p l = none) : ixI p l = -1 := by rw [ixI, h]

def addS (g : GEnv) (name : Str) (values : List Str) : GEnv × Int :=
  if 64 ≤ g.vars_.length ∨ 1048575 < g.next_ then (g, 22) else (⟨g.id_, g.next_ + 1, g.vars_ ++ [⟨g.next_, name, values⟩]⟩, 0)

theorem F41_is (g : GEnv) (name : Str) (values : List Str) (h : g.vars_.length ≤ 1000000) (hv : ∀ v ∈ g.vars_, v.values_.length ≤ 1000000) (hn : 2 ≤ g.next_) : F41 g name values = some (addS g name values) := by
  unfold F41 addS
  by_cases h1 : 64 ≤ g.vars_.length
  · rw [decide_eq_true (p := (64 : Int) ≤ (g.vars_.length : Int)) (by omega), Bool.true_or, cond_t, if_pos (.inl h1)]
  · rw [decide_eq_false (p := (64 : Int) ≤ (g.vars_.length : Int)) (by omega), Bool.false_or]
    by_cases h2 : 1048575 < g.next_
    · rw [decide_eq_true h2, cond_t, if_pos (.inr h2)]
    · rw [decide_eq_false h2, cond_f, if_neg (fun h => h.elim h1 h2), F34_is _ h hv, Option.bind_some, appO_eq (by simp; omega), Option.bind_some, wrap64 (by omega) (by omega)]

def setS (l : List GEnv) (group : Int) (name : Str) (values : List Str) : List GEnv × Int :=
  match ix (idP group) l with
  | none => (l, 1)
  | some i =>
    if vn name = false then (l, 6)
    else if values.length = 0 then
      match ix (nmP name) (l.getD i default).vars_ with
      | some k => (l.set i ⟨(l.getD i default).id_, (l.getD i default).next_, (l.getD i default).vars_.eraseIdx k⟩, 0)
      | none => (l, 0)
    else if (enc values).2 ≠ 0 then (l, (enc values).2)
    else
      match ix (nmP name) (l.getD i default).vars_ with
      | some k => (l.set i ⟨(l.getD i default).id_, (l.getD i default).next_, (l.getD i default).vars_.set k ⟨((l.getD i default).vars_.getD k default).id_, ((l.getD i default).vars_.getD k default).name_, values⟩⟩, 0)
      | none => if (addS (l.getD i default) name values).2 ≠ 0 then (l, (addS (l.getD i default) name values).2) else (l.set i (addS (l.getD i default) name values).1, 0)

theorem F14_is {l : List GEnv} (h : Bear 1000000 l) (hnx : ∀ g ∈ l, 2 ≤ g.next_) (group : Int) {name : Str} (hn : name.length ≤ maxLen) {values : List Str} (hv : values.length ≤ 1000000) (hx : ∀ x ∈ values, x.length ≤ 1000000) :
    F14 l group name values = some (setS l group name values) := by
  have hl := h.1
  unfold F14 setS
  rw [F32_is h, Option.bind_some]
  simp only
  rw [F33_is l group (by unfold maxLen; omega), Option.bind_some]
  cases hi : ix (idP group) l with
  | none =>
    rw [ixI_none hi]
    rfl
  | some i =>
    obtain ⟨h1, h2, h3⟩ := ix_some hi
    have hb := h.2 _ (List.getElem_mem h1)
    rw [ixI_some hi, decide_eq_false (p := (i : Int) < 0) (by omega), cond_f, F36_is _ hn, Option.bind_some]
    simp only
    cases hvn : vn name with
    | false => rfl
    | true =>
      rw [Bool.not_true, cond_f, if_neg (by decide), lidx_at h1, Option.bind_some, Int.toNat_natCast, ltO, if_pos h1, Option.bind_some, F37_is _ _ _ _ (by have := hb.1; unfold maxLen; omega), Option.bind_some, getD_at h1]
      by_cases h0 : values.length = 0
      · rw [decide_eq_true (p := (values.length : Int) = 0) (by omega), cond_t, if_pos h0]
        cases hk : ix (nmP name) l[i].vars_ with
        | none => rw [ixI_none hk]; rfl
        | some k =>
          obtain ⟨k1, _, _⟩ := ix_some hk
          have hb1 := hb.1
          rw [ixI_some hk, decide_eq_true (p := (0 : Int) ≤ (k : Int)) (by omega), cond_t, wrap64 (by omega) (by omega), L_DeleteV, if_pos ⟨by omega, by rw [Int.toNat_natCast]; exact k1, rfl, hb1⟩, Option.bind_some]
          rfl
      · rw [decide_eq_false (p := (values.length : Int) = 0) (by omega), cond_f, if_neg h0, F39_is hv hx, Option.bind_some]
        by_cases he : (enc values).2 = 0
        · rw [decide_eq_true he, Bool.not_true, cond_f, if_neg (fun h => h he)]
          cases hk : ix (nmP name) l[i].vars_ with
          | none =>
            rw [ixI_none hk, decide_eq_false (p := (0 : Int) ≤ -1) (by omega), cond_f, L_Clone, if_pos (by omega), Option.bind_some, F41_is _ _ _ hb.1 (fun v hv => (hb.2 v hv).2.1) (hnx _ (List.getElem_mem h1)), Option.bind_some]
            simp only
            by_cases ha : (addS l[i] name values).2 = 0
            · rw [decide_eq_true ha, Bool.not_true, cond_f, if_neg (fun h => h ha)]
            · rw [decide_eq_false ha, Bool.not_false, cond_t, if_pos ha]
          | some k =>
            obtain ⟨k1, _, _⟩ := ix_some hk
            rw [ixI_some hk, decide_eq_true (p := (0 : Int) ≤ (k : Int)) (by omega), cond_t, L_Clone, if_pos (by omega), Option.bind_some, lidx_at k1, Option.bind_some, Int.toNat_natCast]
            simp only
            rw [getD_at k1]
        · rw [decide_eq_false he, Bool.not_false, cond_t, if_pos he]

theorem F5_is (o : GOp) (w : o.values_.length ≤ maxLen) : ∃ b, F5 o = some b ∧ (b = true → o.name_.length ≤ 1000 ∧ Sh o.values_ 70000 ∧ o.data_.length ≤ 70000) := by
  unfold F5
  by_cases h1 : o.name_.length ≤ 1000
  · rw [decide_eq_true (p := (o.name_.length : Int) ≤ 1000) (by omega), guardO_true, show (70000 : Int) = ((70000 : Nat) : Int) from rfl]
    by_cases hs : Sh o.values_ 70000
    · rw [F9_sh hs, Option.bind_some]
      refine ⟨_, rfl, fun h => ⟨h1, hs, ?_⟩⟩
      simp only [Bool.true_and, decide_eq_true_eq] at h
      omega
    · rw [F9_not w hs, Option.bind_some]
      exact ⟨_, rfl, fun h => by simp at h⟩
  · rw [decide_eq_false (p := (o.name_.length : Int) ≤ 1000) (by omega), guardO_false, Option.bind_some]
    exact ⟨_, rfl, fun h => by simp at h⟩

theorem sv_bear {v : Var} (h : svB v = true) : v.name_.length ≤ 100000 ∧ v.values_.length ≤ 100000 ∧ ∀ x ∈ v.values_, x.length ≤ 100000 := by
  unfold svB at h
  simp only [Bool.and_eq_true, decide_eq_true_eq] at h
  refine ⟨by omega, by omega, fun x hx => ?_⟩
  have := Sh.mem (l := v.values_) (most := 70000) ⟨h.1.2, by omega⟩ (by omega) hx
  omega

def okG (g : GEnv) : Bool := !((((decide (g.id_ < 1) || decide (1099511627776 < g.id_)) || decide (g.next_ < 2)) || decide (1048576 < g.next_)) || decide (64 < (g.vars_.length : Int))) && (List.range' 0 g.vars_.length).all (okV g)

theorem okE_G (l : List GEnv) (i : Nat) : okE l i = (!(decide (0 < (i : Int)) && decide ((l.getD i default).id_ ≤ (l.getD (i - 1) default).id_)) && okG (l.getD i default)) := by
  unfold okE okG
  cases decide ((l.getD i default).id_ < 1) <;> cases decide (1099511627776 < (l.getD i default).id_) <;> cases (decide (0 < (i : Int)) && decide ((l.getD i default).id_ ≤ (l.getD (i - 1) default).id_)) <;>
    cases decide ((l.getD i default).next_ < 2) <;> cases decide (1048576 < (l.getD i default).next_) <;> cases decide (64 < ((l.getD i default).vars_.length : Int)) <;> rfl

/-- What the variables of a valid list have. -/
theorem right_of2 {l : List GEnv} (h : right l = true) {g : GEnv} (hg : g ∈ l) {k : Nat} (hk : k < g.vars_.length) : (enc g.vars_[k].values_).2 = 0 ∧ 2 ≤ g.vars_[k].id_ ∧ (0 < k → (g.vars_.getD (k - 1) default).id_ < g.vars_[k].id_) := by
  unfold right at h
  simp only [Bool.and_eq_true, Bool.not_eq_true', decide_eq_false_iff_not] at h
  obtain ⟨i, hi, rfl⟩ := List.getElem_of_mem hg
  have he := List.all_eq_true.1 h.2 i (mem_range0 hi)
  unfold okE at he
  rw [getD_at hi] at he
  simp only [Bool.and_eq_true, Bool.not_eq_true', decide_eq_false_iff_not] at he
  have hv := List.all_eq_true.1 he.2 k (mem_range0 hk)
  unfold okV at hv
  rw [getD_at hk] at hv
  simp only [Bool.and_eq_true, decide_eq_true_eq, Bool.not_eq_true', decide_eq_false_iff_not, Bool.and_eq_false_iff] at hv
  refine ⟨hv.1.1.1.1.1, by omega, fun h0 => ?_⟩
  rcases hv.2 with h1 | h1 <;> omega

theorem ix_at {α : Type} {p : α → Bool} : ∀ {l : List α} {k : Nat} (hk : k < l.length), p l[k] = true → (∀ (j : Nat) (hj : j < k), p (l[j]'(by omega)) = false) → ix p l = some k
  | x :: r, 0, hk, hp, hn => by
    simp only [List.getElem_cons_zero] at hp
    rw [ix, if_pos hp]
  | x :: r, k + 1, hk, hp, hn => by
    have h0 := hn 0 (by omega)
    simp only [List.getElem_cons_zero] at h0
    rw [ix, if_neg (by rw [h0]; decide), ix_at (by simpa using hk) (by simpa using hp) (fun j hj => by simpa using hn (j + 1) (by omega))]
    rfl

theorem F49_is (l : List GEnv) (i : Int) (h : l.length ≤ maxLen) : F49 l i = some (ixI (idP i) l) := by
  unfold maxLen at h
  unfold F49
  rw [iter_range (body := F49_b1 l i) l (fun x i k => bif idP _ x then some i else k) (some (-1)) (fun _ _ => rfl) (by omega), loop_ix0]

theorem F82_is (g : GEnv) (i : Int) (h : g.vars_.length ≤ maxLen) : F82 g i = some (ixI (vidP i) g.vars_) := by
  unfold maxLen at h
  have : F65x1 g.vars_ i = some (ixI (vidP i) g.vars_) := by
    unfold F65x1
    rw [iter_range (body := F65x1_b1 g.vars_ i) g.vars_ (fun x i k => bif vidP _ x then some i else k) (some (-1)) (fun _ _ => rfl) (by omega), loop_ix0]
  unfold F82
  rw [this]
  rfl

/-- A file: a group's root, or a variable of it. -/
def fileS (l : List GEnv) (group id : Int) : Option (Nat × Option Nat) :=
  match ix (idP group) l with
  | none => none
  | some i => if id = 1 then some (i, none) else match ix (vidP id) (l.getD i default).vars_ with
    | none => none
    | some k => some (i, some k)

theorem fileS_some {l : List GEnv} {group id : Int} {i : Nat} {k : Option Nat} (h : fileS l group id = some (i, k)) : ∃ hi : i < l.length, ix (idP group) l = some i ∧ match k with
    | none => True
    | some k => ∃ hk : k < l[i].vars_.length, l[i].vars_[k].id_ = id := by
  unfold fileS at h
  cases hi : ix (idP group) l with
  | none => rw [hi] at h; cases h
  | some j =>
    rw [hi] at h
    obtain ⟨h1, h2, h3⟩ := ix_some hi
    simp only at h
    split at h
    · cases h
      exact ⟨h1, rfl, trivial⟩
    · cases hk : ix (vidP id) (l.getD j default).vars_ with
      | none => rw [hk] at h; cases h
      | some m =>
        rw [hk] at h
        simp only [Option.some.injEq, Prod.mk.injEq] at h
        obtain ⟨rfl, rfl⟩ := h
        rw [getD_at h1] at hk
        obtain ⟨k1, k2, k3⟩ := ix_some hk
        exact ⟨h1, rfl, k1, by simpa [vidP] using k2⟩

def kI : Option Nat → Int
  | none => -1
  | some k => (k : Int)

theorem kI_lt (k : Nat) : decide (kI (some k) < 0) = false := decide_eq_false (by show ¬ ((k : Int) < 0); omega)

theorem kI_ge (k : Nat) : decide (0 ≤ kI (some k)) = true := decide_eq_true (by show (0 : Int) ≤ (k : Int); omega)

theorem kI_none_ge : decide (0 ≤ kI none) = false := rfl

theorem F58_is {l : List GEnv} (h : Bear 1000000 l) (group id : Int) : F58 l group id = some (match fileS l group id with | none => (0, 0, 8) | some (i, k) => ((i : Int), kI k, 0)) := by
  have hl := h.1
  unfold F58 fileS
  rw [F33_is l group (by unfold maxLen; omega), Option.bind_some]
  cases hi : ix (idP group) l with
  | none => rw [ixI_none hi]; rfl
  | some i =>
    obtain ⟨h1, h2, h3⟩ := ix_some hi
    have hb := (h.2 _ (List.getElem_mem h1)).1
    rw [ixI_some hi, decide_eq_false (p := (i : Int) < 0) (by omega), cond_f]
    simp only
    by_cases hid : id = 1
    · rw [decide_eq_true hid, cond_t, if_pos hid]; rfl
    · rw [decide_eq_false hid, cond_f, if_neg hid, lidx_at h1, Option.bind_some, F82_is _ _ (by unfold maxLen; omega), Option.bind_some, getD_at h1]
      cases hk : ix (vidP id) l[i].vars_ with
      | none => rw [ixI_none hk]; rfl
      | some k => rw [ixI_some hk, decide_eq_false (p := (k : Int) < 0) (by omega), cond_f]; rfl

theorem F55_is {l : List GEnv} (h : Bear 1000000 l) (group id : Int) : F55 l group id = some (match fileS l group id with | none => (0, 0, false) | some (i, k) => ((i : Int), kI k, true)) := by
  have hl := h.1
  unfold F55 fileS
  rw [F49_is l group (by unfold maxLen; omega), Option.bind_some]
  cases hi : ix (idP group) l with
  | none => rw [ixI_none hi]; rfl
  | some i =>
    obtain ⟨h1, h2, h3⟩ := ix_some hi
    have hb := (h.2 _ (List.getElem_mem h1)).1
    rw [ixI_some hi, decide_eq_false (p := (i : Int) < 0) (by omega), cond_f]
    simp only
    by_cases hid : id = 1
    · rw [decide_eq_true hid, cond_t, if_pos hid]; rfl
    · rw [decide_eq_false hid, cond_f, if_neg hid, getD_at h1]
      rw [iter_range (body := F55_b1 l (i : Int) id) l[i].vars_ (fun x k r => bif vidP id x then some ((i : Int), k, true) else r) (some (0, 0, false)) (fun again k => by rw [F55_b1, lidx_at h1]; rfl) (by omega)]
      have hloop : ∀ (vs : List Var) (j : Int), loopR (fun x k r => bif vidP id x then some ((i : Int), k, true) else r) (some (0, 0, false)) vs j = some (match ix (vidP id) vs with | none => (0, 0, false) | some k => ((i : Int), j + (k : Int), true)) := by
        intro vs
        induction vs with
        | nil => intro j; rfl
        | cons x r ih =>
          intro j
          rw [loopR, ix]
          cases hx : vidP id x with
          | true => rw [cond_t, if_pos rfl]; simp
          | false =>
            rw [cond_f, if_neg (by decide), ih]
            cases hr : ix (vidP id) r with
            | none => rfl
            | some k =>
              show some ((i : Int), j + 1 + (k : Int), true) = some ((i : Int), j + ((k + 1 : Nat) : Int), true)
              rw [show j + 1 + (k : Int) = j + ((k + 1 : Nat) : Int) by omega]
      rw [hloop]
      cases hk : ix (vidP id) l[i].vars_ with
      | none => rfl
      | some k => simp [kI]

theorem F45_is {l : List GEnv} (h : Bear 1000000 l) (group id : Int) : F45 l group id = some (match fileS l group id with | none => (0, 8) | some (i, none) => ((i : Int), 0) | some (i, some k) => (0, 9)) := by
  unfold F45
  rw [F58_is h, Option.bind_some]
  rcases fileS l group id with _ | ⟨i, _ | k⟩
  · rfl
  · rfl
  · dsimp only
    rw [kI_ge]
    rfl

theorem F42_is {l : List GEnv} (h : Bear 1000000 l) (group id : Int) : F42 l group id = some (match fileS l group id with | none => (0, 0, 8) | some (i, none) => (0, 0, 10) | some (i, some k) => ((i : Int), (k : Int), 0)) := by
  unfold F42
  rw [F58_is h, Option.bind_some]
  rcases fileS l group id with _ | ⟨i, _ | k⟩
  · rfl
  · rfl
  · dsimp only
    rw [kI_lt]
    rfl

theorem F81_is {l : List Str} (h : l.length ≤ 1000000) : F81 l = some l := by
  unfold F81
  rw [appO_eq (by simp; omega), Option.bind_some]
  rfl

theorem enc_glue {vs : List Str} (h : (enc vs).2 = 0) : enc vs = (glue 0 vs, 0) ∧ (glue 0 vs).length ≤ 65536 ∧ vs.length ≤ 256 := by
  unfold enc at h ⊢
  split
  · rename_i h0; rw [if_pos h0] at h; cases h
  rename_i h0
  rw [if_neg h0] at h
  split
  · rename_i h1; rw [if_pos h1] at h; cases h
  rename_i h1
  rw [if_neg h1] at h
  split
  · rename_i h2; rw [if_pos h2] at h; cases h
  rename_i h2
  rw [if_neg h2] at h
  split
  · rename_i h3; rw [if_pos h3] at h; cases h
  rename_i h3
  exact ⟨rfl, by omega, by omega⟩

theorem F43_is {v : Var} (h : (enc v.values_).2 = 0) : F43 v = some (glue 0 v.values_) := by
  obtain ⟨_, h1, h2⟩ := enc_glue h
  unfold F43 L_Join
  rw [join_glue, if_pos ⟨by omega, by omega⟩]
  rfl

theorem imin_nat {a : Int} {b : Nat} (h : 0 ≤ a) : imin a (b : Int) = ((min a.toNat b : Nat) : Int) := by
  unfold imin
  split <;> omega

theorem F56_is {l : List GEnv} (h : Bear 1000000 l) (hr : right l = true) (group id : Int) : F56 l group id = some (match fileS l group id with | none => (0, 0, [], 8) | some (i, none) => (0, 0, [], 10) | some (i, some k) => ((i : Int), (k : Int), glue 0 ((l.getD i default).vars_.getD k default).values_, 0)) := by
  unfold F56
  rw [F55_is h, Option.bind_some]
  rcases hf : fileS l group id with _ | ⟨i, _ | k⟩
  · rfl
  · rfl
  · obtain ⟨h1, hi, k1, _⟩ := fileS_some hf
    have he := (right_of2 hr (List.getElem_mem h1) k1).1
    have hv := (h.2 _ (List.getElem_mem h1)).2 _ (List.getElem_mem k1)
    simp only [Bool.not_true, cond_f]
    rw [kI_lt, cond_f, show kI (some k) = (k : Int) from rfl, lidx_at h1, Option.bind_some, lidx_at k1, Option.bind_some, F10_is hv.2.1 hv.2.2, (enc_glue he).1, Option.bind_some, getD_at h1, getD_at k1]

theorem F50_is {l : List GEnv} {i : Nat} (h : l.length ≤ 1000000) (hi : i < l.length) (g : GEnv) : F50 l (i : Int) g = some (l.set i g) := by
  unfold F50
  rw [appO_eq (by simp; omega), Option.bind_some, List.nil_append, lidx_at hi, Option.bind_some, Int.toNat_natCast]

theorem F52_is {g : GEnv} {k : Nat} (h : g.vars_.length ≤ 1000000) (hk : k < g.vars_.length) {values : List Str} (hv : values.length ≤ 1000000) : F52 g (k : Int) values = some ⟨g.id_, g.next_, g.vars_.set k ⟨g.vars_[k].id_, g.vars_[k].name_, values⟩⟩ := by
  unfold F52
  rw [appO_eq (by simp; omega), Option.bind_some, List.nil_append, F81_is hv, Option.bind_some, lidx_at hk, Option.bind_some, Int.toNat_natCast]

theorem F53_is (g : GEnv) (name : Str) (values : List Str) (h : g.vars_.length ≤ 1000000) (hv : values.length ≤ 1000000) (hn : 2 ≤ g.next_) : F53 g name values = some (addS g name values) := by
  unfold F53 addS
  by_cases h1 : 64 ≤ g.vars_.length
  · rw [decide_eq_true (p := (64 : Int) ≤ (g.vars_.length : Int)) (by omega), Bool.true_or, cond_t, if_pos (.inl h1)]
  · rw [decide_eq_false (p := (64 : Int) ≤ (g.vars_.length : Int)) (by omega), Bool.false_or]
    by_cases h2 : 1048575 < g.next_
    · rw [decide_eq_true h2, cond_t, if_pos (.inr h2)]
    · rw [decide_eq_false h2, cond_f, if_neg (fun h => h.elim h1 h2), appO_eq (by simp; omega), Option.bind_some, List.nil_append, F81_is hv, Option.bind_some, appO_eq (by simp; omega), Option.bind_some, wrap64 (by omega) (by omega)]

def G87 (k : Int) : Var → Int → (List Var → Option GEnv) → List Var → Option GEnv := fun v i kk acc => bif !decide (i = k) then (appO 48 acc [v]).bind fun out => kk out else kk acc

theorem loop87 (k : Int) (fin : List Var → Option GEnv) : ∀ (vs : List Var) (j : Int) (acc : List Var), k < j → acc.length + vs.length ≤ 1000000 → loopS (G87 k) fin vs j acc = fin (acc ++ vs)
  | [], j, acc, _, _ => by rw [loopS, List.append_nil]
  | v :: r, j, acc, hk, hl => by
    rw [List.length_cons] at hl
    rw [loopS, G87, decide_eq_false (by omega), Bool.not_false, cond_t, appO_eq (by simp; omega), Option.bind_some, loop87 k fin r (j + 1) _ (by omega) (by simp; omega), List.append_assoc]
    rfl

theorem loop87b (fin : List Var → Option GEnv) : ∀ (vs : List Var) (j : Int) (acc : List Var) (m : Nat), m < vs.length → acc.length + vs.length ≤ 1000000 → loopS (G87 (j + (m : Int))) fin vs j acc = fin (acc ++ vs.eraseIdx m)
  | [], j, acc, m, hm, _ => by simp at hm
  | v :: r, j, acc, 0, hm, hl => by
    rw [List.length_cons] at hl
    rw [loopS, G87, decide_eq_true (by omega), Bool.not_true, cond_f, loop87 _ fin r (j + 1) _ (by omega) (by omega)]
    rfl
  | v :: r, j, acc, m + 1, hm, hl => by
    rw [List.length_cons] at hl hm
    have := loop87b fin r (j + 1) (acc ++ [v]) m (by omega) (by simp; omega)
    rw [show j + 1 + (m : Int) = j + ((m + 1 : Nat) : Int) by omega] at this
    rw [loopS, G87, decide_eq_false (by omega), Bool.not_false, cond_t, appO_eq (by simp; omega), Option.bind_some, this, List.append_assoc]
    rfl

theorem iter87 (g : GEnv) (k : Int) (h : g.vars_.length ≤ 1000000) : F51 g k = loopS (G87 k) (fun acc => some ⟨g.id_, g.next_, acc⟩) g.vars_ 0 [] := by
  unfold F51
  refine iter_list (body := F51_b1 g k) g.vars_ (G87 k) _ (fun again i hi acc => ?_) (fun again acc => ?_) (by omega) []
  · rw [F51_b1, G87, decide_eq_true (p := (i : Int) < (g.vars_.length : Int)) (by omega), cond_t, lidx_at hi, Option.bind_some, wrap64 (by omega) (by omega)]
  · rw [F51_b1, decide_eq_false (by omega), cond_f]

theorem F51_at (g : GEnv) (k : Nat) (h : g.vars_.length ≤ 1000000) (hk : k < g.vars_.length) : F51 g (k : Int) = some ⟨g.id_, g.next_, g.vars_.eraseIdx k⟩ := by
  rw [iter87 g _ h]
  have := loop87b (fun acc => some ⟨g.id_, g.next_, acc⟩) g.vars_ 0 [] k hk (by simpa using h)
  rw [Int.zero_add] at this
  exact this

theorem F51_no (g : GEnv) (h : g.vars_.length ≤ 1000000) : F51 g (-1) = some g := by
  rw [iter87 g _ h]
  exact loop87 (-1) (fun acc => some ⟨g.id_, g.next_, acc⟩) g.vars_ 0 [] (by omega) (by simpa using h)

theorem F22_is {l : List GEnv} (h : Bear 1000000 l) (hnx : ∀ g ∈ l, 2 ≤ g.next_) (group : Int) {name : Str} (hn : name.length ≤ maxLen) {values : List Str} (hv : values.length ≤ 1000000) (hx : ∀ x ∈ values, x.length ≤ 1000000) :
    F22 l group name values = some (setS l group name values) := by
  have hl := h.1
  unfold F22 setS
  rw [F49_is l group (by unfold maxLen; omega), Option.bind_some]
  cases hi : ix (idP group) l with
  | none =>
    rw [ixI_none hi]
    rfl
  | some i =>
    obtain ⟨h1, h2, h3⟩ := ix_some hi
    have hb := h.2 _ (List.getElem_mem h1)
    rw [ixI_some hi, decide_eq_false (p := (i : Int) < 0) (by omega), cond_f, F11_is _ hn, Option.bind_some]
    simp only
    cases hvn : vn name with
    | false => rfl
    | true =>
      rw [Bool.not_true, cond_f, if_neg (by decide), lidx_at h1, Option.bind_some, F12_is _ _ (by have := hb.1; unfold maxLen; omega), Option.bind_some, getD_at h1]
      by_cases h0 : values.length = 0
      · rw [decide_eq_true (p := (values.length : Int) = 0) (by omega), cond_t, if_pos h0]
        cases hk : ix (nmP name) l[i].vars_ with
        | none =>
          rw [ixI_none hk, F51_no _ hb.1, Option.bind_some, F50_is hl h1, Option.bind_some, set_self (List.getElem?_eq_getElem h1)]
        | some k =>
          obtain ⟨k1, _, _⟩ := ix_some hk
          rw [ixI_some hk, F51_at _ _ hb.1 k1, Option.bind_some, F50_is hl h1, Option.bind_some]
      · rw [decide_eq_false (p := (values.length : Int) = 0) (by omega), cond_f, if_neg h0, F10_is hv hx, Option.bind_some]
        by_cases he : (enc values).2 = 0
        · rw [decide_eq_true he, Bool.not_true, cond_f, if_neg (fun h => h he)]
          cases hk : ix (nmP name) l[i].vars_ with
          | none =>
            rw [ixI_none hk, decide_eq_false (p := (0 : Int) ≤ -1) (by omega), cond_f, F53_is _ _ _ hb.1 hv (hnx _ (List.getElem_mem h1)), Option.bind_some]
            simp only
            by_cases ha : (addS l[i] name values).2 = 0
            · rw [decide_eq_true ha, Bool.not_true, cond_f, if_neg (fun h => h ha), F50_is hl h1, Option.bind_some]
            · rw [decide_eq_false ha, Bool.not_false, cond_t, if_pos ha]
          | some k =>
            obtain ⟨k1, _, _⟩ := ix_some hk
            rw [ixI_some hk, decide_eq_true (p := (0 : Int) ≤ (k : Int)) (by omega), cond_t, F52_is hb.1 k1 hv, Option.bind_some, F50_is hl h1, Option.bind_some]
            simp only
            rw [getD_at k1]
        · rw [decide_eq_false he, Bool.not_false, cond_t, if_pos he]

def createS (l : List GEnv) (group id : Int) (name : Str) : List GEnv × Int × Int :=
  match fileS l group id with
  | none => (l, 0, 8)
  | some (i, some k) => (l, 0, 9)
  | some (i, none) =>
    if vn name = false then (l, 0, 6)
    else match ix (nmP name) (l.getD i default).vars_ with
      | some k => (l, 0, 7)
      | none => if (addS (l.getD i default) name [[]]).2 ≠ 0 then (l, 0, (addS (l.getD i default) name [[]]).2) else (l.set i (addS (l.getD i default) name [[]]).1, (l.getD i default).next_, 0)

theorem addS_next {g : GEnv} {name : Str} {values : List Str} (h : (addS g name values).2 = 0) : (addS g name values).1 = ⟨g.id_, g.next_ + 1, g.vars_ ++ [⟨g.next_, name, values⟩]⟩ ∧ g.vars_.length < 64 ∧ g.next_ ≤ 1048575 := by
  unfold addS at h ⊢
  split
  · rename_i hc
    rw [if_pos hc] at h
    cases h
  · rename_i hc
    exact ⟨rfl, by omega, by omega⟩

theorem F25_is {l : List GEnv} (h : Bear 1000000 l) (hnx : ∀ g ∈ l, 2 ≤ g.next_) (group id : Int) {name : Str} (hn : name.length ≤ maxLen) : F25 l group id name = some (createS l group id name) := by
  unfold F25 createS
  rw [F32_is h, Option.bind_some]
  simp only
  rw [F45_is h, Option.bind_some]
  rcases hf : fileS l group id with _ | ⟨i, _ | k⟩
  · rfl
  · obtain ⟨h1, hi, _⟩ := fileS_some hf
    have hb := h.2 _ (List.getElem_mem h1)
    simp only [decide_true, Bool.not_true, cond_f]
    rw [F36_is _ hn, Option.bind_some]
    cases hvn : vn name with
    | false => rfl
    | true =>
      rw [Bool.not_true, cond_f, if_neg (by decide), lidx_at h1, Option.bind_some, F37x1_is _ _ (by have := hb.1; unfold maxLen; omega), Option.bind_some, getD_at h1]
      cases hk : ix (nmP name) l[i].vars_ with
      | some k => rw [ixI_some hk, decide_eq_true (p := (0 : Int) ≤ (k : Int)) (by omega), cond_t]
      | none =>
        rw [ixI_none hk, decide_eq_false (p := (0 : Int) ≤ -1) (by omega), cond_f, Option.bind_some, Int.toNat_natCast, ltO, if_pos h1, Option.bind_some, F41_is _ _ _ hb.1 (fun v hv => (hb.2 v hv).2.1) (hnx _ (List.getElem_mem h1)), Option.bind_some]
        simp only
        by_cases ha : (addS l[i] name [[]]).2 = 0
        · obtain ⟨e1, e2, e3⟩ := addS_next ha
          have := hnx _ (List.getElem_mem h1)
          rw [decide_eq_true ha, Bool.not_true, cond_f, if_neg (fun h => h ha), e1]
          simp only
          rw [show l[i].next_ + 1 - 1 = l[i].next_ by omega, wrap64 (by omega) (by omega)]
        · rw [decide_eq_false ha, Bool.not_false, cond_t, if_pos ha]
  · rfl

theorem F26_is {l : List GEnv} (h : Bear 1000000 l) (hnx : ∀ g ∈ l, 2 ≤ g.next_) (group id : Int) {name : Str} (hn : name.length ≤ maxLen) : F26 l group id name = some (createS l group id name) := by
  unfold F26 createS
  rw [F55_is h, Option.bind_some]
  rcases hf : fileS l group id with _ | ⟨i, _ | k⟩
  · rfl
  · obtain ⟨h1, hi, _⟩ := fileS_some hf
    have hb := h.2 _ (List.getElem_mem h1)
    simp only [Bool.not_true, cond_f]
    rw [kI_none_ge, cond_f, F11_is _ hn, Option.bind_some]
    cases hvn : vn name with
    | false => rfl
    | true =>
      rw [Bool.not_true, cond_f, if_neg (by decide), lidx_at h1, Option.bind_some, F12_is _ _ (by have := hb.1; unfold maxLen; omega), Option.bind_some, getD_at h1]
      cases hk : ix (nmP name) l[i].vars_ with
      | some k => rw [ixI_some hk, decide_eq_true (p := (0 : Int) ≤ (k : Int)) (by omega), cond_t]
      | none =>
        rw [ixI_none hk, decide_eq_false (p := (0 : Int) ≤ -1) (by omega), cond_f, F53_is _ _ _ hb.1 (by simp) (hnx _ (List.getElem_mem h1)), Option.bind_some]
        simp only
        by_cases ha : (addS l[i] name [[]]).2 = 0
        · rw [decide_eq_true ha, Bool.not_true, cond_f, if_neg (fun h => h ha), F50_is h.1 h1, Option.bind_some]
        · rw [decide_eq_false ha, Bool.not_false, cond_t, if_pos ha]
  · simp only [Bool.not_true, cond_f]
    rw [kI_ge]
    rfl

def resizeS (l : List GEnv) (group id : Int) : List GEnv × Int :=
  match fileS l group id with
  | none => (l, 8)
  | some (i, none) => (l, 10)
  | some (i, some k) => (l.set i ⟨(l.getD i default).id_, (l.getD i default).next_, (l.getD i default).vars_.set k ⟨((l.getD i default).vars_.getD k default).id_, ((l.getD i default).vars_.getD k default).name_, [[]]⟩⟩, 0)

theorem F28_is {l : List GEnv} (h : Bear 1000000 l) (group id : Int) : F28 l group id = some (resizeS l group id) := by
  unfold F28 resizeS
  rw [F32_is h, Option.bind_some]
  simp only
  rw [F42_is h, Option.bind_some]
  rcases hf : fileS l group id with _ | ⟨i, _ | k⟩
  · rfl
  · rfl
  · obtain ⟨h1, hi, k1, _⟩ := fileS_some hf
    simp only [decide_true, Bool.not_true, cond_f]
    rw [lidx_at h1, Option.bind_some, Int.toNat_natCast, ltO, if_pos h1, Option.bind_some, lidx_at k1, Option.bind_some, Int.toNat_natCast, getD_at h1, getD_at k1]

theorem F29_is {l : List GEnv} (h : Bear 1000000 l) (hr : right l = true) (group id : Int) : F29 l group id = some (resizeS l group id) := by
  unfold F29 resizeS
  rw [F56_is h hr, Option.bind_some]
  rcases hf : fileS l group id with _ | ⟨i, _ | k⟩
  · rfl
  · rfl
  · obtain ⟨h1, hi, k1, _⟩ := fileS_some hf
    simp only [decide_true, Bool.not_true, cond_f]
    rw [lidx_at h1, Option.bind_some, F52_is (h.2 _ (List.getElem_mem h1)).1 k1 (by simp), Option.bind_some, F50_is h.1 h1, Option.bind_some, getD_at h1, getD_at k1]

def removeS (l : List GEnv) (group id : Int) : List GEnv × Int :=
  match fileS l group id with
  | none => (l, 8)
  | some (i, none) => (l, 11)
  | some (i, some k) => (l.set i ⟨(l.getD i default).id_, (l.getD i default).next_, (l.getD i default).vars_.eraseIdx k⟩, 0)

theorem F30_is {l : List GEnv} (h : Bear 1000000 l) (group id : Int) : F30 l group id = some (removeS l group id) := by
  unfold F30 removeS
  rw [F32_is h, Option.bind_some]
  simp only
  rw [F58_is h, Option.bind_some]
  rcases hf : fileS l group id with _ | ⟨i, _ | k⟩
  · rfl
  · rfl
  · obtain ⟨h1, hi, k1, _⟩ := fileS_some hf
    have hb := (h.2 _ (List.getElem_mem h1)).1
    simp only [decide_true, Bool.not_true, cond_f]
    rw [kI_lt, cond_f, show kI (some k) = (k : Int) from rfl, lidx_at h1, Option.bind_some, Int.toNat_natCast, ltO, if_pos h1, Option.bind_some, wrap64 (by omega) (by omega), L_DeleteV, if_pos ⟨by omega, by rw [Int.toNat_natCast]; exact k1, rfl, hb⟩, Option.bind_some, getD_at h1]
    rfl

theorem F31_is {l : List GEnv} (h : Bear 1000000 l) (group id : Int) : F31 l group id = some (removeS l group id) := by
  unfold F31 removeS
  rw [F55_is h, Option.bind_some]
  rcases hf : fileS l group id with _ | ⟨i, _ | k⟩
  · rfl
  · rfl
  · obtain ⟨h1, hi, k1, _⟩ := fileS_some hf
    simp only [Bool.not_true, cond_f]
    rw [kI_lt, cond_f, show kI (some k) = (k : Int) from rfl, lidx_at h1, Option.bind_some, F51_at _ _ (h.2 _ (List.getElem_mem h1)).1 k1, Option.bind_some, F50_is h.1 h1, Option.bind_some, getD_at h1]

def writeS (l : List GEnv) (group id offset : Int) (data : Str) : List GEnv × Int × Int :=
  match fileS l group id with
  | none => (l, 0, 8)
  | some (i, none) => (l, 0, 10)
  | some (i, some k) =>
    if offset < 0 then (l, 0, 1) else if data = [] then (l, 0, 0) else if 65536 < offset ∨ 65536 < offset + (data.length : Int) then (l, 0, 4)
    else
      let s := glue 0 ((l.getD i default).vars_.getD k default).values_
      let t := s.take (min offset.toNat s.length) ++ List.replicate (offset.toNat - s.length) 0 ++ data ++ s.drop (offset.toNat + data.length)
      if (dec t).2 ≠ 0 then (l, 0, (dec t).2)
      else (l.set i ⟨(l.getD i default).id_, (l.getD i default).next_, (l.getD i default).vars_.set k ⟨((l.getD i default).vars_.getD k default).id_, ((l.getD i default).vars_.getD k default).name_, (dec t).1⟩⟩, (data.length : Int), 0)

theorem imax_nat {a : Int} : (imax a 0).toNat = a.toNat ∧ 0 ≤ imax a 0 ∧ imax a 0 = ((a.toNat : Nat) : Int) := by
  unfold imax
  split <;> omega

theorem j64_is {l : List GEnv} (h : Bear 1000000 l) {i k : Nat} (h1 : i < l.length) (k1 : k < l[i].vars_.length) (data t : Str) : F27_j1 l (i : Int) (k : Int) data t = some (if (dec t).2 ≠ 0 then (l, 0, (dec t).2) else (l.set i ⟨l[i].id_, l[i].next_, l[i].vars_.set k ⟨l[i].vars_[k].id_, l[i].vars_[k].name_, (dec t).1⟩⟩, (data.length : Int), 0)) := by
  have hd : (dec t).1.length ≤ 1000000 := by have := (dec_len (s := t)).1; omega
  have q12 := F57_is t
  unfold F27_j1
  rw [q12, Option.bind_some]
  rcases hD : dec t with ⟨vs, e⟩
  rw [hD] at hd
  simp only at hd ⊢
  by_cases he : e = 0
  · rw [decide_eq_true he, Bool.not_true, cond_f, if_neg (fun h => h he), lidx_at h1, Option.bind_some, F52_is (h.2 _ (List.getElem_mem h1)).1 k1 hd, Option.bind_some, F50_is h.1 h1, Option.bind_some]
  · rw [decide_eq_false he, Bool.not_false, cond_t, if_pos he]

theorem F27_is {l : List GEnv} (h : Bear 1000000 l) (hr : right l = true) (group id offset : Int) {data : Str} (hd : data.length ≤ 100000) (hof : offset ≤ 9223372036854775807) : F27 l group id offset data = some (writeS l group id offset data) := by
  unfold F27 writeS
  rw [F56_is h hr, Option.bind_some]
  rcases hf : fileS l group id with _ | ⟨i, _ | k⟩
  · rfl
  · rfl
  · obtain ⟨h1, hi, k1, _⟩ := fileS_some hf
    have he := (enc_glue (right_of2 hr (List.getElem_mem h1) k1).1).2.1
    have hb := h.2 _ (List.getElem_mem h1)
    dsimp only
    rw [getD_at h1, getD_at k1]
    simp only [decide_true, Bool.not_true, cond_f]
    by_cases ho : offset < 0
    · rw [decide_eq_true ho, cond_t, if_pos ho]
    · rw [decide_eq_false ho, cond_f, if_neg ho]
      by_cases hdn : data = []
      · rw [decide_eq_true hdn, cond_t, if_pos hdn]
      · rw [decide_eq_false hdn, cond_f, if_neg hdn]
        by_cases hbig : 65536 < offset ∨ 65536 < offset + (data.length : Int)
        · rw [if_pos hbig]
          by_cases hb1 : 65536 < offset
          · rw [decide_eq_true hb1, Bool.true_or, cond_t]
          · rw [decide_eq_false hb1, Bool.false_or, wrap64 (by omega) (by omega), decide_eq_true (by omega), cond_t]
        · rw [if_neg hbig, decide_eq_false (p := (65536 : Int) < offset) (by omega), Bool.false_or, wrap64 (n := offset + (data.length : Int)) (by omega) (by omega), decide_eq_false (p := (65536 : Int) < offset + (data.length : Int)) (by omega), cond_f]
          generalize glue 0 (l[i].vars_[k]).values_ = s at he
          obtain ⟨n, rfl⟩ : ∃ n : Nat, offset = (n : Int) := ⟨offset.toNat, by omega⟩
          rw [Int.toNat_natCast, imin_nat (by omega), Int.toNat_natCast, show (0 : Int) = ((0 : Nat) : Int) from rfl, sslice_in (Nat.zero_le _) (Nat.min_le_right _ _), Option.bind_some, List.drop_zero, Nat.sub_zero]
          rw [show ((0 : Nat) : Int) = (0 : Int) from rfl, wrap64 (n := (n : Int) - (s.length : Int)) (by omega) (by omega)]
          have hmx := imax_nat (a := (n : Int) - (s.length : Int))
          have htn : ((n : Int) - (s.length : Int)).toNat = n - s.length := by omega
          rw [mkO, if_pos ⟨hmx.2.1, by rw [hmx.1]; omega⟩, Option.bind_some, hmx.1, htn, catO_eq (by simp; omega), Option.bind_some, catO_eq (by simp; omega), Option.bind_some]
          have ho : (s.take (min n s.length) ++ List.replicate (n - s.length) 0 ++ data).length = n + data.length := by
            simp only [List.length_append, List.length_take, List.length_replicate]
            omega
          rw [ho]
          by_cases hlt : n + data.length < s.length
          · rw [decide_eq_true (p := ((n + data.length : Nat) : Int) < (s.length : Int)) (by omega), cond_t, sslice_in (by omega) (Nat.le_refl _), Option.bind_some, List.take_of_length_le (l := s.drop (n + data.length)) (by rw [List.length_drop]; exact Nat.le_refl _), catO_eq (by rw [ho, List.length_drop]; omega), Option.bind_some, j64_is h h1 k1]
          · rw [decide_eq_false (p := ((n + data.length : Nat) : Int) < (s.length : Int)) (by omega), cond_f, j64_is h h1 k1, List.drop_eq_nil_of_le (show s.length ≤ n + data.length by omega), List.append_nil]

theorem repeat_zero : ∀ m : Nat, Lib.repeatL [0] m = List.replicate m (0 : UInt8) := by
  intro m
  induction m with
  | zero => rfl
  | succ m ih => rw [Lib.repeatL, ih]; rfl

theorem F16_is {l : List GEnv} (h : Bear 1000000 l) (hr : right l = true) (group id offset : Int) {data : Str} (hd : data.length ≤ 100000) (hof : offset ≤ 9223372036854775807) : F16 l group id offset data = some (writeS l group id offset data) := by
  unfold F16 writeS
  rw [F32_is h, Option.bind_some]
  simp only
  rw [F42_is h, Option.bind_some]
  rcases hf : fileS l group id with _ | ⟨i, _ | k⟩
  · rfl
  · rfl
  · obtain ⟨h1, hi, k1, _⟩ := fileS_some hf
    have hen := (right_of2 hr (List.getElem_mem h1) k1).1
    have he := (enc_glue hen).2.1
    have hb := h.2 _ (List.getElem_mem h1)
    dsimp only
    rw [getD_at h1, getD_at k1]
    simp only [decide_true, Bool.not_true, cond_f]
    by_cases ho : offset < 0
    · rw [decide_eq_true ho, cond_t, if_pos ho]
    · rw [decide_eq_false ho, cond_f, if_neg ho]
      by_cases hdn : data = []
      · rw [decide_eq_true hdn, cond_t, if_pos hdn]
      · rw [decide_eq_false hdn, cond_f, if_neg hdn]
        by_cases hbig : 65536 < offset ∨ 65536 < offset + (data.length : Int)
        · rw [if_pos hbig]
          by_cases hb1 : 65536 < offset
          · rw [decide_eq_true hb1, Bool.true_or, cond_t]
          · rw [decide_eq_false hb1, Bool.false_or, wrap64 (by omega) (by omega), decide_eq_true (by omega), cond_t]
        · rw [if_neg hbig, decide_eq_false (p := (65536 : Int) < offset) (by omega), Bool.false_or, wrap64 (n := 65536 - offset) (by omega) (by omega), decide_eq_false (by omega), cond_f, lidx_at h1, Option.bind_some, lidx_at k1, Option.bind_some, F43_is hen, Option.bind_some]
          generalize glue 0 (l[i].vars_[k]).values_ = s at he
          obtain ⟨n, rfl⟩ : ∃ n : Nat, offset = (n : Int) := ⟨offset.toNat, by omega⟩
          have hmx := imax_nat (a := (n : Int) - (s.length : Int))
          have htn : ((n : Int) - (s.length : Int)).toNat = n - s.length := by omega
          rw [Int.toNat_natCast n, wrap64 (n := (n : Int) - (s.length : Int)) (by omega) (by omega), L_Repeat, if_pos ⟨hmx.2.1, by rw [hmx.2.2]; omega, by rw [hmx.1, htn]; simp; omega⟩, Option.bind_some, hmx.1, htn, repeat_zero, catO_eq (by simp; omega), Option.bind_some]
          have hsl : (s ++ List.replicate (n - s.length) (0 : UInt8)).length = max s.length n := by
            simp only [List.length_append, List.length_replicate]
            omega
          rw [show (0 : Int) = ((0 : Nat) : Int) from rfl, sslice_in (Nat.zero_le _) (by rw [hsl]; omega), Option.bind_some, List.drop_zero, Nat.sub_zero, catO_eq (by simp; omega), Option.bind_some, wrap64 (n := (n : Int) + (data.length : Int)) (by omega) (by omega), show (n : Int) + (data.length : Int) = ((n + data.length : Nat) : Int) by omega, imin_nat (by omega), Int.toNat_natCast,
            sslice_in (Nat.min_le_right _ _) (Nat.le_refl _), Option.bind_some, List.take_of_length_le (l := List.drop _ _) (by rw [List.length_drop]; exact Nat.le_refl _), catO_eq (by simp; omega), Option.bind_some, F19_is, Option.bind_some]
          have et : (s ++ List.replicate (n - s.length) (0 : UInt8)).take n ++ data ++ (s ++ List.replicate (n - s.length) (0 : UInt8)).drop (min (n + data.length) (s ++ List.replicate (n - s.length) (0 : UInt8)).length) = s.take (min n s.length) ++ List.replicate (n - s.length) 0 ++ data ++ s.drop (n + data.length) := by
            by_cases hns : n ≤ s.length
            · rw [show n - s.length = 0 by omega, List.replicate_zero, List.append_nil, List.append_nil, Nat.min_eq_left hns]
              congr 1
              by_cases hq : n + data.length ≤ s.length
              · rw [Nat.min_eq_left hq]
              · rw [Nat.min_eq_right (by omega), List.drop_eq_nil_of_le (Nat.le_refl _), List.drop_eq_nil_of_le (by omega)]
            · rw [List.take_of_length_le (by rw [hsl]; omega), Nat.min_eq_right (a := n) (by omega), List.take_of_length_le (l := s) (Nat.le_refl _), List.drop_eq_nil_of_le (by rw [hsl]; omega), List.drop_eq_nil_of_le (show s.length ≤ n + data.length by omega)]
          rw [show ((0 : Nat) : Int) = (0 : Int) from rfl, et]
          generalize s.take (min n s.length) ++ List.replicate (n - s.length) 0 ++ data ++ s.drop (n + data.length) = t
          by_cases hz : (dec t).2 = 0
          · rw [decide_eq_true hz, Bool.not_true, cond_f, if_neg (fun h => h hz), Option.bind_some, Int.toNat_natCast, ltO, if_pos h1, Option.bind_some, lidx_at k1, Option.bind_some, Int.toNat_natCast]
          · rw [decide_eq_false hz, Bool.not_false, cond_t, if_pos hz]

def insE (g : GEnv) : List GEnv → List GEnv
  | [] => [g]
  | x :: r => if g.id_ < x.id_ then g :: x :: r else x :: insE g r

def copyS (l : List GEnv) (group to : Int) : List GEnv × Int :=
  if (to < 1 ∨ 1099511627776 < to) ∨ (group ≠ 0 ∧ ix (idP group) l = none) then (l, 1)
  else if (ix (idP to) l).isSome = true then (l, 7)
  else if 64 ≤ l.length then (l, 22)
  else (insE (if group = 0 then ⟨to, 2, []⟩ else ⟨to, (l.getD ((ix (idP group) l).getD 0) default).next_, (l.getD ((ix (idP group) l).getD 0) default).vars_⟩) l, 0)

/-- The package's loop: the first place whose group's number is not less. -/
theorem at_ins (g : GEnv) : ∀ (l : List GEnv), (∀ x ∈ l, x.id_ ≠ g.id_) → ∃ p, p ≤ l.length ∧ insE g l = l.take p ++ [g] ++ l.drop p ∧ (∀ (j : Nat) (hj : j < l.length), j < p → l[j].id_ < g.id_) ∧ ∀ (hp : p < l.length), ¬ l[p].id_ < g.id_
  | [], _ => ⟨0, Nat.le_refl _, rfl, fun j hj => by simp at hj, fun hp => by simp at hp⟩
  | x :: r, h => by
    have hx := h x (by simp)
    by_cases hlt : g.id_ < x.id_
    · refine ⟨0, Nat.zero_le _, by rw [insE, if_pos hlt]; rfl, fun j hj h0 => by omega, fun hp => ?_⟩
      simp only [List.getElem_cons_zero]
      omega
    · obtain ⟨p, h1, h2, h3, h4⟩ := at_ins g r fun y hy => h y (by simp [hy])
      refine ⟨p + 1, by simpa using h1, by rw [insE, if_neg hlt, h2]; rfl, fun j hj hjp => ?_, fun hp => by simpa using h4 (by simpa using hp)⟩
      cases j with
      | zero => simp only [List.getElem_cons_zero]; omega
      | succ j => simpa using h3 j (by simpa using hj) (by omega)

theorem loop32 {l : List GEnv} (hl : l.length ≤ 1000000) {to : Int} {body : (Int → Option (List GEnv × Int)) → Int → Option (List GEnv × Int)} {g : GEnv} (hg : g.id_ = to)
    (hb : ∀ again i, body again i = (guardO (decide (i < (l.length : Int))) (lidx l i)).bind fun u => bif (decide (i < (l.length : Int)) && decide (u.id_ < to)) then again (IntKind.wrap .i64 (i + 1)) else (L_InsertE l i [g]).bind fun r => some (r, 0))
    (hne : ∀ x ∈ l, x.id_ ≠ to) : iter body BIG 0 = some (insE g l, 0) := by
  obtain ⟨p, h1, h2, h3, h4⟩ := at_ins g l (by rw [hg]; exact hne)
  have hm : ∀ (n j : Nat), j ≤ p → p - j < n → iter body n (j : Int) = some (insE g l, 0) := by
    intro n
    induction n with
    | zero => intro j _ h; omega
    | succ n ih =>
      intro j hj hn
      show body (iter body n) j = _
      rw [hb]
      by_cases hjp : j = p
      · subst hjp
        have hins : L_InsertE l (j : Int) [g] = some (insE g l) := by
          rw [L_InsertE, if_pos ⟨by omega, by omega, rfl, hl⟩, Int.toNat_natCast, h2]
        by_cases hjl : j < l.length
        · rw [decide_eq_true (p := (j : Int) < (l.length : Int)) (by omega), guardO_true, lidx_at hjl, Option.bind_some, decide_eq_false (by rw [← hg]; exact h4 hjl)]
          rw [Bool.and_false, cond_f, hins]
          rfl
        · rw [decide_eq_false (p := (j : Int) < (l.length : Int)) (by omega), guardO_false, Option.bind_some, Bool.false_and, cond_f, hins]
          rfl
      · have hjl : j < l.length := by omega
        rw [decide_eq_true (p := (j : Int) < (l.length : Int)) (by omega), guardO_true, lidx_at hjl, Option.bind_some, decide_eq_true (by rw [← hg]; exact h3 j hjl (by omega)), Bool.and_self, cond_t, wrap64 (by omega) (by omega), show ((j : Int) + 1) = ((j + 1 : Nat) : Int) by omega]
        exact ih (j + 1) (by omega) (by omega)
  exact hm BIG 0 (Nat.zero_le _) (by unfold BIG; omega)

/-- The document's loop. -/
theorem loop61 {l : List GEnv} (hl : l.length ≤ 1000000) {to : Int} {g : GEnv} (hg : g.id_ = to) {body : ((Bool × Int × List GEnv) → Option (List GEnv × Int)) → (Bool × Int × List GEnv) → Option (List GEnv × Int)}
    (hb : ∀ again (d : Bool) (i : Nat) (acc : List GEnv) (hi : i < l.length), acc.length ≤ 2000000 → body again (d, (i : Int), acc) = if to < l[i].id_ ∧ d = false then again (true, ((i + 1 : Nat) : Int), acc ++ [g] ++ [l[i]]) else again (d, ((i + 1 : Nat) : Int), acc ++ [l[i]]))
    (hf : ∀ again (d : Bool) (acc : List GEnv), acc.length ≤ 2000000 → body again (d, (l.length : Int), acc) = some (if d = false then acc ++ [g] else acc, 0)) :
    iter body BIG (false, 0, []) = some (insE g l, 0) := by
  have hm : ∀ (n j : Nat) (d : Bool) (acc : List GEnv), j ≤ l.length → l.length - j < n → acc.length ≤ 2 * j → iter body n (d, (j : Int), acc) = some (acc ++ (if d = true then l.drop j else insE g (l.drop j)), 0) := by
    intro n
    induction n with
    | zero => intro j d acc _ h; omega
    | succ n ih =>
      intro j d acc hj hn ha
      show body (iter body n) (d, (j : Int), acc) = _
      by_cases hlt : j < l.length
      · rw [hb _ _ _ _ hlt (by omega), drop_at hlt]
        cases d with
        | true =>
          rw [if_neg (by simp), ih (j + 1) _ _ (by omega) (by omega) (by simp; omega), if_pos rfl, if_pos rfl, List.append_assoc]
          rfl
        | false =>
          rw [insE, hg]
          by_cases hc : to < l[j].id_
          · rw [if_pos ⟨hc, rfl⟩, ih (j + 1) _ _ (by omega) (by omega) (by simp; omega), if_pos rfl, if_neg (by simp), if_pos hc, List.append_assoc, List.append_assoc]
            rfl
          · rw [if_neg (fun h => hc h.1), ih (j + 1) _ _ (by omega) (by omega) (by simp; omega), if_neg (by simp), if_neg (by simp), if_neg hc, List.append_assoc]
            rfl
      · obtain rfl : j = l.length := by omega
        rw [hf _ _ _ (by omega), List.drop_eq_nil_of_le (Nat.le_refl _)]
        cases d <;> simp [insE]
  have := hm BIG 0 false [] (Nat.zero_le _) (by unfold BIG; omega) (by simp)
  exact this

theorem F13_is {l : List GEnv} (h : Bear 1000000 l) (group to : Int) : F13 l group to = some (copyS l group to) := by
  have hl := h.1
  unfold F13 copyS
  rw [F32_is h, Option.bind_some]
  simp only
  rw [F33_is l group (by unfold maxLen; omega), Option.bind_some, F33_is l to (by unfold maxLen; omega)]
  have hneg : decide (ixI (idP group) l < 0) = decide (ix (idP group) l = none) := by
    rw [ixI]
    cases ix (idP group) l with
    | none => rfl
    | some k => simp
  rw [hneg]
  by_cases hc : (to < 1 ∨ 1099511627776 < to) ∨ (group ≠ 0 ∧ ix (idP group) l = none)
  · have : ((decide (to < 1) || decide (1099511627776 < to)) || (!decide (group = 0) && decide (ix (idP group) l = none))) = true := by simpa using hc
    rw [this, cond_t, if_pos hc]
  · have : ((decide (to < 1) || decide (1099511627776 < to)) || (!decide (group = 0) && decide (ix (idP group) l = none))) = false := by
      rw [Bool.eq_false_iff]
      intro h
      exact hc (by simpa using h)
    rw [this, cond_f, if_neg hc, Option.bind_some]
    cases ht : ix (idP to) l with
    | some k =>
      rw [ixI_some ht, decide_eq_true (p := (0 : Int) ≤ (k : Int)) (by omega), cond_t, if_pos (show (some k).isSome = true from rfl)]
    | none =>
      have hne : ∀ x ∈ l, x.id_ ≠ to := fun x hx e => by
        have := List.find?_eq_none.1 (ix_none ht) x hx
        exact this (by simp [idP, e])
      rw [ixI_none ht, decide_eq_false (p := (0 : Int) ≤ -1) (by omega), cond_f, if_neg (by simp)]
      by_cases h64 : 64 ≤ l.length
      · rw [decide_eq_true (p := (64 : Int) ≤ (l.length : Int)) (by omega), cond_t, if_pos h64]
      · rw [decide_eq_false (p := (64 : Int) ≤ (l.length : Int)) (by omega), cond_f, if_neg h64]
        by_cases hg0 : group = 0
        · rw [decide_eq_true hg0, Bool.not_true, cond_f, if_pos hg0]
          exact loop32 hl (g := ⟨to, 2, []⟩) rfl (fun _ _ => rfl) hne
        · rw [decide_eq_false hg0, Bool.not_false, cond_t, if_neg hg0]
          cases hi : ix (idP group) l with
          | none => exact absurd (.inr ⟨hg0, hi⟩) hc
          | some i =>
            obtain ⟨h1, _, _⟩ := ix_some hi
            have hb := h.2 _ (List.getElem_mem h1)
            rw [ixI_some hi, lidx_at h1, Option.bind_some, F34_is _ hb.1 (fun v hv => (hb.2 v hv).2.1), Option.bind_some]
            simp only [Option.getD_some]
            rw [getD_at h1]
            exact loop32 hl (g := ⟨to, l[i].next_, l[i].vars_⟩) rfl (fun _ _ => rfl) hne

theorem F24_is {l : List GEnv} (h : Bear 1000000 l) (group to : Int) : F24 l group to = some (copyS l group to) := by
  have hl := h.1
  unfold F24 copyS
  rw [F49_is l group (by unfold maxLen; omega), Option.bind_some, F49_is l to (by unfold maxLen; omega)]
  have hneg : decide (ixI (idP group) l < 0) = decide (ix (idP group) l = none) := by
    rw [ixI]
    cases ix (idP group) l with
    | none => rfl
    | some k => simp
  rw [hneg]
  by_cases hc : (to < 1 ∨ 1099511627776 < to) ∨ (group ≠ 0 ∧ ix (idP group) l = none)
  · have : ((decide (to < 1) || decide (1099511627776 < to)) || (!decide (group = 0) && decide (ix (idP group) l = none))) = true := by simpa using hc
    rw [this, cond_t, if_pos hc]
  · have : ((decide (to < 1) || decide (1099511627776 < to)) || (!decide (group = 0) && decide (ix (idP group) l = none))) = false := by
      rw [Bool.eq_false_iff]
      intro h
      exact hc (by simpa using h)
    rw [this, cond_f, if_neg hc, Option.bind_some]
    cases ht : ix (idP to) l with
    | some k =>
      rw [ixI_some ht, decide_eq_true (p := (0 : Int) ≤ (k : Int)) (by omega), cond_t, if_pos (show (some k).isSome = true from rfl)]
    | none =>
      rw [ixI_none ht, decide_eq_false (p := (0 : Int) ≤ -1) (by omega), cond_f, if_neg (by simp)]
      by_cases h64 : 64 ≤ l.length
      · rw [decide_eq_true (p := (64 : Int) ≤ (l.length : Int)) (by omega), cond_t, if_pos h64]
      · rw [decide_eq_false (p := (64 : Int) ≤ (l.length : Int)) (by omega), cond_f, if_neg h64]
        by_cases hg0 : group = 0
        · rw [decide_eq_true hg0, Bool.not_true, cond_f, if_pos hg0]
          refine loop61 hl (g := ⟨to, 2, []⟩) rfl (fun again d i acc hi ha => ?_) (fun again d acc ha => ?_)
          · unfold F24_b5 F24_j6
            simp only
            rw [decide_eq_true (p := (i : Int) < (l.length : Int)) (by omega), cond_t, lidx_at hi, Option.bind_some, wrap64 (by omega) (by omega), show ((i : Int) + 1) = ((i + 1 : Nat) : Int) by omega]
            cases d with
            | true => rw [Bool.not_true, Bool.and_false, cond_f, if_neg (by simp), Option.bind_some, appO_eq (by simp; omega), Option.bind_some]
            | false =>
              by_cases hq : to < l[i].id_
              · rw [decide_eq_true hq, Bool.not_false, Bool.and_true, cond_t, if_pos ⟨hq, rfl⟩, appO_eq (by simp; omega), Option.bind_some, Option.bind_some, appO_eq (by simp; omega), Option.bind_some]
              · rw [decide_eq_false hq, Bool.false_and, cond_f, if_neg (fun h => hq h.1), Option.bind_some, appO_eq (by simp; omega), Option.bind_some]
          · unfold F24_b5
            simp only
            rw [decide_eq_false (p := (l.length : Int) < (l.length : Int)) (by omega), cond_f]
            cases d with
            | true => rfl
            | false => rw [Bool.not_false, cond_t, if_pos rfl, appO_eq (by simp; omega), Option.bind_some]
        · rw [decide_eq_false hg0, Bool.not_false, cond_t, if_neg hg0]
          cases hi : ix (idP group) l with
          | none => exact absurd (.inr ⟨hg0, hi⟩) hc
          | some i =>
            obtain ⟨h1, _, _⟩ := ix_some hi
            rw [ixI_some hi, lidx_at h1, Option.bind_some]
            simp only [Option.getD_some]
            rw [getD_at h1]
            refine loop61 hl (g := ⟨to, l[i].next_, l[i].vars_⟩) rfl (fun again d j acc hj ha => ?_) (fun again d acc ha => ?_)
            · unfold F24_b2 F24_j3
              simp only
              rw [decide_eq_true (p := (j : Int) < (l.length : Int)) (by omega), cond_t, lidx_at hj, Option.bind_some, wrap64 (by omega) (by omega), show ((j : Int) + 1) = ((j + 1 : Nat) : Int) by omega]
              cases d with
              | true => rw [Bool.not_true, Bool.and_false, cond_f, if_neg (by simp), Option.bind_some, appO_eq (by simp; omega), Option.bind_some]
              | false =>
                by_cases hq : to < l[j].id_
                · rw [decide_eq_true hq, Bool.not_false, Bool.and_true, cond_t, if_pos ⟨hq, rfl⟩, appO_eq (by simp; omega), Option.bind_some, Option.bind_some, appO_eq (by simp; omega), Option.bind_some]
                · rw [decide_eq_false hq, Bool.false_and, cond_f, if_neg (fun h => hq h.1), Option.bind_some, appO_eq (by simp; omega), Option.bind_some]
            · unfold F24_b2
              simp only
              rw [decide_eq_false (p := (l.length : Int) < (l.length : Int)) (by omega), cond_f]
              cases d with
              | true => rfl
              | false => rw [Bool.not_false, cond_t, if_pos rfl, appO_eq (by simp; omega), Option.bind_some]

theorem all_range {n : Nat} {f : Nat → Bool} : (List.range' 0 n).all f = true ↔ ∀ k, k < n → f k = true := by
  rw [List.all_eq_true]
  constructor
  · intro h k hk
    exact h k (mem_range0 hk)
  · intro h k hk
    rw [List.mem_range'] at hk
    obtain ⟨i, hi, rfl⟩ := hk
    exact h _ (by omega)

theorem names_iff {vs : List Var} : (∀ (k : Nat) (hk : k < vs.length), ixI (nmP vs[k].name_) vs = (k : Int)) ↔ (vs.map Var.name_).Nodup := by
  constructor
  · intro h
    rw [List.Nodup, List.pairwise_iff_getElem]
    intro i j hi hj hij he
    rw [List.length_map] at hi hj
    rw [List.getElem_map, List.getElem_map] at he
    have h1 := h i hi
    have h2 := h j hj
    rw [he] at h1
    omega
  · intro h k hk
    rw [List.Nodup, List.pairwise_iff_getElem] at h
    refine ixI_some (ix_at hk (by simp [nmP]) fun j hj => ?_)
    have := h j k (by rw [List.length_map]; omega) (by rw [List.length_map]; exact hk) hj
    rw [List.getElem_map, List.getElem_map] at this
    simpa [nmP] using this

theorem steps_iff {α : Type} (f : α → Int) {l : List α} : (∀ (k : Nat) (hk : k < l.length) (h0 : 0 < k), f (l[k - 1]'(by omega)) < f l[k]) ↔ (l.map f).Pairwise (· < ·) := by
  constructor
  · intro h
    rw [List.pairwise_iff_getElem]
    intro i j hi hj hij
    rw [List.length_map] at hi hj
    rw [List.getElem_map, List.getElem_map]
    have : ∀ (m : Nat) (hm : i + m + 1 < l.length), f l[i] < f l[i + m + 1] := by
      intro m
      induction m with
      | zero => intro hm; exact h (i + 0 + 1) hm (by omega)
      | succ m ih =>
        intro hm
        have h1 := ih (by omega)
        have h2 := h (i + (m + 1) + 1) hm (by omega)
        simp only [show i + (m + 1) + 1 - 1 = i + m + 1 by omega] at h2
        omega
    have := this (j - i - 1) (by omega)
    simpa [show i + (j - i - 1) + 1 = j by omega] using this
  · intro h k hk h0
    rw [List.pairwise_iff_getElem] at h
    have := h (k - 1) k (by rw [List.length_map]; omega) (by rw [List.length_map]; exact hk) (by omega)
    simpa using this

structure GoodG (g : GEnv) : Prop where
  id1 : 1 ≤ g.id_
  id2 : g.id_ ≤ 1099511627776
  nx1 : 2 ≤ g.next_
  nx2 : g.next_ ≤ 1048576
  len : g.vars_.length ≤ 64
  var : ∀ v ∈ g.vars_, (enc v.values_).2 = 0 ∧ vn v.name_ = true ∧ 2 ≤ v.id_ ∧ v.id_ < g.next_
  names : (g.vars_.map Var.name_).Nodup
  ids : (g.vars_.map Var.id_).Pairwise (· < ·)

structure RightG (l : List GEnv) : Prop where
  len : l.length ≤ 64
  grp : ∀ g ∈ l, GoodG g
  ids : (l.map GEnv.id_).Pairwise (· < ·)

theorem okV_iff {g : GEnv} {k : Nat} (hk : k < g.vars_.length) : okV g k = true ↔ ((enc g.vars_[k].values_).2 = 0 ∧ vn g.vars_[k].name_ = true ∧ 2 ≤ g.vars_[k].id_ ∧ g.vars_[k].id_ < g.next_) ∧ ixI (nmP g.vars_[k].name_) g.vars_ = (k : Int) ∧ ∀ h0 : 0 < k, (g.vars_[k - 1]'(by omega)).id_ < g.vars_[k].id_ := by
  unfold okV
  rw [getD_at hk]
  simp only [Bool.and_eq_true, decide_eq_true_eq, Bool.not_eq_true', decide_eq_false_iff_not, Bool.and_eq_false_iff]
  constructor
  · rintro ⟨⟨⟨⟨⟨a, b⟩, c⟩, d⟩, e⟩, f⟩
    refine ⟨⟨a, b, by omega, by omega⟩, c, fun h0 => ?_⟩
    rw [getD_at (by omega)] at f
    rcases f with f | f <;> omega
  · rintro ⟨⟨a, b, d, e⟩, c, f⟩
    refine ⟨⟨⟨⟨⟨a, b⟩, c⟩, by omega⟩, by omega⟩, ?_⟩
    by_cases h0 : 0 < k
    · have := f h0
      rw [getD_at (by omega)]
      exact .inr (by omega)
    · exact .inl (by omega)

theorem okG_iff {g : GEnv} : okG g = true ↔ GoodG g := by
  unfold okG
  simp only [Bool.and_eq_true, Bool.not_eq_true', Bool.or_eq_false_iff, decide_eq_false_iff_not]
  rw [all_range]
  constructor
  · rintro ⟨⟨⟨⟨⟨a, b⟩, c⟩, d⟩, e⟩, f⟩
    refine ⟨by omega, by omega, by omega, by omega, by omega, fun v hv => ?_, names_iff.1 fun k hk => ((okV_iff hk).1 (f k hk)).2.1, (steps_iff Var.id_).1 fun k hk h0 => ((okV_iff hk).1 (f k hk)).2.2 h0⟩
    obtain ⟨k, hk, rfl⟩ := List.getElem_of_mem hv
    exact ((okV_iff hk).1 (f k hk)).1
  · intro h
    refine ⟨⟨⟨⟨⟨?_, ?_⟩, ?_⟩, ?_⟩, ?_⟩, fun k hk => (okV_iff hk).2 ⟨h.var _ (List.getElem_mem hk), names_iff.2 h.names k hk, fun h0 => (steps_iff Var.id_).2 h.ids k hk h0⟩⟩
    · have := h.id1; omega
    · have := h.id2; omega
    · have := h.nx1; omega
    · have := h.nx2; omega
    · have := h.len; omega

theorem right_iff {l : List GEnv} : right l = true ↔ RightG l := by
  unfold right
  simp only [Bool.and_eq_true, Bool.not_eq_true', decide_eq_false_iff_not]
  rw [all_range]
  have hE : ∀ (i : Nat) (hi : i < l.length), okE l i = true ↔ (∀ h0 : 0 < i, (l[i - 1]'(by omega)).id_ < l[i].id_) ∧ GoodG l[i] := by
    intro i hi
    rw [okE_G, getD_at hi, Bool.and_eq_true, okG_iff]
    simp only [Bool.not_eq_true', Bool.and_eq_false_iff, decide_eq_false_iff_not]
    refine and_congr ⟨fun h h0 => ?_, fun h => ?_⟩ Iff.rfl
    · rw [getD_at (by omega)] at h
      rcases h with h | h <;> omega
    · by_cases h0 : 0 < i
      · have := h h0
        rw [getD_at (by omega)]
        exact .inr (by omega)
      · exact .inl (by omega)
  constructor
  · rintro ⟨a, b⟩
    refine ⟨by omega, fun g hg => ?_, (steps_iff GEnv.id_).1 fun k hk h0 => ((hE k hk).1 (b k hk)).1 h0⟩
    obtain ⟨i, hi, rfl⟩ := List.getElem_of_mem hg
    exact ((hE i hi).1 (b i hi)).2
  · intro h
    exact ⟨by have := h.len; omega, fun i hi => (hE i hi).2 ⟨fun h0 => (steps_iff GEnv.id_).2 h.ids i hi h0, h.grp _ (List.getElem_mem hi)⟩⟩

theorem map_set_same {α β : Type} (f : α → β) {l : List α} {k : Nat} {y : α} (hk : k < l.length) (h : f y = f l[k]) : (l.set k y).map f = l.map f := by
  rw [List.map_set, h]
  exact set_self (by rw [List.getElem?_map, List.getElem?_eq_getElem hk]; rfl)

theorem GoodG.setV {g : GEnv} (h : GoodG g) {k : Nat} (hk : k < g.vars_.length) {values : List Str} (he : (enc values).2 = 0) : GoodG ⟨g.id_, g.next_, g.vars_.set k ⟨g.vars_[k].id_, g.vars_[k].name_, values⟩⟩ := by
  refine ⟨h.id1, h.id2, h.nx1, h.nx2, by simp only [List.length_set]; exact h.len, fun v hv => ?_, ?_, ?_⟩
  · rcases List.mem_or_eq_of_mem_set hv with hv | rfl
    · exact h.var v hv
    · have := h.var _ (List.getElem_mem hk)
      exact ⟨he, this.2⟩
  · rw [map_set_same Var.name_ (y := ⟨g.vars_[k].id_, g.vars_[k].name_, values⟩) hk rfl]; exact h.names
  · rw [map_set_same Var.id_ (y := ⟨g.vars_[k].id_, g.vars_[k].name_, values⟩) hk rfl]; exact h.ids

theorem GoodG.erase {g : GEnv} (h : GoodG g) (k : Nat) : GoodG ⟨g.id_, g.next_, g.vars_.eraseIdx k⟩ := by
  have hs := List.eraseIdx_sublist g.vars_ k
  exact ⟨h.id1, h.id2, h.nx1, h.nx2, Nat.le_trans hs.length_le h.len, fun v hv => h.var v (List.mem_of_mem_eraseIdx hv), (hs.map Var.name_).nodup h.names, h.ids.sublist (hs.map Var.id_)⟩

theorem GoodG.add {g : GEnv} (h : GoodG g) {name : Str} {values : List Str} (hn : vn name = true) (he : (enc values).2 = 0) (hx : ix (nmP name) g.vars_ = none) (ha : (addS g name values).2 = 0) : GoodG (addS g name values).1 := by
  obtain ⟨e1, e2, e3⟩ := addS_next ha
  rw [e1]
  have hx1 := h.nx1
  refine ⟨h.id1, h.id2, by show 2 ≤ g.next_ + 1; omega, by show g.next_ + 1 ≤ 1048576; omega, by simp only [List.length_append, List.length_singleton]; omega, fun v hv => ?_, ?_, ?_⟩
  · simp only [List.mem_append, List.mem_singleton] at hv
    rcases hv with hv | rfl
    · have := h.var v hv
      exact ⟨this.1, this.2.1, this.2.2.1, by show v.id_ < g.next_ + 1; omega⟩
    · exact ⟨he, hn, hx1, by show g.next_ < g.next_ + 1; omega⟩
  · simp only [List.map_append, List.map_cons, List.map_nil]
    rw [List.nodup_append]
    refine ⟨h.names, by simp, fun a ham b hb => ?_⟩
    simp only [List.mem_singleton] at hb
    subst hb
    intro e
    subst e
    obtain ⟨v, hv, hva⟩ := List.mem_map.1 ham
    exact List.find?_eq_none.1 (ix_none hx) v hv (by simp [nmP, hva])
  · simp only [List.map_append, List.map_cons, List.map_nil]
    rw [List.pairwise_append]
    refine ⟨h.ids, by simp, fun a ha b hb => ?_⟩
    simp only [List.mem_singleton] at hb
    subst hb
    obtain ⟨v, hv, rfl⟩ := List.mem_map.1 ha
    exact (h.var v hv).2.2.2

theorem RightG.set {l : List GEnv} (h : RightG l) {i : Nat} (hi : i < l.length) {g : GEnv} (hg : g.id_ = l[i].id_) (hG : GoodG g) : RightG (l.set i g) := by
  refine ⟨by rw [List.length_set]; exact h.len, fun x hx => ?_, by rw [map_set_same GEnv.id_ hi hg]; exact h.ids⟩
  rcases List.mem_or_eq_of_mem_set hx with hx | rfl
  · exact h.grp x hx
  · exact hG

theorem mem_insE {g x : GEnv} : ∀ {l : List GEnv}, x ∈ insE g l → x = g ∨ x ∈ l
  | [], h => by simp [insE] at h; exact .inl h
  | y :: r, h => by
    unfold insE at h
    split at h
    · rcases List.mem_cons.1 h with h | h
      · exact .inl h
      · exact .inr h
    · rcases List.mem_cons.1 h with h | h
      · exact .inr (by rw [h]; simp)
      · rcases mem_insE h with h | h
        · exact .inl h
        · exact .inr (by simp [h])

theorem len_insE {g : GEnv} : ∀ l : List GEnv, (insE g l).length = l.length + 1
  | [] => rfl
  | y :: r => by
    unfold insE
    split
    · rfl
    · rw [List.length_cons, List.length_cons, len_insE r]

theorem ids_insE {g : GEnv} : ∀ {l : List GEnv}, (l.map GEnv.id_).Pairwise (· < ·) → (∀ x ∈ l, x.id_ ≠ g.id_) → ((insE g l).map GEnv.id_).Pairwise (· < ·)
  | [], _, _ => by simp [insE]
  | y :: r, h, hne => by
    rw [List.map_cons, List.pairwise_cons] at h
    have hy := hne y (by simp)
    unfold insE
    split
    · rename_i hlt
      rw [List.map_cons, List.map_cons, List.pairwise_cons, List.pairwise_cons]
      refine ⟨fun a ha => ?_, h.1, h.2⟩
      rcases List.mem_cons.1 ha with rfl | ha
      · exact hlt
      · have := h.1 a ha
        omega
    · rename_i hlt
      rw [List.map_cons, List.pairwise_cons]
      refine ⟨fun a ha => ?_, ids_insE h.2 fun x hx => hne x (by simp [hx])⟩
      obtain ⟨x, hx, rfl⟩ := List.mem_map.1 ha
      rcases mem_insE hx with rfl | hx
      · omega
      · exact h.1 _ (List.mem_map.2 ⟨x, hx, rfl⟩)

theorem RightG.ins {l : List GEnv} (h : RightG l) {g : GEnv} (hl : l.length < 64) (hG : GoodG g) (hne : ∀ x ∈ l, x.id_ ≠ g.id_) : RightG (insE g l) :=
  ⟨by rw [len_insE]; omega, fun x hx => (mem_insE hx).elim (fun e => by rw [e]; exact hG) (h.grp x), ids_insE h.ids hne⟩

theorem enc_one : (enc [[]]).2 = 0 := by kernel_rfl

theorem set_right {l : List GEnv} (h : RightG l) (group : Int) (name : Str) (values : List Str) : RightG (setS l group name values).1 := by
  unfold setS
  cases hi : ix (idP group) l with
  | none => exact h
  | some i =>
    obtain ⟨h1, h2, h3⟩ := ix_some hi
    have hg := h.grp _ (List.getElem_mem h1)
    simp only
    rw [getD_at h1]
    by_cases hvn : vn name = false
    · rw [if_pos hvn]; exact h
    · rw [if_neg hvn]
      by_cases h0 : values.length = 0
      · rw [if_pos h0]
        cases hk : ix (nmP name) l[i].vars_ with
        | none => exact h
        | some k => exact h.set h1 rfl (hg.erase k)
      · rw [if_neg h0]
        by_cases he : (enc values).2 ≠ 0
        · rw [if_pos he]; exact h
        · rw [if_neg he]
          have he' : (enc values).2 = 0 := Classical.not_not.1 he
          cases hk : ix (nmP name) l[i].vars_ with
          | some k =>
            obtain ⟨k1, _, _⟩ := ix_some hk
            simp only
            rw [getD_at k1]
            exact h.set h1 rfl (hg.setV k1 he')
          | none =>
            simp only
            by_cases ha : (addS l[i] name values).2 = 0
            · rw [if_neg (fun h => h ha)]
              exact h.set h1 (by rw [(addS_next ha).1]) (hg.add (by simpa using hvn) he' hk ha)
            · rw [if_pos ha]; exact h

theorem create_right {l : List GEnv} (h : RightG l) (group id : Int) (name : Str) : RightG (createS l group id name).1 := by
  unfold createS
  rcases hf : fileS l group id with _ | ⟨i, _ | k⟩
  · exact h
  · obtain ⟨h1, hi, _⟩ := fileS_some hf
    have hg := h.grp _ (List.getElem_mem h1)
    simp only
    rw [getD_at h1]
    by_cases hvn : vn name = false
    · rw [if_pos hvn]; exact h
    · rw [if_neg hvn]
      cases hk : ix (nmP name) l[i].vars_ with
      | some k => exact h
      | none =>
        simp only
        by_cases ha : (addS l[i] name [[]]).2 = 0
        · rw [if_neg (fun h => h ha)]
          exact h.set h1 (by rw [(addS_next ha).1]) (hg.add (by simpa using hvn) enc_one hk ha)
        · rw [if_pos ha]; exact h
  · exact h

theorem write_right {l : List GEnv} (h : RightG l) (group id offset : Int) (data : Str) : RightG (writeS l group id offset data).1 := by
  unfold writeS
  rcases hf : fileS l group id with _ | ⟨i, _ | k⟩
  · exact h
  · exact h
  · obtain ⟨h1, hi, k1, _⟩ := fileS_some hf
    have hg := h.grp _ (List.getElem_mem h1)
    simp only
    rw [getD_at h1, getD_at k1]
    split
    · exact h
    · split
      · exact h
      · split
        · exact h
        · generalize (glue 0 (l[i].vars_[k]).values_).take (min offset.toNat (glue 0 (l[i].vars_[k]).values_).length) ++ List.replicate (offset.toNat - (glue 0 (l[i].vars_[k]).values_).length) 0 ++ data ++ (glue 0 (l[i].vars_[k]).values_).drop (offset.toNat + data.length) = t
          by_cases hd : (dec t).2 = 0
          · rw [if_neg (fun h => h hd)]
            exact h.set h1 rfl (hg.setV k1 (by rw [enc_dec hd]))
          · rw [if_pos hd]; exact h

theorem resize_right {l : List GEnv} (h : RightG l) (group id : Int) : RightG (resizeS l group id).1 := by
  unfold resizeS
  rcases hf : fileS l group id with _ | ⟨i, _ | k⟩
  · exact h
  · exact h
  · obtain ⟨h1, hi, k1, _⟩ := fileS_some hf
    simp only
    rw [getD_at h1, getD_at k1]
    exact h.set h1 rfl ((h.grp _ (List.getElem_mem h1)).setV k1 enc_one)

theorem remove_right {l : List GEnv} (h : RightG l) (group id : Int) : RightG (removeS l group id).1 := by
  unfold removeS
  rcases hf : fileS l group id with _ | ⟨i, _ | k⟩
  · exact h
  · exact h
  · obtain ⟨h1, hi, k1, _⟩ := fileS_some hf
    simp only
    rw [getD_at h1]
    exact h.set h1 rfl ((h.grp _ (List.getElem_mem h1)).erase k)

theorem copy_right {l : List GEnv} (h : RightG l) (group to : Int) : RightG (copyS l group to).1 := by
  unfold copyS
  split
  · exact h
  · rename_i hc
    split
    · exact h
    · rename_i ht
      split
      · exact h
      · rename_i h64
        have hne : ∀ x ∈ l, x.id_ ≠ to := fun x hx e => by
          cases hix : ix (idP to) l with
          | some k => rw [hix] at ht; exact ht rfl
          | none => exact List.find?_eq_none.1 (ix_none hix) x hx (by simp [idP, e])
        have ht1 : 1 ≤ to ∧ to ≤ 1099511627776 := by omega
        by_cases hg0 : group = 0
        · rw [if_pos hg0]
          exact h.ins (g := ⟨to, 2, []⟩) (by omega) ⟨ht1.1, ht1.2, (by show (2 : Int) ≤ 2; decide), (by show (2 : Int) ≤ 1048576; decide), (by show 0 ≤ 64; decide), (fun v hv => nomatch hv), List.nodup_nil, List.Pairwise.nil⟩ hne
        · rw [if_neg hg0]
          cases hi : ix (idP group) l with
          | none => exact absurd (.inr ⟨hg0, hi⟩) hc
          | some i =>
            obtain ⟨h1, _, _⟩ := ix_some hi
            have hg := h.grp _ (List.getElem_mem h1)
            simp only [Option.getD_some]
            rw [getD_at h1]
            exact h.ins (by omega) ⟨ht1.1, ht1.2, hg.nx1, hg.nx2, hg.len, hg.var, hg.names, hg.ids⟩ hne

def stepS (l : List GEnv) (o : GOp) : List GEnv :=
  if o.kind_ = 0 then (setS l o.group_ o.name_ o.values_).1 else if o.kind_ = 1 then (copyS l o.group_ o.to_).1 else if o.kind_ = 2 then (createS l o.group_ o.id_ o.name_).1
  else if o.kind_ = 3 then (writeS l o.group_ o.id_ o.offset_ o.data_).1 else if o.kind_ = 4 then (resizeS l o.group_ o.id_).1 else (removeS l o.group_ o.id_).1

theorem lens_mem : ∀ {vs : List Str} {x : Str}, x ∈ vs → x.length ≤ lens vs
  | y :: r, x, h => by
    rw [lens]
    rcases List.mem_cons.1 h with rfl | h
    · omega
    · have := lens_mem h; omega

theorem RightG.bear {l : List GEnv} (h : RightG l) : Bear 1000000 l := by
  refine ⟨by have := h.len; omega, fun g hg => ⟨by have := (h.grp g hg).len; omega, fun v hv => ?_⟩⟩
  obtain ⟨h1, h2, _⟩ := (h.grp g hg).var v hv
  obtain ⟨_, e1, e2⟩ := enc_glue h1
  have hgl := glue_len 0 v.values_
  unfold vn at h2
  simp only [Bool.and_eq_true, decide_eq_true_eq] at h2
  exact ⟨by omega, by omega, fun x hx => by have := lens_mem hx; omega⟩

theorem F8_is {l : List GEnv} (h : right l = true) (o : GOp) (hn : o.name_.length ≤ 1000) (hs : Sh o.values_ 70000) (hd : o.data_.length ≤ 70000) (ho : o.offset_ ≤ 9223372036854775807) : F8 l o = some (stepS l o, true) := by
  have hR := right_iff.1 h
  have hB := hR.bear
  have hnx : ∀ g ∈ l, 2 ≤ g.next_ := fun g hg => (hR.grp g hg).nx1
  have hv1 : o.values_.length ≤ 1000000 := by have := hs.1; omega
  have hv2 : ∀ x ∈ o.values_, x.length ≤ 1000000 := fun x hx => by have := hs.mem (by omega) hx; omega
  have hnm : o.name_.length ≤ maxLen := by unfold maxLen; omega
  have q : ∀ {a : List GEnv}, RightG a → F23 a a = some true := fun ha => by rw [F23_is ha.bear, decide_eq_true rfl]
  unfold F8 stepS
  by_cases k0 : o.kind_ = 0
  · rw [decide_eq_true k0, cond_t, if_pos k0]
    have q1 := F14_is hB hnx o.group_ hnm hv1 hv2
    have q2 := F22_is hB hnx o.group_ hnm hv1 hv2
    have q3 := q (set_right hR o.group_ o.name_ o.values_)
    generalize setS l o.group_ o.name_ o.values_ = p at q1 q2 q3 ⊢
    rcases p with ⟨a, e⟩
    simp only at q3
    simp only [q1, q2, q3, Option.bind_some, decide_true, Bool.and_self]
  · rw [decide_eq_false k0, cond_f, if_neg k0]
    by_cases k1 : o.kind_ = 1
    · rw [decide_eq_true k1, cond_t, if_pos k1]
      have q1 := F13_is hB o.group_ o.to_
      have q2 := F24_is hB o.group_ o.to_
      have q3 := q (copy_right hR o.group_ o.to_)
      generalize copyS l o.group_ o.to_ = p at q1 q2 q3 ⊢
      rcases p with ⟨a, e⟩
      simp only at q3
      simp only [q1, q2, q3, Option.bind_some, decide_true, Bool.and_self]
    · rw [decide_eq_false k1, cond_f, if_neg k1]
      by_cases k2 : o.kind_ = 2
      · rw [decide_eq_true k2, cond_t, if_pos k2]
        have q1 := F25_is hB hnx o.group_ o.id_ hnm
        have q2 := F26_is hB hnx o.group_ o.id_ hnm
        have q3 := q (create_right hR o.group_ o.id_ o.name_)
        generalize createS l o.group_ o.id_ o.name_ = p at q1 q2 q3 ⊢
        rcases p with ⟨a, m, e⟩
        simp only at q3
        simp only [q1, q2, q3, Option.bind_some, decide_true, Bool.and_self]
      · rw [decide_eq_false k2, cond_f, if_neg k2]
        by_cases k3 : o.kind_ = 3
        · rw [decide_eq_true k3, cond_t, if_pos k3]
          have q1 := F16_is hB h o.group_ o.id_ o.offset_ (data := o.data_) (by omega) ho
          have q2 := F27_is hB h o.group_ o.id_ o.offset_ (data := o.data_) (by omega) ho
          have q3 := q (write_right hR o.group_ o.id_ o.offset_ o.data_)
          generalize writeS l o.group_ o.id_ o.offset_ o.data_ = p at q1 q2 q3 ⊢
          rcases p with ⟨a, m, e⟩
          simp only at q3
          simp only [q1, q2, q3, Option.bind_some, decide_true, Bool.and_self]
        · rw [decide_eq_false k3, cond_f, if_neg k3]
          by_cases k4 : o.kind_ = 4
          · rw [decide_eq_true k4, cond_t, if_pos k4]
            have q1 := F28_is hB o.group_ o.id_
            have q2 := F29_is hB h o.group_ o.id_
            have q3 := q (resize_right hR o.group_ o.id_)
            generalize resizeS l o.group_ o.id_ = p at q1 q2 q3 ⊢
            rcases p with ⟨a, e⟩
            simp only at q3
            simp only [q1, q2, q3, Option.bind_some, decide_true, Bool.and_self]
          · rw [decide_eq_false k4, cond_f, if_neg k4]
            have q1 := F30_is hB o.group_ o.id_
            have q2 := F31_is hB o.group_ o.id_
            have q3 := q (remove_right hR o.group_ o.id_)
            generalize removeS l o.group_ o.id_ = p at q1 q2 q3 ⊢
            rcases p with ⟨a, e⟩
            simp only at q3
            simp only [q1, q2, q3, Option.bind_some, decide_true, Bool.and_self]

theorem inK64 {n : Int} (h : inK .i64 n) : -9223372036854775808 ≤ n ∧ n ≤ 9223372036854775807 := by
  unfold inK Lit.wf at h
  simp [IntKind.min, IntKind.max, IntKind.signed, IntKind.bits] at h
  omega

theorem plain3 (l : List GEnv) (w : Wd l) (o : GOp) (wo : o.values_.length ≤ maxLen) (wf : o.offset_ ≤ 9223372036854775807) : F3 l o = some true := by
  unfold F3
  obtain ⟨b, hb, hs⟩ := F4_is w
  obtain ⟨c, hc, ho⟩ := F5_is o wo
  rw [hb, Option.bind_some]
  cases b with
  | false =>
    simp only [guardO_false, Option.bind_some, Bool.not_false, Bool.true_or, Bool.not_true, cond_t]
    rw [alive]
    rfl
  | true =>
    rw [guardO_true, hc, Option.bind_some]
    cases c with
    | false =>
      simp only [guardO_false, Option.bind_some, Bool.not_false, Bool.or_true, Bool.true_or, Bool.not_true, cond_t]
      rw [alive]
      rfl
    | true =>
      simp only [Bool.not_true, Bool.or_self, Bool.not_false, guardO_true]
      obtain ⟨hl70, hsv⟩ := hs rfl
      obtain ⟨hon, hosh, hod⟩ := ho rfl
      rw [F6_is (fun g hg v hv => by obtain ⟨q1, q2, q3⟩ := sv_bear (hsv g hg v hv); exact ⟨by omega, by omega, fun x hx => by have := q3 x hx; omega⟩), Option.bind_some]
      cases hr : right l with
      | false =>
        simp only [Bool.not_false, Bool.or_true, cond_t]
        rw [alive]
        rfl
      | true =>
        simp only [Bool.not_true, Bool.or_self, cond_f]
        rw [F8_is hr o hon hosh hod wf, Option.bind_some]
        simp only [guardO_true]
        rw [alive]
        rfl

theorem law3 (l : List GEnv) (wl : w_22 l) (o : GOp) (wo : w_25 o) : F3 l o = some true :=
  plain3 l ⟨wl.1, fun g hg => ⟨(wl.2 g hg).2.2.1, fun v hv => ⟨((wl.2 g hg).2.2.2 v hv).2.1, ((wl.2 g hg).2.2.2 v hv).2.2.1⟩⟩⟩ o wo.2.2.2.2.2.1.1 (inK64 wo.2.2.2.2.2.2.1).2

end Go.Abs.U2Z
