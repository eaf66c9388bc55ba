/- Layer 29: the plain laws of EnvReads. -/
import Derived.Test.YtkiajanddmgmnaaDoorA34
import Derived.Test.YtkiajanddmgmnaaDoorD1
import Derived.Lib.SplitLaws
import Derived.Test.YtkiajanddmgmnaaDoorTY
set_option linter.unusedVariables false
set_option linter.unusedSimpArgs false
namespace Go.Abs.U29
open Go

def tot : List Str → Nat
  | [] => 0
  | x :: r => min x.length 1048576 + tot r

theorem tot_le : ∀ l : List Str, tot l ≤ l.length * 1048576
  | [] => Nat.zero_le _
  | x :: r => by
    have := tot_le r
    rw [tot, List.length_cons]
    omega

def G7 : Str → Int → (Int → Option Bool) → Int → Option Bool := fun w _ k n => k (IntKind.wrap .i64 (n + imin (w.length : Int) 1048576))

theorem loop7 (fin : Int → Option Bool) : ∀ (l : List Str) (i : Int) (n : Nat), n + tot l ≤ 4611686018427387904 → loopS G7 fin l i n = fin ((n + tot l : Nat) : Int)
  | [], i, n, h => by rw [loopS, tot]; rfl
  | x :: r, i, n, h => by
    rw [tot] at h
    have e : imin (x.length : Int) 1048576 = ((min x.length 1048576 : Nat) : Int) := by unfold imin; split <;> omega
    rw [loopS, G7, e, wrap64 (by omega) (by omega)]
    have := loop7 fin r (i + 1) (n + min x.length 1048576) (by omega)
    rw [tot, show n + (min x.length 1048576 + tot r) = n + min x.length 1048576 + tot r by omega, ← this]
    congr 1

theorem loop7' (fin : Int → Option Bool) : ∀ (l : List Str) (i n : Int), ∃ m, loopS G7 fin l i n = fin m
  | [], i, n => ⟨n, rfl⟩
  | x :: r, i, n => loop7' fin r (i + 1) _

theorem F7_is (l : List Str) (w : l.length ≤ maxLen) (most : Int) : F7 l most = some (decide ((tot l : Int) ≤ most) && decide (l.length ≤ 400)) := by
  unfold maxLen at w
  unfold F7
  rw [iter_rangeT (body := F7_b1 l most) l G7 (fun n => some (decide (n ≤ most) && decide ((l.length : Int) ≤ 400))) (fun _ _ _ => rfl) (by omega)]
  by_cases h : l.length ≤ 400
  · have := loop7 (fun n => some (decide (n ≤ most) && decide ((l.length : Int) ≤ 400))) l 0 0 (by have := tot_le l; omega)
    rw [show ((0 : Nat) : Int) = 0 from rfl] at this
    rw [this, Nat.zero_add, decide_eq_true (p := l.length ≤ 400) h, decide_eq_true (p := ((l.length : Int) ≤ 400)) (by omega)]
  · obtain ⟨m, hm⟩ := loop7' (fun n => some (decide (n ≤ most) && decide ((l.length : Int) ≤ 400))) l 0 0
    rw [hm, decide_eq_false (p := l.length ≤ 400) h, decide_eq_false (p := ((l.length : Int) ≤ 400)) (by omega), Bool.and_false, Bool.and_false]

/-- A short list. -/
def Sh (l : List Str) (most : Nat) : Prop := l.length ≤ 400 ∧ tot l ≤ most

theorem tot_mem : ∀ {l : List Str} {x : Str}, x ∈ l → min x.length 1048576 ≤ tot l
  | y :: r, x, h => by
    rw [tot]
    rcases List.mem_cons.1 h with rfl | h
    · omega
    · have := tot_mem h; omega

theorem Sh.mem {l : List Str} {most : Nat} (h : Sh l most) (hm : most < 1048576) {x : Str} (hx : x ∈ l) : x.length ≤ most := by
  have := tot_mem hx
  have := h.2
  omega

theorem F13_is (a b : List Str) (w : a.length ≤ maxLen) : F13 a b = some (decide (a = b)) := by
  unfold maxLen at w
  unfold F13
  by_cases hl : a.length = b.length
  · rw [decide_eq_true (by omega)]
    show iter (F13_b1 a b) BIG 0 = _
    have h : ∀ (n j : Nat), j ≤ a.length → a.length - j < n → iter (F13_b1 a b) n (j : Int) = some (decide (a.drop j = b.drop j)) := by
      intro n
      induction n with
      | zero => intro j _ h; omega
      | succ n ih =>
        intro j hj hn
        show F13_b1 a b (iter (F13_b1 a b) n) j = _
        rw [F13_b1]
        by_cases hlt : j < a.length
        · rw [decide_eq_true (by omega), cond_t, lidx_at hlt, Option.bind_some, lidx_at (xs := b) (by omega), Option.bind_some, drop_at hlt, drop_at (l := b) (by omega)]
          by_cases he : a[j] = b[j]
          · rw [decide_eq_true he, Bool.not_true, cond_f, wrap64 (by omega) (by omega), show ((j : Int) + 1) = ((j + 1 : Nat) : Int) by omega, ih (j + 1) (by omega) (by omega), he]
            congr 1
            rw [Bool.eq_iff_iff, decide_eq_true_eq, decide_eq_true_eq]
            exact ⟨fun h => by rw [h], fun h => (List.cons.inj h).2⟩
          · rw [decide_eq_false he, Bool.not_false, cond_t, decide_eq_false]
            intro h
            exact he (List.cons.inj h).1
        · rw [decide_eq_false (by omega), cond_f, List.drop_eq_nil_of_le (by omega), List.drop_eq_nil_of_le (by omega), decide_eq_true rfl]
    have := h BIG 0 (Nat.zero_le _) (by unfold BIG; omega)
    rw [show ((0 : Nat) : Int) = 0 from rfl] at this
    rw [this, List.drop_zero, List.drop_zero]
  · rw [decide_eq_false (p := ((a.length : Int) = (b.length : Int))) (by omega), Bool.not_false, cond_t, decide_eq_false]
    intro h
    exact hl (by rw [h])

theorem alive : F8 = some true := by kernel_rfl

/-- The parts of a text between separators. -/
def parts (c : UInt8) : Str → List Str
  | [] => [[]]
  | x :: r => if x = c then [] :: parts c r else match parts c r with
    | [] => [[x]]
    | p :: ps => (x :: p) :: ps

/-- The parts with the separator between them. -/
def glue (c : UInt8) : List Str → Str
  | [] => []
  | [x] => x
  | x :: y :: r => x ++ c :: glue c (y :: r)

theorem index1 (c : UInt8) : ∀ s : Str, (Lib.index s [c] = -1 ∧ ∀ j, j < s.length → s.getD j 0 ≠ c) ∨ ∃ i : Nat, i < s.length ∧ Lib.index s [c] = i ∧ s.getD i 0 = c ∧ ∀ j, j < i → s.getD j 0 ≠ c
  | [] => .inl ⟨rfl, fun j hj => absurd hj (Nat.not_lt_zero j)⟩
  | x :: r => by
    by_cases hx : c = x
    · refine .inr ⟨0, by simp, ?_, by simp [hx], fun j hj => absurd hj (Nat.not_lt_zero j)⟩
      simp [Lib.index, List.isPrefixOf, hx]
    · have hp : ([c] : Str).isPrefixOf (x :: r) = false := by simp [List.isPrefixOf, hx]
      rcases index1 c r with ⟨h1, h2⟩ | ⟨i, hi, h1, h2, h3⟩
      · refine .inl ⟨by simp [Lib.index, hp, h1], fun j hj => ?_⟩
        cases j with
        | zero => simpa using fun e => hx (Eq.symm e)
        | succ j => simpa using h2 j (by simpa using hj)
      · refine .inr ⟨i + 1, by simpa using hi, ?_, by simpa using h2, fun j hj => ?_⟩
        · have : ((i : Int) == -1) = false := by rw [beq_eq_false_iff_ne]; omega
          simp [Lib.index, hp, h1, this]
        · cases j with
          | zero => simpa using fun e => hx (Eq.symm e)
          | succ j => simpa using h3 j (by omega)

theorem join_glue (c : UInt8) : ∀ xs : List Str, Lib.join xs [c] = glue c xs
  | [] => rfl
  | [x] => Lib.join_one x [c]
  | x :: y :: r => by
    rw [glue, ← join_glue c (y :: r), Lib.join_cons, Lib.join_cons]
    simp [Lib.joinTail]

theorem mem_getD {c : UInt8} : ∀ {s : Str}, c ∈ s ↔ ∃ j, j < s.length ∧ s.getD j 0 = c
  | [] => by simp
  | x :: r => by
    rw [List.mem_cons, mem_getD (s := r)]
    constructor
    · rintro (rfl | ⟨j, hj, h⟩)
      · exact ⟨0, by simp, rfl⟩
      · exact ⟨j + 1, by simpa using hj, by simpa using h⟩
    · rintro ⟨j, hj, h⟩
      cases j with
      | zero => exact .inl (by simpa using h.symm)
      | succ j => exact .inr ⟨j, by simpa using hj, by simpa using h⟩

theorem contains1 (c : UInt8) (s : Str) : Lib.contains s [c] = decide (c ∈ s) := by
  unfold Lib.contains
  rw [Bool.eq_iff_iff, decide_eq_true_eq, decide_eq_true_eq, mem_getD]
  rcases index1 c s with ⟨h1, h2⟩ | ⟨i, hi, h1, h2, h3⟩
  · rw [h1]
    exact ⟨fun h => by omega, fun ⟨j, hj, h⟩ => absurd h (h2 j hj)⟩
  · rw [h1]
    exact ⟨fun _ => ⟨i, hi, h2⟩, fun _ => by omega⟩

theorem F35_is {v : Str} (h : v.length ≤ 1000000) : F35 v = some (decide ((0 : UInt8) ∈ v)) := by
  unfold F35 L_SContains
  rw [if_pos (by omega), contains1]
  rfl

def hasZ (vs : List Str) : Bool := vs.any fun v => decide ((0 : UInt8) ∈ v)

theorem loop72 : ∀ (l : List Str) (i : Int), 0 ≤ i → (∀ x ∈ l, x.length ≤ 1000000) → ∃ r, loopR (fun w i k => (F35 w).bind fun b => bif b then some i else k) (some (-1)) l i = some r ∧ (decide (0 ≤ r) = hasZ l)
  | [], i, hi, _ => ⟨-1, rfl, rfl⟩
  | x :: l, i, hi, h => by
    rw [loopR, F35_is (h x (by simp)), Option.bind_some]
    by_cases hx : (0 : UInt8) ∈ x
    · rw [decide_eq_true hx]
      refine ⟨i, rfl, ?_⟩
      rw [decide_eq_true hi, hasZ, List.any_cons, decide_eq_true hx]
      rfl
    · rw [decide_eq_false hx]
      obtain ⟨r, h1, h2⟩ := loop72 l (i + 1) (by omega) fun y hy => h y (by simp [hy])
      refine ⟨r, h1, ?_⟩
      rw [h2, hasZ, hasZ, List.any_cons, decide_eq_false hx]
      rfl

theorem F34_is {vs : List Str} (hl : vs.length ≤ 1000000) (h : ∀ x ∈ vs, x.length ≤ 1000000) : F34 vs = some (hasZ vs) := by
  obtain ⟨r, h1, h2⟩ := loop72 vs 0 (by omega) h
  have : F72 vs = some r := by
    unfold F72
    rw [iter_range (body := F72_b1 vs) vs (fun w i k => (F35 w).bind fun b => bif b then some i else k) (some (-1)) (fun _ _ => rfl) (by omega)]
    exact h1
  unfold F34
  rw [this, Option.bind_some, h2]

def enc (vs : List Str) : Str × Int :=
  if vs.length = 0 then ([], 1) else if 256 < vs.length then ([], 22) else if hasZ vs = true then ([], 2) else if 65536 < (glue 0 vs).length then ([], 4) else (glue 0 vs, 0)

def lens : List Str → Nat
  | [] => 0
  | x :: r => x.length + lens r

theorem glue_len (c : UInt8) : ∀ vs : List Str, (glue c vs).length = lens vs + (vs.length - 1)
  | [] => rfl
  | [x] => rfl
  | x :: y :: r => by
    have := glue_len c (y :: r)
    simp only [lens, List.length_cons] at this ⊢
    rw [glue, List.length_append, List.length_cons, this]
    omega

theorem loop9 (fin : Int → Option (Str × Int)) : ∀ (l : List Str) (i : Int) (n : Nat), (∀ x ∈ l, x.length ≤ 1000000) → n ≤ 65536 →
    loopS (fun w i k n => bif decide (65536 < IntKind.wrap .i64 (n + (w.length : Int))) then some ([], 4) else k (IntKind.wrap .i64 (n + (w.length : Int)))) fin l i (n : Int) = if 65536 < n + lens l then some ([], 4) else fin ((n + lens l : Nat) : Int)
  | [], i, n, _, hn => by rw [loopS, lens, if_neg (by omega)]; rfl
  | x :: l, i, n, h, hn => by
    have hx := h x (by simp)
    rw [loopS, lens, wrap64 (by omega) (by omega)]
    by_cases hb : 65536 < n + x.length
    · rw [decide_eq_true (by omega), cond_t, if_pos (by omega)]
    · rw [decide_eq_false (by omega), cond_f, show ((n : Int) + (x.length : Int)) = ((n + x.length : Nat) : Int) by omega, loop9 fin l (i + 1) (n + x.length) (fun y hy => h y (by simp [hy])) (by omega)]
      rw [Nat.add_assoc]

theorem F9_is {vs : List Str} (hl : vs.length ≤ 1000000) (h : ∀ x ∈ vs, x.length ≤ 1000000) : F9 vs = some (enc vs) := by
  unfold F9 enc
  by_cases h0 : vs.length = 0
  · rw [decide_eq_true (by omega), cond_t, if_pos h0]
  · rw [decide_eq_false (by omega), cond_f, if_neg h0]
    by_cases h1 : 256 < vs.length
    · rw [decide_eq_true (by omega), cond_t, if_pos h1]
    · rw [decide_eq_false (by omega), cond_f, if_neg h1, F34_is hl h, Option.bind_some]
      cases hz : hasZ vs with
      | true => rw [cond_t, if_pos rfl]
      | false =>
        rw [cond_f, if_neg (by decide), wrap64 (by omega) (by omega), iter_rangeT (body := F9_b1 vs) vs (fun w i k n => bif decide (65536 < IntKind.wrap .i64 (n + (w.length : Int))) then some ([], 4) else k (IntKind.wrap .i64 (n + (w.length : Int))))
          (fun _ => (L_Join vs [0]).bind fun s => some (s, 0)) (fun _ _ _ => rfl) (by omega), show ((vs.length : Int) - 1) = ((vs.length - 1 : Nat) : Int) by omega, loop9 _ vs 0 _ h (by omega)]
        have hg := glue_len 0 vs
        by_cases hb : 65536 < (glue 0 vs).length
        · rw [if_pos (by omega), if_pos hb]
        · rw [if_neg (by omega), if_neg hb]
          unfold L_Join
          rw [join_glue, if_pos ⟨by omega, by omega⟩]
          rfl

theorem glue_snoc (c : UInt8) (w : Str) : ∀ l : List Str, l ≠ [] → glue c (l ++ [w]) = glue c l ++ c :: w
  | [], h => absurd rfl h
  | [x], _ => rfl
  | x :: y :: r, _ => by
    have := glue_snoc c w (y :: r) (by simp)
    rw [List.cons_append, List.cons_append, glue, ← List.cons_append, this, glue]
    simp

theorem in10 {values : List Str} {i : Nat} (hi : i < values.length) {s : Str} {again : (Str × Int) → Option (Str × Int)} (hw : values[i].length ≤ 1000000) (hs : s.length ≤ 1000000000000) (hil : i ≤ 1000000) :
    iter (F10_b3 values i s again) BIG 0 = if (0 : UInt8) ∈ values[i] then some ([], 2) else again (if 0 < i then s ++ 0 :: values[i] else s ++ values[i], ((i + 1 : Nat) : Int)) := by
  have h : ∀ (n j : Nat), j ≤ values[i].length → values[i].length - j < n → iter (F10_b3 values i s again) n (j : Int) = if (0 : UInt8) ∈ values[i].drop j then some ([], 2) else again (if 0 < i then s ++ 0 :: values[i] else s ++ values[i], ((i + 1 : Nat) : Int)) := by
    intro n
    induction n with
    | zero => intro j _ h; omega
    | succ n ih =>
      intro j hj hn
      show F10_b3 values i s again (iter (F10_b3 values i s again) n) j = _
      rw [F10_b3, lidx_at hi, Option.bind_some]
      by_cases hlt : j < values[i].length
      · rw [decide_eq_true (by omega), cond_t, sidx_at hlt, Option.bind_some, drop_at hlt, show (0 : Int) = ((0 : UInt8).toNat : Int) from rfl, byte_eq]
        by_cases h0 : values[i][j] = 0
        · rw [decide_eq_true h0, cond_t, if_pos (by rw [h0]; simp)]
        · rw [decide_eq_false h0, cond_f, wrap64 (by omega) (by omega), show ((j : Int) + 1) = ((j + 1 : Nat) : Int) by omega, ih (j + 1) (by omega) (by omega)]
          have : ((0 : UInt8) ∈ values[i][j] :: values[i].drop (j + 1)) ↔ ((0 : UInt8) ∈ values[i].drop (j + 1)) := by
            rw [List.mem_cons]
            exact ⟨fun h => h.resolve_left (fun e => h0 e.symm), .inr⟩
          simp only [this]
      · rw [decide_eq_false (by omega), cond_f, List.drop_eq_nil_of_le (by omega), if_neg (by simp)]
        by_cases h0 : 0 < i
        · rw [decide_eq_true (by omega), cond_t, if_pos h0, catO_eq (by simp; omega), Option.bind_some, catO_eq (by simp; omega), Option.bind_some, wrap64 (by omega) (by omega), List.append_assoc]
          rfl
        · rw [decide_eq_false (by omega), cond_f, if_neg h0, catO_eq (by omega), Option.bind_some, wrap64 (by omega) (by omega)]
          rfl
  have := h BIG 0 (Nat.zero_le _) (by unfold BIG; omega)
  rw [List.drop_zero] at this
  exact this

theorem lens_le : ∀ {vs : List Str}, (∀ x ∈ vs, x.length ≤ 1000000) → lens vs ≤ vs.length * 1000000
  | [], _ => Nat.zero_le _
  | x :: r, h => by
    have h1 := h x (by simp)
    have h2 := lens_le (vs := r) fun y hy => h y (by simp [hy])
    rw [lens, List.length_cons]
    omega

theorem F10_is {vs : List Str} (hl : vs.length ≤ 1000000) (h : ∀ x ∈ vs, x.length ≤ 1000000) : F10 vs = some (enc vs) := by
  unfold F10 enc
  by_cases h0 : vs.length = 0
  · rw [decide_eq_true (by omega), cond_t, if_pos h0]
  · rw [decide_eq_false (by omega), cond_f, if_neg h0]
    by_cases h1 : 256 < vs.length
    · rw [decide_eq_true (by omega), cond_t, if_pos h1]
    · rw [decide_eq_false (by omega), cond_f, if_neg h1]
      have hm : ∀ (n j : Nat), j ≤ vs.length → vs.length - j < n → iter (F10_b2 vs) n (glue 0 (vs.take j), (j : Int)) = some (if hasZ (vs.drop j) = true then ([], 2) else if 65536 < (glue 0 vs).length then ([], 4) else (glue 0 vs, 0)) := by
        intro n
        induction n with
        | zero => intro j _ h; omega
        | succ n ih =>
          intro j hj hn
          show F10_b2 vs (iter (F10_b2 vs) n) (glue 0 (vs.take j), j) = _
          unfold F10_b2
          by_cases hlt : j < vs.length
          · have hg : (glue 0 (vs.take j)).length ≤ 1000000000000 := by
              have q1 := glue_len 0 (vs.take j)
              have q2 := lens_le (vs := vs.take j) fun y hy => h y (List.mem_of_mem_take hy)
              rw [List.length_take] at q1 q2
              omega
            have hin := in10 (again := iter (F10_b2 vs) n) hlt (h _ (List.getElem_mem hlt)) hg (by omega)
            simp only
            rw [decide_eq_true (by omega), cond_t]
            refine Eq.trans hin ?_
            rw [drop_at hlt]
            by_cases hz : (0 : UInt8) ∈ vs[j]
            · rw [if_pos hz, hasZ, List.any_cons, decide_eq_true hz, Bool.true_or, if_pos rfl]
            · rw [if_neg hz, hasZ, List.any_cons, decide_eq_false hz, Bool.false_or]
              have e : (if 0 < j then glue 0 (vs.take j) ++ 0 :: vs[j] else glue 0 (vs.take j) ++ vs[j]) = glue 0 (vs.take (j + 1)) := by
                rw [List.take_succ_eq_append_getElem hlt]
                split
                · rw [glue_snoc 0 _ _ (fun e => by have := congrArg List.length e; rw [List.length_take, List.length_nil] at this; omega)]
                · have : j = 0 := by omega
                  subst this
                  rfl
              rw [e]
              exact ih (j + 1) (by omega) (by omega)
          · obtain rfl : j = vs.length := by omega
            simp only
            rw [decide_eq_false (by omega), cond_f, List.drop_eq_nil_of_le (Nat.le_refl _), List.take_of_length_le (Nat.le_refl _), if_neg (by simp [hasZ])]
            by_cases hb : 65536 < (glue 0 vs).length
            · rw [decide_eq_true (by omega), cond_t, if_pos hb]
            · rw [decide_eq_false (by omega), cond_f, if_neg hb]
      have := hm BIG 0 (Nat.zero_le _) (by unfold BIG; omega)
      rw [List.take_zero, List.drop_zero] at this
      exact this

theorem sslice_in {s : Str} {a b : Nat} (h1 : a ≤ b) (h2 : b ≤ s.length) : sslice s (a : Int) (b : Int) = some ((s.drop a).take (b - a)) := by
  unfold sslice
  rw [if_pos ⟨by omega, by omega, by omega⟩]
  rfl

/-- The index of the first that p holds of. -/
def ix {α : Type} (p : α → Bool) : List α → Option Nat
  | [] => none
  | x :: r => if p x = true then some 0 else (ix p r).map (· + 1)

def ixI {α : Type} (p : α → Bool) (l : List α) : Int := match ix p l with
  | some k => (k : Int)
  | none => -1

theorem ix_some {α : Type} {p : α → Bool} : ∀ {l : List α} {i : Nat}, ix p l = some i → ∃ h : i < l.length, p l[i] = true ∧ l.find? p = some l[i]
  | [], i, h => by cases h
  | x :: r, i, h => by
    unfold ix at h
    split at h
    · rename_i hx
      cases h
      exact ⟨by simp, hx, by simp [List.find?, hx]⟩
    · rename_i hx
      obtain ⟨k, hk, rfl⟩ := Option.map_eq_some_iff.1 h
      obtain ⟨h1, h2, h3⟩ := ix_some hk
      refine ⟨by simpa using h1, by simpa using h2, ?_⟩
      rw [List.find?_cons, (by simpa using hx : p x = false)]
      simpa using h3

theorem ix_none {α : Type} {p : α → Bool} : ∀ {l : List α}, ix p l = none → l.find? p = none
  | [], _ => rfl
  | x :: r, h => by
    unfold ix at h
    split at h
    · cases h
    · rename_i hx
      rw [List.find?_cons, (by simpa using hx : p x = false)]
      exact ix_none (Option.map_eq_none_iff.1 h)

theorem loop_ix {α : Type} (p : α → Bool) : ∀ (l : List α) (i : Int), loopR (fun x i k => bif p x then some i else k) (some (-1)) l i = some (match ix p l with | some k => i + k | none => -1)
  | [], i => rfl
  | x :: r, i => by
    rw [loopR, ix]
    cases hx : p x with
    | true => rw [cond_t, if_pos rfl]; simp
    | false =>
      rw [cond_f, if_neg (by decide), loop_ix p r (i + 1)]
      cases hr : ix p r with
      | none => rfl
      | some k =>
        show some (i + 1 + (k : Int)) = some (i + ((k + 1 : Nat) : Int))
        congr 1
        omega

theorem loop_ix0 {α : Type} (p : α → Bool) (l : List α) : loopR (fun x i k => bif p x then some i else k) (some (-1)) l 0 = some (ixI p l) := by
  rw [loop_ix, ixI]
  cases ix p l with
  | none => rfl
  | some k => simp

def idP (i : Int) : GEnv → Bool := fun g => decide (g.id_ = i)

def nmP (n : Str) : Var → Bool := fun v => decide (v.name_ = n)

def vidP (i : Int) : Var → Bool := fun v => decide (v.id_ = i)

theorem F81_is (l : List GEnv) (i : Int) (h : l.length ≤ maxLen) : F81 l i = some (ixI (idP i) l) := by
  unfold maxLen at h
  unfold F81
  rw [iter_range (body := F81_b1 l i) l (fun x i k => bif idP _ x then some i else k) (some (-1)) (fun _ _ => rfl) (by omega), loop_ix0]

theorem F43_is (l : List GEnv) (i : Int) (h : l.length ≤ maxLen) : F43 l i = some (ixI (idP i) l) := by
  unfold F43
  rw [F81_is l i h]
  rfl

theorem F83x2_is (l : List Var) (n : Str) (h : l.length ≤ maxLen) : F83x2 l n = some (ixI (nmP n) l) := by
  unfold maxLen at h
  unfold F83x2
  rw [iter_range (body := F83x2_b1 l n) l (fun x i k => bif nmP n x then some i else k) (some (-1)) (fun _ _ => rfl) (by omega), loop_ix0]

theorem F41_is (g : GEnv) (n : Str) (h : g.vars_.length ≤ maxLen) : F41 g n = some (ixI (nmP n) g.vars_) := by
  unfold maxLen at h
  unfold F41
  rw [iter_range (body := F41_b1 g n) g.vars_ (fun x i k => bif nmP n x then some i else k) (some (-1)) (fun _ _ => rfl) (by omega), loop_ix0]

theorem F45x1_is (g : GEnv) (n : Str) (h : g.vars_.length ≤ maxLen) : F45x1 g n = some (ixI (nmP n) g.vars_) := by
  unfold F45x1
  rw [F83x2_is _ n h]
  rfl

def badC (c : Int) : Bool := (decide (c < 33) || decide (126 < c)) || decide (c = 47)

/-- A name that is valid. -/
def vn (n : Str) : Bool := ((decide (1 ≤ (n.length : Int)) && decide ((n.length : Int) ≤ 64)) && !decide (n = [46]) && !decide (n = [46, 46])) && n.all fun c => !badC (B c)

theorem loop_bad (b : Bool) : ∀ (s : Str) (i : Int), loopR (fun c _ k => bif badC c then some false else k) (some b) (s.map B) i = some (b && s.all fun c => !badC (B c))
  | [], i => by simp [loopR]
  | x :: r, i => by
    rw [List.map_cons, loopR]
    cases hx : badC (B x) with
    | true => rw [cond_t, List.all_cons, hx]; simp
    | false => rw [cond_f, loop_bad b r (i + 1), List.all_cons, hx]; simp

theorem F40_is (n : Str) (h : n.length ≤ maxLen) : F40 n = some (vn n) := by
  unfold maxLen at h
  unfold F40
  rw [iter_rangeB (body := F40_b1 n) n (fun c _ k => bif badC c then some false else k) (some (((decide (1 ≤ (n.length : Int)) && decide ((n.length : Int) ≤ 64)) && !decide (n = [46])) && !decide (n = [46, 46]))) (fun _ _ => rfl) (by omega), loop_bad]
  rfl

theorem F44_is (n : Str) (h : n.length ≤ maxLen) : F44 n = some (vn n) := by
  unfold maxLen at h
  unfold F44 vn
  by_cases h1 : n = []
  · subst h1; rfl
  by_cases h2 : n = [46]
  · subst h2; rfl
  by_cases h3 : n = [46, 46]
  · subst h3; rfl
  have h0 : 1 ≤ n.length := by cases n with | nil => exact absurd rfl h1 | cons a b => simp
  by_cases h4 : 64 < n.length
  · rw [decide_eq_false h1, decide_eq_false h2, decide_eq_false h3, decide_eq_true (p := (64 : Int) < (n.length : Int)) (by omega), decide_eq_false (p := (n.length : Int) ≤ 64) (by omega)]
    simp
  · rw [decide_eq_false h1, decide_eq_false h2, decide_eq_false h3, decide_eq_false (p := (64 : Int) < (n.length : Int)) (by omega), decide_eq_true (p := (n.length : Int) ≤ 64) (by omega), decide_eq_true (p := (1 : Int) ≤ (n.length : Int)) (by omega)]
    simp only [Bool.or_self, cond_f]
    rw [iter_rangeB (body := F44_b1 n) n (fun c _ k => bif badC c then some false else k) (some true) (fun _ _ => rfl) (by omega), loop_bad]
    rfl

/-- A list of groups of bearable size. -/
def Bear (N : Nat) (l : List GEnv) : Prop := l.length ≤ N ∧ ∀ g ∈ l, g.vars_.length ≤ N ∧ ∀ v ∈ g.vars_, v.name_.length ≤ N ∧ v.values_.length ≤ N ∧ ∀ x ∈ v.values_, x.length ≤ N

theorem iter_listT {α S R : Type} {body : (S × Int → Option R) → S × Int → Option R} (l : List α) (G : α → Int → (S → Option R) → S → Option R) (fin : S → Option R)
    (hb : ∀ again (i : Nat) (h : i < l.length) s, body again (s, (i : Int)) = G l[i] i (fun s' => again (s', (i : Int) + 1)) s)
    (hf : ∀ again s, body again (s, (l.length : Int)) = fin s) (hl : l.length ≤ 9223372036854775807) (s : S) :
    iter body BIG (s, 0) = loopS G fin l 0 s := by
  have h : ∀ (n j : Nat) (s : S), j ≤ l.length → l.length - j < n → iter body n (s, (j : Int)) = loopS G fin (l.drop j) j s := by
    intro n
    induction n with
    | zero => intro j _ _ h; omega
    | succ n ih =>
      intro j s hj hn
      show body (iter body n) (s, j) = _
      by_cases hlt : j < l.length
      · rw [hb _ _ hlt, drop_at hlt]
        simp only [loopS]
        congr 1
        funext s'
        exact ih (j + 1) s' (by omega) (by omega)
      · obtain rfl : j = l.length := by omega
        rw [hf, List.drop_eq_nil_of_le (by omega)]
        rfl
  exact h BIG 0 s (Nat.zero_le _) (by unfold BIG; omega)

/-- What a list's type says of its lengths. -/
def Wd (l : List GEnv) : Prop := l.length ≤ maxLen ∧ ∀ g ∈ l, g.vars_.length ≤ maxLen ∧ ∀ v ∈ g.vars_, v.name_.length ≤ maxLen ∧ v.values_.length ≤ maxLen

def svB (v : Var) : Bool := decide ((tot v.values_ : Int) ≤ 70000) && decide (v.values_.length ≤ 400) && decide ((v.name_.length : Int) ≤ 1000)

theorem inner14 (k : Option Bool) : ∀ (vs : List Var) (i : Int), (∀ v ∈ vs, v.values_.length ≤ maxLen) →
    loopR (fun v _ k => (F7 v.values_ 70000).bind fun b => bif (!b || decide (1000 < (v.name_.length : Int))) then some false else k) k vs i = bif vs.all svB then k else some false
  | [], i, _ => rfl
  | v :: r, i, h => by
    rw [loopR, F7_is _ (h v (by simp)), Option.bind_some, List.all_cons, inner14 k r (i + 1) fun x hx => h x (by simp [hx]), svB]
    by_cases h1 : (v.name_.length : Int) ≤ 1000
    · rw [decide_eq_true h1, decide_eq_false (p := (1000 : Int) < (v.name_.length : Int)) (by omega), Bool.or_false, Bool.and_true]
      cases (decide ((tot v.values_ : Int) ≤ 70000) && decide (v.values_.length ≤ 400)) <;> rfl
    · rw [decide_eq_false h1, decide_eq_true (p := (1000 : Int) < (v.name_.length : Int)) (by omega), Bool.or_true, Bool.and_false]
      rfl

theorem loop14 : ∀ (l : List GEnv) (i n : Int), ∃ b, loopS (fun (g : GEnv) _ (k : Int → Option Bool) (n : Int) => bif decide (200 < IntKind.wrap .i64 (n + (g.vars_.length : Int))) then some false else bif g.vars_.all svB then k (IntKind.wrap .i64 (n + (g.vars_.length : Int))) else some false) (fun _ => some true) l i n = some b ∧ (b = true → ∀ g ∈ l, g.vars_.all svB = true)
  | [], i, n => ⟨true, rfl, fun _ g hg => by cases hg⟩
  | g :: r, i, n => by
    rw [loopS]
    cases decide (200 < IntKind.wrap .i64 (n + (g.vars_.length : Int))) with
    | true => exact ⟨false, rfl, fun h => by cases h⟩
    | false =>
      cases hg : g.vars_.all svB with
      | false => exact ⟨false, rfl, fun h => by cases h⟩
      | true =>
        obtain ⟨b, h1, h2⟩ := loop14 r (i + 1) (IntKind.wrap .i64 (n + (g.vars_.length : Int)))
        refine ⟨b, h1, fun hb x hx => ?_⟩
        rcases List.mem_cons.1 hx with rfl | hx
        · exact hg
        · exact h2 hb x hx

theorem F14_is {l : List GEnv} (h : Wd l) : ∃ b, F14 l = some b ∧ (b = true → l.length ≤ 70 ∧ ∀ g ∈ l, ∀ v ∈ g.vars_, svB v = true) := by
  have hl := h.1
  unfold maxLen at hl
  unfold F14
  by_cases h1 : l.length ≤ 70
  · rw [decide_eq_false (by omega), cond_f]
    rw [iter_listT (body := F14_b2 l) l (fun (g : GEnv) _ (k : Int → Option Bool) (n : Int) => bif decide (200 < IntKind.wrap .i64 (n + (g.vars_.length : Int))) then some false else bif g.vars_.all svB then k (IntKind.wrap .i64 (n + (g.vars_.length : Int))) else some false) (fun _ => some true) ?_ ?_ (by omega)]
    · obtain ⟨b, q1, q2⟩ := loop14 l 0 0
      exact ⟨b, q1, fun hb => ⟨h1, fun g hg => List.all_eq_true.1 (q2 hb g hg)⟩⟩
    · intro again i hi n
      have hg := h.2 _ (List.getElem_mem hi)
      have hm := hg.1
      unfold maxLen at hm
      unfold F14_b2
      simp only
      rw [decide_eq_true (by omega), cond_t, lidx_at hi, Option.bind_some]
      congr 1
      rw [iter_range (body := F14_b3 l[i] again n i) l[i].vars_ (fun v _ k => (F7 v.values_ 70000).bind fun b => bif (!b || decide (1000 < (v.name_.length : Int))) then some false else k) (again (IntKind.wrap .i64 (n + (l[i].vars_.length : Int)), IntKind.wrap .i64 ((i : Int) + 1))) (fun _ _ => rfl) (by omega),
        inner14 _ _ _ (fun v hv => (hg.2 v hv).2), wrap64 (n := (i : Int) + 1) (by omega) (by omega)]
    · intro again n
      unfold F14_b2
      simp only
      rw [decide_eq_false (by omega), cond_f]
  · rw [decide_eq_true (by omega), cond_t]
    exact ⟨false, rfl, fun hb => by cases hb⟩

def okV (g : GEnv) (k : Nat) : Bool :=
  decide ((enc (g.vars_.getD k default).values_).2 = 0) && vn (g.vars_.getD k default).name_ && decide (ixI (nmP (g.vars_.getD k default).name_) g.vars_ = (k : Int)) &&
    !decide ((g.vars_.getD k default).id_ < 2) && !decide (g.next_ ≤ (g.vars_.getD k default).id_) && !(decide (0 < (k : Int)) && decide ((g.vars_.getD k default).id_ ≤ (g.vars_.getD (k - 1) default).id_))

def okE (l : List GEnv) (i : Nat) : Bool :=
  !(decide ((l.getD i default).id_ < 1) || decide (1099511627776 < (l.getD i default).id_)) && !(decide (0 < (i : Int)) && decide ((l.getD i default).id_ ≤ (l.getD (i - 1) default).id_)) &&
    !decide ((l.getD i default).next_ < 2) && !decide (1048576 < (l.getD i default).next_) && !decide (64 < ((l.getD i default).vars_.length : Int)) && (List.range' 0 (l.getD i default).vars_.length).all (okV (l.getD i default))

def right (l : List GEnv) : Bool := !decide (64 < (l.length : Int)) && (List.range' 0 l.length).all (okE l)

theorem getD_at {α : Type} {l : List α} {d : α} {j : Nat} (h : j < l.length) : l.getD j d = l[j] := by rw [List.getD_eq_getElem?_getD, List.getElem?_eq_getElem h]; rfl

theorem b3_is {g : GEnv} {again5 : Int → Option Bool} {i4 : Int} {again17 : Int → Option Bool} {j : Nat} (hlt : j < g.vars_.length) (hm : g.vars_.length ≤ 1000000)
    (hn : g.vars_[j].name_.length ≤ 1000000) (hv : g.vars_[j].values_.length ≤ 1000000) (hx : ∀ x ∈ g.vars_[j].values_, x.length ≤ 1000000) :
    F16_b3 g again5 i4 again17 (j : Int) = bif okV g j then again17 ((j + 1 : Nat) : Int) else some false := by
  unfold F16_b3 okV
  rw [decide_eq_true (by omega), cond_t, lidx_at hlt, Option.bind_some, F10_is hv hx, Option.bind_some, getD_at hlt, F40_is _ (by unfold maxLen; omega), F41_is _ _ (by unfold maxLen; omega), wrap64 (n := (j : Int) + 1) (by omega) (by omega)]
  simp only
  have hprev : 0 < j → lidx g.vars_ (IntKind.wrap .i64 ((j : Int) - 1)) = some (g.vars_.getD (j - 1) default) := fun h0 => by
    rw [wrap64 (by omega) (by omega), show ((j : Int) - 1) = ((j - 1 : Nat) : Int) by omega, lidx_at (by omega), getD_at (by omega)]
  rw [show ((j : Int) + 1) = ((j + 1 : Nat) : Int) by omega]
  cases decide ((enc g.vars_[j].values_).2 = 0) with
  | false => simp [guardO]
  | true =>
    cases vn g.vars_[j].name_ with
    | false => simp [guardO]
    | true =>
      simp only [Bool.not_true, Bool.or_self, Bool.not_false, guardO_true, Option.bind_some, Bool.false_or, Bool.true_and]
      cases decide (ixI (nmP g.vars_[j].name_) g.vars_ = (j : Int)) with
      | false => simp [guardO]
      | true =>
        cases decide (g.vars_[j].id_ < 2) with
        | true => simp [guardO]
        | false =>
          cases decide (g.next_ ≤ g.vars_[j].id_) with
          | true => simp [guardO]
          | false =>
            by_cases h0 : 0 < j
            · rw [decide_eq_true (p := (0 : Int) < (j : Int)) (by omega), hprev h0]
              simp only [Bool.not_true, Bool.or_self, Bool.not_false, guardO_true, Option.bind_some, Bool.false_or, Bool.true_and, Bool.and_true]
              cases decide (g.vars_[j].id_ ≤ (g.vars_.getD (j - 1) default).id_) <;> rfl
            · rw [decide_eq_false (p := (0 : Int) < (j : Int)) (by omega)]
              simp [guardO]

theorem inner16 {g : GEnv} {again5 : Int → Option Bool} {i4 : Int} (hm : g.vars_.length ≤ 1000000) (hv : ∀ v ∈ g.vars_, v.name_.length ≤ 1000000 ∧ v.values_.length ≤ 1000000 ∧ ∀ x ∈ v.values_, x.length ≤ 1000000) :
    iter (F16_b3 g again5 i4) BIG 0 = bif (List.range' 0 g.vars_.length).all (okV g) then again5 (IntKind.wrap .i64 (i4 + 1)) else some false := by
  have h : ∀ (n j m : Nat), j + m = g.vars_.length → m < n → iter (F16_b3 g again5 i4) n (j : Int) = bif (List.range' j m).all (okV g) then again5 (IntKind.wrap .i64 (i4 + 1)) else some false := by
    intro n
    induction n with
    | zero => intro j m _ h; omega
    | succ n ih =>
      intro j m hj hn
      show F16_b3 g again5 i4 (iter (F16_b3 g again5 i4) n) j = _
      cases m with
      | zero =>
        unfold F16_b3
        rw [decide_eq_false (by omega), cond_f]
        rfl
      | succ m =>
        have hlt : j < g.vars_.length := by omega
        have hb := hv _ (List.getElem_mem hlt)
        rw [b3_is hlt hm hb.1 hb.2.1 hb.2.2, List.range'_succ, List.all_cons]
        cases okV g j with
        | false => rfl
        | true =>
          rw [cond_t, Bool.true_and]
          exact ih (j + 1) m (by omega) (by omega)
  exact h BIG 0 _ (Nat.zero_add _) (by unfold BIG; omega)

theorem b2_is {l : List GEnv} {again5 : Int → Option Bool} {j : Nat} (hlt : j < l.length) (hl : l.length ≤ 1000000)
    (hv : ∀ v ∈ l[j].vars_, v.name_.length ≤ 1000000 ∧ v.values_.length ≤ 1000000 ∧ ∀ x ∈ v.values_, x.length ≤ 1000000) :
    F16_b2 l again5 (j : Int) = bif okE l j then again5 ((j + 1 : Nat) : Int) else some false := by
  unfold F16_b2 okE
  rw [decide_eq_true (by omega), cond_t, lidx_at hlt, Option.bind_some, getD_at hlt]
  have hprev : 0 < j → lidx l (IntKind.wrap .i64 ((j : Int) - 1)) = some (l.getD (j - 1) default) := fun h0 => by
    rw [wrap64 (by omega) (by omega), show ((j : Int) - 1) = ((j - 1 : Nat) : Int) by omega, lidx_at (by omega), getD_at (by omega)]
  cases decide (l[j].id_ < 1) || decide (1099511627776 < l[j].id_) with
  | true => simp [guardO]
  | false =>
    have hg : ∃ p, guardO (!false && decide (0 < (j : Int))) (lidx l (IntKind.wrap .i64 ((j : Int) - 1))) = some p ∧ (decide (0 < (j : Int)) && decide (l[j].id_ ≤ p.id_)) = (decide (0 < (j : Int)) && decide (l[j].id_ ≤ (l.getD (j - 1) default).id_)) := by
      by_cases h0 : 0 < j
      · rw [decide_eq_true (p := (0 : Int) < (j : Int)) (by omega), hprev h0]
        exact ⟨_, rfl, rfl⟩
      · rw [decide_eq_false (p := (0 : Int) < (j : Int)) (by omega)]
        exact ⟨_, rfl, rfl⟩
    obtain ⟨p, h1, h2⟩ := hg
    rw [h1, Option.bind_some, h2]
    cases decide (0 < (j : Int)) && decide (l[j].id_ ≤ (l.getD (j - 1) default).id_) with
    | true => rfl
    | false =>
      cases decide (l[j].next_ < 2) with
      | true => rfl
      | false =>
        cases decide (1048576 < l[j].next_) with
        | true => rfl
        | false =>
          by_cases h4 : 64 < l[j].vars_.length
          · rw [decide_eq_true (p := (64 : Int) < (l[j].vars_.length : Int)) (by omega)]; rfl
          · rw [decide_eq_false (p := (64 : Int) < (l[j].vars_.length : Int)) (by omega)]
            simp only [Bool.or_self, cond_f, Bool.not_false, Bool.true_and]
            rw [inner16 (by omega) hv, wrap64 (by omega) (by omega)]
            rfl

theorem F16_is {l : List GEnv} (hv : ∀ g ∈ l, ∀ v ∈ g.vars_, v.name_.length ≤ 1000000 ∧ v.values_.length ≤ 1000000 ∧ ∀ x ∈ v.values_, x.length ≤ 1000000) : F16 l = some (right l) := by
  unfold F16 right
  by_cases hl : 64 < l.length
  · rw [decide_eq_true (by omega), cond_t]; rfl
  · rw [decide_eq_false (by omega), cond_f, Bool.not_false, Bool.true_and]
    have h : ∀ (n j m : Nat), j + m = l.length → m < n → iter (F16_b2 l) n (j : Int) = some ((List.range' j m).all (okE l)) := by
      intro n
      induction n with
      | zero => intro j m _ h; omega
      | succ n ih =>
        intro j m hj hn
        show F16_b2 l (iter (F16_b2 l) n) j = _
        cases m with
        | zero =>
          unfold F16_b2
          rw [decide_eq_false (by omega), cond_f]
          rfl
        | succ m =>
          have hlt : j < l.length := by omega
          rw [b2_is hlt (by omega) (hv _ (List.getElem_mem hlt)), List.range'_succ, List.all_cons]
          cases okE l j with
          | false => rfl
          | true =>
            rw [cond_t, Bool.true_and]
            exact ih (j + 1) m (by omega) (by omega)
    exact h BIG 0 _ (Nat.zero_add _) (by unfold BIG; omega)

theorem mem_range0 {n k : Nat} (h : k < n) : k ∈ List.range' 0 n := by
  rw [List.mem_range']
  exact ⟨k, h, by omega⟩

/-- What a valid list has. -/
theorem right_of {l : List GEnv} (h : right l = true) : l.length ≤ 64 ∧ ∀ g ∈ l, 2 ≤ g.next_ ∧ g.next_ ≤ 1048576 ∧ g.vars_.length ≤ 64 ∧ ∀ (k : Nat) (hk : k < g.vars_.length), ixI (nmP g.vars_[k].name_) g.vars_ = (k : Int) := by
  unfold right at h
  simp only [Bool.and_eq_true, Bool.not_eq_true', decide_eq_false_iff_not] at h
  refine ⟨by omega, fun g hg => ?_⟩
  obtain ⟨i, hi, rfl⟩ := List.getElem_of_mem hg
  have he := List.all_eq_true.1 h.2 i (mem_range0 hi)
  unfold okE at he
  rw [getD_at hi] at he
  simp only [Bool.and_eq_true, Bool.not_eq_true', decide_eq_false_iff_not] at he
  refine ⟨by omega, by omega, by omega, fun k hk => ?_⟩
  have hv := List.all_eq_true.1 he.2 k (mem_range0 hk)
  unfold okV at hv
  rw [getD_at hk] at hv
  simp only [Bool.and_eq_true, decide_eq_true_eq] at hv
  exact hv.1.1.1.2

theorem ixI_some {α : Type} {p : α → Bool} {l : List α} {k : Nat} (h : ix p l = some k) : ixI p l = (k : Int) := by rw [ixI, h]

theorem ixI_none {α : Type} {p : α → Bool} {l : List α} (h : ix p l = none) : ixI p l = -1 := by rw [ixI, h]

def getS (l : List GEnv) (group : Int) (name : Str) : Option (List Str) := (l.find? (idP group)).bind fun g => (g.vars_.find? (nmP name)).map Var.values_

theorem F19_is {l : List GEnv} (h : Bear 1000000 l) (group : Int) (name : Str) : F19 l group name = some (match getS l group name with | none => ([], false) | some v => (v, true)) := by
  have hl := h.1
  unfold F19 getS
  rw [F43_is l group (by unfold maxLen; omega), Option.bind_some]
  cases hi : ix (idP group) l with
  | none =>
    rw [ixI_none hi, ix_none hi]
    rfl
  | some i =>
    obtain ⟨h1, h2, h3⟩ := ix_some hi
    have hb := h.2 _ (List.getElem_mem h1)
    rw [ixI_some hi, h3, decide_eq_false (by omega), cond_f, lidx_at h1, Option.bind_some, Option.bind_some, F45x1_is _ _ (by have := hb.1; unfold maxLen; omega), Option.bind_some]
    cases hk : ix (nmP name) l[i].vars_ with
    | none =>
      rw [ixI_none hk, ix_none hk]
      rfl
    | some k =>
      obtain ⟨k1, k2, k3⟩ := ix_some hk
      have hv := hb.2 _ (List.getElem_mem k1)
      rw [ixI_some hk, k3, decide_eq_false (by omega), cond_f, lidx_at k1, Option.bind_some, L_Clone, if_pos (by have := hv.2.1; omega), Option.bind_some]
      rfl

theorem sv_bear {v : Var} (h : svB v = true) : v.name_.length ≤ 100000 ∧ v.values_.length ≤ 100000 ∧ ∀ x ∈ v.values_, x.length ≤ 100000 := by
  unfold svB at h
  simp only [Bool.and_eq_true, decide_eq_true_eq] at h
  refine ⟨by omega, by omega, fun x hx => ?_⟩
  have := Sh.mem (l := v.values_) (most := 70000) ⟨h.1.2, by omega⟩ (by omega) hx
  omega

theorem get_len {l : List GEnv} (h : Bear 1000000 l) {group : Int} {name : Str} {v : List Str} (hv : getS l group name = some v) : v.length ≤ 1000000 := by
  unfold getS at hv
  obtain ⟨g, hg, hv⟩ := Option.bind_eq_some_iff.1 hv
  obtain ⟨y, hy, rfl⟩ := Option.map_eq_some_iff.1 hv
  exact ((h.2 g (List.mem_of_find?_eq_some hg)).2 y (List.mem_of_find?_eq_some hy)).2.1

theorem b50_is {g : GEnv} {again5 : Int → Option Bool} {j : Nat} (hlt : j < g.vars_.length) (hm : g.vars_.length ≤ 1000000)
    (hn : g.vars_[j].name_.length ≤ 1000000) (hv : g.vars_[j].values_.length ≤ 1000000) (hx : ∀ x ∈ g.vars_[j].values_, x.length ≤ 1000000) :
    F50_b1 g again5 (j : Int) = bif okV g j then again5 ((j + 1 : Nat) : Int) else some false := by
  unfold F50_b1 okV
  rw [decide_eq_true (by omega), cond_t, lidx_at hlt, Option.bind_some, F9_is hv hx, getD_at hlt, F44_is _ (by unfold maxLen; omega), F45x1_is _ _ (by unfold maxLen; omega), wrap64 (n := (j : Int) + 1) (by omega) (by omega)]
  have hprev : 0 < j → lidx g.vars_ (IntKind.wrap .i64 ((j : Int) - 1)) = some (g.vars_.getD (j - 1) default) := fun h0 => by
    rw [wrap64 (by omega) (by omega), show ((j : Int) - 1) = ((j - 1 : Nat) : Int) by omega, lidx_at (by omega), getD_at (by omega)]
  rw [show ((j : Int) + 1) = ((j + 1 : Nat) : Int) by omega]
  cases ha : decide (g.vars_[j].id_ < 2) with
  | true => simp [guardO]
  | false =>
    cases hb : decide (g.next_ ≤ g.vars_[j].id_) with
    | true => simp [guardO]
    | false =>
      have hg : ∃ p, guardO (!(false || false) && decide (0 < (j : Int))) (lidx g.vars_ (IntKind.wrap .i64 ((j : Int) - 1))) = some p ∧ (decide (0 < (j : Int)) && decide (g.vars_[j].id_ ≤ p.id_)) = (decide (0 < (j : Int)) && decide (g.vars_[j].id_ ≤ (g.vars_.getD (j - 1) default).id_)) := by
        by_cases h0 : 0 < j
        · rw [decide_eq_true (p := (0 : Int) < (j : Int)) (by omega), hprev h0]
          exact ⟨_, rfl, rfl⟩
        · rw [decide_eq_false (p := (0 : Int) < (j : Int)) (by omega)]
          exact ⟨_, rfl, rfl⟩
      obtain ⟨p, h1, h2⟩ := hg
      rw [h1, Option.bind_some, h2]
      cases decide (0 < (j : Int)) && decide (g.vars_[j].id_ ≤ (g.vars_.getD (j - 1) default).id_) with
      | true => simp [guardO]
      | false =>
        simp only [Bool.or_self, Bool.not_false, guardO_true, Option.bind_some, Bool.false_or, Bool.and_true]
        cases vn g.vars_[j].name_ with
        | false => simp
        | true =>
          simp only [Bool.not_true, cond_f, Bool.and_true]
          cases decide (ixI (nmP g.vars_[j].name_) g.vars_ = (j : Int)) with
          | false => simp
          | true =>
            simp only [Bool.not_true, cond_f, Bool.and_true]
            cases decide ((enc g.vars_[j].values_).2 = 0) <;> rfl

def okG (g : GEnv) : Bool := !((((decide (g.id_ < 1) || decide (1099511627776 < g.id_)) || decide (g.next_ < 2)) || decide (1048576 < g.next_)) || decide (64 < (g.vars_.length : Int))) && (List.range' 0 g.vars_.length).all (okV g)

theorem F50_is {g : GEnv} (hv : ∀ v ∈ g.vars_, v.name_.length ≤ 1000000 ∧ v.values_.length ≤ 1000000 ∧ ∀ x ∈ v.values_, x.length ≤ 1000000) : F50 g = some (okG g) := by
  unfold F50 okG
  cases hc : (((decide (g.id_ < 1) || decide (1099511627776 < g.id_)) || decide (g.next_ < 2)) || decide (1048576 < g.next_)) || decide (64 < (g.vars_.length : Int)) with
  | true => rfl
  | false =>
    have hm : g.vars_.length ≤ 64 := by
      simp only [Bool.or_eq_false_iff, decide_eq_false_iff_not] at hc
      omega
    rw [cond_f, Bool.not_false, Bool.true_and]
    have h : ∀ (n j m : Nat), j + m = g.vars_.length → m < n → iter (F50_b1 g) n (j : Int) = some ((List.range' j m).all (okV g)) := by
      intro n
      induction n with
      | zero => intro j m _ h; omega
      | succ n ih =>
        intro j m hj hn
        show F50_b1 g (iter (F50_b1 g) n) j = _
        cases m with
        | zero =>
          rw [F50_b1, decide_eq_false (by omega), cond_f]
          rfl
        | succ m =>
          have hlt : j < g.vars_.length := by omega
          have hb := hv _ (List.getElem_mem hlt)
          rw [b50_is hlt (by omega) hb.1 hb.2.1 hb.2.2, List.range'_succ, List.all_cons]
          cases okV g j with
          | false => rfl
          | true =>
            rw [cond_t, Bool.true_and]
            exact ih (j + 1) m (by omega) (by omega)
    exact h BIG 0 _ (Nat.zero_add _) (by unfold BIG; omega)

theorem okE_G (l : List GEnv) (i : Nat) : okE l i = (!(decide (0 < (i : Int)) && decide ((l.getD i default).id_ ≤ (l.getD (i - 1) default).id_)) && okG (l.getD i default)) := by
  unfold okE okG
  cases decide ((l.getD i default).id_ < 1) <;> cases decide (1099511627776 < (l.getD i default).id_) <;> cases (decide (0 < (i : Int)) && decide ((l.getD i default).id_ ≤ (l.getD (i - 1) default).id_)) <;>
    cases decide ((l.getD i default).next_ < 2) <;> cases decide (1048576 < (l.getD i default).next_) <;> cases decide (64 < ((l.getD i default).vars_.length : Int)) <;> rfl

theorem F20_is {l : List GEnv} (hv : ∀ g ∈ l, ∀ v ∈ g.vars_, v.name_.length ≤ 1000000 ∧ v.values_.length ≤ 1000000 ∧ ∀ x ∈ v.values_, x.length ≤ 1000000) : F20 l = some (right l) := by
  unfold F20 right
  by_cases hl : 64 < l.length
  · rw [decide_eq_true (by omega), cond_t]; rfl
  · rw [decide_eq_false (by omega), cond_f, Bool.not_false, Bool.true_and]
    have h : ∀ (n j m : Nat), j + m = l.length → m < n → iter (F20_b1 l) n (j : Int) = some ((List.range' j m).all (okE l)) := by
      intro n
      induction n with
      | zero => intro j m _ h; omega
      | succ n ih =>
        intro j m hj hn
        show F20_b1 l (iter (F20_b1 l) n) j = _
        cases m with
        | zero =>
          rw [F20_b1, decide_eq_false (by omega), cond_f]
          rfl
        | succ m =>
          have hlt : j < l.length := by omega
          rw [List.range'_succ, List.all_cons, okE_G, F20_b1, decide_eq_true (p := (j : Int) < (l.length : Int)) (by omega), cond_t, lidx_at hlt, Option.bind_some, getD_at hlt, F50_is (hv _ (List.getElem_mem hlt)), wrap64 (n := (j : Int) + 1) (by omega) (by omega), show ((j : Int) + 1) = ((j + 1 : Nat) : Int) by omega]
          have hg : ∃ p, guardO (decide (0 < (j : Int))) (lidx l (IntKind.wrap .i64 ((j : Int) - 1))) = some p ∧ (decide (0 < (j : Int)) && decide (l[j].id_ ≤ p.id_)) = (decide (0 < (j : Int)) && decide (l[j].id_ ≤ (l.getD (j - 1) default).id_)) := by
            by_cases h0 : 0 < j
            · rw [decide_eq_true (p := (0 : Int) < (j : Int)) (by omega), wrap64 (by omega) (by omega), show ((j : Int) - 1) = ((j - 1 : Nat) : Int) by omega, lidx_at (by omega), getD_at (by omega)]
              exact ⟨_, rfl, rfl⟩
            · rw [decide_eq_false (p := (0 : Int) < (j : Int)) (by omega)]
              exact ⟨_, rfl, rfl⟩
          obtain ⟨p, h1, h2⟩ := hg
          rw [h1, Option.bind_some, h2]
          cases decide (0 < (j : Int)) && decide (l[j].id_ ≤ (l.getD (j - 1) default).id_) with
          | true => rfl
          | false =>
            rw [Bool.not_false, guardO_true, Option.bind_some]
            cases okG l[j] with
            | false => rfl
            | true =>
              simp only [Bool.not_true, Bool.or_self, cond_f, Bool.and_self, Bool.true_and]
              exact ih (j + 1) m (by omega) (by omega)
    exact h BIG 0 _ (Nat.zero_add _) (by unfold BIG; omega)

/-- What the variables of a valid list have. -/
theorem right_of2 {l : List GEnv} (h : right l = true) {g : GEnv} (hg : g ∈ l) {k : Nat} (hk : k < g.vars_.length) : (enc g.vars_[k].values_).2 = 0 ∧ 2 ≤ g.vars_[k].id_ ∧ (0 < k → (g.vars_.getD (k - 1) default).id_ < g.vars_[k].id_) := by
  unfold right at h
  simp only [Bool.and_eq_true, Bool.not_eq_true', decide_eq_false_iff_not] at h
  obtain ⟨i, hi, rfl⟩ := List.getElem_of_mem hg
  have he := List.all_eq_true.1 h.2 i (mem_range0 hi)
  unfold okE at he
  rw [getD_at hi] at he
  simp only [Bool.and_eq_true, Bool.not_eq_true', decide_eq_false_iff_not] at he
  have hv := List.all_eq_true.1 he.2 k (mem_range0 hk)
  unfold okV at hv
  rw [getD_at hk] at hv
  simp only [Bool.and_eq_true, decide_eq_true_eq, Bool.not_eq_true', decide_eq_false_iff_not, Bool.and_eq_false_iff] at hv
  refine ⟨hv.1.1.1.1.1, by omega, fun h0 => ?_⟩
  rcases hv.2 with h1 | h1 <;> omega

theorem ids_lt {l : List GEnv} (h : right l = true) {g : GEnv} (hg : g ∈ l) : ∀ (k j : Nat) (hk : k < g.vars_.length) (hj : j < k), (g.vars_[j]'(by omega)).id_ < g.vars_[k].id_
  | 0, j, hk, hj => by omega
  | k + 1, j, hk, hj => by
    have h1 := (right_of2 h hg hk).2.2 (by omega)
    rw [Nat.add_sub_cancel, getD_at (by omega)] at h1
    by_cases hjk : j = k
    · subst hjk; exact h1
    · have := ids_lt h hg k j (by omega) (by omega)
      omega

theorem ix_at {α : Type} {p : α → Bool} : ∀ {l : List α} {k : Nat} (hk : k < l.length), p l[k] = true → (∀ (j : Nat) (hj : j < k), p (l[j]'(by omega)) = false) → ix p l = some k
  | x :: r, 0, hk, hp, hn => by
    simp only [List.getElem_cons_zero] at hp
    rw [ix, if_pos hp]
  | x :: r, k + 1, hk, hp, hn => by
    have h0 := hn 0 (by omega)
    simp only [List.getElem_cons_zero] at h0
    rw [ix, if_neg (by rw [h0]; decide), ix_at (by simpa using hk) (by simpa using hp) (fun j hj => by simpa using hn (j + 1) (by omega))]
    rfl

theorem ix_id {l : List GEnv} (h : right l = true) {g : GEnv} (hg : g ∈ l) {k : Nat} (hk : k < g.vars_.length) : ix (vidP g.vars_[k].id_) g.vars_ = some k :=
  ix_at hk (by simp [vidP]) fun j hj => by
    have := ids_lt h hg k j hk hj
    simp only [vidP, decide_eq_false_iff_not]
    omega

theorem F51_is (l : List GEnv) (i : Int) (h : l.length ≤ maxLen) : F51 l i = some (ixI (idP i) l) := by
  unfold maxLen at h
  unfold F51
  rw [iter_range (body := F51_b1 l i) l (fun x i k => bif idP _ x then some i else k) (some (-1)) (fun _ _ => rfl) (by omega), loop_ix0]

theorem F85_is (g : GEnv) (i : Int) (h : g.vars_.length ≤ maxLen) : F85 g i = some (ixI (vidP i) g.vars_) := by
  unfold maxLen at h
  have : F83x1 g.vars_ i = some (ixI (vidP i) g.vars_) := by
    unfold F83x1
    rw [iter_range (body := F83x1_b1 g.vars_ i) g.vars_ (fun x i k => bif vidP _ x then some i else k) (some (-1)) (fun _ _ => rfl) (by omega), loop_ix0]
  unfold F85
  rw [this]
  rfl

/-- A file: a group's root, or a variable of it. -/
def fileS (l : List GEnv) (group id : Int) : Option (Nat × Option Nat) :=
  match ix (idP group) l with
  | none => none
  | some i => if id = 1 then some (i, none) else match ix (vidP id) (l.getD i default).vars_ with
    | none => none
    | some k => some (i, some k)

theorem fileS_some {l : List GEnv} {group id : Int} {i : Nat} {k : Option Nat} (h : fileS l group id = some (i, k)) : ∃ hi : i < l.length, ix (idP group) l = some i ∧ match k with
    | none => True
    | some k => ∃ hk : k < l[i].vars_.length, l[i].vars_[k].id_ = id := by
  unfold fileS at h
  cases hi : ix (idP group) l with
  | none => rw [hi] at h; cases h
  | some j =>
    rw [hi] at h
    obtain ⟨h1, h2, h3⟩ := ix_some hi
    simp only at h
    split at h
    · cases h
      exact ⟨h1, rfl, trivial⟩
    · cases hk : ix (vidP id) (l.getD j default).vars_ with
      | none => rw [hk] at h; cases h
      | some m =>
        rw [hk] at h
        simp only [Option.some.injEq, Prod.mk.injEq] at h
        obtain ⟨rfl, rfl⟩ := h
        rw [getD_at h1] at hk
        obtain ⟨k1, k2, k3⟩ := ix_some hk
        exact ⟨h1, rfl, k1, by simpa [vidP] using k2⟩

def kI : Option Nat → Int
  | none => -1
  | some k => (k : Int)

theorem kI_lt (k : Nat) : decide (kI (some k) < 0) = false := decide_eq_false (by show ¬ ((k : Int) < 0); omega)

theorem kI_ge (k : Nat) : decide (0 ≤ kI (some k)) = true := decide_eq_true (by show (0 : Int) ≤ (k : Int); omega)

theorem kI_none_ge : decide (0 ≤ kI none) = false := rfl

theorem F58_is {l : List GEnv} (h : Bear 1000000 l) (group id : Int) : F58 l group id = some (match fileS l group id with | none => (0, 0, 8) | some (i, k) => ((i : Int), kI k, 0)) := by
  have hl := h.1
  unfold F58 fileS
  rw [F43_is l group (by unfold maxLen; omega), Option.bind_some]
  cases hi : ix (idP group) l with
  | none => rw [ixI_none hi]; rfl
  | some i =>
    obtain ⟨h1, h2, h3⟩ := ix_some hi
    have hb := (h.2 _ (List.getElem_mem h1)).1
    rw [ixI_some hi, decide_eq_false (p := (i : Int) < 0) (by omega), cond_f]
    simp only
    by_cases hid : id = 1
    · rw [decide_eq_true hid, cond_t, if_pos hid]; rfl
    · rw [decide_eq_false hid, cond_f, if_neg hid, lidx_at h1, Option.bind_some, F85_is _ _ (by unfold maxLen; omega), Option.bind_some, getD_at h1]
      cases hk : ix (vidP id) l[i].vars_ with
      | none => rw [ixI_none hk]; rfl
      | some k => rw [ixI_some hk, decide_eq_false (p := (k : Int) < 0) (by omega), cond_f]; rfl

theorem F54_is {l : List GEnv} (h : Bear 1000000 l) (group id : Int) : F54 l group id = some (match fileS l group id with | none => (0, 0, false) | some (i, k) => ((i : Int), kI k, true)) := by
  have hl := h.1
  unfold F54 fileS
  rw [F51_is l group (by unfold maxLen; omega), Option.bind_some]
  cases hi : ix (idP group) l with
  | none => rw [ixI_none hi]; rfl
  | some i =>
    obtain ⟨h1, h2, h3⟩ := ix_some hi
    have hb := (h.2 _ (List.getElem_mem h1)).1
    rw [ixI_some hi, decide_eq_false (p := (i : Int) < 0) (by omega), cond_f]
    simp only
    by_cases hid : id = 1
    · rw [decide_eq_true hid, cond_t, if_pos hid]; rfl
    · rw [decide_eq_false hid, cond_f, if_neg hid, getD_at h1]
      rw [iter_range (body := F54_b1 l (i : Int) id) l[i].vars_ (fun x k r => bif vidP id x then some ((i : Int), k, true) else r) (some (0, 0, false)) (fun again k => by rw [F54_b1, lidx_at h1]; rfl) (by omega)]
      have hloop : ∀ (vs : List Var) (j : Int), loopR (fun x k r => bif vidP id x then some ((i : Int), k, true) else r) (some (0, 0, false)) vs j = some (match ix (vidP id) vs with | none => (0, 0, false) | some k => ((i : Int), j + (k : Int), true)) := by
        intro vs
        induction vs with
        | nil => intro j; rfl
        | cons x r ih =>
          intro j
          rw [loopR, ix]
          cases hx : vidP id x with
          | true => rw [cond_t, if_pos rfl]; simp
          | false =>
            rw [cond_f, if_neg (by decide), ih]
            cases hr : ix (vidP id) r with
            | none => rfl
            | some k =>
              show some ((i : Int), j + 1 + (k : Int), true) = some ((i : Int), j + ((k + 1 : Nat) : Int), true)
              rw [show j + 1 + (k : Int) = j + ((k + 1 : Nat) : Int) by omega]
      rw [hloop]
      cases hk : ix (vidP id) l[i].vars_ with
      | none => rfl
      | some k => simp [kI]

theorem F53_is {l : List GEnv} (h : Bear 1000000 l) (group id : Int) : F53 l group id = some (match fileS l group id with | none => (0, 8) | some (i, none) => ((i : Int), 0) | some (i, some k) => (0, 9)) := by
  unfold F53
  rw [F58_is h, Option.bind_some]
  rcases fileS l group id with _ | ⟨i, _ | k⟩
  · rfl
  · rfl
  · dsimp only
    rw [kI_ge]
    rfl

theorem F55_is {l : List GEnv} (h : Bear 1000000 l) (group id : Int) : F55 l group id = some (match fileS l group id with | none => (0, 0, 8) | some (i, none) => (0, 0, 10) | some (i, some k) => ((i : Int), (k : Int), 0)) := by
  unfold F55
  rw [F58_is h, Option.bind_some]
  rcases fileS l group id with _ | ⟨i, _ | k⟩
  · rfl
  · rfl
  · dsimp only
    rw [kI_lt]
    rfl

theorem F52_is {l : List Str} (h : l.length ≤ 1000000) : F52 l = some l := by
  unfold F52
  rw [appO_eq (by simp; omega), Option.bind_some]
  rfl

theorem F21_is {l : List GEnv} (h : Bear 1000000 l) (group : Int) (name : Str) : F21 l group name = some (match getS l group name with | none => ([], false) | some v => (v, true)) := by
  have hl := h.1
  unfold F21 getS
  rw [F51_is l group (by unfold maxLen; omega), Option.bind_some]
  cases hi : ix (idP group) l with
  | none =>
    rw [ixI_none hi, ix_none hi]
    rfl
  | some i =>
    obtain ⟨h1, h2, h3⟩ := ix_some hi
    have hb := h.2 _ (List.getElem_mem h1)
    rw [ixI_some hi, h3, decide_eq_false (p := (i : Int) < 0) (by omega), Bool.not_false, guardO_true, lidx_at h1, Option.bind_some, Option.bind_some, guardO_true, F41_is _ _ (by have := hb.1; unfold maxLen; omega)]
    simp only [Option.bind_some, Bool.false_or]
    cases hk : ix (nmP name) l[i].vars_ with
    | none =>
      rw [ixI_none hk, ix_none hk]
      rfl
    | some k =>
      obtain ⟨k1, k2, k3⟩ := ix_some hk
      have hv := hb.2 _ (List.getElem_mem k1)
      rw [ixI_some hk, k3, decide_eq_false (p := (k : Int) < 0) (by omega), cond_f, lidx_at k1, Option.bind_some, F52_is hv.2.1, Option.bind_some]
      rfl

def walkS (l : List GEnv) (group id : Int) (name : Str) : Int × Int :=
  match fileS l group id with
  | none => (0, 8)
  | some (i, some k) => (0, 9)
  | some (i, none) => if name = [46, 46] then (1, 0) else match ix (nmP name) (l.getD i default).vars_ with
    | none => (0, 8)
    | some k => (((l.getD i default).vars_.getD k default).id_, 0)

theorem F22_is {l : List GEnv} (h : Bear 1000000 l) (group id : Int) (name : Str) : F22 l group id name = some (walkS l group id name) := by
  unfold F22 walkS
  rw [F53_is h, Option.bind_some]
  rcases hf : fileS l group id with _ | ⟨i, _ | k⟩
  · rfl
  · obtain ⟨h1, hi, _⟩ := fileS_some hf
    have hb := (h.2 _ (List.getElem_mem h1)).1
    simp only [decide_true, Bool.not_true, cond_f]
    by_cases hn : name = [46, 46]
    · rw [decide_eq_true hn, cond_t, if_pos hn]
    · rw [decide_eq_false hn, cond_f, if_neg hn, lidx_at h1, Option.bind_some, F45x1_is _ _ (by unfold maxLen; omega), Option.bind_some, getD_at h1]
      cases hk : ix (nmP name) l[i].vars_ with
      | none => rw [ixI_none hk]; rfl
      | some k =>
        obtain ⟨k1, _, _⟩ := ix_some hk
        rw [ixI_some hk, decide_eq_false (p := (k : Int) < 0) (by omega), cond_f, lidx_at k1, Option.bind_some]
        simp only
        rw [getD_at k1]
  · rfl

theorem F23_is {l : List GEnv} (h : Bear 1000000 l) (group id : Int) (name : Str) : F23 l group id name = some (walkS l group id name) := by
  unfold F23 walkS
  rw [F54_is h, Option.bind_some]
  rcases hf : fileS l group id with _ | ⟨i, _ | k⟩
  · rfl
  · obtain ⟨h1, hi, _⟩ := fileS_some hf
    have hb := (h.2 _ (List.getElem_mem h1)).1
    simp only [Bool.not_true, cond_f]
    rw [kI_none_ge, cond_f]
    by_cases hn : name = [46, 46]
    · rw [decide_eq_true hn, cond_t, if_pos hn]
    · rw [decide_eq_false hn, cond_f, if_neg hn, lidx_at h1, Option.bind_some, F41_is _ _ (by unfold maxLen; omega), Option.bind_some, getD_at h1]
      cases hk : ix (nmP name) l[i].vars_ with
      | none => rw [ixI_none hk]; rfl
      | some k =>
        obtain ⟨k1, _, _⟩ := ix_some hk
        rw [ixI_some hk, decide_eq_false (p := (k : Int) < 0) (by omega), cond_f, lidx_at k1, Option.bind_some]
        simp only
        rw [getD_at k1]
  · simp only [Bool.not_true, cond_f]
    rw [kI_ge]
    rfl

theorem enc_glue {vs : List Str} (h : (enc vs).2 = 0) : enc vs = (glue 0 vs, 0) ∧ (glue 0 vs).length ≤ 65536 ∧ vs.length ≤ 256 := by
  unfold enc at h ⊢
  split
  · rename_i h0; rw [if_pos h0] at h; cases h
  rename_i h0
  rw [if_neg h0] at h
  split
  · rename_i h1; rw [if_pos h1] at h; cases h
  rename_i h1
  rw [if_neg h1] at h
  split
  · rename_i h2; rw [if_pos h2] at h; cases h
  rename_i h2
  rw [if_neg h2] at h
  split
  · rename_i h3; rw [if_pos h3] at h; cases h
  rename_i h3
  exact ⟨rfl, by omega, by omega⟩

theorem F56_is {v : Var} (h : (enc v.values_).2 = 0) : F56 v = some (glue 0 v.values_) := by
  obtain ⟨_, h1, h2⟩ := enc_glue h
  unfold F56 L_Join
  rw [join_glue, if_pos ⟨by omega, by omega⟩]
  rfl

def readS (l : List GEnv) (group id offset count : Int) : Str × Int :=
  match fileS l group id with
  | none => ([], 8)
  | some (i, none) => ([], 10)
  | some (i, some k) => if offset < 0 ∨ count < 0 then ([], 1) else
    (((glue 0 ((l.getD i default).vars_.getD k default).values_).drop (min offset.toNat (glue 0 ((l.getD i default).vars_.getD k default).values_).length)).take (min count.toNat ((glue 0 ((l.getD i default).vars_.getD k default).values_).length - min offset.toNat (glue 0 ((l.getD i default).vars_.getD k default).values_).length)), 0)

theorem imin_nat {a : Int} {b : Nat} (h : 0 ≤ a) : imin a (b : Int) = ((min a.toNat b : Nat) : Int) := by
  unfold imin
  split <;> omega

theorem F24_is {l : List GEnv} (h : Bear 1000000 l) (hr : right l = true) (group id offset count : Int) : F24 l group id offset count = some (readS l group id offset count) := by
  unfold F24 readS
  rw [F55_is h, Option.bind_some]
  rcases hf : fileS l group id with _ | ⟨i, _ | k⟩
  · rfl
  · rfl
  · obtain ⟨h1, hi, k1, _⟩ := fileS_some hf
    have he := (right_of2 hr (List.getElem_mem h1) k1).1
    simp only [decide_true, Bool.not_true, cond_f]
    by_cases hoc : offset < 0 ∨ count < 0
    · have : (decide (offset < 0) || decide (count < 0)) = true := by simpa using hoc
      rw [this, cond_t, if_pos hoc]
    · have : (decide (offset < 0) || decide (count < 0)) = false := by
        rw [Bool.eq_false_iff]
        intro h
        exact hoc (by simpa using h)
      have ho : 0 ≤ offset := by omega
      have hc : 0 ≤ count := by omega
      rw [this, cond_f, if_neg hoc, lidx_at h1, Option.bind_some, lidx_at k1, Option.bind_some, F56_is he, Option.bind_some, getD_at h1, getD_at k1, imin_nat ho, sslice_in (Nat.min_le_right _ _) (Nat.le_refl _), Option.bind_some]
      generalize glue 0 (l[i].vars_[k]).values_ = s
      rw [List.take_of_length_le (by rw [List.length_drop]; exact Nat.le_refl _), imin_nat hc, show (0 : Int) = ((0 : Nat) : Int) from rfl, sslice_in (Nat.zero_le _) (Nat.min_le_right _ _), Option.bind_some, List.length_drop]
      rfl

theorem F57_is {l : List GEnv} (h : Bear 1000000 l) (hr : right l = true) (group id : Int) : F57 l group id = some (match fileS l group id with | none => (0, 0, [], 8) | some (i, none) => (0, 0, [], 10) | some (i, some k) => ((i : Int), (k : Int), glue 0 ((l.getD i default).vars_.getD k default).values_, 0)) := by
  unfold F57
  rw [F54_is h, Option.bind_some]
  rcases hf : fileS l group id with _ | ⟨i, _ | k⟩
  · rfl
  · rfl
  · obtain ⟨h1, hi, k1, _⟩ := fileS_some hf
    have he := (right_of2 hr (List.getElem_mem h1) k1).1
    have hv := (h.2 _ (List.getElem_mem h1)).2 _ (List.getElem_mem k1)
    simp only [Bool.not_true, cond_f]
    rw [kI_lt, cond_f, show kI (some k) = (k : Int) from rfl, lidx_at h1, Option.bind_some, lidx_at k1, Option.bind_some, F10_is hv.2.1 hv.2.2, (enc_glue he).1, Option.bind_some, getD_at h1, getD_at k1]

theorem F25_is {l : List GEnv} (h : Bear 1000000 l) (hr : right l = true) (group id offset count : Int) : F25 l group id offset count = some (readS l group id offset count) := by
  unfold F25 readS
  rw [F57_is h hr, Option.bind_some]
  rcases hf : fileS l group id with _ | ⟨i, _ | k⟩
  · rfl
  · rfl
  · obtain ⟨h1, hi, k1, _⟩ := fileS_some hf
    have he := (enc_glue (right_of2 hr (List.getElem_mem h1) k1).1).2.1
    dsimp only
    rw [getD_at h1, getD_at k1]
    simp only [decide_true, Bool.not_true, cond_f]
    by_cases hoc : offset < 0 ∨ count < 0
    · have : (decide (offset < 0) || decide (count < 0)) = true := by simpa using hoc
      rw [this, cond_t, if_pos hoc]
    · have : (decide (offset < 0) || decide (count < 0)) = false := by
        rw [Bool.eq_false_iff]
        intro h
        exact hoc (by simpa using h)
      have ho : 0 ≤ offset := by omega
      have hc : 0 ≤ count := by omega
      rw [this, cond_f, if_neg hoc]
      generalize hs : glue 0 (l[i].vars_[k]).values_ = s at he
      rw [imin_nat ho, wrap64 (n := (s.length : Int) - ((min offset.toNat s.length : Nat) : Int)) (by omega) (by omega), show ((s.length : Int) - ((min offset.toNat s.length : Nat) : Int)) = ((s.length - min offset.toNat s.length : Nat) : Int) by omega, imin_nat hc, wrap64 (by omega) (by omega),
        show (((min offset.toNat s.length : Nat) : Int) + ((min count.toNat (s.length - min offset.toNat s.length) : Nat) : Int)) = ((min offset.toNat s.length + min count.toNat (s.length - min offset.toNat s.length) : Nat) : Int) by omega,
        sslice_in (Nat.le_add_right _ _) (by omega), Option.bind_some, Nat.add_sub_cancel_left]

def dirOf (v : Var) : Dir := Dir.mk 8 0 (Qid.mk 0 0 v.id_) 438 0 0 ((glue 0 v.values_).length : Int) v.name_ [115, 121, 115] [115, 121, 115] []

def statS (l : List GEnv) (group id : Int) : Dir × Int :=
  match fileS l group id with
  | none => (Dir.mk 0 0 (Qid.mk 0 0 0) 0 0 0 0 [] [] [] [], 8)
  | some (i, none) => (Dir.mk 8 0 (Qid.mk 128 0 1) 2147484159 0 0 0 [47] [115, 121, 115] [115, 121, 115] [], 0)
  | some (i, some k) => (dirOf ((l.getD i default).vars_.getD k default), 0)

theorem F59_is {v : Var} (h : (enc v.values_).2 = 0) : F59 v = some (dirOf v) := by
  unfold F59
  rw [F56_is h]
  rfl

theorem F26_is {l : List GEnv} (h : Bear 1000000 l) (hr : right l = true) (group id : Int) : F26 l group id = some (statS l group id) := by
  unfold F26 statS
  rw [F58_is h, Option.bind_some]
  rcases hf : fileS l group id with _ | ⟨i, _ | k⟩
  · rfl
  · rfl
  · obtain ⟨h1, hi, k1, _⟩ := fileS_some hf
    have he := (right_of2 hr (List.getElem_mem h1) k1).1
    simp only [decide_true, Bool.not_true, cond_f]
    rw [kI_lt, cond_f, show kI (some k) = (k : Int) from rfl, lidx_at h1, Option.bind_some, lidx_at k1, Option.bind_some, F59_is he, Option.bind_some, getD_at h1, getD_at k1]

theorem F27_is {l : List GEnv} (h : Bear 1000000 l) (hr : right l = true) (group id : Int) : F27 l group id = some (statS l group id) := by
  unfold F27 statS
  rw [F54_is h, Option.bind_some]
  rcases hf : fileS l group id with _ | ⟨i, _ | k⟩
  · rfl
  · rfl
  · obtain ⟨h1, hi, k1, hid⟩ := fileS_some hf
    have he := (right_of2 hr (List.getElem_mem h1) k1).1
    have hv := (h.2 _ (List.getElem_mem h1)).2 _ (List.getElem_mem k1)
    simp only [Bool.not_true, cond_f]
    rw [kI_lt, cond_f, show kI (some k) = (k : Int) from rfl, lidx_at h1, Option.bind_some, lidx_at k1, Option.bind_some, F10_is hv.2.1 hv.2.2, (enc_glue he).1, Option.bind_some, getD_at h1, getD_at k1]
    unfold dirOf
    rw [hid]

def listS (l : List GEnv) (group id : Int) : List Dir × Int :=
  match fileS l group id with
  | none => ([], 8)
  | some (i, some k) => ([], 9)
  | some (i, none) => ((l.getD i default).vars_.map dirOf, 0)

theorem loop_dirs (f : Var → Option Dir) (fin : List Dir → Option (List Dir × Int)) : ∀ (vs : List Var) (i : Int) (acc : List Dir), (∀ v ∈ vs, f v = some (dirOf v)) → acc.length + vs.length ≤ 1000000 →
    loopS (fun v _ k acc => (f v).bind fun d => (appO 136 acc [d]).bind fun out => k out) fin vs i acc = fin (acc ++ vs.map dirOf)
  | [], i, acc, _, _ => by rw [loopS, List.map_nil, List.append_nil]
  | v :: r, i, acc, h, hl => by
    rw [List.length_cons] at hl
    rw [loopS, h v (by simp), Option.bind_some, appO_eq (by simp; omega), Option.bind_some, loop_dirs f fin r (i + 1) _ (fun x hx => h x (by simp [hx])) (by simp; omega), List.append_assoc]
    rfl

theorem F28_is {l : List GEnv} (h : Bear 1000000 l) (hr : right l = true) (group id : Int) : F28 l group id = some (listS l group id) := by
  unfold F28 listS
  rw [F53_is h, Option.bind_some]
  rcases hf : fileS l group id with _ | ⟨i, _ | k⟩
  · rfl
  · obtain ⟨h1, hi, _⟩ := fileS_some hf
    have hb := (h.2 _ (List.getElem_mem h1)).1
    simp only [decide_true, Bool.not_true, cond_f]
    rw [lidx_at h1, Option.bind_some, iter_rangeS (body := F28_b1 l[i]) l[i].vars_ (fun v _ k acc => (F59 v).bind fun d => (appO 136 acc [d]).bind fun out => k out) (fun acc => some (acc, 0)) (fun _ _ _ => rfl) (by omega),
      loop_dirs F59 _ _ _ _ (fun v hv => by
        obtain ⟨k, hk, rfl⟩ := List.getElem_of_mem hv
        exact F59_is (right_of2 hr (List.getElem_mem h1) hk).1) (by simpa using hb), getD_at h1]
    rfl
  · rfl

theorem stat_var {l : List GEnv} (hr : right l = true) {group : Int} {i : Nat} (hi : ix (idP group) l = some i) {h1 : i < l.length} {k : Nat} (hk : k < l[i].vars_.length) : statS l group l[i].vars_[k].id_ = (dirOf l[i].vars_[k], 0) := by
  have h2 := (right_of2 hr (List.getElem_mem h1) hk).2.1
  unfold statS fileS
  rw [hi]
  simp only
  rw [if_neg (by omega), getD_at h1, ix_id hr (List.getElem_mem h1) hk]
  simp only
  rw [getD_at h1, getD_at hk]

theorem F29_is {l : List GEnv} (h : Bear 1000000 l) (hr : right l = true) (group id : Int) : F29 l group id = some (listS l group id) := by
  unfold F29 listS
  rw [F54_is h, Option.bind_some]
  rcases hf : fileS l group id with _ | ⟨i, _ | k⟩
  · rfl
  · obtain ⟨h1, hi, _⟩ := fileS_some hf
    have hb := (h.2 _ (List.getElem_mem h1)).1
    simp only [Bool.not_true, cond_f]
    rw [kI_none_ge, cond_f, iter_rangeS (body := F29_b1 l (i : Int) group) l[i].vars_ (fun v _ k acc => ((F27 l group v.id_).bind fun p => some p.1).bind fun d => (appO 136 acc [d]).bind fun out => k out) (fun acc => some (acc, 0)) (fun again n acc => by
        rw [F29_b1, lidx_at h1, Option.bind_some]
        congr 1
        congr 1
        funext v
        cases F27 l group v.id_ <;> rfl) (by omega),
      loop_dirs (fun v => (F27 l group v.id_).bind fun p => some p.1) _ _ _ _ (fun v hv => by
        obtain ⟨k, hk, rfl⟩ := List.getElem_of_mem hv
        rw [F27_is h hr, stat_var hr hi hk]
        rfl) (by simpa using hb), getD_at h1]
    rfl
  · simp only [Bool.not_true, cond_f]
    rw [kI_ge]
    rfl

theorem F30_is (a : List Dir) (h : a.length ≤ 1000000) : F30 a a = some true := by
  unfold F30
  rw [decide_eq_true (p := (a.length : Int) = (a.length : Int)) rfl, Bool.not_true, cond_f, iter_range (body := F30_b1 a a) a (fun _ _ k => k) (some true) (fun again i => by
    rw [F30_b1]
    congr 1
    cases lidx a i with
    | none => rfl
    | some u => simp) (by omega)]
  have : ∀ (l : List Dir) (i : Int), loopR (fun _ _ k => k) (some true) l i = some true := by
    intro l
    induction l with
    | nil => intro i; rfl
    | cons x r ih => intro i; rw [loopR]; exact ih _
  exact this a 0

theorem list_len {l : List GEnv} (h : Bear 1000000 l) (group id : Int) : (listS l group id).1.length ≤ 1000000 := by
  unfold listS
  rcases hf : fileS l group id with _ | ⟨i, _ | k⟩
  · simp
  · obtain ⟨h1, hi, _⟩ := fileS_some hf
    simp only [List.length_map]
    rw [getD_at h1]
    exact (h.2 _ (List.getElem_mem h1)).1
  · simp

theorem plain5 (l : List GEnv) (w : Wd l) (x : Ask) : F5 l x = some true := by
  unfold F5
  obtain ⟨b, hb, hs⟩ := F14_is w
  rw [hb, Option.bind_some]
  cases b with
  | false =>
    rw [Bool.not_false, Bool.true_or, cond_t, alive]
    rfl
  | true =>
    rw [Bool.not_true, Bool.false_or]
    by_cases hx : 1000 < x.name_.length
    · rw [decide_eq_true (p := (1000 : Int) < (x.name_.length : Int)) (by omega), cond_t, alive]
      rfl
    · rw [decide_eq_false (p := (1000 : Int) < (x.name_.length : Int)) (by omega), cond_f]
      obtain ⟨hl70, hsv⟩ := hs rfl
      have hbs : ∀ g ∈ l, ∀ v ∈ g.vars_, v.name_.length ≤ 1000000 ∧ v.values_.length ≤ 1000000 ∧ ∀ x ∈ v.values_, x.length ≤ 1000000 := fun g hg v hv => by
        obtain ⟨q1, q2, q3⟩ := sv_bear (hsv g hg v hv)
        exact ⟨by omega, by omega, fun x hx => by have := q3 x hx; omega⟩
      rw [F16_is hbs, Option.bind_some, F20_is hbs]
      cases hr : right l with
      | false =>
        rw [Bool.not_false, cond_t, Option.bind_some, Bool.not_false, guardO_true, alive]
        rfl
      | true =>
        rw [Bool.not_true, cond_f]
        obtain ⟨hr1, hr2⟩ := right_of hr
        have hB : Bear 1000000 l := ⟨by omega, fun g hg => ⟨by have := (hr2 g hg).2.2.1; omega, hbs g hg⟩⟩
        have hG : ∃ p : List Str × Bool, p.1.length ≤ 1000000 ∧ F19 l x.group_ x.name_ = some p ∧ F21 l x.group_ x.name_ = some p := by
          refine ⟨_, ?_, F19_is hB _ _, F21_is hB _ _⟩
          cases hg : getS l x.group_ x.name_ with
          | none => simp
          | some v => exact get_len hB hg
        obtain ⟨p, hp1, hp2, hp3⟩ := hG
        have hll := list_len hB x.group_ x.id_
        have q22 := F22_is hB x.group_ x.id_ x.name_
        have q23 := F23_is hB x.group_ x.id_ x.name_
        have q24 := F24_is hB hr x.group_ x.id_ x.offset_ x.count_
        have q25 := F25_is hB hr x.group_ x.id_ x.offset_ x.count_
        have q26 := F26_is hB hr x.group_ x.id_
        have q27 := F27_is hB hr x.group_ x.id_
        have q28 := F28_is hB hr x.group_ x.id_
        have q29 := F29_is hB hr x.group_ x.id_
        rcases p with ⟨v, ok⟩
        rcases walkS l x.group_ x.id_ x.name_ with ⟨a, e⟩
        rcases readS l x.group_ x.id_ x.offset_ x.count_ with ⟨s, f⟩
        rcases statS l x.group_ x.id_ with ⟨d, g⟩
        simp only at hp1
        have q13 : F13 v v = some true := by rw [F13_is _ _ (by unfold maxLen; omega), decide_eq_true rfl]
        have q30 := F30_is _ hll
        simp only [hp2, hp3, q22, q23, q24, q25, q26, q27, q28, q29, Option.bind_some, guardO_true, q13, q30, alive, decide_true, beq_self_eq_true, Bool.and_self]

theorem law5 (l : List GEnv) (wl : w_32 l) (x : Ask) (wx : w_36 x) : F5 l x = some true :=
  plain5 l ⟨wl.1, fun g hg => ⟨(wl.2 g hg).2.2.1, fun v hv => ⟨((wl.2 g hg).2.2.2 v hv).2.1, ((wl.2 g hg).2.2.2 v hv).2.2.1⟩⟩⟩ x

end Go.Abs.U29
