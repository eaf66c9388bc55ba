/- The layer 5 laws, in plain Lean: groups, and the seven laws. -/
import Derived.Test.YtibmhmnhiflmjaaDoorP3
namespace Go.Abs.U05
open Go

def findL (s : Str) : List User → Option User
  | [] => none
  | u :: us => bif decide (u.name_ = s) then some u else findL s us
def found (s : Str) (l : List User) : User × Bool := match findL s l with
  | some u => (u, true)
  | none => (⟨[], [], []⟩, false)

theorem findL_mem {s : Str} : ∀ {l : List User} {u : User}, findL s l = some u → u ∈ l ∧ u.name_ = s
  | [], u, h => by cases h
  | x :: l, u, h => by
    simp only [findL] at h
    by_cases hx : x.name_ = s
    · rw [decide_eq_true hx, cond_t] at h
      cases h
      exact ⟨by simp, hx⟩
    · rw [decide_eq_false hx, cond_f] at h
      obtain ⟨h1, h2⟩ := findL_mem h
      exact ⟨by simp [h1], h2⟩

theorem F18_eq {l : List User} (hl : l.length ≤ 4611686018427387904) (hm : ∀ u ∈ l, u.members_.length ≤ 4294967296) (s : Str) : F18 l s = some (found s l) := by
  unfold F18 found
  rw [iter_range (body := F18_b1 l s) l (fun u _ n => bif decide (u.name_ = s) then (L_Clone u.members_).bind fun l14 => some (User.mk u.name_ u.leader_ l14, true) else n) (some (User.mk [] [] [], false)) (fun _ _ => rfl) hl]
  have : ∀ (us : List User) (i : Int), (∀ u ∈ us, u.members_.length ≤ 4294967296) → loopR (fun (u : User) (_ : Int) (n : Option (User × Bool)) => bif decide (u.name_ = s) then (L_Clone u.members_).bind fun l14 => some (User.mk u.name_ u.leader_ l14, true) else n) (some (User.mk [] [] [], false)) us i =
      some (match findL s us with | some u => (u, true) | none => (⟨[], [], []⟩, false)) := by
    intro us
    induction us with
    | nil => intro i _; rfl
    | cons u us ih =>
      intro i h
      have hc : L_Clone u.members_ = some u.members_ := if_pos (h u (by simp))
      simp only [loopR, findL, hc, Option.bind_some, ih (i + 1) (fun v hv => h v (by simp [hv]))]
      cases decide (u.name_ = s) <;> rfl
  exact this l 0 hm

theorem findL_at (s : Str) : ∀ (l : List User) (i : Int), (findL s l = none ∧ atL s l i = -1) ∨ ∃ (j : Nat) (u : User), findL s l = some u ∧ atL s l i = i + j ∧ l[j]? = some u
  | [], _ => .inl ⟨rfl, rfl⟩
  | x :: l, i => by
    by_cases hx : x.name_ = s
    · exact .inr ⟨0, x, by simp [findL, hx], by simp [atL, hx], rfl⟩
    · rcases findL_at s l (i + 1) with ⟨h1, h2⟩ | ⟨j, u, h1, h2, h3⟩
      · exact .inl ⟨by simp [findL, hx, h1], by simp [atL, hx, h2]⟩
      · refine .inr ⟨j + 1, u, by simp [findL, hx, h1], ?_, by simpa using h3⟩
        simp only [atL, decide_eq_false hx, cond_f, h2]
        omega

theorem F19_eq {l : List User} (hl : l.length ≤ 4611686018427387904) (s : Str) : F19 l s = some (found s l) := by
  unfold F19 found
  rw [F35_eq hl]
  simp only [Option.bind_some]
  rcases findL_at s l 0 with ⟨h1, h2⟩ | ⟨j, u, h1, h2, h3⟩
  · rw [h1, h2]
    rfl
  · rw [h1, h2, Int.zero_add, decide_eq_false (by omega), cond_f, lidx_nat, h3]
    rfl

def member (l : List User) (u g : Str) : Bool := decide (u = g) || (found g l).1.members_.any fun m => decide (m = u)
def leads (l : List User) (u g : Str) : Bool := bif !decide ((found g l).1.leader_ = []) then decide ((found g l).1.leader_ = u) else member l u g

theorem found_none {s : Str} {l : List User} (h : (found s l).2 = false) : (found s l).1 = ⟨[], [], []⟩ := by
  unfold found at h ⊢
  revert h
  cases findL s l <;> simp

theorem F21_eq {l : List User} (hl : l.length ≤ 4611686018427387904) (hm : ∀ u ∈ l, u.members_.length ≤ 4294967296) (u g : Str) : F21 l u g = some (member l u g) := by
  unfold F21 member
  cases h : decide (u = g) with
  | true => rfl
  | false =>
    rw [cond_f, F18_eq hl hm]
    simp only [Option.bind_some, L_Contains]
    cases hf : (found g l).2 with
    | false =>
      rw [found_none hf]
      simp [guardO_false]
    | true => simp [guardO_true]

theorem F22_eq {l : List User} (hl : l.length ≤ 4611686018427387904) (hm : ∀ u ∈ l, u.members_.length ≤ 4294967296) (u g : Str) : F22 l u g = some (member l u g) := by
  unfold F22 member
  cases h : decide (u = g) with
  | true => rfl
  | false =>
    rw [cond_f, F19_eq hl]
    have hml : (found g l).1.members_.length ≤ 4294967296 := by
      unfold found
      cases hf : findL g l with
      | none => simp
      | some x => exact hm x (findL_mem hf).1
    generalize found g l = p at hml
    obtain ⟨v, b⟩ := p
    show iter (F22_b1 v u) BIG 0 = some (false || v.members_.any fun m => decide (m = u))
    simp only at hml
    rw [iter_range (body := F22_b1 v u) v.members_ (fun w _ n => bif decide (w = u) then some true else n) (some false) (fun _ _ => rfl) (by omega)]
    have : ∀ (ws : List Str) (i : Int), loopR (fun w _ n => bif decide (w = u) then some true else n) (some false) ws i = some (ws.any fun m => decide (m = u)) := by
      intro ws
      induction ws with
      | nil => intro i; rfl
      | cons w ws ih =>
        intro i
        simp only [loopR, ih, List.any_cons]
        cases decide (w = u) <;> rfl
    rw [this]
    rfl

theorem F23_eq {l : List User} (hl : l.length ≤ 4611686018427387904) (hm : ∀ u ∈ l, u.members_.length ≤ 4294967296) (u g : Str) : F23 l u g = some (leads l u g) := by
  unfold F23 leads
  rw [F18_eq hl hm, F21_eq hl hm]
  simp only [Option.bind_some]
  cases hf : (found g l).2 with
  | false =>
    rw [found_none hf]
    rfl
  | true =>
    simp only [Bool.true_and]
    cases decide ((found g l).1.leader_ = []) <;> rfl

theorem F24_eq {l : List User} (hl : l.length ≤ 4611686018427387904) (hm : ∀ u ∈ l, u.members_.length ≤ 4294967296) (u g : Str) : F24 l u g = some (leads l u g) := by
  unfold F24 leads
  rw [F19_eq hl, F22_eq hl hm]
  simp only [Option.bind_some]
  cases decide ((found g l).1.leader_ = []) <;> rfl

theorem F20_refl (u : User) (h : u.members_.length ≤ 4611686018427387904) : F20 u u = some true := by
  unfold F20
  simp only [decide_true, Bool.not_true, Bool.or_self, cond_f]
  refine iter_big (body := F20_b1 u u) (fun i => ∃ j : Nat, i = j ∧ j ≤ u.members_.length) (fun i => u.members_.length - i.toNat) (fun _ => some true) (fun again i ⟨j, hi, hj⟩ ih => ?_) 0 ⟨0, rfl, Nat.zero_le _⟩ (by omega)
  subst hi
  rw [F20_b1]
  by_cases hlt : j < u.members_.length
  · rw [decide_eq_true (by omega), cond_t, lidx_at hlt]
    simp only [Option.bind_some, decide_true, Bool.not_true, cond_f]
    rw [wrap64 (by omega) (by omega)]
    exact ih _ ⟨j + 1, by simp, hlt⟩ (by omega)
  · rw [decide_eq_false (by omega)]
    rfl

theorem F27_refl (l : List User) (hl : l.length ≤ 4611686018427387904) (hm : ∀ u ∈ l, u.members_.length ≤ 4611686018427387904) : F27 l l = some true := by
  unfold F27
  simp only [decide_true, Bool.not_true, cond_f]
  refine iter_big (body := F27_b1 l l) (fun i => ∃ j : Nat, i = j ∧ j ≤ l.length) (fun i => l.length - i.toNat) (fun _ => some true) (fun again i ⟨j, hi, hj⟩ ih => ?_) 0 ⟨0, rfl, Nat.zero_le _⟩ (by omega)
  subst hi
  rw [F27_b1]
  by_cases hlt : j < l.length
  · rw [decide_eq_true (by omega), cond_t, lidx_at hlt]
    simp only [Option.bind_some, F20_refl _ (hm _ (List.getElem_mem hlt)), Bool.not_true, cond_f]
    rw [wrap64 (by omega) (by omega)]
    exact ih _ ⟨j + 1, by simp, hlt⟩ (by omega)
  · rw [decide_eq_false (by omega)]
    rfl

theorem F10_eq : F10 = some true := by kernel_rfl

/-! ### Valid lists -/

def good (u : User) : Prop := valid u.name_ = true ∧ (u.leader_ = [] ∨ valid u.leader_ = true) ∧ ∀ m ∈ u.members_, valid m = true

theorem checkL_err {all : List User} : ∀ (us pre : List User), checkL all pre us = 0 → ∀ (a b : List User) (u : User), us = a ++ u :: b → err all (pre ++ a) u = 0
  | [], _, _, a, b, u, h => by simp at h
  | x :: us, pre, h, a, b, u, hu => by
    simp only [checkL] at h
    by_cases hz : err all pre x = 0
    · rw [decide_eq_true hz] at h
      simp only [Bool.not_true, cond_f] at h
      cases a with
      | nil =>
        simp only [List.nil_append, List.cons.injEq] at hu
        obtain ⟨rfl, _⟩ := hu
        simpa using hz
      | cons y a =>
        simp only [List.cons_append, List.cons.injEq] at hu
        obtain ⟨rfl, hu⟩ := hu
        have := checkL_err us (pre ++ [x]) h a b u hu
        simpa using this
    · rw [decide_eq_false hz] at h
      exact absurd h hz

theorem check_err {l : List User} (h : check l = 0) {a b : List User} {u : User} (hu : l = a ++ u :: b) : err l a u = 0 := by
  unfold check at h
  cases hc : decide (64 < (l.length : Int)) with
  | true => rw [hc] at h; cases h
  | false =>
    rw [hc, cond_f] at h
    simpa using checkL_err l [] h a b u hu

theorem err_zero {all pre : List User} {u : User} (h : err all pre u = 0) : valid u.name_ = true ∧ has pre u.name_ = false ∧ (u.leader_ = [] ∨ has all u.leader_ = true) ∧ memOk all u.members_ = true := by
  unfold err at h
  cases h1 : valid u.name_ with
  | false => rw [h1] at h; cases h
  | true =>
    cases h2 : has pre u.name_ with
    | true => rw [h1, h2] at h; cases h
    | false =>
      cases h3 : (!decide (u.leader_ = []) && !has all u.leader_) with
      | true => rw [h1, h2, h3] at h; cases h
      | false =>
        cases h4 : memOk all u.members_ with
        | false => rw [h1, h2, h3, h4] at h; cases h
        | true =>
          refine ⟨rfl, rfl, ?_, rfl⟩
          simp only [Bool.and_eq_false_iff, Bool.not_eq_false', decide_eq_true_eq] at h3
          exact h3

theorem memR_all {f : Str → Bool} : ∀ {p : Option Str} {ws : List Str}, memR f p ws = true → ∀ w ∈ ws, f w = true
  | _, [], _, w, hw => by cases hw
  | p, x :: ws, h, w, hw => by
    simp only [memR, Bool.and_eq_true] at h
    rcases List.mem_cons.1 hw with rfl | hw
    · exact h.1.1
    · exact memR_all h.2 w hw

theorem check_good {l : List User} (h : check l = 0) {u : User} (hu : u ∈ l) : good u := by
  have hv : ∀ v ∈ l, valid v.name_ = true := fun v hv => by
    obtain ⟨a, b, hab⟩ := List.append_of_mem hv
    exact (err_zero (check_err h hab)).1
  have hh : ∀ s, has l s = true → valid s = true := fun s hs => by
    obtain ⟨v, hvl, hvs⟩ := List.any_eq_true.1 hs
    rw [← of_decide_eq_true hvs]
    exact hv v hvl
  obtain ⟨a, b, hab⟩ := List.append_of_mem hu
  obtain ⟨h1, _, h3, h4⟩ := err_zero (check_err h hab)
  exact ⟨h1, h3.imp id (hh _), fun m hm => hh m (memR_all h4 m hm)⟩

def lineB (u : User) : Str := u.name_ ++ 58 :: (u.leader_ ++ 58 :: joinC u.members_)

theorem lineT_eq (u : User) : lineT u = lineB u ++ [10] := by simp [lineT, lineB]

theorem joinC_chars {ws : List Str} {c : UInt8} (h : c ∈ joinC ws) : c = 44 ∨ ∃ w ∈ ws, c ∈ w := by
  cases ws with
  | nil => cases h
  | cons x r =>
    rw [joinC_cons] at h
    rcases List.mem_append.1 h with h | h
    · exact .inr ⟨x, by simp, h⟩
    · obtain ⟨w, hw, hc⟩ := List.mem_flatMap.1 h
      rcases List.mem_cons.1 hc with h | h
      · exact .inl h
      · exact .inr ⟨w, by simp [hw], h⟩

theorem good_leader {u : User} (h : good u) {c : UInt8} (hc : c ∈ u.leader_) : c ≠ 58 ∧ c ≠ 44 ∧ c ≠ 10 := by
  rcases h.2.1 with h1 | h1
  · rw [h1] at hc
    cases hc
  · exact valid_chars h1 hc

theorem good_join {u : User} (h : good u) {c : UInt8} (hc : c ∈ joinC u.members_) : c ≠ 58 ∧ c ≠ 10 := by
  rcases joinC_chars hc with rfl | ⟨w, hw, hc⟩
  · decide
  · have := valid_chars (h.2.2 w hw) hc
    exact ⟨this.1, this.2.2⟩

theorem lineB_free {u : User} (h : good u) : (10 : UInt8) ∉ lineB u := by
  intro hc
  unfold lineB at hc
  simp only [List.mem_append, List.mem_cons] at hc
  rcases hc with hc | hc | hc | hc | hc
  · exact (valid_chars h.1 hc).2.2 rfl
  · cases hc
  · exact (good_leader h hc).2.2 rfl
  · cases hc
  · exact (good_join h hc).2 rfl

theorem lineU_lineB {u : User} (h : good u) : lineU (lineB u) = (u, true) := by
  have h1 : (58 : UInt8) ∉ u.name_ := fun hc => (valid_chars h.1 hc).1 rfl
  have h2 : (58 : UInt8) ∉ u.leader_ := fun hc => (good_leader h hc).1 rfl
  have h3 : (58 : UInt8) ∉ joinC u.members_ := fun hc => (good_join h hc).1 rfl
  have hp : parts 58 (lineB u) = [u.name_, u.leader_, joinC u.members_] := by
    unfold lineB
    rw [parts_cut _ _ h1, parts_cut _ _ h2, parts_free _ h3]
  unfold lineU
  rw [hp]
  simp only
  cases hm : u.members_ with
  | nil =>
    obtain ⟨n, l, ms⟩ := u
    simp only at hm
    subst hm
    rfl
  | cons x r =>
    have hx : valid x = true := h.2.2 x (by rw [hm]; simp)
    have hne : joinC (x :: r) ≠ [] := by
      rw [joinC_cons]
      intro e
      have := List.append_eq_nil_iff.1 e
      exact valid_ne hx this.1
    have hparts : parts 44 (joinC (x :: r)) = x :: r := by
      rw [joinC_glue]
      exact parts_join x r fun w hw hc => (valid_chars (h.2.2 w (by rw [hm]; exact hw)) hc).2.1 rfl
    rw [if_neg hne, hparts]
    have hany : ((x :: r).any fun m => decide (m = [])) = false := List.any_eq_false.2 fun w hw => by
      have := valid_ne (h.2.2 w (by rw [hm]; exact hw))
      simpa using this
    rw [hany, ← hm]
    rfl

theorem plines_text : ∀ (us : List User) (n : Int) (acc : List User), (∀ u ∈ us, good u) → ∃ k, plines (parts 10 (text us)) n acc = fin k (acc ++ us)
  | [], n, acc, _ => ⟨n, by simp [text, parts, plines]⟩
  | u :: us, n, acc, h => by
    have hu := h u (by simp)
    have hp : parts 10 (text (u :: us)) = lineB u :: parts 10 (text us) := by
      rw [text_cons, lineT_eq, List.append_assoc]
      exact parts_cut _ _ (lineB_free hu)
    have hne : parts 10 (text us) ≠ [] := by
      obtain ⟨p, ps, e⟩ := parts_ne 10 (text us)
      rw [e]
      simp
    obtain ⟨k, hk⟩ := plines_text us (n + 1) (acc ++ [u]) fun v hv => h v (by simp [hv])
    refine ⟨k, ?_⟩
    rw [hp, plines_cons hne, lineU_lineB hu, if_pos rfl, hk]
    simp

theorem parse_text {l : List User} (h : check l = 0) : parse (text l) = (l, 0, 0) := by
  obtain ⟨k, hk⟩ := plines_text l 0 [] fun u hu => check_good h hu
  unfold parse
  rw [hk]
  simp [fin, h]

theorem lineB_lineU {x : Str} {u : User} (h : lineU x = (u, true)) : lineB u = x := by
  have hg := glue_parts 58 x
  unfold lineU at h
  split at h
  · rename_i a b c hq
    rw [hq] at hg
    have hx : a ++ 58 :: (b ++ 58 :: c) = x := by simpa [glue] using hg
    split at h
    · rename_i hc
      cases h
      subst hc
      exact hx
    · simp only [Prod.mk.injEq] at h
      obtain ⟨rfl, _⟩ := h
      unfold lineB
      simp only
      rw [joinC_glue, glue_parts]
      exact hx
  · cases h

theorem plines_back : ∀ (ps : List Str) (n : Int) (acc l : List User) (i e : Int), ps ≠ [] → plines ps n acc = (l, i, e) →
    (e ≠ 0 → l = []) ∧ (e = 0 → ∃ us, l = acc ++ us ∧ glue 10 ps = text us ∧ check l = 0 ∧ ∀ u ∈ us, ∃ x ∈ ps, ∃ b, lineU x = (u, b))
  | [], _, _, _, _, _, h, _ => absurd rfl h
  | [x], n, acc, l, i, e, _, h => by
    simp only [plines] at h
    by_cases hx : x = []
    · rw [if_pos hx] at h
      unfold fin at h
      by_cases hc : check acc = 0
      · rw [decide_eq_true hc] at h
        simp only [Bool.not_true, cond_f, Prod.mk.injEq] at h
        obtain ⟨rfl, rfl, rfl⟩ := h
        exact ⟨fun h => absurd rfl h, fun _ => ⟨[], by simp, by simp [glue, hx, text], hc, fun u hu => by cases hu⟩⟩
      · rw [decide_eq_false hc] at h
        simp only [Bool.not_false, cond_t, Prod.mk.injEq] at h
        obtain ⟨rfl, rfl, rfl⟩ := h
        exact ⟨fun _ => rfl, fun h => absurd h hc⟩
    · rw [if_neg hx] at h
      simp only [Prod.mk.injEq] at h
      obtain ⟨rfl, rfl, rfl⟩ := h
      exact ⟨fun _ => rfl, fun h => absurd h (by decide)⟩
  | x :: y :: r, n, acc, l, i, e, _, h => by
    simp only [plines] at h
    by_cases hx : (lineU x).2 = true
    · rw [if_pos hx] at h
      obtain ⟨h1, h2⟩ := plines_back (y :: r) (n + 1) (acc ++ [(lineU x).1]) l i e (by simp) h
      refine ⟨h1, fun he => ?_⟩
      obtain ⟨us, h3, h4, h5, h6⟩ := h2 he
      have hu : lineU x = ((lineU x).1, true) := by rw [← hx]
      refine ⟨(lineU x).1 :: us, by simp [h3], ?_, h5, fun u hm => ?_⟩
      · rw [glue, h4, text_cons, lineT_eq, lineB_lineU hu]
        simp
      · rcases List.mem_cons.1 hm with rfl | hm
        · exact ⟨x, by simp, true, hu⟩
        · obtain ⟨z, hz, hb⟩ := h6 u hm
          exact ⟨z, by simp at hz ⊢; exact .inr hz, hb⟩
    · rw [if_neg hx] at h
      simp only [Prod.mk.injEq] at h
      obtain ⟨rfl, rfl, rfl⟩ := h
      exact ⟨fun _ => rfl, fun h => absurd h (by decide)⟩

theorem find_self {l a b : List User} {u : User} (hl : l = a ++ u :: b) (h : has a u.name_ = false) : findL u.name_ l = some u := by
  subst hl
  induction a with
  | nil => simp [findL]
  | cons x a ih =>
    simp only [has, List.any_cons, Bool.or_eq_false_iff] at h
    simp only [List.cons_append, findL, h.1, cond_f]
    exact ih h.2

/-! ### The laws -/

theorem members_small {l : List User} (h : small l = true) : l.length ≤ 4611686018427387904 ∧ ∀ u ∈ l, u.members_.length ≤ 4294967296 := by
  obtain ⟨h1, h2⟩ := small_len h
  exact ⟨by omega, fun u hu => by have := (smallL_mem h2 u hu).1; omega⟩

theorem law3 (s : Str) : F3 s = some true := by
  unfold F3
  rw [F10_eq, F11_eq, F12_eq]
  cases decide (2000 < (s.length : Int)) with
  | true => rfl
  | false => simp [guardO_true]

theorem law4 (l : List User) : F4 l = some true := by
  unfold F4
  rw [F13_eq, F10_eq]
  simp only [Option.bind_some]
  cases h : small l with
  | false => rfl
  | true =>
    obtain ⟨h1, h2⟩ := small_ok h
    rw [F14_eq h1 (by omega), F15_eq h1 h2, F16_eq h1, F17_eq h1]
    simp [guardO_true]

theorem law5 (l : List User) (n g : Str) : F5 l n g = some true := by
  unfold F5
  rw [F13_eq, F10_eq]
  simp only [Option.bind_some]
  cases h : small l with
  | false => rfl
  | true =>
    cases h2 : ((!true || decide (2000 < (n.length : Int))) || decide (2000 < (g.length : Int))) with
    | true => rfl
    | false =>
      obtain ⟨h3, h4⟩ := members_small h
      have hf : (found n l).1.members_.length ≤ 4611686018427387904 := by
        unfold found
        cases hf : findL n l with
        | none => simp
        | some x => have := h4 x (findL_mem hf).1; simp only; omega
      rw [cond_f, F18_eq h3 h4, F19_eq h3, F21_eq h3 h4, F22_eq h3 h4, F23_eq h3 h4, F24_eq h3 h4, F21_eq h3 h4]
      simp only [Option.bind_some, F20_refl _ hf, beq_self_eq_true, Bool.and_self, guardO_true]
      simp [member, guardO_true]

theorem law6 (s : Str) : F6 s = some true := by
  unfold F6
  rw [F10_eq]
  cases h : decide (3000 < (s.length : Int)) with
  | true => rfl
  | false =>
    simp only [decide_eq_false_iff_not] at h
    rw [cond_f, F25_eq (by omega), F26_eq (by omega)]
    simp only [Option.bind_some]
    obtain ⟨l, i, e, hp⟩ : ∃ l i e, parse s = (l, i, e) := ⟨_, _, _, rfl⟩
    have hs : l.length ≤ 4611686018427387904 ∧ ∀ u ∈ l, u.members_.length ≤ 4611686018427387904 := by
      obtain ⟨p, ps, hq⟩ := parts_ne 10 s
      obtain ⟨h1, h2⟩ := plines_back (parts 10 s) 0 [] l i e (by rw [hq]; simp) hp
      by_cases he : e = 0
      · obtain ⟨us, h3, h4, h5, h6⟩ := h2 he
        simp only [List.nil_append] at h3
        subst h3
        refine ⟨?_, fun u hu => ?_⟩
        · have : ¬ 64 < (l.length : Int) := fun hc => by simp [check, hc] at h5
          omega
        · obtain ⟨x, hx, b, hxb⟩ := h6 u hu
          have := (lineU_members u b hxb).1
          have := parts_mem_len 10 s x hx
          omega
      · rw [h1 he]
        exact ⟨Nat.zero_le _, fun u hu => by cases hu⟩
    rw [hp]
    simp only [F27_refl l hs.1 hs.2, Option.bind_some, decide_true, Bool.and_self, guardO_true]

theorem law7 (l : List User) : F7 l = some true := by
  unfold F7
  rw [F13_eq, F10_eq]
  simp only [Option.bind_some]
  cases h : small l with
  | false => rfl
  | true =>
    obtain ⟨h1, h2⟩ := small_ok h
    obtain ⟨h3, h4⟩ := small_len h
    rw [F14_eq h1 (by omega), F16_eq h1]
    simp only [Option.bind_some, Bool.not_true, cond_f, print]
    by_cases hc : check l = 0
    · rw [decide_eq_true hc]
      simp only [Bool.not_true, cond_f, decide_true]
      have hb := text_bound l h4
      rw [F25_eq (by omega), parse_text hc]
      simp only [Option.bind_some, F27_refl l (by omega) h1, decide_true, Bool.and_self, guardO_true]
    · rw [decide_eq_false hc]
      simp only [Bool.not_false, cond_t, decide_true, guardO_true, Option.bind_some, decide_eq_false hc, Bool.and_self]

theorem law8 (s : Str) : F8 s = some true := by
  unfold F8
  rw [F10_eq]
  cases h : decide (3000 < (s.length : Int)) with
  | true => rfl
  | false =>
    simp only [decide_eq_false_iff_not] at h
    rw [cond_f, F25_eq (by omega)]
    simp only [Option.bind_some]
    obtain ⟨l, i, e, hp⟩ : ∃ l i e, parse s = (l, i, e) := ⟨_, _, _, rfl⟩
    obtain ⟨p, ps, hq⟩ := parts_ne 10 s
    obtain ⟨h1, h2⟩ := plines_back (parts 10 s) 0 [] l i e (by rw [hq]; simp) hp
    rw [hp]
    simp only
    by_cases he : e = 0
    · obtain ⟨us, h3, h4, h5, h6⟩ := h2 he
      simp only [List.nil_append] at h3
      subst h3
      have hm : ∀ u ∈ l, u.members_.length ≤ 4611686018427387904 := fun u hu => by
        obtain ⟨x, hx, b, hxb⟩ := h6 u hu
        have := (lineU_members u b hxb).1
        have := parts_mem_len 10 s x hx
        omega
      have ht : text l = s := by rw [← h4, glue_parts]
      rw [decide_eq_true he, F14_eq hm (by rw [ht]; omega), F16_eq hm]
      simp only [Bool.not_true, cond_f, Option.bind_some, print, h5, decide_true, ht, Bool.and_self, guardO_true]
    · rw [decide_eq_false he, h1 he]
      rfl

theorem law9 (l : List User) (k : Int) (n : Str) : F9 l k n = some true := by
  unfold F9
  rw [F13_eq, F10_eq]
  simp only [Option.bind_some]
  cases h : (((!small l || decide (2000 < (n.length : Int))) || decide (k < 0)) || decide ((l.length : Int) ≤ k)) with
  | true => rfl
  | false =>
    simp only [Bool.or_eq_false_iff, Bool.not_eq_false', decide_eq_false_iff_not] at h
    obtain ⟨⟨⟨hs, _⟩, hk0⟩, hk⟩ := h
    obtain ⟨h1, h2⟩ := small_ok hs
    obtain ⟨h3, h4⟩ := members_small hs
    rw [F16_eq h1]
    simp only [Bool.not_false, guardO_true, Option.bind_some, Bool.false_or]
    by_cases hc : check l = 0
    · rw [decide_eq_true hc]
      simp only [Bool.not_true, cond_f]
      obtain ⟨j, rfl⟩ : ∃ j : Nat, k = j := ⟨k.toNat, by omega⟩
      have hj : j < l.length := by omega
      have hsplit : l = l.take j ++ l[j] :: l.drop (j + 1) := by rw [← drop_at hj, List.take_append_drop]
      obtain ⟨_, h6, _, _⟩ := err_zero (check_err hc hsplit)
      have hfind := find_self hsplit h6
      have hfound : found l[j].name_ l = (l[j], true) := by
        unfold found
        rw [hfind]
      rw [lidx_at hj]
      simp only [Option.bind_some, F23_eq h3 h4, F21_eq h3 h4, leads, hfound]
      by_cases hl : l[j].leader_ = []
      · rw [decide_eq_true hl]
        simp only [Bool.not_true, cond_f, beq_self_eq_true, guardO_true, Option.bind_some, Bool.and_self]
      · rw [decide_eq_false hl]
        have e : decide (l[j].leader_ = n) = decide (n = l[j].leader_) := by
          rw [Bool.eq_iff_iff, decide_eq_true_eq, decide_eq_true_eq]
          exact eq_comm
        simp only [Bool.not_false, cond_t, e, beq_self_eq_true, guardO_true, Option.bind_some, Bool.and_self]
    · rw [decide_eq_false hc]
      rfl

end Go.Abs.U05
