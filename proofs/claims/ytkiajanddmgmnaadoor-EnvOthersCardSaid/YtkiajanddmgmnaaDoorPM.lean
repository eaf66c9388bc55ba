/- Layer 29: the plain laws: groups, variables, valid lists, Set and Get (PC, PD, PE, PF as one). -/
import Derived.Test.YtkiajanddmgmnaaDoorPB
import Derived.Test.YtkiajanddmgmnaaDoorTY
set_option linter.unusedVariables false
set_option linter.unusedSimpArgs false
namespace Go.Abs.U29
open Go

/-! ### the first of a list -/

/-- The index of the first that p holds of. -/
def ix {α : Type} (p : α → Bool) : List α → Option Nat
  | [] => none
  | x :: r => if p x = true then some 0 else (ix p r).map (· + 1)

def ixI {α : Type} (p : α → Bool) (l : List α) : Int := match ix p l with
  | some k => (k : Int)
  | none => -1

theorem ix_some {α : Type} {p : α → Bool} : ∀ {l : List α} {i : Nat}, ix p l = some i → ∃ h : i < l.length, p l[i] = true ∧ l.find? p = some l[i]
  | [], i, h => by cases h
  | x :: r, i, h => by
    unfold ix at h
    split at h
    · rename_i hx
      cases h
      exact ⟨by simp, hx, by simp [List.find?, hx]⟩
    · rename_i hx
      obtain ⟨k, hk, rfl⟩ := Option.map_eq_some_iff.1 h
      obtain ⟨h1, h2, h3⟩ := ix_some hk
      refine ⟨by simpa using h1, by simpa using h2, ?_⟩
      rw [List.find?_cons, (by simpa using hx : p x = false)]
      simpa using h3

theorem ix_none {α : Type} {p : α → Bool} : ∀ {l : List α}, ix p l = none → l.find? p = none
  | [], _ => rfl
  | x :: r, h => by
    unfold ix at h
    split at h
    · cases h
    · rename_i hx
      rw [List.find?_cons, (by simpa using hx : p x = false)]
      exact ix_none (Option.map_eq_none_iff.1 h)

theorem loop_ix {α : Type} (p : α → Bool) : ∀ (l : List α) (i : Int), loopR (fun x i k => bif p x then some i else k) (some (-1)) l i = some (match ix p l with | some k => i + k | none => -1)
  | [], i => rfl
  | x :: r, i => by
    rw [loopR, ix]
    cases hx : p x with
    | true => rw [cond_t, if_pos rfl]; simp
    | false =>
      rw [cond_f, if_neg (by decide), loop_ix p r (i + 1)]
      cases hr : ix p r with
      | none => rfl
      | some k =>
        show some (i + 1 + (k : Int)) = some (i + ((k + 1 : Nat) : Int))
        congr 1
        omega

theorem loop_ix0 {α : Type} (p : α → Bool) (l : List α) : loopR (fun x i k => bif p x then some i else k) (some (-1)) l 0 = some (ixI p l) := by
  rw [loop_ix, ixI]
  cases ix p l with
  | none => rfl
  | some k => simp

theorem find_set_at {α : Type} {p : α → Bool} {y : α} (hy : p y = true) : ∀ {l : List α} {i : Nat}, ix p l = some i → (l.set i y).find? p = some y
  | [], i, h => by cases h
  | x :: r, i, h => by
    unfold ix at h
    split at h
    · cases h
      rw [List.set_cons_zero, List.find?_cons, hy]
    · rename_i hx
      obtain ⟨k, hk, rfl⟩ := Option.map_eq_some_iff.1 h
      rw [List.set_cons_succ, List.find?_cons, (by simpa using hx : p x = false)]
      exact find_set_at hy hk

theorem find_set_other {α : Type} {q : α → Bool} {y : α} (hy : q y = false) : ∀ {l : List α} {i : Nat} (h : i < l.length), q l[i] = false → (l.set i y).find? q = l.find? q
  | x :: r, 0, h, hq => by
    simp only [List.getElem_cons_zero] at hq
    rw [List.set_cons_zero, List.find?_cons, List.find?_cons, hy, hq]
  | x :: r, i + 1, h, hq => by
    simp only [List.getElem_cons_succ] at hq
    rw [List.set_cons_succ, List.find?_cons, List.find?_cons, find_set_other hy (by simpa using h) hq]

theorem find_erase_other {α : Type} {q : α → Bool} : ∀ {l : List α} {i : Nat} (h : i < l.length), q l[i] = false → (l.eraseIdx i).find? q = l.find? q
  | x :: r, 0, h, hq => by
    simp only [List.getElem_cons_zero] at hq
    rw [List.eraseIdx_cons_zero, List.find?_cons, hq]
  | x :: r, i + 1, h, hq => by
    simp only [List.getElem_cons_succ] at hq
    rw [List.eraseIdx_cons_succ, List.find?_cons, List.find?_cons, find_erase_other (by simpa using h) hq]

/-! ### the loops that look for one -/

def idP (i : Int) : GEnv → Bool := fun g => decide (g.id_ = i)
def nmP (n : Str) : Var → Bool := fun v => decide (v.name_ = n)
def vidP (i : Int) : Var → Bool := fun v => decide (v.id_ = i)

theorem F81_is (l : List GEnv) (i : Int) (h : l.length ≤ maxLen) : F81 l i = some (ixI (idP i) l) := by
  unfold maxLen at h
  unfold F81
  rw [iter_range (body := F81_b1 l i) l (fun x i k => bif idP _ x then some i else k) (some (-1)) (fun _ _ => rfl) (by omega), loop_ix0]

theorem F43_is (l : List GEnv) (i : Int) (h : l.length ≤ maxLen) : F43 l i = some (ixI (idP i) l) := by
  unfold F43
  rw [F81_is l i h]
  rfl

theorem F83_is (l : List Var) (n : Str) (h : l.length ≤ maxLen) : F83 l n = some (ixI (nmP n) l) := by
  unfold maxLen at h
  unfold F83
  rw [iter_range (body := F83_b1 l n) l (fun x i k => bif nmP n x then some i else k) (some (-1)) (fun _ _ => rfl) (by omega), loop_ix0]

theorem F83x2_is (l : List Var) (n : Str) (h : l.length ≤ maxLen) : F83x2 l n = some (ixI (nmP n) l) := by
  unfold maxLen at h
  unfold F83x2
  rw [iter_range (body := F83x2_b1 l n) l (fun x i k => bif nmP n x then some i else k) (some (-1)) (fun _ _ => rfl) (by omega), loop_ix0]

theorem F41_is (g : GEnv) (n : Str) (h : g.vars_.length ≤ maxLen) : F41 g n = some (ixI (nmP n) g.vars_) := by
  unfold maxLen at h
  unfold F41
  rw [iter_range (body := F41_b1 g n) g.vars_ (fun x i k => bif nmP n x then some i else k) (some (-1)) (fun _ _ => rfl) (by omega), loop_ix0]

theorem F45_is (a b : Int) (n : Str) (l : List Var) (h : l.length ≤ maxLen) : F45 a b n l = some (ixI (nmP n) l) := by
  unfold F45
  rw [F83_is l n h]
  rfl

theorem F45x1_is (g : GEnv) (n : Str) (h : g.vars_.length ≤ maxLen) : F45x1 g n = some (ixI (nmP n) g.vars_) := by
  unfold F45x1
  rw [F83x2_is _ n h]
  rfl

/-! ### names -/

def badC (c : Int) : Bool := (decide (c < 33) || decide (126 < c)) || decide (c = 47)

/-- A name that is valid. -/
def vn (n : Str) : Bool := ((decide (1 ≤ (n.length : Int)) && decide ((n.length : Int) ≤ 64)) && !decide (n = [46]) && !decide (n = [46, 46])) && n.all fun c => !badC (B c)

theorem loop_bad (b : Bool) : ∀ (s : Str) (i : Int), loopR (fun c _ k => bif badC c then some false else k) (some b) (s.map B) i = some (b && s.all fun c => !badC (B c))
  | [], i => by simp [loopR]
  | x :: r, i => by
    rw [List.map_cons, loopR]
    cases hx : badC (B x) with
    | true => rw [cond_t, List.all_cons, hx]; simp
    | false => rw [cond_f, loop_bad b r (i + 1), List.all_cons, hx]; simp

theorem F40_is (n : Str) (h : n.length ≤ maxLen) : F40 n = some (vn n) := by
  unfold maxLen at h
  unfold F40
  rw [iter_rangeB (body := F40_b1 n) n (fun c _ k => bif badC c then some false else k) (some (((decide (1 ≤ (n.length : Int)) && decide ((n.length : Int) ≤ 64)) && !decide (n = [46])) && !decide (n = [46, 46]))) (fun _ _ => rfl) (by omega), loop_bad]
  rfl

theorem F44_is (n : Str) (h : n.length ≤ maxLen) : F44 n = some (vn n) := by
  unfold maxLen at h
  unfold F44 vn
  by_cases h1 : n = []
  · subst h1; rfl
  by_cases h2 : n = [46]
  · subst h2; rfl
  by_cases h3 : n = [46, 46]
  · subst h3; rfl
  have h0 : 1 ≤ n.length := by cases n with | nil => exact absurd rfl h1 | cons a b => simp
  by_cases h4 : 64 < n.length
  · rw [decide_eq_false h1, decide_eq_false h2, decide_eq_false h3, decide_eq_true (p := (64 : Int) < (n.length : Int)) (by omega), decide_eq_false (p := (n.length : Int) ≤ 64) (by omega)]
    simp
  · rw [decide_eq_false h1, decide_eq_false h2, decide_eq_false h3, decide_eq_false (p := (64 : Int) < (n.length : Int)) (by omega), decide_eq_true (p := (n.length : Int) ≤ 64) (by omega), decide_eq_true (p := (1 : Int) ≤ (n.length : Int)) (by omega)]
    simp only [Bool.or_self, cond_f]
    rw [iter_rangeB (body := F44_b1 n) n (fun c _ k => bif badC c then some false else k) (some true) (fun _ _ => rfl) (by omega), loop_bad]
    rfl

/-! ### copies -/

theorem F69_is (l : List Var) (h : l.length ≤ 1000000) (hv : ∀ v ∈ l, v.values_.length ≤ 1000000) : F69 l = some l := by
  unfold F69 L_CloneV
  rw [if_pos h, Option.bind_some]
  have hm : ∀ (n j : Nat), j ≤ l.length → l.length - j < n → iter (F69_b1 l) n ((j : Int), l) = some l := by
    intro n
    induction n with
    | zero => intro j _ h; omega
    | succ n ih =>
      intro j hj hn
      show F69_b1 l (iter (F69_b1 l) n) ((j : Int), l) = _
      unfold F69_b1
      simp only
      by_cases hlt : j < l.length
      · have := hv _ (List.getElem_mem hlt)
        rw [decide_eq_true (by omega), cond_t, lidx_at hlt, Option.bind_some, L_Clone, if_pos (by omega), Option.bind_some, wrap64 (by omega) (by omega)]
        have e : l.set (Int.toNat (j : Int)) (Var.mk l[j].id_ l[j].name_ l[j].values_) = l := by
          rw [Int.toNat_natCast]
          exact set_self (List.getElem?_eq_getElem hlt)
        rw [e, show ((j : Int) + 1) = ((j + 1 : Nat) : Int) by omega]
        exact ih (j + 1) (by omega) (by omega)
      · rw [decide_eq_false (by omega), cond_f]
  exact hm BIG 0 (Nat.zero_le _) (by unfold BIG; omega)

/-- A list of groups of bearable size. -/
def Bear (N : Nat) (l : List GEnv) : Prop := l.length ≤ N ∧ ∀ g ∈ l, g.vars_.length ≤ N ∧ ∀ v ∈ g.vars_, v.name_.length ≤ N ∧ v.values_.length ≤ N ∧ ∀ x ∈ v.values_, x.length ≤ N

theorem F42_is {l : List GEnv} (h : Bear 1000000 l) : F42 l = some (l, l.length) := by
  unfold F42 L_CloneE
  rw [if_pos h.1, Option.bind_some]
  have hl := h.1
  have hm : ∀ (n j : Nat), j ≤ l.length → l.length - j < n → iter (F42_b1 l) n ((j : Int), l, j) = some (l, l.length) := by
    intro n
    induction n with
    | zero => intro j _ h; omega
    | succ n ih =>
      intro j hj hn
      show F42_b1 l (iter (F42_b1 l) n) ((j : Int), l, j) = _
      unfold F42_b1
      simp only
      by_cases hlt : j < l.length
      · have hb := h.2 _ (List.getElem_mem hlt)
        rw [decide_eq_true (by omega), cond_t, lidx_at hlt, Option.bind_some, Int.toNat_natCast, eqO, if_pos rfl, Option.bind_some, F69_is _ hb.1 (fun v hv => (hb.2 v hv).2.1), Option.bind_some, wrap64 (by omega) (by omega)]
        have e : l.set j (GEnv.mk l[j].id_ l[j].next_ l[j].vars_) = l := set_self (List.getElem?_eq_getElem hlt)
        rw [e, show ((j : Int) + 1) = ((j + 1 : Nat) : Int) by omega]
        exact ih (j + 1) (by omega) (by omega)
      · obtain rfl : j = l.length := by omega
        rw [decide_eq_false (by omega), cond_f]
  exact hm BIG 0 (Nat.zero_le _) (by unfold BIG; omega)

theorem iter_listT {α S R : Type} {body : (S × Int → Option R) → S × Int → Option R} (l : List α) (G : α → Int → (S → Option R) → S → Option R) (fin : S → Option R)
    (hb : ∀ again (i : Nat) (h : i < l.length) s, body again (s, (i : Int)) = G l[i] i (fun s' => again (s', (i : Int) + 1)) s)
    (hf : ∀ again s, body again (s, (l.length : Int)) = fin s) (hl : l.length ≤ 9223372036854775807) (s : S) :
    iter body BIG (s, 0) = loopS G fin l 0 s := by
  have h : ∀ (n j : Nat) (s : S), j ≤ l.length → l.length - j < n → iter body n (s, (j : Int)) = loopS G fin (l.drop j) j s := by
    intro n
    induction n with
    | zero => intro j _ _ h; omega
    | succ n ih =>
      intro j s hj hn
      show body (iter body n) (s, j) = _
      by_cases hlt : j < l.length
      · rw [hb _ _ hlt, drop_at hlt]
        simp only [loopS]
        congr 1
        funext s'
        exact ih (j + 1) s' (by omega) (by omega)
      · obtain rfl : j = l.length := by omega
        rw [hf, List.drop_eq_nil_of_le (by omega)]
        rfl
  exact h BIG 0 s (Nat.zero_le _) (by unfold BIG; omega)

/-! ### small -/

/-- What a list's type says of its lengths. -/
def Wd (l : List GEnv) : Prop := l.length ≤ maxLen ∧ ∀ g ∈ l, g.vars_.length ≤ maxLen ∧ ∀ v ∈ g.vars_, v.name_.length ≤ maxLen ∧ v.values_.length ≤ maxLen

def svB (v : Var) : Bool := decide ((tot v.values_ : Int) ≤ 70000) && decide (v.values_.length ≤ 400) && decide ((v.name_.length : Int) ≤ 1000)

theorem inner14 (k : Option Bool) : ∀ (vs : List Var) (i : Int), (∀ v ∈ vs, v.values_.length ≤ maxLen) →
    loopR (fun v _ k => (F7 v.values_ 70000).bind fun b => bif (!b || decide (1000 < (v.name_.length : Int))) then some false else k) k vs i = bif vs.all svB then k else some false
  | [], i, _ => rfl
  | v :: r, i, h => by
    rw [loopR, F7_is _ (h v (by simp)), Option.bind_some, List.all_cons, inner14 k r (i + 1) fun x hx => h x (by simp [hx]), svB]
    by_cases h1 : (v.name_.length : Int) ≤ 1000
    · rw [decide_eq_true h1, decide_eq_false (p := (1000 : Int) < (v.name_.length : Int)) (by omega), Bool.or_false, Bool.and_true]
      cases (decide ((tot v.values_ : Int) ≤ 70000) && decide (v.values_.length ≤ 400)) <;> rfl
    · rw [decide_eq_false h1, decide_eq_true (p := (1000 : Int) < (v.name_.length : Int)) (by omega), Bool.or_true, Bool.and_false]
      rfl

theorem loop14 : ∀ (l : List GEnv) (i n : Int), ∃ b, loopS (fun (g : GEnv) _ (k : Int → Option Bool) (n : Int) => bif decide (200 < IntKind.wrap .i64 (n + (g.vars_.length : Int))) then some false else bif g.vars_.all svB then k (IntKind.wrap .i64 (n + (g.vars_.length : Int))) else some false) (fun _ => some true) l i n = some b ∧ (b = true → ∀ g ∈ l, g.vars_.all svB = true)
  | [], i, n => ⟨true, rfl, fun _ g hg => by cases hg⟩
  | g :: r, i, n => by
    rw [loopS]
    cases decide (200 < IntKind.wrap .i64 (n + (g.vars_.length : Int))) with
    | true => exact ⟨false, rfl, fun h => by cases h⟩
    | false =>
      cases hg : g.vars_.all svB with
      | false => exact ⟨false, rfl, fun h => by cases h⟩
      | true =>
        obtain ⟨b, h1, h2⟩ := loop14 r (i + 1) (IntKind.wrap .i64 (n + (g.vars_.length : Int)))
        refine ⟨b, h1, fun hb x hx => ?_⟩
        rcases List.mem_cons.1 hx with rfl | hx
        · exact hg
        · exact h2 hb x hx

theorem F14_is {l : List GEnv} (h : Wd l) : ∃ b, F14 l = some b ∧ (b = true → l.length ≤ 70 ∧ ∀ g ∈ l, ∀ v ∈ g.vars_, svB v = true) := by
  have hl := h.1
  unfold maxLen at hl
  unfold F14
  by_cases h1 : l.length ≤ 70
  · rw [decide_eq_false (by omega), cond_f]
    rw [iter_listT (body := F14_b2 l) l (fun (g : GEnv) _ (k : Int → Option Bool) (n : Int) => bif decide (200 < IntKind.wrap .i64 (n + (g.vars_.length : Int))) then some false else bif g.vars_.all svB then k (IntKind.wrap .i64 (n + (g.vars_.length : Int))) else some false) (fun _ => some true) ?_ ?_ (by omega)]
    · obtain ⟨b, q1, q2⟩ := loop14 l 0 0
      exact ⟨b, q1, fun hb => ⟨h1, fun g hg => List.all_eq_true.1 (q2 hb g hg)⟩⟩
    · intro again i hi n
      have hg := h.2 _ (List.getElem_mem hi)
      have hm := hg.1
      unfold maxLen at hm
      unfold F14_b2
      simp only
      rw [decide_eq_true (by omega), cond_t, lidx_at hi, Option.bind_some]
      congr 1
      rw [iter_range (body := F14_b3 l[i] again n i) l[i].vars_ (fun v _ k => (F7 v.values_ 70000).bind fun b => bif (!b || decide (1000 < (v.name_.length : Int))) then some false else k) (again (IntKind.wrap .i64 (n + (l[i].vars_.length : Int)), IntKind.wrap .i64 ((i : Int) + 1))) (fun _ _ => rfl) (by omega),
        inner14 _ _ _ (fun v hv => (hg.2 v hv).2), wrap64 (n := (i : Int) + 1) (by omega) (by omega)]
    · intro again n
      unfold F14_b2
      simp only
      rw [decide_eq_false (by omega), cond_f]
  · rw [decide_eq_true (by omega), cond_t]
    exact ⟨false, rfl, fun hb => by cases hb⟩

/-! ### valid lists -/

def okV (g : GEnv) (k : Nat) : Bool :=
  decide ((enc (g.vars_.getD k default).values_).2 = 0) && vn (g.vars_.getD k default).name_ && decide (ixI (nmP (g.vars_.getD k default).name_) g.vars_ = (k : Int)) &&
    !decide ((g.vars_.getD k default).id_ < 2) && !decide (g.next_ ≤ (g.vars_.getD k default).id_) && !(decide (0 < (k : Int)) && decide ((g.vars_.getD k default).id_ ≤ (g.vars_.getD (k - 1) default).id_))

def okE (l : List GEnv) (i : Nat) : Bool :=
  !(decide ((l.getD i default).id_ < 1) || decide (1099511627776 < (l.getD i default).id_)) && !(decide (0 < (i : Int)) && decide ((l.getD i default).id_ ≤ (l.getD (i - 1) default).id_)) &&
    !decide ((l.getD i default).next_ < 2) && !decide (1048576 < (l.getD i default).next_) && !decide (64 < ((l.getD i default).vars_.length : Int)) && (List.range' 0 (l.getD i default).vars_.length).all (okV (l.getD i default))

def right (l : List GEnv) : Bool := !decide (64 < (l.length : Int)) && (List.range' 0 l.length).all (okE l)

theorem getD_at {α : Type} {l : List α} {d : α} {j : Nat} (h : j < l.length) : l.getD j d = l[j] := by rw [List.getD_eq_getElem?_getD, List.getElem?_eq_getElem h]; rfl

theorem b3_is {g : GEnv} {again5 : Int → Option Bool} {i4 : Int} {again17 : Int → Option Bool} {j : Nat} (hlt : j < g.vars_.length) (hm : g.vars_.length ≤ 1000000)
    (hn : g.vars_[j].name_.length ≤ 1000000) (hv : g.vars_[j].values_.length ≤ 1000000) (hx : ∀ x ∈ g.vars_[j].values_, x.length ≤ 1000000) :
    F16_b3 g again5 i4 again17 (j : Int) = bif okV g j then again17 ((j + 1 : Nat) : Int) else some false := by
  unfold F16_b3 okV
  rw [decide_eq_true (by omega), cond_t, lidx_at hlt, Option.bind_some, F10_is hv hx, Option.bind_some, getD_at hlt, F40_is _ (by unfold maxLen; omega), F41_is _ _ (by unfold maxLen; omega), wrap64 (n := (j : Int) + 1) (by omega) (by omega)]
  simp only
  have hprev : 0 < j → lidx g.vars_ (IntKind.wrap .i64 ((j : Int) - 1)) = some (g.vars_.getD (j - 1) default) := fun h0 => by
    rw [wrap64 (by omega) (by omega), show ((j : Int) - 1) = ((j - 1 : Nat) : Int) by omega, lidx_at (by omega), getD_at (by omega)]
  rw [show ((j : Int) + 1) = ((j + 1 : Nat) : Int) by omega]
  cases decide ((enc g.vars_[j].values_).2 = 0) with
  | false => simp [guardO]
  | true =>
    cases vn g.vars_[j].name_ with
    | false => simp [guardO]
    | true =>
      simp only [Bool.not_true, Bool.or_self, Bool.not_false, guardO_true, Option.bind_some, Bool.false_or, Bool.true_and]
      cases decide (ixI (nmP g.vars_[j].name_) g.vars_ = (j : Int)) with
      | false => simp [guardO]
      | true =>
        cases decide (g.vars_[j].id_ < 2) with
        | true => simp [guardO]
        | false =>
          cases decide (g.next_ ≤ g.vars_[j].id_) with
          | true => simp [guardO]
          | false =>
            by_cases h0 : 0 < j
            · rw [decide_eq_true (p := (0 : Int) < (j : Int)) (by omega), hprev h0]
              simp only [Bool.not_true, Bool.or_self, Bool.not_false, guardO_true, Option.bind_some, Bool.false_or, Bool.true_and, Bool.and_true]
              cases decide (g.vars_[j].id_ ≤ (g.vars_.getD (j - 1) default).id_) <;> rfl
            · rw [decide_eq_false (p := (0 : Int) < (j : Int)) (by omega)]
              simp [guardO]

theorem inner16 {g : GEnv} {again5 : Int → Option Bool} {i4 : Int} (hm : g.vars_.length ≤ 1000000) (hv : ∀ v ∈ g.vars_, v.name_.length ≤ 1000000 ∧ v.values_.length ≤ 1000000 ∧ ∀ x ∈ v.values_, x.length ≤ 1000000) :
    iter (F16_b3 g again5 i4) BIG 0 = bif (List.range' 0 g.vars_.length).all (okV g) then again5 (IntKind.wrap .i64 (i4 + 1)) else some false := by
  have h : ∀ (n j m : Nat), j + m = g.vars_.length → m < n → iter (F16_b3 g again5 i4) n (j : Int) = bif (List.range' j m).all (okV g) then again5 (IntKind.wrap .i64 (i4 + 1)) else some false := by
    intro n
    induction n with
    | zero => intro j m _ h; omega
    | succ n ih =>
      intro j m hj hn
      show F16_b3 g again5 i4 (iter (F16_b3 g again5 i4) n) j = _
      cases m with
      | zero =>
        unfold F16_b3
        rw [decide_eq_false (by omega), cond_f]
        rfl
      | succ m =>
        have hlt : j < g.vars_.length := by omega
        have hb := hv _ (List.getElem_mem hlt)
        rw [b3_is hlt hm hb.1 hb.2.1 hb.2.2, List.range'_succ, List.all_cons]
        cases okV g j with
        | false => rfl
        | true =>
          rw [cond_t, Bool.true_and]
          exact ih (j + 1) m (by omega) (by omega)
  exact h BIG 0 _ (Nat.zero_add _) (by unfold BIG; omega)

theorem b2_is {l : List GEnv} {again5 : Int → Option Bool} {j : Nat} (hlt : j < l.length) (hl : l.length ≤ 1000000)
    (hv : ∀ v ∈ l[j].vars_, v.name_.length ≤ 1000000 ∧ v.values_.length ≤ 1000000 ∧ ∀ x ∈ v.values_, x.length ≤ 1000000) :
    F16_b2 l again5 (j : Int) = bif okE l j then again5 ((j + 1 : Nat) : Int) else some false := by
  unfold F16_b2 okE
  rw [decide_eq_true (by omega), cond_t, lidx_at hlt, Option.bind_some, getD_at hlt]
  have hprev : 0 < j → lidx l (IntKind.wrap .i64 ((j : Int) - 1)) = some (l.getD (j - 1) default) := fun h0 => by
    rw [wrap64 (by omega) (by omega), show ((j : Int) - 1) = ((j - 1 : Nat) : Int) by omega, lidx_at (by omega), getD_at (by omega)]
  cases decide (l[j].id_ < 1) || decide (1099511627776 < l[j].id_) with
  | true => simp [guardO]
  | false =>
    have hg : ∃ p, guardO (!false && decide (0 < (j : Int))) (lidx l (IntKind.wrap .i64 ((j : Int) - 1))) = some p ∧ (decide (0 < (j : Int)) && decide (l[j].id_ ≤ p.id_)) = (decide (0 < (j : Int)) && decide (l[j].id_ ≤ (l.getD (j - 1) default).id_)) := by
      by_cases h0 : 0 < j
      · rw [decide_eq_true (p := (0 : Int) < (j : Int)) (by omega), hprev h0]
        exact ⟨_, rfl, rfl⟩
      · rw [decide_eq_false (p := (0 : Int) < (j : Int)) (by omega)]
        exact ⟨_, rfl, rfl⟩
    obtain ⟨p, h1, h2⟩ := hg
    rw [h1, Option.bind_some, h2]
    cases decide (0 < (j : Int)) && decide (l[j].id_ ≤ (l.getD (j - 1) default).id_) with
    | true => rfl
    | false =>
      cases decide (l[j].next_ < 2) with
      | true => rfl
      | false =>
        cases decide (1048576 < l[j].next_) with
        | true => rfl
        | false =>
          by_cases h4 : 64 < l[j].vars_.length
          · rw [decide_eq_true (p := (64 : Int) < (l[j].vars_.length : Int)) (by omega)]; rfl
          · rw [decide_eq_false (p := (64 : Int) < (l[j].vars_.length : Int)) (by omega)]
            simp only [Bool.or_self, cond_f, Bool.not_false, Bool.true_and]
            rw [inner16 (by omega) hv, wrap64 (by omega) (by omega)]
            rfl

theorem F16_is {l : List GEnv} (hv : ∀ g ∈ l, ∀ v ∈ g.vars_, v.name_.length ≤ 1000000 ∧ v.values_.length ≤ 1000000 ∧ ∀ x ∈ v.values_, x.length ≤ 1000000) : F16 l = some (right l) := by
  unfold F16 right
  by_cases hl : 64 < l.length
  · rw [decide_eq_true (by omega), cond_t]; rfl
  · rw [decide_eq_false (by omega), cond_f, Bool.not_false, Bool.true_and]
    have h : ∀ (n j m : Nat), j + m = l.length → m < n → iter (F16_b2 l) n (j : Int) = some ((List.range' j m).all (okE l)) := by
      intro n
      induction n with
      | zero => intro j m _ h; omega
      | succ n ih =>
        intro j m hj hn
        show F16_b2 l (iter (F16_b2 l) n) j = _
        cases m with
        | zero =>
          unfold F16_b2
          rw [decide_eq_false (by omega), cond_f]
          rfl
        | succ m =>
          have hlt : j < l.length := by omega
          rw [b2_is hlt (by omega) (hv _ (List.getElem_mem hlt)), List.range'_succ, List.all_cons]
          cases okE l j with
          | false => rfl
          | true =>
            rw [cond_t, Bool.true_and]
            exact ih (j + 1) m (by omega) (by omega)
    exact h BIG 0 _ (Nat.zero_add _) (by unfold BIG; omega)

theorem mem_range0 {n k : Nat} (h : k < n) : k ∈ List.range' 0 n := by
  rw [List.mem_range']
  exact ⟨k, h, by omega⟩

/-- What a valid list has. -/
theorem right_of {l : List GEnv} (h : right l = true) : l.length ≤ 64 ∧ ∀ g ∈ l, 2 ≤ g.next_ ∧ g.next_ ≤ 1048576 ∧ g.vars_.length ≤ 64 ∧ ∀ (k : Nat) (hk : k < g.vars_.length), ixI (nmP g.vars_[k].name_) g.vars_ = (k : Int) := by
  unfold right at h
  simp only [Bool.and_eq_true, Bool.not_eq_true', decide_eq_false_iff_not] at h
  refine ⟨by omega, fun g hg => ?_⟩
  obtain ⟨i, hi, rfl⟩ := List.getElem_of_mem hg
  have he := List.all_eq_true.1 h.2 i (mem_range0 hi)
  unfold okE at he
  rw [getD_at hi] at he
  simp only [Bool.and_eq_true, Bool.not_eq_true', decide_eq_false_iff_not] at he
  refine ⟨by omega, by omega, by omega, fun k hk => ?_⟩
  have hv := List.all_eq_true.1 he.2 k (mem_range0 hk)
  unfold okV at hv
  rw [getD_at hk] at hv
  simp only [Bool.and_eq_true, decide_eq_true_eq] at hv
  exact hv.1.1.1.2

/-! ### equality -/

instance : DecidableEq Var := fun a b => decidable_of_iff (a.id_ = b.id_ ∧ a.name_ = b.name_ ∧ a.values_ = b.values_) ⟨fun h => by
  cases a
  cases b
  simp only at h
  rw [h.1, h.2.1, h.2.2], fun h => by rw [h]; exact ⟨rfl, rfl, rfl⟩⟩

instance : DecidableEq GEnv := fun a b => decidable_of_iff (a.id_ = b.id_ ∧ a.next_ = b.next_ ∧ a.vars_ = b.vars_) ⟨fun h => by
  cases a
  cases b
  simp only at h
  rw [h.1, h.2.1, h.2.2], fun h => by rw [h]; exact ⟨rfl, rfl, rfl⟩⟩

theorem F49_is (a b : Var) (w : a.values_.length ≤ maxLen) : F49 a b = some (decide (a = b)) := by
  obtain ⟨i, n, v⟩ := a
  obtain ⟨i', n', v'⟩ := b
  unfold F49
  simp only
  rw [F13_is _ _ w]
  by_cases h1 : i = i'
  · by_cases h2 : n = n'
    · rw [decide_eq_true h1, decide_eq_true h2]
      subst h1 h2
      simp [guardO]
    · rw [decide_eq_false h2, Bool.and_false]
      have : ¬ (Var.mk i n v = Var.mk i' n' v') := fun h => h2 (by injection h)
      rw [decide_eq_false this]
      rfl
  · rw [decide_eq_false h1, Bool.false_and]
    have : ¬ (Var.mk i n v = Var.mk i' n' v') := fun h => h1 (by injection h)
    rw [decide_eq_false this]
    rfl

theorem inner18 {u v : GEnv} {again6 : Int → Option Bool} {i5 : Int} (hl : u.vars_.length = v.vars_.length) (hm : u.vars_.length ≤ 1000000) (hv : ∀ x ∈ u.vars_, x.values_.length ≤ 1000000) :
    iter (F18_b3 u v again6 i5) BIG 0 = bif decide (u.vars_ = v.vars_) then again6 (IntKind.wrap .i64 (i5 + 1)) else some false := by
  have h : ∀ (n j : Nat), j ≤ u.vars_.length → u.vars_.length - j < n → iter (F18_b3 u v again6 i5) n (j : Int) = bif decide (u.vars_.drop j = v.vars_.drop j) then again6 (IntKind.wrap .i64 (i5 + 1)) else some false := by
    intro n
    induction n with
    | zero => intro j _ h; omega
    | succ n ih =>
      intro j hj hn
      show F18_b3 u v again6 i5 (iter (F18_b3 u v again6 i5) n) j = _
      rw [F18_b3]
      by_cases hlt : j < u.vars_.length
      · rw [decide_eq_true (by omega), cond_t, lidx_at hlt, Option.bind_some, lidx_at (xs := v.vars_) (by omega), Option.bind_some, F49_is _ _ (by have := hv _ (List.getElem_mem hlt); unfold maxLen; omega), Option.bind_some, drop_at hlt, drop_at (l := v.vars_) (by omega)]
        by_cases he : u.vars_[j] = v.vars_[j]
        · rw [decide_eq_true he, Bool.not_true, cond_f, wrap64 (n := (j : Int) + 1) (by omega) (by omega), show ((j : Int) + 1) = ((j + 1 : Nat) : Int) by omega, ih (j + 1) (by omega) (by omega), he]
          congr 1
          rw [Bool.eq_iff_iff, decide_eq_true_eq, decide_eq_true_eq]
          exact ⟨fun h => by rw [h], fun h => (List.cons.inj h).2⟩
        · rw [decide_eq_false he, Bool.not_false, cond_t, decide_eq_false (fun h => he (List.cons.inj h).1)]
          rfl
      · rw [decide_eq_false (by omega), cond_f, List.drop_eq_nil_of_le (by omega), List.drop_eq_nil_of_le (by omega), decide_eq_true rfl]
        rfl
  have := h BIG 0 (Nat.zero_le _) (by unfold BIG; omega)
  rw [List.drop_zero, List.drop_zero] at this
  exact this

theorem F18_is {a b : List GEnv} (h : Bear 1000000 a) : F18 a b = some (decide (a = b)) := by
  have hl := h.1
  unfold F18
  by_cases he : a.length = b.length
  · rw [decide_eq_true (by omega), Bool.not_true, cond_f]
    have hm : ∀ (n j : Nat), j ≤ a.length → a.length - j < n → iter (F18_b2 a b) n (j : Int) = some (decide (a.drop j = b.drop j)) := by
      intro n
      induction n with
      | zero => intro j _ h; omega
      | succ n ih =>
        intro j hj hn
        show F18_b2 a b (iter (F18_b2 a b) n) j = _
        rw [F18_b2]
        by_cases hlt : j < a.length
        · have hb := h.2 _ (List.getElem_mem hlt)
          rw [decide_eq_true (by omega), cond_t, lidx_at hlt, Option.bind_some, lidx_at (xs := b) (by omega), Option.bind_some, drop_at hlt, drop_at (l := b) (by omega)]
          have hne : ∀ {P : Prop}, (a[j] = b[j] → P) → ¬ P → ¬ (a[j] :: a.drop (j + 1) = b[j] :: b.drop (j + 1)) := fun f g h => g (f (List.cons.inj h).1)
          by_cases h1 : a[j].id_ = b[j].id_
          · by_cases h2 : a[j].next_ = b[j].next_
            · by_cases h3 : a[j].vars_.length = b[j].vars_.length
              · rw [decide_eq_true h1, decide_eq_true h2, decide_eq_true (p := (a[j].vars_.length : Int) = (b[j].vars_.length : Int)) (by omega)]
                simp only [Bool.not_true, Bool.or_self, cond_f]
                rw [inner18 h3 hb.1 (fun x hx => (hb.2 x hx).2.1)]
                by_cases h4 : a[j].vars_ = b[j].vars_
                · have hab : a[j] = b[j] := by
                    cases ha : a[j]
                    cases hb' : b[j]
                    rw [ha, hb'] at h1 h2 h4
                    simp only at h1 h2 h4
                    rw [h1, h2, h4]
                  rw [decide_eq_true h4, cond_t, wrap64 (n := (j : Int) + 1) (by omega) (by omega), show ((j : Int) + 1) = ((j + 1 : Nat) : Int) by omega, ih (j + 1) (by omega) (by omega), hab]
                  congr 1
                  rw [Bool.eq_iff_iff, decide_eq_true_eq, decide_eq_true_eq]
                  exact ⟨fun h => by rw [h], fun h => (List.cons.inj h).2⟩
                · rw [decide_eq_false h4, cond_f, decide_eq_false (hne (fun h => congrArg GEnv.vars_ h) h4)]
              · rw [decide_eq_false (p := (a[j].vars_.length : Int) = (b[j].vars_.length : Int)) (by omega), decide_eq_false (hne (fun h => congrArg (fun g => g.vars_.length) h) h3)]
                simp
            · rw [decide_eq_false h2, decide_eq_false (hne (fun h => congrArg GEnv.next_ h) h2)]
              simp
          · rw [decide_eq_false h1, decide_eq_false (hne (fun h => congrArg GEnv.id_ h) h1)]
            simp
        · rw [decide_eq_false (by omega), cond_f, List.drop_eq_nil_of_le (by omega), List.drop_eq_nil_of_le (by omega), decide_eq_true rfl]
    have := hm BIG 0 (Nat.zero_le _) (by unfold BIG; omega)
    rw [List.drop_zero, List.drop_zero] at this
    exact this
  · rw [decide_eq_false (p := (a.length : Int) = (b.length : Int)) (by omega), Bool.not_false, cond_t, decide_eq_false (fun h' => he (congrArg List.length h'))]

theorem ixI_some {α : Type} {p : α → Bool} {l : List α} {k : Nat} (h : ix p l = some k) : ixI p l = (k : Int) := by rw [ixI, h]
theorem ixI_none {α : Type} {p : α → Bool} {l : List α} (h : ix p l = none) : ixI p l = -1 := by rw [ixI, h]

/-! ### Get -/

def getS (l : List GEnv) (group : Int) (name : Str) : Option (List Str) := (l.find? (idP group)).bind fun g => (g.vars_.find? (nmP name)).map Var.values_

theorem F19_is {l : List GEnv} (h : Bear 1000000 l) (group : Int) (name : Str) : F19 l group name = some (match getS l group name with | none => ([], false) | some v => (v, true)) := by
  have hl := h.1
  unfold F19 getS
  rw [F43_is l group (by unfold maxLen; omega), Option.bind_some]
  cases hi : ix (idP group) l with
  | none =>
    rw [ixI_none hi, ix_none hi]
    rfl
  | some i =>
    obtain ⟨h1, h2, h3⟩ := ix_some hi
    have hb := h.2 _ (List.getElem_mem h1)
    rw [ixI_some hi, h3, decide_eq_false (by omega), cond_f, lidx_at h1, Option.bind_some, Option.bind_some, F45x1_is _ _ (by have := hb.1; unfold maxLen; omega), Option.bind_some]
    cases hk : ix (nmP name) l[i].vars_ with
    | none =>
      rw [ixI_none hk, ix_none hk]
      rfl
    | some k =>
      obtain ⟨k1, k2, k3⟩ := ix_some hk
      have hv := hb.2 _ (List.getElem_mem k1)
      rw [ixI_some hk, k3, decide_eq_false (by omega), cond_f, lidx_at k1, Option.bind_some, L_Clone, if_pos (by have := hv.2.1; omega), Option.bind_some]
      rfl

/-! ### Set -/

def addS (g : GEnv) (name : Str) (values : List Str) : GEnv × Int :=
  if 64 ≤ g.vars_.length ∨ 1048575 < g.next_ then (g, 22) else (⟨g.id_, g.next_ + 1, g.vars_ ++ [⟨g.next_, name, values⟩]⟩, 0)

theorem F48_is (g : GEnv) (name : Str) (values : List Str) (h : g.vars_.length ≤ 1000000) (hv : ∀ v ∈ g.vars_, v.values_.length ≤ 1000000) (hn : 2 ≤ g.next_) : F48 g name values = some (addS g name values) := by
  unfold F48 addS
  by_cases h1 : 64 ≤ g.vars_.length
  · rw [decide_eq_true (p := (64 : Int) ≤ (g.vars_.length : Int)) (by omega), Bool.true_or, cond_t, if_pos (.inl h1)]
  · rw [decide_eq_false (p := (64 : Int) ≤ (g.vars_.length : Int)) (by omega), Bool.false_or]
    by_cases h2 : 1048575 < g.next_
    · rw [decide_eq_true h2, cond_t, if_pos (.inr h2)]
    · rw [decide_eq_false h2, cond_f, if_neg (fun h => h.elim h1 h2), F69_is _ h hv, Option.bind_some, appO_eq (by simp; omega), Option.bind_some, wrap64 (by omega) (by omega)]

def setS (l : List GEnv) (group : Int) (name : Str) (values : List Str) : List GEnv × Int :=
  match ix (idP group) l with
  | none => (l, 1)
  | some i =>
    if vn name = false then (l, 6)
    else if values.length = 0 then
      match ix (nmP name) (l.getD i default).vars_ with
      | some k => (l.set i ⟨(l.getD i default).id_, (l.getD i default).next_, (l.getD i default).vars_.eraseIdx k⟩, 0)
      | none => (l, 0)
    else if (enc values).2 ≠ 0 then (l, (enc values).2)
    else
      match ix (nmP name) (l.getD i default).vars_ with
      | some k => (l.set i ⟨(l.getD i default).id_, (l.getD i default).next_, (l.getD i default).vars_.set k ⟨((l.getD i default).vars_.getD k default).id_, ((l.getD i default).vars_.getD k default).name_, values⟩⟩, 0)
      | none => if (addS (l.getD i default) name values).2 ≠ 0 then (l, (addS (l.getD i default) name values).2) else (l.set i (addS (l.getD i default) name values).1, 0)

theorem F17_is {l : List GEnv} (h : Bear 1000000 l) (hnx : ∀ g ∈ l, 2 ≤ g.next_) (group : Int) {name : Str} (hn : name.length ≤ maxLen) {values : List Str} (hv : values.length ≤ 1000000) (hx : ∀ x ∈ values, x.length ≤ 1000000) :
    F17 l group name values = some (setS l group name values) := by
  have hl := h.1
  unfold F17 setS
  rw [F42_is h, Option.bind_some]
  simp only
  rw [F43_is l group (by unfold maxLen; omega), Option.bind_some]
  cases hi : ix (idP group) l with
  | none =>
    rw [ixI_none hi]
    rfl
  | some i =>
    obtain ⟨h1, h2, h3⟩ := ix_some hi
    have hb := h.2 _ (List.getElem_mem h1)
    rw [ixI_some hi, decide_eq_false (p := (i : Int) < 0) (by omega), cond_f, F44_is _ hn, Option.bind_some]
    simp only
    cases hvn : vn name with
    | false => rfl
    | true =>
      rw [Bool.not_true, cond_f, if_neg (by decide), lidx_at h1, Option.bind_some, Int.toNat_natCast, ltO, if_pos h1, Option.bind_some, F45_is _ _ _ _ (by have := hb.1; unfold maxLen; omega), Option.bind_some, getD_at h1]
      by_cases h0 : values.length = 0
      · rw [decide_eq_true (p := (values.length : Int) = 0) (by omega), cond_t, if_pos h0]
        cases hk : ix (nmP name) l[i].vars_ with
        | none => rw [ixI_none hk]; rfl
        | some k =>
          obtain ⟨k1, _, _⟩ := ix_some hk
          have hb1 := hb.1
          rw [ixI_some hk, decide_eq_true (p := (0 : Int) ≤ (k : Int)) (by omega), cond_t, wrap64 (by omega) (by omega), L_DeleteV, if_pos ⟨by omega, by rw [Int.toNat_natCast]; exact k1, rfl, hb1⟩, Option.bind_some]
          rfl
      · rw [decide_eq_false (p := (values.length : Int) = 0) (by omega), cond_f, if_neg h0, F9_is hv hx, Option.bind_some]
        by_cases he : (enc values).2 = 0
        · rw [decide_eq_true he, Bool.not_true, cond_f, if_neg (fun h => h he)]
          cases hk : ix (nmP name) l[i].vars_ with
          | none =>
            rw [ixI_none hk, decide_eq_false (p := (0 : Int) ≤ -1) (by omega), cond_f, L_Clone, if_pos (by omega), Option.bind_some, F48_is _ _ _ hb.1 (fun v hv => (hb.2 v hv).2.1) (hnx _ (List.getElem_mem h1)), Option.bind_some]
            simp only
            by_cases ha : (addS l[i] name values).2 = 0
            · rw [decide_eq_true ha, Bool.not_true, cond_f, if_neg (fun h => h ha)]
            · rw [decide_eq_false ha, Bool.not_false, cond_t, if_pos ha]
          | some k =>
            obtain ⟨k1, _, _⟩ := ix_some hk
            rw [ixI_some hk, decide_eq_true (p := (0 : Int) ≤ (k : Int)) (by omega), cond_t, L_Clone, if_pos (by omega), Option.bind_some, lidx_at k1, Option.bind_some, Int.toNat_natCast]
            simp only
            rw [getD_at k1]
        · rw [decide_eq_false he, Bool.not_false, cond_t, if_pos he]

/-! ### what Set does to Get -/

theorem get_set_one {l : List GEnv} {group : Int} {i : Nat} (hi : ix (idP group) l = some i) {g' : GEnv} (hg : g'.id_ = group) (name : Str) : getS (l.set i g') group name = (g'.vars_.find? (nmP name)).map Var.values_ := by
  unfold getS
  rw [find_set_at (by simp [idP, hg]) hi]
  rfl

theorem get_set_other {l : List GEnv} {group : Int} {i : Nat} (hi : ix (idP group) l = some i) {g' : GEnv} (hg : g'.id_ = group) {other : Int} (ho : other ≠ group) (name : Str) : getS (l.set i g') other name = getS l other name := by
  obtain ⟨h1, h2, h3⟩ := ix_some hi
  have hid : l[i].id_ = group := by simpa [idP] using h2
  unfold getS
  rw [find_set_other (q := idP other) (by simp [idP, hg]; exact fun h => ho h.symm) h1 (by simp [idP, hid]; exact fun h => ho h.symm)]

theorem get_one {l : List GEnv} {group : Int} {i : Nat} (hi : ix (idP group) l = some i) (name : Str) : getS l group name = ((l.getD i default).vars_.find? (nmP name)).map Var.values_ := by
  obtain ⟨h1, h2, h3⟩ := ix_some hi
  unfold getS
  rw [h3, getD_at h1]
  rfl

/-- No variable behind the first of its name, in a valid group. -/
theorem find_erase_none {vs : List Var} {name : Str} {k : Nat} (hk : ix (nmP name) vs = some k) (hu : ∀ (j : Nat) (hj : j < vs.length), ixI (nmP vs[j].name_) vs = (j : Int)) : (vs.eraseIdx k).find? (nmP name) = none := by
  rw [List.find?_eq_none]
  intro v hv hp
  obtain ⟨k1, k2, k3⟩ := ix_some hk
  obtain ⟨j, hj, hjv⟩ := List.getElem_of_mem hv
  rw [List.getElem_eraseIdx] at hjv
  have hlen := List.length_eraseIdx_of_lt k1
  rw [hlen] at hj
  have hnm : v.name_ = name := by simpa [nmP] using hp
  split at hjv
  · rename_i hlt
    have := hu j (by omega)
    rw [hjv, hnm, ixI_some hk] at this
    omega
  · rename_i hlt
    have := hu (j + 1) (by omega)
    rw [hjv, hnm, ixI_some hk] at this
    omega

/-- Set, in a valid list: what Get returns afterwards. -/
theorem set_get {l : List GEnv} (hr : right l = true) {group : Int} {name : Str} {values : List Str} (h0 : (setS l group name values).2 = 0) :
    (getS (setS l group name values).1 group name = if values.length = 0 then none else some values) ∧
      ∀ (og : Int) (on : Str), ¬ (og = group ∧ on = name) → getS (setS l group name values).1 og on = getS l og on := by
  obtain ⟨_, hrg⟩ := right_of hr
  unfold setS at h0 ⊢
  cases hi : ix (idP group) l with
  | none => rw [hi] at h0; cases h0
  | some i =>
    rw [hi] at h0
    obtain ⟨h1, h2, h3⟩ := ix_some hi
    have hid : (l.getD i default).id_ = group := by rw [getD_at h1]; simpa [idP] using h2
    have hgm := hrg _ (List.getElem_mem h1)
    have other : ∀ {vs : List Var} {nx : Int} {on : Str} {og : Int}, ¬ (og = group ∧ on = name) → (on ≠ name → vs.find? (nmP on) = (l.getD i default).vars_.find? (nmP on)) → getS (l.set i ⟨(l.getD i default).id_, nx, vs⟩) og on = getS l og on := by
      intro vs nx on og hne hf
      by_cases hog : og = group
      · subst hog
        rw [get_set_one hi (show (GEnv.mk (l.getD i default).id_ nx vs).id_ = og from hid), get_one hi, hf (fun h => hne ⟨rfl, h⟩)]
      · exact get_set_other hi (show (GEnv.mk (l.getD i default).id_ nx vs).id_ = group from hid) hog on
    have one : ∀ (nx : Int) (vs : List Var), getS (l.set i ⟨(l.getD i default).id_, nx, vs⟩) group name = (vs.find? (nmP name)).map Var.values_ := fun nx vs => get_set_one hi (show (GEnv.mk (l.getD i default).id_ nx vs).id_ = group from hid) name
    simp only at h0 ⊢
    by_cases hvn : vn name = false
    · rw [if_pos hvn] at h0; cases h0
    · rw [if_neg hvn] at h0 ⊢
      by_cases hv : values.length = 0
      · rw [if_pos hv] at h0 ⊢
        rw [if_pos hv]
        cases hk : ix (nmP name) (l.getD i default).vars_ with
        | none =>
          refine ⟨?_, fun og on _ => rfl⟩
          simp only
          rw [get_one hi, ix_none hk]
          rfl
        | some k =>
          obtain ⟨k1, k2, k3⟩ := ix_some hk
          simp only
          refine ⟨?_, fun og on hne => other hne fun hon => find_erase_other k1 ?_⟩
          · rw [one]
            rw [find_erase_none hk (by rw [getD_at h1]; exact hgm.2.2.2)]
            rfl
          · have : ((l.getD i default).vars_[k]).name_ = name := by simpa [nmP] using k2
            simp only [nmP, this, decide_eq_false_iff_not]
            exact fun h => hon h.symm
      · rw [if_neg hv] at h0 ⊢
        rw [if_neg hv]
        by_cases he : (enc values).2 ≠ 0
        · rw [if_pos he] at h0; exact absurd h0 he
        · rw [if_neg he] at h0 ⊢
          cases hk : ix (nmP name) (l.getD i default).vars_ with
          | some k =>
            obtain ⟨k1, k2, k3⟩ := ix_some hk
            have hnm : ((l.getD i default).vars_[k]).name_ = name := by simpa [nmP] using k2
            simp only
            refine ⟨?_, fun og on hne => other hne fun hon => find_set_other ?_ k1 ?_⟩
            · rw [one]
              rw [find_set_at (by rw [getD_at k1]; exact decide_eq_true hnm) hk]
              rfl
            · rw [getD_at k1]
              simp only [nmP, hnm, decide_eq_false_iff_not]
              exact fun h => hon h.symm
            · simp only [nmP, hnm, decide_eq_false_iff_not]
              exact fun h => hon h.symm
          | none =>
            rw [hk] at h0
            simp only at h0 ⊢
            by_cases ha : (addS (l.getD i default) name values).2 ≠ 0
            · rw [if_pos ha] at h0; exact absurd h0 ha
            · rw [if_neg ha]
              have hadd : (addS (l.getD i default) name values).1 = ⟨(l.getD i default).id_, (l.getD i default).next_ + 1, (l.getD i default).vars_ ++ [⟨(l.getD i default).next_, name, values⟩]⟩ := by
                unfold addS at ha ⊢
                split
                · rename_i hc
                  rw [if_pos hc] at ha
                  exact absurd (show ((22 : Int) ≠ 0) by decide) ha
                · rfl
              rw [hadd]
              refine ⟨?_, fun og on hne => other hne fun hon => ?_⟩
              · rw [one]
                rw [List.find?_append, ix_none hk]
                simp [nmP]
              · rw [List.find?_append]
                have : [(⟨(l.getD i default).next_, name, values⟩ : Var)].find? (nmP on) = none := by
                  simp [nmP]
                  exact fun h => hon h.symm
                rw [this, Option.or_none]

/-- Set keeps a list bearable; where it fails, the list is as it was. -/
theorem set_bear {l : List GEnv} (h : Bear 100000 l) (group : Int) {name : Str} (hn : name.length ≤ 100000) {values : List Str} (hv : values.length ≤ 100000) (hx : ∀ x ∈ values, x.length ≤ 100000) : Bear 1000000 (setS l group name values).1 := by
  have hl : Bear 1000000 l := ⟨by have := h.1; omega, fun g hg => ⟨by have := (h.2 g hg).1; omega, fun v hv => ⟨by have := ((h.2 g hg).2 v hv).1; omega, by have := ((h.2 g hg).2 v hv).2.1; omega, fun x hx => by have := ((h.2 g hg).2 v hv).2.2 x hx; omega⟩⟩⟩
  have hset : ∀ (i : Nat) (g' : GEnv), (g'.vars_.length ≤ 1000000 ∧ ∀ v ∈ g'.vars_, v.name_.length ≤ 1000000 ∧ v.values_.length ≤ 1000000 ∧ ∀ x ∈ v.values_, x.length ≤ 1000000) → Bear 1000000 (l.set i g') := by
    intro i g' hg'
    refine ⟨by rw [List.length_set]; exact hl.1, fun g hg => ?_⟩
    rcases List.mem_or_eq_of_mem_set hg with hg | rfl
    · exact hl.2 g hg
    · exact hg'
  unfold setS
  cases hi : ix (idP group) l with
  | none => exact hl
  | some i =>
    obtain ⟨h1, h2, h3⟩ := ix_some hi
    have hb := hl.2 _ (List.getElem_mem h1)
    have hb' := h.2 _ (List.getElem_mem h1)
    simp only
    rw [getD_at h1]
    by_cases hvn : vn name = false
    · rw [if_pos hvn]; exact hl
    · rw [if_neg hvn]
      by_cases h0 : values.length = 0
      · rw [if_pos h0]
        cases hk : ix (nmP name) l[i].vars_ with
        | none => exact hl
        | some k => exact hset i _ ⟨by have := hb.1; have := List.length_eraseIdx_le (l := l[i].vars_) (i := k); simp only; omega, fun v hv => hb.2 v (List.mem_of_mem_eraseIdx hv)⟩
      · rw [if_neg h0]
        by_cases he : (enc values).2 ≠ 0
        · rw [if_pos he]; exact hl
        · rw [if_neg he]
          cases hk : ix (nmP name) l[i].vars_ with
          | some k =>
            obtain ⟨k1, k2, k3⟩ := ix_some hk
            have hkm := hb.2 _ (List.getElem_mem k1)
            refine hset i _ ⟨by simp only [List.length_set]; exact hb.1, fun v hv => ?_⟩
            rcases List.mem_or_eq_of_mem_set hv with hv | rfl
            · exact hb.2 v hv
            · rw [getD_at k1]
              exact ⟨hkm.1, by simp only; omega, fun x hx' => by have := hx x hx'; omega⟩
          | none =>
            simp only
            split
            · exact hl
            · refine hset i _ ?_
              unfold addS
              split
              · exact hb
              · refine ⟨by have := hb'.1; simp only [List.length_append, List.length_singleton]; omega, fun v hv => ?_⟩
                simp only [List.mem_append, List.mem_singleton] at hv
                rcases hv with hv | rfl
                · exact hb.2 v hv
                · exact ⟨by simp only; omega, by simp only; omega, fun x hx' => by have := hx x hx'; omega⟩

theorem set_fail {l : List GEnv} {group : Int} {name : Str} {values : List Str} (h0 : (setS l group name values).2 ≠ 0) : (setS l group name values).1 = l := by
  unfold setS at h0 ⊢
  cases hi : ix (idP group) l with
  | none => rfl
  | some i =>
    rw [hi] at h0
    simp only at h0 ⊢
    by_cases hvn : vn name = false
    · rw [if_pos hvn]
    · rw [if_neg hvn] at h0 ⊢
      by_cases hv : values.length = 0
      · rw [if_pos hv] at h0 ⊢
        cases hk : ix (nmP name) (l.getD i default).vars_ with
        | none => rfl
        | some k => rw [hk] at h0; exact absurd rfl h0
      · rw [if_neg hv] at h0 ⊢
        by_cases he : (enc values).2 ≠ 0
        · rw [if_pos he]
        · rw [if_neg he] at h0 ⊢
          cases hk : ix (nmP name) (l.getD i default).vars_ with
          | some k => rw [hk] at h0; exact absurd rfl h0
          | none =>
            rw [hk] at h0
            simp only at h0 ⊢
            by_cases ha : (addS (l.getD i default) name values).2 ≠ 0
            · rw [if_pos ha]
            · rw [if_neg ha] at h0; exact absurd rfl h0

/-! ### the law -/

theorem F15_is (o : GOp) (w : o.values_.length ≤ maxLen) : ∃ b, F15 o = some b ∧ (b = true → o.name_.length ≤ 1000 ∧ Sh o.values_ 70000 ∧ o.data_.length ≤ 70000) := by
  unfold F15
  by_cases h1 : o.name_.length ≤ 1000
  · rw [decide_eq_true (p := (o.name_.length : Int) ≤ 1000) (by omega), guardO_true, show (70000 : Int) = ((70000 : Nat) : Int) from rfl]
    by_cases hs : Sh o.values_ 70000
    · rw [F7_sh hs, Option.bind_some]
      refine ⟨_, rfl, fun h => ⟨h1, hs, ?_⟩⟩
      simp only [Bool.true_and, decide_eq_true_eq] at h
      omega
    · rw [F7_not w hs, Option.bind_some]
      exact ⟨_, rfl, fun h => by simp at h⟩
  · rw [decide_eq_false (p := (o.name_.length : Int) ≤ 1000) (by omega), guardO_false, Option.bind_some]
    exact ⟨_, rfl, fun h => by simp at h⟩

theorem sv_bear {v : Var} (h : svB v = true) : v.name_.length ≤ 100000 ∧ v.values_.length ≤ 100000 ∧ ∀ x ∈ v.values_, x.length ≤ 100000 := by
  unfold svB at h
  simp only [Bool.and_eq_true, decide_eq_true_eq] at h
  refine ⟨by omega, by omega, fun x hx => ?_⟩
  have := Sh.mem (l := v.values_) (most := 70000) ⟨h.1.2, by omega⟩ (by omega) hx
  omega

theorem get_len {l : List GEnv} (h : Bear 1000000 l) {group : Int} {name : Str} {v : List Str} (hv : getS l group name = some v) : v.length ≤ 1000000 := by
  unfold getS at hv
  obtain ⟨g, hg, hv⟩ := Option.bind_eq_some_iff.1 hv
  obtain ⟨y, hy, rfl⟩ := Option.map_eq_some_iff.1 hv
  exact ((h.2 g (List.mem_of_find?_eq_some hg)).2 y (List.mem_of_find?_eq_some hy)).2.1

theorem tail4 {l m : List GEnv} (hB : Bear 1000000 l) (hm : Bear 1000000 m) {o : GOp} {x : Ask} (he : ¬ (x.group_ = o.group_ ∧ x.name_ = o.name_) → getS m x.group_ x.name_ = getS l x.group_ x.name_) :
    (bif (decide (x.group_ = o.group_) && decide (x.name_ = o.name_)) then
          (F8).bind fun r38 =>
          some r38
        else
          (F19 l x.group_ x.name_).bind fun (r41, r42) =>
          (F19 m x.group_ x.name_).bind fun (r45, r46) =>
          (guardO (r42 == r46) (F13 r41 r45)).bind fun r49 =>
          (guardO ((r42 == r46) && r49) (F8)).bind fun r52 =>
          some (((r42 == r46) && r49) && r52)) = some true := by
  by_cases hs : x.group_ = o.group_ ∧ x.name_ = o.name_
  · rw [decide_eq_true hs.1, decide_eq_true hs.2]
    simp only [Bool.and_self, cond_t]
    rw [alive]
    rfl
  · have hc : (decide (x.group_ = o.group_) && decide (x.name_ = o.name_)) = false := by
      rw [Bool.eq_false_iff]
      intro h
      rw [Bool.and_eq_true, decide_eq_true_eq, decide_eq_true_eq] at h
      exact hs h
    rw [hc, cond_f, F19_is hB, Option.bind_some, F19_is hm, he hs]
    cases hG : getS l x.group_ x.name_ with
    | none =>
      simp only [Option.bind_some, beq_self_eq_true, guardO_true, Bool.true_and]
      rw [F13_is _ _ (by simp), decide_eq_true rfl, Option.bind_some, guardO_true, alive]
      rfl
    | some v =>
      simp only [Option.bind_some, beq_self_eq_true, guardO_true, Bool.true_and]
      rw [F13_is _ _ (by have := get_len hB hG; unfold maxLen; omega), decide_eq_true rfl, Option.bind_some, guardO_true, alive]
      rfl

theorem plain4 (l : List GEnv) (w : Wd l) (o : GOp) (wo : o.values_.length ≤ maxLen) (x : Ask) : F4 l o x = some true := by
  unfold F4
  obtain ⟨b, hb, hs⟩ := F14_is w
  obtain ⟨c, hc, ho⟩ := F15_is o wo
  rw [hb, Option.bind_some]
  cases b with
  | false =>
    simp only [guardO_false, Option.bind_some, Bool.not_false, Bool.true_or, Bool.not_true, cond_t]
    rw [alive]
    rfl
  | true =>
    rw [guardO_true, hc, Option.bind_some]
    cases c with
    | false =>
      simp only [guardO_false, Option.bind_some, Bool.not_false, Bool.or_true, Bool.true_or, Bool.not_true, cond_t]
      rw [alive]
      rfl
    | true =>
      simp only [Bool.not_true, Bool.or_self, Bool.false_or]
      by_cases hx : 1000 < x.name_.length
      · rw [decide_eq_true (p := (1000 : Int) < (x.name_.length : Int)) (by omega)]
        simp only [guardO_false, Option.bind_some, Bool.true_or, Bool.not_true, cond_t]
        rw [alive]
        rfl
      · rw [decide_eq_false (p := (1000 : Int) < (x.name_.length : Int)) (by omega), Bool.not_false, guardO_true]
        obtain ⟨hl70, hsv⟩ := hs rfl
        obtain ⟨hon, hosh, hod⟩ := ho rfl
        have hbs : ∀ g ∈ l, ∀ v ∈ g.vars_, v.name_.length ≤ 100000 ∧ v.values_.length ≤ 100000 ∧ ∀ x ∈ v.values_, x.length ≤ 100000 := fun g hg v hv => sv_bear (hsv g hg v hv)
        rw [F16_is (fun g hg v hv => by obtain ⟨q1, q2, q3⟩ := hbs g hg v hv; exact ⟨by omega, by omega, fun x hx => by have := q3 x hx; omega⟩), Option.bind_some]
        cases hr : right l with
        | false =>
          simp only [Bool.not_false, Bool.or_true, cond_t]
          rw [alive]
          rfl
        | true =>
          simp only [Bool.not_true, Bool.or_self, cond_f]
          obtain ⟨hr1, hr2⟩ := right_of hr
          have hB : Bear 100000 l := ⟨by omega, fun g hg => ⟨by have := (hr2 g hg).2.2.1; omega, hbs g hg⟩⟩
          have hB2 : Bear 1000000 l := ⟨by omega, fun g hg => ⟨by have := (hr2 g hg).2.2.1; omega, fun v hv => by obtain ⟨q1, q2, q3⟩ := hbs g hg v hv; exact ⟨by omega, by omega, fun x hx => by have := q3 x hx; omega⟩⟩⟩
          have hov : ∀ y ∈ o.values_, y.length ≤ 100000 := fun y hy => by have := hosh.mem (by omega) hy; omega
          have hol : o.values_.length ≤ 100000 := by have := hosh.1; omega
          rw [F17_is hB2 (fun g hg => (hr2 g hg).1) o.group_ (by unfold maxLen; omega) (by omega) (fun y hy => by have := hov y hy; omega), Option.bind_some]
          have hfail := set_fail (l := l) (group := o.group_) (name := o.name_) (values := o.values_)
          have hget := set_get (group := o.group_) (name := o.name_) (values := o.values_) hr
          have hbear := set_bear hB o.group_ (name := o.name_) (by omega) hol hov
          rcases hS : setS l o.group_ o.name_ o.values_ with ⟨m, e⟩
          rw [hS] at hfail hget hbear
          simp only at hfail hget hbear ⊢
          by_cases he : e = 0
          · obtain ⟨g1, g2⟩ := hget he
            rw [decide_eq_true he, Bool.not_true, cond_f, F19_is hbear, Option.bind_some, g1]
            have htail := tail4 (x := x) (o := o) hB2 hbear fun hne => g2 _ _ hne
            by_cases h0 : o.values_.length = 0
            · have hnil : o.values_ = [] := List.eq_nil_of_length_eq_zero h0
              rw [if_pos h0]
              simp only
              rw [decide_eq_false (p := (0 : Int) < (o.values_.length : Int)) (by omega), show (false == false) = true from rfl, guardO_true, hnil, F13_is _ _ (by simp), decide_eq_true rfl, Option.bind_some]
              exact htail
            · rw [if_neg h0]
              simp only
              rw [decide_eq_true (p := (0 : Int) < (o.values_.length : Int)) (by omega), show (true == true) = true from rfl, guardO_true, F13_is _ _ wo, decide_eq_true rfl, Option.bind_some]
              exact htail
          · rw [decide_eq_false he, Bool.not_false, cond_t, hfail he, F18_is hB2, decide_eq_true rfl, Option.bind_some, guardO_true, alive]
            rfl

theorem law4 (l : List GEnv) (wl : w_32 l) (o : GOp) (wo : w_34 o) (x : Ask) (wx : w_36 x) : F4 l o x = some true :=
  plain4 l ⟨wl.1, fun g hg => ⟨(wl.2 g hg).2.2.1, fun v hv => ⟨((wl.2 g hg).2.2.2 v hv).2.1, ((wl.2 g hg).2.2.2 v hv).2.2.1⟩⟩⟩ o wo.2.2.2.2.2.1.1 x

end Go.Abs.U29
