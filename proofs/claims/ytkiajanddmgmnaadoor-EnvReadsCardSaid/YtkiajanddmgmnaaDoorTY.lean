/- The layer 29 laws: the arguments as typed values. -/
import Derived.Test.YtkiajanddmgmnaaDoorA35
import Derived.Test.YtkiajanddmgmnaaDoorT1
set_option linter.unusedVariables false
set_option maxRecDepth 100000
namespace Go.Abs.U29
open Go Go.Proofs

theorem ty_3 (n : Nat) {p : PV} (h : Typed Tryd.prog (n + 1) 3 p) : ∃ x : Int, p = (.int .i64 x) ∧ inK .i64 x := by
  rw [Typed] at h
  simp only [Tryd.underlying3] at h
  obtain ⟨x, rfl, hw⟩ := h
  exact ⟨x, rfl, hw⟩

theorem ty_9 (n : Nat) {p : PV} (h : Typed Tryd.prog (n + 1) 9 p) : ∃ x : Str, p = (.str x) ∧ List.length x ≤ maxLen := by
  rw [Typed] at h
  simp only [Tryd.underlying9] at h
  obtain ⟨x, rfl, hw⟩ := h
  exact ⟨x, rfl, hw⟩

def w_22 (xs : List Str) : Prop := xs.length ≤ maxLen ∧ ∀ x ∈ xs, List.length x ≤ maxLen

theorem ty_22 (n : Nat) {p : PV} (h : Typed Tryd.prog (n + 2) 22 p) : ∃ x : List Str, p = (.slice (List.map PV.str x)) ∧ w_22 x := by
  rw [Typed] at h
  simp only [Tryd.underlying22] at h
  obtain ⟨xs, rfl, hl, hx⟩ := h
  obtain ⟨ys, rfl, hw⟩ := ex_map (f := PV.str) (W := fun x => List.length x ≤ maxLen) fun x hm => ty_9 (n + 0) (hx x hm).1
  exact ⟨ys, rfl, by rw [List.length_map] at hl; exact hl, hw⟩

def w_76 (x : Var) : Prop := inK .i64 x.id_ ∧ List.length x.name_ ≤ maxLen ∧ w_22 x.values_

theorem ty_76 (n : Nat) {p : PV} (h : Typed Tryd.prog (n + 3) 76 p) : ∃ x : Var, p = (.agg [.int .i64 x.id_, .str x.name_, .slice (List.map PV.str x.values_)]) ∧ w_76 x := by
  rw [Typed] at h
  simp only [Tryd.underlying76] at h
  obtain ⟨qs, rfl, hl, hq⟩ := h
  match qs, hl with
  | [q0, q1, q2], _ =>
    have e0 := hq 0 _ q0 rfl rfl
    obtain ⟨x0, h0, w0⟩ := ty_3 (n + 1) e0
    subst h0
    have e1 := hq 1 _ q1 rfl rfl
    obtain ⟨x1, h1, w1⟩ := ty_9 (n + 1) e1
    subst h1
    have e2 := hq 2 _ q2 rfl rfl
    obtain ⟨x2, h2, w2⟩ := ty_22 (n + 0) e2
    subst h2
    exact ⟨⟨x0, x1, x2⟩, rfl, w0, w1, w2⟩

def w_72 (xs : List Var) : Prop := xs.length ≤ maxLen ∧ ∀ x ∈ xs, w_76 x

theorem ty_72 (n : Nat) {p : PV} (h : Typed Tryd.prog (n + 4) 72 p) : ∃ x : List Var, p = (.slice (List.map Var.pv x)) ∧ w_72 x := by
  rw [Typed] at h
  simp only [Tryd.underlying72] at h
  obtain ⟨xs, rfl, hl, hx⟩ := h
  obtain ⟨ys, rfl, hw⟩ := ex_map (f := Var.pv) (W := fun x => w_76 x) fun x hm => ty_76 (n + 0) (hx x hm).1
  exact ⟨ys, rfl, by rw [List.length_map] at hl; exact hl, hw⟩

def w_74 (x : GEnv) : Prop := inK .i64 x.id_ ∧ inK .i64 x.next_ ∧ w_72 x.vars_

theorem ty_74 (n : Nat) {p : PV} (h : Typed Tryd.prog (n + 5) 74 p) : ∃ x : GEnv, p = (.agg [.int .i64 x.id_, .int .i64 x.next_, .slice (List.map Var.pv x.vars_)]) ∧ w_74 x := by
  rw [Typed] at h
  simp only [Tryd.underlying74] at h
  obtain ⟨qs, rfl, hl, hq⟩ := h
  match qs, hl with
  | [q0, q1, q2], _ =>
    have e0 := hq 0 _ q0 rfl rfl
    obtain ⟨x0, h0, w0⟩ := ty_3 (n + 3) e0
    subst h0
    have e1 := hq 1 _ q1 rfl rfl
    obtain ⟨x1, h1, w1⟩ := ty_3 (n + 3) e1
    subst h1
    have e2 := hq 2 _ q2 rfl rfl
    obtain ⟨x2, h2, w2⟩ := ty_72 (n + 0) e2
    subst h2
    exact ⟨⟨x0, x1, x2⟩, rfl, w0, w1, w2⟩

def w_32 (xs : List GEnv) : Prop := xs.length ≤ maxLen ∧ ∀ x ∈ xs, w_74 x

theorem ty_32 (n : Nat) {p : PV} (h : Typed Tryd.prog (n + 6) 32 p) : ∃ x : List GEnv, p = (.slice (List.map GEnv.pv x)) ∧ w_32 x := by
  rw [Typed] at h
  simp only [Tryd.underlying32] at h
  obtain ⟨xs, rfl, hl, hx⟩ := h
  obtain ⟨ys, rfl, hw⟩ := ex_map (f := GEnv.pv) (W := fun x => w_74 x) fun x hm => ty_74 (n + 0) (hx x hm).1
  exact ⟨ys, rfl, by rw [List.length_map] at hl; exact hl, hw⟩

def w_36 (x : Ask) : Prop := inK .i64 x.group_ ∧ inK .i64 x.id_ ∧ List.length x.name_ ≤ maxLen ∧ inK .i64 x.offset_ ∧ inK .i64 x.count_

theorem ty_36 (n : Nat) {p : PV} (h : Typed Tryd.prog (n + 2) 36 p) : ∃ x : Ask, p = (.agg [.int .i64 x.group_, .int .i64 x.id_, .str x.name_, .int .i64 x.offset_, .int .i64 x.count_]) ∧ w_36 x := by
  rw [Typed] at h
  simp only [Tryd.underlying36] at h
  obtain ⟨qs, rfl, hl, hq⟩ := h
  match qs, hl with
  | [q0, q1, q2, q3, q4], _ =>
    have e0 := hq 0 _ q0 rfl rfl
    obtain ⟨x0, h0, w0⟩ := ty_3 (n + 0) e0
    subst h0
    have e1 := hq 1 _ q1 rfl rfl
    obtain ⟨x1, h1, w1⟩ := ty_3 (n + 0) e1
    subst h1
    have e2 := hq 2 _ q2 rfl rfl
    obtain ⟨x2, h2, w2⟩ := ty_9 (n + 0) e2
    subst h2
    have e3 := hq 3 _ q3 rfl rfl
    obtain ⟨x3, h3, w3⟩ := ty_3 (n + 0) e3
    subst h3
    have e4 := hq 4 _ q4 rfl rfl
    obtain ⟨x4, h4, w4⟩ := ty_3 (n + 0) e4
    subst h4
    exact ⟨⟨x0, x1, x2, x3, x4⟩, rfl, w0, w1, w2, w3, w4⟩

end Go.Abs.U29
