/- The layer 29 laws: the arguments as typed values. -/
import Derived.Test.YtkiajanddmgmnaaGreatDoorA35
import Derived.Test.YtkiajanddmgmnaaGreatDoorT1
set_option linter.unusedVariables false
set_option maxRecDepth 100000
namespace Go.Abs.U2Z
open Go Go.Proofs

theorem ty_3 (n : Nat) {p : PV} (h : Typed Tryz.prog (n + 1) 3 p) : ∃ x : Int, p = (.int .i64 x) ∧ inK .i64 x := by
  rw [Typed] at h
  simp only [Tryz.underlying3] at h
  obtain ⟨x, rfl, hw⟩ := h
  exact ⟨x, rfl, hw⟩

theorem ty_9 (n : Nat) {p : PV} (h : Typed Tryz.prog (n + 1) 9 p) : ∃ x : Str, p = (.str x) ∧ List.length x ≤ maxLen := by
  rw [Typed] at h
  simp only [Tryz.underlying9] at h
  obtain ⟨x, rfl, hw⟩ := h
  exact ⟨x, rfl, hw⟩

def w_23 (xs : List Str) : Prop := xs.length ≤ maxLen ∧ ∀ x ∈ xs, List.length x ≤ maxLen

theorem ty_23 (n : Nat) {p : PV} (h : Typed Tryz.prog (n + 2) 23 p) : ∃ x : List Str, p = (.slice (List.map PV.str x)) ∧ w_23 x := by
  rw [Typed] at h
  simp only [Tryz.underlying23] at h
  obtain ⟨xs, rfl, hl, hx⟩ := h
  obtain ⟨ys, rfl, hw⟩ := ex_map (f := PV.str) (W := fun x => List.length x ≤ maxLen) fun x hm => ty_9 (n + 0) (hx x hm).1
  exact ⟨ys, rfl, by rw [List.length_map] at hl; exact hl, hw⟩

def w_37 (x : Var) : Prop := inK .i64 x.id_ ∧ List.length x.name_ ≤ maxLen ∧ w_23 x.values_

theorem ty_37 (n : Nat) {p : PV} (h : Typed Tryz.prog (n + 3) 37 p) : ∃ x : Var, p = (.agg [.int .i64 x.id_, .str x.name_, .slice (List.map PV.str x.values_)]) ∧ w_37 x := by
  rw [Typed] at h
  simp only [Tryz.underlying37] at h
  obtain ⟨qs, rfl, hl, hq⟩ := h
  match qs, hl with
  | [q0, q1, q2], _ =>
    have e0 := hq 0 _ q0 rfl rfl
    obtain ⟨x0, h0, w0⟩ := ty_3 (n + 1) e0
    subst h0
    have e1 := hq 1 _ q1 rfl rfl
    obtain ⟨x1, h1, w1⟩ := ty_9 (n + 1) e1
    subst h1
    have e2 := hq 2 _ q2 rfl rfl
    obtain ⟨x2, h2, w2⟩ := ty_23 (n + 0) e2
    subst h2
    exact ⟨⟨x0, x1, x2⟩, rfl, w0, w1, w2⟩

def w_32 (xs : List Var) : Prop := xs.length ≤ maxLen ∧ ∀ x ∈ xs, w_37 x

theorem ty_32 (n : Nat) {p : PV} (h : Typed Tryz.prog (n + 4) 32 p) : ∃ x : List Var, p = (.slice (List.map Var.pv x)) ∧ w_32 x := by
  rw [Typed] at h
  simp only [Tryz.underlying32] at h
  obtain ⟨xs, rfl, hl, hx⟩ := h
  obtain ⟨ys, rfl, hw⟩ := ex_map (f := Var.pv) (W := fun x => w_37 x) fun x hm => ty_37 (n + 0) (hx x hm).1
  exact ⟨ys, rfl, by rw [List.length_map] at hl; exact hl, hw⟩

def w_34 (x : GEnv) : Prop := inK .i64 x.id_ ∧ inK .i64 x.next_ ∧ w_32 x.vars_

theorem ty_34 (n : Nat) {p : PV} (h : Typed Tryz.prog (n + 5) 34 p) : ∃ x : GEnv, p = (.agg [.int .i64 x.id_, .int .i64 x.next_, .slice (List.map Var.pv x.vars_)]) ∧ w_34 x := by
  rw [Typed] at h
  simp only [Tryz.underlying34] at h
  obtain ⟨qs, rfl, hl, hq⟩ := h
  match qs, hl with
  | [q0, q1, q2], _ =>
    have e0 := hq 0 _ q0 rfl rfl
    obtain ⟨x0, h0, w0⟩ := ty_3 (n + 3) e0
    subst h0
    have e1 := hq 1 _ q1 rfl rfl
    obtain ⟨x1, h1, w1⟩ := ty_3 (n + 3) e1
    subst h1
    have e2 := hq 2 _ q2 rfl rfl
    obtain ⟨x2, h2, w2⟩ := ty_32 (n + 0) e2
    subst h2
    exact ⟨⟨x0, x1, x2⟩, rfl, w0, w1, w2⟩

def w_22 (xs : List GEnv) : Prop := xs.length ≤ maxLen ∧ ∀ x ∈ xs, w_34 x

theorem ty_22 (n : Nat) {p : PV} (h : Typed Tryz.prog (n + 6) 22 p) : ∃ x : List GEnv, p = (.slice (List.map GEnv.pv x)) ∧ w_22 x := by
  rw [Typed] at h
  simp only [Tryz.underlying22] at h
  obtain ⟨xs, rfl, hl, hx⟩ := h
  obtain ⟨ys, rfl, hw⟩ := ex_map (f := GEnv.pv) (W := fun x => w_34 x) fun x hm => ty_34 (n + 0) (hx x hm).1
  exact ⟨ys, rfl, by rw [List.length_map] at hl; exact hl, hw⟩

def w_25 (x : GOp) : Prop := inK .i64 x.kind_ ∧ inK .i64 x.group_ ∧ inK .i64 x.to_ ∧ inK .i64 x.id_ ∧ List.length x.name_ ≤ maxLen ∧ w_23 x.values_ ∧ inK .i64 x.offset_ ∧ List.length x.data_ ≤ maxLen

theorem ty_25 (n : Nat) {p : PV} (h : Typed Tryz.prog (n + 3) 25 p) : ∃ x : GOp, p = (.agg [.int .i64 x.kind_, .int .i64 x.group_, .int .i64 x.to_, .int .i64 x.id_, .str x.name_, .slice (List.map PV.str x.values_), .int .i64 x.offset_, .str x.data_]) ∧ w_25 x := by
  rw [Typed] at h
  simp only [Tryz.underlying25] at h
  obtain ⟨qs, rfl, hl, hq⟩ := h
  match qs, hl with
  | [q0, q1, q2, q3, q4, q5, q6, q7], _ =>
    have e0 := hq 0 _ q0 rfl rfl
    obtain ⟨x0, h0, w0⟩ := ty_3 (n + 1) e0
    subst h0
    have e1 := hq 1 _ q1 rfl rfl
    obtain ⟨x1, h1, w1⟩ := ty_3 (n + 1) e1
    subst h1
    have e2 := hq 2 _ q2 rfl rfl
    obtain ⟨x2, h2, w2⟩ := ty_3 (n + 1) e2
    subst h2
    have e3 := hq 3 _ q3 rfl rfl
    obtain ⟨x3, h3, w3⟩ := ty_3 (n + 1) e3
    subst h3
    have e4 := hq 4 _ q4 rfl rfl
    obtain ⟨x4, h4, w4⟩ := ty_9 (n + 1) e4
    subst h4
    have e5 := hq 5 _ q5 rfl rfl
    obtain ⟨x5, h5, w5⟩ := ty_23 (n + 0) e5
    subst h5
    have e6 := hq 6 _ q6 rfl rfl
    obtain ⟨x6, h6, w6⟩ := ty_3 (n + 1) e6
    subst h6
    have e7 := hq 7 _ q7 rfl rfl
    obtain ⟨x7, h7, w7⟩ := ty_9 (n + 1) e7
    subst h7
    exact ⟨⟨x0, x1, x2, x3, x4, x5, x6, x7⟩, rfl, w0, w1, w2, w3, w4, w5, w6, w7⟩

end Go.Abs.U2Z
