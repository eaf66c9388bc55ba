/- The layer 50 laws: the arguments as typed values. -/
import Derived.Test.YthoacjgjmlgaoaaDoorA35
import Derived.Test.YthoacjgjmlgaoaaDoorT1
set_option linter.unusedVariables false
set_option maxRecDepth 100000
namespace Go.Abs.U50
open Go Go.Proofs

theorem ty_3 (n : Nat) {p : PV} (h : Typed Tryd.prog (n + 1) 3 p) : ∃ x : Int, p = (.int .i64 x) ∧ inK .i64 x := by
  rw [Typed] at h
  simp only [Tryd.underlying3] at h
  obtain ⟨x, rfl, hw⟩ := h
  exact ⟨x, rfl, hw⟩

theorem ty_9 (n : Nat) {p : PV} (h : Typed Tryd.prog (n + 1) 9 p) : ∃ x : Str, p = (.str x) ∧ List.length x ≤ maxLen := by
  rw [Typed] at h
  simp only [Tryd.underlying9] at h
  obtain ⟨x, rfl, hw⟩ := h
  exact ⟨x, rfl, hw⟩

def w_22 (xs : List Str) : Prop := xs.length ≤ maxLen ∧ ∀ x ∈ xs, List.length x ≤ maxLen

theorem ty_22 (n : Nat) {p : PV} (h : Typed Tryd.prog (n + 2) 22 p) : ∃ x : List Str, p = (.slice (List.map PV.str x)) ∧ w_22 x := by
  rw [Typed] at h
  simp only [Tryd.underlying22] at h
  obtain ⟨xs, rfl, hl, hx⟩ := h
  obtain ⟨ys, rfl, hw⟩ := ex_map (f := PV.str) (W := fun x => List.length x ≤ maxLen) fun x hm => ty_9 (n + 0) (hx x hm).1
  exact ⟨ys, rfl, by rw [List.length_map] at hl; exact hl, hw⟩

def w_56 (x : Var) : Prop := inK .i64 x.id_ ∧ List.length x.name_ ≤ maxLen ∧ w_22 x.values_

theorem ty_56 (n : Nat) {p : PV} (h : Typed Tryd.prog (n + 3) 56 p) : ∃ x : Var, p = (.agg [.int .i64 x.id_, .str x.name_, .slice (List.map PV.str x.values_)]) ∧ w_56 x := by
  rw [Typed] at h
  simp only [Tryd.underlying56] at h
  obtain ⟨qs, rfl, hl, hq⟩ := h
  match qs, hl with
  | [q0, q1, q2], _ =>
    have e0 := hq 0 _ q0 rfl rfl
    obtain ⟨x0, h0, w0⟩ := ty_3 (n + 1) e0
    subst h0
    have e1 := hq 1 _ q1 rfl rfl
    obtain ⟨x1, h1, w1⟩ := ty_9 (n + 1) e1
    subst h1
    have e2 := hq 2 _ q2 rfl rfl
    obtain ⟨x2, h2, w2⟩ := ty_22 (n + 0) e2
    subst h2
    exact ⟨⟨x0, x1, x2⟩, rfl, w0, w1, w2⟩

def w_52 (xs : List Var) : Prop := xs.length ≤ maxLen ∧ ∀ x ∈ xs, w_56 x

theorem ty_52 (n : Nat) {p : PV} (h : Typed Tryd.prog (n + 4) 52 p) : ∃ x : List Var, p = (.slice (List.map Var.pv x)) ∧ w_52 x := by
  rw [Typed] at h
  simp only [Tryd.underlying52] at h
  obtain ⟨xs, rfl, hl, hx⟩ := h
  obtain ⟨ys, rfl, hw⟩ := ex_map (f := Var.pv) (W := fun x => w_56 x) fun x hm => ty_56 (n + 0) (hx x hm).1
  exact ⟨ys, rfl, by rw [List.length_map] at hl; exact hl, hw⟩

def w_54 (x : GEnv) : Prop := inK .i64 x.id_ ∧ inK .i64 x.next_ ∧ w_52 x.vars_

theorem ty_54 (n : Nat) {p : PV} (h : Typed Tryd.prog (n + 5) 54 p) : ∃ x : GEnv, p = (.agg [.int .i64 x.id_, .int .i64 x.next_, .slice (List.map Var.pv x.vars_)]) ∧ w_54 x := by
  rw [Typed] at h
  simp only [Tryd.underlying54] at h
  obtain ⟨qs, rfl, hl, hq⟩ := h
  match qs, hl with
  | [q0, q1, q2], _ =>
    have e0 := hq 0 _ q0 rfl rfl
    obtain ⟨x0, h0, w0⟩ := ty_3 (n + 3) e0
    subst h0
    have e1 := hq 1 _ q1 rfl rfl
    obtain ⟨x1, h1, w1⟩ := ty_3 (n + 3) e1
    subst h1
    have e2 := hq 2 _ q2 rfl rfl
    obtain ⟨x2, h2, w2⟩ := ty_52 (n + 0) e2
    subst h2
    exact ⟨⟨x0, x1, x2⟩, rfl, w0, w1, w2⟩

def w_30 (xs : List GEnv) : Prop := xs.length ≤ maxLen ∧ ∀ x ∈ xs, w_54 x

theorem ty_30 (n : Nat) {p : PV} (h : Typed Tryd.prog (n + 6) 30 p) : ∃ x : List GEnv, p = (.slice (List.map GEnv.pv x)) ∧ w_30 x := by
  rw [Typed] at h
  simp only [Tryd.underlying30] at h
  obtain ⟨xs, rfl, hl, hx⟩ := h
  obtain ⟨ys, rfl, hw⟩ := ex_map (f := GEnv.pv) (W := fun x => w_54 x) fun x hm => ty_54 (n + 0) (hx x hm).1
  exact ⟨ys, rfl, by rw [List.length_map] at hl; exact hl, hw⟩

theorem ty_4 (n : Nat) {p : PV} (h : Typed Tryd.prog (n + 1) 4 p) : ∃ x : Bool, p = (.bool x) ∧ True := by
  rw [Typed] at h
  simp only [Tryd.underlying4] at h
  obtain ⟨x, rfl⟩ := h
  exact ⟨x, rfl, trivial⟩

end Go.Abs.U50
