/- The layer 5 laws: the arguments as typed values. -/
import Derived.Test.YtibmhmnhiflmjaaDoorA35
import Derived.Test.YtibmhmnhiflmjaaDoorT1
set_option linter.unusedVariables false
namespace Go.Abs.U05
open Go Go.Proofs

theorem ty_9 (n : Nat) {p : PV} (h : Typed Tryd.prog (n + 1) 9 p) : ∃ x : Str, p = (.str x) ∧ List.length x ≤ maxLen := by
  simp only [Typed, Tryd.underlying9] at h
  obtain ⟨x, rfl, hw⟩ := h
  exact ⟨x, rfl, hw⟩

def w_30 (xs : List Str) : Prop := xs.length ≤ maxLen ∧ ∀ x ∈ xs, List.length x ≤ maxLen

theorem ty_30 (n : Nat) {p : PV} (h : Typed Tryd.prog (n + 2) 30 p) : ∃ x : List Str, p = (.slice (List.map PV.str x)) ∧ w_30 x := by
  simp only [Typed, Tryd.underlying30] at h
  obtain ⟨xs, rfl, hl, hx⟩ := h
  obtain ⟨ys, rfl, hw⟩ := ex_map (f := PV.str) (W := fun x => List.length x ≤ maxLen) fun x hm => ty_9 (n + 0) (hx x hm).1
  exact ⟨ys, rfl, by rw [List.length_map] at hl; exact hl, hw⟩

def w_32 (x : User) : Prop := List.length x.name_ ≤ maxLen ∧ List.length x.leader_ ≤ maxLen ∧ w_30 x.members_

theorem ty_32 (n : Nat) {p : PV} (h : Typed Tryd.prog (n + 3) 32 p) : ∃ x : User, p = (.agg [.str x.name_, .str x.leader_, .slice (List.map PV.str x.members_)]) ∧ w_32 x := by
  simp only [Typed, Tryd.underlying32] at h
  obtain ⟨qs, rfl, hl, hq⟩ := h
  match qs, hl with
  | [q0, q1, q2], _ =>
    obtain ⟨x0, h0, w0⟩ := ty_9 (n + 1) (hq 0 _ q0 rfl rfl)
    subst h0
    obtain ⟨x1, h1, w1⟩ := ty_9 (n + 1) (hq 1 _ q1 rfl rfl)
    subst h1
    obtain ⟨x2, h2, w2⟩ := ty_30 (n + 0) (hq 2 _ q2 rfl rfl)
    subst h2
    exact ⟨⟨x0, x1, x2⟩, rfl, w0, w1, w2⟩

def w_24 (xs : List User) : Prop := xs.length ≤ maxLen ∧ ∀ x ∈ xs, w_32 x

theorem ty_24 (n : Nat) {p : PV} (h : Typed Tryd.prog (n + 4) 24 p) : ∃ x : List User, p = (.slice (List.map User.pv x)) ∧ w_24 x := by
  simp only [Typed, Tryd.underlying24] at h
  obtain ⟨xs, rfl, hl, hx⟩ := h
  obtain ⟨ys, rfl, hw⟩ := ex_map (f := User.pv) (W := fun x => w_32 x) fun x hm => ty_32 (n + 0) (hx x hm).1
  exact ⟨ys, rfl, by rw [List.length_map] at hl; exact hl, hw⟩

theorem ty_3 (n : Nat) {p : PV} (h : Typed Tryd.prog (n + 1) 3 p) : ∃ x : Int, p = (.int .i64 x) ∧ inK .i64 x := by
  simp only [Typed, Tryd.underlying3] at h
  obtain ⟨x, rfl, hw⟩ := h
  exact ⟨x, rfl, hw⟩

end Go.Abs.U05
