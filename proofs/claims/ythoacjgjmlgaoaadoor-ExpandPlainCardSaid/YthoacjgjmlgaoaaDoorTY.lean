/- The layer 50 laws: the arguments as typed values. -/
import Derived.Test.YthoacjgjmlgaoaaDoorA35
import Derived.Test.YthoacjgjmlgaoaaDoorT1
set_option linter.unusedVariables false
set_option maxRecDepth 100000
namespace Go.Abs.U50
open Go Go.Proofs

theorem ty_9 (n : Nat) {p : PV} (h : Typed Tryd.prog (n + 1) 9 p) : ∃ x : Str, p = (.str x) ∧ List.length x ≤ maxLen := by
  rw [Typed] at h
  simp only [Tryd.underlying9] at h
  obtain ⟨x, rfl, hw⟩ := h
  exact ⟨x, rfl, hw⟩

def w_22 (xs : List Str) : Prop := xs.length ≤ maxLen ∧ ∀ x ∈ xs, List.length x ≤ maxLen

theorem ty_22 (n : Nat) {p : PV} (h : Typed Tryd.prog (n + 2) 22 p) : ∃ x : List Str, p = (.slice (List.map PV.str x)) ∧ w_22 x := by
  rw [Typed] at h
  simp only [Tryd.underlying22] at h
  obtain ⟨xs, rfl, hl, hx⟩ := h
  obtain ⟨ys, rfl, hw⟩ := ex_map (f := PV.str) (W := fun x => List.length x ≤ maxLen) fun x hm => ty_9 (n + 0) (hx x hm).1
  exact ⟨ys, rfl, by rw [List.length_map] at hl; exact hl, hw⟩

end Go.Abs.U50
