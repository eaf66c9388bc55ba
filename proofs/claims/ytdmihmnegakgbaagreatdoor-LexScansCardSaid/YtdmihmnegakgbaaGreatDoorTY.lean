/- The layer 47 laws: the arguments as typed values. -/
import Derived.Test.YtdmihmnegakgbaaGreatDoorA35
import Derived.Test.YtdmihmnegakgbaaGreatDoorT1
set_option linter.unusedVariables false
set_option maxRecDepth 100000
namespace Go.Abs.U47
open Go Go.Proofs

theorem ty_9 (n : Nat) {p : PV} (h : Typed Tryz.prog (n + 1) 9 p) : ∃ x : Str, p = (.str x) ∧ List.length x ≤ maxLen := by
  rw [Typed] at h
  simp only [Tryz.underlying9] at h
  obtain ⟨x, rfl, hw⟩ := h
  exact ⟨x, rfl, hw⟩

end Go.Abs.U47
