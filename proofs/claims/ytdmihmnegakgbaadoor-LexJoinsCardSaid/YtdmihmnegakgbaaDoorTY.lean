/- The layer 47 laws: the arguments as typed values. -/
import Derived.Test.YtdmihmnegakgbaaDoorA35
import Derived.Test.YtdmihmnegakgbaaDoorT1
set_option linter.unusedVariables false
set_option maxRecDepth 100000
namespace Go.Abs.U47
open Go Go.Proofs

theorem ty_9 (n : Nat) {p : PV} (h : Typed Tryd.prog (n + 1) 9 p) : ∃ x : Str, p = (.str x) ∧ List.length x ≤ maxLen := by
  rw [Typed] at h
  simp only [Tryd.underlying9] at h
  obtain ⟨x, rfl, hw⟩ := h
  exact ⟨x, rfl, hw⟩

theorem ty_3 (n : Nat) {p : PV} (h : Typed Tryd.prog (n + 1) 3 p) : ∃ x : Int, p = (.int .i64 x) ∧ inK .i64 x := by
  rw [Typed] at h
  simp only [Tryd.underlying3] at h
  obtain ⟨x, rfl, hw⟩ := h
  exact ⟨x, rfl, hw⟩

theorem ty_5 (n : Nat) {p : PV} (h : Typed Tryd.prog (n + 1) 5 p) : ∃ x : Int, p = (.int .u8 x) ∧ inK .u8 x := by
  rw [Typed] at h
  simp only [Tryd.underlying5] at h
  obtain ⟨x, rfl, hw⟩ := h
  exact ⟨x, rfl, hw⟩

end Go.Abs.U47
