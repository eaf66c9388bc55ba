import Derived.Test.YtkiajanddmgmnaaGreatDoorA31
import Derived.Test.YtkiajanddmgmnaaGreatDoorA25
/- The abstract machine, part 35: arguments as typed values. -/
namespace Go.Abs

theorem ex_map {α : Type} {f : α → PV} {W : α → Prop} : ∀ {xs : List PV}, (∀ x ∈ xs, ∃ y, x = f y ∧ W y) → ∃ ys : List α, xs = ys.map f ∧ ∀ y ∈ ys, W y
  | [], _ => ⟨[], rfl, fun y hy => by cases hy⟩
  | x :: xs, h => by
    obtain ⟨y, hy, hw⟩ := h x (by simp)
    obtain ⟨ys, hys, hws⟩ := ex_map (xs := xs) fun z hz => h z (by simp [hz])
    refine ⟨y :: ys, by rw [hy, hys]; rfl, fun z hz => ?_⟩
    rcases List.mem_cons.1 hz with rfl | hz
    · exact hw
    · exact hws z hz

/-- The bounds of an integer of a kind. -/
def inK (k : IntKind) (n : Int) : Prop := (Lit.int k n).wf = true

end Go.Abs
