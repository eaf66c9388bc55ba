/- The layer 45 laws, in plain Lean: for every typed argument. -/
import Derived.Test.YtddhgkeiiobfeaaDoorTY
import Derived.Test.YtddhgkeiiobfeaaDoorP3
namespace Go.Abs.U45
open Go

theorem inK64 {n : Int} (h : inK .i64 n) : -9223372036854775808 ≤ n ∧ n ≤ 9223372036854775807 := by
  unfold inK Lit.wf at h
  simp [IntKind.min, IntKind.max, IntKind.signed, IntKind.bits] at h
  omega

theorem law3 (x : NsOp) (w : w_23 x) : F3 x = some true := plain3 x (inK64 w.2.1).2

end Go.Abs.U45
