/- The layer 45 laws, in plain Lean: for every typed argument. -/
import Derived.Test.YtddhgkeiiobfeaaDoorTY
import Derived.Test.YtddhgkeiiobfeaaDoorPN
namespace Go.Abs.U45
open Go
set_option linter.unusedVariables false

theorem inK64 {n : Int} (h : inK .i64 n) : -9223372036854775808 ≤ n ∧ n ≤ 9223372036854775807 := by
  unfold inK Lit.wf at h
  simp [IntKind.min, IntKind.max, IntKind.signed, IntKind.bits] at h
  omega

theorem law3 (x : NsOp) (w : w_23 x) : F3 x = some true := plain3 x (inK64 w.2.1).2
theorem law4 (x : Ns) (wx : w_33 x) (y : Str) (wy : y.length ≤ maxLen) : F4 x y = some true := plain4 x y
theorem law5 (x : Ns) (wx : w_33 x) (y : Str) (wy : y.length ≤ maxLen) : F5 x y = some true := plain5 x y (by unfold maxLen at wy; omega)
theorem law6 (x : List NsOp) (w : w_43 x) : F6 x = some true := plain6 x fun op ho => (inK64 (w.2 op ho).2.1).2
theorem law7 (x : List NsOp) (w : w_43 x) : F7 x = some true := plain7 x fun op ho => (inK64 (w.2 op ho).2.1).2

end Go.Abs.U45
