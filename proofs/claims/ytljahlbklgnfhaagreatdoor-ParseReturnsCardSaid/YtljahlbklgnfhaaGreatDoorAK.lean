import Derived.Test.YtljahlbklgnfhaaGreatDoorD1
import Derived.Tactics
set_option linter.unusedVariables false
namespace Go.Abs.U48
open Go.RowKit
set_option maxRecDepth 100000 in
theorem X5j:F7=some true:=by kernel_rfl
end Go.Abs.U48
