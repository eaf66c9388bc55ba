/- The fixed examples of partsAwake are true; no condition. -/
import Derived.Test.YtkfcehagblhjaaaGreatDoorD1
set_option linter.unusedVariables false
set_option linter.unusedSimpArgs false
set_option linter.defProp false
namespace Go.Abs.U54
open Go
theorem awake_true:F4=some true:=by kernel_rfl
end Go.Abs.U54
