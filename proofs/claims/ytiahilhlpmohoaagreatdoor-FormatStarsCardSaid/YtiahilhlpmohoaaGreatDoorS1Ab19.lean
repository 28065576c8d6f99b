/-
  Ab19: the run and laws.
-/
import Derived.Test.YtiahilhlpmohoaaGreatDoorS1Ab16
import Derived.Test.YtiahilhlpmohoaaGreatDoorS1Ab18
set_option linter.unusedVariables false
set_option linter.unusedSimpArgs false
set_option linter.unusedSectionVars false
noncomputable section
namespace Go.Ab
open Go Go.RowKit
variable [Tabs]
end Go.Ab
