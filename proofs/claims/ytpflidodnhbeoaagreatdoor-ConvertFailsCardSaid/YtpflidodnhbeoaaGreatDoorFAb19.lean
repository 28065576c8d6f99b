/-
  The run and the laws that serve these rows (Ab19)
-/
import Derived.Test.YtpflidodnhbeoaaGreatDoorFAb16
import Derived.Test.YtpflidodnhbeoaaGreatDoorFAb18
set_option linter.unusedVariables false
set_option linter.unusedSimpArgs false
noncomputable section
namespace Go.Ab
open Go Go.RowKit
variable [Tabs]
end Go.Ab
