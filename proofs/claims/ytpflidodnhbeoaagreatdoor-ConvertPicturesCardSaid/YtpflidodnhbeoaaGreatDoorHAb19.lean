/-
  Ab19: the run and laws.
-/
import Derived.Test.YtpflidodnhbeoaaGreatDoorHAb16
import Derived.Test.YtpflidodnhbeoaaGreatDoorHAb18
set_option linter.unusedVariables false
set_option linter.unusedSimpArgs false
noncomputable section
namespace Go.Ab
open Go Go.RowKit
variable [Tabs]
end Go.Ab
