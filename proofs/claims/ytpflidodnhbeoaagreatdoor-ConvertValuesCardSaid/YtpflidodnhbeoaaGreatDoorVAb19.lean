/-
  Ab19: the run and laws.
-/
import Derived.Test.YtpflidodnhbeoaaGreatDoorVAb16
import Derived.Test.YtpflidodnhbeoaaGreatDoorVAb18
set_option linter.unusedVariables false
set_option linter.unusedSimpArgs false
noncomputable section
namespace Go.Ab
open Go Go.RowKit
variable [Tabs]
end Go.Ab
