/-
  Ab19: the run and laws.
-/
import Derived.Test.YtpflidodnhbeoaaGreatDoorKAb16
import Derived.Test.YtpflidodnhbeoaaGreatDoorKAb18
set_option linter.unusedVariables false
set_option linter.unusedSimpArgs false
noncomputable section
namespace Go.Ab
open Go Go.RowKit
variable [Tabs]
end Go.Ab
