/-
  The run and the laws that serve these rows (Ab12)
-/
import Derived.Test.YtheglfmhbfngkaaGreatDoorZAb11
set_option linter.unusedVariables false
set_option linter.unusedSimpArgs false
noncomputable section
namespace Go.Ab
open Go Go.RowKit
variable [Tabs]
section
variable {P : Program}
end
end Go.Ab
