/-
  The walks of the picture functions and of the laws of reading back, fitting, suppression and signs, in parts. (Ab12)
-/
import Derived.Test.YtheglfmhbfngkaaGreatDoorAb11
set_option linter.unusedVariables false
set_option linter.unusedSimpArgs false
noncomputable section
namespace Go.Ab
open Go Go.RowKit
variable [Tabs]
section
variable {P : Program}
end
end Go.Ab
