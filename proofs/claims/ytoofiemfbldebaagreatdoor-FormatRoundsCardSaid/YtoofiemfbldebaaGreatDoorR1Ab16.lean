/-
  Ab16: the run and laws.
-/
import Derived.Test.YtoofiemfbldebaaGreatDoorR1Ab15
import Derived.Deep.SlicePairs
import Derived.WideKeyArgs
set_option linter.unusedVariables false
set_option linter.unusedSimpArgs false
set_option linter.unusedSectionVars false
noncomputable section
namespace Go.Ab
open Go Go.ChangeMaps Go.ChangeShapes Go.WideShapes Go.ChangeAt Go.RowKit Go.Joins
variable [Tabs]
section
variable {P : Program} {G : Env} {nt : Nat} {N : Nat} {w0 : World} {ι : Nm} {a : Act} {w : World}
end
def loutQ(live mid:List Nat)(n:Nat)(K:Exit→Tmps→Lk→Nat→Prop)(e:Exit)(vs:E)(bs:J):Prop:=
 match cnd (jax n vs&&jbs n bs)with
 | true=>∀x,K e (tl live vs x) (ml mid bs) n
 | false=>False
section
variable {H : Type} {enc : TypeId × Value → H} {P : Program}
end
end Go.Ab
