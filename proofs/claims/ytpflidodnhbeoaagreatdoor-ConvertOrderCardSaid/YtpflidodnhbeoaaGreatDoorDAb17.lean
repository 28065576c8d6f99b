/-
  The run and the laws that serve these rows (Ab17)
-/
import Derived.Test.YtpflidodnhbeoaaGreatDoorDAb16
set_option linter.unusedVariables false
set_option linter.unusedSimpArgs false
noncomputable section
namespace Go.Ab
open Go Go.RowKit
variable [Tabs]
section
variable {P : Program} {G : Env} {L : Nat → Option LoopH} {f : FuncId} {fn : Func} {m m0 m' mm : Lk} {ρ σ : Nat → Nat} {n n0 nn : Nat} {N : Nat} {w0 w : World} {ι : Nm}
end
end Go.Ab
