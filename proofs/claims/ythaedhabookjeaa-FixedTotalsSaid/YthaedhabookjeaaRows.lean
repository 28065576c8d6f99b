/-
  No cell of these rows narrows 'for every input' (looked for: loops, veiled, ifaces, maps, wideKeys, modest, calm, conditions, laid).
  DERIVED. THE GIVEN ROWS OF THIS SEAT. 17 by the template 'for every input the law returns true; each argument reads behind the call as it read before'; 0 by the template 'total and deterministic' (their statements: YthaedhabookjeaaTotals.lean).
  GIVEN WITH THE SEED: the statements are not yours to turn. If you find one false, say at which input.
  Laid BY PROGRAM, IN A SANDBOX (cutbox-rows.mjs): the forced cells as the released guide's own fill.sh prints them over the translation abccdf7a346bf333… (all of the seat's roots in one cut). By AI agents, Wed Nov 11 2026. No macro, syntax, notation, axiom, sorry.
-/
import Derived.Test.YthaedhabookjeaaChecked
import GoSem.Claim
import GoSem.ClaimJoined
import GoSem.ClaimMapViews
import Derived.JoinedTies
import Derived.KernelRfl
namespace Go.Proofs.Ythaedhabookjeaa
/- THE CELL 'sum', in the pinned program and in every row, IS THE sha256 OF THE DUMP (.gsa) THAT YthaedhabookjeaaProg.lean LOADS. Nothing in Lean hashes anything: it is a label: what it is worth is what the hold of that sum in a sandbox is worth. -/
noncomputable def Try.pinned : Pinned := { name := "ythaedhabookjeaa", sum := "abccdf7a346bf333c7a7c3277eed6a1adc522b3e77db9d579c9e2f0f41408906", checked := Try.checked }
namespace Rows
def none {H : Type} : Left H := { results := [], args := [] }

/-- 'pliantlaw01.FixedTypes': WHATEVER THE INPUT: true; the input reads as it did. -/
def fixedTypesSpec : ChangeSpec := { name := "fixedTypes", fn := fun _ => fun
  | [d1, d2, d3, d4, d5] => { results := [.lit (.bool true)], args := [d1, d2, d3, d4, d5] }
  | _ => none }
def fixedTypesRow : OpenClaim := { program := "ythaedhabookjeaa", sum := "abccdf7a346bf333c7a7c3277eed6a1adc522b3e77db9d579c9e2f0f41408906", func := "pliant/pliantlaw01.FixedTypes", spec := "fixedTypes", unfollowed := true, recurses := true, apart := false }
def FixedTypesSaid : Prop := fixedTypesRow.holds Try.pinned (OpenSpec.ofChange fixedTypesSpec)

/-- ITS FALSE NEIGHBOUR: 'it returns false'. Refute it at one input. -/
def fixedTypesWrong : ChangeSpec := { name := "fixedTypes", fn := fun _ => fun
  | [d1, d2, d3, d4, d5] => { results := [.lit (.bool false)], args := [d1, d2, d3, d4, d5] }
  | _ => none }
def FixedTypesWrongFalsely : Prop := fixedTypesRow.holds Try.pinned (OpenSpec.ofChange fixedTypesWrong)

/-- 'pliantlaw01.FixedOperators': WHATEVER THE INPUT: true; the input reads as it did. -/
def fixedOperatorsSpec : ChangeSpec := { name := "fixedOperators", fn := fun _ => fun
  | [d1, d2, d3, d4, d5] => { results := [.lit (.bool true)], args := [d1, d2, d3, d4, d5] }
  | _ => none }
def fixedOperatorsRow : OpenClaim := { program := "ythaedhabookjeaa", sum := "abccdf7a346bf333c7a7c3277eed6a1adc522b3e77db9d579c9e2f0f41408906", func := "pliant/pliantlaw01.FixedOperators", spec := "fixedOperators", unfollowed := true, recurses := true, apart := false }
def FixedOperatorsSaid : Prop := fixedOperatorsRow.holds Try.pinned (OpenSpec.ofChange fixedOperatorsSpec)

/-- ITS FALSE NEIGHBOUR: 'it returns false'. Refute it at one input. -/
def fixedOperatorsWrong : ChangeSpec := { name := "fixedOperators", fn := fun _ => fun
  | [d1, d2, d3, d4, d5] => { results := [.lit (.bool false)], args := [d1, d2, d3, d4, d5] }
  | _ => none }
def FixedOperatorsWrongFalsely : Prop := fixedOperatorsRow.holds Try.pinned (OpenSpec.ofChange fixedOperatorsWrong)

/-- 'pliantlaw01.FixedInto': WHATEVER THE INPUT: true; the input reads as it did. -/
def fixedIntoSpec : ChangeSpec := { name := "fixedInto", fn := fun _ => fun
  | [d1, d2, d3, d4, d5, d6] => { results := [.lit (.bool true)], args := [d1, d2, d3, d4, d5, d6] }
  | _ => none }
def fixedIntoRow : OpenClaim := { program := "ythaedhabookjeaa", sum := "abccdf7a346bf333c7a7c3277eed6a1adc522b3e77db9d579c9e2f0f41408906", func := "pliant/pliantlaw01.FixedInto", spec := "fixedInto", unfollowed := true, recurses := true, apart := false }
def FixedIntoSaid : Prop := fixedIntoRow.holds Try.pinned (OpenSpec.ofChange fixedIntoSpec)

/-- ITS FALSE NEIGHBOUR: 'it returns false'. Refute it at one input. -/
def fixedIntoWrong : ChangeSpec := { name := "fixedInto", fn := fun _ => fun
  | [d1, d2, d3, d4, d5, d6] => { results := [.lit (.bool false)], args := [d1, d2, d3, d4, d5, d6] }
  | _ => none }
def FixedIntoWrongFalsely : Prop := fixedIntoRow.holds Try.pinned (OpenSpec.ofChange fixedIntoWrong)

/-- 'pliantlaw01.FixedCompares': WHATEVER THE INPUT: true; the input reads as it did. -/
def fixedComparesSpec : ChangeSpec := { name := "fixedCompares", fn := fun _ => fun
  | [d1, d2, d3, d4] => { results := [.lit (.bool true)], args := [d1, d2, d3, d4] }
  | _ => none }
def fixedComparesRow : OpenClaim := { program := "ythaedhabookjeaa", sum := "abccdf7a346bf333c7a7c3277eed6a1adc522b3e77db9d579c9e2f0f41408906", func := "pliant/pliantlaw01.FixedCompares", spec := "fixedCompares", unfollowed := true, recurses := true, apart := false }
def FixedComparesSaid : Prop := fixedComparesRow.holds Try.pinned (OpenSpec.ofChange fixedComparesSpec)

/-- ITS FALSE NEIGHBOUR: 'it returns false'. Refute it at one input. -/
def fixedComparesWrong : ChangeSpec := { name := "fixedCompares", fn := fun _ => fun
  | [d1, d2, d3, d4] => { results := [.lit (.bool false)], args := [d1, d2, d3, d4] }
  | _ => none }
def FixedComparesWrongFalsely : Prop := fixedComparesRow.holds Try.pinned (OpenSpec.ofChange fixedComparesWrong)

/-- 'pliantlaw01.FixedRounds': WHATEVER THE INPUT: true; the input reads as it did. -/
def fixedRoundsSpec : ChangeSpec := { name := "fixedRounds", fn := fun _ => fun
  | [d1, d2, d3] => { results := [.lit (.bool true)], args := [d1, d2, d3] }
  | _ => none }
def fixedRoundsRow : OpenClaim := { program := "ythaedhabookjeaa", sum := "abccdf7a346bf333c7a7c3277eed6a1adc522b3e77db9d579c9e2f0f41408906", func := "pliant/pliantlaw01.FixedRounds", spec := "fixedRounds", unfollowed := true, recurses := true, apart := false }
def FixedRoundsSaid : Prop := fixedRoundsRow.holds Try.pinned (OpenSpec.ofChange fixedRoundsSpec)

/-- ITS FALSE NEIGHBOUR: 'it returns false'. Refute it at one input. -/
def fixedRoundsWrong : ChangeSpec := { name := "fixedRounds", fn := fun _ => fun
  | [d1, d2, d3] => { results := [.lit (.bool false)], args := [d1, d2, d3] }
  | _ => none }
def FixedRoundsWrongFalsely : Prop := fixedRoundsRow.holds Try.pinned (OpenSpec.ofChange fixedRoundsWrong)

/-- 'pliantlaw01.FixedSums': WHATEVER THE INPUT: true; the input reads as it did. -/
def fixedSumsSpec : ChangeSpec := { name := "fixedSums", fn := fun _ => fun
  | [d1, d2] => { results := [.lit (.bool true)], args := [d1, d2] }
  | _ => none }
def fixedSumsRow : OpenClaim := { program := "ythaedhabookjeaa", sum := "abccdf7a346bf333c7a7c3277eed6a1adc522b3e77db9d579c9e2f0f41408906", func := "pliant/pliantlaw01.FixedSums", spec := "fixedSums", unfollowed := true, recurses := true, apart := false }
def FixedSumsSaid : Prop := fixedSumsRow.holds Try.pinned (OpenSpec.ofChange fixedSumsSpec)

/-- ITS FALSE NEIGHBOUR: 'it returns false'. Refute it at one input. -/
def fixedSumsWrong : ChangeSpec := { name := "fixedSums", fn := fun _ => fun
  | [d1, d2] => { results := [.lit (.bool false)], args := [d1, d2] }
  | _ => none }
def FixedSumsWrongFalsely : Prop := fixedSumsRow.holds Try.pinned (OpenSpec.ofChange fixedSumsWrong)

/-- 'pliantlaw01.FixedExact': WHATEVER THE INPUT: true; the input reads as it did. -/
def fixedExactSpec : ChangeSpec := { name := "fixedExact", fn := fun _ => fun
  | [d1, d2, d3, d4] => { results := [.lit (.bool true)], args := [d1, d2, d3, d4] }
  | _ => none }
def fixedExactRow : OpenClaim := { program := "ythaedhabookjeaa", sum := "abccdf7a346bf333c7a7c3277eed6a1adc522b3e77db9d579c9e2f0f41408906", func := "pliant/pliantlaw01.FixedExact", spec := "fixedExact", unfollowed := true, recurses := true, apart := false }
def FixedExactSaid : Prop := fixedExactRow.holds Try.pinned (OpenSpec.ofChange fixedExactSpec)

/-- ITS FALSE NEIGHBOUR: 'it returns false'. Refute it at one input. -/
def fixedExactWrong : ChangeSpec := { name := "fixedExact", fn := fun _ => fun
  | [d1, d2, d3, d4] => { results := [.lit (.bool false)], args := [d1, d2, d3, d4] }
  | _ => none }
def FixedExactWrongFalsely : Prop := fixedExactRow.holds Try.pinned (OpenSpec.ofChange fixedExactWrong)

/-- 'pliantlaw01.FixedWide': WHATEVER THE INPUT: true; the input reads as it did. -/
def fixedWideSpec : ChangeSpec := { name := "fixedWide", fn := fun _ => fun
  | [d1, d2, d3, d4, d5] => { results := [.lit (.bool true)], args := [d1, d2, d3, d4, d5] }
  | _ => none }
def fixedWideRow : OpenClaim := { program := "ythaedhabookjeaa", sum := "abccdf7a346bf333c7a7c3277eed6a1adc522b3e77db9d579c9e2f0f41408906", func := "pliant/pliantlaw01.FixedWide", spec := "fixedWide", unfollowed := true, recurses := true, apart := false }
def FixedWideSaid : Prop := fixedWideRow.holds Try.pinned (OpenSpec.ofChange fixedWideSpec)

/-- ITS FALSE NEIGHBOUR: 'it returns false'. Refute it at one input. -/
def fixedWideWrong : ChangeSpec := { name := "fixedWide", fn := fun _ => fun
  | [d1, d2, d3, d4, d5] => { results := [.lit (.bool false)], args := [d1, d2, d3, d4, d5] }
  | _ => none }
def FixedWideWrongFalsely : Prop := fixedWideRow.holds Try.pinned (OpenSpec.ofChange fixedWideWrong)

/-- 'pliantlaw01.FixedDivides': WHATEVER THE INPUT: true; the input reads as it did. -/
def fixedDividesSpec : ChangeSpec := { name := "fixedDivides", fn := fun _ => fun
  | [d1, d2, d3, d4] => { results := [.lit (.bool true)], args := [d1, d2, d3, d4] }
  | _ => none }
def fixedDividesRow : OpenClaim := { program := "ythaedhabookjeaa", sum := "abccdf7a346bf333c7a7c3277eed6a1adc522b3e77db9d579c9e2f0f41408906", func := "pliant/pliantlaw01.FixedDivides", spec := "fixedDivides", unfollowed := true, recurses := true, apart := false }
def FixedDividesSaid : Prop := fixedDividesRow.holds Try.pinned (OpenSpec.ofChange fixedDividesSpec)

/-- ITS FALSE NEIGHBOUR: 'it returns false'. Refute it at one input. -/
def fixedDividesWrong : ChangeSpec := { name := "fixedDivides", fn := fun _ => fun
  | [d1, d2, d3, d4] => { results := [.lit (.bool false)], args := [d1, d2, d3, d4] }
  | _ => none }
def FixedDividesWrongFalsely : Prop := fixedDividesRow.holds Try.pinned (OpenSpec.ofChange fixedDividesWrong)

/-- 'pliantlaw01.FixedModulo': WHATEVER THE INPUT: true; the input reads as it did. -/
def fixedModuloSpec : ChangeSpec := { name := "fixedModulo", fn := fun _ => fun
  | [d1, d2, d3, d4] => { results := [.lit (.bool true)], args := [d1, d2, d3, d4] }
  | _ => none }
def fixedModuloRow : OpenClaim := { program := "ythaedhabookjeaa", sum := "abccdf7a346bf333c7a7c3277eed6a1adc522b3e77db9d579c9e2f0f41408906", func := "pliant/pliantlaw01.FixedModulo", spec := "fixedModulo", unfollowed := true, recurses := true, apart := false }
def FixedModuloSaid : Prop := fixedModuloRow.holds Try.pinned (OpenSpec.ofChange fixedModuloSpec)

/-- ITS FALSE NEIGHBOUR: 'it returns false'. Refute it at one input. -/
def fixedModuloWrong : ChangeSpec := { name := "fixedModulo", fn := fun _ => fun
  | [d1, d2, d3, d4] => { results := [.lit (.bool false)], args := [d1, d2, d3, d4] }
  | _ => none }
def FixedModuloWrongFalsely : Prop := fixedModuloRow.holds Try.pinned (OpenSpec.ofChange fixedModuloWrong)

/-- 'pliantlaw01.FixedRing': WHATEVER THE INPUT: true; the input reads as it did. -/
def fixedRingSpec : ChangeSpec := { name := "fixedRing", fn := fun _ => fun
  | [d1, d2, d3, d4, d5, d6] => { results := [.lit (.bool true)], args := [d1, d2, d3, d4, d5, d6] }
  | _ => none }
def fixedRingRow : OpenClaim := { program := "ythaedhabookjeaa", sum := "abccdf7a346bf333c7a7c3277eed6a1adc522b3e77db9d579c9e2f0f41408906", func := "pliant/pliantlaw01.FixedRing", spec := "fixedRing", unfollowed := true, recurses := true, apart := false }
def FixedRingSaid : Prop := fixedRingRow.holds Try.pinned (OpenSpec.ofChange fixedRingSpec)

/-- ITS FALSE NEIGHBOUR: 'it returns false'. Refute it at one input. -/
def fixedRingWrong : ChangeSpec := { name := "fixedRing", fn := fun _ => fun
  | [d1, d2, d3, d4, d5, d6] => { results := [.lit (.bool false)], args := [d1, d2, d3, d4, d5, d6] }
  | _ => none }
def FixedRingWrongFalsely : Prop := fixedRingRow.holds Try.pinned (OpenSpec.ofChange fixedRingWrong)

/-- 'pliantlaw01.FixedOrder': WHATEVER THE INPUT: true; the input reads as it did. -/
def fixedOrderSpec : ChangeSpec := { name := "fixedOrder", fn := fun _ => fun
  | [d1, d2, d3, d4, d5, d6] => { results := [.lit (.bool true)], args := [d1, d2, d3, d4, d5, d6] }
  | _ => none }
def fixedOrderRow : OpenClaim := { program := "ythaedhabookjeaa", sum := "abccdf7a346bf333c7a7c3277eed6a1adc522b3e77db9d579c9e2f0f41408906", func := "pliant/pliantlaw01.FixedOrder", spec := "fixedOrder", unfollowed := true, recurses := true, apart := false }
def FixedOrderSaid : Prop := fixedOrderRow.holds Try.pinned (OpenSpec.ofChange fixedOrderSpec)

/-- ITS FALSE NEIGHBOUR: 'it returns false'. Refute it at one input. -/
def fixedOrderWrong : ChangeSpec := { name := "fixedOrder", fn := fun _ => fun
  | [d1, d2, d3, d4, d5, d6] => { results := [.lit (.bool false)], args := [d1, d2, d3, d4, d5, d6] }
  | _ => none }
def FixedOrderWrongFalsely : Prop := fixedOrderRow.holds Try.pinned (OpenSpec.ofChange fixedOrderWrong)

/-- 'pliantlaw01.FixedAssigns': WHATEVER THE INPUT: true; the input reads as it did. -/
def fixedAssignsSpec : ChangeSpec := { name := "fixedAssigns", fn := fun _ => fun
  | [d1, d2, d3, d4, d5] => { results := [.lit (.bool true)], args := [d1, d2, d3, d4, d5] }
  | _ => none }
def fixedAssignsRow : OpenClaim := { program := "ythaedhabookjeaa", sum := "abccdf7a346bf333c7a7c3277eed6a1adc522b3e77db9d579c9e2f0f41408906", func := "pliant/pliantlaw01.FixedAssigns", spec := "fixedAssigns", unfollowed := true, recurses := true, apart := false }
def FixedAssignsSaid : Prop := fixedAssignsRow.holds Try.pinned (OpenSpec.ofChange fixedAssignsSpec)

/-- ITS FALSE NEIGHBOUR: 'it returns false'. Refute it at one input. -/
def fixedAssignsWrong : ChangeSpec := { name := "fixedAssigns", fn := fun _ => fun
  | [d1, d2, d3, d4, d5] => { results := [.lit (.bool false)], args := [d1, d2, d3, d4, d5] }
  | _ => none }
def FixedAssignsWrongFalsely : Prop := fixedAssignsRow.holds Try.pinned (OpenSpec.ofChange fixedAssignsWrong)

/-- 'pliantlaw01.FixedBases': WHATEVER THE INPUT: true; the input reads as it did. -/
def fixedBasesSpec : ChangeSpec := { name := "fixedBases", fn := fun _ => fun
  | [d1, d2] => { results := [.lit (.bool true)], args := [d1, d2] }
  | _ => none }
def fixedBasesRow : OpenClaim := { program := "ythaedhabookjeaa", sum := "abccdf7a346bf333c7a7c3277eed6a1adc522b3e77db9d579c9e2f0f41408906", func := "pliant/pliantlaw01.FixedBases", spec := "fixedBases", unfollowed := true, recurses := true, apart := false }
def FixedBasesSaid : Prop := fixedBasesRow.holds Try.pinned (OpenSpec.ofChange fixedBasesSpec)

/-- ITS FALSE NEIGHBOUR: 'it returns false'. Refute it at one input. -/
def fixedBasesWrong : ChangeSpec := { name := "fixedBases", fn := fun _ => fun
  | [d1, d2] => { results := [.lit (.bool false)], args := [d1, d2] }
  | _ => none }
def FixedBasesWrongFalsely : Prop := fixedBasesRow.holds Try.pinned (OpenSpec.ofChange fixedBasesWrong)

/-- 'pliantlaw01.FixedRounding': WHATEVER THE INPUT: true; the input reads as it did. -/
def fixedRoundingSpec : ChangeSpec := { name := "fixedRounding", fn := fun _ => fun
  | [d1, d2, d3] => { results := [.lit (.bool true)], args := [d1, d2, d3] }
  | _ => none }
def fixedRoundingRow : OpenClaim := { program := "ythaedhabookjeaa", sum := "abccdf7a346bf333c7a7c3277eed6a1adc522b3e77db9d579c9e2f0f41408906", func := "pliant/pliantlaw01.FixedRounding", spec := "fixedRounding", unfollowed := true, recurses := true, apart := false }
def FixedRoundingSaid : Prop := fixedRoundingRow.holds Try.pinned (OpenSpec.ofChange fixedRoundingSpec)

/-- ITS FALSE NEIGHBOUR: 'it returns false'. Refute it at one input. -/
def fixedRoundingWrong : ChangeSpec := { name := "fixedRounding", fn := fun _ => fun
  | [d1, d2, d3] => { results := [.lit (.bool false)], args := [d1, d2, d3] }
  | _ => none }
def FixedRoundingWrongFalsely : Prop := fixedRoundingRow.holds Try.pinned (OpenSpec.ofChange fixedRoundingWrong)

/-- 'pliantlaw01.FixedCuts': WHATEVER THE INPUT: true; the input reads as it did. -/
def fixedCutsSpec : ChangeSpec := { name := "fixedCuts", fn := fun _ => fun
  | [d1, d2, d3, d4, d5] => { results := [.lit (.bool true)], args := [d1, d2, d3, d4, d5] }
  | _ => none }
def fixedCutsRow : OpenClaim := { program := "ythaedhabookjeaa", sum := "abccdf7a346bf333c7a7c3277eed6a1adc522b3e77db9d579c9e2f0f41408906", func := "pliant/pliantlaw01.FixedCuts", spec := "fixedCuts", unfollowed := true, recurses := true, apart := false }
def FixedCutsSaid : Prop := fixedCutsRow.holds Try.pinned (OpenSpec.ofChange fixedCutsSpec)

/-- ITS FALSE NEIGHBOUR: 'it returns false'. Refute it at one input. -/
def fixedCutsWrong : ChangeSpec := { name := "fixedCuts", fn := fun _ => fun
  | [d1, d2, d3, d4, d5] => { results := [.lit (.bool false)], args := [d1, d2, d3, d4, d5] }
  | _ => none }
def FixedCutsWrongFalsely : Prop := fixedCutsRow.holds Try.pinned (OpenSpec.ofChange fixedCutsWrong)

/-- 'pliantlaw01.FixedTotals': WHATEVER THE INPUT: true; the input reads as it did. -/
def fixedTotalsSpec : ChangeSpec := { name := "fixedTotals", fn := fun _ => fun
  | [d1, d2, d3] => { results := [.lit (.bool true)], args := [d1, d2, d3] }
  | _ => none }
def fixedTotalsRow : OpenClaim := { program := "ythaedhabookjeaa", sum := "abccdf7a346bf333c7a7c3277eed6a1adc522b3e77db9d579c9e2f0f41408906", func := "pliant/pliantlaw01.FixedTotals", spec := "fixedTotals", unfollowed := true, recurses := true, apart := false }
def FixedTotalsSaid : Prop := fixedTotalsRow.holds Try.pinned (OpenSpec.ofChange fixedTotalsSpec)

/-- ITS FALSE NEIGHBOUR: 'it returns false'. Refute it at one input. -/
def fixedTotalsWrong : ChangeSpec := { name := "fixedTotals", fn := fun _ => fun
  | [d1, d2, d3] => { results := [.lit (.bool false)], args := [d1, d2, d3] }
  | _ => none }
def FixedTotalsWrongFalsely : Prop := fixedTotalsRow.holds Try.pinned (OpenSpec.ofChange fixedTotalsWrong)

/- THE SECOND FORM. 'bulk': how many values and letters a reading holds, each counted each time it is reached (what is shared counts as often as it is met; a slice's spare places count too). A statement '..UptoSaid' is the law's where the arguments, and the package variables that the reading takes, are together of bulk at most 1048576: NARROWER than '..Said'. Prove '..Said' where nothing that the law and all that it calls make is longer than what came in: it says more and counts as full. Else prove '..UptoSaid'. A law counts once. -/
mutual
def uptoBulk {H : Type} : DataW H → Nat
  | .lit (.string bytes) => bytes.length + 1
  | .lit _ => 1
  | .nil => 1
  | .ptr d => uptoBulk d + 1
  | .slice elems spare => uptoBulkAll elems + uptoBulkAll spare + 1
  | .agg parts => uptoBulkAll parts + 1
  | .iface _ d => uptoBulk d + 1
  | .map entries => uptoBulkEntries entries + 1
  | .held _ => 1
def uptoBulkAll {H : Type} : List (DataW H) → Nat
  | [] => 0
  | d :: r => uptoBulk d + uptoBulkAll r
def uptoBulkEntries {H : Type} : List (Lit × DataW H) → Nat
  | [] => 0
  | x :: r => uptoBulkEntry x + uptoBulkEntries r
def uptoBulkEntry {H : Type} : Lit × DataW H → Nat
  | (.string bytes, d) => bytes.length + uptoBulk d + 1
  | (_, d) => uptoBulk d + 1
 end
def uptoSmall : (H : Type) → List (DataW H) → Bool := fun _ ds => decide (uptoBulkAll ds ≤ 1048576)
def OpenSpec.upto (s : _root_.Go.ChangeSpec) : _root_.Go.OpenSpec := { _root_.Go.OpenSpec.ofChange s with cond := some uptoSmall }

/-- 'pliantlaw01.FixedTypes', WHERE WHAT IT READS IS OF BULK AT MOST 1048576: true; the input reads as it did. -/
def fixedTypesUptoRow : OpenClaim := { program := "ythaedhabookjeaa", sum := "abccdf7a346bf333c7a7c3277eed6a1adc522b3e77db9d579c9e2f0f41408906", func := "pliant/pliantlaw01.FixedTypes", spec := "fixedTypes", unfollowed := true, recurses := true, apart := false, narrowed := true }
def FixedTypesUptoSaid : Prop := fixedTypesUptoRow.holds Try.pinned (OpenSpec.upto fixedTypesSpec)

/-- 'pliantlaw01.FixedOperators', WHERE WHAT IT READS IS OF BULK AT MOST 1048576: true; the input reads as it did. -/
def fixedOperatorsUptoRow : OpenClaim := { program := "ythaedhabookjeaa", sum := "abccdf7a346bf333c7a7c3277eed6a1adc522b3e77db9d579c9e2f0f41408906", func := "pliant/pliantlaw01.FixedOperators", spec := "fixedOperators", unfollowed := true, recurses := true, apart := false, narrowed := true }
def FixedOperatorsUptoSaid : Prop := fixedOperatorsUptoRow.holds Try.pinned (OpenSpec.upto fixedOperatorsSpec)

/-- 'pliantlaw01.FixedInto', WHERE WHAT IT READS IS OF BULK AT MOST 1048576: true; the input reads as it did. -/
def fixedIntoUptoRow : OpenClaim := { program := "ythaedhabookjeaa", sum := "abccdf7a346bf333c7a7c3277eed6a1adc522b3e77db9d579c9e2f0f41408906", func := "pliant/pliantlaw01.FixedInto", spec := "fixedInto", unfollowed := true, recurses := true, apart := false, narrowed := true }
def FixedIntoUptoSaid : Prop := fixedIntoUptoRow.holds Try.pinned (OpenSpec.upto fixedIntoSpec)

/-- 'pliantlaw01.FixedCompares', WHERE WHAT IT READS IS OF BULK AT MOST 1048576: true; the input reads as it did. -/
def fixedComparesUptoRow : OpenClaim := { program := "ythaedhabookjeaa", sum := "abccdf7a346bf333c7a7c3277eed6a1adc522b3e77db9d579c9e2f0f41408906", func := "pliant/pliantlaw01.FixedCompares", spec := "fixedCompares", unfollowed := true, recurses := true, apart := false, narrowed := true }
def FixedComparesUptoSaid : Prop := fixedComparesUptoRow.holds Try.pinned (OpenSpec.upto fixedComparesSpec)

/-- 'pliantlaw01.FixedRounds', WHERE WHAT IT READS IS OF BULK AT MOST 1048576: true; the input reads as it did. -/
def fixedRoundsUptoRow : OpenClaim := { program := "ythaedhabookjeaa", sum := "abccdf7a346bf333c7a7c3277eed6a1adc522b3e77db9d579c9e2f0f41408906", func := "pliant/pliantlaw01.FixedRounds", spec := "fixedRounds", unfollowed := true, recurses := true, apart := false, narrowed := true }
def FixedRoundsUptoSaid : Prop := fixedRoundsUptoRow.holds Try.pinned (OpenSpec.upto fixedRoundsSpec)

/-- 'pliantlaw01.FixedSums', WHERE WHAT IT READS IS OF BULK AT MOST 1048576: true; the input reads as it did. -/
def fixedSumsUptoRow : OpenClaim := { program := "ythaedhabookjeaa", sum := "abccdf7a346bf333c7a7c3277eed6a1adc522b3e77db9d579c9e2f0f41408906", func := "pliant/pliantlaw01.FixedSums", spec := "fixedSums", unfollowed := true, recurses := true, apart := false, narrowed := true }
def FixedSumsUptoSaid : Prop := fixedSumsUptoRow.holds Try.pinned (OpenSpec.upto fixedSumsSpec)

/-- 'pliantlaw01.FixedExact', WHERE WHAT IT READS IS OF BULK AT MOST 1048576: true; the input reads as it did. -/
def fixedExactUptoRow : OpenClaim := { program := "ythaedhabookjeaa", sum := "abccdf7a346bf333c7a7c3277eed6a1adc522b3e77db9d579c9e2f0f41408906", func := "pliant/pliantlaw01.FixedExact", spec := "fixedExact", unfollowed := true, recurses := true, apart := false, narrowed := true }
def FixedExactUptoSaid : Prop := fixedExactUptoRow.holds Try.pinned (OpenSpec.upto fixedExactSpec)

/-- 'pliantlaw01.FixedWide', WHERE WHAT IT READS IS OF BULK AT MOST 1048576: true; the input reads as it did. -/
def fixedWideUptoRow : OpenClaim := { program := "ythaedhabookjeaa", sum := "abccdf7a346bf333c7a7c3277eed6a1adc522b3e77db9d579c9e2f0f41408906", func := "pliant/pliantlaw01.FixedWide", spec := "fixedWide", unfollowed := true, recurses := true, apart := false, narrowed := true }
def FixedWideUptoSaid : Prop := fixedWideUptoRow.holds Try.pinned (OpenSpec.upto fixedWideSpec)

/-- 'pliantlaw01.FixedDivides', WHERE WHAT IT READS IS OF BULK AT MOST 1048576: true; the input reads as it did. -/
def fixedDividesUptoRow : OpenClaim := { program := "ythaedhabookjeaa", sum := "abccdf7a346bf333c7a7c3277eed6a1adc522b3e77db9d579c9e2f0f41408906", func := "pliant/pliantlaw01.FixedDivides", spec := "fixedDivides", unfollowed := true, recurses := true, apart := false, narrowed := true }
def FixedDividesUptoSaid : Prop := fixedDividesUptoRow.holds Try.pinned (OpenSpec.upto fixedDividesSpec)

/-- 'pliantlaw01.FixedModulo', WHERE WHAT IT READS IS OF BULK AT MOST 1048576: true; the input reads as it did. -/
def fixedModuloUptoRow : OpenClaim := { program := "ythaedhabookjeaa", sum := "abccdf7a346bf333c7a7c3277eed6a1adc522b3e77db9d579c9e2f0f41408906", func := "pliant/pliantlaw01.FixedModulo", spec := "fixedModulo", unfollowed := true, recurses := true, apart := false, narrowed := true }
def FixedModuloUptoSaid : Prop := fixedModuloUptoRow.holds Try.pinned (OpenSpec.upto fixedModuloSpec)

/-- 'pliantlaw01.FixedRing', WHERE WHAT IT READS IS OF BULK AT MOST 1048576: true; the input reads as it did. -/
def fixedRingUptoRow : OpenClaim := { program := "ythaedhabookjeaa", sum := "abccdf7a346bf333c7a7c3277eed6a1adc522b3e77db9d579c9e2f0f41408906", func := "pliant/pliantlaw01.FixedRing", spec := "fixedRing", unfollowed := true, recurses := true, apart := false, narrowed := true }
def FixedRingUptoSaid : Prop := fixedRingUptoRow.holds Try.pinned (OpenSpec.upto fixedRingSpec)

/-- 'pliantlaw01.FixedOrder', WHERE WHAT IT READS IS OF BULK AT MOST 1048576: true; the input reads as it did. -/
def fixedOrderUptoRow : OpenClaim := { program := "ythaedhabookjeaa", sum := "abccdf7a346bf333c7a7c3277eed6a1adc522b3e77db9d579c9e2f0f41408906", func := "pliant/pliantlaw01.FixedOrder", spec := "fixedOrder", unfollowed := true, recurses := true, apart := false, narrowed := true }
def FixedOrderUptoSaid : Prop := fixedOrderUptoRow.holds Try.pinned (OpenSpec.upto fixedOrderSpec)

/-- 'pliantlaw01.FixedAssigns', WHERE WHAT IT READS IS OF BULK AT MOST 1048576: true; the input reads as it did. -/
def fixedAssignsUptoRow : OpenClaim := { program := "ythaedhabookjeaa", sum := "abccdf7a346bf333c7a7c3277eed6a1adc522b3e77db9d579c9e2f0f41408906", func := "pliant/pliantlaw01.FixedAssigns", spec := "fixedAssigns", unfollowed := true, recurses := true, apart := false, narrowed := true }
def FixedAssignsUptoSaid : Prop := fixedAssignsUptoRow.holds Try.pinned (OpenSpec.upto fixedAssignsSpec)

/-- 'pliantlaw01.FixedBases', WHERE WHAT IT READS IS OF BULK AT MOST 1048576: true; the input reads as it did. -/
def fixedBasesUptoRow : OpenClaim := { program := "ythaedhabookjeaa", sum := "abccdf7a346bf333c7a7c3277eed6a1adc522b3e77db9d579c9e2f0f41408906", func := "pliant/pliantlaw01.FixedBases", spec := "fixedBases", unfollowed := true, recurses := true, apart := false, narrowed := true }
def FixedBasesUptoSaid : Prop := fixedBasesUptoRow.holds Try.pinned (OpenSpec.upto fixedBasesSpec)

/-- 'pliantlaw01.FixedRounding', WHERE WHAT IT READS IS OF BULK AT MOST 1048576: true; the input reads as it did. -/
def fixedRoundingUptoRow : OpenClaim := { program := "ythaedhabookjeaa", sum := "abccdf7a346bf333c7a7c3277eed6a1adc522b3e77db9d579c9e2f0f41408906", func := "pliant/pliantlaw01.FixedRounding", spec := "fixedRounding", unfollowed := true, recurses := true, apart := false, narrowed := true }
def FixedRoundingUptoSaid : Prop := fixedRoundingUptoRow.holds Try.pinned (OpenSpec.upto fixedRoundingSpec)

/-- 'pliantlaw01.FixedCuts', WHERE WHAT IT READS IS OF BULK AT MOST 1048576: true; the input reads as it did. -/
def fixedCutsUptoRow : OpenClaim := { program := "ythaedhabookjeaa", sum := "abccdf7a346bf333c7a7c3277eed6a1adc522b3e77db9d579c9e2f0f41408906", func := "pliant/pliantlaw01.FixedCuts", spec := "fixedCuts", unfollowed := true, recurses := true, apart := false, narrowed := true }
def FixedCutsUptoSaid : Prop := fixedCutsUptoRow.holds Try.pinned (OpenSpec.upto fixedCutsSpec)

/-- 'pliantlaw01.FixedTotals', WHERE WHAT IT READS IS OF BULK AT MOST 1048576: true; the input reads as it did. -/
def fixedTotalsUptoRow : OpenClaim := { program := "ythaedhabookjeaa", sum := "abccdf7a346bf333c7a7c3277eed6a1adc522b3e77db9d579c9e2f0f41408906", func := "pliant/pliantlaw01.FixedTotals", spec := "fixedTotals", unfollowed := true, recurses := true, apart := false, narrowed := true }
def FixedTotalsUptoSaid : Prop := fixedTotalsUptoRow.holds Try.pinned (OpenSpec.upto fixedTotalsSpec)

end Rows
end Go.Proofs.Ythaedhabookjeaa
