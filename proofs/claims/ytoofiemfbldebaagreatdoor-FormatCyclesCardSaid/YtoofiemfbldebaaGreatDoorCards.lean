/-
  DERIVED. GIVEN WITH THE SEED: THE CARDS: each row of YtoofiemfbldebaaGreatDoorRows.lean that lists a variable, with what it lists TIED to the program's text (the seventh form; the later family's looks); each row that meets fmt, with fmt's text TOLD by the authors' own Lean function (tested against real Go, not proved from fmt's source: count such statements apart). THE CARD IS WHAT COUNTS. Prove the row's statement (the work); the ties are given (YtoofiemfbldebaaGreatDoorTie.lean); close each card by the builder's one call (the guide's Derived/Test/ToyasCard.lean, 'card_holds'). Laid BY PROGRAM, IN A SANDBOX (cutbox-door.mjs). By AI agents, Wed Nov 11 2026. No macro, syntax, notation, axiom, sorry.
-/
import Derived.Test.YtoofiemfbldebaaGreatDoorRows
import GoSem.ClaimSeven
namespace Go.Proofs.YtoofiemfbldebaaGreatDoor
namespace Rows

/-- THE TIED CARD OF 'pliantlaw13.FormatRounds'. -/
def formatRoundsCard : Claim7 := { stood := { row := formatRoundsRow, standIns := [], harness := (true, "194b5b2e2e12b30d3d25bcbfad02f561222b8d466eeb4cea07aad47b7c5b09f6"), looks := true }, kinds := [], alts := [], laidByText := true, laidKinds := [.data, .data, .data, .data, .handle, .sentinel, .sentinel, .data, .pinned], laidTests := true, laidLooks := .later }
def FormatRoundsCardSaid : Prop := Claim7.holds Tryz.pinned (.plain (OpenSpec.ofChange formatRoundsSpec)) formatRoundsCard

/-- THE TIED CARD OF 'pliantlaw13.FormatCycles'. -/
def formatCyclesCard : Claim7 := { stood := { row := formatCyclesRow, standIns := [], harness := (true, "194b5b2e2e12b30d3d25bcbfad02f561222b8d466eeb4cea07aad47b7c5b09f6"), looks := true }, kinds := [], alts := [], laidByText := true, laidKinds := [.data, .data, .data, .data, .handle, .sentinel, .sentinel, .data, .pinned], laidTests := true, laidLooks := .later }
def FormatCyclesCardSaid : Prop := Claim7.holds Tryz.pinned (.plain (OpenSpec.ofChange formatCyclesSpec)) formatCyclesCard

/-- THE TIED CARD OF 'pliantlaw13.FormatPlain'. -/
def formatPlainCard : Claim7 := { stood := { row := formatPlainRow, standIns := [], harness := (true, "194b5b2e2e12b30d3d25bcbfad02f561222b8d466eeb4cea07aad47b7c5b09f6"), looks := true }, kinds := [], alts := [], laidByText := true, laidKinds := [.data, .data, .data, .data, .handle, .sentinel, .sentinel, .data, .pinned], laidTests := true, laidLooks := .later }
def FormatPlainCardSaid : Prop := Claim7.holds Tryz.pinned (.plain (OpenSpec.ofChange formatPlainSpec)) formatPlainCard

/-- THE SECOND FORM's CARD OF 'pliantlaw13.FormatRounds'. -/
def formatRoundsUptoCard : Claim7 := { stood := { row := formatRoundsUptoRow, standIns := [], harness := (true, "194b5b2e2e12b30d3d25bcbfad02f561222b8d466eeb4cea07aad47b7c5b09f6"), looks := true }, kinds := [], alts := [], laidByText := true, laidKinds := [.data, .data, .data, .data, .handle, .sentinel, .sentinel, .data, .pinned], laidTests := true, laidLooks := .later }
def FormatRoundsUptoCardSaid : Prop := Claim7.holds Tryz.pinned (.plain (OpenSpec.upto formatRoundsSpec)) formatRoundsUptoCard

/-- THE SECOND FORM's CARD OF 'pliantlaw13.FormatCycles'. -/
def formatCyclesUptoCard : Claim7 := { stood := { row := formatCyclesUptoRow, standIns := [], harness := (true, "194b5b2e2e12b30d3d25bcbfad02f561222b8d466eeb4cea07aad47b7c5b09f6"), looks := true }, kinds := [], alts := [], laidByText := true, laidKinds := [.data, .data, .data, .data, .handle, .sentinel, .sentinel, .data, .pinned], laidTests := true, laidLooks := .later }
def FormatCyclesUptoCardSaid : Prop := Claim7.holds Tryz.pinned (.plain (OpenSpec.upto formatCyclesSpec)) formatCyclesUptoCard

/-- THE SECOND FORM's CARD OF 'pliantlaw13.FormatPlain'. -/
def formatPlainUptoCard : Claim7 := { stood := { row := formatPlainUptoRow, standIns := [], harness := (true, "194b5b2e2e12b30d3d25bcbfad02f561222b8d466eeb4cea07aad47b7c5b09f6"), looks := true }, kinds := [], alts := [], laidByText := true, laidKinds := [.data, .data, .data, .data, .handle, .sentinel, .sentinel, .data, .pinned], laidTests := true, laidLooks := .later }
def FormatPlainUptoCardSaid : Prop := Claim7.holds Tryz.pinned (.plain (OpenSpec.upto formatPlainSpec)) formatPlainUptoCard
end Rows
end Go.Proofs.YtoofiemfbldebaaGreatDoor
