/-
  DERIVED. GIVEN WITH THE SEED: THE CARDS: each row of YtiahilhlpmohoaaGreatDoorRows.lean that lists a variable, with what it lists TIED to the program's text (the seventh form; the later family's looks); each row that meets fmt, with fmt's text TOLD by the authors' own Lean function (tested against real Go, not proved from fmt's source: count such statements apart). THE CARD IS WHAT COUNTS. Prove the row's statement (the work); the ties are given (YtiahilhlpmohoaaGreatDoorTie.lean); close each card by the builder's one call (the guide's Derived/Test/ToyasCard.lean, 'card_holds'). Laid BY PROGRAM, IN A SANDBOX (cutbox-door.mjs). By AI agents, Wed Nov 11 2026. No macro, syntax, notation, axiom, sorry.
-/
import Derived.Test.YtiahilhlpmohoaaGreatDoorRows
import GoSem.ClaimSeven
namespace Go.Proofs.YtiahilhlpmohoaaGreatDoor
namespace Rows

/-- THE TIED CARD OF 'pliantlaw13.FormatLines'. -/
def formatLinesCard : Claim7 := { stood := { row := formatLinesRow, standIns := [], harness := (true, "162ec243084bfa9709d57c15b7c67653890d8251fb86ae663da2c28d9c8f9ac0"), looks := true }, kinds := [], alts := [], laidByText := true, laidKinds := [.data, .data, .data, .data, .handle, .sentinel, .sentinel, .data, .pinned], laidTests := true, laidLooks := .later }
def FormatLinesCardSaid : Prop := Claim7.holds Tryz.pinned (.plain (OpenSpec.ofChange formatLinesSpec)) formatLinesCard

/-- THE TIED CARD OF 'pliantlaw13.FormatStars'. -/
def formatStarsCard : Claim7 := { stood := { row := formatStarsRow, standIns := [], harness := (true, "162ec243084bfa9709d57c15b7c67653890d8251fb86ae663da2c28d9c8f9ac0"), looks := true }, kinds := [], alts := [], laidByText := true, laidKinds := [.data, .data, .data, .data, .handle, .sentinel, .sentinel, .data, .pinned], laidTests := true, laidLooks := .later }
def FormatStarsCardSaid : Prop := Claim7.holds Tryz.pinned (.plain (OpenSpec.ofChange formatStarsSpec)) formatStarsCard

/-- THE TIED CARD OF 'pliantlaw13.FormatBack'. -/
def formatBackCard : Claim7 := { stood := { row := formatBackRow, standIns := [], harness := (true, "162ec243084bfa9709d57c15b7c67653890d8251fb86ae663da2c28d9c8f9ac0"), looks := true }, kinds := [], alts := [], laidByText := true, laidKinds := [.data, .data, .data, .data, .handle, .sentinel, .sentinel, .data, .pinned], laidTests := true, laidLooks := .later }
def FormatBackCardSaid : Prop := Claim7.holds Tryz.pinned (.plain (OpenSpec.ofChange formatBackSpec)) formatBackCard

/-- THE TIED CARD OF 'pliantlaw13.FormatWords'. -/
def formatWordsCard : Claim7 := { stood := { row := formatWordsRow, standIns := [], harness := (true, "162ec243084bfa9709d57c15b7c67653890d8251fb86ae663da2c28d9c8f9ac0"), looks := true }, kinds := [], alts := [], laidByText := true, laidKinds := [.data, .data, .data, .data, .handle, .sentinel, .sentinel, .data, .pinned], laidTests := true, laidLooks := .later }
def FormatWordsCardSaid : Prop := Claim7.holds Tryz.pinned (.plain (OpenSpec.ofChange formatWordsSpec)) formatWordsCard

/-- THE TIED CARD OF 'pliantlaw13.FormatLists'. -/
def formatListsCard : Claim7 := { stood := { row := formatListsRow, standIns := [], harness := (true, "162ec243084bfa9709d57c15b7c67653890d8251fb86ae663da2c28d9c8f9ac0"), looks := true }, kinds := [], alts := [], laidByText := true, laidKinds := [.data, .data, .data, .data, .handle, .sentinel, .sentinel, .data, .pinned], laidTests := true, laidLooks := .later }
def FormatListsCardSaid : Prop := Claim7.holds Tryz.pinned (.plain (OpenSpec.ofChange formatListsSpec)) formatListsCard

/-- THE TIED CARD OF 'pliantlaw13.FormatRows'. -/
def formatRowsCard : Claim7 := { stood := { row := formatRowsRow, standIns := [], harness := (true, "162ec243084bfa9709d57c15b7c67653890d8251fb86ae663da2c28d9c8f9ac0"), looks := true }, kinds := [], alts := [], laidByText := true, laidKinds := [.data, .data, .data, .data, .handle, .sentinel, .sentinel, .data, .pinned], laidTests := true, laidLooks := .later }
def FormatRowsCardSaid : Prop := Claim7.holds Tryz.pinned (.plain (OpenSpec.ofChange formatRowsSpec)) formatRowsCard

/-- THE SECOND FORM's CARD OF 'pliantlaw13.FormatLines'. -/
def formatLinesUptoCard : Claim7 := { stood := { row := formatLinesUptoRow, standIns := [], harness := (true, "162ec243084bfa9709d57c15b7c67653890d8251fb86ae663da2c28d9c8f9ac0"), looks := true }, kinds := [], alts := [], laidByText := true, laidKinds := [.data, .data, .data, .data, .handle, .sentinel, .sentinel, .data, .pinned], laidTests := true, laidLooks := .later }
def FormatLinesUptoCardSaid : Prop := Claim7.holds Tryz.pinned (.plain (OpenSpec.upto formatLinesSpec)) formatLinesUptoCard

/-- THE SECOND FORM's CARD OF 'pliantlaw13.FormatStars'. -/
def formatStarsUptoCard : Claim7 := { stood := { row := formatStarsUptoRow, standIns := [], harness := (true, "162ec243084bfa9709d57c15b7c67653890d8251fb86ae663da2c28d9c8f9ac0"), looks := true }, kinds := [], alts := [], laidByText := true, laidKinds := [.data, .data, .data, .data, .handle, .sentinel, .sentinel, .data, .pinned], laidTests := true, laidLooks := .later }
def FormatStarsUptoCardSaid : Prop := Claim7.holds Tryz.pinned (.plain (OpenSpec.upto formatStarsSpec)) formatStarsUptoCard

/-- THE SECOND FORM's CARD OF 'pliantlaw13.FormatBack'. -/
def formatBackUptoCard : Claim7 := { stood := { row := formatBackUptoRow, standIns := [], harness := (true, "162ec243084bfa9709d57c15b7c67653890d8251fb86ae663da2c28d9c8f9ac0"), looks := true }, kinds := [], alts := [], laidByText := true, laidKinds := [.data, .data, .data, .data, .handle, .sentinel, .sentinel, .data, .pinned], laidTests := true, laidLooks := .later }
def FormatBackUptoCardSaid : Prop := Claim7.holds Tryz.pinned (.plain (OpenSpec.upto formatBackSpec)) formatBackUptoCard

/-- THE SECOND FORM's CARD OF 'pliantlaw13.FormatWords'. -/
def formatWordsUptoCard : Claim7 := { stood := { row := formatWordsUptoRow, standIns := [], harness := (true, "162ec243084bfa9709d57c15b7c67653890d8251fb86ae663da2c28d9c8f9ac0"), looks := true }, kinds := [], alts := [], laidByText := true, laidKinds := [.data, .data, .data, .data, .handle, .sentinel, .sentinel, .data, .pinned], laidTests := true, laidLooks := .later }
def FormatWordsUptoCardSaid : Prop := Claim7.holds Tryz.pinned (.plain (OpenSpec.upto formatWordsSpec)) formatWordsUptoCard

/-- THE SECOND FORM's CARD OF 'pliantlaw13.FormatLists'. -/
def formatListsUptoCard : Claim7 := { stood := { row := formatListsUptoRow, standIns := [], harness := (true, "162ec243084bfa9709d57c15b7c67653890d8251fb86ae663da2c28d9c8f9ac0"), looks := true }, kinds := [], alts := [], laidByText := true, laidKinds := [.data, .data, .data, .data, .handle, .sentinel, .sentinel, .data, .pinned], laidTests := true, laidLooks := .later }
def FormatListsUptoCardSaid : Prop := Claim7.holds Tryz.pinned (.plain (OpenSpec.upto formatListsSpec)) formatListsUptoCard

/-- THE SECOND FORM's CARD OF 'pliantlaw13.FormatRows'. -/
def formatRowsUptoCard : Claim7 := { stood := { row := formatRowsUptoRow, standIns := [], harness := (true, "162ec243084bfa9709d57c15b7c67653890d8251fb86ae663da2c28d9c8f9ac0"), looks := true }, kinds := [], alts := [], laidByText := true, laidKinds := [.data, .data, .data, .data, .handle, .sentinel, .sentinel, .data, .pinned], laidTests := true, laidLooks := .later }
def FormatRowsUptoCardSaid : Prop := Claim7.holds Tryz.pinned (.plain (OpenSpec.upto formatRowsSpec)) formatRowsUptoCard
end Rows
end Go.Proofs.YtiahilhlpmohoaaGreatDoor
