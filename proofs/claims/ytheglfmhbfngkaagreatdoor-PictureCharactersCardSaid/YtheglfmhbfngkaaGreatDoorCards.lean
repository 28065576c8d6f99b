/-
  DERIVED. GIVEN WITH THE SEED: THE CARDS: each row of YtheglfmhbfngkaaGreatDoorRows.lean that lists a variable, with what it lists TIED to the program's text (the seventh form; the later family's looks); each row that meets fmt, with fmt's text TOLD by the authors' own Lean function (tested against real Go, not proved from fmt's source: count such statements apart). THE CARD IS WHAT COUNTS. Prove the row's statement (the work); the ties are given (YtheglfmhbfngkaaGreatDoorTie.lean); close each card by the builder's one call (the guide's Derived/Test/ToyasCard.lean, 'card_holds'). Laid BY PROGRAM, IN A SANDBOX (cutbox-door.mjs). By AI agents, Wed Nov 11 2026. No macro, syntax, notation, axiom, sorry.
-/
import Derived.Test.YtheglfmhbfngkaaGreatDoorRows
import GoSem.ClaimSeven
namespace Go.Proofs.YtheglfmhbfngkaaGreatDoor
namespace Rows

/-- THE TIED CARD OF 'pliantlaw03.PictureEdits'. -/
def pictureEditsCard : Claim7 := { stood := { row := pictureEditsRow, standIns := [], harness := (true, "1071b1b82e10af2d54fdefa34d8f8e5a24ee595ac523bd215b5ede5d74a6a811"), looks := true }, kinds := [], alts := [], laidByText := true, laidKinds := [.data, .data, .data, .data, .sentinel, .sentinel, .data, .pinned], laidTests := true, laidLooks := .later }
def PictureEditsCardSaid : Prop := Claim7.holds Tryz.pinned (.plain (OpenSpec.ofChange pictureEditsSpec)) pictureEditsCard

/-- THE TIED CARD OF 'pliantlaw03.PictureReads'. -/
def pictureReadsCard : Claim7 := { stood := { row := pictureReadsRow, standIns := [], harness := (true, "1071b1b82e10af2d54fdefa34d8f8e5a24ee595ac523bd215b5ede5d74a6a811"), looks := true }, kinds := [], alts := [], laidByText := true, laidKinds := [.data, .data, .data, .data, .sentinel, .sentinel, .data, .pinned], laidTests := true, laidLooks := .later }
def PictureReadsCardSaid : Prop := Claim7.holds Tryz.pinned (.plain (OpenSpec.ofChange pictureReadsSpec)) pictureReadsCard

/-- THE TIED CARD OF 'pliantlaw03.PicturePunches'. -/
def picturePunchesCard : Claim7 := { stood := { row := picturePunchesRow, standIns := [], harness := (true, "1071b1b82e10af2d54fdefa34d8f8e5a24ee595ac523bd215b5ede5d74a6a811"), looks := true }, kinds := [], alts := [], laidByText := true, laidKinds := [.data, .data, .data, .data, .sentinel, .sentinel, .data, .pinned], laidTests := true, laidLooks := .later }
def PicturePunchesCardSaid : Prop := Claim7.holds Tryz.pinned (.plain (OpenSpec.ofChange picturePunchesSpec)) picturePunchesCard

/-- THE TIED CARD OF 'pliantlaw03.PictureReadsBack'. -/
def pictureReadsBackCard : Claim7 := { stood := { row := pictureReadsBackRow, standIns := [], harness := (true, "1071b1b82e10af2d54fdefa34d8f8e5a24ee595ac523bd215b5ede5d74a6a811"), looks := true }, kinds := [], alts := [], laidByText := true, laidKinds := [.data, .data, .data, .data, .sentinel, .sentinel, .data, .pinned], laidTests := true, laidLooks := .later }
def PictureReadsBackCardSaid : Prop := Claim7.holds Tryz.pinned (.plain (OpenSpec.ofChange pictureReadsBackSpec)) pictureReadsBackCard

/-- THE TIED CARD OF 'pliantlaw03.PictureScales'. -/
def pictureScalesCard : Claim7 := { stood := { row := pictureScalesRow, standIns := [], harness := (true, "1071b1b82e10af2d54fdefa34d8f8e5a24ee595ac523bd215b5ede5d74a6a811"), looks := true }, kinds := [], alts := [], laidByText := true, laidKinds := [.data, .data, .data, .data, .sentinel, .sentinel, .data, .pinned], laidTests := true, laidLooks := .later }
def PictureScalesCardSaid : Prop := Claim7.holds Tryz.pinned (.plain (OpenSpec.ofChange pictureScalesSpec)) pictureScalesCard

/-- THE TIED CARD OF 'pliantlaw03.PictureOrders'. -/
def pictureOrdersCard : Claim7 := { stood := { row := pictureOrdersRow, standIns := [], harness := (true, "1071b1b82e10af2d54fdefa34d8f8e5a24ee595ac523bd215b5ede5d74a6a811"), looks := true }, kinds := [], alts := [], laidByText := true, laidKinds := [.data, .data, .data, .data, .sentinel, .sentinel, .data, .pinned], laidTests := true, laidLooks := .later }
def PictureOrdersCardSaid : Prop := Claim7.holds Tryz.pinned (.plain (OpenSpec.ofChange pictureOrdersSpec)) pictureOrdersCard

/-- THE TIED CARD OF 'pliantlaw03.PictureSuppresses'. -/
def pictureSuppressesCard : Claim7 := { stood := { row := pictureSuppressesRow, standIns := [], harness := (true, "1071b1b82e10af2d54fdefa34d8f8e5a24ee595ac523bd215b5ede5d74a6a811"), looks := true }, kinds := [], alts := [], laidByText := true, laidKinds := [.data, .data, .data, .data, .sentinel, .sentinel, .data, .pinned], laidTests := true, laidLooks := .later }
def PictureSuppressesCardSaid : Prop := Claim7.holds Tryz.pinned (.plain (OpenSpec.ofChange pictureSuppressesSpec)) pictureSuppressesCard

/-- THE TIED CARD OF 'pliantlaw03.PictureSigns'. -/
def pictureSignsCard : Claim7 := { stood := { row := pictureSignsRow, standIns := [], harness := (true, "1071b1b82e10af2d54fdefa34d8f8e5a24ee595ac523bd215b5ede5d74a6a811"), looks := true }, kinds := [], alts := [], laidByText := true, laidKinds := [.data, .data, .data, .data, .sentinel, .sentinel, .data, .pinned], laidTests := true, laidLooks := .later }
def PictureSignsCardSaid : Prop := Claim7.holds Tryz.pinned (.plain (OpenSpec.ofChange pictureSignsSpec)) pictureSignsCard

/-- THE TIED CARD OF 'pliantlaw03.PictureCharacters'. -/
def pictureCharactersCard : Claim7 := { stood := { row := pictureCharactersRow, standIns := [], harness := (true, "1071b1b82e10af2d54fdefa34d8f8e5a24ee595ac523bd215b5ede5d74a6a811"), looks := true }, kinds := [], alts := [], laidByText := true, laidKinds := [.data, .data, .data, .data, .sentinel, .sentinel, .data, .pinned], laidTests := true, laidLooks := .later }
def PictureCharactersCardSaid : Prop := Claim7.holds Tryz.pinned (.plain (OpenSpec.ofChange pictureCharactersSpec)) pictureCharactersCard

/-- THE TIED CARD OF 'pliantlaw03.PictureRepeats'. -/
def pictureRepeatsCard : Claim7 := { stood := { row := pictureRepeatsRow, standIns := [], harness := (true, "1071b1b82e10af2d54fdefa34d8f8e5a24ee595ac523bd215b5ede5d74a6a811"), looks := true }, kinds := [], alts := [], laidByText := true, laidKinds := [.data, .data, .data, .data, .sentinel, .sentinel, .data, .pinned], laidTests := true, laidLooks := .later }
def PictureRepeatsCardSaid : Prop := Claim7.holds Tryz.pinned (.plain (OpenSpec.ofChange pictureRepeatsSpec)) pictureRepeatsCard

/-- THE TIED CARD OF 'pliantlaw03.PictureParses'. -/
def pictureParsesCard : Claim7 := { stood := { row := pictureParsesRow, standIns := [], harness := (true, "1071b1b82e10af2d54fdefa34d8f8e5a24ee595ac523bd215b5ede5d74a6a811"), looks := true }, kinds := [], alts := [], laidByText := true, laidKinds := [.data, .data, .data, .data, .sentinel, .sentinel, .data, .pinned], laidTests := true, laidLooks := .later }
def PictureParsesCardSaid : Prop := Claim7.holds Tryz.pinned (.plain (OpenSpec.ofChange pictureParsesSpec)) pictureParsesCard

/-- THE TIED CARD OF 'pliantlaw03.PictureFits'. -/
def pictureFitsCard : Claim7 := { stood := { row := pictureFitsRow, standIns := [], harness := (true, "1071b1b82e10af2d54fdefa34d8f8e5a24ee595ac523bd215b5ede5d74a6a811"), looks := true }, kinds := [], alts := [], laidByText := true, laidKinds := [.data, .data, .data, .data, .sentinel, .sentinel, .data, .pinned], laidTests := true, laidLooks := .later }
def PictureFitsCardSaid : Prop := Claim7.holds Tryz.pinned (.plain (OpenSpec.ofChange pictureFitsSpec)) pictureFitsCard

/-- THE TIED CARD OF 'pliantlaw03.PictureZeros'. -/
def pictureZerosCard : Claim7 := { stood := { row := pictureZerosRow, standIns := [], harness := (true, "1071b1b82e10af2d54fdefa34d8f8e5a24ee595ac523bd215b5ede5d74a6a811"), looks := true }, kinds := [], alts := [], laidByText := true, laidKinds := [.data, .data, .data, .data, .sentinel, .sentinel, .data, .pinned], laidTests := true, laidLooks := .later }
def PictureZerosCardSaid : Prop := Claim7.holds Tryz.pinned (.plain (OpenSpec.ofChange pictureZerosSpec)) pictureZerosCard

/-- THE TIED CARD OF 'pliantlaw03.PictureFills'. -/
def pictureFillsCard : Claim7 := { stood := { row := pictureFillsRow, standIns := [], harness := (true, "1071b1b82e10af2d54fdefa34d8f8e5a24ee595ac523bd215b5ede5d74a6a811"), looks := true }, kinds := [], alts := [], laidByText := true, laidKinds := [.data, .data, .data, .data, .sentinel, .sentinel, .data, .pinned], laidTests := true, laidLooks := .later }
def PictureFillsCardSaid : Prop := Claim7.holds Tryz.pinned (.plain (OpenSpec.ofChange pictureFillsSpec)) pictureFillsCard

/-- THE TIED CARD OF 'pliantlaw03.PicturePlaces'. -/
def picturePlacesCard : Claim7 := { stood := { row := picturePlacesRow, standIns := [], harness := (true, "1071b1b82e10af2d54fdefa34d8f8e5a24ee595ac523bd215b5ede5d74a6a811"), looks := true }, kinds := [], alts := [], laidByText := true, laidKinds := [.data, .data, .data, .data, .sentinel, .sentinel, .data, .pinned], laidTests := true, laidLooks := .later }
def PicturePlacesCardSaid : Prop := Claim7.holds Tryz.pinned (.plain (OpenSpec.ofChange picturePlacesSpec)) picturePlacesCard

/-- THE TIED CARD OF 'pliantlaw03.PictureShapes'. -/
def pictureShapesCard : Claim7 := { stood := { row := pictureShapesRow, standIns := [], harness := (true, "1071b1b82e10af2d54fdefa34d8f8e5a24ee595ac523bd215b5ede5d74a6a811"), looks := true }, kinds := [], alts := [], laidByText := true, laidKinds := [.data, .data, .data, .data, .sentinel, .sentinel, .data, .pinned], laidTests := true, laidLooks := .later }
def PictureShapesCardSaid : Prop := Claim7.holds Tryz.pinned (.plain (OpenSpec.ofChange pictureShapesSpec)) pictureShapesCard

/-- THE SECOND FORM's CARD OF 'pliantlaw03.PictureEdits'. -/
def pictureEditsUptoCard : Claim7 := { stood := { row := pictureEditsUptoRow, standIns := [], harness := (true, "1071b1b82e10af2d54fdefa34d8f8e5a24ee595ac523bd215b5ede5d74a6a811"), looks := true }, kinds := [], alts := [], laidByText := true, laidKinds := [.data, .data, .data, .data, .sentinel, .sentinel, .data, .pinned], laidTests := true, laidLooks := .later }
def PictureEditsUptoCardSaid : Prop := Claim7.holds Tryz.pinned (.plain (OpenSpec.upto pictureEditsSpec)) pictureEditsUptoCard

/-- THE SECOND FORM's CARD OF 'pliantlaw03.PictureReads'. -/
def pictureReadsUptoCard : Claim7 := { stood := { row := pictureReadsUptoRow, standIns := [], harness := (true, "1071b1b82e10af2d54fdefa34d8f8e5a24ee595ac523bd215b5ede5d74a6a811"), looks := true }, kinds := [], alts := [], laidByText := true, laidKinds := [.data, .data, .data, .data, .sentinel, .sentinel, .data, .pinned], laidTests := true, laidLooks := .later }
def PictureReadsUptoCardSaid : Prop := Claim7.holds Tryz.pinned (.plain (OpenSpec.upto pictureReadsSpec)) pictureReadsUptoCard

/-- THE SECOND FORM's CARD OF 'pliantlaw03.PicturePunches'. -/
def picturePunchesUptoCard : Claim7 := { stood := { row := picturePunchesUptoRow, standIns := [], harness := (true, "1071b1b82e10af2d54fdefa34d8f8e5a24ee595ac523bd215b5ede5d74a6a811"), looks := true }, kinds := [], alts := [], laidByText := true, laidKinds := [.data, .data, .data, .data, .sentinel, .sentinel, .data, .pinned], laidTests := true, laidLooks := .later }
def PicturePunchesUptoCardSaid : Prop := Claim7.holds Tryz.pinned (.plain (OpenSpec.upto picturePunchesSpec)) picturePunchesUptoCard

/-- THE SECOND FORM's CARD OF 'pliantlaw03.PictureReadsBack'. -/
def pictureReadsBackUptoCard : Claim7 := { stood := { row := pictureReadsBackUptoRow, standIns := [], harness := (true, "1071b1b82e10af2d54fdefa34d8f8e5a24ee595ac523bd215b5ede5d74a6a811"), looks := true }, kinds := [], alts := [], laidByText := true, laidKinds := [.data, .data, .data, .data, .sentinel, .sentinel, .data, .pinned], laidTests := true, laidLooks := .later }
def PictureReadsBackUptoCardSaid : Prop := Claim7.holds Tryz.pinned (.plain (OpenSpec.upto pictureReadsBackSpec)) pictureReadsBackUptoCard

/-- THE SECOND FORM's CARD OF 'pliantlaw03.PictureScales'. -/
def pictureScalesUptoCard : Claim7 := { stood := { row := pictureScalesUptoRow, standIns := [], harness := (true, "1071b1b82e10af2d54fdefa34d8f8e5a24ee595ac523bd215b5ede5d74a6a811"), looks := true }, kinds := [], alts := [], laidByText := true, laidKinds := [.data, .data, .data, .data, .sentinel, .sentinel, .data, .pinned], laidTests := true, laidLooks := .later }
def PictureScalesUptoCardSaid : Prop := Claim7.holds Tryz.pinned (.plain (OpenSpec.upto pictureScalesSpec)) pictureScalesUptoCard

/-- THE SECOND FORM's CARD OF 'pliantlaw03.PictureOrders'. -/
def pictureOrdersUptoCard : Claim7 := { stood := { row := pictureOrdersUptoRow, standIns := [], harness := (true, "1071b1b82e10af2d54fdefa34d8f8e5a24ee595ac523bd215b5ede5d74a6a811"), looks := true }, kinds := [], alts := [], laidByText := true, laidKinds := [.data, .data, .data, .data, .sentinel, .sentinel, .data, .pinned], laidTests := true, laidLooks := .later }
def PictureOrdersUptoCardSaid : Prop := Claim7.holds Tryz.pinned (.plain (OpenSpec.upto pictureOrdersSpec)) pictureOrdersUptoCard

/-- THE SECOND FORM's CARD OF 'pliantlaw03.PictureSuppresses'. -/
def pictureSuppressesUptoCard : Claim7 := { stood := { row := pictureSuppressesUptoRow, standIns := [], harness := (true, "1071b1b82e10af2d54fdefa34d8f8e5a24ee595ac523bd215b5ede5d74a6a811"), looks := true }, kinds := [], alts := [], laidByText := true, laidKinds := [.data, .data, .data, .data, .sentinel, .sentinel, .data, .pinned], laidTests := true, laidLooks := .later }
def PictureSuppressesUptoCardSaid : Prop := Claim7.holds Tryz.pinned (.plain (OpenSpec.upto pictureSuppressesSpec)) pictureSuppressesUptoCard

/-- THE SECOND FORM's CARD OF 'pliantlaw03.PictureSigns'. -/
def pictureSignsUptoCard : Claim7 := { stood := { row := pictureSignsUptoRow, standIns := [], harness := (true, "1071b1b82e10af2d54fdefa34d8f8e5a24ee595ac523bd215b5ede5d74a6a811"), looks := true }, kinds := [], alts := [], laidByText := true, laidKinds := [.data, .data, .data, .data, .sentinel, .sentinel, .data, .pinned], laidTests := true, laidLooks := .later }
def PictureSignsUptoCardSaid : Prop := Claim7.holds Tryz.pinned (.plain (OpenSpec.upto pictureSignsSpec)) pictureSignsUptoCard

/-- THE SECOND FORM's CARD OF 'pliantlaw03.PictureCharacters'. -/
def pictureCharactersUptoCard : Claim7 := { stood := { row := pictureCharactersUptoRow, standIns := [], harness := (true, "1071b1b82e10af2d54fdefa34d8f8e5a24ee595ac523bd215b5ede5d74a6a811"), looks := true }, kinds := [], alts := [], laidByText := true, laidKinds := [.data, .data, .data, .data, .sentinel, .sentinel, .data, .pinned], laidTests := true, laidLooks := .later }
def PictureCharactersUptoCardSaid : Prop := Claim7.holds Tryz.pinned (.plain (OpenSpec.upto pictureCharactersSpec)) pictureCharactersUptoCard

/-- THE SECOND FORM's CARD OF 'pliantlaw03.PictureRepeats'. -/
def pictureRepeatsUptoCard : Claim7 := { stood := { row := pictureRepeatsUptoRow, standIns := [], harness := (true, "1071b1b82e10af2d54fdefa34d8f8e5a24ee595ac523bd215b5ede5d74a6a811"), looks := true }, kinds := [], alts := [], laidByText := true, laidKinds := [.data, .data, .data, .data, .sentinel, .sentinel, .data, .pinned], laidTests := true, laidLooks := .later }
def PictureRepeatsUptoCardSaid : Prop := Claim7.holds Tryz.pinned (.plain (OpenSpec.upto pictureRepeatsSpec)) pictureRepeatsUptoCard

/-- THE SECOND FORM's CARD OF 'pliantlaw03.PictureParses'. -/
def pictureParsesUptoCard : Claim7 := { stood := { row := pictureParsesUptoRow, standIns := [], harness := (true, "1071b1b82e10af2d54fdefa34d8f8e5a24ee595ac523bd215b5ede5d74a6a811"), looks := true }, kinds := [], alts := [], laidByText := true, laidKinds := [.data, .data, .data, .data, .sentinel, .sentinel, .data, .pinned], laidTests := true, laidLooks := .later }
def PictureParsesUptoCardSaid : Prop := Claim7.holds Tryz.pinned (.plain (OpenSpec.upto pictureParsesSpec)) pictureParsesUptoCard

/-- THE SECOND FORM's CARD OF 'pliantlaw03.PictureFits'. -/
def pictureFitsUptoCard : Claim7 := { stood := { row := pictureFitsUptoRow, standIns := [], harness := (true, "1071b1b82e10af2d54fdefa34d8f8e5a24ee595ac523bd215b5ede5d74a6a811"), looks := true }, kinds := [], alts := [], laidByText := true, laidKinds := [.data, .data, .data, .data, .sentinel, .sentinel, .data, .pinned], laidTests := true, laidLooks := .later }
def PictureFitsUptoCardSaid : Prop := Claim7.holds Tryz.pinned (.plain (OpenSpec.upto pictureFitsSpec)) pictureFitsUptoCard

/-- THE SECOND FORM's CARD OF 'pliantlaw03.PictureZeros'. -/
def pictureZerosUptoCard : Claim7 := { stood := { row := pictureZerosUptoRow, standIns := [], harness := (true, "1071b1b82e10af2d54fdefa34d8f8e5a24ee595ac523bd215b5ede5d74a6a811"), looks := true }, kinds := [], alts := [], laidByText := true, laidKinds := [.data, .data, .data, .data, .sentinel, .sentinel, .data, .pinned], laidTests := true, laidLooks := .later }
def PictureZerosUptoCardSaid : Prop := Claim7.holds Tryz.pinned (.plain (OpenSpec.upto pictureZerosSpec)) pictureZerosUptoCard

/-- THE SECOND FORM's CARD OF 'pliantlaw03.PictureFills'. -/
def pictureFillsUptoCard : Claim7 := { stood := { row := pictureFillsUptoRow, standIns := [], harness := (true, "1071b1b82e10af2d54fdefa34d8f8e5a24ee595ac523bd215b5ede5d74a6a811"), looks := true }, kinds := [], alts := [], laidByText := true, laidKinds := [.data, .data, .data, .data, .sentinel, .sentinel, .data, .pinned], laidTests := true, laidLooks := .later }
def PictureFillsUptoCardSaid : Prop := Claim7.holds Tryz.pinned (.plain (OpenSpec.upto pictureFillsSpec)) pictureFillsUptoCard

/-- THE SECOND FORM's CARD OF 'pliantlaw03.PicturePlaces'. -/
def picturePlacesUptoCard : Claim7 := { stood := { row := picturePlacesUptoRow, standIns := [], harness := (true, "1071b1b82e10af2d54fdefa34d8f8e5a24ee595ac523bd215b5ede5d74a6a811"), looks := true }, kinds := [], alts := [], laidByText := true, laidKinds := [.data, .data, .data, .data, .sentinel, .sentinel, .data, .pinned], laidTests := true, laidLooks := .later }
def PicturePlacesUptoCardSaid : Prop := Claim7.holds Tryz.pinned (.plain (OpenSpec.upto picturePlacesSpec)) picturePlacesUptoCard

/-- THE SECOND FORM's CARD OF 'pliantlaw03.PictureShapes'. -/
def pictureShapesUptoCard : Claim7 := { stood := { row := pictureShapesUptoRow, standIns := [], harness := (true, "1071b1b82e10af2d54fdefa34d8f8e5a24ee595ac523bd215b5ede5d74a6a811"), looks := true }, kinds := [], alts := [], laidByText := true, laidKinds := [.data, .data, .data, .data, .sentinel, .sentinel, .data, .pinned], laidTests := true, laidLooks := .later }
def PictureShapesUptoCardSaid : Prop := Claim7.holds Tryz.pinned (.plain (OpenSpec.upto pictureShapesSpec)) pictureShapesUptoCard
end Rows
end Go.Proofs.YtheglfmhbfngkaaGreatDoor
