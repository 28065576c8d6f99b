/-
  DERIVED. GIVEN WITH THE SEED: THE CARDS: each row of YtpflidodnhbeoaaGreatDoorRows.lean that lists a variable, with what it lists TIED to the program's text (the seventh form; the later family's looks); each row that meets fmt, with fmt's text TOLD by the authors' own Lean function (tested against real Go, not proved from fmt's source: count such statements apart). THE CARD IS WHAT COUNTS. Prove the row's statement (the work); the ties are given (YtpflidodnhbeoaaGreatDoorTie.lean); close each card by the builder's one call (the guide's Derived/Test/ToyasCard.lean, 'card_holds'). Laid BY PROGRAM, IN A SANDBOX (cutbox-door.mjs). By AI agents, Wed Nov 11 2026. No macro, syntax, notation, axiom, sorry.
-/
import Derived.Test.YtpflidodnhbeoaaGreatDoorRows
import GoSem.ClaimSeven
namespace Go.Proofs.YtpflidodnhbeoaaGreatDoor
namespace Rows

/-- THE TIED CARD OF 'pliantlaw04.ConvertTypes'. -/
def convertTypesCard : Claim7 := { stood := { row := convertTypesRow, standIns := [], harness := (true, "2cb47cbf95087f7cc8d5ede91c198a947601d35cfd546d8bdc61f47b13d7b636"), looks := true }, kinds := [], alts := [], laidByText := true, laidKinds := [.data, .data, .data, .data, .handle, .sentinel, .sentinel, .data, .pinned], laidTests := true, laidLooks := .later }
def ConvertTypesCardSaid : Prop := Claim7.holds Tryz.pinned (.plain (OpenSpec.ofChange convertTypesSpec)) convertTypesCard

/-- THE TIED CARD OF 'pliantlaw04.ConvertConstants'. -/
def convertConstantsCard : Claim7 := { stood := { row := convertConstantsRow, standIns := [], harness := (true, "2cb47cbf95087f7cc8d5ede91c198a947601d35cfd546d8bdc61f47b13d7b636"), looks := true }, kinds := [], alts := [], laidByText := true, laidKinds := [.data, .data, .data, .data, .handle, .sentinel, .sentinel, .data, .pinned], laidTests := true, laidLooks := .later }
def ConvertConstantsCardSaid : Prop := Claim7.holds Tryz.pinned (.plain (OpenSpec.ofChange convertConstantsSpec)) convertConstantsCard

/-- THE TIED CARD OF 'pliantlaw04.ConvertOneNumber'. -/
def convertOneNumberCard : Claim7 := { stood := { row := convertOneNumberRow, standIns := [], harness := (true, "2cb47cbf95087f7cc8d5ede91c198a947601d35cfd546d8bdc61f47b13d7b636"), looks := true }, kinds := [], alts := [], laidByText := true, laidKinds := [.data, .data, .data, .data, .handle, .sentinel, .sentinel, .data, .pinned], laidTests := true, laidLooks := .later }
def ConvertOneNumberCardSaid : Prop := Claim7.holds Tryz.pinned (.plain (OpenSpec.ofChange convertOneNumberSpec)) convertOneNumberCard

/-- THE TIED CARD OF 'pliantlaw04.ConvertTexts'. -/
def convertTextsCard : Claim7 := { stood := { row := convertTextsRow, standIns := [], harness := (true, "2cb47cbf95087f7cc8d5ede91c198a947601d35cfd546d8bdc61f47b13d7b636"), looks := true }, kinds := [], alts := [], laidByText := true, laidKinds := [.data, .data, .data, .data, .handle, .sentinel, .sentinel, .data, .pinned], laidTests := true, laidLooks := .later }
def ConvertTextsCardSaid : Prop := Claim7.holds Tryz.pinned (.plain (OpenSpec.ofChange convertTextsSpec)) convertTextsCard

/-- THE TIED CARD OF 'pliantlaw04.ConvertValues'. -/
def convertValuesCard : Claim7 := { stood := { row := convertValuesRow, standIns := [], harness := (true, "2cb47cbf95087f7cc8d5ede91c198a947601d35cfd546d8bdc61f47b13d7b636"), looks := true }, kinds := [], alts := [], laidByText := true, laidKinds := [.data, .data, .data, .data, .handle, .sentinel, .sentinel, .data, .pinned], laidTests := true, laidLooks := .later }
def ConvertValuesCardSaid : Prop := Claim7.holds Tryz.pinned (.plain (OpenSpec.ofChange convertValuesSpec)) convertValuesCard

/-- THE TIED CARD OF 'pliantlaw04.ConvertOperands'. -/
def convertOperandsCard : Claim7 := { stood := { row := convertOperandsRow, standIns := [], harness := (true, "2cb47cbf95087f7cc8d5ede91c198a947601d35cfd546d8bdc61f47b13d7b636"), looks := true }, kinds := [], alts := [], laidByText := true, laidKinds := [.data, .data, .data, .data, .handle, .sentinel, .sentinel, .data, .pinned], laidTests := true, laidLooks := .later }
def ConvertOperandsCardSaid : Prop := Claim7.holds Tryz.pinned (.plain (OpenSpec.ofChange convertOperandsSpec)) convertOperandsCard

/-- THE TIED CARD OF 'pliantlaw04.ConvertAlways'. -/
def convertAlwaysCard : Claim7 := { stood := { row := convertAlwaysRow, standIns := [], harness := (true, "2cb47cbf95087f7cc8d5ede91c198a947601d35cfd546d8bdc61f47b13d7b636"), looks := true }, kinds := [], alts := [], laidByText := true, laidKinds := [.data, .data, .data, .data, .handle, .sentinel, .sentinel, .data, .pinned], laidTests := true, laidLooks := .later }
def ConvertAlwaysCardSaid : Prop := Claim7.holds Tryz.pinned (.plain (OpenSpec.ofChange convertAlwaysSpec)) convertAlwaysCard

/-- THE TIED CARD OF 'pliantlaw04.ConvertOrder'. -/
def convertOrderCard : Claim7 := { stood := { row := convertOrderRow, standIns := [], harness := (true, "2cb47cbf95087f7cc8d5ede91c198a947601d35cfd546d8bdc61f47b13d7b636"), looks := true }, kinds := [], alts := [], laidByText := true, laidKinds := [.data, .data, .data, .data, .handle, .sentinel, .sentinel, .data, .pinned], laidTests := true, laidLooks := .later }
def ConvertOrderCardSaid : Prop := Claim7.holds Tryz.pinned (.plain (OpenSpec.ofChange convertOrderSpec)) convertOrderCard

/-- THE TIED CARD OF 'pliantlaw04.ConvertBits'. -/
def convertBitsCard : Claim7 := { stood := { row := convertBitsRow, standIns := [], harness := (true, "2cb47cbf95087f7cc8d5ede91c198a947601d35cfd546d8bdc61f47b13d7b636"), looks := true }, kinds := [], alts := [], laidByText := true, laidKinds := [.data, .data, .data, .data, .handle, .sentinel, .sentinel, .data, .pinned], laidTests := true, laidLooks := .later }
def ConvertBitsCardSaid : Prop := Claim7.holds Tryz.pinned (.plain (OpenSpec.ofChange convertBitsSpec)) convertBitsCard

/-- THE TIED CARD OF 'pliantlaw04.ConvertBy'. -/
def convertByCard : Claim7 := { stood := { row := convertByRow, standIns := [], harness := (true, "2cb47cbf95087f7cc8d5ede91c198a947601d35cfd546d8bdc61f47b13d7b636"), looks := true }, kinds := [], alts := [], laidByText := true, laidKinds := [.data, .data, .data, .data, .handle, .sentinel, .sentinel, .data, .pinned], laidTests := true, laidLooks := .later }
def ConvertByCardSaid : Prop := Claim7.holds Tryz.pinned (.plain (OpenSpec.ofChange convertBySpec)) convertByCard

/-- THE TIED CARD OF 'pliantlaw04.ConvertFails'. -/
def convertFailsCard : Claim7 := { stood := { row := convertFailsRow, standIns := [], harness := (true, "2cb47cbf95087f7cc8d5ede91c198a947601d35cfd546d8bdc61f47b13d7b636"), looks := true }, kinds := [], alts := [], laidByText := true, laidKinds := [.data, .data, .data, .data, .handle, .sentinel, .sentinel, .data, .pinned], laidTests := true, laidLooks := .later }
def ConvertFailsCardSaid : Prop := Claim7.holds Tryz.pinned (.plain (OpenSpec.ofChange convertFailsSpec)) convertFailsCard

/-- THE TIED CARD OF 'pliantlaw04.ConvertBack'. -/
def convertBackCard : Claim7 := { stood := { row := convertBackRow, standIns := [], harness := (true, "2cb47cbf95087f7cc8d5ede91c198a947601d35cfd546d8bdc61f47b13d7b636"), looks := true }, kinds := [], alts := [], laidByText := true, laidKinds := [.data, .data, .data, .data, .handle, .sentinel, .sentinel, .data, .pinned], laidTests := true, laidLooks := .later }
def ConvertBackCardSaid : Prop := Claim7.holds Tryz.pinned (.plain (OpenSpec.ofChange convertBackSpec)) convertBackCard

/-- THE TIED CARD OF 'pliantlaw04.ConvertAssigns'. -/
def convertAssignsCard : Claim7 := { stood := { row := convertAssignsRow, standIns := [], harness := (true, "2cb47cbf95087f7cc8d5ede91c198a947601d35cfd546d8bdc61f47b13d7b636"), looks := true }, kinds := [], alts := [], laidByText := true, laidKinds := [.data, .data, .data, .data, .handle, .sentinel, .sentinel, .data, .pinned], laidTests := true, laidLooks := .later }
def ConvertAssignsCardSaid : Prop := Claim7.holds Tryz.pinned (.plain (OpenSpec.ofChange convertAssignsSpec)) convertAssignsCard

/-- THE TIED CARD OF 'pliantlaw04.ConvertPictures'. -/
def convertPicturesCard : Claim7 := { stood := { row := convertPicturesRow, standIns := [], harness := (true, "2cb47cbf95087f7cc8d5ede91c198a947601d35cfd546d8bdc61f47b13d7b636"), looks := true }, kinds := [], alts := [], laidByText := true, laidKinds := [.data, .data, .data, .data, .handle, .sentinel, .sentinel, .data, .pinned], laidTests := true, laidLooks := .later }
def ConvertPicturesCardSaid : Prop := Claim7.holds Tryz.pinned (.plain (OpenSpec.ofChange convertPicturesSpec)) convertPicturesCard

/-- THE TIED CARD OF 'pliantlaw04.ConvertAccepted'. -/
def convertAcceptedCard : Claim7 := { stood := { row := convertAcceptedRow, standIns := [], harness := (true, "2cb47cbf95087f7cc8d5ede91c198a947601d35cfd546d8bdc61f47b13d7b636"), looks := true }, kinds := [], alts := [], laidByText := true, laidKinds := [.data, .data, .data, .data, .handle, .sentinel, .sentinel, .data, .pinned], laidTests := true, laidLooks := .later }
def ConvertAcceptedCardSaid : Prop := Claim7.holds Tryz.pinned (.plain (OpenSpec.ofChange convertAcceptedSpec)) convertAcceptedCard

/-- THE SECOND FORM's CARD OF 'pliantlaw04.ConvertTypes'. -/
def convertTypesUptoCard : Claim7 := { stood := { row := convertTypesUptoRow, standIns := [], harness := (true, "2cb47cbf95087f7cc8d5ede91c198a947601d35cfd546d8bdc61f47b13d7b636"), looks := true }, kinds := [], alts := [], laidByText := true, laidKinds := [.data, .data, .data, .data, .handle, .sentinel, .sentinel, .data, .pinned], laidTests := true, laidLooks := .later }
def ConvertTypesUptoCardSaid : Prop := Claim7.holds Tryz.pinned (.plain (OpenSpec.upto convertTypesSpec)) convertTypesUptoCard

/-- THE SECOND FORM's CARD OF 'pliantlaw04.ConvertConstants'. -/
def convertConstantsUptoCard : Claim7 := { stood := { row := convertConstantsUptoRow, standIns := [], harness := (true, "2cb47cbf95087f7cc8d5ede91c198a947601d35cfd546d8bdc61f47b13d7b636"), looks := true }, kinds := [], alts := [], laidByText := true, laidKinds := [.data, .data, .data, .data, .handle, .sentinel, .sentinel, .data, .pinned], laidTests := true, laidLooks := .later }
def ConvertConstantsUptoCardSaid : Prop := Claim7.holds Tryz.pinned (.plain (OpenSpec.upto convertConstantsSpec)) convertConstantsUptoCard

/-- THE SECOND FORM's CARD OF 'pliantlaw04.ConvertOneNumber'. -/
def convertOneNumberUptoCard : Claim7 := { stood := { row := convertOneNumberUptoRow, standIns := [], harness := (true, "2cb47cbf95087f7cc8d5ede91c198a947601d35cfd546d8bdc61f47b13d7b636"), looks := true }, kinds := [], alts := [], laidByText := true, laidKinds := [.data, .data, .data, .data, .handle, .sentinel, .sentinel, .data, .pinned], laidTests := true, laidLooks := .later }
def ConvertOneNumberUptoCardSaid : Prop := Claim7.holds Tryz.pinned (.plain (OpenSpec.upto convertOneNumberSpec)) convertOneNumberUptoCard

/-- THE SECOND FORM's CARD OF 'pliantlaw04.ConvertTexts'. -/
def convertTextsUptoCard : Claim7 := { stood := { row := convertTextsUptoRow, standIns := [], harness := (true, "2cb47cbf95087f7cc8d5ede91c198a947601d35cfd546d8bdc61f47b13d7b636"), looks := true }, kinds := [], alts := [], laidByText := true, laidKinds := [.data, .data, .data, .data, .handle, .sentinel, .sentinel, .data, .pinned], laidTests := true, laidLooks := .later }
def ConvertTextsUptoCardSaid : Prop := Claim7.holds Tryz.pinned (.plain (OpenSpec.upto convertTextsSpec)) convertTextsUptoCard

/-- THE SECOND FORM's CARD OF 'pliantlaw04.ConvertValues'. -/
def convertValuesUptoCard : Claim7 := { stood := { row := convertValuesUptoRow, standIns := [], harness := (true, "2cb47cbf95087f7cc8d5ede91c198a947601d35cfd546d8bdc61f47b13d7b636"), looks := true }, kinds := [], alts := [], laidByText := true, laidKinds := [.data, .data, .data, .data, .handle, .sentinel, .sentinel, .data, .pinned], laidTests := true, laidLooks := .later }
def ConvertValuesUptoCardSaid : Prop := Claim7.holds Tryz.pinned (.plain (OpenSpec.upto convertValuesSpec)) convertValuesUptoCard

/-- THE SECOND FORM's CARD OF 'pliantlaw04.ConvertOperands'. -/
def convertOperandsUptoCard : Claim7 := { stood := { row := convertOperandsUptoRow, standIns := [], harness := (true, "2cb47cbf95087f7cc8d5ede91c198a947601d35cfd546d8bdc61f47b13d7b636"), looks := true }, kinds := [], alts := [], laidByText := true, laidKinds := [.data, .data, .data, .data, .handle, .sentinel, .sentinel, .data, .pinned], laidTests := true, laidLooks := .later }
def ConvertOperandsUptoCardSaid : Prop := Claim7.holds Tryz.pinned (.plain (OpenSpec.upto convertOperandsSpec)) convertOperandsUptoCard

/-- THE SECOND FORM's CARD OF 'pliantlaw04.ConvertAlways'. -/
def convertAlwaysUptoCard : Claim7 := { stood := { row := convertAlwaysUptoRow, standIns := [], harness := (true, "2cb47cbf95087f7cc8d5ede91c198a947601d35cfd546d8bdc61f47b13d7b636"), looks := true }, kinds := [], alts := [], laidByText := true, laidKinds := [.data, .data, .data, .data, .handle, .sentinel, .sentinel, .data, .pinned], laidTests := true, laidLooks := .later }
def ConvertAlwaysUptoCardSaid : Prop := Claim7.holds Tryz.pinned (.plain (OpenSpec.upto convertAlwaysSpec)) convertAlwaysUptoCard

/-- THE SECOND FORM's CARD OF 'pliantlaw04.ConvertOrder'. -/
def convertOrderUptoCard : Claim7 := { stood := { row := convertOrderUptoRow, standIns := [], harness := (true, "2cb47cbf95087f7cc8d5ede91c198a947601d35cfd546d8bdc61f47b13d7b636"), looks := true }, kinds := [], alts := [], laidByText := true, laidKinds := [.data, .data, .data, .data, .handle, .sentinel, .sentinel, .data, .pinned], laidTests := true, laidLooks := .later }
def ConvertOrderUptoCardSaid : Prop := Claim7.holds Tryz.pinned (.plain (OpenSpec.upto convertOrderSpec)) convertOrderUptoCard

/-- THE SECOND FORM's CARD OF 'pliantlaw04.ConvertBits'. -/
def convertBitsUptoCard : Claim7 := { stood := { row := convertBitsUptoRow, standIns := [], harness := (true, "2cb47cbf95087f7cc8d5ede91c198a947601d35cfd546d8bdc61f47b13d7b636"), looks := true }, kinds := [], alts := [], laidByText := true, laidKinds := [.data, .data, .data, .data, .handle, .sentinel, .sentinel, .data, .pinned], laidTests := true, laidLooks := .later }
def ConvertBitsUptoCardSaid : Prop := Claim7.holds Tryz.pinned (.plain (OpenSpec.upto convertBitsSpec)) convertBitsUptoCard

/-- THE SECOND FORM's CARD OF 'pliantlaw04.ConvertBy'. -/
def convertByUptoCard : Claim7 := { stood := { row := convertByUptoRow, standIns := [], harness := (true, "2cb47cbf95087f7cc8d5ede91c198a947601d35cfd546d8bdc61f47b13d7b636"), looks := true }, kinds := [], alts := [], laidByText := true, laidKinds := [.data, .data, .data, .data, .handle, .sentinel, .sentinel, .data, .pinned], laidTests := true, laidLooks := .later }
def ConvertByUptoCardSaid : Prop := Claim7.holds Tryz.pinned (.plain (OpenSpec.upto convertBySpec)) convertByUptoCard

/-- THE SECOND FORM's CARD OF 'pliantlaw04.ConvertFails'. -/
def convertFailsUptoCard : Claim7 := { stood := { row := convertFailsUptoRow, standIns := [], harness := (true, "2cb47cbf95087f7cc8d5ede91c198a947601d35cfd546d8bdc61f47b13d7b636"), looks := true }, kinds := [], alts := [], laidByText := true, laidKinds := [.data, .data, .data, .data, .handle, .sentinel, .sentinel, .data, .pinned], laidTests := true, laidLooks := .later }
def ConvertFailsUptoCardSaid : Prop := Claim7.holds Tryz.pinned (.plain (OpenSpec.upto convertFailsSpec)) convertFailsUptoCard

/-- THE SECOND FORM's CARD OF 'pliantlaw04.ConvertBack'. -/
def convertBackUptoCard : Claim7 := { stood := { row := convertBackUptoRow, standIns := [], harness := (true, "2cb47cbf95087f7cc8d5ede91c198a947601d35cfd546d8bdc61f47b13d7b636"), looks := true }, kinds := [], alts := [], laidByText := true, laidKinds := [.data, .data, .data, .data, .handle, .sentinel, .sentinel, .data, .pinned], laidTests := true, laidLooks := .later }
def ConvertBackUptoCardSaid : Prop := Claim7.holds Tryz.pinned (.plain (OpenSpec.upto convertBackSpec)) convertBackUptoCard

/-- THE SECOND FORM's CARD OF 'pliantlaw04.ConvertAssigns'. -/
def convertAssignsUptoCard : Claim7 := { stood := { row := convertAssignsUptoRow, standIns := [], harness := (true, "2cb47cbf95087f7cc8d5ede91c198a947601d35cfd546d8bdc61f47b13d7b636"), looks := true }, kinds := [], alts := [], laidByText := true, laidKinds := [.data, .data, .data, .data, .handle, .sentinel, .sentinel, .data, .pinned], laidTests := true, laidLooks := .later }
def ConvertAssignsUptoCardSaid : Prop := Claim7.holds Tryz.pinned (.plain (OpenSpec.upto convertAssignsSpec)) convertAssignsUptoCard

/-- THE SECOND FORM's CARD OF 'pliantlaw04.ConvertPictures'. -/
def convertPicturesUptoCard : Claim7 := { stood := { row := convertPicturesUptoRow, standIns := [], harness := (true, "2cb47cbf95087f7cc8d5ede91c198a947601d35cfd546d8bdc61f47b13d7b636"), looks := true }, kinds := [], alts := [], laidByText := true, laidKinds := [.data, .data, .data, .data, .handle, .sentinel, .sentinel, .data, .pinned], laidTests := true, laidLooks := .later }
def ConvertPicturesUptoCardSaid : Prop := Claim7.holds Tryz.pinned (.plain (OpenSpec.upto convertPicturesSpec)) convertPicturesUptoCard

/-- THE SECOND FORM's CARD OF 'pliantlaw04.ConvertAccepted'. -/
def convertAcceptedUptoCard : Claim7 := { stood := { row := convertAcceptedUptoRow, standIns := [], harness := (true, "2cb47cbf95087f7cc8d5ede91c198a947601d35cfd546d8bdc61f47b13d7b636"), looks := true }, kinds := [], alts := [], laidByText := true, laidKinds := [.data, .data, .data, .data, .handle, .sentinel, .sentinel, .data, .pinned], laidTests := true, laidLooks := .later }
def ConvertAcceptedUptoCardSaid : Prop := Claim7.holds Tryz.pinned (.plain (OpenSpec.upto convertAcceptedSpec)) convertAcceptedUptoCard
end Rows
end Go.Proofs.YtpflidodnhbeoaaGreatDoor
