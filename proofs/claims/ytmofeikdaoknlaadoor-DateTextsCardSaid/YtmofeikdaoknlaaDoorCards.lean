/-
  DERIVED. GIVEN WITH THE SEED: THE CARDS: each row of YtmofeikdaoknlaaDoorRows.lean that lists a variable, with what it lists TIED to the program's text (the seventh form; the later family's looks); each row that meets fmt, with fmt's text TOLD by the authors' own Lean function (tested against real Go, not proved from fmt's source: count such statements apart). THE CARD IS WHAT COUNTS. Prove the row's statement (the work); the ties are given (YtmofeikdaoknlaaDoorTie.lean); close each card by the builder's one call (the guide's Derived/Test/ToyasCard.lean, 'card_holds'). Laid BY PROGRAM, IN A SANDBOX (cutbox-door.mjs). By AI agents, Wed Nov 11 2026. No macro, syntax, notation, axiom, sorry.
-/
import Derived.Test.YtmofeikdaoknlaaDoorRows
import GoSem.ClaimSeven
namespace Go.Proofs.YtmofeikdaoknlaaDoor
namespace Rows

/-- THE TIED CARD OF 'librarylaw03.DateOf'. -/
def dateOfCard : Claim7 := { stood := { row := dateOfRow, standIns := [], harness := (true, "35988f3c83de9a4f549b456f5b9f1c90cc409772e2c53d9166d205f9e8d329b6"), looks := true }, kinds := [], alts := [], laidByText := true, laidKinds := [.data, .data, .data, .sentinel, .sentinel], laidTests := true, laidLooks := .later }
def DateOfCardSaid : Prop := Claim7.holds Tryd.pinned (.plain (OpenSpec.ofChange dateOfSpec)) dateOfCard

/-- THE TIED CARD OF 'librarylaw03.DateParts'. -/
def datePartsCard : Claim7 := { stood := { row := datePartsRow, standIns := [], harness := (true, "35988f3c83de9a4f549b456f5b9f1c90cc409772e2c53d9166d205f9e8d329b6"), looks := true }, kinds := [], alts := [], laidByText := true, laidKinds := [.data, .data, .data, .sentinel, .sentinel], laidTests := true, laidLooks := .later }
def DatePartsCardSaid : Prop := Claim7.holds Tryd.pinned (.plain (OpenSpec.ofChange datePartsSpec)) datePartsCard

/-- THE TIED CARD OF 'librarylaw03.DateLengths'. -/
def dateLengthsCard : Claim7 := { stood := { row := dateLengthsRow, standIns := [], harness := (true, "35988f3c83de9a4f549b456f5b9f1c90cc409772e2c53d9166d205f9e8d329b6"), looks := true }, kinds := [], alts := [], laidByText := true, laidKinds := [.data, .data, .data, .sentinel, .sentinel], laidTests := true, laidLooks := .later }
def DateLengthsCardSaid : Prop := Claim7.holds Tryd.pinned (.plain (OpenSpec.ofChange dateLengthsSpec)) dateLengthsCard

/-- THE TIED CARD OF 'librarylaw03.DateMonths'. -/
def dateMonthsCard : Claim7 := { stood := { row := dateMonthsRow, standIns := [], harness := (true, "35988f3c83de9a4f549b456f5b9f1c90cc409772e2c53d9166d205f9e8d329b6"), looks := true }, kinds := [], alts := [], laidByText := true, laidKinds := [.data, .data, .data, .sentinel, .sentinel], laidTests := true, laidLooks := .later }
def DateMonthsCardSaid : Prop := Claim7.holds Tryd.pinned (.plain (OpenSpec.ofChange dateMonthsSpec)) dateMonthsCard

/-- THE TIED CARD OF 'librarylaw03.DateTexts'. -/
def dateTextsCard : Claim7 := { stood := { row := dateTextsRow, standIns := [], harness := (true, "35988f3c83de9a4f549b456f5b9f1c90cc409772e2c53d9166d205f9e8d329b6"), looks := true }, kinds := [], alts := [], laidByText := true, laidKinds := [.data, .data, .data, .sentinel, .sentinel], laidTests := true, laidLooks := .later }
def DateTextsCardSaid : Prop := Claim7.holds Tryd.pinned (.plain (OpenSpec.ofChange dateTextsSpec)) dateTextsCard

/-- THE TIED CARD OF 'librarylaw03.DateBack'. -/
def dateBackCard : Claim7 := { stood := { row := dateBackRow, standIns := [], harness := (true, "35988f3c83de9a4f549b456f5b9f1c90cc409772e2c53d9166d205f9e8d329b6"), looks := true }, kinds := [], alts := [], laidByText := true, laidKinds := [.data, .data, .data, .sentinel, .sentinel], laidTests := true, laidLooks := .later }
def DateBackCardSaid : Prop := Claim7.holds Tryd.pinned (.plain (OpenSpec.ofChange dateBackSpec)) dateBackCard

/-- THE TIED CARD OF 'librarylaw03.DateSteps'. -/
def dateStepsCard : Claim7 := { stood := { row := dateStepsRow, standIns := [], harness := (true, "35988f3c83de9a4f549b456f5b9f1c90cc409772e2c53d9166d205f9e8d329b6"), looks := true }, kinds := [], alts := [], laidByText := true, laidKinds := [.data, .data, .data, .sentinel, .sentinel], laidTests := true, laidLooks := .later }
def DateStepsCardSaid : Prop := Claim7.holds Tryd.pinned (.plain (OpenSpec.ofChange dateStepsSpec)) dateStepsCard

/-- THE SECOND FORM's CARD OF 'librarylaw03.DateOf'. -/
def dateOfUptoCard : Claim7 := { stood := { row := dateOfUptoRow, standIns := [], harness := (true, "35988f3c83de9a4f549b456f5b9f1c90cc409772e2c53d9166d205f9e8d329b6"), looks := true }, kinds := [], alts := [], laidByText := true, laidKinds := [.data, .data, .data, .sentinel, .sentinel], laidTests := true, laidLooks := .later }
def DateOfUptoCardSaid : Prop := Claim7.holds Tryd.pinned (.plain (OpenSpec.upto dateOfSpec)) dateOfUptoCard

/-- THE SECOND FORM's CARD OF 'librarylaw03.DateParts'. -/
def datePartsUptoCard : Claim7 := { stood := { row := datePartsUptoRow, standIns := [], harness := (true, "35988f3c83de9a4f549b456f5b9f1c90cc409772e2c53d9166d205f9e8d329b6"), looks := true }, kinds := [], alts := [], laidByText := true, laidKinds := [.data, .data, .data, .sentinel, .sentinel], laidTests := true, laidLooks := .later }
def DatePartsUptoCardSaid : Prop := Claim7.holds Tryd.pinned (.plain (OpenSpec.upto datePartsSpec)) datePartsUptoCard

/-- THE SECOND FORM's CARD OF 'librarylaw03.DateLengths'. -/
def dateLengthsUptoCard : Claim7 := { stood := { row := dateLengthsUptoRow, standIns := [], harness := (true, "35988f3c83de9a4f549b456f5b9f1c90cc409772e2c53d9166d205f9e8d329b6"), looks := true }, kinds := [], alts := [], laidByText := true, laidKinds := [.data, .data, .data, .sentinel, .sentinel], laidTests := true, laidLooks := .later }
def DateLengthsUptoCardSaid : Prop := Claim7.holds Tryd.pinned (.plain (OpenSpec.upto dateLengthsSpec)) dateLengthsUptoCard

/-- THE SECOND FORM's CARD OF 'librarylaw03.DateMonths'. -/
def dateMonthsUptoCard : Claim7 := { stood := { row := dateMonthsUptoRow, standIns := [], harness := (true, "35988f3c83de9a4f549b456f5b9f1c90cc409772e2c53d9166d205f9e8d329b6"), looks := true }, kinds := [], alts := [], laidByText := true, laidKinds := [.data, .data, .data, .sentinel, .sentinel], laidTests := true, laidLooks := .later }
def DateMonthsUptoCardSaid : Prop := Claim7.holds Tryd.pinned (.plain (OpenSpec.upto dateMonthsSpec)) dateMonthsUptoCard

/-- THE SECOND FORM's CARD OF 'librarylaw03.DateTexts'. -/
def dateTextsUptoCard : Claim7 := { stood := { row := dateTextsUptoRow, standIns := [], harness := (true, "35988f3c83de9a4f549b456f5b9f1c90cc409772e2c53d9166d205f9e8d329b6"), looks := true }, kinds := [], alts := [], laidByText := true, laidKinds := [.data, .data, .data, .sentinel, .sentinel], laidTests := true, laidLooks := .later }
def DateTextsUptoCardSaid : Prop := Claim7.holds Tryd.pinned (.plain (OpenSpec.upto dateTextsSpec)) dateTextsUptoCard

/-- THE SECOND FORM's CARD OF 'librarylaw03.DateBack'. -/
def dateBackUptoCard : Claim7 := { stood := { row := dateBackUptoRow, standIns := [], harness := (true, "35988f3c83de9a4f549b456f5b9f1c90cc409772e2c53d9166d205f9e8d329b6"), looks := true }, kinds := [], alts := [], laidByText := true, laidKinds := [.data, .data, .data, .sentinel, .sentinel], laidTests := true, laidLooks := .later }
def DateBackUptoCardSaid : Prop := Claim7.holds Tryd.pinned (.plain (OpenSpec.upto dateBackSpec)) dateBackUptoCard

/-- THE SECOND FORM's CARD OF 'librarylaw03.DateSteps'. -/
def dateStepsUptoCard : Claim7 := { stood := { row := dateStepsUptoRow, standIns := [], harness := (true, "35988f3c83de9a4f549b456f5b9f1c90cc409772e2c53d9166d205f9e8d329b6"), looks := true }, kinds := [], alts := [], laidByText := true, laidKinds := [.data, .data, .data, .sentinel, .sentinel], laidTests := true, laidLooks := .later }
def DateStepsUptoCardSaid : Prop := Claim7.holds Tryd.pinned (.plain (OpenSpec.upto dateStepsSpec)) dateStepsUptoCard
end Rows
end Go.Proofs.YtmofeikdaoknlaaDoor
