/-
  DERIVED. GIVEN WITH THE SEED: THE CARDS: each row of YtjljjnipjhbeaaaGreatDoorRows.lean that lists a variable, with what it lists TIED to the program's text (the seventh form; the later family's looks); each row that meets fmt, with fmt's text TOLD by the authors' own Lean function (tested against real Go, not proved from fmt's source: count such statements apart). THE CARD IS WHAT COUNTS. Prove the row's statement (the work); the ties are given (YtjljjnipjhbeaaaGreatDoorTie.lean); close each card by the builder's one call (the guide's Derived/Test/ToyasCard.lean, 'card_holds'). Laid BY PROGRAM, IN A SANDBOX (cutbox-door.mjs). By AI agents, Wed Nov 11 2026. No macro, syntax, notation, axiom, sorry.
-/
import Derived.Test.YtjljjnipjhbeaaaGreatDoorRows
import GoSem.ClaimSeven
namespace Go.Proofs.YtjljjnipjhbeaaaGreatDoor
namespace Rows

/-- THE TIED CARD OF 'librarylaw05.BarcodeLuhns'. -/
def barcodeLuhnsCard : Claim7 := { stood := { row := barcodeLuhnsRow, standIns := [], harness := (true, "ac7f678045f01e3ef882ae50dd08a955a8ca3b17aa44c90be8581034dd8337e7"), looks := true }, kinds := [], alts := [], laidByText := true, laidKinds := [.data, .data, .data, .sentinel, .sentinel], laidTests := true, laidLooks := .later }
def BarcodeLuhnsCardSaid : Prop := Claim7.holds Tryz.pinned (.plain (OpenSpec.ofChange barcodeLuhnsSpec)) barcodeLuhnsCard

/-- THE TIED CARD OF 'librarylaw05.BarcodeMakes'. -/
def barcodeMakesCard : Claim7 := { stood := { row := barcodeMakesRow, standIns := [], harness := (true, "ac7f678045f01e3ef882ae50dd08a955a8ca3b17aa44c90be8581034dd8337e7"), looks := true }, kinds := [], alts := [], laidByText := true, laidKinds := [.data, .data, .data, .sentinel, .sentinel], laidTests := true, laidLooks := .later }
def BarcodeMakesCardSaid : Prop := Claim7.holds Tryz.pinned (.plain (OpenSpec.ofChange barcodeMakesSpec)) barcodeMakesCard

/-- THE TIED CARD OF 'librarylaw05.BarcodeParses'. -/
def barcodeParsesCard : Claim7 := { stood := { row := barcodeParsesRow, standIns := [], harness := (true, "ac7f678045f01e3ef882ae50dd08a955a8ca3b17aa44c90be8581034dd8337e7"), looks := true }, kinds := [], alts := [], laidByText := true, laidKinds := [.data, .data, .data, .sentinel, .sentinel], laidTests := true, laidLooks := .later }
def BarcodeParsesCardSaid : Prop := Claim7.holds Tryz.pinned (.plain (OpenSpec.ofChange barcodeParsesSpec)) barcodeParsesCard

/-- THE TIED CARD OF 'librarylaw05.BarcodeIsbns'. -/
def barcodeIsbnsCard : Claim7 := { stood := { row := barcodeIsbnsRow, standIns := [], harness := (true, "ac7f678045f01e3ef882ae50dd08a955a8ca3b17aa44c90be8581034dd8337e7"), looks := true }, kinds := [], alts := [], laidByText := true, laidKinds := [.data, .data, .data, .sentinel, .sentinel], laidTests := true, laidLooks := .later }
def BarcodeIsbnsCardSaid : Prop := Claim7.holds Tryz.pinned (.plain (OpenSpec.ofChange barcodeIsbnsSpec)) barcodeIsbnsCard

/-- THE TIED CARD OF 'librarylaw05.BarcodeIssns'. -/
def barcodeIssnsCard : Claim7 := { stood := { row := barcodeIssnsRow, standIns := [], harness := (true, "ac7f678045f01e3ef882ae50dd08a955a8ca3b17aa44c90be8581034dd8337e7"), looks := true }, kinds := [], alts := [], laidByText := true, laidKinds := [.data, .data, .data, .sentinel, .sentinel], laidTests := true, laidLooks := .later }
def BarcodeIssnsCardSaid : Prop := Claim7.holds Tryz.pinned (.plain (OpenSpec.ofChange barcodeIssnsSpec)) barcodeIssnsCard

/-- THE TIED CARD OF 'librarylaw05.BarcodeRestores'. -/
def barcodeRestoresCard : Claim7 := { stood := { row := barcodeRestoresRow, standIns := [], harness := (true, "ac7f678045f01e3ef882ae50dd08a955a8ca3b17aa44c90be8581034dd8337e7"), looks := true }, kinds := [], alts := [], laidByText := true, laidKinds := [.data, .data, .data, .sentinel, .sentinel], laidTests := true, laidLooks := .later }
def BarcodeRestoresCardSaid : Prop := Claim7.holds Tryz.pinned (.plain (OpenSpec.ofChange barcodeRestoresSpec)) barcodeRestoresCard

/-- THE TIED CARD OF 'librarylaw05.BarcodeDetects'. -/
def barcodeDetectsCard : Claim7 := { stood := { row := barcodeDetectsRow, standIns := [], harness := (true, "ac7f678045f01e3ef882ae50dd08a955a8ca3b17aa44c90be8581034dd8337e7"), looks := true }, kinds := [], alts := [], laidByText := true, laidKinds := [.data, .data, .data, .sentinel, .sentinel], laidTests := true, laidLooks := .later }
def BarcodeDetectsCardSaid : Prop := Claim7.holds Tryz.pinned (.plain (OpenSpec.ofChange barcodeDetectsSpec)) barcodeDetectsCard

/-- THE TIED CARD OF 'librarylaw05.BarcodeBooks'. -/
def barcodeBooksCard : Claim7 := { stood := { row := barcodeBooksRow, standIns := [], harness := (true, "ac7f678045f01e3ef882ae50dd08a955a8ca3b17aa44c90be8581034dd8337e7"), looks := true }, kinds := [], alts := [], laidByText := true, laidKinds := [.data, .data, .data, .sentinel, .sentinel], laidTests := true, laidLooks := .later }
def BarcodeBooksCardSaid : Prop := Claim7.holds Tryz.pinned (.plain (OpenSpec.ofChange barcodeBooksSpec)) barcodeBooksCard

/-- THE TIED CARD OF 'librarylaw05.BarcodeSerials'. -/
def barcodeSerialsCard : Claim7 := { stood := { row := barcodeSerialsRow, standIns := [], harness := (true, "ac7f678045f01e3ef882ae50dd08a955a8ca3b17aa44c90be8581034dd8337e7"), looks := true }, kinds := [], alts := [], laidByText := true, laidKinds := [.data, .data, .data, .sentinel, .sentinel], laidTests := true, laidLooks := .later }
def BarcodeSerialsCardSaid : Prop := Claim7.holds Tryz.pinned (.plain (OpenSpec.ofChange barcodeSerialsSpec)) barcodeSerialsCard

/-- THE SECOND FORM's CARD OF 'librarylaw05.BarcodeLuhns'. -/
def barcodeLuhnsUptoCard : Claim7 := { stood := { row := barcodeLuhnsUptoRow, standIns := [], harness := (true, "ac7f678045f01e3ef882ae50dd08a955a8ca3b17aa44c90be8581034dd8337e7"), looks := true }, kinds := [], alts := [], laidByText := true, laidKinds := [.data, .data, .data, .sentinel, .sentinel], laidTests := true, laidLooks := .later }
def BarcodeLuhnsUptoCardSaid : Prop := Claim7.holds Tryz.pinned (.plain (OpenSpec.upto barcodeLuhnsSpec)) barcodeLuhnsUptoCard

/-- THE SECOND FORM's CARD OF 'librarylaw05.BarcodeMakes'. -/
def barcodeMakesUptoCard : Claim7 := { stood := { row := barcodeMakesUptoRow, standIns := [], harness := (true, "ac7f678045f01e3ef882ae50dd08a955a8ca3b17aa44c90be8581034dd8337e7"), looks := true }, kinds := [], alts := [], laidByText := true, laidKinds := [.data, .data, .data, .sentinel, .sentinel], laidTests := true, laidLooks := .later }
def BarcodeMakesUptoCardSaid : Prop := Claim7.holds Tryz.pinned (.plain (OpenSpec.upto barcodeMakesSpec)) barcodeMakesUptoCard

/-- THE SECOND FORM's CARD OF 'librarylaw05.BarcodeParses'. -/
def barcodeParsesUptoCard : Claim7 := { stood := { row := barcodeParsesUptoRow, standIns := [], harness := (true, "ac7f678045f01e3ef882ae50dd08a955a8ca3b17aa44c90be8581034dd8337e7"), looks := true }, kinds := [], alts := [], laidByText := true, laidKinds := [.data, .data, .data, .sentinel, .sentinel], laidTests := true, laidLooks := .later }
def BarcodeParsesUptoCardSaid : Prop := Claim7.holds Tryz.pinned (.plain (OpenSpec.upto barcodeParsesSpec)) barcodeParsesUptoCard

/-- THE SECOND FORM's CARD OF 'librarylaw05.BarcodeIsbns'. -/
def barcodeIsbnsUptoCard : Claim7 := { stood := { row := barcodeIsbnsUptoRow, standIns := [], harness := (true, "ac7f678045f01e3ef882ae50dd08a955a8ca3b17aa44c90be8581034dd8337e7"), looks := true }, kinds := [], alts := [], laidByText := true, laidKinds := [.data, .data, .data, .sentinel, .sentinel], laidTests := true, laidLooks := .later }
def BarcodeIsbnsUptoCardSaid : Prop := Claim7.holds Tryz.pinned (.plain (OpenSpec.upto barcodeIsbnsSpec)) barcodeIsbnsUptoCard

/-- THE SECOND FORM's CARD OF 'librarylaw05.BarcodeIssns'. -/
def barcodeIssnsUptoCard : Claim7 := { stood := { row := barcodeIssnsUptoRow, standIns := [], harness := (true, "ac7f678045f01e3ef882ae50dd08a955a8ca3b17aa44c90be8581034dd8337e7"), looks := true }, kinds := [], alts := [], laidByText := true, laidKinds := [.data, .data, .data, .sentinel, .sentinel], laidTests := true, laidLooks := .later }
def BarcodeIssnsUptoCardSaid : Prop := Claim7.holds Tryz.pinned (.plain (OpenSpec.upto barcodeIssnsSpec)) barcodeIssnsUptoCard

/-- THE SECOND FORM's CARD OF 'librarylaw05.BarcodeRestores'. -/
def barcodeRestoresUptoCard : Claim7 := { stood := { row := barcodeRestoresUptoRow, standIns := [], harness := (true, "ac7f678045f01e3ef882ae50dd08a955a8ca3b17aa44c90be8581034dd8337e7"), looks := true }, kinds := [], alts := [], laidByText := true, laidKinds := [.data, .data, .data, .sentinel, .sentinel], laidTests := true, laidLooks := .later }
def BarcodeRestoresUptoCardSaid : Prop := Claim7.holds Tryz.pinned (.plain (OpenSpec.upto barcodeRestoresSpec)) barcodeRestoresUptoCard

/-- THE SECOND FORM's CARD OF 'librarylaw05.BarcodeDetects'. -/
def barcodeDetectsUptoCard : Claim7 := { stood := { row := barcodeDetectsUptoRow, standIns := [], harness := (true, "ac7f678045f01e3ef882ae50dd08a955a8ca3b17aa44c90be8581034dd8337e7"), looks := true }, kinds := [], alts := [], laidByText := true, laidKinds := [.data, .data, .data, .sentinel, .sentinel], laidTests := true, laidLooks := .later }
def BarcodeDetectsUptoCardSaid : Prop := Claim7.holds Tryz.pinned (.plain (OpenSpec.upto barcodeDetectsSpec)) barcodeDetectsUptoCard

/-- THE SECOND FORM's CARD OF 'librarylaw05.BarcodeBooks'. -/
def barcodeBooksUptoCard : Claim7 := { stood := { row := barcodeBooksUptoRow, standIns := [], harness := (true, "ac7f678045f01e3ef882ae50dd08a955a8ca3b17aa44c90be8581034dd8337e7"), looks := true }, kinds := [], alts := [], laidByText := true, laidKinds := [.data, .data, .data, .sentinel, .sentinel], laidTests := true, laidLooks := .later }
def BarcodeBooksUptoCardSaid : Prop := Claim7.holds Tryz.pinned (.plain (OpenSpec.upto barcodeBooksSpec)) barcodeBooksUptoCard

/-- THE SECOND FORM's CARD OF 'librarylaw05.BarcodeSerials'. -/
def barcodeSerialsUptoCard : Claim7 := { stood := { row := barcodeSerialsUptoRow, standIns := [], harness := (true, "ac7f678045f01e3ef882ae50dd08a955a8ca3b17aa44c90be8581034dd8337e7"), looks := true }, kinds := [], alts := [], laidByText := true, laidKinds := [.data, .data, .data, .sentinel, .sentinel], laidTests := true, laidLooks := .later }
def BarcodeSerialsUptoCardSaid : Prop := Claim7.holds Tryz.pinned (.plain (OpenSpec.upto barcodeSerialsSpec)) barcodeSerialsUptoCard
end Rows
end Go.Proofs.YtjljjnipjhbeaaaGreatDoor
