/-
  DERIVED. GIVEN WITH THE SEED: THE CARDS: each row of YtabmhpgbfjkkcaaDoorRows.lean that lists a variable, with what it lists TIED to the program's text (the seventh form; the later family's looks); each row that meets fmt, with fmt's text TOLD by the authors' own Lean function (tested against real Go, not proved from fmt's source: count such statements apart). THE CARD IS WHAT COUNTS. Prove the row's statement (the work); the ties are given (YtabmhpgbfjkkcaaDoorTie.lean); close each card by the builder's one call (the guide's Derived/Test/ToyasCard.lean, 'card_holds'). Laid BY PROGRAM, IN A SANDBOX (cutbox-door.mjs). By AI agents, Wed Nov 11 2026. No macro, syntax, notation, axiom, sorry.
-/
import Derived.Test.YtabmhpgbfjkkcaaDoorRows
import GoSem.ClaimSeven
namespace Go.Proofs.YtabmhpgbfjkkcaaDoor
namespace Rows

/-- THE TIED CARD OF 'librarylaw30.CustodyRights'. -/
def custodyRightsCard : Claim7 := { stood := { row := custodyRightsRow, standIns := [], harness := (true, "87aa750a30057869c3fd8dbb61533cdcf8db8d60a2b3a390e2436c214a0cdd05"), looks := false }, kinds := [], alts := [], laidByText := true, laidKinds := [.data, .data, .data, .data], laidTests := true, laidLooks := .later }
def CustodyRightsCardSaid : Prop := Claim7.holds Tryd.pinned (.plain (OpenSpec.ofChange custodyRightsSpec)) custodyRightsCard

/-- THE TIED CARD OF 'librarylaw30.CustodyApplies'. -/
def custodyAppliesCard : Claim7 := { stood := { row := custodyAppliesRow, standIns := [], harness := (true, "87aa750a30057869c3fd8dbb61533cdcf8db8d60a2b3a390e2436c214a0cdd05"), looks := false }, kinds := [], alts := [], laidByText := true, laidKinds := [.data, .data, .data, .data], laidTests := true, laidLooks := .later }
def CustodyAppliesCardSaid : Prop := Claim7.holds Tryd.pinned (.plain (OpenSpec.ofChange custodyAppliesSpec)) custodyAppliesCard

/-- THE TIED CARD OF 'librarylaw30.CustodyReplays'. -/
def custodyReplaysCard : Claim7 := { stood := { row := custodyReplaysRow, standIns := [], harness := (true, "87aa750a30057869c3fd8dbb61533cdcf8db8d60a2b3a390e2436c214a0cdd05"), looks := false }, kinds := [], alts := [], laidByText := true, laidKinds := [.data, .data, .data, .data], laidTests := true, laidLooks := .later }
def CustodyReplaysCardSaid : Prop := Claim7.holds Tryd.pinned (.plain (OpenSpec.ofChange custodyReplaysSpec)) custodyReplaysCard

/-- THE TIED CARD OF 'librarylaw30.CustodyTexts'. -/
def custodyTextsCard : Claim7 := { stood := { row := custodyTextsRow, standIns := [], harness := (true, "87aa750a30057869c3fd8dbb61533cdcf8db8d60a2b3a390e2436c214a0cdd05"), looks := false }, kinds := [], alts := [], laidByText := true, laidKinds := [.data, .data, .data, .data], laidTests := true, laidLooks := .later }
def CustodyTextsCardSaid : Prop := Claim7.holds Tryd.pinned (.plain (OpenSpec.ofChange custodyTextsSpec)) custodyTextsCard

/-- THE TIED CARD OF 'librarylaw30.CustodyStays'. -/
def custodyStaysCard : Claim7 := { stood := { row := custodyStaysRow, standIns := [], harness := (true, "87aa750a30057869c3fd8dbb61533cdcf8db8d60a2b3a390e2436c214a0cdd05"), looks := false }, kinds := [], alts := [], laidByText := true, laidKinds := [.data, .data, .data, .data], laidTests := true, laidLooks := .later }
def CustodyStaysCardSaid : Prop := Claim7.holds Tryd.pinned (.plain (OpenSpec.ofChange custodyStaysSpec)) custodyStaysCard

/-- THE TIED CARD OF 'librarylaw30.CustodyContinues'. -/
def custodyContinuesCard : Claim7 := { stood := { row := custodyContinuesRow, standIns := [], harness := (true, "87aa750a30057869c3fd8dbb61533cdcf8db8d60a2b3a390e2436c214a0cdd05"), looks := false }, kinds := [], alts := [], laidByText := true, laidKinds := [.data, .data, .data, .data], laidTests := true, laidLooks := .later }
def CustodyContinuesCardSaid : Prop := Claim7.holds Tryd.pinned (.plain (OpenSpec.ofChange custodyContinuesSpec)) custodyContinuesCard

/-- THE TIED CARD OF 'librarylaw30.CustodyNames'. -/
def custodyNamesCard : Claim7 := { stood := { row := custodyNamesRow, standIns := [], harness := (true, "87aa750a30057869c3fd8dbb61533cdcf8db8d60a2b3a390e2436c214a0cdd05"), looks := false }, kinds := [], alts := [], laidByText := true, laidKinds := [.data, .data, .data, .data], laidTests := true, laidLooks := .later }
def CustodyNamesCardSaid : Prop := Claim7.holds Tryd.pinned (.plain (OpenSpec.ofChange custodyNamesSpec)) custodyNamesCard

/-- THE SECOND FORM's CARD OF 'librarylaw30.CustodyRights'. -/
def custodyRightsUptoCard : Claim7 := { stood := { row := custodyRightsUptoRow, standIns := [], harness := (true, "87aa750a30057869c3fd8dbb61533cdcf8db8d60a2b3a390e2436c214a0cdd05"), looks := false }, kinds := [], alts := [], laidByText := true, laidKinds := [.data, .data, .data, .data], laidTests := true, laidLooks := .later }
def CustodyRightsUptoCardSaid : Prop := Claim7.holds Tryd.pinned (.plain (OpenSpec.upto custodyRightsSpec)) custodyRightsUptoCard

/-- THE SECOND FORM's CARD OF 'librarylaw30.CustodyApplies'. -/
def custodyAppliesUptoCard : Claim7 := { stood := { row := custodyAppliesUptoRow, standIns := [], harness := (true, "87aa750a30057869c3fd8dbb61533cdcf8db8d60a2b3a390e2436c214a0cdd05"), looks := false }, kinds := [], alts := [], laidByText := true, laidKinds := [.data, .data, .data, .data], laidTests := true, laidLooks := .later }
def CustodyAppliesUptoCardSaid : Prop := Claim7.holds Tryd.pinned (.plain (OpenSpec.upto custodyAppliesSpec)) custodyAppliesUptoCard

/-- THE SECOND FORM's CARD OF 'librarylaw30.CustodyReplays'. -/
def custodyReplaysUptoCard : Claim7 := { stood := { row := custodyReplaysUptoRow, standIns := [], harness := (true, "87aa750a30057869c3fd8dbb61533cdcf8db8d60a2b3a390e2436c214a0cdd05"), looks := false }, kinds := [], alts := [], laidByText := true, laidKinds := [.data, .data, .data, .data], laidTests := true, laidLooks := .later }
def CustodyReplaysUptoCardSaid : Prop := Claim7.holds Tryd.pinned (.plain (OpenSpec.upto custodyReplaysSpec)) custodyReplaysUptoCard

/-- THE SECOND FORM's CARD OF 'librarylaw30.CustodyTexts'. -/
def custodyTextsUptoCard : Claim7 := { stood := { row := custodyTextsUptoRow, standIns := [], harness := (true, "87aa750a30057869c3fd8dbb61533cdcf8db8d60a2b3a390e2436c214a0cdd05"), looks := false }, kinds := [], alts := [], laidByText := true, laidKinds := [.data, .data, .data, .data], laidTests := true, laidLooks := .later }
def CustodyTextsUptoCardSaid : Prop := Claim7.holds Tryd.pinned (.plain (OpenSpec.upto custodyTextsSpec)) custodyTextsUptoCard

/-- THE SECOND FORM's CARD OF 'librarylaw30.CustodyStays'. -/
def custodyStaysUptoCard : Claim7 := { stood := { row := custodyStaysUptoRow, standIns := [], harness := (true, "87aa750a30057869c3fd8dbb61533cdcf8db8d60a2b3a390e2436c214a0cdd05"), looks := false }, kinds := [], alts := [], laidByText := true, laidKinds := [.data, .data, .data, .data], laidTests := true, laidLooks := .later }
def CustodyStaysUptoCardSaid : Prop := Claim7.holds Tryd.pinned (.plain (OpenSpec.upto custodyStaysSpec)) custodyStaysUptoCard

/-- THE SECOND FORM's CARD OF 'librarylaw30.CustodyContinues'. -/
def custodyContinuesUptoCard : Claim7 := { stood := { row := custodyContinuesUptoRow, standIns := [], harness := (true, "87aa750a30057869c3fd8dbb61533cdcf8db8d60a2b3a390e2436c214a0cdd05"), looks := false }, kinds := [], alts := [], laidByText := true, laidKinds := [.data, .data, .data, .data], laidTests := true, laidLooks := .later }
def CustodyContinuesUptoCardSaid : Prop := Claim7.holds Tryd.pinned (.plain (OpenSpec.upto custodyContinuesSpec)) custodyContinuesUptoCard

/-- THE SECOND FORM's CARD OF 'librarylaw30.CustodyNames'. -/
def custodyNamesUptoCard : Claim7 := { stood := { row := custodyNamesUptoRow, standIns := [], harness := (true, "87aa750a30057869c3fd8dbb61533cdcf8db8d60a2b3a390e2436c214a0cdd05"), looks := false }, kinds := [], alts := [], laidByText := true, laidKinds := [.data, .data, .data, .data], laidTests := true, laidLooks := .later }
def CustodyNamesUptoCardSaid : Prop := Claim7.holds Tryd.pinned (.plain (OpenSpec.upto custodyNamesSpec)) custodyNamesUptoCard
end Rows
end Go.Proofs.YtabmhpgbfjkkcaaDoor
