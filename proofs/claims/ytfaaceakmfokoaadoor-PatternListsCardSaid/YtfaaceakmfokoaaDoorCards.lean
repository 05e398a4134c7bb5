/-
  DERIVED. GIVEN WITH THE SEED: THE CARDS: each row of YtfaaceakmfokoaaDoorRows.lean that lists a variable, with what it lists TIED to the program's text (the seventh form; the later family's looks); each row that meets fmt, with fmt's text TOLD by the authors' own Lean function (tested against real Go, not proved from fmt's source: count such statements apart). THE CARD IS WHAT COUNTS. Prove the row's statement (the work); the ties are given (YtfaaceakmfokoaaDoorTie.lean); close each card by the builder's one call (the guide's Derived/Test/ToyasCard.lean, 'card_holds'). Laid BY PROGRAM, IN A SANDBOX (cutbox-door.mjs). By AI agents, Wed Nov 11 2026. No macro, syntax, notation, axiom, sorry.
-/
import Derived.Test.YtfaaceakmfokoaaDoorRows
import GoSem.ClaimSeven
namespace Go.Proofs.YtfaaceakmfokoaaDoor
namespace Rows

/-- THE TIED CARD OF 'librarylaw36.PatternNth'. -/
def patternNthCard : Claim7 := { stood := { row := patternNthRow, standIns := [], harness := (true, "4acd8907efa0c02a776681d146f53752abe040d181bd1c18a78a1a5775ee479b"), looks := false }, kinds := [], alts := [], laidByText := true, laidKinds := [.data, .data, .data], laidTests := true, laidLooks := .later }
def PatternNthCardSaid : Prop := Claim7.holds Tryd.pinned (.plain (OpenSpec.ofChange patternNthSpec)) patternNthCard

/-- THE TIED CARD OF 'librarylaw36.PatternLabels'. -/
def patternLabelsCard : Claim7 := { stood := { row := patternLabelsRow, standIns := [], harness := (true, "4acd8907efa0c02a776681d146f53752abe040d181bd1c18a78a1a5775ee479b"), looks := false }, kinds := [], alts := [], laidByText := true, laidKinds := [.data, .data, .data], laidTests := true, laidLooks := .later }
def PatternLabelsCardSaid : Prop := Claim7.holds Tryd.pinned (.plain (OpenSpec.ofChange patternLabelsSpec)) patternLabelsCard

/-- THE TIED CARD OF 'librarylaw36.PatternLists'. -/
def patternListsCard : Claim7 := { stood := { row := patternListsRow, standIns := [], harness := (true, "4acd8907efa0c02a776681d146f53752abe040d181bd1c18a78a1a5775ee479b"), looks := false }, kinds := [], alts := [], laidByText := true, laidKinds := [.data, .data, .data], laidTests := true, laidLooks := .later }
def PatternListsCardSaid : Prop := Claim7.holds Tryd.pinned (.plain (OpenSpec.ofChange patternListsSpec)) patternListsCard

/-- THE TIED CARD OF 'librarylaw36.PatternChecks'. -/
def patternChecksCard : Claim7 := { stood := { row := patternChecksRow, standIns := [], harness := (true, "4acd8907efa0c02a776681d146f53752abe040d181bd1c18a78a1a5775ee479b"), looks := false }, kinds := [], alts := [], laidByText := true, laidKinds := [.data, .data, .data], laidTests := true, laidLooks := .later }
def PatternChecksCardSaid : Prop := Claim7.holds Tryd.pinned (.plain (OpenSpec.ofChange patternChecksSpec)) patternChecksCard

/-- THE TIED CARD OF 'librarylaw36.PatternNumbers'. -/
def patternNumbersCard : Claim7 := { stood := { row := patternNumbersRow, standIns := [], harness := (true, "4acd8907efa0c02a776681d146f53752abe040d181bd1c18a78a1a5775ee479b"), looks := false }, kinds := [], alts := [], laidByText := true, laidKinds := [.data, .data, .data], laidTests := true, laidLooks := .later }
def PatternNumbersCardSaid : Prop := Claim7.holds Tryd.pinned (.plain (OpenSpec.ofChange patternNumbersSpec)) patternNumbersCard

/-- THE TIED CARD OF 'librarylaw36.PatternAgrees'. -/
def patternAgreesCard : Claim7 := { stood := { row := patternAgreesRow, standIns := [], harness := (true, "4acd8907efa0c02a776681d146f53752abe040d181bd1c18a78a1a5775ee479b"), looks := false }, kinds := [], alts := [], laidByText := true, laidKinds := [.data, .data, .data], laidTests := true, laidLooks := .later }
def PatternAgreesCardSaid : Prop := Claim7.holds Tryd.pinned (.plain (OpenSpec.ofChange patternAgreesSpec)) patternAgreesCard

/-- THE SECOND FORM's CARD OF 'librarylaw36.PatternNth'. -/
def patternNthUptoCard : Claim7 := { stood := { row := patternNthUptoRow, standIns := [], harness := (true, "4acd8907efa0c02a776681d146f53752abe040d181bd1c18a78a1a5775ee479b"), looks := false }, kinds := [], alts := [], laidByText := true, laidKinds := [.data, .data, .data], laidTests := true, laidLooks := .later }
def PatternNthUptoCardSaid : Prop := Claim7.holds Tryd.pinned (.plain (OpenSpec.upto patternNthSpec)) patternNthUptoCard

/-- THE SECOND FORM's CARD OF 'librarylaw36.PatternLabels'. -/
def patternLabelsUptoCard : Claim7 := { stood := { row := patternLabelsUptoRow, standIns := [], harness := (true, "4acd8907efa0c02a776681d146f53752abe040d181bd1c18a78a1a5775ee479b"), looks := false }, kinds := [], alts := [], laidByText := true, laidKinds := [.data, .data, .data], laidTests := true, laidLooks := .later }
def PatternLabelsUptoCardSaid : Prop := Claim7.holds Tryd.pinned (.plain (OpenSpec.upto patternLabelsSpec)) patternLabelsUptoCard

/-- THE SECOND FORM's CARD OF 'librarylaw36.PatternLists'. -/
def patternListsUptoCard : Claim7 := { stood := { row := patternListsUptoRow, standIns := [], harness := (true, "4acd8907efa0c02a776681d146f53752abe040d181bd1c18a78a1a5775ee479b"), looks := false }, kinds := [], alts := [], laidByText := true, laidKinds := [.data, .data, .data], laidTests := true, laidLooks := .later }
def PatternListsUptoCardSaid : Prop := Claim7.holds Tryd.pinned (.plain (OpenSpec.upto patternListsSpec)) patternListsUptoCard

/-- THE SECOND FORM's CARD OF 'librarylaw36.PatternChecks'. -/
def patternChecksUptoCard : Claim7 := { stood := { row := patternChecksUptoRow, standIns := [], harness := (true, "4acd8907efa0c02a776681d146f53752abe040d181bd1c18a78a1a5775ee479b"), looks := false }, kinds := [], alts := [], laidByText := true, laidKinds := [.data, .data, .data], laidTests := true, laidLooks := .later }
def PatternChecksUptoCardSaid : Prop := Claim7.holds Tryd.pinned (.plain (OpenSpec.upto patternChecksSpec)) patternChecksUptoCard

/-- THE SECOND FORM's CARD OF 'librarylaw36.PatternNumbers'. -/
def patternNumbersUptoCard : Claim7 := { stood := { row := patternNumbersUptoRow, standIns := [], harness := (true, "4acd8907efa0c02a776681d146f53752abe040d181bd1c18a78a1a5775ee479b"), looks := false }, kinds := [], alts := [], laidByText := true, laidKinds := [.data, .data, .data], laidTests := true, laidLooks := .later }
def PatternNumbersUptoCardSaid : Prop := Claim7.holds Tryd.pinned (.plain (OpenSpec.upto patternNumbersSpec)) patternNumbersUptoCard

/-- THE SECOND FORM's CARD OF 'librarylaw36.PatternAgrees'. -/
def patternAgreesUptoCard : Claim7 := { stood := { row := patternAgreesUptoRow, standIns := [], harness := (true, "4acd8907efa0c02a776681d146f53752abe040d181bd1c18a78a1a5775ee479b"), looks := false }, kinds := [], alts := [], laidByText := true, laidKinds := [.data, .data, .data], laidTests := true, laidLooks := .later }
def PatternAgreesUptoCardSaid : Prop := Claim7.holds Tryd.pinned (.plain (OpenSpec.upto patternAgreesSpec)) patternAgreesUptoCard
end Rows
end Go.Proofs.YtfaaceakmfokoaaDoor
