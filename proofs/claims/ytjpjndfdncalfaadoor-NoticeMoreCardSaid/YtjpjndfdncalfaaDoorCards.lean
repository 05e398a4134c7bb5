/-
  DERIVED. GIVEN WITH THE SEED: THE CARDS: each row of YtjpjndfdncalfaaDoorRows.lean that lists a variable, with what it lists TIED to the program's text (the seventh form; the later family's looks); each row that meets fmt, with fmt's text TOLD by the authors' own Lean function (tested against real Go, not proved from fmt's source: count such statements apart). THE CARD IS WHAT COUNTS. Prove the row's statement (the work); the ties are given (YtjpjndfdncalfaaDoorTie.lean); close each card by the builder's one call (the guide's Derived/Test/ToyasCard.lean, 'card_holds'). Laid BY PROGRAM, IN A SANDBOX (cutbox-door.mjs). By AI agents, Wed Nov 11 2026. No macro, syntax, notation, axiom, sorry.
-/
import Derived.Test.YtjpjndfdncalfaaDoorRows
import GoSem.ClaimSeven
namespace Go.Proofs.YtjpjndfdncalfaaDoor
namespace Rows

/-- THE TIED CARD OF 'librarylaw35.NoticeDue'. -/
def noticeDueCard : Claim7 := { stood := { row := noticeDueRow, standIns := [], harness := (true, "b314926139f64a8a4896643944ca45c30ca546d020b599b5125ab4ccc7b03198"), looks := false }, kinds := [], alts := [], laidByText := true, laidKinds := [.data, .data, .data], laidTests := true, laidLooks := .later }
def NoticeDueCardSaid : Prop := Claim7.holds Tryd.pinned (.plain (OpenSpec.ofChange noticeDueSpec)) noticeDueCard

/-- THE TIED CARD OF 'librarylaw35.NoticeTexts'. -/
def noticeTextsCard : Claim7 := { stood := { row := noticeTextsRow, standIns := [], harness := (true, "b314926139f64a8a4896643944ca45c30ca546d020b599b5125ab4ccc7b03198"), looks := false }, kinds := [], alts := [], laidByText := true, laidKinds := [.data, .data, .data], laidTests := true, laidLooks := .later }
def NoticeTextsCardSaid : Prop := Claim7.holds Tryd.pinned (.plain (OpenSpec.ofChange noticeTextsSpec)) noticeTextsCard

/-- THE TIED CARD OF 'librarylaw35.NoticeSorted'. -/
def noticeSortedCard : Claim7 := { stood := { row := noticeSortedRow, standIns := [], harness := (true, "b314926139f64a8a4896643944ca45c30ca546d020b599b5125ab4ccc7b03198"), looks := false }, kinds := [], alts := [], laidByText := true, laidKinds := [.data, .data, .data], laidTests := true, laidLooks := .later }
def NoticeSortedCardSaid : Prop := Claim7.holds Tryd.pinned (.plain (OpenSpec.ofChange noticeSortedSpec)) noticeSortedCard

/-- THE TIED CARD OF 'librarylaw35.NoticeAll'. -/
def noticeAllCard : Claim7 := { stood := { row := noticeAllRow, standIns := [], harness := (true, "b314926139f64a8a4896643944ca45c30ca546d020b599b5125ab4ccc7b03198"), looks := false }, kinds := [], alts := [], laidByText := true, laidKinds := [.data, .data, .data], laidTests := true, laidLooks := .later }
def NoticeAllCardSaid : Prop := Claim7.holds Tryd.pinned (.plain (OpenSpec.ofChange noticeAllSpec)) noticeAllCard

/-- THE TIED CARD OF 'librarylaw35.NoticeFor'. -/
def noticeForCard : Claim7 := { stood := { row := noticeForRow, standIns := [], harness := (true, "b314926139f64a8a4896643944ca45c30ca546d020b599b5125ab4ccc7b03198"), looks := false }, kinds := [], alts := [], laidByText := true, laidKinds := [.data, .data, .data], laidTests := true, laidLooks := .later }
def NoticeForCardSaid : Prop := Claim7.holds Tryd.pinned (.plain (OpenSpec.ofChange noticeForSpec)) noticeForCard

/-- THE TIED CARD OF 'librarylaw35.NoticeMore'. -/
def noticeMoreCard : Claim7 := { stood := { row := noticeMoreRow, standIns := [], harness := (true, "b314926139f64a8a4896643944ca45c30ca546d020b599b5125ab4ccc7b03198"), looks := false }, kinds := [], alts := [], laidByText := true, laidKinds := [.data, .data, .data], laidTests := true, laidLooks := .later }
def NoticeMoreCardSaid : Prop := Claim7.holds Tryd.pinned (.plain (OpenSpec.ofChange noticeMoreSpec)) noticeMoreCard

/-- THE SECOND FORM's CARD OF 'librarylaw35.NoticeDue'. -/
def noticeDueUptoCard : Claim7 := { stood := { row := noticeDueUptoRow, standIns := [], harness := (true, "b314926139f64a8a4896643944ca45c30ca546d020b599b5125ab4ccc7b03198"), looks := false }, kinds := [], alts := [], laidByText := true, laidKinds := [.data, .data, .data], laidTests := true, laidLooks := .later }
def NoticeDueUptoCardSaid : Prop := Claim7.holds Tryd.pinned (.plain (OpenSpec.upto noticeDueSpec)) noticeDueUptoCard

/-- THE SECOND FORM's CARD OF 'librarylaw35.NoticeTexts'. -/
def noticeTextsUptoCard : Claim7 := { stood := { row := noticeTextsUptoRow, standIns := [], harness := (true, "b314926139f64a8a4896643944ca45c30ca546d020b599b5125ab4ccc7b03198"), looks := false }, kinds := [], alts := [], laidByText := true, laidKinds := [.data, .data, .data], laidTests := true, laidLooks := .later }
def NoticeTextsUptoCardSaid : Prop := Claim7.holds Tryd.pinned (.plain (OpenSpec.upto noticeTextsSpec)) noticeTextsUptoCard

/-- THE SECOND FORM's CARD OF 'librarylaw35.NoticeSorted'. -/
def noticeSortedUptoCard : Claim7 := { stood := { row := noticeSortedUptoRow, standIns := [], harness := (true, "b314926139f64a8a4896643944ca45c30ca546d020b599b5125ab4ccc7b03198"), looks := false }, kinds := [], alts := [], laidByText := true, laidKinds := [.data, .data, .data], laidTests := true, laidLooks := .later }
def NoticeSortedUptoCardSaid : Prop := Claim7.holds Tryd.pinned (.plain (OpenSpec.upto noticeSortedSpec)) noticeSortedUptoCard

/-- THE SECOND FORM's CARD OF 'librarylaw35.NoticeAll'. -/
def noticeAllUptoCard : Claim7 := { stood := { row := noticeAllUptoRow, standIns := [], harness := (true, "b314926139f64a8a4896643944ca45c30ca546d020b599b5125ab4ccc7b03198"), looks := false }, kinds := [], alts := [], laidByText := true, laidKinds := [.data, .data, .data], laidTests := true, laidLooks := .later }
def NoticeAllUptoCardSaid : Prop := Claim7.holds Tryd.pinned (.plain (OpenSpec.upto noticeAllSpec)) noticeAllUptoCard

/-- THE SECOND FORM's CARD OF 'librarylaw35.NoticeFor'. -/
def noticeForUptoCard : Claim7 := { stood := { row := noticeForUptoRow, standIns := [], harness := (true, "b314926139f64a8a4896643944ca45c30ca546d020b599b5125ab4ccc7b03198"), looks := false }, kinds := [], alts := [], laidByText := true, laidKinds := [.data, .data, .data], laidTests := true, laidLooks := .later }
def NoticeForUptoCardSaid : Prop := Claim7.holds Tryd.pinned (.plain (OpenSpec.upto noticeForSpec)) noticeForUptoCard

/-- THE SECOND FORM's CARD OF 'librarylaw35.NoticeMore'. -/
def noticeMoreUptoCard : Claim7 := { stood := { row := noticeMoreUptoRow, standIns := [], harness := (true, "b314926139f64a8a4896643944ca45c30ca546d020b599b5125ab4ccc7b03198"), looks := false }, kinds := [], alts := [], laidByText := true, laidKinds := [.data, .data, .data], laidTests := true, laidLooks := .later }
def NoticeMoreUptoCardSaid : Prop := Claim7.holds Tryd.pinned (.plain (OpenSpec.upto noticeMoreSpec)) noticeMoreUptoCard
end Rows
end Go.Proofs.YtjpjndfdncalfaaDoor
