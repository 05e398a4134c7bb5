/-
  No cell of these rows narrows 'for every input' (looked for: loops, veiled, ifaces, maps, wideKeys, modest, calm, conditions, laid).
  DERIVED. THE GIVEN ROWS OF THIS SEAT. 5 by the template 'for every input the law returns true; each argument reads behind the call as it read before'; 0 by the template 'total and deterministic' (their statements: YtkmcchcdmdooiaaTotals.lean).
  GIVEN WITH THE SEED: the statements are not yours to turn. If you find one false, say at which input.
  Laid BY PROGRAM, IN A SANDBOX (cutbox-rows.mjs): the forced cells as the released guide's own fill.sh prints them over the translation 8e5681c67eba4224… (all of the seat's roots in one cut). By AI agents, Wed Nov 11 2026. No macro, syntax, notation, axiom, sorry.
-/
import Derived.Test.YtkmcchcdmdooiaaChecked
import GoSem.Claim
import GoSem.ClaimJoined
import GoSem.ClaimMapViews
import Derived.JoinedTies
import Derived.KernelRfl
namespace Go.Proofs.Ytkmcchcdmdooiaa
/- THE CELL 'sum', in the pinned program and in every row, IS THE sha256 OF THE DUMP (.gsa) THAT YtkmcchcdmdooiaaProg.lean LOADS. Nothing in Lean hashes anything: it is a label: what it is worth is what the hold of that sum in a sandbox is worth. -/
noncomputable def Try.pinned : Pinned := { name := "ytkmcchcdmdooiaa", sum := "8e5681c67eba4224ded6789a7f09c68be5f44382bcc7e6d414a976424b11fd62", checked := Try.checked }
namespace Rows
def none {H : Type} : Left H := { results := [], args := [] }

/-- 'librarylaw26.CalendarChecks': WHATEVER THE INPUT: true; the input reads as it did. -/
def calendarChecksSpec : ChangeSpec := { name := "calendarChecks", fn := fun _ => fun
  | [d1, d2] => { results := [.lit (.bool true)], args := [d1, d2] }
  | _ => none }
def calendarChecksRow : OpenClaim := { program := "ytkmcchcdmdooiaa", sum := "8e5681c67eba4224ded6789a7f09c68be5f44382bcc7e6d414a976424b11fd62", func := "library/librarylaw26.CalendarChecks", spec := "calendarChecks", unfollowed := true, recurses := true, apart := false }
def CalendarChecksSaid : Prop := calendarChecksRow.holds Try.pinned (OpenSpec.ofChange calendarChecksSpec)

/-- ITS FALSE NEIGHBOUR: 'it returns false'. Refute it at one input. -/
def calendarChecksWrong : ChangeSpec := { name := "calendarChecks", fn := fun _ => fun
  | [d1, d2] => { results := [.lit (.bool false)], args := [d1, d2] }
  | _ => none }
def CalendarChecksWrongFalsely : Prop := calendarChecksRow.holds Try.pinned (OpenSpec.ofChange calendarChecksWrong)

/-- 'librarylaw26.CalendarFinds': WHATEVER THE INPUT: true; the input reads as it did. -/
def calendarFindsSpec : ChangeSpec := { name := "calendarFinds", fn := fun _ => fun
  | [d1, d2] => { results := [.lit (.bool true)], args := [d1, d2] }
  | _ => none }
def calendarFindsRow : OpenClaim := { program := "ytkmcchcdmdooiaa", sum := "8e5681c67eba4224ded6789a7f09c68be5f44382bcc7e6d414a976424b11fd62", func := "library/librarylaw26.CalendarFinds", spec := "calendarFinds", unfollowed := true, recurses := true, apart := false }
def CalendarFindsSaid : Prop := calendarFindsRow.holds Try.pinned (OpenSpec.ofChange calendarFindsSpec)

/-- ITS FALSE NEIGHBOUR: 'it returns false'. Refute it at one input. -/
def calendarFindsWrong : ChangeSpec := { name := "calendarFinds", fn := fun _ => fun
  | [d1, d2] => { results := [.lit (.bool false)], args := [d1, d2] }
  | _ => none }
def CalendarFindsWrongFalsely : Prop := calendarFindsRow.holds Try.pinned (OpenSpec.ofChange calendarFindsWrong)

/-- 'librarylaw26.CalendarCounts': WHATEVER THE INPUT: true; the input reads as it did. -/
def calendarCountsSpec : ChangeSpec := { name := "calendarCounts", fn := fun _ => fun
  | [d1, d2, d3, d4] => { results := [.lit (.bool true)], args := [d1, d2, d3, d4] }
  | _ => none }
def calendarCountsRow : OpenClaim := { program := "ytkmcchcdmdooiaa", sum := "8e5681c67eba4224ded6789a7f09c68be5f44382bcc7e6d414a976424b11fd62", func := "library/librarylaw26.CalendarCounts", spec := "calendarCounts", unfollowed := true, recurses := true, apart := false }
def CalendarCountsSaid : Prop := calendarCountsRow.holds Try.pinned (OpenSpec.ofChange calendarCountsSpec)

/-- ITS FALSE NEIGHBOUR: 'it returns false'. Refute it at one input. -/
def calendarCountsWrong : ChangeSpec := { name := "calendarCounts", fn := fun _ => fun
  | [d1, d2, d3, d4] => { results := [.lit (.bool false)], args := [d1, d2, d3, d4] }
  | _ => none }
def CalendarCountsWrongFalsely : Prop := calendarCountsRow.holds Try.pinned (OpenSpec.ofChange calendarCountsWrong)

/-- 'librarylaw26.CalendarNear': WHATEVER THE INPUT: true; the input reads as it did. -/
def calendarNearSpec : ChangeSpec := { name := "calendarNear", fn := fun _ => fun
  | [d1, d2] => { results := [.lit (.bool true)], args := [d1, d2] }
  | _ => none }
def calendarNearRow : OpenClaim := { program := "ytkmcchcdmdooiaa", sum := "8e5681c67eba4224ded6789a7f09c68be5f44382bcc7e6d414a976424b11fd62", func := "library/librarylaw26.CalendarNear", spec := "calendarNear", unfollowed := true, recurses := true, apart := false }
def CalendarNearSaid : Prop := calendarNearRow.holds Try.pinned (OpenSpec.ofChange calendarNearSpec)

/-- ITS FALSE NEIGHBOUR: 'it returns false'. Refute it at one input. -/
def calendarNearWrong : ChangeSpec := { name := "calendarNear", fn := fun _ => fun
  | [d1, d2] => { results := [.lit (.bool false)], args := [d1, d2] }
  | _ => none }
def CalendarNearWrongFalsely : Prop := calendarNearRow.holds Try.pinned (OpenSpec.ofChange calendarNearWrong)

/-- 'librarylaw26.CalendarSums': WHATEVER THE INPUT: true; the input reads as it did. -/
def calendarSumsSpec : ChangeSpec := { name := "calendarSums", fn := fun _ => fun
  | [d1, d2, d3, d4, d5] => { results := [.lit (.bool true)], args := [d1, d2, d3, d4, d5] }
  | _ => none }
def calendarSumsRow : OpenClaim := { program := "ytkmcchcdmdooiaa", sum := "8e5681c67eba4224ded6789a7f09c68be5f44382bcc7e6d414a976424b11fd62", func := "library/librarylaw26.CalendarSums", spec := "calendarSums", unfollowed := true, recurses := true, apart := false }
def CalendarSumsSaid : Prop := calendarSumsRow.holds Try.pinned (OpenSpec.ofChange calendarSumsSpec)

/-- ITS FALSE NEIGHBOUR: 'it returns false'. Refute it at one input. -/
def calendarSumsWrong : ChangeSpec := { name := "calendarSums", fn := fun _ => fun
  | [d1, d2, d3, d4, d5] => { results := [.lit (.bool false)], args := [d1, d2, d3, d4, d5] }
  | _ => none }
def CalendarSumsWrongFalsely : Prop := calendarSumsRow.holds Try.pinned (OpenSpec.ofChange calendarSumsWrong)

/- THE SECOND FORM. 'bulk': how many values and letters a reading holds, each counted each time it is reached (what is shared counts as often as it is met; a slice's spare places count too). A statement '..UptoSaid' is the law's where the arguments, and the package variables that the reading takes, are together of bulk at most 1048576: NARROWER than '..Said'. Prove '..Said' where nothing that the law and all that it calls make is longer than what came in: it says more and counts as full. Else prove '..UptoSaid'. A law counts once. -/
mutual
def uptoBulk {H : Type} : DataW H → Nat
  | .lit (.string bytes) => bytes.length + 1
  | .lit _ => 1
  | .nil => 1
  | .ptr d => uptoBulk d + 1
  | .slice elems spare => uptoBulkAll elems + uptoBulkAll spare + 1
  | .agg parts => uptoBulkAll parts + 1
  | .iface _ d => uptoBulk d + 1
  | .map entries => uptoBulkEntries entries + 1
  | .held _ => 1
def uptoBulkAll {H : Type} : List (DataW H) → Nat
  | [] => 0
  | d :: r => uptoBulk d + uptoBulkAll r
def uptoBulkEntries {H : Type} : List (Lit × DataW H) → Nat
  | [] => 0
  | x :: r => uptoBulkEntry x + uptoBulkEntries r
def uptoBulkEntry {H : Type} : Lit × DataW H → Nat
  | (.string bytes, d) => bytes.length + uptoBulk d + 1
  | (_, d) => uptoBulk d + 1
 end
def uptoSmall : (H : Type) → List (DataW H) → Bool := fun _ ds => decide (uptoBulkAll ds ≤ 1048576)
def OpenSpec.upto (s : _root_.Go.ChangeSpec) : _root_.Go.OpenSpec := { _root_.Go.OpenSpec.ofChange s with cond := some uptoSmall }

/-- 'librarylaw26.CalendarChecks', WHERE WHAT IT READS IS OF BULK AT MOST 1048576: true; the input reads as it did. -/
def calendarChecksUptoRow : OpenClaim := { program := "ytkmcchcdmdooiaa", sum := "8e5681c67eba4224ded6789a7f09c68be5f44382bcc7e6d414a976424b11fd62", func := "library/librarylaw26.CalendarChecks", spec := "calendarChecks", unfollowed := true, recurses := true, apart := false, narrowed := true }
def CalendarChecksUptoSaid : Prop := calendarChecksUptoRow.holds Try.pinned (OpenSpec.upto calendarChecksSpec)

/-- 'librarylaw26.CalendarFinds', WHERE WHAT IT READS IS OF BULK AT MOST 1048576: true; the input reads as it did. -/
def calendarFindsUptoRow : OpenClaim := { program := "ytkmcchcdmdooiaa", sum := "8e5681c67eba4224ded6789a7f09c68be5f44382bcc7e6d414a976424b11fd62", func := "library/librarylaw26.CalendarFinds", spec := "calendarFinds", unfollowed := true, recurses := true, apart := false, narrowed := true }
def CalendarFindsUptoSaid : Prop := calendarFindsUptoRow.holds Try.pinned (OpenSpec.upto calendarFindsSpec)

/-- 'librarylaw26.CalendarCounts', WHERE WHAT IT READS IS OF BULK AT MOST 1048576: true; the input reads as it did. -/
def calendarCountsUptoRow : OpenClaim := { program := "ytkmcchcdmdooiaa", sum := "8e5681c67eba4224ded6789a7f09c68be5f44382bcc7e6d414a976424b11fd62", func := "library/librarylaw26.CalendarCounts", spec := "calendarCounts", unfollowed := true, recurses := true, apart := false, narrowed := true }
def CalendarCountsUptoSaid : Prop := calendarCountsUptoRow.holds Try.pinned (OpenSpec.upto calendarCountsSpec)

/-- 'librarylaw26.CalendarNear', WHERE WHAT IT READS IS OF BULK AT MOST 1048576: true; the input reads as it did. -/
def calendarNearUptoRow : OpenClaim := { program := "ytkmcchcdmdooiaa", sum := "8e5681c67eba4224ded6789a7f09c68be5f44382bcc7e6d414a976424b11fd62", func := "library/librarylaw26.CalendarNear", spec := "calendarNear", unfollowed := true, recurses := true, apart := false, narrowed := true }
def CalendarNearUptoSaid : Prop := calendarNearUptoRow.holds Try.pinned (OpenSpec.upto calendarNearSpec)

/-- 'librarylaw26.CalendarSums', WHERE WHAT IT READS IS OF BULK AT MOST 1048576: true; the input reads as it did. -/
def calendarSumsUptoRow : OpenClaim := { program := "ytkmcchcdmdooiaa", sum := "8e5681c67eba4224ded6789a7f09c68be5f44382bcc7e6d414a976424b11fd62", func := "library/librarylaw26.CalendarSums", spec := "calendarSums", unfollowed := true, recurses := true, apart := false, narrowed := true }
def CalendarSumsUptoSaid : Prop := calendarSumsUptoRow.holds Try.pinned (OpenSpec.upto calendarSumsSpec)

end Rows
end Go.Proofs.Ytkmcchcdmdooiaa
