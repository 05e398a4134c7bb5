/-
  No cell of these rows narrows 'for every input' (looked for: loops, veiled, ifaces, maps, wideKeys, modest, calm, conditions, laid).
  DERIVED. THE GIVEN ROWS OF THIS SEAT. 11 by the template 'for every input the law returns true; each argument reads behind the call as it read before'; 0 by the template 'total and deterministic' (their statements: YtceapemkefaicaaTotals.lean).
  GIVEN WITH THE SEED: the statements are not yours to turn. If you find one false, say at which input.
  Laid BY PROGRAM, IN A SANDBOX (cutbox-rows.mjs): the forced cells as the released guide's own fill.sh prints them over the translation 9a9b3b7bd79c598c… (all of the seat's roots in one cut). By AI agents, Wed Nov 11 2026. No macro, syntax, notation, axiom, sorry.
-/
import Derived.Test.YtceapemkefaicaaChecked
import GoSem.Claim
import GoSem.ClaimJoined
import GoSem.ClaimMapViews
import Derived.JoinedTies
import Derived.KernelRfl
namespace Go.Proofs.Ytceapemkefaicaa
/- THE CELL 'sum', in the pinned program and in every row, IS THE sha256 OF THE DUMP (.gsa) THAT YtceapemkefaicaaProg.lean LOADS. Nothing in Lean hashes anything: it is a label: what it is worth is what the hold of that sum in a sandbox is worth. -/
noncomputable def Try.pinned : Pinned := { name := "ytceapemkefaicaa", sum := "9a9b3b7bd79c598c24fc45ccfc150651c939d68e55024a3539bc066d7e1c3ee2", checked := Try.checked }
namespace Rows
def none {H : Type} : Left H := { results := [], args := [] }

/-- 'librarylaw37.SerialRights': WHATEVER THE INPUT: true; the input reads as it did. -/
def serialRightsSpec : ChangeSpec := { name := "serialRights", fn := fun _ => fun
  | [d] => { results := [.lit (.bool true)], args := [d] }
  | _ => none }
def serialRightsRow : OpenClaim := { program := "ytceapemkefaicaa", sum := "9a9b3b7bd79c598c24fc45ccfc150651c939d68e55024a3539bc066d7e1c3ee2", func := "library/librarylaw37.SerialRights", spec := "serialRights", unfollowed := true, recurses := true, apart := false }
def SerialRightsSaid : Prop := serialRightsRow.holds Try.pinned (OpenSpec.ofChange serialRightsSpec)

/-- ITS FALSE NEIGHBOUR: 'it returns false'. Refute it at one input. -/
def serialRightsWrong : ChangeSpec := { name := "serialRights", fn := fun _ => fun
  | [d] => { results := [.lit (.bool false)], args := [d] }
  | _ => none }
def SerialRightsWrongFalsely : Prop := serialRightsRow.holds Try.pinned (OpenSpec.ofChange serialRightsWrong)

/-- 'librarylaw37.SerialNews': WHATEVER THE INPUT: true; the input reads as it did. -/
def serialNewsSpec : ChangeSpec := { name := "serialNews", fn := fun _ => fun
  | [d1, d2] => { results := [.lit (.bool true)], args := [d1, d2] }
  | _ => none }
def serialNewsRow : OpenClaim := { program := "ytceapemkefaicaa", sum := "9a9b3b7bd79c598c24fc45ccfc150651c939d68e55024a3539bc066d7e1c3ee2", func := "library/librarylaw37.SerialNews", spec := "serialNews", unfollowed := true, recurses := true, apart := false }
def SerialNewsSaid : Prop := serialNewsRow.holds Try.pinned (OpenSpec.ofChange serialNewsSpec)

/-- ITS FALSE NEIGHBOUR: 'it returns false'. Refute it at one input. -/
def serialNewsWrong : ChangeSpec := { name := "serialNews", fn := fun _ => fun
  | [d1, d2] => { results := [.lit (.bool false)], args := [d1, d2] }
  | _ => none }
def SerialNewsWrongFalsely : Prop := serialNewsRow.holds Try.pinned (OpenSpec.ofChange serialNewsWrong)

/-- 'librarylaw37.SerialExpects': WHATEVER THE INPUT: true; the input reads as it did. -/
def serialExpectsSpec : ChangeSpec := { name := "serialExpects", fn := fun _ => fun
  | [d1, d2] => { results := [.lit (.bool true)], args := [d1, d2] }
  | _ => none }
def serialExpectsRow : OpenClaim := { program := "ytceapemkefaicaa", sum := "9a9b3b7bd79c598c24fc45ccfc150651c939d68e55024a3539bc066d7e1c3ee2", func := "library/librarylaw37.SerialExpects", spec := "serialExpects", unfollowed := true, recurses := true, apart := false }
def SerialExpectsSaid : Prop := serialExpectsRow.holds Try.pinned (OpenSpec.ofChange serialExpectsSpec)

/-- ITS FALSE NEIGHBOUR: 'it returns false'. Refute it at one input. -/
def serialExpectsWrong : ChangeSpec := { name := "serialExpects", fn := fun _ => fun
  | [d1, d2] => { results := [.lit (.bool false)], args := [d1, d2] }
  | _ => none }
def SerialExpectsWrongFalsely : Prop := serialExpectsRow.holds Try.pinned (OpenSpec.ofChange serialExpectsWrong)

/-- 'librarylaw37.SerialReceives': WHATEVER THE INPUT: true; the input reads as it did. -/
def serialReceivesSpec : ChangeSpec := { name := "serialReceives", fn := fun _ => fun
  | [d1, d2, d3] => { results := [.lit (.bool true)], args := [d1, d2, d3] }
  | _ => none }
def serialReceivesRow : OpenClaim := { program := "ytceapemkefaicaa", sum := "9a9b3b7bd79c598c24fc45ccfc150651c939d68e55024a3539bc066d7e1c3ee2", func := "library/librarylaw37.SerialReceives", spec := "serialReceives", unfollowed := true, recurses := true, apart := false }
def SerialReceivesSaid : Prop := serialReceivesRow.holds Try.pinned (OpenSpec.ofChange serialReceivesSpec)

/-- ITS FALSE NEIGHBOUR: 'it returns false'. Refute it at one input. -/
def serialReceivesWrong : ChangeSpec := { name := "serialReceives", fn := fun _ => fun
  | [d1, d2, d3] => { results := [.lit (.bool false)], args := [d1, d2, d3] }
  | _ => none }
def SerialReceivesWrongFalsely : Prop := serialReceivesRow.holds Try.pinned (OpenSpec.ofChange serialReceivesWrong)

/-- 'librarylaw37.SerialClaims': WHATEVER THE INPUT: true; the input reads as it did. -/
def serialClaimsSpec : ChangeSpec := { name := "serialClaims", fn := fun _ => fun
  | [d1, d2, d3] => { results := [.lit (.bool true)], args := [d1, d2, d3] }
  | _ => none }
def serialClaimsRow : OpenClaim := { program := "ytceapemkefaicaa", sum := "9a9b3b7bd79c598c24fc45ccfc150651c939d68e55024a3539bc066d7e1c3ee2", func := "library/librarylaw37.SerialClaims", spec := "serialClaims", unfollowed := true, recurses := true, apart := false }
def SerialClaimsSaid : Prop := serialClaimsRow.holds Try.pinned (OpenSpec.ofChange serialClaimsSpec)

/-- ITS FALSE NEIGHBOUR: 'it returns false'. Refute it at one input. -/
def serialClaimsWrong : ChangeSpec := { name := "serialClaims", fn := fun _ => fun
  | [d1, d2, d3] => { results := [.lit (.bool false)], args := [d1, d2, d3] }
  | _ => none }
def SerialClaimsWrongFalsely : Prop := serialClaimsRow.holds Try.pinned (OpenSpec.ofChange serialClaimsWrong)

/-- 'librarylaw37.SerialBinds': WHATEVER THE INPUT: true; the input reads as it did. -/
def serialBindsSpec : ChangeSpec := { name := "serialBinds", fn := fun _ => fun
  | [d1, d2, d3] => { results := [.lit (.bool true)], args := [d1, d2, d3] }
  | _ => none }
def serialBindsRow : OpenClaim := { program := "ytceapemkefaicaa", sum := "9a9b3b7bd79c598c24fc45ccfc150651c939d68e55024a3539bc066d7e1c3ee2", func := "library/librarylaw37.SerialBinds", spec := "serialBinds", unfollowed := true, recurses := true, apart := false }
def SerialBindsSaid : Prop := serialBindsRow.holds Try.pinned (OpenSpec.ofChange serialBindsSpec)

/-- ITS FALSE NEIGHBOUR: 'it returns false'. Refute it at one input. -/
def serialBindsWrong : ChangeSpec := { name := "serialBinds", fn := fun _ => fun
  | [d1, d2, d3] => { results := [.lit (.bool false)], args := [d1, d2, d3] }
  | _ => none }
def SerialBindsWrongFalsely : Prop := serialBindsRow.holds Try.pinned (OpenSpec.ofChange serialBindsWrong)

/-- 'librarylaw37.SerialHolds': WHATEVER THE INPUT: true; the input reads as it did. -/
def serialHoldsSpec : ChangeSpec := { name := "serialHolds", fn := fun _ => fun
  | [d] => { results := [.lit (.bool true)], args := [d] }
  | _ => none }
def serialHoldsRow : OpenClaim := { program := "ytceapemkefaicaa", sum := "9a9b3b7bd79c598c24fc45ccfc150651c939d68e55024a3539bc066d7e1c3ee2", func := "library/librarylaw37.SerialHolds", spec := "serialHolds", unfollowed := true, recurses := true, apart := false }
def SerialHoldsSaid : Prop := serialHoldsRow.holds Try.pinned (OpenSpec.ofChange serialHoldsSpec)

/-- ITS FALSE NEIGHBOUR: 'it returns false'. Refute it at one input. -/
def serialHoldsWrong : ChangeSpec := { name := "serialHolds", fn := fun _ => fun
  | [d] => { results := [.lit (.bool false)], args := [d] }
  | _ => none }
def SerialHoldsWrongFalsely : Prop := serialHoldsRow.holds Try.pinned (OpenSpec.ofChange serialHoldsWrong)

/-- 'librarylaw37.SerialStays': WHATEVER THE INPUT: true; the input reads as it did. -/
def serialStaysSpec : ChangeSpec := { name := "serialStays", fn := fun _ => fun
  | [d1, d2, d3] => { results := [.lit (.bool true)], args := [d1, d2, d3] }
  | _ => none }
def serialStaysRow : OpenClaim := { program := "ytceapemkefaicaa", sum := "9a9b3b7bd79c598c24fc45ccfc150651c939d68e55024a3539bc066d7e1c3ee2", func := "library/librarylaw37.SerialStays", spec := "serialStays", unfollowed := true, recurses := true, apart := false }
def SerialStaysSaid : Prop := serialStaysRow.holds Try.pinned (OpenSpec.ofChange serialStaysSpec)

/-- ITS FALSE NEIGHBOUR: 'it returns false'. Refute it at one input. -/
def serialStaysWrong : ChangeSpec := { name := "serialStays", fn := fun _ => fun
  | [d1, d2, d3] => { results := [.lit (.bool false)], args := [d1, d2, d3] }
  | _ => none }
def SerialStaysWrongFalsely : Prop := serialStaysRow.holds Try.pinned (OpenSpec.ofChange serialStaysWrong)

/-- 'librarylaw37.SerialPredicts': WHATEVER THE INPUT: true; the input reads as it did. -/
def serialPredictsSpec : ChangeSpec := { name := "serialPredicts", fn := fun _ => fun
  | [d1, d2, d3] => { results := [.lit (.bool true)], args := [d1, d2, d3] }
  | _ => none }
def serialPredictsRow : OpenClaim := { program := "ytceapemkefaicaa", sum := "9a9b3b7bd79c598c24fc45ccfc150651c939d68e55024a3539bc066d7e1c3ee2", func := "library/librarylaw37.SerialPredicts", spec := "serialPredicts", unfollowed := true, recurses := true, apart := false }
def SerialPredictsSaid : Prop := serialPredictsRow.holds Try.pinned (OpenSpec.ofChange serialPredictsSpec)

/-- ITS FALSE NEIGHBOUR: 'it returns false'. Refute it at one input. -/
def serialPredictsWrong : ChangeSpec := { name := "serialPredicts", fn := fun _ => fun
  | [d1, d2, d3] => { results := [.lit (.bool false)], args := [d1, d2, d3] }
  | _ => none }
def SerialPredictsWrongFalsely : Prop := serialPredictsRow.holds Try.pinned (OpenSpec.ofChange serialPredictsWrong)

/-- 'librarylaw37.SerialCovers': WHATEVER THE INPUT: true; the input reads as it did. -/
def serialCoversSpec : ChangeSpec := { name := "serialCovers", fn := fun _ => fun
  | [d1, d2] => { results := [.lit (.bool true)], args := [d1, d2] }
  | _ => none }
def serialCoversRow : OpenClaim := { program := "ytceapemkefaicaa", sum := "9a9b3b7bd79c598c24fc45ccfc150651c939d68e55024a3539bc066d7e1c3ee2", func := "library/librarylaw37.SerialCovers", spec := "serialCovers", unfollowed := true, recurses := true, apart := false }
def SerialCoversSaid : Prop := serialCoversRow.holds Try.pinned (OpenSpec.ofChange serialCoversSpec)

/-- ITS FALSE NEIGHBOUR: 'it returns false'. Refute it at one input. -/
def serialCoversWrong : ChangeSpec := { name := "serialCovers", fn := fun _ => fun
  | [d1, d2] => { results := [.lit (.bool false)], args := [d1, d2] }
  | _ => none }
def SerialCoversWrongFalsely : Prop := serialCoversRow.holds Try.pinned (OpenSpec.ofChange serialCoversWrong)

/-- 'librarylaw37.SerialLate': WHATEVER THE INPUT: true; the input reads as it did. -/
def serialLateSpec : ChangeSpec := { name := "serialLate", fn := fun _ => fun
  | [d1, d2, d3] => { results := [.lit (.bool true)], args := [d1, d2, d3] }
  | _ => none }
def serialLateRow : OpenClaim := { program := "ytceapemkefaicaa", sum := "9a9b3b7bd79c598c24fc45ccfc150651c939d68e55024a3539bc066d7e1c3ee2", func := "library/librarylaw37.SerialLate", spec := "serialLate", unfollowed := true, recurses := true, apart := false }
def SerialLateSaid : Prop := serialLateRow.holds Try.pinned (OpenSpec.ofChange serialLateSpec)

/-- ITS FALSE NEIGHBOUR: 'it returns false'. Refute it at one input. -/
def serialLateWrong : ChangeSpec := { name := "serialLate", fn := fun _ => fun
  | [d1, d2, d3] => { results := [.lit (.bool false)], args := [d1, d2, d3] }
  | _ => none }
def SerialLateWrongFalsely : Prop := serialLateRow.holds Try.pinned (OpenSpec.ofChange serialLateWrong)

/- THE SECOND FORM. 'bulk': how many values and letters a reading holds, each counted each time it is reached (what is shared counts as often as it is met; a slice's spare places count too). A statement '..UptoSaid' is the law's where the arguments, and the package variables that the reading takes, are together of bulk at most 1048576: NARROWER than '..Said'. Prove '..Said' where nothing that the law and all that it calls make is longer than what came in: it says more and counts as full. Else prove '..UptoSaid'. A law counts once. -/
mutual
def uptoBulk {H : Type} : DataW H → Nat
  | .lit (.string bytes) => bytes.length + 1
  | .lit _ => 1
  | .nil => 1
  | .ptr d => uptoBulk d + 1
  | .slice elems spare => uptoBulkAll elems + uptoBulkAll spare + 1
  | .agg parts => uptoBulkAll parts + 1
  | .iface _ d => uptoBulk d + 1
  | .map entries => uptoBulkEntries entries + 1
  | .held _ => 1
def uptoBulkAll {H : Type} : List (DataW H) → Nat
  | [] => 0
  | d :: r => uptoBulk d + uptoBulkAll r
def uptoBulkEntries {H : Type} : List (Lit × DataW H) → Nat
  | [] => 0
  | x :: r => uptoBulkEntry x + uptoBulkEntries r
def uptoBulkEntry {H : Type} : Lit × DataW H → Nat
  | (.string bytes, d) => bytes.length + uptoBulk d + 1
  | (_, d) => uptoBulk d + 1
 end
def uptoSmall : (H : Type) → List (DataW H) → Bool := fun _ ds => decide (uptoBulkAll ds ≤ 1048576)
def OpenSpec.upto (s : _root_.Go.ChangeSpec) : _root_.Go.OpenSpec := { _root_.Go.OpenSpec.ofChange s with cond := some uptoSmall }

/-- 'librarylaw37.SerialRights', WHERE WHAT IT READS IS OF BULK AT MOST 1048576: true; the input reads as it did. -/
def serialRightsUptoRow : OpenClaim := { program := "ytceapemkefaicaa", sum := "9a9b3b7bd79c598c24fc45ccfc150651c939d68e55024a3539bc066d7e1c3ee2", func := "library/librarylaw37.SerialRights", spec := "serialRights", unfollowed := true, recurses := true, apart := false, narrowed := true }
def SerialRightsUptoSaid : Prop := serialRightsUptoRow.holds Try.pinned (OpenSpec.upto serialRightsSpec)

/-- 'librarylaw37.SerialNews', WHERE WHAT IT READS IS OF BULK AT MOST 1048576: true; the input reads as it did. -/
def serialNewsUptoRow : OpenClaim := { program := "ytceapemkefaicaa", sum := "9a9b3b7bd79c598c24fc45ccfc150651c939d68e55024a3539bc066d7e1c3ee2", func := "library/librarylaw37.SerialNews", spec := "serialNews", unfollowed := true, recurses := true, apart := false, narrowed := true }
def SerialNewsUptoSaid : Prop := serialNewsUptoRow.holds Try.pinned (OpenSpec.upto serialNewsSpec)

/-- 'librarylaw37.SerialExpects', WHERE WHAT IT READS IS OF BULK AT MOST 1048576: true; the input reads as it did. -/
def serialExpectsUptoRow : OpenClaim := { program := "ytceapemkefaicaa", sum := "9a9b3b7bd79c598c24fc45ccfc150651c939d68e55024a3539bc066d7e1c3ee2", func := "library/librarylaw37.SerialExpects", spec := "serialExpects", unfollowed := true, recurses := true, apart := false, narrowed := true }
def SerialExpectsUptoSaid : Prop := serialExpectsUptoRow.holds Try.pinned (OpenSpec.upto serialExpectsSpec)

/-- 'librarylaw37.SerialReceives', WHERE WHAT IT READS IS OF BULK AT MOST 1048576: true; the input reads as it did. -/
def serialReceivesUptoRow : OpenClaim := { program := "ytceapemkefaicaa", sum := "9a9b3b7bd79c598c24fc45ccfc150651c939d68e55024a3539bc066d7e1c3ee2", func := "library/librarylaw37.SerialReceives", spec := "serialReceives", unfollowed := true, recurses := true, apart := false, narrowed := true }
def SerialReceivesUptoSaid : Prop := serialReceivesUptoRow.holds Try.pinned (OpenSpec.upto serialReceivesSpec)

/-- 'librarylaw37.SerialClaims', WHERE WHAT IT READS IS OF BULK AT MOST 1048576: true; the input reads as it did. -/
def serialClaimsUptoRow : OpenClaim := { program := "ytceapemkefaicaa", sum := "9a9b3b7bd79c598c24fc45ccfc150651c939d68e55024a3539bc066d7e1c3ee2", func := "library/librarylaw37.SerialClaims", spec := "serialClaims", unfollowed := true, recurses := true, apart := false, narrowed := true }
def SerialClaimsUptoSaid : Prop := serialClaimsUptoRow.holds Try.pinned (OpenSpec.upto serialClaimsSpec)

/-- 'librarylaw37.SerialBinds', WHERE WHAT IT READS IS OF BULK AT MOST 1048576: true; the input reads as it did. -/
def serialBindsUptoRow : OpenClaim := { program := "ytceapemkefaicaa", sum := "9a9b3b7bd79c598c24fc45ccfc150651c939d68e55024a3539bc066d7e1c3ee2", func := "library/librarylaw37.SerialBinds", spec := "serialBinds", unfollowed := true, recurses := true, apart := false, narrowed := true }
def SerialBindsUptoSaid : Prop := serialBindsUptoRow.holds Try.pinned (OpenSpec.upto serialBindsSpec)

/-- 'librarylaw37.SerialHolds', WHERE WHAT IT READS IS OF BULK AT MOST 1048576: true; the input reads as it did. -/
def serialHoldsUptoRow : OpenClaim := { program := "ytceapemkefaicaa", sum := "9a9b3b7bd79c598c24fc45ccfc150651c939d68e55024a3539bc066d7e1c3ee2", func := "library/librarylaw37.SerialHolds", spec := "serialHolds", unfollowed := true, recurses := true, apart := false, narrowed := true }
def SerialHoldsUptoSaid : Prop := serialHoldsUptoRow.holds Try.pinned (OpenSpec.upto serialHoldsSpec)

/-- 'librarylaw37.SerialStays', WHERE WHAT IT READS IS OF BULK AT MOST 1048576: true; the input reads as it did. -/
def serialStaysUptoRow : OpenClaim := { program := "ytceapemkefaicaa", sum := "9a9b3b7bd79c598c24fc45ccfc150651c939d68e55024a3539bc066d7e1c3ee2", func := "library/librarylaw37.SerialStays", spec := "serialStays", unfollowed := true, recurses := true, apart := false, narrowed := true }
def SerialStaysUptoSaid : Prop := serialStaysUptoRow.holds Try.pinned (OpenSpec.upto serialStaysSpec)

/-- 'librarylaw37.SerialPredicts', WHERE WHAT IT READS IS OF BULK AT MOST 1048576: true; the input reads as it did. -/
def serialPredictsUptoRow : OpenClaim := { program := "ytceapemkefaicaa", sum := "9a9b3b7bd79c598c24fc45ccfc150651c939d68e55024a3539bc066d7e1c3ee2", func := "library/librarylaw37.SerialPredicts", spec := "serialPredicts", unfollowed := true, recurses := true, apart := false, narrowed := true }
def SerialPredictsUptoSaid : Prop := serialPredictsUptoRow.holds Try.pinned (OpenSpec.upto serialPredictsSpec)

/-- 'librarylaw37.SerialCovers', WHERE WHAT IT READS IS OF BULK AT MOST 1048576: true; the input reads as it did. -/
def serialCoversUptoRow : OpenClaim := { program := "ytceapemkefaicaa", sum := "9a9b3b7bd79c598c24fc45ccfc150651c939d68e55024a3539bc066d7e1c3ee2", func := "library/librarylaw37.SerialCovers", spec := "serialCovers", unfollowed := true, recurses := true, apart := false, narrowed := true }
def SerialCoversUptoSaid : Prop := serialCoversUptoRow.holds Try.pinned (OpenSpec.upto serialCoversSpec)

/-- 'librarylaw37.SerialLate', WHERE WHAT IT READS IS OF BULK AT MOST 1048576: true; the input reads as it did. -/
def serialLateUptoRow : OpenClaim := { program := "ytceapemkefaicaa", sum := "9a9b3b7bd79c598c24fc45ccfc150651c939d68e55024a3539bc066d7e1c3ee2", func := "library/librarylaw37.SerialLate", spec := "serialLate", unfollowed := true, recurses := true, apart := false, narrowed := true }
def SerialLateUptoSaid : Prop := serialLateUptoRow.holds Try.pinned (OpenSpec.upto serialLateSpec)

end Rows
end Go.Proofs.Ytceapemkefaicaa
