/-
  No cell of these rows narrows 'for every input' (looked for: loops, veiled, ifaces, maps, wideKeys, modest, calm, conditions, laid).
  DERIVED. THE GIVEN ROWS OF THIS SEAT. 8 by the template 'for every input the law returns true; each argument reads behind the call as it read before'; 0 by the template 'total and deterministic' (their statements: YtkdcnpdjmkoicaaTotals.lean).
  GIVEN WITH THE SEED: the statements are not yours to turn. If you find one false, say at which input.
  Laid BY PROGRAM, IN A SANDBOX (cutbox-rows.mjs): the forced cells as the released guide's own fill.sh prints them over the translation 5fafe87a2ed99f80… (all of the seat's roots in one cut). By AI agents, Wed Nov 11 2026. No macro, syntax, notation, axiom, sorry.
-/
import Derived.Test.YtkdcnpdjmkoicaaChecked
import GoSem.Claim
import GoSem.ClaimJoined
import GoSem.ClaimMapViews
import Derived.JoinedTies
import Derived.KernelRfl
namespace Go.Proofs.Ytkdcnpdjmkoicaa
/- THE CELL 'sum', in the pinned program and in every row, IS THE sha256 OF THE DUMP (.gsa) THAT YtkdcnpdjmkoicaaProg.lean LOADS. Nothing in Lean hashes anything: it is a label: what it is worth is what the hold of that sum in a sandbox is worth. -/
noncomputable def Try.pinned : Pinned := { name := "ytkdcnpdjmkoicaa", sum := "5fafe87a2ed99f80ff6c230d07257f235eb484f000efe9d285368ec20660e2a9", checked := Try.checked }
namespace Rows
def none {H : Type} : Left H := { results := [], args := [] }

/-- 'librarylaw27.PolicyRights': WHATEVER THE INPUT: true; the input reads as it did. -/
def policyRightsSpec : ChangeSpec := { name := "policyRights", fn := fun _ => fun
  | [d] => { results := [.lit (.bool true)], args := [d] }
  | _ => none }
def policyRightsRow : OpenClaim := { program := "ytkdcnpdjmkoicaa", sum := "5fafe87a2ed99f80ff6c230d07257f235eb484f000efe9d285368ec20660e2a9", func := "library/librarylaw27.PolicyRights", spec := "policyRights", unfollowed := true, recurses := true, apart := false }
def PolicyRightsSaid : Prop := policyRightsRow.holds Try.pinned (OpenSpec.ofChange policyRightsSpec)

/-- ITS FALSE NEIGHBOUR: 'it returns false'. Refute it at one input. -/
def policyRightsWrong : ChangeSpec := { name := "policyRights", fn := fun _ => fun
  | [d] => { results := [.lit (.bool false)], args := [d] }
  | _ => none }
def PolicyRightsWrongFalsely : Prop := policyRightsRow.holds Try.pinned (OpenSpec.ofChange policyRightsWrong)

/-- 'librarylaw27.PolicyFinds': WHATEVER THE INPUT: true; the input reads as it did. -/
def policyFindsSpec : ChangeSpec := { name := "policyFinds", fn := fun _ => fun
  | [d1, d2, d3] => { results := [.lit (.bool true)], args := [d1, d2, d3] }
  | _ => none }
def policyFindsRow : OpenClaim := { program := "ytkdcnpdjmkoicaa", sum := "5fafe87a2ed99f80ff6c230d07257f235eb484f000efe9d285368ec20660e2a9", func := "library/librarylaw27.PolicyFinds", spec := "policyFinds", unfollowed := true, recurses := true, apart := false }
def PolicyFindsSaid : Prop := policyFindsRow.holds Try.pinned (OpenSpec.ofChange policyFindsSpec)

/-- ITS FALSE NEIGHBOUR: 'it returns false'. Refute it at one input. -/
def policyFindsWrong : ChangeSpec := { name := "policyFinds", fn := fun _ => fun
  | [d1, d2, d3] => { results := [.lit (.bool false)], args := [d1, d2, d3] }
  | _ => none }
def PolicyFindsWrongFalsely : Prop := policyFindsRow.holds Try.pinned (OpenSpec.ofChange policyFindsWrong)

/-- 'librarylaw27.PolicyDues': WHATEVER THE INPUT: true; the input reads as it did. -/
def policyDuesSpec : ChangeSpec := { name := "policyDues", fn := fun _ => fun
  | [d1, d2, d3] => { results := [.lit (.bool true)], args := [d1, d2, d3] }
  | _ => none }
def policyDuesRow : OpenClaim := { program := "ytkdcnpdjmkoicaa", sum := "5fafe87a2ed99f80ff6c230d07257f235eb484f000efe9d285368ec20660e2a9", func := "library/librarylaw27.PolicyDues", spec := "policyDues", unfollowed := true, recurses := true, apart := false }
def PolicyDuesSaid : Prop := policyDuesRow.holds Try.pinned (OpenSpec.ofChange policyDuesSpec)

/-- ITS FALSE NEIGHBOUR: 'it returns false'. Refute it at one input. -/
def policyDuesWrong : ChangeSpec := { name := "policyDues", fn := fun _ => fun
  | [d1, d2, d3] => { results := [.lit (.bool false)], args := [d1, d2, d3] }
  | _ => none }
def PolicyDuesWrongFalsely : Prop := policyDuesRow.holds Try.pinned (OpenSpec.ofChange policyDuesWrong)

/-- 'librarylaw27.PolicyRenews': WHATEVER THE INPUT: true; the input reads as it did. -/
def policyRenewsSpec : ChangeSpec := { name := "policyRenews", fn := fun _ => fun
  | [d1, d2, d3] => { results := [.lit (.bool true)], args := [d1, d2, d3] }
  | _ => none }
def policyRenewsRow : OpenClaim := { program := "ytkdcnpdjmkoicaa", sum := "5fafe87a2ed99f80ff6c230d07257f235eb484f000efe9d285368ec20660e2a9", func := "library/librarylaw27.PolicyRenews", spec := "policyRenews", unfollowed := true, recurses := true, apart := false }
def PolicyRenewsSaid : Prop := policyRenewsRow.holds Try.pinned (OpenSpec.ofChange policyRenewsSpec)

/-- ITS FALSE NEIGHBOUR: 'it returns false'. Refute it at one input. -/
def policyRenewsWrong : ChangeSpec := { name := "policyRenews", fn := fun _ => fun
  | [d1, d2, d3] => { results := [.lit (.bool false)], args := [d1, d2, d3] }
  | _ => none }
def PolicyRenewsWrongFalsely : Prop := policyRenewsRow.holds Try.pinned (OpenSpec.ofChange policyRenewsWrong)

/-- 'librarylaw27.PolicyHides': WHATEVER THE INPUT: true; the input reads as it did. -/
def policyHidesSpec : ChangeSpec := { name := "policyHides", fn := fun _ => fun
  | [d] => { results := [.lit (.bool true)], args := [d] }
  | _ => none }
def policyHidesRow : OpenClaim := { program := "ytkdcnpdjmkoicaa", sum := "5fafe87a2ed99f80ff6c230d07257f235eb484f000efe9d285368ec20660e2a9", func := "library/librarylaw27.PolicyHides", spec := "policyHides", unfollowed := true, recurses := true, apart := false }
def PolicyHidesSaid : Prop := policyHidesRow.holds Try.pinned (OpenSpec.ofChange policyHidesSpec)

/-- ITS FALSE NEIGHBOUR: 'it returns false'. Refute it at one input. -/
def policyHidesWrong : ChangeSpec := { name := "policyHides", fn := fun _ => fun
  | [d] => { results := [.lit (.bool false)], args := [d] }
  | _ => none }
def PolicyHidesWrongFalsely : Prop := policyHidesRow.holds Try.pinned (OpenSpec.ofChange policyHidesWrong)

/-- 'librarylaw27.PolicyDecides': WHATEVER THE INPUT: true; the input reads as it did. -/
def policyDecidesSpec : ChangeSpec := { name := "policyDecides", fn := fun _ => fun
  | [d1, d2] => { results := [.lit (.bool true)], args := [d1, d2] }
  | _ => none }
def policyDecidesRow : OpenClaim := { program := "ytkdcnpdjmkoicaa", sum := "5fafe87a2ed99f80ff6c230d07257f235eb484f000efe9d285368ec20660e2a9", func := "library/librarylaw27.PolicyDecides", spec := "policyDecides", unfollowed := true, recurses := true, apart := false }
def PolicyDecidesSaid : Prop := policyDecidesRow.holds Try.pinned (OpenSpec.ofChange policyDecidesSpec)

/-- ITS FALSE NEIGHBOUR: 'it returns false'. Refute it at one input. -/
def policyDecidesWrong : ChangeSpec := { name := "policyDecides", fn := fun _ => fun
  | [d1, d2] => { results := [.lit (.bool false)], args := [d1, d2] }
  | _ => none }
def PolicyDecidesWrongFalsely : Prop := policyDecidesRow.holds Try.pinned (OpenSpec.ofChange policyDecidesWrong)

/-- 'librarylaw27.PolicyOmits': WHATEVER THE INPUT: true; the input reads as it did. -/
def policyOmitsSpec : ChangeSpec := { name := "policyOmits", fn := fun _ => fun
  | [d1, d2] => { results := [.lit (.bool true)], args := [d1, d2] }
  | _ => none }
def policyOmitsRow : OpenClaim := { program := "ytkdcnpdjmkoicaa", sum := "5fafe87a2ed99f80ff6c230d07257f235eb484f000efe9d285368ec20660e2a9", func := "library/librarylaw27.PolicyOmits", spec := "policyOmits", unfollowed := true, recurses := true, apart := false }
def PolicyOmitsSaid : Prop := policyOmitsRow.holds Try.pinned (OpenSpec.ofChange policyOmitsSpec)

/-- ITS FALSE NEIGHBOUR: 'it returns false'. Refute it at one input. -/
def policyOmitsWrong : ChangeSpec := { name := "policyOmits", fn := fun _ => fun
  | [d1, d2] => { results := [.lit (.bool false)], args := [d1, d2] }
  | _ => none }
def PolicyOmitsWrongFalsely : Prop := policyOmitsRow.holds Try.pinned (OpenSpec.ofChange policyOmitsWrong)

/-- 'librarylaw27.PolicyOpens': WHATEVER THE INPUT: true; the input reads as it did. -/
def policyOpensSpec : ChangeSpec := { name := "policyOpens", fn := fun _ => fun
  | [d1, d2, d3] => { results := [.lit (.bool true)], args := [d1, d2, d3] }
  | _ => none }
def policyOpensRow : OpenClaim := { program := "ytkdcnpdjmkoicaa", sum := "5fafe87a2ed99f80ff6c230d07257f235eb484f000efe9d285368ec20660e2a9", func := "library/librarylaw27.PolicyOpens", spec := "policyOpens", unfollowed := true, recurses := true, apart := false }
def PolicyOpensSaid : Prop := policyOpensRow.holds Try.pinned (OpenSpec.ofChange policyOpensSpec)

/-- ITS FALSE NEIGHBOUR: 'it returns false'. Refute it at one input. -/
def policyOpensWrong : ChangeSpec := { name := "policyOpens", fn := fun _ => fun
  | [d1, d2, d3] => { results := [.lit (.bool false)], args := [d1, d2, d3] }
  | _ => none }
def PolicyOpensWrongFalsely : Prop := policyOpensRow.holds Try.pinned (OpenSpec.ofChange policyOpensWrong)

/- THE SECOND FORM. 'bulk': how many values and letters a reading holds, each counted each time it is reached (what is shared counts as often as it is met; a slice's spare places count too). A statement '..UptoSaid' is the law's where the arguments, and the package variables that the reading takes, are together of bulk at most 1048576: NARROWER than '..Said'. Prove '..Said' where nothing that the law and all that it calls make is longer than what came in: it says more and counts as full. Else prove '..UptoSaid'. A law counts once. -/
mutual
def uptoBulk {H : Type} : DataW H → Nat
  | .lit (.string bytes) => bytes.length + 1
  | .lit _ => 1
  | .nil => 1
  | .ptr d => uptoBulk d + 1
  | .slice elems spare => uptoBulkAll elems + uptoBulkAll spare + 1
  | .agg parts => uptoBulkAll parts + 1
  | .iface _ d => uptoBulk d + 1
  | .map entries => uptoBulkEntries entries + 1
  | .held _ => 1
def uptoBulkAll {H : Type} : List (DataW H) → Nat
  | [] => 0
  | d :: r => uptoBulk d + uptoBulkAll r
def uptoBulkEntries {H : Type} : List (Lit × DataW H) → Nat
  | [] => 0
  | x :: r => uptoBulkEntry x + uptoBulkEntries r
def uptoBulkEntry {H : Type} : Lit × DataW H → Nat
  | (.string bytes, d) => bytes.length + uptoBulk d + 1
  | (_, d) => uptoBulk d + 1
 end
def uptoSmall : (H : Type) → List (DataW H) → Bool := fun _ ds => decide (uptoBulkAll ds ≤ 1048576)
def OpenSpec.upto (s : _root_.Go.ChangeSpec) : _root_.Go.OpenSpec := { _root_.Go.OpenSpec.ofChange s with cond := some uptoSmall }

/-- 'librarylaw27.PolicyRights', WHERE WHAT IT READS IS OF BULK AT MOST 1048576: true; the input reads as it did. -/
def policyRightsUptoRow : OpenClaim := { program := "ytkdcnpdjmkoicaa", sum := "5fafe87a2ed99f80ff6c230d07257f235eb484f000efe9d285368ec20660e2a9", func := "library/librarylaw27.PolicyRights", spec := "policyRights", unfollowed := true, recurses := true, apart := false, narrowed := true }
def PolicyRightsUptoSaid : Prop := policyRightsUptoRow.holds Try.pinned (OpenSpec.upto policyRightsSpec)

/-- 'librarylaw27.PolicyFinds', WHERE WHAT IT READS IS OF BULK AT MOST 1048576: true; the input reads as it did. -/
def policyFindsUptoRow : OpenClaim := { program := "ytkdcnpdjmkoicaa", sum := "5fafe87a2ed99f80ff6c230d07257f235eb484f000efe9d285368ec20660e2a9", func := "library/librarylaw27.PolicyFinds", spec := "policyFinds", unfollowed := true, recurses := true, apart := false, narrowed := true }
def PolicyFindsUptoSaid : Prop := policyFindsUptoRow.holds Try.pinned (OpenSpec.upto policyFindsSpec)

/-- 'librarylaw27.PolicyDues', WHERE WHAT IT READS IS OF BULK AT MOST 1048576: true; the input reads as it did. -/
def policyDuesUptoRow : OpenClaim := { program := "ytkdcnpdjmkoicaa", sum := "5fafe87a2ed99f80ff6c230d07257f235eb484f000efe9d285368ec20660e2a9", func := "library/librarylaw27.PolicyDues", spec := "policyDues", unfollowed := true, recurses := true, apart := false, narrowed := true }
def PolicyDuesUptoSaid : Prop := policyDuesUptoRow.holds Try.pinned (OpenSpec.upto policyDuesSpec)

/-- 'librarylaw27.PolicyRenews', WHERE WHAT IT READS IS OF BULK AT MOST 1048576: true; the input reads as it did. -/
def policyRenewsUptoRow : OpenClaim := { program := "ytkdcnpdjmkoicaa", sum := "5fafe87a2ed99f80ff6c230d07257f235eb484f000efe9d285368ec20660e2a9", func := "library/librarylaw27.PolicyRenews", spec := "policyRenews", unfollowed := true, recurses := true, apart := false, narrowed := true }
def PolicyRenewsUptoSaid : Prop := policyRenewsUptoRow.holds Try.pinned (OpenSpec.upto policyRenewsSpec)

/-- 'librarylaw27.PolicyHides', WHERE WHAT IT READS IS OF BULK AT MOST 1048576: true; the input reads as it did. -/
def policyHidesUptoRow : OpenClaim := { program := "ytkdcnpdjmkoicaa", sum := "5fafe87a2ed99f80ff6c230d07257f235eb484f000efe9d285368ec20660e2a9", func := "library/librarylaw27.PolicyHides", spec := "policyHides", unfollowed := true, recurses := true, apart := false, narrowed := true }
def PolicyHidesUptoSaid : Prop := policyHidesUptoRow.holds Try.pinned (OpenSpec.upto policyHidesSpec)

/-- 'librarylaw27.PolicyDecides', WHERE WHAT IT READS IS OF BULK AT MOST 1048576: true; the input reads as it did. -/
def policyDecidesUptoRow : OpenClaim := { program := "ytkdcnpdjmkoicaa", sum := "5fafe87a2ed99f80ff6c230d07257f235eb484f000efe9d285368ec20660e2a9", func := "library/librarylaw27.PolicyDecides", spec := "policyDecides", unfollowed := true, recurses := true, apart := false, narrowed := true }
def PolicyDecidesUptoSaid : Prop := policyDecidesUptoRow.holds Try.pinned (OpenSpec.upto policyDecidesSpec)

/-- 'librarylaw27.PolicyOmits', WHERE WHAT IT READS IS OF BULK AT MOST 1048576: true; the input reads as it did. -/
def policyOmitsUptoRow : OpenClaim := { program := "ytkdcnpdjmkoicaa", sum := "5fafe87a2ed99f80ff6c230d07257f235eb484f000efe9d285368ec20660e2a9", func := "library/librarylaw27.PolicyOmits", spec := "policyOmits", unfollowed := true, recurses := true, apart := false, narrowed := true }
def PolicyOmitsUptoSaid : Prop := policyOmitsUptoRow.holds Try.pinned (OpenSpec.upto policyOmitsSpec)

/-- 'librarylaw27.PolicyOpens', WHERE WHAT IT READS IS OF BULK AT MOST 1048576: true; the input reads as it did. -/
def policyOpensUptoRow : OpenClaim := { program := "ytkdcnpdjmkoicaa", sum := "5fafe87a2ed99f80ff6c230d07257f235eb484f000efe9d285368ec20660e2a9", func := "library/librarylaw27.PolicyOpens", spec := "policyOpens", unfollowed := true, recurses := true, apart := false, narrowed := true }
def PolicyOpensUptoSaid : Prop := policyOpensUptoRow.holds Try.pinned (OpenSpec.upto policyOpensSpec)

end Rows
end Go.Proofs.Ytkdcnpdjmkoicaa
