/-
  No cell of these rows narrows 'for every input' (looked for: loops, veiled, ifaces, maps, wideKeys, modest, calm, conditions, laid).
  DERIVED. THE GIVEN ROWS OF THIS SEAT. 6 by the template 'for every input the law returns true; each argument reads behind the call as it read before'; 0 by the template 'total and deterministic' (their statements: YtnmbnihbeggmgaaTotals.lean).
  GIVEN WITH THE SEED: the statements are not yours to turn. If you find one false, say at which input.
  Laid BY PROGRAM, IN A SANDBOX (cutbox-rows.mjs): the forced cells as the released guide's own fill.sh prints them over the translation 8b949ae785d0415d… (all of the seat's roots in one cut). By AI agents, Wed Nov 11 2026. No macro, syntax, notation, axiom, sorry.
-/
import Derived.Test.YtnmbnihbeggmgaaChecked
import GoSem.Claim
import GoSem.ClaimJoined
import GoSem.ClaimMapViews
import Derived.JoinedTies
import Derived.KernelRfl
namespace Go.Proofs.Ytnmbnihbeggmgaa
/- THE CELL 'sum', in the pinned program and in every row, IS THE sha256 OF THE DUMP (.gsa) THAT YtnmbnihbeggmgaaProg.lean LOADS. Nothing in Lean hashes anything: it is a label: what it is worth is what the hold of that sum in a sandbox is worth. -/
noncomputable def Try.pinned : Pinned := { name := "ytnmbnihbeggmgaa", sum := "8b949ae785d0415d165bdad3e02b9ad253e4ec2b0038398f9a9f518aa3195b18", checked := Try.checked }
namespace Rows
def none {H : Type} : Left H := { results := [], args := [] }

/-- 'librarylaw29.FineLate': WHATEVER THE INPUT: true; the input reads as it did. -/
def fineLateSpec : ChangeSpec := { name := "fineLate", fn := fun _ => fun
  | [d1, d2, d3, d4] => { results := [.lit (.bool true)], args := [d1, d2, d3, d4] }
  | _ => none }
def fineLateRow : OpenClaim := { program := "ytnmbnihbeggmgaa", sum := "8b949ae785d0415d165bdad3e02b9ad253e4ec2b0038398f9a9f518aa3195b18", func := "library/librarylaw29.FineLate", spec := "fineLate", unfollowed := true, recurses := true, apart := false }
def FineLateSaid : Prop := fineLateRow.holds Try.pinned (OpenSpec.ofChange fineLateSpec)

/-- ITS FALSE NEIGHBOUR: 'it returns false'. Refute it at one input. -/
def fineLateWrong : ChangeSpec := { name := "fineLate", fn := fun _ => fun
  | [d1, d2, d3, d4] => { results := [.lit (.bool false)], args := [d1, d2, d3, d4] }
  | _ => none }
def FineLateWrongFalsely : Prop := fineLateRow.holds Try.pinned (OpenSpec.ofChange fineLateWrong)

/-- 'librarylaw29.FinePays': WHATEVER THE INPUT: true; the input reads as it did. -/
def finePaysSpec : ChangeSpec := { name := "finePays", fn := fun _ => fun
  | [d1, d2, d3] => { results := [.lit (.bool true)], args := [d1, d2, d3] }
  | _ => none }
def finePaysRow : OpenClaim := { program := "ytnmbnihbeggmgaa", sum := "8b949ae785d0415d165bdad3e02b9ad253e4ec2b0038398f9a9f518aa3195b18", func := "library/librarylaw29.FinePays", spec := "finePays", unfollowed := true, recurses := true, apart := false }
def FinePaysSaid : Prop := finePaysRow.holds Try.pinned (OpenSpec.ofChange finePaysSpec)

/-- ITS FALSE NEIGHBOUR: 'it returns false'. Refute it at one input. -/
def finePaysWrong : ChangeSpec := { name := "finePays", fn := fun _ => fun
  | [d1, d2, d3] => { results := [.lit (.bool false)], args := [d1, d2, d3] }
  | _ => none }
def FinePaysWrongFalsely : Prop := finePaysRow.holds Try.pinned (OpenSpec.ofChange finePaysWrong)

/-- 'librarylaw29.FineDrops': WHATEVER THE INPUT: true; the input reads as it did. -/
def fineDropsSpec : ChangeSpec := { name := "fineDrops", fn := fun _ => fun
  | [d1, d2, d3, d4, d5] => { results := [.lit (.bool true)], args := [d1, d2, d3, d4, d5] }
  | _ => none }
def fineDropsRow : OpenClaim := { program := "ytnmbnihbeggmgaa", sum := "8b949ae785d0415d165bdad3e02b9ad253e4ec2b0038398f9a9f518aa3195b18", func := "library/librarylaw29.FineDrops", spec := "fineDrops", unfollowed := true, recurses := true, apart := false }
def FineDropsSaid : Prop := fineDropsRow.holds Try.pinned (OpenSpec.ofChange fineDropsSpec)

/-- ITS FALSE NEIGHBOUR: 'it returns false'. Refute it at one input. -/
def fineDropsWrong : ChangeSpec := { name := "fineDrops", fn := fun _ => fun
  | [d1, d2, d3, d4, d5] => { results := [.lit (.bool false)], args := [d1, d2, d3, d4, d5] }
  | _ => none }
def FineDropsWrongFalsely : Prop := fineDropsRow.holds Try.pinned (OpenSpec.ofChange fineDropsWrong)

/-- 'librarylaw29.FineBalances': WHATEVER THE INPUT: true; the input reads as it did. -/
def fineBalancesSpec : ChangeSpec := { name := "fineBalances", fn := fun _ => fun
  | [d1, d2, d3, d4, d5] => { results := [.lit (.bool true)], args := [d1, d2, d3, d4, d5] }
  | _ => none }
def fineBalancesRow : OpenClaim := { program := "ytnmbnihbeggmgaa", sum := "8b949ae785d0415d165bdad3e02b9ad253e4ec2b0038398f9a9f518aa3195b18", func := "library/librarylaw29.FineBalances", spec := "fineBalances", unfollowed := true, recurses := true, apart := false }
def FineBalancesSaid : Prop := fineBalancesRow.holds Try.pinned (OpenSpec.ofChange fineBalancesSpec)

/-- ITS FALSE NEIGHBOUR: 'it returns false'. Refute it at one input. -/
def fineBalancesWrong : ChangeSpec := { name := "fineBalances", fn := fun _ => fun
  | [d1, d2, d3, d4, d5] => { results := [.lit (.bool false)], args := [d1, d2, d3, d4, d5] }
  | _ => none }
def FineBalancesWrongFalsely : Prop := fineBalancesRow.holds Try.pinned (OpenSpec.ofChange fineBalancesWrong)

/-- 'librarylaw29.FineGrows': WHATEVER THE INPUT: true; the input reads as it did. -/
def fineGrowsSpec : ChangeSpec := { name := "fineGrows", fn := fun _ => fun
  | [d1, d2, d3, d4, d5, d6, d7] => { results := [.lit (.bool true)], args := [d1, d2, d3, d4, d5, d6, d7] }
  | _ => none }
def fineGrowsRow : OpenClaim := { program := "ytnmbnihbeggmgaa", sum := "8b949ae785d0415d165bdad3e02b9ad253e4ec2b0038398f9a9f518aa3195b18", func := "library/librarylaw29.FineGrows", spec := "fineGrows", unfollowed := true, recurses := true, apart := false }
def FineGrowsSaid : Prop := fineGrowsRow.holds Try.pinned (OpenSpec.ofChange fineGrowsSpec)

/-- ITS FALSE NEIGHBOUR: 'it returns false'. Refute it at one input. -/
def fineGrowsWrong : ChangeSpec := { name := "fineGrows", fn := fun _ => fun
  | [d1, d2, d3, d4, d5, d6, d7] => { results := [.lit (.bool false)], args := [d1, d2, d3, d4, d5, d6, d7] }
  | _ => none }
def FineGrowsWrongFalsely : Prop := fineGrowsRow.holds Try.pinned (OpenSpec.ofChange fineGrowsWrong)

/-- 'librarylaw29.FineChecks': WHATEVER THE INPUT: true; the input reads as it did. -/
def fineChecksSpec : ChangeSpec := { name := "fineChecks", fn := fun _ => fun
  | [d1, d2] => { results := [.lit (.bool true)], args := [d1, d2] }
  | _ => none }
def fineChecksRow : OpenClaim := { program := "ytnmbnihbeggmgaa", sum := "8b949ae785d0415d165bdad3e02b9ad253e4ec2b0038398f9a9f518aa3195b18", func := "library/librarylaw29.FineChecks", spec := "fineChecks", unfollowed := true, recurses := true, apart := false }
def FineChecksSaid : Prop := fineChecksRow.holds Try.pinned (OpenSpec.ofChange fineChecksSpec)

/-- ITS FALSE NEIGHBOUR: 'it returns false'. Refute it at one input. -/
def fineChecksWrong : ChangeSpec := { name := "fineChecks", fn := fun _ => fun
  | [d1, d2] => { results := [.lit (.bool false)], args := [d1, d2] }
  | _ => none }
def FineChecksWrongFalsely : Prop := fineChecksRow.holds Try.pinned (OpenSpec.ofChange fineChecksWrong)

/- THE SECOND FORM. 'bulk': how many values and letters a reading holds, each counted each time it is reached (what is shared counts as often as it is met; a slice's spare places count too). A statement '..UptoSaid' is the law's where the arguments, and the package variables that the reading takes, are together of bulk at most 1048576: NARROWER than '..Said'. Prove '..Said' where nothing that the law and all that it calls make is longer than what came in: it says more and counts as full. Else prove '..UptoSaid'. A law counts once. -/
mutual
def uptoBulk {H : Type} : DataW H → Nat
  | .lit (.string bytes) => bytes.length + 1
  | .lit _ => 1
  | .nil => 1
  | .ptr d => uptoBulk d + 1
  | .slice elems spare => uptoBulkAll elems + uptoBulkAll spare + 1
  | .agg parts => uptoBulkAll parts + 1
  | .iface _ d => uptoBulk d + 1
  | .map entries => uptoBulkEntries entries + 1
  | .held _ => 1
def uptoBulkAll {H : Type} : List (DataW H) → Nat
  | [] => 0
  | d :: r => uptoBulk d + uptoBulkAll r
def uptoBulkEntries {H : Type} : List (Lit × DataW H) → Nat
  | [] => 0
  | x :: r => uptoBulkEntry x + uptoBulkEntries r
def uptoBulkEntry {H : Type} : Lit × DataW H → Nat
  | (.string bytes, d) => bytes.length + uptoBulk d + 1
  | (_, d) => uptoBulk d + 1
 end
def uptoSmall : (H : Type) → List (DataW H) → Bool := fun _ ds => decide (uptoBulkAll ds ≤ 1048576)
def OpenSpec.upto (s : _root_.Go.ChangeSpec) : _root_.Go.OpenSpec := { _root_.Go.OpenSpec.ofChange s with cond := some uptoSmall }

/-- 'librarylaw29.FineLate', WHERE WHAT IT READS IS OF BULK AT MOST 1048576: true; the input reads as it did. -/
def fineLateUptoRow : OpenClaim := { program := "ytnmbnihbeggmgaa", sum := "8b949ae785d0415d165bdad3e02b9ad253e4ec2b0038398f9a9f518aa3195b18", func := "library/librarylaw29.FineLate", spec := "fineLate", unfollowed := true, recurses := true, apart := false, narrowed := true }
def FineLateUptoSaid : Prop := fineLateUptoRow.holds Try.pinned (OpenSpec.upto fineLateSpec)

/-- 'librarylaw29.FinePays', WHERE WHAT IT READS IS OF BULK AT MOST 1048576: true; the input reads as it did. -/
def finePaysUptoRow : OpenClaim := { program := "ytnmbnihbeggmgaa", sum := "8b949ae785d0415d165bdad3e02b9ad253e4ec2b0038398f9a9f518aa3195b18", func := "library/librarylaw29.FinePays", spec := "finePays", unfollowed := true, recurses := true, apart := false, narrowed := true }
def FinePaysUptoSaid : Prop := finePaysUptoRow.holds Try.pinned (OpenSpec.upto finePaysSpec)

/-- 'librarylaw29.FineDrops', WHERE WHAT IT READS IS OF BULK AT MOST 1048576: true; the input reads as it did. -/
def fineDropsUptoRow : OpenClaim := { program := "ytnmbnihbeggmgaa", sum := "8b949ae785d0415d165bdad3e02b9ad253e4ec2b0038398f9a9f518aa3195b18", func := "library/librarylaw29.FineDrops", spec := "fineDrops", unfollowed := true, recurses := true, apart := false, narrowed := true }
def FineDropsUptoSaid : Prop := fineDropsUptoRow.holds Try.pinned (OpenSpec.upto fineDropsSpec)

/-- 'librarylaw29.FineBalances', WHERE WHAT IT READS IS OF BULK AT MOST 1048576: true; the input reads as it did. -/
def fineBalancesUptoRow : OpenClaim := { program := "ytnmbnihbeggmgaa", sum := "8b949ae785d0415d165bdad3e02b9ad253e4ec2b0038398f9a9f518aa3195b18", func := "library/librarylaw29.FineBalances", spec := "fineBalances", unfollowed := true, recurses := true, apart := false, narrowed := true }
def FineBalancesUptoSaid : Prop := fineBalancesUptoRow.holds Try.pinned (OpenSpec.upto fineBalancesSpec)

/-- 'librarylaw29.FineGrows', WHERE WHAT IT READS IS OF BULK AT MOST 1048576: true; the input reads as it did. -/
def fineGrowsUptoRow : OpenClaim := { program := "ytnmbnihbeggmgaa", sum := "8b949ae785d0415d165bdad3e02b9ad253e4ec2b0038398f9a9f518aa3195b18", func := "library/librarylaw29.FineGrows", spec := "fineGrows", unfollowed := true, recurses := true, apart := false, narrowed := true }
def FineGrowsUptoSaid : Prop := fineGrowsUptoRow.holds Try.pinned (OpenSpec.upto fineGrowsSpec)

/-- 'librarylaw29.FineChecks', WHERE WHAT IT READS IS OF BULK AT MOST 1048576: true; the input reads as it did. -/
def fineChecksUptoRow : OpenClaim := { program := "ytnmbnihbeggmgaa", sum := "8b949ae785d0415d165bdad3e02b9ad253e4ec2b0038398f9a9f518aa3195b18", func := "library/librarylaw29.FineChecks", spec := "fineChecks", unfollowed := true, recurses := true, apart := false, narrowed := true }
def FineChecksUptoSaid : Prop := fineChecksUptoRow.holds Try.pinned (OpenSpec.upto fineChecksSpec)

end Rows
end Go.Proofs.Ytnmbnihbeggmgaa
