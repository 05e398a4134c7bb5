/-
  NARROWER THAN 'FOR EVERY INPUT', by the rows' own cells (each row's printed sentence says how): CustodyRights: laid · CustodyApplies: laid · CustodyReplays: laid · CustodyTexts: laid · CustodyStays: laid · CustodyContinues: laid · CustodyNames: laid.
  DERIVED. THE GIVEN ROWS OF THIS SEAT. 7 by the template 'for every input the law returns true; each argument reads behind the call as it read before'; 0 by the template 'total and deterministic' (their statements: YtabmhpgbfjkkcaaDoorTotals.lean).
  GIVEN WITH THE SEED: the statements are not yours to turn. If you find one false, say at which input.
  Laid BY PROGRAM, IN A SANDBOX (cutbox-rows.mjs): the forced cells as the released guide's own fill.sh prints them over the translation 2bfd675b6b0cca7a… (all of the seat's roots in one cut). By AI agents, Wed Nov 11 2026. No macro, syntax, notation, axiom, sorry.
-/
import Derived.Test.YtabmhpgbfjkkcaaDoorChecked
import GoSem.Claim
import GoSem.ClaimJoined
import GoSem.ClaimMapViews
import Derived.JoinedTies
import Derived.KernelRfl
namespace Go.Proofs.YtabmhpgbfjkkcaaDoor
/- THE CELL 'sum', in the pinned program and in every row, IS THE sha256 OF THE DUMP (.gsa) THAT YtabmhpgbfjkkcaaDoorProg.lean LOADS. Nothing in Lean hashes anything: it is a label: what it is worth is what the hold of that sum in a sandbox is worth. -/
noncomputable def Tryd.pinned : Pinned := { name := "ytabmhpgbfjkkcaadoor", sum := "2bfd675b6b0cca7a66b78f97e47604a73517d966ee8511c9018440c0761d4188", checked := Tryd.checked }
namespace Rows
def none {H : Type} : Left H := { results := [], args := [] }

/- WHAT THE LISTED PACKAGE-LEVEL VARIABLES READ AS WHEN THE CALL BEGINS. Each datum BY PROGRAM (the guide's laid-datum.mjs) off the statement by which the dump's own 'gosem.cut.vars' lays the variable. In a bare row this is a premise. The card (YtabmhpgbfjkkcaaDoorCards.lean) ties it to the program's text. -/
def laid_math_bits_deBruijn32tab {H : Type} : DataW H := .agg [.lit (.int .u8 0), .lit (.int .u8 1), .lit (.int .u8 28), .lit (.int .u8 2), .lit (.int .u8 29), .lit (.int .u8 14), .lit (.int .u8 24), .lit (.int .u8 3), .lit (.int .u8 30), .lit (.int .u8 22), .lit (.int .u8 20), .lit (.int .u8 15), .lit (.int .u8 25), .lit (.int .u8 17), .lit (.int .u8 4), .lit (.int .u8 8), .lit (.int .u8 31), .lit (.int .u8 27), .lit (.int .u8 13), .lit (.int .u8 23), .lit (.int .u8 21), .lit (.int .u8 19), .lit (.int .u8 16), .lit (.int .u8 7), .lit (.int .u8 26), .lit (.int .u8 12), .lit (.int .u8 18), .lit (.int .u8 6), .lit (.int .u8 11), .lit (.int .u8 5), .lit (.int .u8 10), .lit (.int .u8 9)]
def laid_math_bits_deBruijn64tab {H : Type} : DataW H := .agg [.lit (.int .u8 0), .lit (.int .u8 1), .lit (.int .u8 56), .lit (.int .u8 2), .lit (.int .u8 57), .lit (.int .u8 49), .lit (.int .u8 28), .lit (.int .u8 3), .lit (.int .u8 61), .lit (.int .u8 58), .lit (.int .u8 42), .lit (.int .u8 50), .lit (.int .u8 38), .lit (.int .u8 29), .lit (.int .u8 17), .lit (.int .u8 4), .lit (.int .u8 62), .lit (.int .u8 47), .lit (.int .u8 59), .lit (.int .u8 36), .lit (.int .u8 45), .lit (.int .u8 43), .lit (.int .u8 51), .lit (.int .u8 22), .lit (.int .u8 53), .lit (.int .u8 39), .lit (.int .u8 33), .lit (.int .u8 30), .lit (.int .u8 24), .lit (.int .u8 18), .lit (.int .u8 12), .lit (.int .u8 5), .lit (.int .u8 63), .lit (.int .u8 55), .lit (.int .u8 48), .lit (.int .u8 27), .lit (.int .u8 60), .lit (.int .u8 41), .lit (.int .u8 37), .lit (.int .u8 16), .lit (.int .u8 46), .lit (.int .u8 35), .lit (.int .u8 44), .lit (.int .u8 21), .lit (.int .u8 52), .lit (.int .u8 32), .lit (.int .u8 23), .lit (.int .u8 11), .lit (.int .u8 54), .lit (.int .u8 26), .lit (.int .u8 40), .lit (.int .u8 15), .lit (.int .u8 34), .lit (.int .u8 20), .lit (.int .u8 31), .lit (.int .u8 10), .lit (.int .u8 25), .lit (.int .u8 14), .lit (.int .u8 19), .lit (.int .u8 9), .lit (.int .u8 13), .lit (.int .u8 8), .lit (.int .u8 7), .lit (.int .u8 6)]
def laid_internal_strconv_uint64pow10 {H : Type} : DataW H := .agg [.lit (.int .u64 1), .lit (.int .u64 10), .lit (.int .u64 100), .lit (.int .u64 1000), .lit (.int .u64 10000), .lit (.int .u64 100000), .lit (.int .u64 1000000), .lit (.int .u64 10000000), .lit (.int .u64 100000000), .lit (.int .u64 1000000000), .lit (.int .u64 10000000000), .lit (.int .u64 100000000000), .lit (.int .u64 1000000000000), .lit (.int .u64 10000000000000), .lit (.int .u64 100000000000000), .lit (.int .u64 1000000000000000), .lit (.int .u64 10000000000000000), .lit (.int .u64 100000000000000000), .lit (.int .u64 1000000000000000000), .lit (.int .u64 10000000000000000000)]
def laid_library_custody_moves {H : Type} : DataW H := .agg [.lit (.int .u16 0), .lit (.int .u16 32770), .lit (.int .u16 41316), .lit (.int .u16 42344), .lit (.int .u16 6160), .lit (.int .u16 8268), .lit (.int .u16 8320), .lit (.int .u16 8704), .lit (.int .u16 16), .lit (.int .u16 4112), .lit (.int .u16 32784), .lit (.int .u16 49152), .lit (.int .u16 0)]

/-- 'librarylaw30.CustodyRights': WHATEVER THE INPUT: true; the input reads as it did. -/
def custodyRightsSpec : ChangeSpec := { name := "custodyRights", fn := fun _ => fun
  | [d1, d2, d3] => { results := [.lit (.bool true)], args := [d1, d2, d3] }
  | _ => none }
def custodyRightsRow : OpenClaim := { program := "ytabmhpgbfjkkcaadoor", sum := "2bfd675b6b0cca7a66b78f97e47604a73517d966ee8511c9018440c0761d4188", func := "library/librarylaw30.CustodyRights", spec := "custodyRights", named := ["library/custody.moves", "internal/strconv.uint64pow10", "math/bits.deBruijn32tab", "math/bits.deBruijn64tab"], apart := false, laid := [("math/bits.deBruijn32tab", laid_math_bits_deBruijn32tab), ("math/bits.deBruijn64tab", laid_math_bits_deBruijn64tab), ("internal/strconv.uint64pow10", laid_internal_strconv_uint64pow10), ("library/custody.moves", laid_library_custody_moves)] }
def CustodyRightsSaid : Prop := custodyRightsRow.holds Tryd.pinned (OpenSpec.ofChange custodyRightsSpec)

/-- ITS FALSE NEIGHBOUR: 'it returns false'. Refute it at one input. -/
def custodyRightsWrong : ChangeSpec := { name := "custodyRights", fn := fun _ => fun
  | [d1, d2, d3] => { results := [.lit (.bool false)], args := [d1, d2, d3] }
  | _ => none }
def CustodyRightsWrongFalsely : Prop := custodyRightsRow.holds Tryd.pinned (OpenSpec.ofChange custodyRightsWrong)

/-- 'librarylaw30.CustodyApplies': WHATEVER THE INPUT: true; the input reads as it did. -/
def custodyAppliesSpec : ChangeSpec := { name := "custodyApplies", fn := fun _ => fun
  | [d1, d2] => { results := [.lit (.bool true)], args := [d1, d2] }
  | _ => none }
def custodyAppliesRow : OpenClaim := { program := "ytabmhpgbfjkkcaadoor", sum := "2bfd675b6b0cca7a66b78f97e47604a73517d966ee8511c9018440c0761d4188", func := "library/librarylaw30.CustodyApplies", spec := "custodyApplies", named := ["library/custody.moves", "internal/strconv.uint64pow10", "math/bits.deBruijn32tab", "math/bits.deBruijn64tab"], apart := false, laid := [("math/bits.deBruijn32tab", laid_math_bits_deBruijn32tab), ("math/bits.deBruijn64tab", laid_math_bits_deBruijn64tab), ("internal/strconv.uint64pow10", laid_internal_strconv_uint64pow10), ("library/custody.moves", laid_library_custody_moves)] }
def CustodyAppliesSaid : Prop := custodyAppliesRow.holds Tryd.pinned (OpenSpec.ofChange custodyAppliesSpec)

/-- ITS FALSE NEIGHBOUR: 'it returns false'. Refute it at one input. -/
def custodyAppliesWrong : ChangeSpec := { name := "custodyApplies", fn := fun _ => fun
  | [d1, d2] => { results := [.lit (.bool false)], args := [d1, d2] }
  | _ => none }
def CustodyAppliesWrongFalsely : Prop := custodyAppliesRow.holds Tryd.pinned (OpenSpec.ofChange custodyAppliesWrong)

/-- 'librarylaw30.CustodyReplays': WHATEVER THE INPUT: true; the input reads as it did. -/
def custodyReplaysSpec : ChangeSpec := { name := "custodyReplays", fn := fun _ => fun
  | [d1, d2, d3] => { results := [.lit (.bool true)], args := [d1, d2, d3] }
  | _ => none }
def custodyReplaysRow : OpenClaim := { program := "ytabmhpgbfjkkcaadoor", sum := "2bfd675b6b0cca7a66b78f97e47604a73517d966ee8511c9018440c0761d4188", func := "library/librarylaw30.CustodyReplays", spec := "custodyReplays", named := ["library/custody.moves", "internal/strconv.uint64pow10", "math/bits.deBruijn32tab", "math/bits.deBruijn64tab"], apart := false, laid := [("math/bits.deBruijn32tab", laid_math_bits_deBruijn32tab), ("math/bits.deBruijn64tab", laid_math_bits_deBruijn64tab), ("internal/strconv.uint64pow10", laid_internal_strconv_uint64pow10), ("library/custody.moves", laid_library_custody_moves)] }
def CustodyReplaysSaid : Prop := custodyReplaysRow.holds Tryd.pinned (OpenSpec.ofChange custodyReplaysSpec)

/-- ITS FALSE NEIGHBOUR: 'it returns false'. Refute it at one input. -/
def custodyReplaysWrong : ChangeSpec := { name := "custodyReplays", fn := fun _ => fun
  | [d1, d2, d3] => { results := [.lit (.bool false)], args := [d1, d2, d3] }
  | _ => none }
def CustodyReplaysWrongFalsely : Prop := custodyReplaysRow.holds Tryd.pinned (OpenSpec.ofChange custodyReplaysWrong)

/-- 'librarylaw30.CustodyTexts': WHATEVER THE INPUT: true; the input reads as it did. -/
def custodyTextsSpec : ChangeSpec := { name := "custodyTexts", fn := fun _ => fun
  | [d] => { results := [.lit (.bool true)], args := [d] }
  | _ => none }
def custodyTextsRow : OpenClaim := { program := "ytabmhpgbfjkkcaadoor", sum := "2bfd675b6b0cca7a66b78f97e47604a73517d966ee8511c9018440c0761d4188", func := "library/librarylaw30.CustodyTexts", spec := "custodyTexts", named := ["internal/strconv.uint64pow10", "math/bits.deBruijn32tab", "math/bits.deBruijn64tab", "library/custody.moves"], apart := false, laid := [("math/bits.deBruijn32tab", laid_math_bits_deBruijn32tab), ("math/bits.deBruijn64tab", laid_math_bits_deBruijn64tab), ("internal/strconv.uint64pow10", laid_internal_strconv_uint64pow10), ("library/custody.moves", laid_library_custody_moves)] }
def CustodyTextsSaid : Prop := custodyTextsRow.holds Tryd.pinned (OpenSpec.ofChange custodyTextsSpec)

/-- ITS FALSE NEIGHBOUR: 'it returns false'. Refute it at one input. -/
def custodyTextsWrong : ChangeSpec := { name := "custodyTexts", fn := fun _ => fun
  | [d] => { results := [.lit (.bool false)], args := [d] }
  | _ => none }
def CustodyTextsWrongFalsely : Prop := custodyTextsRow.holds Tryd.pinned (OpenSpec.ofChange custodyTextsWrong)

/-- 'librarylaw30.CustodyStays': WHATEVER THE INPUT: true; the input reads as it did. -/
def custodyStaysSpec : ChangeSpec := { name := "custodyStays", fn := fun _ => fun
  | [d1, d2] => { results := [.lit (.bool true)], args := [d1, d2] }
  | _ => none }
def custodyStaysRow : OpenClaim := { program := "ytabmhpgbfjkkcaadoor", sum := "2bfd675b6b0cca7a66b78f97e47604a73517d966ee8511c9018440c0761d4188", func := "library/librarylaw30.CustodyStays", spec := "custodyStays", named := ["library/custody.moves", "internal/strconv.uint64pow10", "math/bits.deBruijn32tab", "math/bits.deBruijn64tab"], apart := false, laid := [("math/bits.deBruijn32tab", laid_math_bits_deBruijn32tab), ("math/bits.deBruijn64tab", laid_math_bits_deBruijn64tab), ("internal/strconv.uint64pow10", laid_internal_strconv_uint64pow10), ("library/custody.moves", laid_library_custody_moves)] }
def CustodyStaysSaid : Prop := custodyStaysRow.holds Tryd.pinned (OpenSpec.ofChange custodyStaysSpec)

/-- ITS FALSE NEIGHBOUR: 'it returns false'. Refute it at one input. -/
def custodyStaysWrong : ChangeSpec := { name := "custodyStays", fn := fun _ => fun
  | [d1, d2] => { results := [.lit (.bool false)], args := [d1, d2] }
  | _ => none }
def CustodyStaysWrongFalsely : Prop := custodyStaysRow.holds Tryd.pinned (OpenSpec.ofChange custodyStaysWrong)

/-- 'librarylaw30.CustodyContinues': WHATEVER THE INPUT: true; the input reads as it did. -/
def custodyContinuesSpec : ChangeSpec := { name := "custodyContinues", fn := fun _ => fun
  | [d1, d2, d3] => { results := [.lit (.bool true)], args := [d1, d2, d3] }
  | _ => none }
def custodyContinuesRow : OpenClaim := { program := "ytabmhpgbfjkkcaadoor", sum := "2bfd675b6b0cca7a66b78f97e47604a73517d966ee8511c9018440c0761d4188", func := "library/librarylaw30.CustodyContinues", spec := "custodyContinues", named := ["library/custody.moves", "internal/strconv.uint64pow10", "math/bits.deBruijn32tab", "math/bits.deBruijn64tab"], apart := false, laid := [("math/bits.deBruijn32tab", laid_math_bits_deBruijn32tab), ("math/bits.deBruijn64tab", laid_math_bits_deBruijn64tab), ("internal/strconv.uint64pow10", laid_internal_strconv_uint64pow10), ("library/custody.moves", laid_library_custody_moves)] }
def CustodyContinuesSaid : Prop := custodyContinuesRow.holds Tryd.pinned (OpenSpec.ofChange custodyContinuesSpec)

/-- ITS FALSE NEIGHBOUR: 'it returns false'. Refute it at one input. -/
def custodyContinuesWrong : ChangeSpec := { name := "custodyContinues", fn := fun _ => fun
  | [d1, d2, d3] => { results := [.lit (.bool false)], args := [d1, d2, d3] }
  | _ => none }
def CustodyContinuesWrongFalsely : Prop := custodyContinuesRow.holds Tryd.pinned (OpenSpec.ofChange custodyContinuesWrong)

/-- 'librarylaw30.CustodyNames': WHATEVER THE INPUT: true; the input reads as it did. -/
def custodyNamesSpec : ChangeSpec := { name := "custodyNames", fn := fun _ => fun
  | [d1, d2, d3] => { results := [.lit (.bool true)], args := [d1, d2, d3] }
  | _ => none }
def custodyNamesRow : OpenClaim := { program := "ytabmhpgbfjkkcaadoor", sum := "2bfd675b6b0cca7a66b78f97e47604a73517d966ee8511c9018440c0761d4188", func := "library/librarylaw30.CustodyNames", spec := "custodyNames", named := ["library/custody.moves", "internal/strconv.uint64pow10", "math/bits.deBruijn32tab", "math/bits.deBruijn64tab"], apart := false, laid := [("math/bits.deBruijn32tab", laid_math_bits_deBruijn32tab), ("math/bits.deBruijn64tab", laid_math_bits_deBruijn64tab), ("internal/strconv.uint64pow10", laid_internal_strconv_uint64pow10), ("library/custody.moves", laid_library_custody_moves)] }
def CustodyNamesSaid : Prop := custodyNamesRow.holds Tryd.pinned (OpenSpec.ofChange custodyNamesSpec)

/-- ITS FALSE NEIGHBOUR: 'it returns false'. Refute it at one input. -/
def custodyNamesWrong : ChangeSpec := { name := "custodyNames", fn := fun _ => fun
  | [d1, d2, d3] => { results := [.lit (.bool false)], args := [d1, d2, d3] }
  | _ => none }
def CustodyNamesWrongFalsely : Prop := custodyNamesRow.holds Tryd.pinned (OpenSpec.ofChange custodyNamesWrong)

/- THE SECOND FORM. 'bulk': how many values and letters a reading holds, each counted each time it is reached (what is shared counts as often as it is met; a slice's spare places count too). A statement '..UptoSaid' is the law's where the arguments, and the package variables that the reading takes, are together of bulk at most 1048576: NARROWER than '..Said'. Prove '..Said' where nothing that the law and all that it calls make is longer than what came in: it says more and counts as full. Else prove '..UptoSaid'. A law counts once. -/
mutual
def uptoBulk {H : Type} : DataW H → Nat
  | .lit (.string bytes) => bytes.length + 1
  | .lit _ => 1
  | .nil => 1
  | .ptr d => uptoBulk d + 1
  | .slice elems spare => uptoBulkAll elems + uptoBulkAll spare + 1
  | .agg parts => uptoBulkAll parts + 1
  | .iface _ d => uptoBulk d + 1
  | .map entries => uptoBulkEntries entries + 1
  | .held _ => 1
def uptoBulkAll {H : Type} : List (DataW H) → Nat
  | [] => 0
  | d :: r => uptoBulk d + uptoBulkAll r
def uptoBulkEntries {H : Type} : List (Lit × DataW H) → Nat
  | [] => 0
  | x :: r => uptoBulkEntry x + uptoBulkEntries r
def uptoBulkEntry {H : Type} : Lit × DataW H → Nat
  | (.string bytes, d) => bytes.length + uptoBulk d + 1
  | (_, d) => uptoBulk d + 1
 end
def uptoSmall : (H : Type) → List (DataW H) → Bool := fun _ ds => decide (uptoBulkAll ds ≤ 1048576)
def OpenSpec.upto (s : _root_.Go.ChangeSpec) : _root_.Go.OpenSpec := { _root_.Go.OpenSpec.ofChange s with cond := some uptoSmall }

/-- 'librarylaw30.CustodyRights', WHERE WHAT IT READS IS OF BULK AT MOST 1048576: true; the input reads as it did. -/
def custodyRightsUptoRow : OpenClaim := { program := "ytabmhpgbfjkkcaadoor", sum := "2bfd675b6b0cca7a66b78f97e47604a73517d966ee8511c9018440c0761d4188", func := "library/librarylaw30.CustodyRights", spec := "custodyRights", named := ["library/custody.moves", "internal/strconv.uint64pow10", "math/bits.deBruijn32tab", "math/bits.deBruijn64tab"], apart := false, laid := [("math/bits.deBruijn32tab", laid_math_bits_deBruijn32tab), ("math/bits.deBruijn64tab", laid_math_bits_deBruijn64tab), ("internal/strconv.uint64pow10", laid_internal_strconv_uint64pow10), ("library/custody.moves", laid_library_custody_moves)], narrowed := true }
def CustodyRightsUptoSaid : Prop := custodyRightsUptoRow.holds Tryd.pinned (OpenSpec.upto custodyRightsSpec)

/-- 'librarylaw30.CustodyApplies', WHERE WHAT IT READS IS OF BULK AT MOST 1048576: true; the input reads as it did. -/
def custodyAppliesUptoRow : OpenClaim := { program := "ytabmhpgbfjkkcaadoor", sum := "2bfd675b6b0cca7a66b78f97e47604a73517d966ee8511c9018440c0761d4188", func := "library/librarylaw30.CustodyApplies", spec := "custodyApplies", named := ["library/custody.moves", "internal/strconv.uint64pow10", "math/bits.deBruijn32tab", "math/bits.deBruijn64tab"], apart := false, laid := [("math/bits.deBruijn32tab", laid_math_bits_deBruijn32tab), ("math/bits.deBruijn64tab", laid_math_bits_deBruijn64tab), ("internal/strconv.uint64pow10", laid_internal_strconv_uint64pow10), ("library/custody.moves", laid_library_custody_moves)], narrowed := true }
def CustodyAppliesUptoSaid : Prop := custodyAppliesUptoRow.holds Tryd.pinned (OpenSpec.upto custodyAppliesSpec)

/-- 'librarylaw30.CustodyReplays', WHERE WHAT IT READS IS OF BULK AT MOST 1048576: true; the input reads as it did. -/
def custodyReplaysUptoRow : OpenClaim := { program := "ytabmhpgbfjkkcaadoor", sum := "2bfd675b6b0cca7a66b78f97e47604a73517d966ee8511c9018440c0761d4188", func := "library/librarylaw30.CustodyReplays", spec := "custodyReplays", named := ["library/custody.moves", "internal/strconv.uint64pow10", "math/bits.deBruijn32tab", "math/bits.deBruijn64tab"], apart := false, laid := [("math/bits.deBruijn32tab", laid_math_bits_deBruijn32tab), ("math/bits.deBruijn64tab", laid_math_bits_deBruijn64tab), ("internal/strconv.uint64pow10", laid_internal_strconv_uint64pow10), ("library/custody.moves", laid_library_custody_moves)], narrowed := true }
def CustodyReplaysUptoSaid : Prop := custodyReplaysUptoRow.holds Tryd.pinned (OpenSpec.upto custodyReplaysSpec)

/-- 'librarylaw30.CustodyTexts', WHERE WHAT IT READS IS OF BULK AT MOST 1048576: true; the input reads as it did. -/
def custodyTextsUptoRow : OpenClaim := { program := "ytabmhpgbfjkkcaadoor", sum := "2bfd675b6b0cca7a66b78f97e47604a73517d966ee8511c9018440c0761d4188", func := "library/librarylaw30.CustodyTexts", spec := "custodyTexts", named := ["internal/strconv.uint64pow10", "math/bits.deBruijn32tab", "math/bits.deBruijn64tab", "library/custody.moves"], apart := false, laid := [("math/bits.deBruijn32tab", laid_math_bits_deBruijn32tab), ("math/bits.deBruijn64tab", laid_math_bits_deBruijn64tab), ("internal/strconv.uint64pow10", laid_internal_strconv_uint64pow10), ("library/custody.moves", laid_library_custody_moves)], narrowed := true }
def CustodyTextsUptoSaid : Prop := custodyTextsUptoRow.holds Tryd.pinned (OpenSpec.upto custodyTextsSpec)

/-- 'librarylaw30.CustodyStays', WHERE WHAT IT READS IS OF BULK AT MOST 1048576: true; the input reads as it did. -/
def custodyStaysUptoRow : OpenClaim := { program := "ytabmhpgbfjkkcaadoor", sum := "2bfd675b6b0cca7a66b78f97e47604a73517d966ee8511c9018440c0761d4188", func := "library/librarylaw30.CustodyStays", spec := "custodyStays", named := ["library/custody.moves", "internal/strconv.uint64pow10", "math/bits.deBruijn32tab", "math/bits.deBruijn64tab"], apart := false, laid := [("math/bits.deBruijn32tab", laid_math_bits_deBruijn32tab), ("math/bits.deBruijn64tab", laid_math_bits_deBruijn64tab), ("internal/strconv.uint64pow10", laid_internal_strconv_uint64pow10), ("library/custody.moves", laid_library_custody_moves)], narrowed := true }
def CustodyStaysUptoSaid : Prop := custodyStaysUptoRow.holds Tryd.pinned (OpenSpec.upto custodyStaysSpec)

/-- 'librarylaw30.CustodyContinues', WHERE WHAT IT READS IS OF BULK AT MOST 1048576: true; the input reads as it did. -/
def custodyContinuesUptoRow : OpenClaim := { program := "ytabmhpgbfjkkcaadoor", sum := "2bfd675b6b0cca7a66b78f97e47604a73517d966ee8511c9018440c0761d4188", func := "library/librarylaw30.CustodyContinues", spec := "custodyContinues", named := ["library/custody.moves", "internal/strconv.uint64pow10", "math/bits.deBruijn32tab", "math/bits.deBruijn64tab"], apart := false, laid := [("math/bits.deBruijn32tab", laid_math_bits_deBruijn32tab), ("math/bits.deBruijn64tab", laid_math_bits_deBruijn64tab), ("internal/strconv.uint64pow10", laid_internal_strconv_uint64pow10), ("library/custody.moves", laid_library_custody_moves)], narrowed := true }
def CustodyContinuesUptoSaid : Prop := custodyContinuesUptoRow.holds Tryd.pinned (OpenSpec.upto custodyContinuesSpec)

/-- 'librarylaw30.CustodyNames', WHERE WHAT IT READS IS OF BULK AT MOST 1048576: true; the input reads as it did. -/
def custodyNamesUptoRow : OpenClaim := { program := "ytabmhpgbfjkkcaadoor", sum := "2bfd675b6b0cca7a66b78f97e47604a73517d966ee8511c9018440c0761d4188", func := "library/librarylaw30.CustodyNames", spec := "custodyNames", named := ["library/custody.moves", "internal/strconv.uint64pow10", "math/bits.deBruijn32tab", "math/bits.deBruijn64tab"], apart := false, laid := [("math/bits.deBruijn32tab", laid_math_bits_deBruijn32tab), ("math/bits.deBruijn64tab", laid_math_bits_deBruijn64tab), ("internal/strconv.uint64pow10", laid_internal_strconv_uint64pow10), ("library/custody.moves", laid_library_custody_moves)], narrowed := true }
def CustodyNamesUptoSaid : Prop := custodyNamesUptoRow.holds Tryd.pinned (OpenSpec.upto custodyNamesSpec)

end Rows
end Go.Proofs.YtabmhpgbfjkkcaaDoor
