/-
  What the functions compute that the statement reaches: contracts, and the plain laws between them. Conditions stand at each theorem.
-/
import Derived.Test.YtjpjndfdncalfaaDoorWalkFour
import Derived.Shelf.Strings.Builder1
import Derived.Shelf.Strings.Builder2
import Derived.Shelf.Strings.BuilderF
import Derived.Shelf.Strconv.Itoa0
import Derived.Shelf.Strconv.Itoa1
import Derived.Shelf.LaysM
import Derived.Shelf.Strconv.Itoa2
import Derived.Shelf.Strconv.Itoa3
import Derived.Shelf.Strings.Prefix
import Derived.Shelf.Bits.Mul64
import Derived.Shelf.Strings.Repeat
import Derived.Test.YtjpjndfdncalfaaDoorProg
set_option linter.unusedVariables false
set_option linter.unusedSimpArgs false
/-
  DERIVED: THE SHELF's CONTRACTS AT THIS DUMP, IN PLAIN WORDS (tools/lay-plain.mjs out of 'TrydShelf.lean', which tools/lay-shelf.mjs wrote): THE SAME DECLARATIONS UNDER THE SAME NAMES: 'import', 'namespace', 'open', 'def', 'theorem' AND NOTHING ELSE: no command of the shelf's: FOR A HAND-IN. Each laying: the table of numbers ('.._ren') and one theorem, a field a fact of the dump's own or the kernel's comparison; each contract: ONE APPLICATION.
-/
namespace Go.Proofs
open Go.Shelf
def Tryd.lays170_ren : Go.Shelf.Ren := ⟨fun | 170 => 66 | n => n, fun | 70 => 96 | 3 => 3 | 0 => 0 | 72 => 98 | 37 => 78 | 5 => 5 | n => n, fun | n => n⟩
theorem Tryd.lays170 : Go.Proofs.Lays.n170 Tryd.prog Tryd.lays170_ren := {
  mixed := by kernel_rfl
  f170 := Tryd.func66.trans (congrArg some (by kernel_rfl))
  t0 := Tryd.underlying0
  a0 := Tryd.isAgg0
  z0 := Tryd.sizeOf0
  v0 := Tryd.zeroValue0
  t3 := Tryd.underlying3
  a3 := Tryd.isAgg3
  z3 := Tryd.sizeOf3
  v3 := Tryd.zeroValue3
  t37 := Tryd.underlying78
  a37 := Tryd.isAgg78
  z37 := Tryd.sizeOf78
  v37 := Tryd.zeroValue78
  t70 := Tryd.underlying96
  a70 := Tryd.isAgg96
  z70 := Tryd.sizeOf96
  v70 := Tryd.zeroValue96
  t72 := Tryd.underlying98
  a72 := Tryd.isAgg98
  z72 := Tryd.sizeOf98
  v72 := Tryd.zeroValue98 }
open Go.RowKit in
/-- (*strings.Builder).Len: "Len returns the number of accumulated bytes; b.Len() == len(b.String()).": the world is as it was. (LAID: no walk: one application.) -/
theorem Tryd.Builder_Len (B b : Nat) (bs : List Value) (w : World) (h : Lib.IsBuilder 98 5 B b bs w) :
    Calls Tryd.prog 66 #[.pointer (some ⟨b, 0, none⟩)] w fun e w' => e = .returned (.int .i64 bs.length) ∧ w' = w := Any.Builder_Len Tryd.lays170 B b bs w h
def Tryd.lays169_ren : Go.Shelf.Ren := ⟨fun | 169 => 67 | n => n, fun | 70 => 96 | 9 => 9 | 0 => 0 | 72 => 98 | 37 => 78 | 127 => 114 | 3 => 3 | 5 => 5 | n => n, fun | n => n⟩
theorem Tryd.lays169 : Go.Proofs.Lays.n169 Tryd.prog Tryd.lays169_ren := {
  mixed := by kernel_rfl
  f169 := Tryd.func67.trans (congrArg some (by kernel_rfl))
  t0 := Tryd.underlying0
  a0 := Tryd.isAgg0
  z0 := Tryd.sizeOf0
  v0 := Tryd.zeroValue0
  t3 := Tryd.underlying3
  a3 := Tryd.isAgg3
  z3 := Tryd.sizeOf3
  v3 := Tryd.zeroValue3
  t9 := Tryd.underlying9
  a9 := Tryd.isAgg9
  z9 := Tryd.sizeOf9
  v9 := Tryd.zeroValue9
  t37 := Tryd.underlying78
  a37 := Tryd.isAgg78
  z37 := Tryd.sizeOf78
  v37 := Tryd.zeroValue78
  t70 := Tryd.underlying96
  a70 := Tryd.isAgg96
  z70 := Tryd.sizeOf96
  v70 := Tryd.zeroValue96
  t72 := Tryd.underlying98
  a72 := Tryd.isAgg98
  z72 := Tryd.sizeOf98
  v72 := Tryd.zeroValue98
  t127 := Tryd.underlying114
  a127 := Tryd.isAgg114
  z127 := Tryd.sizeOf114
  v127 := Tryd.zeroValue114 }
theorem Tryd.Builder_Extra_169 : Builder.Extra Tryd.prog Tryd.lays169_ren := {
  sizeBuilder := by kernel_rfl
  liesBuilder := by kernel_rfl
  t5 := Tryd.underlying5
  a5 := Tryd.isAgg5
  z5 := Tryd.sizeOf5
  v5 := Tryd.zeroValue5
  infoByte := by kernel_rfl
  cellsByte := by kernel_rfl
  sizeByte := by kernel_rfl
  neB5 := by decide }
open Go.RowKit in
/-- (*strings.Builder).String: "String returns the accumulated string.": OF A BUILDER THAT HOLDS AT LEAST ONE BYTE. ✋ THE MODEL FREEZES THOSE BYTES IN THE BUFFER (unsafe.String): a later write INTO them ends the model's run without an answer; a later append BEHIND them goes on. The statement's order of evaluation is drawn: one draw. (LAID: no walk: one application.) -/
theorem Tryd.Builder_String (B b : Nat) (l : List UInt8) (w : World) (h : Lib.IsBuilder 98 5 B b (Lib.byteCells l) w) (h0 : l ≠ []) :
    Calls Tryd.prog 67 #[.pointer (some ⟨b, 0, none⟩)] w fun e w' => e = .returned (.string ⟨l.toArray⟩) ∧ Below B w w' := Any.Builder_String Tryd.lays169 Tryd.Builder_Extra_169 B b l w h h0
open Go.RowKit in
/-- (*strings.Builder).String OF A BUILDER THAT HOLDS NO BYTE: the empty string. (Its buffer is nil, or a row of which it has taken nothing yet; where that row has NO capacity the model lays one new block for unsafe.SliceData's 'some address'.) One draw. (LAID: no walk: one application.) -/
theorem Tryd.Builder_String_empty (B b : Nat) (w : World) (h : Lib.IsBuilder 98 5 B b [] w) (hBw : B ≤ w.heap.size) :
    Calls Tryd.prog 67 #[.pointer (some ⟨b, 0, none⟩)] w fun e w' => e = .returned (.string ⟨#[]⟩) ∧ Below B w w' := Any.Builder_String_empty Tryd.lays169 Tryd.Builder_Extra_169 B b w h hBw
open Go.RowKit in
/-- (*strings.Builder).String: "String returns the accumulated string.": WHATEVER THE BUILDER HOLDS. (LAID: no walk: one application.) -/
theorem Tryd.Builder_String_any (B b : Nat) (l : List UInt8) (w : World) (h : Lib.IsBuilder 98 5 B b (Lib.byteCells l) w) (hBw : B ≤ w.heap.size) :
    Calls Tryd.prog 67 #[.pointer (some ⟨b, 0, none⟩)] w fun e w' => e = .returned (.string ⟨l.toArray⟩) ∧ Below B w w' := Any.Builder_String_any Tryd.lays169 Tryd.Builder_Extra_169 B b l w h hBw
def Tryd.lays241_ren : Go.Shelf.Ren := ⟨fun | 241 => 78 | 277 => 82 | n => n, fun | 70 => 96 | 3 => 3 | 0 => 0 | 72 => 98 | 37 => 78 | 5 => 5 | n => n, fun | n => n⟩
theorem Tryd.lays241 : Go.Proofs.Lays.n241 Tryd.prog Tryd.lays241_ren := {
  mixed := by kernel_rfl
  f241 := Tryd.func78.trans (congrArg some (by kernel_rfl))
  f277 := Tryd.func82.trans (congrArg some (by kernel_rfl))
  t0 := Tryd.underlying0
  a0 := Tryd.isAgg0
  z0 := Tryd.sizeOf0
  v0 := Tryd.zeroValue0
  t3 := Tryd.underlying3
  a3 := Tryd.isAgg3
  z3 := Tryd.sizeOf3
  v3 := Tryd.zeroValue3
  t37 := Tryd.underlying78
  a37 := Tryd.isAgg78
  z37 := Tryd.sizeOf78
  v37 := Tryd.zeroValue78
  t70 := Tryd.underlying96
  a70 := Tryd.isAgg96
  z70 := Tryd.sizeOf96
  v70 := Tryd.zeroValue96
  t72 := Tryd.underlying98
  a72 := Tryd.isAgg98
  z72 := Tryd.sizeOf98
  v72 := Tryd.zeroValue98 }
theorem Tryd.Builder_Extra_241 : Builder.Extra Tryd.prog Tryd.lays241_ren := {
  sizeBuilder := by kernel_rfl
  liesBuilder := by kernel_rfl
  t5 := Tryd.underlying5
  a5 := Tryd.isAgg5
  z5 := Tryd.sizeOf5
  v5 := Tryd.zeroValue5
  infoByte := by kernel_rfl
  cellsByte := by kernel_rfl
  sizeByte := by kernel_rfl
  neB5 := by decide }
open Go.RowKit in
/-- (*strings.Builder).grow (no doc but "grow copies the buffer to a new, larger buffer so that there are at least n bytes of capacity beyond len(b.buf)."): AT A BUILDER WITHOUT A BUFFER: a new row of whatever bytes for its buffer, none of them its own yet. Three draws. (LAID: no walk: one application.) -/
theorem Tryd.Builder_grow_fresh (B b n : Nat) (w : World) (hB : B ≤ b) (hbk : w.heap[b]? = some (.cells #[.pointer (some ⟨b, 0, none⟩), .slice none 0 0] 98 (0, 0))) (hBw : B ≤ w.heap.size) (hn : n ≤ 281474976710656) :
    Calls Tryd.prog 78 #[.pointer (some ⟨b, 0, none⟩), .int .i64 n] w fun e w' => e = .returned (.tuple #[]) ∧ (Lib.BuilderAt 98 5 B b (.pointer (some ⟨b, 0, none⟩)) [] w' ∧ Below B w w') := Any.Builder_grow_fresh Tryd.lays241 Tryd.Builder_Extra_241 B b n w hB hbk hBw hn
def Tryd.lays165_ren : Go.Shelf.Ren := ⟨fun | 165 => 64 | 240 => 77 | 241 => 78 | 276 => 81 | 277 => 82 | n => n, fun | 70 => 96 | 3 => 3 | 0 => 0 | 4 => 4 | 9 => 9 | 20 => 20 | 72 => 98 | 37 => 78 | 164 => 116 | 5 => 5 | n => n, fun | n => n⟩
theorem Tryd.lays165 : Go.Proofs.Lays.n165 Tryd.prog Tryd.lays165_ren := {
  mixed := by kernel_rfl
  f165 := Tryd.func64.trans (congrArg some (by kernel_rfl))
  f240 := Tryd.func77.trans (congrArg some (by kernel_rfl))
  f241 := Tryd.func78.trans (congrArg some (by kernel_rfl))
  f276 := Tryd.func81.trans (congrArg some (by kernel_rfl))
  f277 := Tryd.func82.trans (congrArg some (by kernel_rfl))
  t0 := Tryd.underlying0
  a0 := Tryd.isAgg0
  z0 := Tryd.sizeOf0
  v0 := Tryd.zeroValue0
  t3 := Tryd.underlying3
  a3 := Tryd.isAgg3
  z3 := Tryd.sizeOf3
  v3 := Tryd.zeroValue3
  t4 := Tryd.underlying4
  a4 := Tryd.isAgg4
  z4 := Tryd.sizeOf4
  v4 := Tryd.zeroValue4
  t9 := Tryd.underlying9
  a9 := Tryd.isAgg9
  z9 := Tryd.sizeOf9
  v9 := Tryd.zeroValue9
  t20 := Tryd.underlying20
  a20 := Tryd.isAgg20
  z20 := Tryd.sizeOf20
  v20 := Tryd.zeroValue20
  t37 := Tryd.underlying78
  a37 := Tryd.isAgg78
  z37 := Tryd.sizeOf78
  v37 := Tryd.zeroValue78
  t70 := Tryd.underlying96
  a70 := Tryd.isAgg96
  z70 := Tryd.sizeOf96
  v70 := Tryd.zeroValue96
  t72 := Tryd.underlying98
  a72 := Tryd.isAgg98
  z72 := Tryd.sizeOf98
  v72 := Tryd.zeroValue98
  t164 := Tryd.underlying116
  a164 := Tryd.isAgg116
  z164 := Tryd.sizeOf116
  v164 := Tryd.zeroValue116 }
theorem Tryd.Builder_Extra_165 : Builder.Extra Tryd.prog Tryd.lays165_ren := {
  sizeBuilder := by kernel_rfl
  liesBuilder := by kernel_rfl
  t5 := Tryd.underlying5
  a5 := Tryd.isAgg5
  z5 := Tryd.sizeOf5
  v5 := Tryd.zeroValue5
  infoByte := by kernel_rfl
  cellsByte := by kernel_rfl
  sizeByte := by kernel_rfl
  neB5 := by decide }
open Go.RowKit in
/-- (*strings.Builder).Grow AT A BUILDER THAT HAS NOT BEEN WRITTEN ('var b strings.Builder; b.Grow(n)'): "Grow grows b's capacity, if necessary, to guarantee space for another n bytes.": it holds no byte behind it as before it. (LAID: no walk: one application.) -/
theorem Tryd.Builder_Grow_fresh (B b n : Nat) (w : World) (hB : B ≤ b) (hbk : w.heap[b]? = some (.cells #[.pointer none, .slice none 0 0] 98 (0, 0))) (hBw : B ≤ w.heap.size) (hn : n ≤ 281474976710656) :
    Calls Tryd.prog 64 #[.pointer (some ⟨b, 0, none⟩), .int .i64 n] w fun e w' => e = .returned (.tuple #[]) ∧ (Lib.BuilderAt 98 5 B b (.pointer (some ⟨b, 0, none⟩)) [] w' ∧ Below B w w') := Any.Builder_Grow_fresh Tryd.lays165 Tryd.Builder_Extra_165 B b n w hB hbk hBw hn
open Go.RowKit in
/-- (*strings.Builder).Len: "Len returns the number of accumulated bytes; b.Len() == len(b.String()).": the world is as it was. (THE FORM '_f': 'Lib.IsBuilderF'.) (LAID: no walk: one application.) -/
theorem Tryd.Builder_Len_f (B b : Nat) (bs : List Value) (w : World) (h : Lib.IsBuilderF 98 5 B b bs w) :
    Calls Tryd.prog 66 #[.pointer (some ⟨b, 0, none⟩)] w fun e w' => e = .returned (.int .i64 bs.length) ∧ w' = w := Any.Builder_Len_f Tryd.lays170 B b bs w h
open Go.RowKit in
/-- (*strings.Builder).String: "String returns the accumulated string.": OF A BUILDER THAT HOLDS AT LEAST ONE BYTE. ✋ THE MODEL FREEZES THOSE BYTES IN THE BUFFER (unsafe.String): a later write INTO them ends the model's run without an answer; a later append BEHIND them goes on. The statement's order of evaluation is drawn: one draw. THE FORM '_f': IT SAYS BESIDES THAT THE BUILDER IS A BUILDER STILL ('Lib.IsBuilderF', the same bytes): SO IT CAN BE WRITTEN ON: 'b.WriteString(b.String()[:k])'. (LAID: no walk: one application.) -/
theorem Tryd.Builder_String_f (B b : Nat) (l : List UInt8) (w : World) (h : Lib.IsBuilderF 98 5 B b (Lib.byteCells l) w) (h0 : l ≠ []) :
    Calls Tryd.prog 67 #[.pointer (some ⟨b, 0, none⟩)] w fun e w' => e = .returned (.string ⟨l.toArray⟩) ∧ (Lib.IsBuilderF 98 5 B b (Lib.byteCells l) w' ∧ Below B w w') := Any.Builder_String_f Tryd.lays169 Tryd.Builder_Extra_169 B b l w h h0
open Go.RowKit in
/-- (*strings.Builder).String OF A BUILDER THAT HOLDS NO BYTE: the empty string; THE FORM '_f': a builder still. (LAID: no walk: one application.) -/
theorem Tryd.Builder_String_empty_f (B b : Nat) (w : World) (h : Lib.IsBuilderF 98 5 B b [] w) (hBw : B ≤ w.heap.size) :
    Calls Tryd.prog 67 #[.pointer (some ⟨b, 0, none⟩)] w fun e w' => e = .returned (.string ⟨#[]⟩) ∧ (Lib.IsBuilderF 98 5 B b [] w' ∧ Below B w w') := Any.Builder_String_empty_f Tryd.lays169 Tryd.Builder_Extra_169 B b w h hBw
open Go.RowKit in
/-- (*strings.Builder).String: "String returns the accumulated string.": WHATEVER THE BUILDER HOLDS; THE FORM '_f': OF A BUILDER THAT MAY HAVE BEEN READ BEFORE; AND IT IS A BUILDER STILL, holding the same bytes: it can be written on. (LAID: no walk: one application.) -/
theorem Tryd.Builder_String_any_f (B b : Nat) (l : List UInt8) (w : World) (h : Lib.IsBuilderF 98 5 B b (Lib.byteCells l) w) (hBw : B ≤ w.heap.size) :
    Calls Tryd.prog 67 #[.pointer (some ⟨b, 0, none⟩)] w fun e w' => e = .returned (.string ⟨l.toArray⟩) ∧ (Lib.IsBuilderF 98 5 B b (Lib.byteCells l) w' ∧ Below B w w') := Any.Builder_String_any_f Tryd.lays169 Tryd.Builder_Extra_169 B b l w h hBw
def Tryd.lays129_ren : Go.Shelf.Ren := ⟨fun | 129 => 70 | n => n, fun | 53 => 87 | 3 => 3 | 4 => 4 | 46 => 85 | 5 => 5 | 9 => 9 | n => n, fun | n => n⟩
theorem Tryd.lays129 : Go.Proofs.Lays.n129 Tryd.prog Tryd.lays129_ren := {
  mixed := by kernel_rfl
  f129 := Tryd.func70.trans (congrArg some (by kernel_rfl))
  t3 := Tryd.underlying3
  a3 := Tryd.isAgg3
  z3 := Tryd.sizeOf3
  v3 := Tryd.zeroValue3
  t4 := Tryd.underlying4
  a4 := Tryd.isAgg4
  z4 := Tryd.sizeOf4
  v4 := Tryd.zeroValue4
  t5 := Tryd.underlying5
  a5 := Tryd.isAgg5
  z5 := Tryd.sizeOf5
  v5 := Tryd.zeroValue5
  t9 := Tryd.underlying9
  a9 := Tryd.isAgg9
  z9 := Tryd.sizeOf9
  v9 := Tryd.zeroValue9
  t46 := Tryd.underlying85
  a46 := Tryd.isAgg85
  z46 := Tryd.sizeOf85
  v46 := Tryd.zeroValue85
  t53 := Tryd.underlying87
  a53 := Tryd.isAgg87
  z53 := Tryd.sizeOf87
  v53 := Tryd.zeroValue87 }
/-- bits.Len64: "Len64 returns the minimum number of bits required to represent x; the result is 0 for x == 0.": IT RETURNS 'Lib.bitLen x'; the world is as it was. ('h0', 'h1': x is a uint64.) (LAID: no walk: one application.) -/
theorem Tryd.bits_Len64 (x : Int) (w : World) (h0 : 0 ≤ x) (h1 : x ≤ 18446744073709551615) :
    Calls Tryd.prog 70 #[.int .u64 x] w fun e w' => e = .returned (.int .i64 (Lib.bitLen x.toNat)) ∧ w' = w := Any.bits_Len64 Tryd.lays129 x w h0 h1
def Tryd.lays317_ren : Go.Shelf.Ren := ⟨fun | 317 => 69 | n => n, fun | 3 => 3 | 46 => 85 | n => n, fun | n => n⟩
theorem Tryd.lays317 : Go.Proofs.Lays.n317 Tryd.prog Tryd.lays317_ren := {
  mixed := by kernel_rfl
  f317 := Tryd.func69.trans (congrArg some (by kernel_rfl))
  t3 := Tryd.underlying3
  a3 := Tryd.isAgg3
  z3 := Tryd.sizeOf3
  v3 := Tryd.zeroValue3
  t46 := Tryd.underlying85
  a46 := Tryd.isAgg85
  z46 := Tryd.sizeOf85
  v46 := Tryd.zeroValue85 }
open Go.Lib in
/-- internal/strconv.log10Pow2: "log10Pow2(x) returns ⌊log₁₀ 2**x⌋ = ⌊x * log₁₀ 2⌋.": '(x * 78913) >> 18', at an x up to 64 (a length in bits). The world is as it was. (LAID: no walk: one application.) -/
theorem Tryd.internal_strconv_log10Pow2 (x : Nat) (h : x ≤ 64) (w : World) :
    Calls Tryd.prog 69 #[.int .i64 x] w fun e w' => e = .returned (.int .i64 (Lib.l10 x)) ∧ w' = w := Any.internal_strconv_log10Pow2 Tryd.lays317 x h w
def Tryd.lays318_ren : Go.Shelf.Ren := ⟨fun | 318 => 71 | n => n, fun | 3 => 3 | 4 => 4 | n => n, fun | n => n⟩
theorem Tryd.lays318 : Go.Proofs.Lays.n318 Tryd.prog Tryd.lays318_ren := {
  mixed := by kernel_rfl
  f318 := Tryd.func71.trans (congrArg some (by kernel_rfl))
  t3 := Tryd.underlying3
  a3 := Tryd.isAgg3
  z3 := Tryd.sizeOf3
  v3 := Tryd.zeroValue3
  t4 := Tryd.underlying4
  a4 := Tryd.isAgg4
  z4 := Tryd.sizeOf4
  v4 := Tryd.zeroValue4 }
open Go.Lib in
/-- internal/strconv.bool2: "bool2 converts b to an integer: 1 for true, 0 for false." The world is as it was. (LAID: no walk: one application.) -/
theorem Tryd.internal_strconv_bool2_int (b : Bool) (w : World) :
    Calls Tryd.prog 71 #[.bool b] w fun e w' => e = .returned (.int .i64 (if b then 1 else 0)) ∧ w' = w := Any.internal_strconv_bool2_int Tryd.lays318 b w
def Tryd.lays283_ren : Go.Shelf.Ren := ⟨fun | 283 => 57 | n => n, fun | 3 => 3 | 9 => 9 | 4 => 4 | n => n, fun | n => n⟩
theorem Tryd.lays283 : Go.Proofs.Lays.n283 Tryd.prog Tryd.lays283_ren := {
  mixed := by kernel_rfl
  f283 := Tryd.func57.trans (congrArg some (by kernel_rfl))
  t3 := Tryd.underlying3
  a3 := Tryd.isAgg3
  z3 := Tryd.sizeOf3
  v3 := Tryd.zeroValue3
  t4 := Tryd.underlying4
  a4 := Tryd.isAgg4
  z4 := Tryd.sizeOf4
  v4 := Tryd.zeroValue4
  t9 := Tryd.underlying9
  a9 := Tryd.isAgg9
  z9 := Tryd.sizeOf9
  v9 := Tryd.zeroValue9 }
open Go.Lib in
/-- internal/strconv.small: "small returns the string for an i with 0 <= i < nSmalls.": i's decimal numeral. The world is as it was. (LAID: no walk: one application.) -/
theorem Tryd.internal_strconv_small (i : Nat) (h : i < 100) (w : World) :
    Calls Tryd.prog 57 #[.int .i64 i] w fun e w' => e = .returned (.string ⟨(Lib.decDigits i).toArray⟩) ∧ w' = w := Any.internal_strconv_small Tryd.lays283 i h w
def Tryd.laysM284_ren : Go.Shelf.Ren := ⟨fun | 284 => 58 | 129 => 70 | 317 => 69 | 318 => 71 | n => n, fun | 53 => 87 | 3 => 3 | 212 => 106 | 0 => 0 | 4 => 4 | 46 => 85 | 5 => 5 | 9 => 9 | n => n, fun | 17 => 0 | n => n⟩
theorem Tryd.laysM284 : Go.Proofs.LaysM.n284 Tryd.prog Tryd.laysM284_ren := {
  mixed := by kernel_rfl
  f129 := Tryd.func70.trans (congrArg some (by kernel_rfl))
  f284 := Tryd.func58.trans (congrArg some (by kernel_rfl))
  f317 := Tryd.func69.trans (congrArg some (by kernel_rfl))
  f318 := Tryd.func71.trans (congrArg some (by kernel_rfl))
  t0 := Tryd.underlying0
  a0 := Tryd.isAgg0
  z0 := Tryd.sizeOf0
  v0 := Tryd.zeroValue0
  t3 := Tryd.underlying3
  a3 := Tryd.isAgg3
  z3 := Tryd.sizeOf3
  v3 := Tryd.zeroValue3
  t4 := Tryd.underlying4
  a4 := Tryd.isAgg4
  z4 := Tryd.sizeOf4
  v4 := Tryd.zeroValue4
  t5 := Tryd.underlying5
  a5 := Tryd.isAgg5
  z5 := Tryd.sizeOf5
  v5 := Tryd.zeroValue5
  t9 := Tryd.underlying9
  a9 := Tryd.isAgg9
  z9 := Tryd.sizeOf9
  v9 := Tryd.zeroValue9
  t46 := Tryd.underlying85
  a46 := Tryd.isAgg85
  z46 := Tryd.sizeOf85
  v46 := Tryd.zeroValue85
  t53 := Tryd.underlying87
  a53 := Tryd.isAgg87
  z53 := Tryd.sizeOf87
  v53 := Tryd.zeroValue87
  t212 := Tryd.underlying106
  a212 := Tryd.isAgg106
  z212 := Tryd.sizeOf106
  v212 := Tryd.zeroValue106
  g17 := by kernel_rfl
  i0 := by kernel_rfl
  i3 := by kernel_rfl
  i4 := by kernel_rfl
  i5 := by kernel_rfl
  i9 := by kernel_rfl
  i46 := by kernel_rfl
  i53 := by kernel_rfl
  i212 := by kernel_rfl
  m17 := by kernel_rfl }
open Go.Lib in
/-- internal/strconv.numDigits, at a d that is not 0: THE NUMBER OF d's DECIMAL DIGITS. The world is as it was. (LAID: no walk: one application.) -/
theorem Tryd.internal_strconv_numDigits (u : Nat) (h1 : 1 ≤ u) (h2 : u < 18446744073709551616) (w : World) (htab : Lib.TabIs Tryd.prog w "internal/strconv.uint64pow10" .u64 Lib.pow10Tab) :
    Calls Tryd.prog 58 #[.int .u64 u] w fun e w' => e = .returned (.int .i64 (Lib.nDigits u)) ∧ w' = w := Any.internal_strconv_numDigits Tryd.laysM284 u h1 h2 w htab
def Tryd.lays285_ren : Go.Shelf.Ren := ⟨fun | 285 => 59 | n => n, fun | 37 => 78 | 53 => 87 | 3 => 3 | 4 => 4 | 51 => 107 | 9 => 9 | 5 => 5 | 0 => 0 | n => n, fun | n => n⟩
theorem Tryd.lays285 : Go.Proofs.Lays.n285 Tryd.prog Tryd.lays285_ren := {
  mixed := by kernel_rfl
  f285 := Tryd.func59.trans (congrArg some (by kernel_rfl))
  t0 := Tryd.underlying0
  a0 := Tryd.isAgg0
  z0 := Tryd.sizeOf0
  v0 := Tryd.zeroValue0
  t3 := Tryd.underlying3
  a3 := Tryd.isAgg3
  z3 := Tryd.sizeOf3
  v3 := Tryd.zeroValue3
  t4 := Tryd.underlying4
  a4 := Tryd.isAgg4
  z4 := Tryd.sizeOf4
  v4 := Tryd.zeroValue4
  t5 := Tryd.underlying5
  a5 := Tryd.isAgg5
  z5 := Tryd.sizeOf5
  v5 := Tryd.zeroValue5
  t9 := Tryd.underlying9
  a9 := Tryd.isAgg9
  z9 := Tryd.sizeOf9
  v9 := Tryd.zeroValue9
  t37 := Tryd.underlying78
  a37 := Tryd.isAgg78
  z37 := Tryd.sizeOf78
  v37 := Tryd.zeroValue78
  t51 := Tryd.underlying107
  a51 := Tryd.isAgg107
  z51 := Tryd.sizeOf107
  v51 := Tryd.zeroValue107
  t53 := Tryd.underlying87
  a53 := Tryd.isAgg87
  z53 := Tryd.sizeOf87
  v53 := Tryd.zeroValue87 }
open Go.RowKit Go.Sort Go.Lib in
/-- internal/strconv.formatBase10: "formatBase10 formats the decimal representation of u into a. The caller is responsible for ensuring that a is big enough to hold u. If a is too big, leading zeros will be filled in as needed.": THE ROW HOLDS u's DIGITS ('FmtInv .. 0 ..': every place t holds 'dg u (len - 1 - t)'); all else is as it was but for the count of draws. (LAID: no walk: one application.) -/
theorem Tryd.internal_strconv_formatBase10 (blk off cap : Nat) (u : Nat) (d : Array UInt8) (w : World) (hH : Holds (fun (b : UInt8) => Value.int .u8 (b.toNat : Int)) w blk off d) (hu : u < 10 ^ d.size) (hu64 : u < 18446744073709551616) (hsz : d.size < 4611686018427387904) :
    Calls Tryd.prog 59 #[.slice (some ⟨blk, off, none⟩) d.size cap, .int .u64 u] w fun e w' =>
      e = .returned (.tuple #[]) ∧ ∃ (n v' : Nat) (dk : Array UInt8), w' = (putRow (fun (b : UInt8) => Value.int .u8 (b.toNat : Int)) w blk off dk).drewN n ∧ FmtInv d.size u 0 v' dk := Any.internal_strconv_formatBase10 Tryd.lays285 blk off cap u d w hH hu hu64 hsz
def Tryd.laysM246_ren : Go.Shelf.Ren := ⟨fun | 246 => 49 | 283 => 57 | 284 => 58 | 285 => 59 | 286 => 60 | 129 => 70 | 317 => 69 | 318 => 71 | 319 => 72 | 320 => 73 | 337 => 79 | 338 => 80 | n => n, fun | 2 => 2 | 3 => 3 | 9 => 9 | 4 => 4 | 171 => 86 | 0 => 0 | 53 => 87 | 37 => 78 | 5 => 5 | 173 => 90 | 212 => 106 | 51 => 107 | 20 => 20 | 213 => 108 | 46 => 85 | 232 => 119 | 233 => 120 | n => n, fun | 17 => 0 | 18 => 1 | 19 => 2 | n => n⟩
theorem Tryd.laysM246 : Go.Proofs.LaysM.n246 Tryd.prog Tryd.laysM246_ren := {
  mixed := by kernel_rfl
  f129 := Tryd.func70.trans (congrArg some (by kernel_rfl))
  f246 := Tryd.func49.trans (congrArg some (by kernel_rfl))
  f283 := Tryd.func57.trans (congrArg some (by kernel_rfl))
  f284 := Tryd.func58.trans (congrArg some (by kernel_rfl))
  f285 := Tryd.func59.trans (congrArg some (by kernel_rfl))
  f286 := Tryd.func60.trans (congrArg some (by kernel_rfl))
  f317 := Tryd.func69.trans (congrArg some (by kernel_rfl))
  f318 := Tryd.func71.trans (congrArg some (by kernel_rfl))
  f319 := Tryd.func72.trans (congrArg some (by kernel_rfl))
  f320 := Tryd.func73.trans (congrArg some (by kernel_rfl))
  f337 := Tryd.func79.trans (congrArg some (by kernel_rfl))
  f338 := Tryd.func80.trans (congrArg some (by kernel_rfl))
  t0 := Tryd.underlying0
  a0 := Tryd.isAgg0
  z0 := Tryd.sizeOf0
  v0 := Tryd.zeroValue0
  t2 := Tryd.underlying2
  a2 := Tryd.isAgg2
  z2 := Tryd.sizeOf2
  v2 := Tryd.zeroValue2
  t3 := Tryd.underlying3
  a3 := Tryd.isAgg3
  z3 := Tryd.sizeOf3
  v3 := Tryd.zeroValue3
  t4 := Tryd.underlying4
  a4 := Tryd.isAgg4
  z4 := Tryd.sizeOf4
  v4 := Tryd.zeroValue4
  t5 := Tryd.underlying5
  a5 := Tryd.isAgg5
  z5 := Tryd.sizeOf5
  v5 := Tryd.zeroValue5
  t9 := Tryd.underlying9
  a9 := Tryd.isAgg9
  z9 := Tryd.sizeOf9
  v9 := Tryd.zeroValue9
  t20 := Tryd.underlying20
  a20 := Tryd.isAgg20
  z20 := Tryd.sizeOf20
  v20 := Tryd.zeroValue20
  t37 := Tryd.underlying78
  a37 := Tryd.isAgg78
  z37 := Tryd.sizeOf78
  v37 := Tryd.zeroValue78
  t46 := Tryd.underlying85
  a46 := Tryd.isAgg85
  z46 := Tryd.sizeOf85
  v46 := Tryd.zeroValue85
  t51 := Tryd.underlying107
  a51 := Tryd.isAgg107
  z51 := Tryd.sizeOf107
  v51 := Tryd.zeroValue107
  t53 := Tryd.underlying87
  a53 := Tryd.isAgg87
  z53 := Tryd.sizeOf87
  v53 := Tryd.zeroValue87
  t171 := Tryd.underlying86
  a171 := Tryd.isAgg86
  z171 := Tryd.sizeOf86
  v171 := Tryd.zeroValue86
  t173 := Tryd.underlying90
  a173 := Tryd.isAgg90
  z173 := Tryd.sizeOf90
  v173 := Tryd.zeroValue90
  t212 := Tryd.underlying106
  a212 := Tryd.isAgg106
  z212 := Tryd.sizeOf106
  v212 := Tryd.zeroValue106
  t213 := Tryd.underlying108
  a213 := Tryd.isAgg108
  z213 := Tryd.sizeOf108
  t232 := Tryd.underlying119
  a232 := Tryd.isAgg119
  z232 := Tryd.sizeOf119
  v232 := Tryd.zeroValue119
  t233 := Tryd.underlying120
  a233 := Tryd.isAgg120
  z233 := Tryd.sizeOf120
  v233 := Tryd.zeroValue120
  g17 := by kernel_rfl
  g18 := by kernel_rfl
  g19 := by kernel_rfl
  i0 := by kernel_rfl
  i2 := by kernel_rfl
  i3 := by kernel_rfl
  i4 := by kernel_rfl
  i5 := by kernel_rfl
  i9 := by kernel_rfl
  i20 := by kernel_rfl
  i37 := by kernel_rfl
  i46 := by kernel_rfl
  i51 := by kernel_rfl
  i53 := by kernel_rfl
  i171 := by kernel_rfl
  i173 := by kernel_rfl
  i212 := by kernel_rfl
  i232 := by kernel_rfl
  i233 := by kernel_rfl
  m17 := by kernel_rfl
  m18 := by kernel_rfl
  m19 := by kernel_rfl }
open Go.RowKit Go.Sort Go.Lib in
/-- internal/strconv.FormatInt: "FormatInt returns the string representation of i in the given base": AT BASE 10: i's decimal numeral, for every int64. The world behind the call: the world before it, new blocks behind the heap, draws. (LAID: no walk: one application.) -/
theorem Tryd.internal_strconv_FormatInt_10 (n : Int) (h0 : -9223372036854775808 ≤ n) (h1 : n ≤ 9223372036854775807) (w : World) (htab : Lib.TabIs Tryd.prog w "internal/strconv.uint64pow10" .u64 Lib.pow10Tab) :
    Calls Tryd.prog 49 #[.int .i64 n, .int .i64 10] w fun e w' => e = .returned (.string ⟨(Lib.itoa n).toArray⟩) ∧ ∃ k os, w' = grow (w.drewN k) os := Any.internal_strconv_FormatInt_10 Tryd.laysM246 n h0 h1 w htab
def Tryd.lays246_ren : Go.Shelf.Ren := ⟨fun | 246 => 49 | 283 => 57 | 284 => 58 | 285 => 59 | 286 => 60 | 129 => 70 | 317 => 69 | 318 => 71 | 319 => 72 | 320 => 73 | 337 => 79 | 338 => 80 | n => n, fun | 2 => 2 | 3 => 3 | 9 => 9 | 4 => 4 | 171 => 86 | 0 => 0 | 53 => 87 | 37 => 78 | 5 => 5 | 173 => 90 | 212 => 106 | 51 => 107 | 20 => 20 | 213 => 108 | 46 => 85 | 232 => 119 | 233 => 120 | n => n, fun | 17 => 0 | 18 => 1 | 19 => 2 | n => n⟩
theorem Tryd.lays246 : Go.Proofs.Lays.n246 Tryd.prog Tryd.lays246_ren := {
  mixed := by kernel_rfl
  f129 := Tryd.func70.trans (congrArg some (by kernel_rfl))
  f246 := Tryd.func49.trans (congrArg some (by kernel_rfl))
  f283 := Tryd.func57.trans (congrArg some (by kernel_rfl))
  f284 := Tryd.func58.trans (congrArg some (by kernel_rfl))
  f285 := Tryd.func59.trans (congrArg some (by kernel_rfl))
  f286 := Tryd.func60.trans (congrArg some (by kernel_rfl))
  f317 := Tryd.func69.trans (congrArg some (by kernel_rfl))
  f318 := Tryd.func71.trans (congrArg some (by kernel_rfl))
  f319 := Tryd.func72.trans (congrArg some (by kernel_rfl))
  f320 := Tryd.func73.trans (congrArg some (by kernel_rfl))
  f337 := Tryd.func79.trans (congrArg some (by kernel_rfl))
  f338 := Tryd.func80.trans (congrArg some (by kernel_rfl))
  t0 := Tryd.underlying0
  a0 := Tryd.isAgg0
  z0 := Tryd.sizeOf0
  v0 := Tryd.zeroValue0
  t2 := Tryd.underlying2
  a2 := Tryd.isAgg2
  z2 := Tryd.sizeOf2
  v2 := Tryd.zeroValue2
  t3 := Tryd.underlying3
  a3 := Tryd.isAgg3
  z3 := Tryd.sizeOf3
  v3 := Tryd.zeroValue3
  t4 := Tryd.underlying4
  a4 := Tryd.isAgg4
  z4 := Tryd.sizeOf4
  v4 := Tryd.zeroValue4
  t5 := Tryd.underlying5
  a5 := Tryd.isAgg5
  z5 := Tryd.sizeOf5
  v5 := Tryd.zeroValue5
  t9 := Tryd.underlying9
  a9 := Tryd.isAgg9
  z9 := Tryd.sizeOf9
  v9 := Tryd.zeroValue9
  t20 := Tryd.underlying20
  a20 := Tryd.isAgg20
  z20 := Tryd.sizeOf20
  v20 := Tryd.zeroValue20
  t37 := Tryd.underlying78
  a37 := Tryd.isAgg78
  z37 := Tryd.sizeOf78
  v37 := Tryd.zeroValue78
  t46 := Tryd.underlying85
  a46 := Tryd.isAgg85
  z46 := Tryd.sizeOf85
  v46 := Tryd.zeroValue85
  t51 := Tryd.underlying107
  a51 := Tryd.isAgg107
  z51 := Tryd.sizeOf107
  v51 := Tryd.zeroValue107
  t53 := Tryd.underlying87
  a53 := Tryd.isAgg87
  z53 := Tryd.sizeOf87
  v53 := Tryd.zeroValue87
  t171 := Tryd.underlying86
  a171 := Tryd.isAgg86
  z171 := Tryd.sizeOf86
  v171 := Tryd.zeroValue86
  t173 := Tryd.underlying90
  a173 := Tryd.isAgg90
  z173 := Tryd.sizeOf90
  v173 := Tryd.zeroValue90
  t212 := Tryd.underlying106
  a212 := Tryd.isAgg106
  z212 := Tryd.sizeOf106
  v212 := Tryd.zeroValue106
  t213 := Tryd.underlying108
  a213 := Tryd.isAgg108
  z213 := Tryd.sizeOf108
  t232 := Tryd.underlying119
  a232 := Tryd.isAgg119
  z232 := Tryd.sizeOf119
  v232 := Tryd.zeroValue119
  t233 := Tryd.underlying120
  a233 := Tryd.isAgg120
  z233 := Tryd.sizeOf120
  v233 := Tryd.zeroValue120
  g17 := by kernel_rfl
  g18 := by kernel_rfl
  g19 := by kernel_rfl }
open Go.RowKit Go.Sort Go.Lib in
/-- THE ROAD WITHOUT THE TABLE: 0 <= i < 100: two constants are read, nothing is laid: no premise on the world, and the world is as it was. (LAID: no walk: one application.) -/
theorem Tryd.internal_strconv_FormatInt_10_small (i : Nat) (hi : i < 100) (w : World) :
    Calls Tryd.prog 49 #[.int .i64 i, .int .i64 10] w fun e w' => e = .returned (.string ⟨(Lib.decDigits i).toArray⟩) ∧ w' = w := Any.internal_strconv_FormatInt_10_small Tryd.lays246 i hi w
def Tryd.laysM243_ren : Go.Shelf.Ren := ⟨fun | 243 => 41 | 246 => 49 | 283 => 57 | 284 => 58 | 285 => 59 | 286 => 60 | 129 => 70 | 317 => 69 | 318 => 71 | 319 => 72 | 320 => 73 | 337 => 79 | 338 => 80 | n => n, fun | 3 => 3 | 9 => 9 | 2 => 2 | 4 => 4 | 171 => 86 | 0 => 0 | 53 => 87 | 37 => 78 | 5 => 5 | 173 => 90 | 212 => 106 | 51 => 107 | 20 => 20 | 213 => 108 | 46 => 85 | 232 => 119 | 233 => 120 | n => n, fun | 17 => 0 | 18 => 1 | 19 => 2 | n => n⟩
theorem Tryd.laysM243 : Go.Proofs.LaysM.n243 Tryd.prog Tryd.laysM243_ren := {
  mixed := by kernel_rfl
  f129 := Tryd.func70.trans (congrArg some (by kernel_rfl))
  f243 := Tryd.func41.trans (congrArg some (by kernel_rfl))
  f246 := Tryd.func49.trans (congrArg some (by kernel_rfl))
  f283 := Tryd.func57.trans (congrArg some (by kernel_rfl))
  f284 := Tryd.func58.trans (congrArg some (by kernel_rfl))
  f285 := Tryd.func59.trans (congrArg some (by kernel_rfl))
  f286 := Tryd.func60.trans (congrArg some (by kernel_rfl))
  f317 := Tryd.func69.trans (congrArg some (by kernel_rfl))
  f318 := Tryd.func71.trans (congrArg some (by kernel_rfl))
  f319 := Tryd.func72.trans (congrArg some (by kernel_rfl))
  f320 := Tryd.func73.trans (congrArg some (by kernel_rfl))
  f337 := Tryd.func79.trans (congrArg some (by kernel_rfl))
  f338 := Tryd.func80.trans (congrArg some (by kernel_rfl))
  t0 := Tryd.underlying0
  a0 := Tryd.isAgg0
  z0 := Tryd.sizeOf0
  v0 := Tryd.zeroValue0
  t2 := Tryd.underlying2
  a2 := Tryd.isAgg2
  z2 := Tryd.sizeOf2
  v2 := Tryd.zeroValue2
  t3 := Tryd.underlying3
  a3 := Tryd.isAgg3
  z3 := Tryd.sizeOf3
  v3 := Tryd.zeroValue3
  t4 := Tryd.underlying4
  a4 := Tryd.isAgg4
  z4 := Tryd.sizeOf4
  v4 := Tryd.zeroValue4
  t5 := Tryd.underlying5
  a5 := Tryd.isAgg5
  z5 := Tryd.sizeOf5
  v5 := Tryd.zeroValue5
  t9 := Tryd.underlying9
  a9 := Tryd.isAgg9
  z9 := Tryd.sizeOf9
  v9 := Tryd.zeroValue9
  t20 := Tryd.underlying20
  a20 := Tryd.isAgg20
  z20 := Tryd.sizeOf20
  v20 := Tryd.zeroValue20
  t37 := Tryd.underlying78
  a37 := Tryd.isAgg78
  z37 := Tryd.sizeOf78
  v37 := Tryd.zeroValue78
  t46 := Tryd.underlying85
  a46 := Tryd.isAgg85
  z46 := Tryd.sizeOf85
  v46 := Tryd.zeroValue85
  t51 := Tryd.underlying107
  a51 := Tryd.isAgg107
  z51 := Tryd.sizeOf107
  v51 := Tryd.zeroValue107
  t53 := Tryd.underlying87
  a53 := Tryd.isAgg87
  z53 := Tryd.sizeOf87
  v53 := Tryd.zeroValue87
  t171 := Tryd.underlying86
  a171 := Tryd.isAgg86
  z171 := Tryd.sizeOf86
  v171 := Tryd.zeroValue86
  t173 := Tryd.underlying90
  a173 := Tryd.isAgg90
  z173 := Tryd.sizeOf90
  v173 := Tryd.zeroValue90
  t212 := Tryd.underlying106
  a212 := Tryd.isAgg106
  z212 := Tryd.sizeOf106
  v212 := Tryd.zeroValue106
  t213 := Tryd.underlying108
  a213 := Tryd.isAgg108
  z213 := Tryd.sizeOf108
  t232 := Tryd.underlying119
  a232 := Tryd.isAgg119
  z232 := Tryd.sizeOf119
  v232 := Tryd.zeroValue119
  t233 := Tryd.underlying120
  a233 := Tryd.isAgg120
  z233 := Tryd.sizeOf120
  v233 := Tryd.zeroValue120
  g17 := by kernel_rfl
  g18 := by kernel_rfl
  g19 := by kernel_rfl
  i0 := by kernel_rfl
  i2 := by kernel_rfl
  i3 := by kernel_rfl
  i4 := by kernel_rfl
  i5 := by kernel_rfl
  i9 := by kernel_rfl
  i20 := by kernel_rfl
  i37 := by kernel_rfl
  i46 := by kernel_rfl
  i51 := by kernel_rfl
  i53 := by kernel_rfl
  i171 := by kernel_rfl
  i173 := by kernel_rfl
  i212 := by kernel_rfl
  i232 := by kernel_rfl
  i233 := by kernel_rfl
  m17 := by kernel_rfl
  m18 := by kernel_rfl
  m19 := by kernel_rfl }
open Go.RowKit Go.Sort Go.Lib in
/-- internal/strconv.Itoa: "Itoa is equivalent to FormatInt(int64(i), 10).": i's decimal numeral, for every int. (LAID: no walk: one application.) -/
theorem Tryd.internal_strconv_Itoa (n : Int) (h0 : -9223372036854775808 ≤ n) (h1 : n ≤ 9223372036854775807) (w : World) (htab : Lib.TabIs Tryd.prog w "internal/strconv.uint64pow10" .u64 Lib.pow10Tab) :
    Calls Tryd.prog 41 #[.int .i64 n] w fun e w' => e = .returned (.string ⟨(Lib.itoa n).toArray⟩) ∧ ∃ k os, w' = grow (w.drewN k) os := Any.internal_strconv_Itoa Tryd.laysM243 n h0 h1 w htab
def Tryd.lays243_ren : Go.Shelf.Ren := ⟨fun | 243 => 41 | 246 => 49 | 283 => 57 | 284 => 58 | 285 => 59 | 286 => 60 | 129 => 70 | 317 => 69 | 318 => 71 | 319 => 72 | 320 => 73 | 337 => 79 | 338 => 80 | n => n, fun | 3 => 3 | 9 => 9 | 2 => 2 | 4 => 4 | 171 => 86 | 0 => 0 | 53 => 87 | 37 => 78 | 5 => 5 | 173 => 90 | 212 => 106 | 51 => 107 | 20 => 20 | 213 => 108 | 46 => 85 | 232 => 119 | 233 => 120 | n => n, fun | 17 => 0 | 18 => 1 | 19 => 2 | n => n⟩
theorem Tryd.lays243 : Go.Proofs.Lays.n243 Tryd.prog Tryd.lays243_ren := {
  mixed := by kernel_rfl
  f129 := Tryd.func70.trans (congrArg some (by kernel_rfl))
  f243 := Tryd.func41.trans (congrArg some (by kernel_rfl))
  f246 := Tryd.func49.trans (congrArg some (by kernel_rfl))
  f283 := Tryd.func57.trans (congrArg some (by kernel_rfl))
  f284 := Tryd.func58.trans (congrArg some (by kernel_rfl))
  f285 := Tryd.func59.trans (congrArg some (by kernel_rfl))
  f286 := Tryd.func60.trans (congrArg some (by kernel_rfl))
  f317 := Tryd.func69.trans (congrArg some (by kernel_rfl))
  f318 := Tryd.func71.trans (congrArg some (by kernel_rfl))
  f319 := Tryd.func72.trans (congrArg some (by kernel_rfl))
  f320 := Tryd.func73.trans (congrArg some (by kernel_rfl))
  f337 := Tryd.func79.trans (congrArg some (by kernel_rfl))
  f338 := Tryd.func80.trans (congrArg some (by kernel_rfl))
  t0 := Tryd.underlying0
  a0 := Tryd.isAgg0
  z0 := Tryd.sizeOf0
  v0 := Tryd.zeroValue0
  t2 := Tryd.underlying2
  a2 := Tryd.isAgg2
  z2 := Tryd.sizeOf2
  v2 := Tryd.zeroValue2
  t3 := Tryd.underlying3
  a3 := Tryd.isAgg3
  z3 := Tryd.sizeOf3
  v3 := Tryd.zeroValue3
  t4 := Tryd.underlying4
  a4 := Tryd.isAgg4
  z4 := Tryd.sizeOf4
  v4 := Tryd.zeroValue4
  t5 := Tryd.underlying5
  a5 := Tryd.isAgg5
  z5 := Tryd.sizeOf5
  v5 := Tryd.zeroValue5
  t9 := Tryd.underlying9
  a9 := Tryd.isAgg9
  z9 := Tryd.sizeOf9
  v9 := Tryd.zeroValue9
  t20 := Tryd.underlying20
  a20 := Tryd.isAgg20
  z20 := Tryd.sizeOf20
  v20 := Tryd.zeroValue20
  t37 := Tryd.underlying78
  a37 := Tryd.isAgg78
  z37 := Tryd.sizeOf78
  v37 := Tryd.zeroValue78
  t46 := Tryd.underlying85
  a46 := Tryd.isAgg85
  z46 := Tryd.sizeOf85
  v46 := Tryd.zeroValue85
  t51 := Tryd.underlying107
  a51 := Tryd.isAgg107
  z51 := Tryd.sizeOf107
  v51 := Tryd.zeroValue107
  t53 := Tryd.underlying87
  a53 := Tryd.isAgg87
  z53 := Tryd.sizeOf87
  v53 := Tryd.zeroValue87
  t171 := Tryd.underlying86
  a171 := Tryd.isAgg86
  z171 := Tryd.sizeOf86
  v171 := Tryd.zeroValue86
  t173 := Tryd.underlying90
  a173 := Tryd.isAgg90
  z173 := Tryd.sizeOf90
  v173 := Tryd.zeroValue90
  t212 := Tryd.underlying106
  a212 := Tryd.isAgg106
  z212 := Tryd.sizeOf106
  v212 := Tryd.zeroValue106
  t213 := Tryd.underlying108
  a213 := Tryd.isAgg108
  z213 := Tryd.sizeOf108
  t232 := Tryd.underlying119
  a232 := Tryd.isAgg119
  z232 := Tryd.sizeOf119
  v232 := Tryd.zeroValue119
  t233 := Tryd.underlying120
  a233 := Tryd.isAgg120
  z233 := Tryd.sizeOf120
  v233 := Tryd.zeroValue120
  g17 := by kernel_rfl
  g18 := by kernel_rfl
  g19 := by kernel_rfl }
open Go.RowKit Go.Sort Go.Lib in
/-- THE ROAD WITHOUT THE TABLE: 0 <= i < 100. (LAID: no walk: one application.) -/
theorem Tryd.internal_strconv_Itoa_small (i : Nat) (hi : i < 100) (w : World) :
    Calls Tryd.prog 41 #[.int .i64 i] w fun e w' => e = .returned (.string ⟨(Lib.decDigits i).toArray⟩) ∧ w' = w := Any.internal_strconv_Itoa_small Tryd.lays243 i hi w
def Tryd.laysM171_ren : Go.Shelf.Ren := ⟨fun | 171 => 30 | 243 => 41 | 246 => 49 | 283 => 57 | 284 => 58 | 285 => 59 | 286 => 60 | 129 => 70 | 317 => 69 | 318 => 71 | 319 => 72 | 320 => 73 | 337 => 79 | 338 => 80 | n => n, fun | 3 => 3 | 9 => 9 | 2 => 2 | 4 => 4 | 171 => 86 | 0 => 0 | 53 => 87 | 37 => 78 | 5 => 5 | 173 => 90 | 212 => 106 | 51 => 107 | 20 => 20 | 213 => 108 | 46 => 85 | 232 => 119 | 233 => 120 | n => n, fun | 17 => 0 | 18 => 1 | 19 => 2 | n => n⟩
theorem Tryd.laysM171 : Go.Proofs.LaysM.n171 Tryd.prog Tryd.laysM171_ren := {
  mixed := by kernel_rfl
  f129 := Tryd.func70.trans (congrArg some (by kernel_rfl))
  f171 := Tryd.func30.trans (congrArg some (by kernel_rfl))
  f243 := Tryd.func41.trans (congrArg some (by kernel_rfl))
  f246 := Tryd.func49.trans (congrArg some (by kernel_rfl))
  f283 := Tryd.func57.trans (congrArg some (by kernel_rfl))
  f284 := Tryd.func58.trans (congrArg some (by kernel_rfl))
  f285 := Tryd.func59.trans (congrArg some (by kernel_rfl))
  f286 := Tryd.func60.trans (congrArg some (by kernel_rfl))
  f317 := Tryd.func69.trans (congrArg some (by kernel_rfl))
  f318 := Tryd.func71.trans (congrArg some (by kernel_rfl))
  f319 := Tryd.func72.trans (congrArg some (by kernel_rfl))
  f320 := Tryd.func73.trans (congrArg some (by kernel_rfl))
  f337 := Tryd.func79.trans (congrArg some (by kernel_rfl))
  f338 := Tryd.func80.trans (congrArg some (by kernel_rfl))
  t0 := Tryd.underlying0
  a0 := Tryd.isAgg0
  z0 := Tryd.sizeOf0
  v0 := Tryd.zeroValue0
  t2 := Tryd.underlying2
  a2 := Tryd.isAgg2
  z2 := Tryd.sizeOf2
  v2 := Tryd.zeroValue2
  t3 := Tryd.underlying3
  a3 := Tryd.isAgg3
  z3 := Tryd.sizeOf3
  v3 := Tryd.zeroValue3
  t4 := Tryd.underlying4
  a4 := Tryd.isAgg4
  z4 := Tryd.sizeOf4
  v4 := Tryd.zeroValue4
  t5 := Tryd.underlying5
  a5 := Tryd.isAgg5
  z5 := Tryd.sizeOf5
  v5 := Tryd.zeroValue5
  t9 := Tryd.underlying9
  a9 := Tryd.isAgg9
  z9 := Tryd.sizeOf9
  v9 := Tryd.zeroValue9
  t20 := Tryd.underlying20
  a20 := Tryd.isAgg20
  z20 := Tryd.sizeOf20
  v20 := Tryd.zeroValue20
  t37 := Tryd.underlying78
  a37 := Tryd.isAgg78
  z37 := Tryd.sizeOf78
  v37 := Tryd.zeroValue78
  t46 := Tryd.underlying85
  a46 := Tryd.isAgg85
  z46 := Tryd.sizeOf85
  v46 := Tryd.zeroValue85
  t51 := Tryd.underlying107
  a51 := Tryd.isAgg107
  z51 := Tryd.sizeOf107
  v51 := Tryd.zeroValue107
  t53 := Tryd.underlying87
  a53 := Tryd.isAgg87
  z53 := Tryd.sizeOf87
  v53 := Tryd.zeroValue87
  t171 := Tryd.underlying86
  a171 := Tryd.isAgg86
  z171 := Tryd.sizeOf86
  v171 := Tryd.zeroValue86
  t173 := Tryd.underlying90
  a173 := Tryd.isAgg90
  z173 := Tryd.sizeOf90
  v173 := Tryd.zeroValue90
  t212 := Tryd.underlying106
  a212 := Tryd.isAgg106
  z212 := Tryd.sizeOf106
  v212 := Tryd.zeroValue106
  t213 := Tryd.underlying108
  a213 := Tryd.isAgg108
  z213 := Tryd.sizeOf108
  t232 := Tryd.underlying119
  a232 := Tryd.isAgg119
  z232 := Tryd.sizeOf119
  v232 := Tryd.zeroValue119
  t233 := Tryd.underlying120
  a233 := Tryd.isAgg120
  z233 := Tryd.sizeOf120
  v233 := Tryd.zeroValue120
  g17 := by kernel_rfl
  g18 := by kernel_rfl
  g19 := by kernel_rfl
  i0 := by kernel_rfl
  i2 := by kernel_rfl
  i3 := by kernel_rfl
  i4 := by kernel_rfl
  i5 := by kernel_rfl
  i9 := by kernel_rfl
  i20 := by kernel_rfl
  i37 := by kernel_rfl
  i46 := by kernel_rfl
  i51 := by kernel_rfl
  i53 := by kernel_rfl
  i171 := by kernel_rfl
  i173 := by kernel_rfl
  i212 := by kernel_rfl
  i232 := by kernel_rfl
  i233 := by kernel_rfl
  m17 := by kernel_rfl
  m18 := by kernel_rfl
  m19 := by kernel_rfl }
open Go.RowKit Go.Sort Go.Lib in
/-- strconv.Itoa: "Itoa is equivalent to FormatInt(int64(i), 10).": i's DECIMAL NUMERAL ('Lib.itoa': a '-' where i is negative, then the digits), FOR EVERY int. The world behind the call: the world before it, new blocks behind the heap (the library's 'var a [24]byte'), draws. (LAID: no walk: one application.) -/
theorem Tryd.strconv_Itoa (n : Int) (h0 : -9223372036854775808 ≤ n) (h1 : n ≤ 9223372036854775807) (w : World) (htab : Lib.TabIs Tryd.prog w "internal/strconv.uint64pow10" .u64 Lib.pow10Tab) :
    Calls Tryd.prog 30 #[.int .i64 n] w fun e w' => e = .returned (.string ⟨(Lib.itoa n).toArray⟩) ∧ ∃ k os, w' = grow (w.drewN k) os := Any.strconv_Itoa Tryd.laysM171 n h0 h1 w htab
def Tryd.lays171_ren : Go.Shelf.Ren := ⟨fun | 171 => 30 | 243 => 41 | 246 => 49 | 283 => 57 | 284 => 58 | 285 => 59 | 286 => 60 | 129 => 70 | 317 => 69 | 318 => 71 | 319 => 72 | 320 => 73 | 337 => 79 | 338 => 80 | n => n, fun | 3 => 3 | 9 => 9 | 2 => 2 | 4 => 4 | 171 => 86 | 0 => 0 | 53 => 87 | 37 => 78 | 5 => 5 | 173 => 90 | 212 => 106 | 51 => 107 | 20 => 20 | 213 => 108 | 46 => 85 | 232 => 119 | 233 => 120 | n => n, fun | 17 => 0 | 18 => 1 | 19 => 2 | n => n⟩
theorem Tryd.lays171 : Go.Proofs.Lays.n171 Tryd.prog Tryd.lays171_ren := {
  mixed := by kernel_rfl
  f129 := Tryd.func70.trans (congrArg some (by kernel_rfl))
  f171 := Tryd.func30.trans (congrArg some (by kernel_rfl))
  f243 := Tryd.func41.trans (congrArg some (by kernel_rfl))
  f246 := Tryd.func49.trans (congrArg some (by kernel_rfl))
  f283 := Tryd.func57.trans (congrArg some (by kernel_rfl))
  f284 := Tryd.func58.trans (congrArg some (by kernel_rfl))
  f285 := Tryd.func59.trans (congrArg some (by kernel_rfl))
  f286 := Tryd.func60.trans (congrArg some (by kernel_rfl))
  f317 := Tryd.func69.trans (congrArg some (by kernel_rfl))
  f318 := Tryd.func71.trans (congrArg some (by kernel_rfl))
  f319 := Tryd.func72.trans (congrArg some (by kernel_rfl))
  f320 := Tryd.func73.trans (congrArg some (by kernel_rfl))
  f337 := Tryd.func79.trans (congrArg some (by kernel_rfl))
  f338 := Tryd.func80.trans (congrArg some (by kernel_rfl))
  t0 := Tryd.underlying0
  a0 := Tryd.isAgg0
  z0 := Tryd.sizeOf0
  v0 := Tryd.zeroValue0
  t2 := Tryd.underlying2
  a2 := Tryd.isAgg2
  z2 := Tryd.sizeOf2
  v2 := Tryd.zeroValue2
  t3 := Tryd.underlying3
  a3 := Tryd.isAgg3
  z3 := Tryd.sizeOf3
  v3 := Tryd.zeroValue3
  t4 := Tryd.underlying4
  a4 := Tryd.isAgg4
  z4 := Tryd.sizeOf4
  v4 := Tryd.zeroValue4
  t5 := Tryd.underlying5
  a5 := Tryd.isAgg5
  z5 := Tryd.sizeOf5
  v5 := Tryd.zeroValue5
  t9 := Tryd.underlying9
  a9 := Tryd.isAgg9
  z9 := Tryd.sizeOf9
  v9 := Tryd.zeroValue9
  t20 := Tryd.underlying20
  a20 := Tryd.isAgg20
  z20 := Tryd.sizeOf20
  v20 := Tryd.zeroValue20
  t37 := Tryd.underlying78
  a37 := Tryd.isAgg78
  z37 := Tryd.sizeOf78
  v37 := Tryd.zeroValue78
  t46 := Tryd.underlying85
  a46 := Tryd.isAgg85
  z46 := Tryd.sizeOf85
  v46 := Tryd.zeroValue85
  t51 := Tryd.underlying107
  a51 := Tryd.isAgg107
  z51 := Tryd.sizeOf107
  v51 := Tryd.zeroValue107
  t53 := Tryd.underlying87
  a53 := Tryd.isAgg87
  z53 := Tryd.sizeOf87
  v53 := Tryd.zeroValue87
  t171 := Tryd.underlying86
  a171 := Tryd.isAgg86
  z171 := Tryd.sizeOf86
  v171 := Tryd.zeroValue86
  t173 := Tryd.underlying90
  a173 := Tryd.isAgg90
  z173 := Tryd.sizeOf90
  v173 := Tryd.zeroValue90
  t212 := Tryd.underlying106
  a212 := Tryd.isAgg106
  z212 := Tryd.sizeOf106
  v212 := Tryd.zeroValue106
  t213 := Tryd.underlying108
  a213 := Tryd.isAgg108
  z213 := Tryd.sizeOf108
  t232 := Tryd.underlying119
  a232 := Tryd.isAgg119
  z232 := Tryd.sizeOf119
  v232 := Tryd.zeroValue119
  t233 := Tryd.underlying120
  a233 := Tryd.isAgg120
  z233 := Tryd.sizeOf120
  v233 := Tryd.zeroValue120
  g17 := by kernel_rfl
  g18 := by kernel_rfl
  g19 := by kernel_rfl }
open Go.RowKit Go.Sort Go.Lib in
/-- THE ROAD WITHOUT THE TABLE: 0 <= i < 100: NO PREMISE ON THE WORLD, AND THE WORLD IS AS IT WAS: a row that keeps its argument in that range need list no table ('laid = []'). (LAID: no walk: one application.) -/
theorem Tryd.strconv_Itoa_small (i : Nat) (hi : i < 100) (w : World) :
    Calls Tryd.prog 30 #[.int .i64 i] w fun e w' => e = .returned (.string ⟨(Lib.decDigits i).toArray⟩) ∧ w' = w := Any.strconv_Itoa_small Tryd.lays171 i hi w
def Tryd.lays206_ren : Go.Shelf.Ren := ⟨fun | 206 => 76 | n => n, fun | 9 => 9 | 4 => 4 | 3 => 3 | n => n, fun | n => n⟩
theorem Tryd.lays206 : Go.Proofs.Lays.n206 Tryd.prog Tryd.lays206_ren := {
  mixed := by kernel_rfl
  f206 := Tryd.func76.trans (congrArg some (by kernel_rfl))
  t3 := Tryd.underlying3
  a3 := Tryd.isAgg3
  z3 := Tryd.sizeOf3
  v3 := Tryd.zeroValue3
  t4 := Tryd.underlying4
  a4 := Tryd.isAgg4
  z4 := Tryd.sizeOf4
  v4 := Tryd.zeroValue4
  t9 := Tryd.underlying9
  a9 := Tryd.isAgg9
  z9 := Tryd.sizeOf9
  v9 := Tryd.zeroValue9 }
open Go.RowKit Go.Lib in
/-- internal/stringslite.HasPrefix (what strings.HasPrefix calls). (LAID: no walk: one application.) -/
theorem Tryd.stringslite_HasPrefix (s p : ByteArray) (w : World) :
    Calls Tryd.prog 76 #[.string s, .string p] w fun e w' => e = .returned (.bool (Lib.hasPrefix s.data.toList p.data.toList)) ∧ w' = w := Any.stringslite_HasPrefix Tryd.lays206 s p w
def Tryd.lays99_ren : Go.Shelf.Ren := ⟨fun | 99 => 63 | 206 => 76 | n => n, fun | 9 => 9 | 4 => 4 | 3 => 3 | n => n, fun | n => n⟩
theorem Tryd.lays99 : Go.Proofs.Lays.n99 Tryd.prog Tryd.lays99_ren := {
  mixed := by kernel_rfl
  f99 := Tryd.func63.trans (congrArg some (by kernel_rfl))
  f206 := Tryd.func76.trans (congrArg some (by kernel_rfl))
  t3 := Tryd.underlying3
  a3 := Tryd.isAgg3
  z3 := Tryd.sizeOf3
  v3 := Tryd.zeroValue3
  t4 := Tryd.underlying4
  a4 := Tryd.isAgg4
  z4 := Tryd.sizeOf4
  v4 := Tryd.zeroValue4
  t9 := Tryd.underlying9
  a9 := Tryd.isAgg9
  z9 := Tryd.sizeOf9
  v9 := Tryd.zeroValue9 }
open Go.RowKit Go.Lib in
/-- strings.HasPrefix: "HasPrefix reports whether the string s begins with prefix.": IT RETURNS 'Lib.hasPrefix s prefix'; the world is as it was. (LAID: no walk: one application.) -/
theorem Tryd.strings_HasPrefix (s p : ByteArray) (w : World) :
    Calls Tryd.prog 63 #[.string s, .string p] w fun e w' => e = .returned (.bool (Lib.hasPrefix s.data.toList p.data.toList)) ∧ w' = w := Any.strings_HasPrefix Tryd.lays99 s p w
def Tryd.lays264_ren : Go.Shelf.Ren := ⟨fun | 264 => 75 | n => n, fun | 53 => 87 | 46 => 85 | n => n, fun | n => n⟩
theorem Tryd.lays264 : Go.Proofs.Lays.n264 Tryd.prog Tryd.lays264_ren := {
  mixed := by kernel_rfl
  f264 := Tryd.func75.trans (congrArg some (by kernel_rfl))
  t46 := Tryd.underlying85
  a46 := Tryd.isAgg85
  z46 := Tryd.sizeOf85
  v46 := Tryd.zeroValue85
  t53 := Tryd.underlying87
  a53 := Tryd.isAgg87
  z53 := Tryd.sizeOf87
  v53 := Tryd.zeroValue87 }
open Go.RowKit Go.Lib in
theorem Tryd.bits_Mul64 (x y : Nat) (hx : x < 18446744073709551616) (hy : y < 18446744073709551616) (w : World) :
    Calls Tryd.prog 75 #[.int .u64 x, .int .u64 y] w fun e w' => e = .returned (.tuple #[.int .u64 ((x * y / 18446744073709551616 : Nat) : Int), .int .u64 ((x * y % 18446744073709551616 : Nat) : Int)]) ∧ w' = w := Any.bits_Mul64 Tryd.lays264 x y hx hy w
def Tryd.lays212_ren : Go.Shelf.Ren := ⟨fun | 212 => 62 | 263 => 74 | 264 => 75 | n => n, fun | 46 => 85 | 51 => 107 | 146 => 110 | 53 => 87 | 148 => 112 | n => n, fun | n => n⟩
theorem Tryd.lays212 : Go.Proofs.Lays.n212 Tryd.prog Tryd.lays212_ren := {
  mixed := by kernel_rfl
  f212 := Tryd.func62.trans (congrArg some (by kernel_rfl))
  f263 := Tryd.func74.trans (congrArg some (by kernel_rfl))
  f264 := Tryd.func75.trans (congrArg some (by kernel_rfl))
  t46 := Tryd.underlying85
  a46 := Tryd.isAgg85
  z46 := Tryd.sizeOf85
  v46 := Tryd.zeroValue85
  t51 := Tryd.underlying107
  a51 := Tryd.isAgg107
  z51 := Tryd.sizeOf107
  v51 := Tryd.zeroValue107
  t53 := Tryd.underlying87
  a53 := Tryd.isAgg87
  z53 := Tryd.sizeOf87
  v53 := Tryd.zeroValue87
  t146 := Tryd.underlying110
  a146 := Tryd.isAgg110
  z146 := Tryd.sizeOf110
  v146 := Tryd.zeroValue110
  t148 := Tryd.underlying112
  a148 := Tryd.isAgg112
  z148 := Tryd.sizeOf112
  v148 := Tryd.zeroValue112 }
open Go.RowKit Go.Lib in
/-- math/bits.Mul: "Mul returns the full-width product of x and y": on a machine of 64 bits: Mul64's. (LAID: no walk: one application.) -/
theorem Tryd.bits_Mul (x y : Nat) (hx : x < 18446744073709551616) (hy : y < 18446744073709551616) (w : World) :
    Calls Tryd.prog 62 #[.int .u64 x, .int .u64 y] w fun e w' => e = .returned (.tuple #[.int .u64 ((x * y / 18446744073709551616 : Nat) : Int), .int .u64 ((x * y % 18446744073709551616 : Nat) : Int)]) ∧ w' = w := Any.bits_Mul Tryd.lays212 x y hx hy w
def Tryd.lays105_ren : Go.Shelf.Ren := ⟨fun | 105 => 53 | 212 => 62 | 99 => 63 | 165 => 64 | 166 => 65 | 170 => 66 | 169 => 67 | 263 => 74 | 264 => 75 | 206 => 76 | 240 => 77 | 241 => 78 | 276 => 81 | 277 => 82 | n => n, fun | 9 => 9 | 3 => 3 | 4 => 4 | 20 => 20 | 0 => 0 | 46 => 85 | 109 => 93 | 5 => 5 | 72 => 98 | 76 => 101 | 51 => 107 | 146 => 110 | 53 => 87 | 148 => 112 | 70 => 96 | 37 => 78 | 75 => 100 | 127 => 114 | 164 => 116 | 80 => 104 | n => n, fun | n => n⟩
theorem Tryd.lays105 : Go.Proofs.Lays.n105 Tryd.prog Tryd.lays105_ren := {
  mixed := by kernel_rfl
  f99 := Tryd.func63.trans (congrArg some (by kernel_rfl))
  f105 := Tryd.func53.trans (congrArg some (by kernel_rfl))
  f165 := Tryd.func64.trans (congrArg some (by kernel_rfl))
  f166 := Tryd.func65.trans (congrArg some (by kernel_rfl))
  f169 := Tryd.func67.trans (congrArg some (by kernel_rfl))
  f170 := Tryd.func66.trans (congrArg some (by kernel_rfl))
  f206 := Tryd.func76.trans (congrArg some (by kernel_rfl))
  f212 := Tryd.func62.trans (congrArg some (by kernel_rfl))
  f240 := Tryd.func77.trans (congrArg some (by kernel_rfl))
  f241 := Tryd.func78.trans (congrArg some (by kernel_rfl))
  f263 := Tryd.func74.trans (congrArg some (by kernel_rfl))
  f264 := Tryd.func75.trans (congrArg some (by kernel_rfl))
  f276 := Tryd.func81.trans (congrArg some (by kernel_rfl))
  f277 := Tryd.func82.trans (congrArg some (by kernel_rfl))
  t0 := Tryd.underlying0
  a0 := Tryd.isAgg0
  z0 := Tryd.sizeOf0
  v0 := Tryd.zeroValue0
  t3 := Tryd.underlying3
  a3 := Tryd.isAgg3
  z3 := Tryd.sizeOf3
  v3 := Tryd.zeroValue3
  t4 := Tryd.underlying4
  a4 := Tryd.isAgg4
  z4 := Tryd.sizeOf4
  v4 := Tryd.zeroValue4
  t5 := Tryd.underlying5
  a5 := Tryd.isAgg5
  z5 := Tryd.sizeOf5
  v5 := Tryd.zeroValue5
  t9 := Tryd.underlying9
  a9 := Tryd.isAgg9
  z9 := Tryd.sizeOf9
  v9 := Tryd.zeroValue9
  t20 := Tryd.underlying20
  a20 := Tryd.isAgg20
  z20 := Tryd.sizeOf20
  v20 := Tryd.zeroValue20
  t37 := Tryd.underlying78
  a37 := Tryd.isAgg78
  z37 := Tryd.sizeOf78
  v37 := Tryd.zeroValue78
  t46 := Tryd.underlying85
  a46 := Tryd.isAgg85
  z46 := Tryd.sizeOf85
  v46 := Tryd.zeroValue85
  t51 := Tryd.underlying107
  a51 := Tryd.isAgg107
  z51 := Tryd.sizeOf107
  v51 := Tryd.zeroValue107
  t53 := Tryd.underlying87
  a53 := Tryd.isAgg87
  z53 := Tryd.sizeOf87
  v53 := Tryd.zeroValue87
  t70 := Tryd.underlying96
  a70 := Tryd.isAgg96
  z70 := Tryd.sizeOf96
  v70 := Tryd.zeroValue96
  t72 := Tryd.underlying98
  a72 := Tryd.isAgg98
  z72 := Tryd.sizeOf98
  v72 := Tryd.zeroValue98
  t75 := Tryd.underlying100
  a75 := Tryd.isAgg100
  z75 := Tryd.sizeOf100
  v75 := Tryd.zeroValue100
  t76 := Tryd.underlying101
  a76 := Tryd.isAgg101
  z76 := Tryd.sizeOf101
  v76 := Tryd.zeroValue101
  t109 := Tryd.underlying93
  a109 := Tryd.isAgg93
  z109 := Tryd.sizeOf93
  v109 := Tryd.zeroValue93
  t127 := Tryd.underlying114
  a127 := Tryd.isAgg114
  z127 := Tryd.sizeOf114
  v127 := Tryd.zeroValue114
  t146 := Tryd.underlying110
  a146 := Tryd.isAgg110
  z146 := Tryd.sizeOf110
  v146 := Tryd.zeroValue110
  t148 := Tryd.underlying112
  a148 := Tryd.isAgg112
  z148 := Tryd.sizeOf112
  v148 := Tryd.zeroValue112
  t164 := Tryd.underlying116
  a164 := Tryd.isAgg116
  z164 := Tryd.sizeOf116
  v164 := Tryd.zeroValue116 }
theorem Tryd.Builder_Extra_105 : Builder.Extra Tryd.prog Tryd.lays105_ren := {
  sizeBuilder := by kernel_rfl
  liesBuilder := by kernel_rfl
  t5 := Tryd.underlying5
  a5 := Tryd.isAgg5
  z5 := Tryd.sizeOf5
  v5 := Tryd.zeroValue5
  infoByte := by kernel_rfl
  cellsByte := by kernel_rfl
  sizeByte := by kernel_rfl
  neB5 := by decide }
open Go.RowKit Go.Lib in
/-- THE MAIN CASE: at least two copies of a string that is not empty. (LAID: no walk: one application.) -/
theorem Tryd.strings_Repeat_main (s : ByteArray) (c : Nat) (w : World) (hc2 : 2 ≤ c) (hc : c ≤ 9223372036854775807) (hlen : s.size * c ≤ 140737488355328) (h0 : 0 < s.size) :
    Calls Tryd.prog 53 #[.string s, .int .i64 c] w fun e w' => e = .returned (.string ⟨(Lib.repeatL s.data.toList c).toArray⟩) ∧ Below w.heap.size w w' := Any.strings_Repeat_main Tryd.lays105 Tryd.Builder_Extra_105 s c w hc2 hc hlen h0
open Go.RowKit Go.Lib in
theorem Tryd.strings_Repeat_zero (s : ByteArray) (w : World) :
    Calls Tryd.prog 53 #[.string s, .int .i64 0] w fun e w' => e = .returned (.string ⟨#[]⟩) ∧ w' = w := Any.strings_Repeat_zero Tryd.lays105 s w
open Go.RowKit Go.Lib in
theorem Tryd.strings_Repeat_one (s : ByteArray) (w : World) :
    Calls Tryd.prog 53 #[.string s, .int .i64 1] w fun e w' => e = .returned (.string s) ∧ w' = w := Any.strings_Repeat_one Tryd.lays105 s w
open Go.RowKit Go.Lib in
/-- Copies of the empty string. (LAID: no walk: one application.) -/
theorem Tryd.strings_Repeat_empty (s : ByteArray) (c : Nat) (w : World) (hc2 : 2 ≤ c) (hc : c ≤ 9223372036854775807) (h0 : s.size = 0) :
    Calls Tryd.prog 53 #[.string s, .int .i64 c] w fun e w' => e = .returned (.string ⟨#[]⟩) ∧ w' = w := Any.strings_Repeat_empty Tryd.lays105 s c w hc2 hc h0
open Go.RowKit Go.Lib in
/-- count < 0: "It panics if count is negative". (LAID: no walk: one application.) -/
theorem Tryd.strings_Repeat_negative (s : ByteArray) (c : Int) (w : World) (hc : c < 0) :
    Calls Tryd.prog 53 #[.string s, .int .i64 c] w fun e w' => e = .panicked [{ v := repeatPanic Tryd.lays105_ren "strings: negative Repeat count", recovered := false }] ∧ w' = w := Any.strings_Repeat_negative Tryd.lays105 s c w hc
open Go.RowKit Go.Lib in
/-- len(s) * count is no int: ".. or if the result of (len(s) * count) overflows". (LAID: no walk: one application.) -/
theorem Tryd.strings_Repeat_overflow (s : ByteArray) (c : Nat) (w : World) (hc : c ≤ 9223372036854775807) (hs : s.size ≤ 9223372036854775807) (hbig : 9223372036854775807 < s.size * c) :
    Calls Tryd.prog 53 #[.string s, .int .i64 c] w fun e w' => e = .panicked [{ v := repeatPanic Tryd.lays105_ren "strings: Repeat output length overflow", recovered := false }] ∧ w' = w := Any.strings_Repeat_overflow Tryd.lays105 s c w hc hs hbig
open Go.RowKit Go.Lib in
/-- **strings.Repeat: count ≥ 0, the result within one allocation: count copies of s.** (LAID: no walk: one application.) -/
theorem Tryd.strings_Repeat (s : ByteArray) (c : Nat) (w : World) (hc : c ≤ 9223372036854775807) (hlen : s.size * c ≤ 140737488355328) :
    Calls Tryd.prog 53 #[.string s, .int .i64 c] w fun e w' => e = .returned (.string ⟨(Lib.repeatL s.data.toList c).toArray⟩) ∧ Below w.heap.size w w' := Any.strings_Repeat Tryd.lays105 Tryd.Builder_Extra_105 s c w hc hlen
end Go.Proofs

set_option maxRecDepth 100000
set_option linter.unusedSimpArgs false
set_option linter.unusedVariables false
namespace Go.Proofs.YtjpjndfdncalfaaDoor
open Go Ab Pl
theorem strconv_Itoa (n : Int) (h0 : -9223372036854775808 ≤ n) (h1 : n ≤ 9223372036854775807) : ACalls E.P 30 [.int .i64 n] (.d (.str (Go.Lib.itoa n))) :=
  ACalls.itoa n ⟨_, Tryd.func30, by kernel_rfl, by kernel_rfl⟩ (by have := Go.Lib.itoa_length_le n h0 h1; simp only [maxLen]; omega) (fun w S h => amb_is0 h) (fun h0 h1 w ht => Tryd.strconv_Itoa n h0 h1 w ht)

end Go.Proofs.YtjpjndfdncalfaaDoor

set_option maxRecDepth 100000
set_option linter.unusedSimpArgs false
set_option linter.unusedVariables false
namespace Go.Proofs.YtjpjndfdncalfaaDoor
open Go Ab Pl
theorem strings_Repeat (s : List UInt8) (c : Nat) (hc : c ≤ 1000) (hs : s.length ≤ 1000) : ACalls E.P 53 [.str s, .int .i64 c] (.d (.str (Go.Lib.repeatL s c))) :=
  ACalls.repeat ⟨_, Tryd.func53, by kernel_rfl, by kernel_rfl⟩ (by rw [Go.Lib.repeatL_length]; simp only [maxLen]; have := Nat.mul_le_mul hc hs; omega)
    (fun w => Tryd.strings_Repeat ⟨s.toArray⟩ c w (by omega) (by have := Nat.mul_le_mul hs hc; simp only [ba_size]; omega))

end Go.Proofs.YtjpjndfdncalfaaDoor

set_option maxRecDepth 100000
set_option linter.unusedSimpArgs false
set_option linter.unusedVariables false
namespace Go.Proofs.YtjpjndfdncalfaaDoor
open Go Ab Pl
theorem date_padded (n : Int) (w : Nat) (h0 : 0 ≤ n) (h1 : n < 10 ^ (w + 1)) (hw : w ≤ 5) (hn : n ≤ 1000000) : ACalls E.P 43 [.int .i64 n, .int .i64 ((w : Int) + 1)] (.d (.str (digD n (w + 1)))) := by
  refine ACalls.intro E_ok Tryd.func43 rfl rfl Tryd.ntmps43 Tryd.results43 (Nat.le_of_ble_eq_true rfl) fun hok base S0 w0 => ?_
  obtain ⟨p1, p2⟩ := pad_rep w n h0 h1
  have e1 : IntKind.i64.wrap ((w : Int) + 1 - (Go.Lib.itoa n).length) = ((w + 1 - (Go.Lib.itoa n).length : Nat) : Int) := by rw [wrap_i64] <;> omega
  have rl := Go.Lib.repeatL_length [48] (w + 1 - (Go.Lib.itoa n).length)
  simp at rl
  -- region 0
  refine AWp.rseq E_ok [0, 1, 4, 5] fun K hK => ?_
  simp [e1]
  repeat refine ⟨by first | omega | assumption | (simp only [maxLen]; omega) | (intros; omega) | decide, ?_⟩
  refine hK _ ?_
  clear hK K
  -- region 1
  refine AWp.rseq E_ok [0, 1, 4, 5] fun K hK => ?_
  simp [e1]
  repeat refine ⟨by first | omega | assumption | (simp only [maxLen]; omega) | (intros; omega) | decide, ?_⟩
  refine meet.of (strconv_Itoa n (by omega) (by omega)) ?_
  simp [e1]
  repeat refine ⟨by first | omega | assumption | (simp only [maxLen]; omega) | (intros; omega) | decide, ?_⟩
  refine hK _ ?_
  clear hK K
  -- region 2
  refine AWp.rseq E_ok [0, 1, 4, 5] fun K hK => ?_
  simp [e1]
  repeat refine ⟨by first | omega | assumption | (simp only [maxLen]; omega) | (intros; omega) | decide, ?_⟩
  refine meet.of (strings_Repeat [48] (w + 1 - (Go.Lib.itoa n).length) (by omega) (by decide)) ?_
  simp [e1]
  repeat refine ⟨by first | omega | assumption | (simp only [maxLen]; omega) | (intros; omega) | decide, ?_⟩
  refine hK _ ?_
  clear hK K
  refine AWp.ret ?_
  repeat first | refine thenN ?_ | refine thenX ?_ | refine thenR ?_ | refine blockN ?_ | refine blockR ?_ | refine blockX ?_ | refine blockM rfl ?_
  simp [RetOk, RV, RVs, p2]
end Go.Proofs.YtjpjndfdncalfaaDoor

set_option maxRecDepth 100000
set_option linter.unusedSimpArgs false
set_option linter.unusedVariables false
namespace Go.Proofs.YtjpjndfdncalfaaDoor
open Go Ab Pl
theorem date_pad4 (n : Int) (h0 : 0 ≤ n) (h1 : n < 10000) : ACalls E.P 43 [.int .i64 n, .int .i64 4] (.d (.str (digD n 4))) := date_padded n 3 h0 (by simpa using h1) (by omega) (by omega)
theorem date_pad2 (n : Int) (h0 : 0 ≤ n) (h1 : n < 100) : ACalls E.P 43 [.int .i64 n, .int .i64 2] (.d (.str (digD n 2))) := date_padded n 1 h0 (by simpa using h1) (by omega) (by omega)

end Go.Proofs.YtjpjndfdncalfaaDoor

set_option maxRecDepth 100000
set_option linter.unusedSimpArgs false
set_option linter.unusedVariables false
namespace Go.Proofs.YtjpjndfdncalfaaDoor
open Go Ab Pl
theorem date_Format (day : Int) : ACalls E.P 31 [.int .i64 day] (.d (.str (formatR day))) := by
  refine ACalls.intro E_ok Tryd.func31 rfl rfl Tryd.ntmps31 Tryd.results31 (Nat.le_of_ble_eq_true rfl) fun hok base S0 w0 => ?_
  -- region 0
  refine AWp.rseq E_ok [0, 2, 3, 4, 5, 6, 15] fun K hK => ?_
  simp [digD_len]
  repeat refine ⟨by first | omega | assumption | (simp only [maxLen]; omega) | (intros; omega) | decide, ?_⟩
  refine hK _ ?_
  clear hK K
  -- region 1
  refine AWp.rseq E_ok [0, 2, 3, 4, 5, 6, 15] fun K hK => ?_
  simp [digD_len]
  repeat refine ⟨by first | omega | assumption | (simp only [maxLen]; omega) | (intros; omega) | decide, ?_⟩
  refine meet.of (date_Parts day) ?_
  simp [digD_len]
  repeat refine ⟨by first | omega | assumption | (simp only [maxLen]; omega) | (intros; omega) | decide, ?_⟩
  refine hK _ ?_
  clear hK K
  refine AWp.seq ?_
  -- region 2
  refine AWp.rseq E_ok [0, 2, 3, 4, 5, 6, 15] fun K hK => ?_
  simp [digD_len]
  repeat refine ⟨by first | omega | assumption | (simp only [maxLen]; omega) | (intros; omega) | decide, ?_⟩
  refine hK _ ?_
  clear hK K
  refine AWp.cond rfl (fun h15 => ?_) (fun h15 => ?_)
  · try simp at h15
    have hb := format_bad (partsR_unknown h15)
    -- region 3
    refine AWp.rseq E_ok [0, 2, 3, 4, 5, 6, 15] fun K hK => ?_
    simp [digD_len]
    repeat refine ⟨by first | omega | assumption | (simp only [maxLen]; omega) | (intros; omega) | decide, ?_⟩
    refine hK _ ?_
    clear hK K
    refine AWp.ret ?_
    repeat first | refine thenN ?_ | refine thenX ?_ | refine thenR ?_ | refine blockN ?_ | refine blockR ?_ | refine blockX ?_ | refine blockM rfl ?_
    first | (rw [hb]; simp [RetOk, RV, RVs]; done) | (simp [RetOk, RV, RVs, hb])
  · try simp at h15
    have hk := partsR_known h15
    have hpr := partsR_ok hk
    have hi := parts_in (parts_is hk.1 hk.2)
    have hb := format_ok hk
    refine AWp.skip ?_
    repeat first | refine thenN ?_ | refine thenX ?_ | refine thenR ?_ | refine blockN ?_ | refine blockR ?_ | refine blockX ?_ | refine blockM rfl ?_
    -- region 4
    refine AWp.rseq E_ok [0, 2, 3, 4, 5, 6, 15] fun K hK => ?_
    simp [digD_len, hpr]
    repeat refine ⟨by first | omega | assumption | (simp only [maxLen]; omega) | (intros; omega) | decide, ?_⟩
    refine meet.of (date_pad4 (partsP day).y (by omega) (by omega)) ?_
    simp [digD_len, hpr]
    repeat refine ⟨by first | omega | assumption | (simp only [maxLen]; omega) | (intros; omega) | decide, ?_⟩
    refine meet.of (date_pad2 (partsP day).m (by omega) (by omega)) ?_
    simp [digD_len, hpr]
    repeat refine ⟨by first | omega | assumption | (simp only [maxLen]; omega) | (intros; omega) | decide, ?_⟩
    refine meet.of (date_pad2 (partsP day).d (by omega) (by omega)) ?_
    simp [digD_len, hpr]
    repeat refine ⟨by first | omega | assumption | (simp only [maxLen]; omega) | (intros; omega) | decide, ?_⟩
    refine hK _ ?_
    clear hK K
    refine AWp.ret ?_
    repeat first | refine thenN ?_ | refine thenX ?_ | refine thenR ?_ | refine blockN ?_ | refine blockR ?_ | refine blockX ?_ | refine blockM rfl ?_
    first | (rw [hb]; simp [RetOk, RV, RVs]; done) | (simp [RetOk, RV, RVs, hb])
end Go.Proofs.YtjpjndfdncalfaaDoor

set_option maxRecDepth 100000
set_option linter.unusedSimpArgs false
set_option linter.unusedVariables false
namespace Go.Proofs.YtjpjndfdncalfaaDoor
open Go Ab Pl
theorem slices_IndexFunc_api_Patron_api_Patron (l : List Patr) (f : Nat) (caps : List D) (p : Patr → Bool) (hp : ∀ n, ACalls E.P f (encPatr n :: caps) (.d (.bool (p n)))) : ACalls E.P 39 [encPatrs l, .fn f caps] (.d (.int .i64 (idxP p 0 l))) := by
  refine ACalls.intro E_ok Tryd.func39 rfl rfl Tryd.ntmps39 Tryd.results39 (Nat.le_of_ble_eq_true rfl) fun hok base S0 w0 => ?_
  have hl : l.length ≤ 9223372036854775807 := by have := (Ok_slice (hok (encPatrs l) (by simp))).1; simpa using this
  -- region 0
  refine AWp.rseq E_ok [0, 1, 4, 5, 7, 8, 9, 16] fun K hK => ?_
  simp [encPatrs_eq, encPatr_eq]
  repeat refine ⟨by first | omega | assumption | (simp only [maxLen]; omega) | (intros; omega) | decide, ?_⟩
  refine hK _ ?_
  clear hK K
  refine AWp.seq ?_
  -- region 1
  refine AWp.rseq E_ok [0, 1, 4, 5, 7, 8, 9, 16] fun K hK => ?_
  simp [encPatrs_eq, encPatr_eq]
  repeat refine ⟨by first | omega | assumption | (simp only [maxLen]; omega) | (intros; omega) | decide, ?_⟩
  refine hK _ ?_
  clear hK K
  refine AWp.block ?_
  refine AWp.range (l := l) (F := idxP p) (tot := idxP p 0 l) (fun k y => match y with | i => i = (k : Int)) (fun k y => match y with | i => [(0, T.val ((D.agg [D.int IntKind.i64 zPatr.id, D.int IntKind.i64 zPatr.kind, D.int IntKind.i64 zPatr.br, D.int IntKind.i64 zPatr.til, D.bool zPatr.stop, D.str zPatr.name]).slice (List.map encPatr l))), (1, T.val (D.fn f caps)), (7, T.val (D.int IntKind.i64 ↑l.length)), (8, T.val (.int .i64 k))]) (0) ?_ rfl ?_ ?_
  · simp [Weak, TW, encPatrs_eq, encPatr_eq]
  · first | exact trivial | (simp; omega) | simp
  rintro k i hk hs hi
  try simp only at hi
  -- region 2
  refine AWp.rseq E_ok [0, 1, 4, 5, 7, 8, 9, 16] fun K hK => ?_
  simp [encPatrs_eq, encPatr_eq]
  repeat refine ⟨by first | omega | assumption | (simp only [maxLen]; omega) | (intros; omega) | decide, ?_⟩
  refine hK _ ?_
  clear hK K
  refine AWp.seq ?_
  refine AWp.cond rfl (fun h9 => ?_) (fun h9 => ?_)
  · try simp at h9
    obtain ⟨x, hx, hxx, hd⟩ := at_indexG (l := l) h9
    rw [hd] at hs
    refine AWp.skip ?_
    repeat first | refine thenN ?_ | refine thenX ?_ | refine thenR ?_ | refine blockN ?_ | refine blockR ?_ | refine blockX ?_ | refine blockM rfl ?_
    refine AWp.seq ?_
    refine AWp.block ?_
    -- region 3
    refine AWp.rseq E_ok [0, 1, 4, 5, 7, 8, 9, 16] fun K hK => ?_
    simp [encPatrs_eq, encPatr_eq, h9, hx, hxx]
    repeat refine ⟨by first | omega | assumption | (simp only [maxLen]; omega) | (intros; omega) | decide, ?_⟩
    refine hK _ ?_
    clear hK K
    -- region 4
    refine AWp.rseq E_ok [0, 1, 4, 5, 7, 8, 9, 16] fun K hK => ?_
    simp [encPatrs_eq, encPatr_eq, h9, hx, hxx]
    repeat refine ⟨by first | omega | assumption | (simp only [maxLen]; omega) | (intros; omega) | decide, ?_⟩
    refine meet.of (hp x) ?_
    simp [encPatrs_eq, encPatr_eq, h9, hx, hxx]
    repeat refine ⟨by first | omega | assumption | (simp only [maxLen]; omega) | (intros; omega) | decide, ?_⟩
    refine hK _ ?_
    clear hK K
    refine AWp.cond rfl (fun h16 => ?_) (fun h16 => ?_)
    · try simp at h16
      -- region 5
      refine AWp.rseq E_ok [0, 1, 4, 5, 7, 8, 9, 16] fun K hK => ?_
      simp [encPatrs_eq, encPatr_eq, h9, hx, hxx, h16]
      repeat refine ⟨by first | omega | assumption | (simp only [maxLen]; omega) | (intros; omega) | decide, ?_⟩
      refine hK _ ?_
      clear hK K
      refine AWp.ret ?_
      repeat first | refine thenN ?_ | refine thenX ?_ | refine thenR ?_ | refine blockN ?_ | refine blockR ?_ | refine blockX ?_ | refine blockM rfl ?_
      simp [idxP, h16] at hs
      first | (simp [RetOk, RV, ← hs]; done) | (simp [RetOk, RV, ← hs, hi])
    · try simp at h16
      refine AWp.skip ?_
      repeat first | refine thenN ?_ | refine thenX ?_ | refine thenR ?_ | refine blockN ?_ | refine blockR ?_ | refine blockX ?_ | refine blockM rfl ?_
      -- region 6
      refine AWp.rend E_ok [0, 1, 4, 5, 7, 8, 9, 16] fun K hK => ?_
      simp [encPatrs_eq, encPatr_eq, h9, hx, hxx, h16]
      repeat refine ⟨by first | omega | assumption | (simp only [maxLen]; omega) | (intros; omega) | decide, ?_⟩
      refine hK _ ?_
      clear hK K
      repeat first | refine thenN ?_ | refine thenX ?_ | refine thenR ?_ | refine blockN ?_ | refine blockR ?_ | refine blockX ?_ | refine blockM rfl ?_
      have hw : IntKind.i64.wrap ((k : Int) + 1) = (k : Int) + 1 := by rw [wrap_i64] <;> omega
      simp [idxP, h16] at hs
      refine ⟨_, h9, hs, ?_, ?_⟩
      · first | exact trivial | (simp; omega) | simp
      · simp [Weak, TW, hw, encPatrs_eq, encPatr_eq]
  · try simp at h9
    obtain rfl : k = l.length := by omega
    simp [idxP] at hs
    refine AWp.exit ?_
    repeat first | refine thenN ?_ | refine thenX ?_ | refine thenR ?_ | refine blockN ?_ | refine blockR ?_ | refine blockX ?_ | refine blockM rfl ?_
    -- region 7
    refine AWp.rseq E_ok [0, 1, 4, 5, 7, 8, 9, 16] fun K hK => ?_
    simp [encPatrs_eq, encPatr_eq, h9]
    repeat refine ⟨by first | omega | assumption | (simp only [maxLen]; omega) | (intros; omega) | decide, ?_⟩
    refine hK _ ?_
    clear hK K
    refine AWp.ret ?_
    repeat first | refine thenN ?_ | refine thenX ?_ | refine thenR ?_ | refine blockN ?_ | refine blockR ?_ | refine blockX ?_ | refine blockM rfl ?_
    first | (simp [RetOk, RV, ← hs]; done) | (simp [RetOk, RV, ← hs, hi])
end Go.Proofs.YtjpjndfdncalfaaDoor

set_option maxRecDepth 100000
set_option linter.unusedSimpArgs false
set_option linter.unusedVariables false
namespace Go.Proofs.YtjpjndfdncalfaaDoor
open Go Ab Pl
theorem notice_name_1 (x : Patr) (i : Int) : ACalls E.P 40 [encPatr x, .ref [.int .i64 i]] (.d (.bool (decide (x.id = i)))) := by
  refine ACalls.intro E_ok Tryd.func40 rfl rfl Tryd.ntmps40 Tryd.results40 (Nat.le_of_ble_eq_true rfl) fun hok base S0 w0 => ?_
  -- region 0
  refine AWp.rseq E_ok [0, 1, 2, 3] fun K hK => ?_
  simp [encPatr_eq]
  repeat refine ⟨by first | omega | assumption | (simp only [maxLen]; omega) | (intros; omega) | decide, ?_⟩
  refine hK _ ?_
  clear hK K
  -- region 1
  refine AWp.rseq E_ok [0, 1, 2, 3] fun K hK => ?_
  simp [encPatr_eq]
  repeat refine ⟨by first | omega | assumption | (simp only [maxLen]; omega) | (intros; omega) | decide, ?_⟩
  refine hK _ ?_
  clear hK K
  refine AWp.ret ?_
  repeat first | refine thenN ?_ | refine thenX ?_ | refine thenR ?_ | refine blockN ?_ | refine blockR ?_ | refine blockX ?_ | refine blockM rfl ?_
  simp [RetOk, RV]; rfl
end Go.Proofs.YtjpjndfdncalfaaDoor

set_option maxRecDepth 100000
set_option linter.unusedSimpArgs false
set_option linter.unusedVariables false
namespace Go.Proofs.YtjpjndfdncalfaaDoor
open Go Ab Pl
theorem notice_name (l : List Patr) (i : Int) : ACalls E.P 29 [encPatrs l, .int .i64 i] (.d (.str (nameR l i))) := by
  refine ACalls.intro E_ok Tryd.func29 rfl rfl Tryd.ntmps29 Tryd.results29 (Nat.le_of_ble_eq_true rfl) fun hok base S0 w0 => ?_
  have hm := Ok_i64 (hok (.int .i64 i) (by simp))
  have hil := Go.Lib.itoa_length_le i hm.1 hm.2
  -- region 0
  refine AWp.rseq E_ok [0, 1, 3, 4, 5, 10] fun K hK => ?_
  simp [encPatrs_eq, encPatr_eq]
  repeat refine ⟨by first | omega | assumption | (simp only [maxLen]; omega) | (intros; omega) | decide, ?_⟩
  refine hK _ ?_
  clear hK K
  rcases getP_cs l i with ⟨e1, hf⟩ | ⟨j, x, e1, hx, hf⟩
  · skip
    have hb := nameR_none hf
    -- region 1
    refine AWp.rseq E_ok [0, 1, 3, 4, 5, 10] fun K hK => ?_
    simp [encPatrs_eq, encPatr_eq, e1]
    repeat refine ⟨by first | omega | assumption | (simp only [maxLen]; omega) | (intros; omega) | decide, ?_⟩
    refine meet.of (slices_IndexFunc_api_Patron_api_Patron l _ _ (fun x => decide (x.id = i)) (fun x => notice_name_1 x i)) ?_
    simp [encPatrs_eq, encPatr_eq, e1]
    repeat refine ⟨by first | omega | assumption | (simp only [maxLen]; omega) | (intros; omega) | decide, ?_⟩
    refine hK _ ?_
    clear hK K
    refine AWp.seq ?_
    -- region 2
    refine AWp.rseq E_ok [0, 1, 3, 4, 5, 10] fun K hK => ?_
    simp [encPatrs_eq, encPatr_eq, e1]
    repeat refine ⟨by first | omega | assumption | (simp only [maxLen]; omega) | (intros; omega) | decide, ?_⟩
    refine hK _ ?_
    clear hK K
    refine AWp.cond rfl (fun h10 => ?_) (fun h10 => ?_)
    · try simp at h10
      -- region 3
      refine AWp.rseq E_ok [0, 1, 3, 4, 5, 10] fun K hK => ?_
      simp [encPatrs_eq, encPatr_eq, e1, h10]
      repeat refine ⟨by first | omega | assumption | (simp only [maxLen]; omega) | (intros; omega) | decide, ?_⟩
      refine meet.of (strconv_Itoa i hm.1 hm.2) ?_
      simp [encPatrs_eq, encPatr_eq, e1, h10]
      repeat refine ⟨by first | omega | assumption | (simp only [maxLen]; omega) | (intros; omega) | decide, ?_⟩
      refine hK _ ?_
      clear hK K
      refine AWp.ret ?_
      repeat first | refine thenN ?_ | refine thenX ?_ | refine thenR ?_ | refine blockN ?_ | refine blockR ?_ | refine blockX ?_ | refine blockM rfl ?_
      simp [RetOk, RV, hb, paS]
    · exact absurd h10 (by simp)
  · skip
    have hb := nameR_some hf
    have ex : (l.map encPatr)[j]? = some (.agg [.int .i64 x.id, .int .i64 x.kind, .int .i64 x.br, .int .i64 x.til, .bool x.stop, .str x.name]) := by simp [hx, encPatr_eq]
    have hjl : j < l.length := (List.getElem?_eq_some_iff.1 hx).1
    -- region 1
    refine AWp.rseq E_ok [0, 1, 3, 4, 5, 10] fun K hK => ?_
    simp [encPatrs_eq, encPatr_eq, e1, ex]
    repeat refine ⟨by first | omega | assumption | (simp only [maxLen]; omega) | (intros; omega) | decide, ?_⟩
    refine meet.of (slices_IndexFunc_api_Patron_api_Patron l _ _ (fun x => decide (x.id = i)) (fun x => notice_name_1 x i)) ?_
    simp [encPatrs_eq, encPatr_eq, e1, ex]
    repeat refine ⟨by first | omega | assumption | (simp only [maxLen]; omega) | (intros; omega) | decide, ?_⟩
    refine hK _ ?_
    clear hK K
    refine AWp.seq ?_
    -- region 2
    refine AWp.rseq E_ok [0, 1, 3, 4, 5, 10] fun K hK => ?_
    simp [encPatrs_eq, encPatr_eq, e1, ex]
    repeat refine ⟨by first | omega | assumption | (simp only [maxLen]; omega) | (intros; omega) | decide, ?_⟩
    refine hK _ ?_
    clear hK K
    refine AWp.cond rfl (fun h10 => ?_) (fun h10 => ?_)
    · exact absurd h10 (by simp)
    · try simp at h10
      refine AWp.skip ?_
      repeat first | refine thenN ?_ | refine thenX ?_ | refine thenR ?_ | refine blockN ?_ | refine blockR ?_ | refine blockX ?_ | refine blockM rfl ?_
      -- region 4
      refine AWp.rseq E_ok [0, 1, 3, 4, 5, 10] fun K hK => ?_
      simp [encPatrs_eq, encPatr_eq, e1, ex, h10]
      repeat refine ⟨by first | omega | assumption | (simp only [maxLen]; omega) | (intros; omega) | decide, ?_⟩
      refine hK _ ?_
      clear hK K
      refine AWp.ret ?_
      repeat first | refine thenN ?_ | refine thenX ?_ | refine thenR ?_ | refine blockN ?_ | refine blockR ?_ | refine blockX ?_ | refine blockM rfl ?_
      simp [RetOk, RV, hb, paS]
end Go.Proofs.YtjpjndfdncalfaaDoor

set_option maxRecDepth 100000
set_option linter.unusedSimpArgs false
set_option linter.unusedVariables false
namespace Go.Proofs.YtjpjndfdncalfaaDoor
open Go Ab Pl
@[simp] noncomputable def zt15x1 (c : Circ) : List C := [C.d (D.int IntKind.i64 c.today), C.d (encItms c.items), C.d (encPatrs c.patrons), C.d (encLoans c.loans), C.d (encHlds c.holds), C.d (encCharges c.charges), C.d (encRules c.rules), C.d (D.int IntKind.i64 c.cals.c0.week), C.d (encInts c.cals.c0.closed), C.d (D.int IntKind.i64 c.cals.c1.week), C.d (encInts c.cals.c1.closed), C.d (D.int IntKind.i64 c.cals.c2.week), C.d (encInts c.cals.c2.closed), C.d (D.int IntKind.i64 c.cals.c3.week), C.d (encInts c.cals.c3.closed), C.d (encMoves c.moves), C.d (D.int IntKind.i64 c.nh), C.d (D.int IntKind.i64 c.nc), C.d (D.bool c.loc)]
@[simp] noncomputable def zt15x2 (c : Circ) : D := (D.agg [D.int IntKind.i64 c.today, encItms c.items, encPatrs c.patrons, encLoans c.loans, encHlds c.holds, encCharges c.charges, encRules c.rules, D.int IntKind.i64 c.cals.c0.week, encInts c.cals.c0.closed, D.int IntKind.i64 c.cals.c1.week, encInts c.cals.c1.closed, D.int IntKind.i64 c.cals.c2.week, encInts c.cals.c2.closed, D.int IntKind.i64 c.cals.c3.week, encInts c.cals.c3.closed, encMoves c.moves, D.int IntKind.i64 c.nh, D.int IntKind.i64 c.nc, D.bool c.loc])
@[simp] noncomputable def zt15x3 (n : Note) : List C := [C.d (D.int IntKind.i64 n.kind), C.d (D.int IntKind.i64 n.patron), C.d (D.int IntKind.i64 n.item), C.d (D.int IntKind.i64 n.day)]
@[simp] noncomputable def zt15x4 (n : Note) : D := (D.agg [D.int IntKind.i64 n.kind, D.int IntKind.i64 n.patron, D.int IntKind.i64 n.item, D.int IntKind.i64 n.day])
@[simp] noncomputable def zt15x5 (c : Circ) (n : Note) : D := (D.str (nameR c.patrons n.patron ++ [(58 : UInt8), (32 : UInt8), (105 : UInt8), (116 : UInt8), (101 : UInt8), (109 : UInt8), (32 : UInt8)]))
set_option maxHeartbeats 4000000 in
theorem notice_Text (c : Circ) (n : Note) (hp : PatrOk c.patrons) : ACalls E.P 15 [encCirc c, encNote n] (.d (.str (textR c.patrons n))) := by
  refine ACalls.intro E_ok Tryd.func15 rfl rfl Tryd.ntmps15 Tryd.results15 (Nat.le_of_ble_eq_true rfl) fun hok base S0 w0 => ?_
  have hm := Ok_i64 (Ok_agg (hok (encNote n) (by simp)) (.int .i64 n.patron) (by simp))
  have hm2 := Ok_i64 (Ok_agg (hok (encNote n) (by simp)) (.int .i64 n.item) (by simp))
  have hil := Go.Lib.itoa_length_le n.item hm2.1 hm2.2
  have hnl := nameR_len (i := n.patron) hp hm.1 hm.2
  have hfl := formatR_len n.day
  obtain ⟨rs, hrs⟩ : ∃ z, z = restR n.kind := ⟨_, rfl⟩
  have hrl : rs.length ≤ 60 := by rw [hrs]; exact restR_len _
  -- region 0
  refine AWp.rseq E_ok [0, 1, 2, 3, 4, 5, 7, 8, 10, 12, 14] fun K hK => ?_
  simp [encCirc_eq, encNote_eq, duS, waS, wtS, rcS]
  repeat refine ⟨by first | omega | assumption | (simp only [maxLen]; omega) | (intros; omega) | decide, ?_⟩
  refine hK _ ?_
  clear hK K
  rcases (by omega : (1 ≤ n.kind ∧ n.kind ≤ 4) ∨ (n.kind < 1 ∨ 4 < n.kind)) with hk | hk
  · skip
    have hb : textR c.patrons n = nameR c.patrons n.patron ++ itS ++ Go.Lib.itoa n.item ++ rs ++ formatR n.day := by rw [hrs]; exact if_pos hk
    have hx4 : ¬ n.kind = 1 → ¬ n.kind = 2 → ¬ n.kind = 3 → (n.kind == 4) = true := by intro _ _ _; simp; omega
    -- region 1
    refine AWp.rseq E_ok [0, 1, 2, 3, 4, 5, 7, 8, 10, 12, 14] fun K hK => ?_
    simp [encCirc_eq, encNote_eq, duS, waS, wtS, rcS]
    repeat refine ⟨by first | omega | assumption | (simp only [maxLen]; omega) | (intros; omega) | decide, ?_⟩
    refine hK _ ?_
    clear hK K
    refine AWp.join (ι := Unit) (fun _ => [(0, T.val (zt15x2 c)), (1, T.val (zt15x4 n)), (2, T.box (zt15x1 c)), (3, T.box (zt15x3 n)), (5, T.val (.str rs)), (8, T.junk), (10, T.junk), (12, T.junk), (14, T.junk)]) ?_ ?_
    · skip
      -- region 2
      refine AWp.rseq E_ok [0, 1, 2, 3, 4, 5, 7, 8, 10, 12, 14] fun K hK => ?_
      simp [encCirc_eq, encNote_eq, duS, waS, wtS, rcS]
      repeat refine ⟨by first | omega | assumption | (simp only [maxLen]; omega) | (intros; omega) | decide, ?_⟩
      refine hK _ ?_
      clear hK K
      refine AWp.block ?_
      -- region 4
      refine AWp.rseq E_ok [0, 1, 2, 3, 4, 5, 7, 8, 10, 12, 14] fun K hK => ?_
      simp [encCirc_eq, encNote_eq, duS, waS, wtS, rcS]
      repeat refine ⟨by first | omega | assumption | (simp only [maxLen]; omega) | (intros; omega) | decide, ?_⟩
      refine hK _ ?_
      clear hK K
      refine AWp.cond rfl (fun h8 => ?_) (fun h8 => ?_)
      · try simp at h8
        have e1 : rs = duS := by rw [hrs, h8]; rfl
        -- region 5
        refine AWp.rend E_ok [0, 1, 2, 3, 4, 5, 7, 8, 10, 12, 14] fun K hK => ?_
        simp [encCirc_eq, encNote_eq, duS, waS, wtS, rcS, e1]
        repeat refine ⟨by first | omega | assumption | (simp only [maxLen]; omega) | (intros; omega) | decide, ?_⟩
        refine hK _ ?_
        clear hK K
        repeat first | refine thenN ?_ | refine thenX ?_ | refine thenR ?_ | refine blockN ?_ | refine blockR ?_ | refine blockX ?_ | refine blockM rfl ?_
        refine ⟨(), ?_⟩
        simp [Weak, TW, encCirc_eq, encNote_eq, duS, waS, wtS, rcS, e1]
      · try simp at h8
        -- region 6
        refine AWp.rseq E_ok [0, 1, 2, 3, 4, 5, 7, 8, 10, 12, 14] fun K hK => ?_
        simp [encCirc_eq, encNote_eq, duS, waS, wtS, rcS]
        repeat refine ⟨by first | omega | assumption | (simp only [maxLen]; omega) | (intros; omega) | decide, ?_⟩
        refine hK _ ?_
        clear hK K
        refine AWp.cond rfl (fun h10 => ?_) (fun h10 => ?_)
        · try simp at h10
          have e1 : rs = waS := by rw [hrs, h10]; rfl
          -- region 7
          refine AWp.rend E_ok [0, 1, 2, 3, 4, 5, 7, 8, 10, 12, 14] fun K hK => ?_
          simp [encCirc_eq, encNote_eq, duS, waS, wtS, rcS, e1]
          repeat refine ⟨by first | omega | assumption | (simp only [maxLen]; omega) | (intros; omega) | decide, ?_⟩
          refine hK _ ?_
          clear hK K
          repeat first | refine thenN ?_ | refine thenX ?_ | refine thenR ?_ | refine blockN ?_ | refine blockR ?_ | refine blockX ?_ | refine blockM rfl ?_
          refine ⟨(), ?_⟩
          simp [Weak, TW, encCirc_eq, encNote_eq, duS, waS, wtS, rcS, e1]
        · try simp at h10
          -- region 8
          refine AWp.rseq E_ok [0, 1, 2, 3, 4, 5, 7, 8, 10, 12, 14] fun K hK => ?_
          simp [encCirc_eq, encNote_eq, duS, waS, wtS, rcS]
          repeat refine ⟨by first | omega | assumption | (simp only [maxLen]; omega) | (intros; omega) | decide, ?_⟩
          refine hK _ ?_
          clear hK K
          refine AWp.cond rfl (fun h12 => ?_) (fun h12 => ?_)
          · try simp at h12
            have e1 : rs = wtS := by rw [hrs, h12]; rfl
            -- region 9
            refine AWp.rend E_ok [0, 1, 2, 3, 4, 5, 7, 8, 10, 12, 14] fun K hK => ?_
            simp [encCirc_eq, encNote_eq, duS, waS, wtS, rcS, e1]
            repeat refine ⟨by first | omega | assumption | (simp only [maxLen]; omega) | (intros; omega) | decide, ?_⟩
            refine hK _ ?_
            clear hK K
            repeat first | refine thenN ?_ | refine thenX ?_ | refine thenR ?_ | refine blockN ?_ | refine blockR ?_ | refine blockX ?_ | refine blockM rfl ?_
            refine ⟨(), ?_⟩
            simp [Weak, TW, encCirc_eq, encNote_eq, duS, waS, wtS, rcS, e1]
          · try simp at h12
            have h4 := hx4 (by first | exact h8 | simpa using k1) (by first | exact h10 | simpa using k2) (by first | exact h12 | simpa using k3)
            -- region 10
            refine AWp.rseq E_ok [0, 1, 2, 3, 4, 5, 7, 8, 10, 12, 14] fun K hK => ?_
            simp [encCirc_eq, encNote_eq, duS, waS, wtS, rcS, h4]
            repeat refine ⟨by first | omega | assumption | (simp only [maxLen]; omega) | (intros; omega) | decide, ?_⟩
            refine hK _ ?_
            clear hK K
            refine AWp.cond rfl (fun h14 => ?_) (fun h14 => ?_)
            · try simp at h14
              have e1 : rs = rcS := by rw [hrs, (by simpa using h4 : n.kind = 4)]; rfl
              -- region 11
              refine AWp.rend E_ok [0, 1, 2, 3, 4, 5, 7, 8, 10, 12, 14] fun K hK => ?_
              simp [encCirc_eq, encNote_eq, duS, waS, wtS, rcS, h4, e1]
              repeat refine ⟨by first | omega | assumption | (simp only [maxLen]; omega) | (intros; omega) | decide, ?_⟩
              refine hK _ ?_
              clear hK K
              repeat first | refine thenN ?_ | refine thenX ?_ | refine thenR ?_ | refine blockN ?_ | refine blockR ?_ | refine blockX ?_ | refine blockM rfl ?_
              refine ⟨(), ?_⟩
              simp [Weak, TW, encCirc_eq, encNote_eq, duS, waS, wtS, rcS, h4, e1]
            · exact absurd h14 (by simp)
    rintro ⟨⟩
    try simp only
    -- region 12, every order
    refine AWp.rseqS E_ok mixed [0, 1, 2, 3, 4, 5, 7, 8, 10, 12, 14] (n := 17) (l := #[false, false, false, false, false, false, false, false, false, false, false, false, false, false, false, false, false]) rfl (by kernel_rfl) fun K hK => ?_
    suffices hnext : K [(0, T.val (zt15x2 c)), (1, T.val (zt15x4 n)), (2, T.box (zt15x1 c)), (3, T.box (zt15x3 n)), (4, T.val (D.str (nameR c.patrons n.patron ++ (58 : UInt8) :: (32 : UInt8) :: (105 : UInt8) :: (116 : UInt8) :: (101 : UInt8) :: (109 : UInt8) :: (32 : UInt8) :: (Lib.itoa n.item ++ (rs ++ formatR n.day))))), (5, T.val (D.str rs)), (7, T.junk), (8, T.junk), (10, T.junk), (12, T.junk), (14, T.junk)] by
      refine contS.cut 0 #[true, true, true, true, true, true, true, true, true, true, true, true, true, true, true, true, true] [(0, T.val (zt15x2 c)), (1, T.val (zt15x4 n)), (2, T.box (zt15x1 c)), (3, T.box (zt15x3 n)), (4, T.val (D.str (nameR c.patrons n.patron ++ (58 : UInt8) :: (32 : UInt8) :: (105 : UInt8) :: (116 : UInt8) :: (101 : UInt8) :: (109 : UInt8) :: (32 : UInt8) :: (Lib.itoa n.item ++ (rs ++ formatR n.day))))), (5, T.val (D.str rs))] ?_ fun h_1_3_4_7_8_13_14_ => ?_
      · skip
        refine coreS.nil (by kernel_rfl) ?_
        simpa [encCirc_eq, encNote_eq, duS, waS, wtS, rcS] using hnext
      refine contS.cut 3 #[true, true, true, true, true, true, true, true, true, true, true, true, true, true, false, false, false] [(0, T.val (zt15x2 c)), (1, T.val (zt15x4 n)), (2, T.box (zt15x1 c)), (3, T.box (zt15x3 n)), (5, T.val (D.str rs)), (27, T.val (D.str (nameR c.patrons n.patron ++ (58 : UInt8) :: (32 : UInt8) :: (105 : UInt8) :: (116 : UInt8) :: (101 : UInt8) :: (109 : UInt8) :: (32 : UInt8) :: (Lib.itoa n.item ++ rs)))), (29, T.val (D.int IntKind.i64 n.day))] ?_ fun h_1_3_4_7_8_13 => ?_
      · skip
        refine coreS.step E_ok [14] (by kernel_rfl) (by simp) ?_
        refine anyS.cons rfl ?_ ?_
        · skip
          simp [encCirc_eq, encNote_eq, duS, waS, wtS, rcS]
          repeat refine ⟨by first | omega | assumption | (simp only [maxLen]; omega) | (intros; omega) | decide, ?_⟩
          refine meet.of (date_Format n.day) ?_
          simp [encCirc_eq, encNote_eq, duS, waS, wtS, rcS]
          repeat refine ⟨by first | omega | assumption | (simp only [maxLen]; omega) | (intros; omega) | decide, ?_⟩
          refine contS.now (f' := 2) (l' := #[true, true, true, true, true, true, true, true, true, true, true, true, true, true, true, false, false]) ?_ rfl (by kernel_rfl)
          refine coreS.dry E_ok (by kernel_rfl) 15 rfl rfl (by kernel_rfl) (by kernel_rfl) ?_
          simp [encCirc_eq, encNote_eq, duS, waS, wtS, rcS]
          repeat refine ⟨by first | omega | assumption | (simp only [maxLen]; omega) | (intros; omega) | decide, ?_⟩
          refine contS.now (f' := 1) (l' := #[true, true, true, true, true, true, true, true, true, true, true, true, true, true, true, true, false]) ?_ rfl (by kernel_rfl)
          refine coreS.dry E_ok (by kernel_rfl) 16 rfl rfl (by kernel_rfl) (by kernel_rfl) ?_
          simp [encCirc_eq, encNote_eq, duS, waS, wtS, rcS]
          repeat refine ⟨by first | omega | assumption | (simp only [maxLen]; omega) | (intros; omega) | decide, ?_⟩
          exact contS.mk (by simp [Weak, TW, T.plain, encCirc_eq, encNote_eq, duS, waS, wtS, rcS]) h_1_3_4_7_8_13_14_ (by kernel_rfl)
        exact anyS.nil
      refine contS.cut 4 #[true, true, true, true, true, true, true, true, true, true, true, true, true, false, false, false, false] [(0, T.val (zt15x2 c)), (1, T.val (zt15x4 n)), (2, T.box (zt15x1 c)), (3, T.box (zt15x3 n)), (5, T.val (D.str rs)), (27, T.val (D.str (nameR c.patrons n.patron ++ (58 : UInt8) :: (32 : UInt8) :: (105 : UInt8) :: (116 : UInt8) :: (101 : UInt8) :: (109 : UInt8) :: (32 : UInt8) :: (Lib.itoa n.item ++ rs)))), (28, T.ptr 3 3)] ?_ fun h_1_3_4_7_8 => ?_
      · skip
        refine coreS.step E_ok [13] (by kernel_rfl) (by simp) ?_
        refine anyS.cons rfl ?_ ?_
        · skip
          simp [encCirc_eq, encNote_eq, duS, waS, wtS, rcS]
          repeat refine ⟨by first | omega | assumption | (simp only [maxLen]; omega) | (intros; omega) | decide, ?_⟩
          exact contS.mk (by simp [Weak, TW, T.plain, encCirc_eq, encNote_eq, duS, waS, wtS, rcS]) h_1_3_4_7_8_13 (by kernel_rfl)
        exact anyS.nil
      refine contS.cut 6 #[true, true, true, true, true, true, true, true, false, false, true, false, true, true, false, false, false] [(0, T.val (zt15x2 c)), (1, T.val (zt15x4 n)), (2, T.box (zt15x1 c)), (3, T.box (zt15x3 n)), (5, T.val (D.str rs)), (21, T.val (zt15x5 c n)), (23, T.val (D.int IntKind.i64 n.item)), (26, T.val (D.str rs)), (29, T.val (D.int IntKind.i64 n.day))] ?_ fun h_1_3_4_7_13 => ?_
      · skip
        refine coreS.step E_ok [8] (by kernel_rfl) (by simp) ?_
        refine anyS.cons rfl ?_ ?_
        · skip
          simp [encCirc_eq, encNote_eq, duS, waS, wtS, rcS]
          repeat refine ⟨by first | omega | assumption | (simp only [maxLen]; omega) | (intros; omega) | decide, ?_⟩
          refine meet.of (strconv_Itoa n.item hm2.1 hm2.2) ?_
          simp [encCirc_eq, encNote_eq, duS, waS, wtS, rcS]
          repeat refine ⟨by first | omega | assumption | (simp only [maxLen]; omega) | (intros; omega) | decide, ?_⟩
          refine contS.now (f' := 5) (l' := #[true, true, true, true, true, true, true, true, true, false, true, false, true, true, false, false, false]) ?_ rfl (by kernel_rfl)
          refine coreS.dry E_ok (by kernel_rfl) 9 rfl rfl (by kernel_rfl) (by kernel_rfl) ?_
          simp [encCirc_eq, encNote_eq, duS, waS, wtS, rcS]
          repeat refine ⟨by first | omega | assumption | (simp only [maxLen]; omega) | (intros; omega) | decide, ?_⟩
          refine contS.now (f' := 4) (l' := #[true, true, true, true, true, true, true, true, true, true, true, false, true, true, false, false, false]) ?_ rfl (by kernel_rfl)
          refine coreS.dry E_ok (by kernel_rfl) 11 rfl rfl (by kernel_rfl) (by kernel_rfl) ?_
          simp [encCirc_eq, encNote_eq, duS, waS, wtS, rcS]
          repeat refine ⟨by first | omega | assumption | (simp only [maxLen]; omega) | (intros; omega) | decide, ?_⟩
          exact contS.mk (by simp [Weak, TW, T.plain, encCirc_eq, encNote_eq, duS, waS, wtS, rcS]) h_1_3_4_7_8_13 (by kernel_rfl)
        exact anyS.nil
      refine contS.cut 7 #[true, true, true, true, true, true, true, true, false, false, true, false, true, false, false, false, false] [(0, T.val (zt15x2 c)), (1, T.val (zt15x4 n)), (2, T.box (zt15x1 c)), (3, T.box (zt15x3 n)), (5, T.val (D.str rs)), (21, T.val (zt15x5 c n)), (23, T.val (D.int IntKind.i64 n.item)), (26, T.val (D.str rs)), (28, T.ptr 3 3)] ?_ fun h_1_3_4_7 => ?_
      · skip
        refine coreS.step E_ok [8, 13] (by kernel_rfl) (by simp) ?_
        refine anyS.cons rfl ?_ ?_
        · skip
          simp [encCirc_eq, encNote_eq, duS, waS, wtS, rcS]
          repeat refine ⟨by first | omega | assumption | (simp only [maxLen]; omega) | (intros; omega) | decide, ?_⟩
          refine meet.of (strconv_Itoa n.item hm2.1 hm2.2) ?_
          simp [encCirc_eq, encNote_eq, duS, waS, wtS, rcS]
          repeat refine ⟨by first | omega | assumption | (simp only [maxLen]; omega) | (intros; omega) | decide, ?_⟩
          refine contS.now (f' := 6) (l' := #[true, true, true, true, true, true, true, true, true, false, true, false, true, false, false, false, false]) ?_ rfl (by kernel_rfl)
          refine coreS.dry E_ok (by kernel_rfl) 9 rfl rfl (by kernel_rfl) (by kernel_rfl) ?_
          simp [encCirc_eq, encNote_eq, duS, waS, wtS, rcS]
          repeat refine ⟨by first | omega | assumption | (simp only [maxLen]; omega) | (intros; omega) | decide, ?_⟩
          refine contS.now (f' := 5) (l' := #[true, true, true, true, true, true, true, true, true, true, true, false, true, false, false, false, false]) ?_ rfl (by kernel_rfl)
          refine coreS.dry E_ok (by kernel_rfl) 11 rfl rfl (by kernel_rfl) (by kernel_rfl) ?_
          simp [encCirc_eq, encNote_eq, duS, waS, wtS, rcS]
          repeat refine ⟨by first | omega | assumption | (simp only [maxLen]; omega) | (intros; omega) | decide, ?_⟩
          exact contS.mk (by simp [Weak, TW, T.plain, encCirc_eq, encNote_eq, duS, waS, wtS, rcS]) h_1_3_4_7_8 (by kernel_rfl)
        refine anyS.cons rfl ?_ ?_
        · skip
          simp [encCirc_eq, encNote_eq, duS, waS, wtS, rcS]
          repeat refine ⟨by first | omega | assumption | (simp only [maxLen]; omega) | (intros; omega) | decide, ?_⟩
          exact contS.mk (by simp [Weak, TW, T.plain, encCirc_eq, encNote_eq, duS, waS, wtS, rcS]) h_1_3_4_7_13 (by kernel_rfl)
        exact anyS.nil
      refine contS.cut 7 #[true, true, true, true, true, true, true, false, false, false, true, false, true, true, false, false, false] [(0, T.val (zt15x2 c)), (1, T.val (zt15x4 n)), (2, T.box (zt15x1 c)), (3, T.box (zt15x3 n)), (5, T.val (D.str rs)), (21, T.val (zt15x5 c n)), (22, T.ptr 3 2), (26, T.val (D.str rs)), (29, T.val (D.int IntKind.i64 n.day))] ?_ fun h_1_3_4_13 => ?_
      · skip
        refine coreS.step E_ok [7] (by kernel_rfl) (by simp) ?_
        refine anyS.cons rfl ?_ ?_
        · skip
          simp [encCirc_eq, encNote_eq, duS, waS, wtS, rcS]
          repeat refine ⟨by first | omega | assumption | (simp only [maxLen]; omega) | (intros; omega) | decide, ?_⟩
          exact contS.mk (by simp [Weak, TW, T.plain, encCirc_eq, encNote_eq, duS, waS, wtS, rcS]) h_1_3_4_7_13 (by kernel_rfl)
        exact anyS.nil
      refine contS.cut 8 #[true, true, true, true, true, true, true, false, false, false, true, false, true, false, false, false, false] [(0, T.val (zt15x2 c)), (1, T.val (zt15x4 n)), (2, T.box (zt15x1 c)), (3, T.box (zt15x3 n)), (5, T.val (D.str rs)), (21, T.val (zt15x5 c n)), (22, T.ptr 3 2), (26, T.val (D.str rs)), (28, T.ptr 3 3)] ?_ fun h_1_3_4 => ?_
      · skip
        refine coreS.step E_ok [7, 13] (by kernel_rfl) (by simp) ?_
        refine anyS.cons rfl ?_ ?_
        · skip
          simp [encCirc_eq, encNote_eq, duS, waS, wtS, rcS]
          repeat refine ⟨by first | omega | assumption | (simp only [maxLen]; omega) | (intros; omega) | decide, ?_⟩
          exact contS.mk (by simp [Weak, TW, T.plain, encCirc_eq, encNote_eq, duS, waS, wtS, rcS]) h_1_3_4_7 (by kernel_rfl)
        refine anyS.cons rfl ?_ ?_
        · skip
          simp [encCirc_eq, encNote_eq, duS, waS, wtS, rcS]
          repeat refine ⟨by first | omega | assumption | (simp only [maxLen]; omega) | (intros; omega) | decide, ?_⟩
          exact contS.mk (by simp [Weak, TW, T.plain, encCirc_eq, encNote_eq, duS, waS, wtS, rcS]) h_1_3_4_13 (by kernel_rfl)
        exact anyS.nil
      refine contS.cut 8 #[true, true, true, true, false, false, true, true, false, false, true, false, true, true, false, false, false] [(0, T.val (zt15x2 c)), (1, T.val (zt15x4 n)), (2, T.box (zt15x1 c)), (3, T.box (zt15x3 n)), (5, T.val (D.str rs)), (17, T.val (encPatrs c.patrons)), (19, T.val (D.int IntKind.i64 n.patron)), (23, T.val (D.int IntKind.i64 n.item)), (26, T.val (D.str rs)), (29, T.val (D.int IntKind.i64 n.day))] ?_ fun h_1_3_7_13 => ?_
      · skip
        refine coreS.step E_ok [4] (by kernel_rfl) (by simp) ?_
        refine anyS.cons rfl ?_ ?_
        · skip
          simp [encCirc_eq, encNote_eq, duS, waS, wtS, rcS]
          repeat refine ⟨by first | omega | assumption | (simp only [maxLen]; omega) | (intros; omega) | decide, ?_⟩
          refine meet.of (notice_name c.patrons n.patron) ?_
          simp [encCirc_eq, encNote_eq, duS, waS, wtS, rcS]
          repeat refine ⟨by first | omega | assumption | (simp only [maxLen]; omega) | (intros; omega) | decide, ?_⟩
          refine contS.now (f' := 7) (l' := #[true, true, true, true, true, false, true, true, false, false, true, false, true, true, false, false, false]) ?_ rfl (by kernel_rfl)
          refine coreS.dry E_ok (by kernel_rfl) 5 rfl rfl (by kernel_rfl) (by kernel_rfl) ?_
          simp [encCirc_eq, encNote_eq, duS, waS, wtS, rcS]
          repeat refine ⟨by first | omega | assumption | (simp only [maxLen]; omega) | (intros; omega) | decide, ?_⟩
          exact contS.mk (by simp [Weak, TW, T.plain, encCirc_eq, encNote_eq, duS, waS, wtS, rcS]) h_1_3_4_7_13 (by kernel_rfl)
        exact anyS.nil
      refine contS.cut 9 #[true, true, true, true, false, false, true, true, false, false, true, false, true, false, false, false, false] [(0, T.val (zt15x2 c)), (1, T.val (zt15x4 n)), (2, T.box (zt15x1 c)), (3, T.box (zt15x3 n)), (5, T.val (D.str rs)), (17, T.val (encPatrs c.patrons)), (19, T.val (D.int IntKind.i64 n.patron)), (23, T.val (D.int IntKind.i64 n.item)), (26, T.val (D.str rs)), (28, T.ptr 3 3)] ?_ fun h_1_3_7 => ?_
      · skip
        refine coreS.step E_ok [4, 13] (by kernel_rfl) (by simp) ?_
        refine anyS.cons rfl ?_ ?_
        · skip
          simp [encCirc_eq, encNote_eq, duS, waS, wtS, rcS]
          repeat refine ⟨by first | omega | assumption | (simp only [maxLen]; omega) | (intros; omega) | decide, ?_⟩
          refine meet.of (notice_name c.patrons n.patron) ?_
          simp [encCirc_eq, encNote_eq, duS, waS, wtS, rcS]
          repeat refine ⟨by first | omega | assumption | (simp only [maxLen]; omega) | (intros; omega) | decide, ?_⟩
          refine contS.now (f' := 8) (l' := #[true, true, true, true, true, false, true, true, false, false, true, false, true, false, false, false, false]) ?_ rfl (by kernel_rfl)
          refine coreS.dry E_ok (by kernel_rfl) 5 rfl rfl (by kernel_rfl) (by kernel_rfl) ?_
          simp [encCirc_eq, encNote_eq, duS, waS, wtS, rcS]
          repeat refine ⟨by first | omega | assumption | (simp only [maxLen]; omega) | (intros; omega) | decide, ?_⟩
          exact contS.mk (by simp [Weak, TW, T.plain, encCirc_eq, encNote_eq, duS, waS, wtS, rcS]) h_1_3_4_7 (by kernel_rfl)
        refine anyS.cons rfl ?_ ?_
        · skip
          simp [encCirc_eq, encNote_eq, duS, waS, wtS, rcS]
          repeat refine ⟨by first | omega | assumption | (simp only [maxLen]; omega) | (intros; omega) | decide, ?_⟩
          exact contS.mk (by simp [Weak, TW, T.plain, encCirc_eq, encNote_eq, duS, waS, wtS, rcS]) h_1_3_7_13 (by kernel_rfl)
        exact anyS.nil
      refine contS.cut 9 #[true, true, true, true, false, false, true, false, false, false, true, false, true, true, false, false, false] [(0, T.val (zt15x2 c)), (1, T.val (zt15x4 n)), (2, T.box (zt15x1 c)), (3, T.box (zt15x3 n)), (5, T.val (D.str rs)), (17, T.val (encPatrs c.patrons)), (19, T.val (D.int IntKind.i64 n.patron)), (22, T.ptr 3 2), (26, T.val (D.str rs)), (29, T.val (D.int IntKind.i64 n.day))] ?_ fun h_1_3_13 => ?_
      · skip
        refine coreS.step E_ok [4, 7] (by kernel_rfl) (by simp) ?_
        refine anyS.cons rfl ?_ ?_
        · skip
          simp [encCirc_eq, encNote_eq, duS, waS, wtS, rcS]
          repeat refine ⟨by first | omega | assumption | (simp only [maxLen]; omega) | (intros; omega) | decide, ?_⟩
          refine meet.of (notice_name c.patrons n.patron) ?_
          simp [encCirc_eq, encNote_eq, duS, waS, wtS, rcS]
          repeat refine ⟨by first | omega | assumption | (simp only [maxLen]; omega) | (intros; omega) | decide, ?_⟩
          refine contS.now (f' := 8) (l' := #[true, true, true, true, true, false, true, false, false, false, true, false, true, true, false, false, false]) ?_ rfl (by kernel_rfl)
          refine coreS.dry E_ok (by kernel_rfl) 5 rfl rfl (by kernel_rfl) (by kernel_rfl) ?_
          simp [encCirc_eq, encNote_eq, duS, waS, wtS, rcS]
          repeat refine ⟨by first | omega | assumption | (simp only [maxLen]; omega) | (intros; omega) | decide, ?_⟩
          exact contS.mk (by simp [Weak, TW, T.plain, encCirc_eq, encNote_eq, duS, waS, wtS, rcS]) h_1_3_4_13 (by kernel_rfl)
        refine anyS.cons rfl ?_ ?_
        · skip
          simp [encCirc_eq, encNote_eq, duS, waS, wtS, rcS]
          repeat refine ⟨by first | omega | assumption | (simp only [maxLen]; omega) | (intros; omega) | decide, ?_⟩
          exact contS.mk (by simp [Weak, TW, T.plain, encCirc_eq, encNote_eq, duS, waS, wtS, rcS]) h_1_3_7_13 (by kernel_rfl)
        exact anyS.nil
      refine contS.cut 9 #[true, true, true, false, false, false, true, true, false, false, true, false, true, true, false, false, false] [(0, T.val (zt15x2 c)), (1, T.val (zt15x4 n)), (2, T.box (zt15x1 c)), (3, T.box (zt15x3 n)), (5, T.val (D.str rs)), (17, T.val (encPatrs c.patrons)), (18, T.ptr 3 1), (23, T.val (D.int IntKind.i64 n.item)), (26, T.val (D.str rs)), (29, T.val (D.int IntKind.i64 n.day))] ?_ fun h_1_7_13 => ?_
      · skip
        refine coreS.step E_ok [3] (by kernel_rfl) (by simp) ?_
        refine anyS.cons rfl ?_ ?_
        · skip
          simp [encCirc_eq, encNote_eq, duS, waS, wtS, rcS]
          repeat refine ⟨by first | omega | assumption | (simp only [maxLen]; omega) | (intros; omega) | decide, ?_⟩
          exact contS.mk (by simp [Weak, TW, T.plain, encCirc_eq, encNote_eq, duS, waS, wtS, rcS]) h_1_3_7_13 (by kernel_rfl)
        exact anyS.nil
      refine contS.cut 9 #[true, false, true, true, false, false, true, true, false, false, true, false, true, true, false, false, false] [(0, T.val (zt15x2 c)), (1, T.val (zt15x4 n)), (2, T.box (zt15x1 c)), (3, T.box (zt15x3 n)), (5, T.val (D.str rs)), (16, T.ptr 2 2), (19, T.val (D.int IntKind.i64 n.patron)), (23, T.val (D.int IntKind.i64 n.item)), (26, T.val (D.str rs)), (29, T.val (D.int IntKind.i64 n.day))] ?_ fun h_3_7_13 => ?_
      · skip
        refine coreS.step E_ok [1] (by kernel_rfl) (by simp) ?_
        refine anyS.cons rfl ?_ ?_
        · skip
          simp [encCirc_eq, encNote_eq, duS, waS, wtS, rcS]
          repeat refine ⟨by first | omega | assumption | (simp only [maxLen]; omega) | (intros; omega) | decide, ?_⟩
          exact contS.mk (by simp [Weak, TW, T.plain, encCirc_eq, encNote_eq, duS, waS, wtS, rcS]) h_1_3_7_13 (by kernel_rfl)
        exact anyS.nil
      refine contS.cut 10 #[true, true, true, true, false, false, true, false, false, false, true, false, true, false, false, false, false] [(0, T.val (zt15x2 c)), (1, T.val (zt15x4 n)), (2, T.box (zt15x1 c)), (3, T.box (zt15x3 n)), (5, T.val (D.str rs)), (17, T.val (encPatrs c.patrons)), (19, T.val (D.int IntKind.i64 n.patron)), (22, T.ptr 3 2), (26, T.val (D.str rs)), (28, T.ptr 3 3)] ?_ fun h_1_3 => ?_
      · skip
        refine coreS.step E_ok [4, 7, 13] (by kernel_rfl) (by simp) ?_
        refine anyS.cons rfl ?_ ?_
        · skip
          simp [encCirc_eq, encNote_eq, duS, waS, wtS, rcS]
          repeat refine ⟨by first | omega | assumption | (simp only [maxLen]; omega) | (intros; omega) | decide, ?_⟩
          refine meet.of (notice_name c.patrons n.patron) ?_
          simp [encCirc_eq, encNote_eq, duS, waS, wtS, rcS]
          repeat refine ⟨by first | omega | assumption | (simp only [maxLen]; omega) | (intros; omega) | decide, ?_⟩
          refine contS.now (f' := 9) (l' := #[true, true, true, true, true, false, true, false, false, false, true, false, true, false, false, false, false]) ?_ rfl (by kernel_rfl)
          refine coreS.dry E_ok (by kernel_rfl) 5 rfl rfl (by kernel_rfl) (by kernel_rfl) ?_
          simp [encCirc_eq, encNote_eq, duS, waS, wtS, rcS]
          repeat refine ⟨by first | omega | assumption | (simp only [maxLen]; omega) | (intros; omega) | decide, ?_⟩
          exact contS.mk (by simp [Weak, TW, T.plain, encCirc_eq, encNote_eq, duS, waS, wtS, rcS]) h_1_3_4 (by kernel_rfl)
        refine anyS.cons rfl ?_ ?_
        · skip
          simp [encCirc_eq, encNote_eq, duS, waS, wtS, rcS]
          repeat refine ⟨by first | omega | assumption | (simp only [maxLen]; omega) | (intros; omega) | decide, ?_⟩
          exact contS.mk (by simp [Weak, TW, T.plain, encCirc_eq, encNote_eq, duS, waS, wtS, rcS]) h_1_3_7 (by kernel_rfl)
        refine anyS.cons rfl ?_ ?_
        · skip
          simp [encCirc_eq, encNote_eq, duS, waS, wtS, rcS]
          repeat refine ⟨by first | omega | assumption | (simp only [maxLen]; omega) | (intros; omega) | decide, ?_⟩
          exact contS.mk (by simp [Weak, TW, T.plain, encCirc_eq, encNote_eq, duS, waS, wtS, rcS]) h_1_3_13 (by kernel_rfl)
        exact anyS.nil
      refine contS.cut 10 #[true, true, true, false, false, false, true, true, false, false, true, false, true, false, false, false, false] [(0, T.val (zt15x2 c)), (1, T.val (zt15x4 n)), (2, T.box (zt15x1 c)), (3, T.box (zt15x3 n)), (5, T.val (D.str rs)), (17, T.val (encPatrs c.patrons)), (18, T.ptr 3 1), (23, T.val (D.int IntKind.i64 n.item)), (26, T.val (D.str rs)), (28, T.ptr 3 3)] ?_ fun h_1_7 => ?_
      · skip
        refine coreS.step E_ok [3, 13] (by kernel_rfl) (by simp) ?_
        refine anyS.cons rfl ?_ ?_
        · skip
          simp [encCirc_eq, encNote_eq, duS, waS, wtS, rcS]
          repeat refine ⟨by first | omega | assumption | (simp only [maxLen]; omega) | (intros; omega) | decide, ?_⟩
          exact contS.mk (by simp [Weak, TW, T.plain, encCirc_eq, encNote_eq, duS, waS, wtS, rcS]) h_1_3_7 (by kernel_rfl)
        refine anyS.cons rfl ?_ ?_
        · skip
          simp [encCirc_eq, encNote_eq, duS, waS, wtS, rcS]
          repeat refine ⟨by first | omega | assumption | (simp only [maxLen]; omega) | (intros; omega) | decide, ?_⟩
          exact contS.mk (by simp [Weak, TW, T.plain, encCirc_eq, encNote_eq, duS, waS, wtS, rcS]) h_1_7_13 (by kernel_rfl)
        exact anyS.nil
      refine contS.cut 10 #[true, true, true, false, false, false, true, false, false, false, true, false, true, true, false, false, false] [(0, T.val (zt15x2 c)), (1, T.val (zt15x4 n)), (2, T.box (zt15x1 c)), (3, T.box (zt15x3 n)), (5, T.val (D.str rs)), (17, T.val (encPatrs c.patrons)), (18, T.ptr 3 1), (22, T.ptr 3 2), (26, T.val (D.str rs)), (29, T.val (D.int IntKind.i64 n.day))] ?_ fun h_1_13 => ?_
      · skip
        refine coreS.step E_ok [3, 7] (by kernel_rfl) (by simp) ?_
        refine anyS.cons rfl ?_ ?_
        · skip
          simp [encCirc_eq, encNote_eq, duS, waS, wtS, rcS]
          repeat refine ⟨by first | omega | assumption | (simp only [maxLen]; omega) | (intros; omega) | decide, ?_⟩
          exact contS.mk (by simp [Weak, TW, T.plain, encCirc_eq, encNote_eq, duS, waS, wtS, rcS]) h_1_3_13 (by kernel_rfl)
        refine anyS.cons rfl ?_ ?_
        · skip
          simp [encCirc_eq, encNote_eq, duS, waS, wtS, rcS]
          repeat refine ⟨by first | omega | assumption | (simp only [maxLen]; omega) | (intros; omega) | decide, ?_⟩
          exact contS.mk (by simp [Weak, TW, T.plain, encCirc_eq, encNote_eq, duS, waS, wtS, rcS]) h_1_7_13 (by kernel_rfl)
        exact anyS.nil
      refine contS.cut 10 #[true, false, true, true, false, false, true, true, false, false, true, false, true, false, false, false, false] [(0, T.val (zt15x2 c)), (1, T.val (zt15x4 n)), (2, T.box (zt15x1 c)), (3, T.box (zt15x3 n)), (5, T.val (D.str rs)), (16, T.ptr 2 2), (19, T.val (D.int IntKind.i64 n.patron)), (23, T.val (D.int IntKind.i64 n.item)), (26, T.val (D.str rs)), (28, T.ptr 3 3)] ?_ fun h_3_7 => ?_
      · skip
        refine coreS.step E_ok [1, 13] (by kernel_rfl) (by simp) ?_
        refine anyS.cons rfl ?_ ?_
        · skip
          simp [encCirc_eq, encNote_eq, duS, waS, wtS, rcS]
          repeat refine ⟨by first | omega | assumption | (simp only [maxLen]; omega) | (intros; omega) | decide, ?_⟩
          exact contS.mk (by simp [Weak, TW, T.plain, encCirc_eq, encNote_eq, duS, waS, wtS, rcS]) h_1_3_7 (by kernel_rfl)
        refine anyS.cons rfl ?_ ?_
        · skip
          simp [encCirc_eq, encNote_eq, duS, waS, wtS, rcS]
          repeat refine ⟨by first | omega | assumption | (simp only [maxLen]; omega) | (intros; omega) | decide, ?_⟩
          exact contS.mk (by simp [Weak, TW, T.plain, encCirc_eq, encNote_eq, duS, waS, wtS, rcS]) h_3_7_13 (by kernel_rfl)
        exact anyS.nil
      refine contS.cut 10 #[true, false, true, true, false, false, true, false, false, false, true, false, true, true, false, false, false] [(0, T.val (zt15x2 c)), (1, T.val (zt15x4 n)), (2, T.box (zt15x1 c)), (3, T.box (zt15x3 n)), (5, T.val (D.str rs)), (16, T.ptr 2 2), (19, T.val (D.int IntKind.i64 n.patron)), (22, T.ptr 3 2), (26, T.val (D.str rs)), (29, T.val (D.int IntKind.i64 n.day))] ?_ fun h_3_13 => ?_
      · skip
        refine coreS.step E_ok [1, 7] (by kernel_rfl) (by simp) ?_
        refine anyS.cons rfl ?_ ?_
        · skip
          simp [encCirc_eq, encNote_eq, duS, waS, wtS, rcS]
          repeat refine ⟨by first | omega | assumption | (simp only [maxLen]; omega) | (intros; omega) | decide, ?_⟩
          exact contS.mk (by simp [Weak, TW, T.plain, encCirc_eq, encNote_eq, duS, waS, wtS, rcS]) h_1_3_13 (by kernel_rfl)
        refine anyS.cons rfl ?_ ?_
        · skip
          simp [encCirc_eq, encNote_eq, duS, waS, wtS, rcS]
          repeat refine ⟨by first | omega | assumption | (simp only [maxLen]; omega) | (intros; omega) | decide, ?_⟩
          exact contS.mk (by simp [Weak, TW, T.plain, encCirc_eq, encNote_eq, duS, waS, wtS, rcS]) h_3_7_13 (by kernel_rfl)
        exact anyS.nil
      refine contS.cut 10 #[true, false, true, false, false, false, true, true, false, false, true, false, true, true, false, false, false] [(0, T.val (zt15x2 c)), (1, T.val (zt15x4 n)), (2, T.box (zt15x1 c)), (3, T.box (zt15x3 n)), (5, T.val (D.str rs)), (16, T.ptr 2 2), (18, T.ptr 3 1), (23, T.val (D.int IntKind.i64 n.item)), (26, T.val (D.str rs)), (29, T.val (D.int IntKind.i64 n.day))] ?_ fun h_7_13 => ?_
      · skip
        refine coreS.step E_ok [1, 3] (by kernel_rfl) (by simp) ?_
        refine anyS.cons rfl ?_ ?_
        · skip
          simp [encCirc_eq, encNote_eq, duS, waS, wtS, rcS]
          repeat refine ⟨by first | omega | assumption | (simp only [maxLen]; omega) | (intros; omega) | decide, ?_⟩
          exact contS.mk (by simp [Weak, TW, T.plain, encCirc_eq, encNote_eq, duS, waS, wtS, rcS]) h_1_7_13 (by kernel_rfl)
        refine anyS.cons rfl ?_ ?_
        · skip
          simp [encCirc_eq, encNote_eq, duS, waS, wtS, rcS]
          repeat refine ⟨by first | omega | assumption | (simp only [maxLen]; omega) | (intros; omega) | decide, ?_⟩
          exact contS.mk (by simp [Weak, TW, T.plain, encCirc_eq, encNote_eq, duS, waS, wtS, rcS]) h_3_7_13 (by kernel_rfl)
        exact anyS.nil
      refine contS.cut 11 #[true, true, true, false, false, false, true, false, false, false, true, false, true, false, false, false, false] [(0, T.val (zt15x2 c)), (1, T.val (zt15x4 n)), (2, T.box (zt15x1 c)), (3, T.box (zt15x3 n)), (5, T.val (D.str rs)), (17, T.val (encPatrs c.patrons)), (18, T.ptr 3 1), (22, T.ptr 3 2), (26, T.val (D.str rs)), (28, T.ptr 3 3)] ?_ fun h_1 => ?_
      · skip
        refine coreS.step E_ok [3, 7, 13] (by kernel_rfl) (by simp) ?_
        refine anyS.cons rfl ?_ ?_
        · skip
          simp [encCirc_eq, encNote_eq, duS, waS, wtS, rcS]
          repeat refine ⟨by first | omega | assumption | (simp only [maxLen]; omega) | (intros; omega) | decide, ?_⟩
          exact contS.mk (by simp [Weak, TW, T.plain, encCirc_eq, encNote_eq, duS, waS, wtS, rcS]) h_1_3 (by kernel_rfl)
        refine anyS.cons rfl ?_ ?_
        · skip
          simp [encCirc_eq, encNote_eq, duS, waS, wtS, rcS]
          repeat refine ⟨by first | omega | assumption | (simp only [maxLen]; omega) | (intros; omega) | decide, ?_⟩
          exact contS.mk (by simp [Weak, TW, T.plain, encCirc_eq, encNote_eq, duS, waS, wtS, rcS]) h_1_7 (by kernel_rfl)
        refine anyS.cons rfl ?_ ?_
        · skip
          simp [encCirc_eq, encNote_eq, duS, waS, wtS, rcS]
          repeat refine ⟨by first | omega | assumption | (simp only [maxLen]; omega) | (intros; omega) | decide, ?_⟩
          exact contS.mk (by simp [Weak, TW, T.plain, encCirc_eq, encNote_eq, duS, waS, wtS, rcS]) h_1_13 (by kernel_rfl)
        exact anyS.nil
      refine contS.cut 11 #[true, false, true, true, false, false, true, false, false, false, true, false, true, false, false, false, false] [(0, T.val (zt15x2 c)), (1, T.val (zt15x4 n)), (2, T.box (zt15x1 c)), (3, T.box (zt15x3 n)), (5, T.val (D.str rs)), (16, T.ptr 2 2), (19, T.val (D.int IntKind.i64 n.patron)), (22, T.ptr 3 2), (26, T.val (D.str rs)), (28, T.ptr 3 3)] ?_ fun h_3 => ?_
      · skip
        refine coreS.step E_ok [1, 7, 13] (by kernel_rfl) (by simp) ?_
        refine anyS.cons rfl ?_ ?_
        · skip
          simp [encCirc_eq, encNote_eq, duS, waS, wtS, rcS]
          repeat refine ⟨by first | omega | assumption | (simp only [maxLen]; omega) | (intros; omega) | decide, ?_⟩
          exact contS.mk (by simp [Weak, TW, T.plain, encCirc_eq, encNote_eq, duS, waS, wtS, rcS]) h_1_3 (by kernel_rfl)
        refine anyS.cons rfl ?_ ?_
        · skip
          simp [encCirc_eq, encNote_eq, duS, waS, wtS, rcS]
          repeat refine ⟨by first | omega | assumption | (simp only [maxLen]; omega) | (intros; omega) | decide, ?_⟩
          exact contS.mk (by simp [Weak, TW, T.plain, encCirc_eq, encNote_eq, duS, waS, wtS, rcS]) h_3_7 (by kernel_rfl)
        refine anyS.cons rfl ?_ ?_
        · skip
          simp [encCirc_eq, encNote_eq, duS, waS, wtS, rcS]
          repeat refine ⟨by first | omega | assumption | (simp only [maxLen]; omega) | (intros; omega) | decide, ?_⟩
          exact contS.mk (by simp [Weak, TW, T.plain, encCirc_eq, encNote_eq, duS, waS, wtS, rcS]) h_3_13 (by kernel_rfl)
        exact anyS.nil
      refine contS.cut 11 #[true, false, true, false, false, false, true, true, false, false, true, false, true, false, false, false, false] [(0, T.val (zt15x2 c)), (1, T.val (zt15x4 n)), (2, T.box (zt15x1 c)), (3, T.box (zt15x3 n)), (5, T.val (D.str rs)), (16, T.ptr 2 2), (18, T.ptr 3 1), (23, T.val (D.int IntKind.i64 n.item)), (26, T.val (D.str rs)), (28, T.ptr 3 3)] ?_ fun h_7 => ?_
      · skip
        refine coreS.step E_ok [1, 3, 13] (by kernel_rfl) (by simp) ?_
        refine anyS.cons rfl ?_ ?_
        · skip
          simp [encCirc_eq, encNote_eq, duS, waS, wtS, rcS]
          repeat refine ⟨by first | omega | assumption | (simp only [maxLen]; omega) | (intros; omega) | decide, ?_⟩
          exact contS.mk (by simp [Weak, TW, T.plain, encCirc_eq, encNote_eq, duS, waS, wtS, rcS]) h_1_7 (by kernel_rfl)
        refine anyS.cons rfl ?_ ?_
        · skip
          simp [encCirc_eq, encNote_eq, duS, waS, wtS, rcS]
          repeat refine ⟨by first | omega | assumption | (simp only [maxLen]; omega) | (intros; omega) | decide, ?_⟩
          exact contS.mk (by simp [Weak, TW, T.plain, encCirc_eq, encNote_eq, duS, waS, wtS, rcS]) h_3_7 (by kernel_rfl)
        refine anyS.cons rfl ?_ ?_
        · skip
          simp [encCirc_eq, encNote_eq, duS, waS, wtS, rcS]
          repeat refine ⟨by first | omega | assumption | (simp only [maxLen]; omega) | (intros; omega) | decide, ?_⟩
          exact contS.mk (by simp [Weak, TW, T.plain, encCirc_eq, encNote_eq, duS, waS, wtS, rcS]) h_7_13 (by kernel_rfl)
        exact anyS.nil
      refine contS.cut 11 #[true, false, true, false, false, false, true, false, false, false, true, false, true, true, false, false, false] [(0, T.val (zt15x2 c)), (1, T.val (zt15x4 n)), (2, T.box (zt15x1 c)), (3, T.box (zt15x3 n)), (5, T.val (D.str rs)), (16, T.ptr 2 2), (18, T.ptr 3 1), (22, T.ptr 3 2), (26, T.val (D.str rs)), (29, T.val (D.int IntKind.i64 n.day))] ?_ fun h_13 => ?_
      · skip
        refine coreS.step E_ok [1, 3, 7] (by kernel_rfl) (by simp) ?_
        refine anyS.cons rfl ?_ ?_
        · skip
          simp [encCirc_eq, encNote_eq, duS, waS, wtS, rcS]
          repeat refine ⟨by first | omega | assumption | (simp only [maxLen]; omega) | (intros; omega) | decide, ?_⟩
          exact contS.mk (by simp [Weak, TW, T.plain, encCirc_eq, encNote_eq, duS, waS, wtS, rcS]) h_1_13 (by kernel_rfl)
        refine anyS.cons rfl ?_ ?_
        · skip
          simp [encCirc_eq, encNote_eq, duS, waS, wtS, rcS]
          repeat refine ⟨by first | omega | assumption | (simp only [maxLen]; omega) | (intros; omega) | decide, ?_⟩
          exact contS.mk (by simp [Weak, TW, T.plain, encCirc_eq, encNote_eq, duS, waS, wtS, rcS]) h_3_13 (by kernel_rfl)
        refine anyS.cons rfl ?_ ?_
        · skip
          simp [encCirc_eq, encNote_eq, duS, waS, wtS, rcS]
          repeat refine ⟨by first | omega | assumption | (simp only [maxLen]; omega) | (intros; omega) | decide, ?_⟩
          exact contS.mk (by simp [Weak, TW, T.plain, encCirc_eq, encNote_eq, duS, waS, wtS, rcS]) h_7_13 (by kernel_rfl)
        exact anyS.nil
      refine contS.cut 12 #[true, false, true, false, false, false, true, false, false, false, true, false, true, false, false, false, false] [(0, T.val (zt15x2 c)), (1, T.val (zt15x4 n)), (2, T.box (zt15x1 c)), (3, T.box (zt15x3 n)), (5, T.val (D.str rs)), (16, T.ptr 2 2), (18, T.ptr 3 1), (22, T.ptr 3 2), (26, T.val (D.str rs)), (28, T.ptr 3 3)] ?_ fun h_ => ?_
      · skip
        refine coreS.step E_ok [1, 3, 7, 13] (by kernel_rfl) (by simp) ?_
        refine anyS.cons rfl ?_ ?_
        · skip
          simp [encCirc_eq, encNote_eq, duS, waS, wtS, rcS]
          repeat refine ⟨by first | omega | assumption | (simp only [maxLen]; omega) | (intros; omega) | decide, ?_⟩
          exact contS.mk (by simp [Weak, TW, T.plain, encCirc_eq, encNote_eq, duS, waS, wtS, rcS]) h_1 (by kernel_rfl)
        refine anyS.cons rfl ?_ ?_
        · skip
          simp [encCirc_eq, encNote_eq, duS, waS, wtS, rcS]
          repeat refine ⟨by first | omega | assumption | (simp only [maxLen]; omega) | (intros; omega) | decide, ?_⟩
          exact contS.mk (by simp [Weak, TW, T.plain, encCirc_eq, encNote_eq, duS, waS, wtS, rcS]) h_3 (by kernel_rfl)
        refine anyS.cons rfl ?_ ?_
        · skip
          simp [encCirc_eq, encNote_eq, duS, waS, wtS, rcS]
          repeat refine ⟨by first | omega | assumption | (simp only [maxLen]; omega) | (intros; omega) | decide, ?_⟩
          exact contS.mk (by simp [Weak, TW, T.plain, encCirc_eq, encNote_eq, duS, waS, wtS, rcS]) h_7 (by kernel_rfl)
        refine anyS.cons rfl ?_ ?_
        · skip
          simp [encCirc_eq, encNote_eq, duS, waS, wtS, rcS]
          repeat refine ⟨by first | omega | assumption | (simp only [maxLen]; omega) | (intros; omega) | decide, ?_⟩
          exact contS.mk (by simp [Weak, TW, T.plain, encCirc_eq, encNote_eq, duS, waS, wtS, rcS]) h_13 (by kernel_rfl)
        exact anyS.nil
      refine contS.now (f' := 17) (l' := #[false, false, false, false, false, false, false, false, false, false, false, false, false, false, false, false, false]) ?_ rfl (by kernel_rfl)
      refine coreS.dry E_ok (by kernel_rfl) 0 rfl rfl (by kernel_rfl) (by kernel_rfl) ?_
      simp [encCirc_eq, encNote_eq, duS, waS, wtS, rcS]
      repeat refine ⟨by first | omega | assumption | (simp only [maxLen]; omega) | (intros; omega) | decide, ?_⟩
      refine contS.now (f' := 16) (l' := #[true, false, false, false, false, false, false, false, false, false, false, false, false, false, false, false, false]) ?_ rfl (by kernel_rfl)
      refine coreS.dry E_ok (by kernel_rfl) 2 rfl rfl (by kernel_rfl) (by kernel_rfl) ?_
      simp [encCirc_eq, encNote_eq, duS, waS, wtS, rcS]
      repeat refine ⟨by first | omega | assumption | (simp only [maxLen]; omega) | (intros; omega) | decide, ?_⟩
      refine contS.now (f' := 15) (l' := #[true, false, true, false, false, false, false, false, false, false, false, false, false, false, false, false, false]) ?_ rfl (by kernel_rfl)
      refine coreS.dry E_ok (by kernel_rfl) 6 rfl rfl (by kernel_rfl) (by kernel_rfl) ?_
      simp [encCirc_eq, encNote_eq, duS, waS, wtS, rcS]
      repeat refine ⟨by first | omega | assumption | (simp only [maxLen]; omega) | (intros; omega) | decide, ?_⟩
      refine contS.now (f' := 14) (l' := #[true, false, true, false, false, false, true, false, false, false, false, false, false, false, false, false, false]) ?_ rfl (by kernel_rfl)
      refine coreS.dry E_ok (by kernel_rfl) 10 rfl rfl (by kernel_rfl) (by kernel_rfl) ?_
      simp [encCirc_eq, encNote_eq, duS, waS, wtS, rcS]
      repeat refine ⟨by first | omega | assumption | (simp only [maxLen]; omega) | (intros; omega) | decide, ?_⟩
      refine contS.now (f' := 13) (l' := #[true, false, true, false, false, false, true, false, false, false, true, false, false, false, false, false, false]) ?_ rfl (by kernel_rfl)
      refine coreS.dry E_ok (by kernel_rfl) 12 rfl rfl (by kernel_rfl) (by kernel_rfl) ?_
      simp [encCirc_eq, encNote_eq, duS, waS, wtS, rcS]
      repeat refine ⟨by first | omega | assumption | (simp only [maxLen]; omega) | (intros; omega) | decide, ?_⟩
      exact contS.mk (by simp [Weak, TW, T.plain, encCirc_eq, encNote_eq, duS, waS, wtS, rcS]) h_ (by kernel_rfl)
    refine hK _ ?_
    clear hK K
    refine AWp.ret ?_
    repeat first | refine thenN ?_ | refine thenX ?_ | refine thenR ?_ | refine blockN ?_ | refine blockR ?_ | refine blockX ?_ | refine blockM rfl ?_
    simp [RetOk, RV, hb, itS]
  · skip
    have k1 : (n.kind == 1) = false := by simp; omega
    have k2 : (n.kind == 2) = false := by simp; omega
    have k3 : (n.kind == 3) = false := by simp; omega
    have hx4 : ¬ n.kind = 1 → ¬ n.kind = 2 → ¬ n.kind = 3 → (n.kind == 4) = false := by intro _ _ _; simp; omega
    have hb : textR c.patrons n = [] := if_neg (by omega)
    -- region 1
    refine AWp.rseq E_ok [0, 1, 2, 3, 4, 5, 7, 8, 10, 12, 14] fun K hK => ?_
    simp [encCirc_eq, encNote_eq, duS, waS, wtS, rcS, k1, k2, k3]
    repeat refine ⟨by first | omega | assumption | (simp only [maxLen]; omega) | (intros; omega) | decide, ?_⟩
    refine hK _ ?_
    clear hK K
    refine AWp.seq ?_
    -- region 2
    refine AWp.rseq E_ok [0, 1, 2, 3, 4, 5, 7, 8, 10, 12, 14] fun K hK => ?_
    simp [encCirc_eq, encNote_eq, duS, waS, wtS, rcS, k1, k2, k3]
    repeat refine ⟨by first | omega | assumption | (simp only [maxLen]; omega) | (intros; omega) | decide, ?_⟩
    refine hK _ ?_
    clear hK K
    refine AWp.block ?_
    -- region 4
    refine AWp.rseq E_ok [0, 1, 2, 3, 4, 5, 7, 8, 10, 12, 14] fun K hK => ?_
    simp [encCirc_eq, encNote_eq, duS, waS, wtS, rcS, k1, k2, k3]
    repeat refine ⟨by first | omega | assumption | (simp only [maxLen]; omega) | (intros; omega) | decide, ?_⟩
    refine hK _ ?_
    clear hK K
    refine AWp.cond rfl (fun h8 => ?_) (fun h8 => ?_)
    · exact absurd h8 (by simp)
    · try simp at h8
      -- region 6
      refine AWp.rseq E_ok [0, 1, 2, 3, 4, 5, 7, 8, 10, 12, 14] fun K hK => ?_
      simp [encCirc_eq, encNote_eq, duS, waS, wtS, rcS, k1, k2, k3]
      repeat refine ⟨by first | omega | assumption | (simp only [maxLen]; omega) | (intros; omega) | decide, ?_⟩
      refine hK _ ?_
      clear hK K
      refine AWp.cond rfl (fun h10 => ?_) (fun h10 => ?_)
      · exact absurd h10 (by simp)
      · try simp at h10
        -- region 8
        refine AWp.rseq E_ok [0, 1, 2, 3, 4, 5, 7, 8, 10, 12, 14] fun K hK => ?_
        simp [encCirc_eq, encNote_eq, duS, waS, wtS, rcS, k1, k2, k3]
        repeat refine ⟨by first | omega | assumption | (simp only [maxLen]; omega) | (intros; omega) | decide, ?_⟩
        refine hK _ ?_
        clear hK K
        refine AWp.cond rfl (fun h12 => ?_) (fun h12 => ?_)
        · exact absurd h12 (by simp)
        · try simp at h12
          have h4 := hx4 (by first | exact h8 | simpa using k1) (by first | exact h10 | simpa using k2) (by first | exact h12 | simpa using k3)
          -- region 10
          refine AWp.rseq E_ok [0, 1, 2, 3, 4, 5, 7, 8, 10, 12, 14] fun K hK => ?_
          simp [encCirc_eq, encNote_eq, duS, waS, wtS, rcS, k1, k2, k3, h4]
          repeat refine ⟨by first | omega | assumption | (simp only [maxLen]; omega) | (intros; omega) | decide, ?_⟩
          refine hK _ ?_
          clear hK K
          refine AWp.cond rfl (fun h14 => ?_) (fun h14 => ?_)
          · exact absurd h14 (by simp)
          · try simp at h14
            -- region 3
            refine AWp.rseq E_ok [0, 1, 2, 3, 4, 5, 7, 8, 10, 12, 14] fun K hK => ?_
            simp [encCirc_eq, encNote_eq, duS, waS, wtS, rcS, k1, k2, k3, h4]
            repeat refine ⟨by first | omega | assumption | (simp only [maxLen]; omega) | (intros; omega) | decide, ?_⟩
            refine hK _ ?_
            clear hK K
            refine AWp.ret ?_
            repeat first | refine thenN ?_ | refine thenX ?_ | refine thenR ?_ | refine blockN ?_ | refine blockR ?_ | refine blockX ?_ | refine blockM rfl ?_
            simp [RetOk, RV, hb, itS]
end Go.Proofs.YtjpjndfdncalfaaDoor

set_option maxRecDepth 100000
set_option linter.unusedSimpArgs false
set_option linter.unusedVariables false
namespace Go.Proofs.YtjpjndfdncalfaaDoor
open Go Ab Pl
set_option maxHeartbeats 4000000 in
theorem notice_Count (l : List Note) (hl : l.length ≤ 1000000) : ACalls E.P 17 [encNotes l] (.d (encCnt (noCN l))) := by
  refine ACalls.intro E_ok Tryd.func17 rfl rfl Tryd.ntmps17 Tryd.results17 (Nat.le_of_ble_eq_true rfl) fun hok base S0 w0 => ?_
  -- region 0
  refine AWp.rseq E_ok [0, 2, 3, 5, 6, 7, 8, 9, 19] fun K hK => ?_
  simp [encNotes_map, encNote_eq, zn]
  try simp (disch := omega) only [wrap_i64]
  repeat refine ⟨by first | omega | assumption | (simp only [maxLen]; omega) | (intros; omega) | decide, ?_⟩
  refine hK _ ?_
  clear hK K
  -- region 1
  refine AWp.rseq E_ok [0, 2, 3, 5, 6, 7, 8, 9, 19] fun K hK => ?_
  simp [encNotes_map, encNote_eq, zn]
  try simp (disch := omega) only [wrap_i64]
  repeat refine ⟨by first | omega | assumption | (simp only [maxLen]; omega) | (intros; omega) | decide, ?_⟩
  refine hK _ ?_
  clear hK K
  refine AWp.seq ?_
  -- region 2
  refine AWp.rseq E_ok [0, 2, 3, 5, 6, 7, 8, 9, 19] fun K hK => ?_
  simp [encNotes_map, encNote_eq, zn]
  try simp (disch := omega) only [wrap_i64]
  repeat refine ⟨by first | omega | assumption | (simp only [maxLen]; omega) | (intros; omega) | decide, ?_⟩
  refine hK _ ?_
  clear hK K
  refine AWp.block ?_
  refine AWp.range (l := l) (F := noCF) (tot := noCF ⟨0, 0, 0, 0, 0⟩ l) (fun k y => match y with | c => Cle c k) (fun k y => match y with | c => [(0, T.val ((D.agg [D.int IntKind.i64 0, D.int IntKind.i64 0, D.int IntKind.i64 0, D.int IntKind.i64 0]).slice (List.map encNote l))), (2, T.box [C.d (D.int IntKind.i64 0), C.d (D.int IntKind.i64 0), C.d (D.int IntKind.i64 0), C.d (D.int IntKind.i64 0), C.d (D.int IntKind.i64 0)]), (3, T.box [C.d (.int .i64 c.c0), C.d (.int .i64 c.c1), C.d (.int .i64 c.c2), C.d (.int .i64 c.c3), C.d (.int .i64 c.c4)]), (6, T.val ((D.agg [D.int IntKind.i64 0, D.int IntKind.i64 0, D.int IntKind.i64 0, D.int IntKind.i64 0]).slice (List.map encNote l))), (7, T.val (D.int IntKind.i64 ↑l.length)), (8, T.val (.int .i64 k))]) (⟨0, 0, 0, 0, 0⟩) ?_ rfl ?_ ?_
  · simp [Weak, TW, encNotes_map, encNote_eq, zn]
  · simp [Cle]
  rintro k c hk hs hi
  try simp only at hi
  -- region 3
  refine AWp.rseq E_ok [0, 2, 3, 5, 6, 7, 8, 9, 19] fun K hK => ?_
  simp [encNotes_map, encNote_eq, zn]
  try simp (disch := omega) only [wrap_i64]
  repeat refine ⟨by first | omega | assumption | (simp only [maxLen]; omega) | (intros; omega) | decide, ?_⟩
  refine hK _ ?_
  clear hK K
  refine AWp.seq ?_
  refine AWp.cond rfl (fun h9 => ?_) (fun h9 => ?_)
  · try simp at h9
    have hi2 := hi
    unfold Cle at hi2
    obtain ⟨x, hx, hxx, hd⟩ := at_indexG (l := l) h9
    rw [hd] at hs
    refine AWp.skip ?_
    repeat first | refine thenN ?_ | refine thenX ?_ | refine thenR ?_ | refine blockN ?_ | refine blockR ?_ | refine blockX ?_ | refine blockM rfl ?_
    refine AWp.seq ?_
    refine AWp.block ?_
    rcases (by omega : x.kind = 1 ∨ x.kind = 2 ∨ x.kind = 3 ∨ x.kind = 4 ∨ (x.kind < 1 ∨ 4 < x.kind)) with hk | hk | hk | hk | hk
    · skip
      have hb := bump1 (c := c) rfl
      -- region 4
      refine AWp.rseq E_ok [0, 2, 3, 5, 6, 7, 8, 9, 19] fun K hK => ?_
      simp [encNotes_map, encNote_eq, zn, h9, hx, hxx, hk, hb]
      try simp (disch := omega) only [wrap_i64]
      repeat refine ⟨by first | omega | assumption | (simp only [maxLen]; omega) | (intros; omega) | decide, ?_⟩
      refine hK _ ?_
      clear hK K
      -- region 5
      refine AWp.rseq E_ok [0, 2, 3, 5, 6, 7, 8, 9, 19] fun K hK => ?_
      simp [encNotes_map, encNote_eq, zn, h9, hx, hxx, hk, hb]
      try simp (disch := omega) only [wrap_i64]
      repeat refine ⟨by first | omega | assumption | (simp only [maxLen]; omega) | (intros; omega) | decide, ?_⟩
      refine hK _ ?_
      clear hK K
      refine AWp.cond rfl (fun h19 => ?_) (fun h19 => ?_)
      · try simp at h19
        -- region 6
        refine AWp.rend E_ok [0, 2, 3, 5, 6, 7, 8, 9, 19] fun K hK => ?_
        simp [encNotes_map, encNote_eq, zn, h9, hx, hxx, hk, hb, h19]
        try simp (disch := omega) only [wrap_i64]
        repeat refine ⟨by first | omega | assumption | (simp only [maxLen]; omega) | (intros; omega) | decide, ?_⟩
        refine hK _ ?_
        clear hK K
        repeat first | refine thenN ?_ | refine thenX ?_ | refine thenR ?_ | refine blockN ?_ | refine blockR ?_ | refine blockX ?_ | refine blockM rfl ?_
        -- region 8
        refine AWp.rend E_ok [0, 2, 3, 5, 6, 7, 8, 9, 19] fun K hK => ?_
        simp [encNotes_map, encNote_eq, zn, h9, hx, hxx, hk, hb, h19]
        try simp (disch := omega) only [wrap_i64]
        repeat refine ⟨by first | omega | assumption | (simp only [maxLen]; omega) | (intros; omega) | decide, ?_⟩
        refine hK _ ?_
        clear hK K
        repeat first | refine thenN ?_ | refine thenX ?_ | refine thenR ?_ | refine blockN ?_ | refine blockR ?_ | refine blockX ?_ | refine blockM rfl ?_
        have hw : IntKind.i64.wrap ((k : Int) + 1) = (k : Int) + 1 := by rw [wrap_i64] <;> omega
        simp [noCF, hk, hb, h19] at hs
        refine ⟨_, h9, hs, ?_, ?_⟩
        · (simp [Cle]; omega)
        · simp [Weak, TW, hw, encNotes_map, encNote_eq, zn]
      · exact absurd h19 (by simp)
    · skip
      have hb := bump2 (c := c) rfl
      -- region 4
      refine AWp.rseq E_ok [0, 2, 3, 5, 6, 7, 8, 9, 19] fun K hK => ?_
      simp [encNotes_map, encNote_eq, zn, h9, hx, hxx, hk, hb]
      try simp (disch := omega) only [wrap_i64]
      repeat refine ⟨by first | omega | assumption | (simp only [maxLen]; omega) | (intros; omega) | decide, ?_⟩
      refine hK _ ?_
      clear hK K
      -- region 5
      refine AWp.rseq E_ok [0, 2, 3, 5, 6, 7, 8, 9, 19] fun K hK => ?_
      simp [encNotes_map, encNote_eq, zn, h9, hx, hxx, hk, hb]
      try simp (disch := omega) only [wrap_i64]
      repeat refine ⟨by first | omega | assumption | (simp only [maxLen]; omega) | (intros; omega) | decide, ?_⟩
      refine hK _ ?_
      clear hK K
      refine AWp.cond rfl (fun h19 => ?_) (fun h19 => ?_)
      · try simp at h19
        -- region 6
        refine AWp.rend E_ok [0, 2, 3, 5, 6, 7, 8, 9, 19] fun K hK => ?_
        simp [encNotes_map, encNote_eq, zn, h9, hx, hxx, hk, hb, h19]
        try simp (disch := omega) only [wrap_i64]
        repeat refine ⟨by first | omega | assumption | (simp only [maxLen]; omega) | (intros; omega) | decide, ?_⟩
        refine hK _ ?_
        clear hK K
        repeat first | refine thenN ?_ | refine thenX ?_ | refine thenR ?_ | refine blockN ?_ | refine blockR ?_ | refine blockX ?_ | refine blockM rfl ?_
        -- region 8
        refine AWp.rend E_ok [0, 2, 3, 5, 6, 7, 8, 9, 19] fun K hK => ?_
        simp [encNotes_map, encNote_eq, zn, h9, hx, hxx, hk, hb, h19]
        try simp (disch := omega) only [wrap_i64]
        repeat refine ⟨by first | omega | assumption | (simp only [maxLen]; omega) | (intros; omega) | decide, ?_⟩
        refine hK _ ?_
        clear hK K
        repeat first | refine thenN ?_ | refine thenX ?_ | refine thenR ?_ | refine blockN ?_ | refine blockR ?_ | refine blockX ?_ | refine blockM rfl ?_
        have hw : IntKind.i64.wrap ((k : Int) + 1) = (k : Int) + 1 := by rw [wrap_i64] <;> omega
        simp [noCF, hk, hb, h19] at hs
        refine ⟨_, h9, hs, ?_, ?_⟩
        · (simp [Cle]; omega)
        · simp [Weak, TW, hw, encNotes_map, encNote_eq, zn]
      · exact absurd h19 (by simp)
    · skip
      have hb := bump3 (c := c) rfl
      -- region 4
      refine AWp.rseq E_ok [0, 2, 3, 5, 6, 7, 8, 9, 19] fun K hK => ?_
      simp [encNotes_map, encNote_eq, zn, h9, hx, hxx, hk, hb]
      try simp (disch := omega) only [wrap_i64]
      repeat refine ⟨by first | omega | assumption | (simp only [maxLen]; omega) | (intros; omega) | decide, ?_⟩
      refine hK _ ?_
      clear hK K
      -- region 5
      refine AWp.rseq E_ok [0, 2, 3, 5, 6, 7, 8, 9, 19] fun K hK => ?_
      simp [encNotes_map, encNote_eq, zn, h9, hx, hxx, hk, hb]
      try simp (disch := omega) only [wrap_i64]
      repeat refine ⟨by first | omega | assumption | (simp only [maxLen]; omega) | (intros; omega) | decide, ?_⟩
      refine hK _ ?_
      clear hK K
      refine AWp.cond rfl (fun h19 => ?_) (fun h19 => ?_)
      · try simp at h19
        -- region 6
        refine AWp.rend E_ok [0, 2, 3, 5, 6, 7, 8, 9, 19] fun K hK => ?_
        simp [encNotes_map, encNote_eq, zn, h9, hx, hxx, hk, hb, h19]
        try simp (disch := omega) only [wrap_i64]
        repeat refine ⟨by first | omega | assumption | (simp only [maxLen]; omega) | (intros; omega) | decide, ?_⟩
        refine hK _ ?_
        clear hK K
        repeat first | refine thenN ?_ | refine thenX ?_ | refine thenR ?_ | refine blockN ?_ | refine blockR ?_ | refine blockX ?_ | refine blockM rfl ?_
        -- region 8
        refine AWp.rend E_ok [0, 2, 3, 5, 6, 7, 8, 9, 19] fun K hK => ?_
        simp [encNotes_map, encNote_eq, zn, h9, hx, hxx, hk, hb, h19]
        try simp (disch := omega) only [wrap_i64]
        repeat refine ⟨by first | omega | assumption | (simp only [maxLen]; omega) | (intros; omega) | decide, ?_⟩
        refine hK _ ?_
        clear hK K
        repeat first | refine thenN ?_ | refine thenX ?_ | refine thenR ?_ | refine blockN ?_ | refine blockR ?_ | refine blockX ?_ | refine blockM rfl ?_
        have hw : IntKind.i64.wrap ((k : Int) + 1) = (k : Int) + 1 := by rw [wrap_i64] <;> omega
        simp [noCF, hk, hb, h19] at hs
        refine ⟨_, h9, hs, ?_, ?_⟩
        · (simp [Cle]; omega)
        · simp [Weak, TW, hw, encNotes_map, encNote_eq, zn]
      · exact absurd h19 (by simp)
    · skip
      have hb := bump4 (c := c) rfl
      -- region 4
      refine AWp.rseq E_ok [0, 2, 3, 5, 6, 7, 8, 9, 19] fun K hK => ?_
      simp [encNotes_map, encNote_eq, zn, h9, hx, hxx, hk, hb]
      try simp (disch := omega) only [wrap_i64]
      repeat refine ⟨by first | omega | assumption | (simp only [maxLen]; omega) | (intros; omega) | decide, ?_⟩
      refine hK _ ?_
      clear hK K
      -- region 5
      refine AWp.rseq E_ok [0, 2, 3, 5, 6, 7, 8, 9, 19] fun K hK => ?_
      simp [encNotes_map, encNote_eq, zn, h9, hx, hxx, hk, hb]
      try simp (disch := omega) only [wrap_i64]
      repeat refine ⟨by first | omega | assumption | (simp only [maxLen]; omega) | (intros; omega) | decide, ?_⟩
      refine hK _ ?_
      clear hK K
      refine AWp.cond rfl (fun h19 => ?_) (fun h19 => ?_)
      · try simp at h19
        -- region 6
        refine AWp.rend E_ok [0, 2, 3, 5, 6, 7, 8, 9, 19] fun K hK => ?_
        simp [encNotes_map, encNote_eq, zn, h9, hx, hxx, hk, hb, h19]
        try simp (disch := omega) only [wrap_i64]
        repeat refine ⟨by first | omega | assumption | (simp only [maxLen]; omega) | (intros; omega) | decide, ?_⟩
        refine hK _ ?_
        clear hK K
        repeat first | refine thenN ?_ | refine thenX ?_ | refine thenR ?_ | refine blockN ?_ | refine blockR ?_ | refine blockX ?_ | refine blockM rfl ?_
        -- region 8
        refine AWp.rend E_ok [0, 2, 3, 5, 6, 7, 8, 9, 19] fun K hK => ?_
        simp [encNotes_map, encNote_eq, zn, h9, hx, hxx, hk, hb, h19]
        try simp (disch := omega) only [wrap_i64]
        repeat refine ⟨by first | omega | assumption | (simp only [maxLen]; omega) | (intros; omega) | decide, ?_⟩
        refine hK _ ?_
        clear hK K
        repeat first | refine thenN ?_ | refine thenX ?_ | refine thenR ?_ | refine blockN ?_ | refine blockR ?_ | refine blockX ?_ | refine blockM rfl ?_
        have hw : IntKind.i64.wrap ((k : Int) + 1) = (k : Int) + 1 := by rw [wrap_i64] <;> omega
        simp [noCF, hk, hb, h19] at hs
        refine ⟨_, h9, hs, ?_, ?_⟩
        · (simp [Cle]; omega)
        · simp [Weak, TW, hw, encNotes_map, encNote_eq, zn]
      · exact absurd h19 (by simp)
    · skip
      have hb := bump0 (c := c) (k := x.kind) hk
      have hkc : (decide (1 ≤ x.kind) && decide (x.kind ≤ 4)) = false := by rw [Bool.eq_false_iff]; simp; omega
      -- region 4
      refine AWp.rseq E_ok [0, 2, 3, 5, 6, 7, 8, 9, 19] fun K hK => ?_
      simp [encNotes_map, encNote_eq, zn, h9, hx, hxx, hb, hkc]
      try simp (disch := omega) only [wrap_i64]
      repeat refine ⟨by first | omega | assumption | (simp only [maxLen]; omega) | (intros; omega) | decide, ?_⟩
      refine hK _ ?_
      clear hK K
      -- region 5
      refine AWp.rseq E_ok [0, 2, 3, 5, 6, 7, 8, 9, 19] fun K hK => ?_
      simp [encNotes_map, encNote_eq, zn, h9, hx, hxx, hb, hkc]
      try simp (disch := omega) only [wrap_i64]
      repeat refine ⟨by first | omega | assumption | (simp only [maxLen]; omega) | (intros; omega) | decide, ?_⟩
      refine hK _ ?_
      clear hK K
      refine AWp.cond rfl (fun h19 => ?_) (fun h19 => ?_)
      · exact absurd h19 (by simp)
      · try simp at h19
        -- region 7
        refine AWp.rend E_ok [0, 2, 3, 5, 6, 7, 8, 9, 19] fun K hK => ?_
        simp [encNotes_map, encNote_eq, zn, h9, hx, hxx, hb, hkc, h19]
        try simp (disch := omega) only [wrap_i64]
        repeat refine ⟨by first | omega | assumption | (simp only [maxLen]; omega) | (intros; omega) | decide, ?_⟩
        refine hK _ ?_
        clear hK K
        repeat first | refine thenN ?_ | refine thenX ?_ | refine thenR ?_ | refine blockN ?_ | refine blockR ?_ | refine blockX ?_ | refine blockM rfl ?_
        -- region 8
        refine AWp.rend E_ok [0, 2, 3, 5, 6, 7, 8, 9, 19] fun K hK => ?_
        simp [encNotes_map, encNote_eq, zn, h9, hx, hxx, hb, hkc, h19]
        try simp (disch := omega) only [wrap_i64]
        repeat refine ⟨by first | omega | assumption | (simp only [maxLen]; omega) | (intros; omega) | decide, ?_⟩
        refine hK _ ?_
        clear hK K
        repeat first | refine thenN ?_ | refine thenX ?_ | refine thenR ?_ | refine blockN ?_ | refine blockR ?_ | refine blockX ?_ | refine blockM rfl ?_
        have hw : IntKind.i64.wrap ((k : Int) + 1) = (k : Int) + 1 := by rw [wrap_i64] <;> omega
        simp [noCF, hb, hkc, h19] at hs
        refine ⟨_, h9, hs, ?_, ?_⟩
        · (simp [Cle]; omega)
        · simp [Weak, TW, hw, encNotes_map, encNote_eq, zn]
  · try simp at h9
    obtain rfl : k = l.length := by omega
    simp [noCF] at hs
    refine AWp.exit ?_
    repeat first | refine thenN ?_ | refine thenX ?_ | refine thenR ?_ | refine blockN ?_ | refine blockR ?_ | refine blockX ?_ | refine blockM rfl ?_
    -- region 9
    refine AWp.rseq E_ok [0, 2, 3, 5, 6, 7, 8, 9, 19] fun K hK => ?_
    simp [encNotes_map, encNote_eq, zn, h9]
    try simp (disch := omega) only [wrap_i64]
    repeat refine ⟨by first | omega | assumption | (simp only [maxLen]; omega) | (intros; omega) | decide, ?_⟩
    refine hK _ ?_
    clear hK K
    refine AWp.ret ?_
    repeat first | refine thenN ?_ | refine thenX ?_ | refine thenR ?_ | refine blockN ?_ | refine blockR ?_ | refine blockX ?_ | refine blockM rfl ?_
    simp [RetOk, RV, noCN, ← hs, noCF, encCnt_eq]
end Go.Proofs.YtjpjndfdncalfaaDoor

set_option maxRecDepth 100000
set_option linter.unusedSimpArgs false
set_option linter.unusedVariables false
namespace Go.Proofs.YtjpjndfdncalfaaDoor
open Go Ab Pl
theorem notice_Due_x (c : Circ) (a : Int) (r : List Note) (h1 : c.loans.length ≤ 60) (h2 : c.holds.length ≤ 60) (e : dueN c a = r) : ACalls E.P 12 [encCirc c, .int .i64 a] (.d (encNotes r)) := by rw [← e]; exact (notice_Due c a h1 h2).datum
theorem notice_Text_x (c : Circ) (n : Note) (s : List UInt8) (hp : PatrOk c.patrons) (e : textR c.patrons n = s) : ACalls E.P 15 [encCirc c, encNote n] (.d (.str s)) := by rw [← e]; exact notice_Text c n hp
theorem notice_Count_x (l : List Note) (r : Cnt) (hl : l.length ≤ 1000000) (e : noCN l = r) : ACalls E.P 17 [encNotes l] (.d (encCnt r)) := by rw [← e]; exact notice_Count l hl

end Go.Proofs.YtjpjndfdncalfaaDoor

set_option maxRecDepth 100000
set_option linter.unusedSimpArgs false
set_option linter.unusedVariables false
namespace Go.Proofs.YtjpjndfdncalfaaDoor
open Go Ab Pl
theorem ref35_Same (a b : List Note) (hl : a.length ≤ 100000) : ACalls E.P 11 [encNotes a, encNotes b] (.d (.bool (decide (a = b)))) := by
  refine ACalls.intro E_ok Tryd.func11 rfl rfl Tryd.ntmps11 Tryd.results11 (Nat.le_of_ble_eq_true rfl) fun hok base S0 w0 => ?_
  -- region 0
  refine AWp.rseq E_ok [0, 1, 4, 5, 10, 14, 25] fun K hK => ?_
  simp [encNotes_map, encNote_eq]
  repeat refine ⟨by first | omega | assumption | (simp only [maxLen]; omega) | (intros; omega) | decide, ?_⟩
  refine hK _ ?_
  clear hK K
  refine AWp.seq ?_
  -- region 1
  refine AWp.rseq E_ok [0, 1, 4, 5, 10, 14, 25] fun K hK => ?_
  simp [encNotes_map, encNote_eq]
  repeat refine ⟨by first | omega | assumption | (simp only [maxLen]; omega) | (intros; omega) | decide, ?_⟩
  refine hK _ ?_
  clear hK K
  refine AWp.cond rfl (fun h10 => ?_) (fun h10 => ?_)
  · try simp at h10
    have hb : decide (a = b) = false := decide_eq_false fun h => h10 (by rw [h])
    -- region 2
    refine AWp.rseq E_ok [0, 1, 4, 5, 10, 14, 25] fun K hK => ?_
    simp [encNotes_map, encNote_eq]
    repeat refine ⟨by first | omega | assumption | (simp only [maxLen]; omega) | (intros; omega) | decide, ?_⟩
    refine hK _ ?_
    clear hK K
    refine AWp.ret ?_
    repeat first | refine thenN ?_ | refine thenX ?_ | refine thenR ?_ | refine blockN ?_ | refine blockR ?_ | refine blockX ?_ | refine blockM rfl ?_
    simp [RetOk, RV, hb]
  · try simp at h10
    have hle := samN_eq a b (by omega)
    refine AWp.skip ?_
    repeat first | refine thenN ?_ | refine thenX ?_ | refine thenR ?_ | refine blockN ?_ | refine blockR ?_ | refine blockX ?_ | refine blockM rfl ?_
    refine AWp.seq ?_
    -- region 3
    refine AWp.rseq E_ok [0, 1, 4, 5, 10, 14, 25] fun K hK => ?_
    simp [encNotes_map, encNote_eq]
    repeat refine ⟨by first | omega | assumption | (simp only [maxLen]; omega) | (intros; omega) | decide, ?_⟩
    refine hK _ ?_
    clear hK K
    refine AWp.block ?_
    refine AWp.range (l := a) (F := samN) (tot := samN b a) (fun k y => match y with | bs => bs = b.drop k) (fun k y => match y with | bs => [(0, T.val ((D.agg [D.int IntKind.i64 zn.kind, D.int IntKind.i64 zn.patron, D.int IntKind.i64 zn.item, D.int IntKind.i64 zn.day]).slice (List.map encNote a))), (1, T.val ((D.agg [D.int IntKind.i64 zn.kind, D.int IntKind.i64 zn.patron, D.int IntKind.i64 zn.item, D.int IntKind.i64 zn.day]).slice (List.map encNote b))), (5, T.val (.int .i64 k))]) (b) ?_ rfl ?_ ?_
    · simp [Weak, TW, encNotes_map, encNote_eq]
    · first | exact trivial | (simp; omega) | simp
    rintro k bs hk hs hi
    try simp only at hi
    refine AWp.seq ?_
    -- region 4
    refine AWp.rseq E_ok [0, 1, 4, 5, 10, 14, 25] fun K hK => ?_
    simp [encNotes_map, encNote_eq]
    repeat refine ⟨by first | omega | assumption | (simp only [maxLen]; omega) | (intros; omega) | decide, ?_⟩
    refine hK _ ?_
    clear hK K
    refine AWp.cond rfl (fun h14 => ?_) (fun h14 => ?_)
    · try simp at h14
      obtain ⟨y, hy1, hy2, hyd⟩ := at_indexG (l := b) (k := k) (by omega)
      rw [hi, hyd] at hs
      obtain ⟨x, hx, hxx, hd⟩ := at_indexG (l := a) h14
      rw [hd] at hs
      refine AWp.skip ?_
      repeat first | refine thenN ?_ | refine thenX ?_ | refine thenR ?_ | refine blockN ?_ | refine blockR ?_ | refine blockX ?_ | refine blockM rfl ?_
      refine AWp.seq ?_
      refine AWp.block ?_
      -- region 6
      refine AWp.rseqQ E_ok mixed [0, 1, 4, 5, 10, 14, 25] (by kernel_rfl) fun K hK => ?_
      simp [encNotes_map, encNote_eq, h14, hy1, hx, hxx]
      repeat refine ⟨by first | omega | assumption | (simp only [maxLen]; omega) | (intros; omega) | decide, ?_⟩
      refine hK _ ?_
      clear hK K
      refine AWp.cond rfl (fun h25 => ?_) (fun h25 => ?_)
      · try simp at h25
        have hne : ¬ x = y := by rw [note_eq]; omega
        rw [samN, if_neg hne] at hs
        have hb : decide (a = b) = false := by rw [← hle, ← hs]
        -- region 7
        refine AWp.rseq E_ok [0, 1, 4, 5, 10, 14, 25] fun K hK => ?_
        simp [encNotes_map, encNote_eq, h14, hy1, hx, hxx]
        repeat refine ⟨by first | omega | assumption | (simp only [maxLen]; omega) | (intros; omega) | decide, ?_⟩
        refine hK _ ?_
        clear hK K
        refine AWp.ret ?_
        repeat first | refine thenN ?_ | refine thenX ?_ | refine thenR ?_ | refine blockN ?_ | refine blockR ?_ | refine blockX ?_ | refine blockM rfl ?_
        simp [RetOk, RV, hb]
      · try simp at h25
        have hxy : x = y := (note_eq x y).2 (by omega)
        rw [samN, if_pos hxy] at hs
        refine AWp.skip ?_
        repeat first | refine thenN ?_ | refine thenX ?_ | refine thenR ?_ | refine blockN ?_ | refine blockR ?_ | refine blockX ?_ | refine blockM rfl ?_
        -- region 5
        refine AWp.rend E_ok [0, 1, 4, 5, 10, 14, 25] fun K hK => ?_
        simp [encNotes_map, encNote_eq, h14, hy1, hx, hxx]
        repeat refine ⟨by first | omega | assumption | (simp only [maxLen]; omega) | (intros; omega) | decide, ?_⟩
        refine hK _ ?_
        clear hK K
        repeat first | refine thenN ?_ | refine thenX ?_ | refine thenR ?_ | refine blockN ?_ | refine blockR ?_ | refine blockX ?_ | refine blockM rfl ?_
        have hw : IntKind.i64.wrap ((k : Int) + 1) = (k : Int) + 1 := by rw [wrap_i64] <;> omega
        skip
        refine ⟨_, h14, hs, ?_, ?_⟩
        · first | exact trivial | (simp; omega) | simp
        · simp [Weak, TW, hw, encNotes_map, encNote_eq]
    · try simp at h14
      obtain rfl : k = a.length := by omega
      simp [samN] at hs
      have hb : decide (a = b) = true := by rw [← hle]; simp [hs]
      refine AWp.exit ?_
      repeat first | refine thenN ?_ | refine thenX ?_ | refine thenR ?_ | refine blockN ?_ | refine blockR ?_ | refine blockX ?_ | refine blockM rfl ?_
      -- region 8
      refine AWp.rseq E_ok [0, 1, 4, 5, 10, 14, 25] fun K hK => ?_
      simp [encNotes_map, encNote_eq, h14]
      repeat refine ⟨by first | omega | assumption | (simp only [maxLen]; omega) | (intros; omega) | decide, ?_⟩
      refine hK _ ?_
      clear hK K
      refine AWp.ret ?_
      repeat first | refine thenN ?_ | refine thenX ?_ | refine thenR ?_ | refine blockN ?_ | refine blockR ?_ | refine blockX ?_ | refine blockM rfl ?_
      simp [RetOk, RV, hb]
end Go.Proofs.YtjpjndfdncalfaaDoor
