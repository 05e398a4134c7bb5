/-
  What the functions compute that the statement reaches: contracts, and the plain laws between them. Conditions stand at each theorem.
-/
import Derived.Test.YtabmhpgbfjkkcaaDoorWalkOne
import Derived.Shelf.Strconv.Itoa0
import Derived.Shelf.Strconv.Itoa1
import Derived.Shelf.LaysM
import Derived.Shelf.Strconv.Itoa2
import Derived.Shelf.Strconv.Itoa3
import Derived.Test.YtabmhpgbfjkkcaaDoorProg
set_option linter.unusedVariables false
set_option linter.unusedSimpArgs false
/-
  DERIVED: THE SHELF's CONTRACTS AT THIS DUMP, IN PLAIN WORDS (tools/lay-plain.mjs out of 'TrydShelf.lean', which tools/lay-shelf.mjs wrote): THE SAME DECLARATIONS UNDER THE SAME NAMES: 'import', 'namespace', 'open', 'def', 'theorem' AND NOTHING ELSE: no command of the shelf's: FOR A HAND-IN. Each laying: the table of numbers ('.._ren') and one theorem, a field a fact of the dump's own or the kernel's comparison; each contract: ONE APPLICATION.
-/
namespace Go.Proofs
open Go.Shelf
def Tryd.lays129_ren : Go.Shelf.Ren := ⟨fun | 129 => 42 | n => n, fun | 53 => 55 | 3 => 3 | 4 => 4 | 46 => 64 | 5 => 5 | 9 => 9 | n => n, fun | n => n⟩
theorem Tryd.lays129 : Go.Proofs.Lays.n129 Tryd.prog Tryd.lays129_ren := {
  mixed := by kernel_rfl
  f129 := Tryd.func42.trans (congrArg some (by kernel_rfl))
  t3 := Tryd.underlying3
  a3 := Tryd.isAgg3
  z3 := Tryd.sizeOf3
  v3 := Tryd.zeroValue3
  t4 := Tryd.underlying4
  a4 := Tryd.isAgg4
  z4 := Tryd.sizeOf4
  v4 := Tryd.zeroValue4
  t5 := Tryd.underlying5
  a5 := Tryd.isAgg5
  z5 := Tryd.sizeOf5
  v5 := Tryd.zeroValue5
  t9 := Tryd.underlying9
  a9 := Tryd.isAgg9
  z9 := Tryd.sizeOf9
  v9 := Tryd.zeroValue9
  t46 := Tryd.underlying64
  a46 := Tryd.isAgg64
  z46 := Tryd.sizeOf64
  v46 := Tryd.zeroValue64
  t53 := Tryd.underlying55
  a53 := Tryd.isAgg55
  z53 := Tryd.sizeOf55
  v53 := Tryd.zeroValue55 }
/-- bits.Len64: "Len64 returns the minimum number of bits required to represent x; the result is 0 for x == 0.": IT RETURNS 'Lib.bitLen x'; the world is as it was. ('h0', 'h1': x is a uint64.) (LAID: no walk: one application.) -/
theorem Tryd.bits_Len64 (x : Int) (w : World) (h0 : 0 ≤ x) (h1 : x ≤ 18446744073709551615) :
    Calls Tryd.prog 42 #[.int .u64 x] w fun e w' => e = .returned (.int .i64 (Lib.bitLen x.toNat)) ∧ w' = w := Any.bits_Len64 Tryd.lays129 x w h0 h1
def Tryd.lays317_ren : Go.Shelf.Ren := ⟨fun | 317 => 41 | n => n, fun | 3 => 3 | 46 => 64 | n => n, fun | n => n⟩
theorem Tryd.lays317 : Go.Proofs.Lays.n317 Tryd.prog Tryd.lays317_ren := {
  mixed := by kernel_rfl
  f317 := Tryd.func41.trans (congrArg some (by kernel_rfl))
  t3 := Tryd.underlying3
  a3 := Tryd.isAgg3
  z3 := Tryd.sizeOf3
  v3 := Tryd.zeroValue3
  t46 := Tryd.underlying64
  a46 := Tryd.isAgg64
  z46 := Tryd.sizeOf64
  v46 := Tryd.zeroValue64 }
open Go.Lib in
/-- internal/strconv.log10Pow2: "log10Pow2(x) returns ⌊log₁₀ 2**x⌋ = ⌊x * log₁₀ 2⌋.": '(x * 78913) >> 18', at an x up to 64 (a length in bits). The world is as it was. (LAID: no walk: one application.) -/
theorem Tryd.internal_strconv_log10Pow2 (x : Nat) (h : x ≤ 64) (w : World) :
    Calls Tryd.prog 41 #[.int .i64 x] w fun e w' => e = .returned (.int .i64 (Lib.l10 x)) ∧ w' = w := Any.internal_strconv_log10Pow2 Tryd.lays317 x h w
def Tryd.lays318_ren : Go.Shelf.Ren := ⟨fun | 318 => 43 | n => n, fun | 3 => 3 | 4 => 4 | n => n, fun | n => n⟩
theorem Tryd.lays318 : Go.Proofs.Lays.n318 Tryd.prog Tryd.lays318_ren := {
  mixed := by kernel_rfl
  f318 := Tryd.func43.trans (congrArg some (by kernel_rfl))
  t3 := Tryd.underlying3
  a3 := Tryd.isAgg3
  z3 := Tryd.sizeOf3
  v3 := Tryd.zeroValue3
  t4 := Tryd.underlying4
  a4 := Tryd.isAgg4
  z4 := Tryd.sizeOf4
  v4 := Tryd.zeroValue4 }
open Go.Lib in
/-- internal/strconv.bool2: "bool2 converts b to an integer: 1 for true, 0 for false." The world is as it was. (LAID: no walk: one application.) -/
theorem Tryd.internal_strconv_bool2_int (b : Bool) (w : World) :
    Calls Tryd.prog 43 #[.bool b] w fun e w' => e = .returned (.int .i64 (if b then 1 else 0)) ∧ w' = w := Any.internal_strconv_bool2_int Tryd.lays318 b w
def Tryd.lays283_ren : Go.Shelf.Ren := ⟨fun | 283 => 37 | n => n, fun | 3 => 3 | 9 => 9 | 4 => 4 | n => n, fun | n => n⟩
theorem Tryd.lays283 : Go.Proofs.Lays.n283 Tryd.prog Tryd.lays283_ren := {
  mixed := by kernel_rfl
  f283 := Tryd.func37.trans (congrArg some (by kernel_rfl))
  t3 := Tryd.underlying3
  a3 := Tryd.isAgg3
  z3 := Tryd.sizeOf3
  v3 := Tryd.zeroValue3
  t4 := Tryd.underlying4
  a4 := Tryd.isAgg4
  z4 := Tryd.sizeOf4
  v4 := Tryd.zeroValue4
  t9 := Tryd.underlying9
  a9 := Tryd.isAgg9
  z9 := Tryd.sizeOf9
  v9 := Tryd.zeroValue9 }
open Go.Lib in
/-- internal/strconv.small: "small returns the string for an i with 0 <= i < nSmalls.": i's decimal numeral. The world is as it was. (LAID: no walk: one application.) -/
theorem Tryd.internal_strconv_small (i : Nat) (h : i < 100) (w : World) :
    Calls Tryd.prog 37 #[.int .i64 i] w fun e w' => e = .returned (.string ⟨(Lib.decDigits i).toArray⟩) ∧ w' = w := Any.internal_strconv_small Tryd.lays283 i h w
def Tryd.laysM284_ren : Go.Shelf.Ren := ⟨fun | 284 => 38 | 129 => 42 | 317 => 41 | 318 => 43 | n => n, fun | 53 => 55 | 3 => 3 | 212 => 61 | 0 => 0 | 4 => 4 | 46 => 64 | 5 => 5 | 9 => 9 | n => n, fun | 17 => 1 | n => n⟩
theorem Tryd.laysM284 : Go.Proofs.LaysM.n284 Tryd.prog Tryd.laysM284_ren := {
  mixed := by kernel_rfl
  f129 := Tryd.func42.trans (congrArg some (by kernel_rfl))
  f284 := Tryd.func38.trans (congrArg some (by kernel_rfl))
  f317 := Tryd.func41.trans (congrArg some (by kernel_rfl))
  f318 := Tryd.func43.trans (congrArg some (by kernel_rfl))
  t0 := Tryd.underlying0
  a0 := Tryd.isAgg0
  z0 := Tryd.sizeOf0
  v0 := Tryd.zeroValue0
  t3 := Tryd.underlying3
  a3 := Tryd.isAgg3
  z3 := Tryd.sizeOf3
  v3 := Tryd.zeroValue3
  t4 := Tryd.underlying4
  a4 := Tryd.isAgg4
  z4 := Tryd.sizeOf4
  v4 := Tryd.zeroValue4
  t5 := Tryd.underlying5
  a5 := Tryd.isAgg5
  z5 := Tryd.sizeOf5
  v5 := Tryd.zeroValue5
  t9 := Tryd.underlying9
  a9 := Tryd.isAgg9
  z9 := Tryd.sizeOf9
  v9 := Tryd.zeroValue9
  t46 := Tryd.underlying64
  a46 := Tryd.isAgg64
  z46 := Tryd.sizeOf64
  v46 := Tryd.zeroValue64
  t53 := Tryd.underlying55
  a53 := Tryd.isAgg55
  z53 := Tryd.sizeOf55
  v53 := Tryd.zeroValue55
  t212 := Tryd.underlying61
  a212 := Tryd.isAgg61
  z212 := Tryd.sizeOf61
  v212 := Tryd.zeroValue61
  g17 := by kernel_rfl
  i0 := by kernel_rfl
  i3 := by kernel_rfl
  i4 := by kernel_rfl
  i5 := by kernel_rfl
  i9 := by kernel_rfl
  i46 := by kernel_rfl
  i53 := by kernel_rfl
  i212 := by kernel_rfl
  m17 := by kernel_rfl }
open Go.Lib in
/-- internal/strconv.numDigits, at a d that is not 0: THE NUMBER OF d's DECIMAL DIGITS. The world is as it was. (LAID: no walk: one application.) -/
theorem Tryd.internal_strconv_numDigits (u : Nat) (h1 : 1 ≤ u) (h2 : u < 18446744073709551616) (w : World) (htab : Lib.TabIs Tryd.prog w "internal/strconv.uint64pow10" .u64 Lib.pow10Tab) :
    Calls Tryd.prog 38 #[.int .u64 u] w fun e w' => e = .returned (.int .i64 (Lib.nDigits u)) ∧ w' = w := Any.internal_strconv_numDigits Tryd.laysM284 u h1 h2 w htab
def Tryd.lays285_ren : Go.Shelf.Ren := ⟨fun | 285 => 39 | n => n, fun | 37 => 52 | 53 => 55 | 3 => 3 | 4 => 4 | 51 => 62 | 9 => 9 | 5 => 5 | 0 => 0 | n => n, fun | n => n⟩
theorem Tryd.lays285 : Go.Proofs.Lays.n285 Tryd.prog Tryd.lays285_ren := {
  mixed := by kernel_rfl
  f285 := Tryd.func39.trans (congrArg some (by kernel_rfl))
  t0 := Tryd.underlying0
  a0 := Tryd.isAgg0
  z0 := Tryd.sizeOf0
  v0 := Tryd.zeroValue0
  t3 := Tryd.underlying3
  a3 := Tryd.isAgg3
  z3 := Tryd.sizeOf3
  v3 := Tryd.zeroValue3
  t4 := Tryd.underlying4
  a4 := Tryd.isAgg4
  z4 := Tryd.sizeOf4
  v4 := Tryd.zeroValue4
  t5 := Tryd.underlying5
  a5 := Tryd.isAgg5
  z5 := Tryd.sizeOf5
  v5 := Tryd.zeroValue5
  t9 := Tryd.underlying9
  a9 := Tryd.isAgg9
  z9 := Tryd.sizeOf9
  v9 := Tryd.zeroValue9
  t37 := Tryd.underlying52
  a37 := Tryd.isAgg52
  z37 := Tryd.sizeOf52
  v37 := Tryd.zeroValue52
  t51 := Tryd.underlying62
  a51 := Tryd.isAgg62
  z51 := Tryd.sizeOf62
  v51 := Tryd.zeroValue62
  t53 := Tryd.underlying55
  a53 := Tryd.isAgg55
  z53 := Tryd.sizeOf55
  v53 := Tryd.zeroValue55 }
open Go.RowKit Go.Sort Go.Lib in
/-- internal/strconv.formatBase10: "formatBase10 formats the decimal representation of u into a. The caller is responsible for ensuring that a is big enough to hold u. If a is too big, leading zeros will be filled in as needed.": THE ROW HOLDS u's DIGITS ('FmtInv .. 0 ..': every place t holds 'dg u (len - 1 - t)'); all else is as it was but for the count of draws. (LAID: no walk: one application.) -/
theorem Tryd.internal_strconv_formatBase10 (blk off cap : Nat) (u : Nat) (d : Array UInt8) (w : World) (hH : Holds (fun (b : UInt8) => Value.int .u8 (b.toNat : Int)) w blk off d) (hu : u < 10 ^ d.size) (hu64 : u < 18446744073709551616) (hsz : d.size < 4611686018427387904) :
    Calls Tryd.prog 39 #[.slice (some ⟨blk, off, none⟩) d.size cap, .int .u64 u] w fun e w' =>
      e = .returned (.tuple #[]) ∧ ∃ (n v' : Nat) (dk : Array UInt8), w' = (putRow (fun (b : UInt8) => Value.int .u8 (b.toNat : Int)) w blk off dk).drewN n ∧ FmtInv d.size u 0 v' dk := Any.internal_strconv_formatBase10 Tryd.lays285 blk off cap u d w hH hu hu64 hsz
def Tryd.laysM246_ren : Go.Shelf.Ren := ⟨fun | 246 => 36 | 283 => 37 | 284 => 38 | 285 => 39 | 286 => 40 | 129 => 42 | 317 => 41 | 318 => 43 | 319 => 44 | 320 => 45 | 337 => 46 | 338 => 47 | n => n, fun | 2 => 2 | 3 => 3 | 9 => 9 | 4 => 4 | 171 => 54 | 0 => 0 | 53 => 55 | 37 => 52 | 5 => 5 | 173 => 58 | 212 => 61 | 51 => 62 | 20 => 20 | 213 => 63 | 46 => 64 | 232 => 67 | 233 => 68 | n => n, fun | 17 => 1 | 18 => 2 | 19 => 3 | n => n⟩
theorem Tryd.laysM246 : Go.Proofs.LaysM.n246 Tryd.prog Tryd.laysM246_ren := {
  mixed := by kernel_rfl
  f129 := Tryd.func42.trans (congrArg some (by kernel_rfl))
  f246 := Tryd.func36.trans (congrArg some (by kernel_rfl))
  f283 := Tryd.func37.trans (congrArg some (by kernel_rfl))
  f284 := Tryd.func38.trans (congrArg some (by kernel_rfl))
  f285 := Tryd.func39.trans (congrArg some (by kernel_rfl))
  f286 := Tryd.func40.trans (congrArg some (by kernel_rfl))
  f317 := Tryd.func41.trans (congrArg some (by kernel_rfl))
  f318 := Tryd.func43.trans (congrArg some (by kernel_rfl))
  f319 := Tryd.func44.trans (congrArg some (by kernel_rfl))
  f320 := Tryd.func45.trans (congrArg some (by kernel_rfl))
  f337 := Tryd.func46.trans (congrArg some (by kernel_rfl))
  f338 := Tryd.func47.trans (congrArg some (by kernel_rfl))
  t0 := Tryd.underlying0
  a0 := Tryd.isAgg0
  z0 := Tryd.sizeOf0
  v0 := Tryd.zeroValue0
  t2 := Tryd.underlying2
  a2 := Tryd.isAgg2
  z2 := Tryd.sizeOf2
  v2 := Tryd.zeroValue2
  t3 := Tryd.underlying3
  a3 := Tryd.isAgg3
  z3 := Tryd.sizeOf3
  v3 := Tryd.zeroValue3
  t4 := Tryd.underlying4
  a4 := Tryd.isAgg4
  z4 := Tryd.sizeOf4
  v4 := Tryd.zeroValue4
  t5 := Tryd.underlying5
  a5 := Tryd.isAgg5
  z5 := Tryd.sizeOf5
  v5 := Tryd.zeroValue5
  t9 := Tryd.underlying9
  a9 := Tryd.isAgg9
  z9 := Tryd.sizeOf9
  v9 := Tryd.zeroValue9
  t20 := Tryd.underlying20
  a20 := Tryd.isAgg20
  z20 := Tryd.sizeOf20
  v20 := Tryd.zeroValue20
  t37 := Tryd.underlying52
  a37 := Tryd.isAgg52
  z37 := Tryd.sizeOf52
  v37 := Tryd.zeroValue52
  t46 := Tryd.underlying64
  a46 := Tryd.isAgg64
  z46 := Tryd.sizeOf64
  v46 := Tryd.zeroValue64
  t51 := Tryd.underlying62
  a51 := Tryd.isAgg62
  z51 := Tryd.sizeOf62
  v51 := Tryd.zeroValue62
  t53 := Tryd.underlying55
  a53 := Tryd.isAgg55
  z53 := Tryd.sizeOf55
  v53 := Tryd.zeroValue55
  t171 := Tryd.underlying54
  a171 := Tryd.isAgg54
  z171 := Tryd.sizeOf54
  v171 := Tryd.zeroValue54
  t173 := Tryd.underlying58
  a173 := Tryd.isAgg58
  z173 := Tryd.sizeOf58
  v173 := Tryd.zeroValue58
  t212 := Tryd.underlying61
  a212 := Tryd.isAgg61
  z212 := Tryd.sizeOf61
  v212 := Tryd.zeroValue61
  t213 := Tryd.underlying63
  a213 := Tryd.isAgg63
  z213 := Tryd.sizeOf63
  t232 := Tryd.underlying67
  a232 := Tryd.isAgg67
  z232 := Tryd.sizeOf67
  v232 := Tryd.zeroValue67
  t233 := Tryd.underlying68
  a233 := Tryd.isAgg68
  z233 := Tryd.sizeOf68
  v233 := Tryd.zeroValue68
  g17 := by kernel_rfl
  g18 := by kernel_rfl
  g19 := by kernel_rfl
  i0 := by kernel_rfl
  i2 := by kernel_rfl
  i3 := by kernel_rfl
  i4 := by kernel_rfl
  i5 := by kernel_rfl
  i9 := by kernel_rfl
  i20 := by kernel_rfl
  i37 := by kernel_rfl
  i46 := by kernel_rfl
  i51 := by kernel_rfl
  i53 := by kernel_rfl
  i171 := by kernel_rfl
  i173 := by kernel_rfl
  i212 := by kernel_rfl
  i232 := by kernel_rfl
  i233 := by kernel_rfl
  m17 := by kernel_rfl
  m18 := by kernel_rfl
  m19 := by kernel_rfl }
open Go.RowKit Go.Sort Go.Lib in
/-- internal/strconv.FormatInt: "FormatInt returns the string representation of i in the given base": AT BASE 10: i's decimal numeral, for every int64. The world behind the call: the world before it, new blocks behind the heap, draws. (LAID: no walk: one application.) -/
theorem Tryd.internal_strconv_FormatInt_10 (n : Int) (h0 : -9223372036854775808 ≤ n) (h1 : n ≤ 9223372036854775807) (w : World) (htab : Lib.TabIs Tryd.prog w "internal/strconv.uint64pow10" .u64 Lib.pow10Tab) :
    Calls Tryd.prog 36 #[.int .i64 n, .int .i64 10] w fun e w' => e = .returned (.string ⟨(Lib.itoa n).toArray⟩) ∧ ∃ k os, w' = grow (w.drewN k) os := Any.internal_strconv_FormatInt_10 Tryd.laysM246 n h0 h1 w htab
def Tryd.lays246_ren : Go.Shelf.Ren := ⟨fun | 246 => 36 | 283 => 37 | 284 => 38 | 285 => 39 | 286 => 40 | 129 => 42 | 317 => 41 | 318 => 43 | 319 => 44 | 320 => 45 | 337 => 46 | 338 => 47 | n => n, fun | 2 => 2 | 3 => 3 | 9 => 9 | 4 => 4 | 171 => 54 | 0 => 0 | 53 => 55 | 37 => 52 | 5 => 5 | 173 => 58 | 212 => 61 | 51 => 62 | 20 => 20 | 213 => 63 | 46 => 64 | 232 => 67 | 233 => 68 | n => n, fun | 17 => 1 | 18 => 2 | 19 => 3 | n => n⟩
theorem Tryd.lays246 : Go.Proofs.Lays.n246 Tryd.prog Tryd.lays246_ren := {
  mixed := by kernel_rfl
  f129 := Tryd.func42.trans (congrArg some (by kernel_rfl))
  f246 := Tryd.func36.trans (congrArg some (by kernel_rfl))
  f283 := Tryd.func37.trans (congrArg some (by kernel_rfl))
  f284 := Tryd.func38.trans (congrArg some (by kernel_rfl))
  f285 := Tryd.func39.trans (congrArg some (by kernel_rfl))
  f286 := Tryd.func40.trans (congrArg some (by kernel_rfl))
  f317 := Tryd.func41.trans (congrArg some (by kernel_rfl))
  f318 := Tryd.func43.trans (congrArg some (by kernel_rfl))
  f319 := Tryd.func44.trans (congrArg some (by kernel_rfl))
  f320 := Tryd.func45.trans (congrArg some (by kernel_rfl))
  f337 := Tryd.func46.trans (congrArg some (by kernel_rfl))
  f338 := Tryd.func47.trans (congrArg some (by kernel_rfl))
  t0 := Tryd.underlying0
  a0 := Tryd.isAgg0
  z0 := Tryd.sizeOf0
  v0 := Tryd.zeroValue0
  t2 := Tryd.underlying2
  a2 := Tryd.isAgg2
  z2 := Tryd.sizeOf2
  v2 := Tryd.zeroValue2
  t3 := Tryd.underlying3
  a3 := Tryd.isAgg3
  z3 := Tryd.sizeOf3
  v3 := Tryd.zeroValue3
  t4 := Tryd.underlying4
  a4 := Tryd.isAgg4
  z4 := Tryd.sizeOf4
  v4 := Tryd.zeroValue4
  t5 := Tryd.underlying5
  a5 := Tryd.isAgg5
  z5 := Tryd.sizeOf5
  v5 := Tryd.zeroValue5
  t9 := Tryd.underlying9
  a9 := Tryd.isAgg9
  z9 := Tryd.sizeOf9
  v9 := Tryd.zeroValue9
  t20 := Tryd.underlying20
  a20 := Tryd.isAgg20
  z20 := Tryd.sizeOf20
  v20 := Tryd.zeroValue20
  t37 := Tryd.underlying52
  a37 := Tryd.isAgg52
  z37 := Tryd.sizeOf52
  v37 := Tryd.zeroValue52
  t46 := Tryd.underlying64
  a46 := Tryd.isAgg64
  z46 := Tryd.sizeOf64
  v46 := Tryd.zeroValue64
  t51 := Tryd.underlying62
  a51 := Tryd.isAgg62
  z51 := Tryd.sizeOf62
  v51 := Tryd.zeroValue62
  t53 := Tryd.underlying55
  a53 := Tryd.isAgg55
  z53 := Tryd.sizeOf55
  v53 := Tryd.zeroValue55
  t171 := Tryd.underlying54
  a171 := Tryd.isAgg54
  z171 := Tryd.sizeOf54
  v171 := Tryd.zeroValue54
  t173 := Tryd.underlying58
  a173 := Tryd.isAgg58
  z173 := Tryd.sizeOf58
  v173 := Tryd.zeroValue58
  t212 := Tryd.underlying61
  a212 := Tryd.isAgg61
  z212 := Tryd.sizeOf61
  v212 := Tryd.zeroValue61
  t213 := Tryd.underlying63
  a213 := Tryd.isAgg63
  z213 := Tryd.sizeOf63
  t232 := Tryd.underlying67
  a232 := Tryd.isAgg67
  z232 := Tryd.sizeOf67
  v232 := Tryd.zeroValue67
  t233 := Tryd.underlying68
  a233 := Tryd.isAgg68
  z233 := Tryd.sizeOf68
  v233 := Tryd.zeroValue68
  g17 := by kernel_rfl
  g18 := by kernel_rfl
  g19 := by kernel_rfl }
open Go.RowKit Go.Sort Go.Lib in
/-- THE ROAD WITHOUT THE TABLE: 0 <= i < 100: two constants are read, nothing is laid: no premise on the world, and the world is as it was. (LAID: no walk: one application.) -/
theorem Tryd.internal_strconv_FormatInt_10_small (i : Nat) (hi : i < 100) (w : World) :
    Calls Tryd.prog 36 #[.int .i64 i, .int .i64 10] w fun e w' => e = .returned (.string ⟨(Lib.decDigits i).toArray⟩) ∧ w' = w := Any.internal_strconv_FormatInt_10_small Tryd.lays246 i hi w
def Tryd.laysM243_ren : Go.Shelf.Ren := ⟨fun | 243 => 35 | 246 => 36 | 283 => 37 | 284 => 38 | 285 => 39 | 286 => 40 | 129 => 42 | 317 => 41 | 318 => 43 | 319 => 44 | 320 => 45 | 337 => 46 | 338 => 47 | n => n, fun | 3 => 3 | 9 => 9 | 2 => 2 | 4 => 4 | 171 => 54 | 0 => 0 | 53 => 55 | 37 => 52 | 5 => 5 | 173 => 58 | 212 => 61 | 51 => 62 | 20 => 20 | 213 => 63 | 46 => 64 | 232 => 67 | 233 => 68 | n => n, fun | 17 => 1 | 18 => 2 | 19 => 3 | n => n⟩
theorem Tryd.laysM243 : Go.Proofs.LaysM.n243 Tryd.prog Tryd.laysM243_ren := {
  mixed := by kernel_rfl
  f129 := Tryd.func42.trans (congrArg some (by kernel_rfl))
  f243 := Tryd.func35.trans (congrArg some (by kernel_rfl))
  f246 := Tryd.func36.trans (congrArg some (by kernel_rfl))
  f283 := Tryd.func37.trans (congrArg some (by kernel_rfl))
  f284 := Tryd.func38.trans (congrArg some (by kernel_rfl))
  f285 := Tryd.func39.trans (congrArg some (by kernel_rfl))
  f286 := Tryd.func40.trans (congrArg some (by kernel_rfl))
  f317 := Tryd.func41.trans (congrArg some (by kernel_rfl))
  f318 := Tryd.func43.trans (congrArg some (by kernel_rfl))
  f319 := Tryd.func44.trans (congrArg some (by kernel_rfl))
  f320 := Tryd.func45.trans (congrArg some (by kernel_rfl))
  f337 := Tryd.func46.trans (congrArg some (by kernel_rfl))
  f338 := Tryd.func47.trans (congrArg some (by kernel_rfl))
  t0 := Tryd.underlying0
  a0 := Tryd.isAgg0
  z0 := Tryd.sizeOf0
  v0 := Tryd.zeroValue0
  t2 := Tryd.underlying2
  a2 := Tryd.isAgg2
  z2 := Tryd.sizeOf2
  v2 := Tryd.zeroValue2
  t3 := Tryd.underlying3
  a3 := Tryd.isAgg3
  z3 := Tryd.sizeOf3
  v3 := Tryd.zeroValue3
  t4 := Tryd.underlying4
  a4 := Tryd.isAgg4
  z4 := Tryd.sizeOf4
  v4 := Tryd.zeroValue4
  t5 := Tryd.underlying5
  a5 := Tryd.isAgg5
  z5 := Tryd.sizeOf5
  v5 := Tryd.zeroValue5
  t9 := Tryd.underlying9
  a9 := Tryd.isAgg9
  z9 := Tryd.sizeOf9
  v9 := Tryd.zeroValue9
  t20 := Tryd.underlying20
  a20 := Tryd.isAgg20
  z20 := Tryd.sizeOf20
  v20 := Tryd.zeroValue20
  t37 := Tryd.underlying52
  a37 := Tryd.isAgg52
  z37 := Tryd.sizeOf52
  v37 := Tryd.zeroValue52
  t46 := Tryd.underlying64
  a46 := Tryd.isAgg64
  z46 := Tryd.sizeOf64
  v46 := Tryd.zeroValue64
  t51 := Tryd.underlying62
  a51 := Tryd.isAgg62
  z51 := Tryd.sizeOf62
  v51 := Tryd.zeroValue62
  t53 := Tryd.underlying55
  a53 := Tryd.isAgg55
  z53 := Tryd.sizeOf55
  v53 := Tryd.zeroValue55
  t171 := Tryd.underlying54
  a171 := Tryd.isAgg54
  z171 := Tryd.sizeOf54
  v171 := Tryd.zeroValue54
  t173 := Tryd.underlying58
  a173 := Tryd.isAgg58
  z173 := Tryd.sizeOf58
  v173 := Tryd.zeroValue58
  t212 := Tryd.underlying61
  a212 := Tryd.isAgg61
  z212 := Tryd.sizeOf61
  v212 := Tryd.zeroValue61
  t213 := Tryd.underlying63
  a213 := Tryd.isAgg63
  z213 := Tryd.sizeOf63
  t232 := Tryd.underlying67
  a232 := Tryd.isAgg67
  z232 := Tryd.sizeOf67
  v232 := Tryd.zeroValue67
  t233 := Tryd.underlying68
  a233 := Tryd.isAgg68
  z233 := Tryd.sizeOf68
  v233 := Tryd.zeroValue68
  g17 := by kernel_rfl
  g18 := by kernel_rfl
  g19 := by kernel_rfl
  i0 := by kernel_rfl
  i2 := by kernel_rfl
  i3 := by kernel_rfl
  i4 := by kernel_rfl
  i5 := by kernel_rfl
  i9 := by kernel_rfl
  i20 := by kernel_rfl
  i37 := by kernel_rfl
  i46 := by kernel_rfl
  i51 := by kernel_rfl
  i53 := by kernel_rfl
  i171 := by kernel_rfl
  i173 := by kernel_rfl
  i212 := by kernel_rfl
  i232 := by kernel_rfl
  i233 := by kernel_rfl
  m17 := by kernel_rfl
  m18 := by kernel_rfl
  m19 := by kernel_rfl }
open Go.RowKit Go.Sort Go.Lib in
/-- internal/strconv.Itoa: "Itoa is equivalent to FormatInt(int64(i), 10).": i's decimal numeral, for every int. (LAID: no walk: one application.) -/
theorem Tryd.internal_strconv_Itoa (n : Int) (h0 : -9223372036854775808 ≤ n) (h1 : n ≤ 9223372036854775807) (w : World) (htab : Lib.TabIs Tryd.prog w "internal/strconv.uint64pow10" .u64 Lib.pow10Tab) :
    Calls Tryd.prog 35 #[.int .i64 n] w fun e w' => e = .returned (.string ⟨(Lib.itoa n).toArray⟩) ∧ ∃ k os, w' = grow (w.drewN k) os := Any.internal_strconv_Itoa Tryd.laysM243 n h0 h1 w htab
def Tryd.lays243_ren : Go.Shelf.Ren := ⟨fun | 243 => 35 | 246 => 36 | 283 => 37 | 284 => 38 | 285 => 39 | 286 => 40 | 129 => 42 | 317 => 41 | 318 => 43 | 319 => 44 | 320 => 45 | 337 => 46 | 338 => 47 | n => n, fun | 3 => 3 | 9 => 9 | 2 => 2 | 4 => 4 | 171 => 54 | 0 => 0 | 53 => 55 | 37 => 52 | 5 => 5 | 173 => 58 | 212 => 61 | 51 => 62 | 20 => 20 | 213 => 63 | 46 => 64 | 232 => 67 | 233 => 68 | n => n, fun | 17 => 1 | 18 => 2 | 19 => 3 | n => n⟩
theorem Tryd.lays243 : Go.Proofs.Lays.n243 Tryd.prog Tryd.lays243_ren := {
  mixed := by kernel_rfl
  f129 := Tryd.func42.trans (congrArg some (by kernel_rfl))
  f243 := Tryd.func35.trans (congrArg some (by kernel_rfl))
  f246 := Tryd.func36.trans (congrArg some (by kernel_rfl))
  f283 := Tryd.func37.trans (congrArg some (by kernel_rfl))
  f284 := Tryd.func38.trans (congrArg some (by kernel_rfl))
  f285 := Tryd.func39.trans (congrArg some (by kernel_rfl))
  f286 := Tryd.func40.trans (congrArg some (by kernel_rfl))
  f317 := Tryd.func41.trans (congrArg some (by kernel_rfl))
  f318 := Tryd.func43.trans (congrArg some (by kernel_rfl))
  f319 := Tryd.func44.trans (congrArg some (by kernel_rfl))
  f320 := Tryd.func45.trans (congrArg some (by kernel_rfl))
  f337 := Tryd.func46.trans (congrArg some (by kernel_rfl))
  f338 := Tryd.func47.trans (congrArg some (by kernel_rfl))
  t0 := Tryd.underlying0
  a0 := Tryd.isAgg0
  z0 := Tryd.sizeOf0
  v0 := Tryd.zeroValue0
  t2 := Tryd.underlying2
  a2 := Tryd.isAgg2
  z2 := Tryd.sizeOf2
  v2 := Tryd.zeroValue2
  t3 := Tryd.underlying3
  a3 := Tryd.isAgg3
  z3 := Tryd.sizeOf3
  v3 := Tryd.zeroValue3
  t4 := Tryd.underlying4
  a4 := Tryd.isAgg4
  z4 := Tryd.sizeOf4
  v4 := Tryd.zeroValue4
  t5 := Tryd.underlying5
  a5 := Tryd.isAgg5
  z5 := Tryd.sizeOf5
  v5 := Tryd.zeroValue5
  t9 := Tryd.underlying9
  a9 := Tryd.isAgg9
  z9 := Tryd.sizeOf9
  v9 := Tryd.zeroValue9
  t20 := Tryd.underlying20
  a20 := Tryd.isAgg20
  z20 := Tryd.sizeOf20
  v20 := Tryd.zeroValue20
  t37 := Tryd.underlying52
  a37 := Tryd.isAgg52
  z37 := Tryd.sizeOf52
  v37 := Tryd.zeroValue52
  t46 := Tryd.underlying64
  a46 := Tryd.isAgg64
  z46 := Tryd.sizeOf64
  v46 := Tryd.zeroValue64
  t51 := Tryd.underlying62
  a51 := Tryd.isAgg62
  z51 := Tryd.sizeOf62
  v51 := Tryd.zeroValue62
  t53 := Tryd.underlying55
  a53 := Tryd.isAgg55
  z53 := Tryd.sizeOf55
  v53 := Tryd.zeroValue55
  t171 := Tryd.underlying54
  a171 := Tryd.isAgg54
  z171 := Tryd.sizeOf54
  v171 := Tryd.zeroValue54
  t173 := Tryd.underlying58
  a173 := Tryd.isAgg58
  z173 := Tryd.sizeOf58
  v173 := Tryd.zeroValue58
  t212 := Tryd.underlying61
  a212 := Tryd.isAgg61
  z212 := Tryd.sizeOf61
  v212 := Tryd.zeroValue61
  t213 := Tryd.underlying63
  a213 := Tryd.isAgg63
  z213 := Tryd.sizeOf63
  t232 := Tryd.underlying67
  a232 := Tryd.isAgg67
  z232 := Tryd.sizeOf67
  v232 := Tryd.zeroValue67
  t233 := Tryd.underlying68
  a233 := Tryd.isAgg68
  z233 := Tryd.sizeOf68
  v233 := Tryd.zeroValue68
  g17 := by kernel_rfl
  g18 := by kernel_rfl
  g19 := by kernel_rfl }
open Go.RowKit Go.Sort Go.Lib in
/-- THE ROAD WITHOUT THE TABLE: 0 <= i < 100. (LAID: no walk: one application.) -/
theorem Tryd.internal_strconv_Itoa_small (i : Nat) (hi : i < 100) (w : World) :
    Calls Tryd.prog 35 #[.int .i64 i] w fun e w' => e = .returned (.string ⟨(Lib.decDigits i).toArray⟩) ∧ w' = w := Any.internal_strconv_Itoa_small Tryd.lays243 i hi w
def Tryd.laysM171_ren : Go.Shelf.Ren := ⟨fun | 171 => 33 | 243 => 35 | 246 => 36 | 283 => 37 | 284 => 38 | 285 => 39 | 286 => 40 | 129 => 42 | 317 => 41 | 318 => 43 | 319 => 44 | 320 => 45 | 337 => 46 | 338 => 47 | n => n, fun | 3 => 3 | 9 => 9 | 2 => 2 | 4 => 4 | 171 => 54 | 0 => 0 | 53 => 55 | 37 => 52 | 5 => 5 | 173 => 58 | 212 => 61 | 51 => 62 | 20 => 20 | 213 => 63 | 46 => 64 | 232 => 67 | 233 => 68 | n => n, fun | 17 => 1 | 18 => 2 | 19 => 3 | n => n⟩
theorem Tryd.laysM171 : Go.Proofs.LaysM.n171 Tryd.prog Tryd.laysM171_ren := {
  mixed := by kernel_rfl
  f129 := Tryd.func42.trans (congrArg some (by kernel_rfl))
  f171 := Tryd.func33.trans (congrArg some (by kernel_rfl))
  f243 := Tryd.func35.trans (congrArg some (by kernel_rfl))
  f246 := Tryd.func36.trans (congrArg some (by kernel_rfl))
  f283 := Tryd.func37.trans (congrArg some (by kernel_rfl))
  f284 := Tryd.func38.trans (congrArg some (by kernel_rfl))
  f285 := Tryd.func39.trans (congrArg some (by kernel_rfl))
  f286 := Tryd.func40.trans (congrArg some (by kernel_rfl))
  f317 := Tryd.func41.trans (congrArg some (by kernel_rfl))
  f318 := Tryd.func43.trans (congrArg some (by kernel_rfl))
  f319 := Tryd.func44.trans (congrArg some (by kernel_rfl))
  f320 := Tryd.func45.trans (congrArg some (by kernel_rfl))
  f337 := Tryd.func46.trans (congrArg some (by kernel_rfl))
  f338 := Tryd.func47.trans (congrArg some (by kernel_rfl))
  t0 := Tryd.underlying0
  a0 := Tryd.isAgg0
  z0 := Tryd.sizeOf0
  v0 := Tryd.zeroValue0
  t2 := Tryd.underlying2
  a2 := Tryd.isAgg2
  z2 := Tryd.sizeOf2
  v2 := Tryd.zeroValue2
  t3 := Tryd.underlying3
  a3 := Tryd.isAgg3
  z3 := Tryd.sizeOf3
  v3 := Tryd.zeroValue3
  t4 := Tryd.underlying4
  a4 := Tryd.isAgg4
  z4 := Tryd.sizeOf4
  v4 := Tryd.zeroValue4
  t5 := Tryd.underlying5
  a5 := Tryd.isAgg5
  z5 := Tryd.sizeOf5
  v5 := Tryd.zeroValue5
  t9 := Tryd.underlying9
  a9 := Tryd.isAgg9
  z9 := Tryd.sizeOf9
  v9 := Tryd.zeroValue9
  t20 := Tryd.underlying20
  a20 := Tryd.isAgg20
  z20 := Tryd.sizeOf20
  v20 := Tryd.zeroValue20
  t37 := Tryd.underlying52
  a37 := Tryd.isAgg52
  z37 := Tryd.sizeOf52
  v37 := Tryd.zeroValue52
  t46 := Tryd.underlying64
  a46 := Tryd.isAgg64
  z46 := Tryd.sizeOf64
  v46 := Tryd.zeroValue64
  t51 := Tryd.underlying62
  a51 := Tryd.isAgg62
  z51 := Tryd.sizeOf62
  v51 := Tryd.zeroValue62
  t53 := Tryd.underlying55
  a53 := Tryd.isAgg55
  z53 := Tryd.sizeOf55
  v53 := Tryd.zeroValue55
  t171 := Tryd.underlying54
  a171 := Tryd.isAgg54
  z171 := Tryd.sizeOf54
  v171 := Tryd.zeroValue54
  t173 := Tryd.underlying58
  a173 := Tryd.isAgg58
  z173 := Tryd.sizeOf58
  v173 := Tryd.zeroValue58
  t212 := Tryd.underlying61
  a212 := Tryd.isAgg61
  z212 := Tryd.sizeOf61
  v212 := Tryd.zeroValue61
  t213 := Tryd.underlying63
  a213 := Tryd.isAgg63
  z213 := Tryd.sizeOf63
  t232 := Tryd.underlying67
  a232 := Tryd.isAgg67
  z232 := Tryd.sizeOf67
  v232 := Tryd.zeroValue67
  t233 := Tryd.underlying68
  a233 := Tryd.isAgg68
  z233 := Tryd.sizeOf68
  v233 := Tryd.zeroValue68
  g17 := by kernel_rfl
  g18 := by kernel_rfl
  g19 := by kernel_rfl
  i0 := by kernel_rfl
  i2 := by kernel_rfl
  i3 := by kernel_rfl
  i4 := by kernel_rfl
  i5 := by kernel_rfl
  i9 := by kernel_rfl
  i20 := by kernel_rfl
  i37 := by kernel_rfl
  i46 := by kernel_rfl
  i51 := by kernel_rfl
  i53 := by kernel_rfl
  i171 := by kernel_rfl
  i173 := by kernel_rfl
  i212 := by kernel_rfl
  i232 := by kernel_rfl
  i233 := by kernel_rfl
  m17 := by kernel_rfl
  m18 := by kernel_rfl
  m19 := by kernel_rfl }
open Go.RowKit Go.Sort Go.Lib in
/-- strconv.Itoa: "Itoa is equivalent to FormatInt(int64(i), 10).": i's DECIMAL NUMERAL ('Lib.itoa': a '-' where i is negative, then the digits), FOR EVERY int. The world behind the call: the world before it, new blocks behind the heap (the library's 'var a [24]byte'), draws. (LAID: no walk: one application.) -/
theorem Tryd.strconv_Itoa (n : Int) (h0 : -9223372036854775808 ≤ n) (h1 : n ≤ 9223372036854775807) (w : World) (htab : Lib.TabIs Tryd.prog w "internal/strconv.uint64pow10" .u64 Lib.pow10Tab) :
    Calls Tryd.prog 33 #[.int .i64 n] w fun e w' => e = .returned (.string ⟨(Lib.itoa n).toArray⟩) ∧ ∃ k os, w' = grow (w.drewN k) os := Any.strconv_Itoa Tryd.laysM171 n h0 h1 w htab
def Tryd.lays171_ren : Go.Shelf.Ren := ⟨fun | 171 => 33 | 243 => 35 | 246 => 36 | 283 => 37 | 284 => 38 | 285 => 39 | 286 => 40 | 129 => 42 | 317 => 41 | 318 => 43 | 319 => 44 | 320 => 45 | 337 => 46 | 338 => 47 | n => n, fun | 3 => 3 | 9 => 9 | 2 => 2 | 4 => 4 | 171 => 54 | 0 => 0 | 53 => 55 | 37 => 52 | 5 => 5 | 173 => 58 | 212 => 61 | 51 => 62 | 20 => 20 | 213 => 63 | 46 => 64 | 232 => 67 | 233 => 68 | n => n, fun | 17 => 1 | 18 => 2 | 19 => 3 | n => n⟩
theorem Tryd.lays171 : Go.Proofs.Lays.n171 Tryd.prog Tryd.lays171_ren := {
  mixed := by kernel_rfl
  f129 := Tryd.func42.trans (congrArg some (by kernel_rfl))
  f171 := Tryd.func33.trans (congrArg some (by kernel_rfl))
  f243 := Tryd.func35.trans (congrArg some (by kernel_rfl))
  f246 := Tryd.func36.trans (congrArg some (by kernel_rfl))
  f283 := Tryd.func37.trans (congrArg some (by kernel_rfl))
  f284 := Tryd.func38.trans (congrArg some (by kernel_rfl))
  f285 := Tryd.func39.trans (congrArg some (by kernel_rfl))
  f286 := Tryd.func40.trans (congrArg some (by kernel_rfl))
  f317 := Tryd.func41.trans (congrArg some (by kernel_rfl))
  f318 := Tryd.func43.trans (congrArg some (by kernel_rfl))
  f319 := Tryd.func44.trans (congrArg some (by kernel_rfl))
  f320 := Tryd.func45.trans (congrArg some (by kernel_rfl))
  f337 := Tryd.func46.trans (congrArg some (by kernel_rfl))
  f338 := Tryd.func47.trans (congrArg some (by kernel_rfl))
  t0 := Tryd.underlying0
  a0 := Tryd.isAgg0
  z0 := Tryd.sizeOf0
  v0 := Tryd.zeroValue0
  t2 := Tryd.underlying2
  a2 := Tryd.isAgg2
  z2 := Tryd.sizeOf2
  v2 := Tryd.zeroValue2
  t3 := Tryd.underlying3
  a3 := Tryd.isAgg3
  z3 := Tryd.sizeOf3
  v3 := Tryd.zeroValue3
  t4 := Tryd.underlying4
  a4 := Tryd.isAgg4
  z4 := Tryd.sizeOf4
  v4 := Tryd.zeroValue4
  t5 := Tryd.underlying5
  a5 := Tryd.isAgg5
  z5 := Tryd.sizeOf5
  v5 := Tryd.zeroValue5
  t9 := Tryd.underlying9
  a9 := Tryd.isAgg9
  z9 := Tryd.sizeOf9
  v9 := Tryd.zeroValue9
  t20 := Tryd.underlying20
  a20 := Tryd.isAgg20
  z20 := Tryd.sizeOf20
  v20 := Tryd.zeroValue20
  t37 := Tryd.underlying52
  a37 := Tryd.isAgg52
  z37 := Tryd.sizeOf52
  v37 := Tryd.zeroValue52
  t46 := Tryd.underlying64
  a46 := Tryd.isAgg64
  z46 := Tryd.sizeOf64
  v46 := Tryd.zeroValue64
  t51 := Tryd.underlying62
  a51 := Tryd.isAgg62
  z51 := Tryd.sizeOf62
  v51 := Tryd.zeroValue62
  t53 := Tryd.underlying55
  a53 := Tryd.isAgg55
  z53 := Tryd.sizeOf55
  v53 := Tryd.zeroValue55
  t171 := Tryd.underlying54
  a171 := Tryd.isAgg54
  z171 := Tryd.sizeOf54
  v171 := Tryd.zeroValue54
  t173 := Tryd.underlying58
  a173 := Tryd.isAgg58
  z173 := Tryd.sizeOf58
  v173 := Tryd.zeroValue58
  t212 := Tryd.underlying61
  a212 := Tryd.isAgg61
  z212 := Tryd.sizeOf61
  v212 := Tryd.zeroValue61
  t213 := Tryd.underlying63
  a213 := Tryd.isAgg63
  z213 := Tryd.sizeOf63
  t232 := Tryd.underlying67
  a232 := Tryd.isAgg67
  z232 := Tryd.sizeOf67
  v232 := Tryd.zeroValue67
  t233 := Tryd.underlying68
  a233 := Tryd.isAgg68
  z233 := Tryd.sizeOf68
  v233 := Tryd.zeroValue68
  g17 := by kernel_rfl
  g18 := by kernel_rfl
  g19 := by kernel_rfl }
open Go.RowKit Go.Sort Go.Lib in
/-- THE ROAD WITHOUT THE TABLE: 0 <= i < 100: NO PREMISE ON THE WORLD, AND THE WORLD IS AS IT WAS: a row that keeps its argument in that range need list no table ('laid = []'). (LAID: no walk: one application.) -/
theorem Tryd.strconv_Itoa_small (i : Nat) (hi : i < 100) (w : World) :
    Calls Tryd.prog 33 #[.int .i64 i] w fun e w' => e = .returned (.string ⟨(Lib.decDigits i).toArray⟩) ∧ w' = w := Any.strconv_Itoa_small Tryd.lays171 i hi w
end Go.Proofs

set_option maxRecDepth 100000
set_option linter.unusedSimpArgs false
set_option linter.unusedVariables false
namespace Go.Proofs.YtabmhpgbfjkkcaaDoor
open Go Ab Pl
theorem strconv_Itoa (n : Int) (h0 : -9223372036854775808 ≤ n) (h1 : n ≤ 9223372036854775807) : ACalls E.P 33 [.int .i64 n] (.d (.str (Go.Lib.itoa n))) :=
  ACalls.itoa n ⟨_, Tryd.func33, by kernel_rfl, by kernel_rfl⟩ (by have := Go.Lib.itoa_length_le n h0 h1; simp only [maxLen]; omega) (fun w S h => amb_is1 h) (fun h0 h1 w ht => Tryd.strconv_Itoa n h0 h1 w ht)

end Go.Proofs.YtabmhpgbfjkkcaaDoor

set_option maxRecDepth 100000
set_option linter.unusedSimpArgs false
set_option linter.unusedVariables false
namespace Go.Proofs.YtabmhpgbfjkkcaaDoor
open Go Ab Pl
theorem custody_Text (c : Custody) : ACalls E.P 23 [encCus c] (.d (.str (textR c))) := by
  refine ACalls.intro E_ok Tryd.func23 rfl rfl Tryd.ntmps23 Tryd.results23 (Nat.le_of_ble_eq_true rfl) fun hok base S0 w0 => ?_
  -- region 0
  refine AWp.rseq E_ok [0, 1, 2, 3, 4, 5, 8] fun K hK => ?_
  simp [encCus_eq]
  repeat refine ⟨by first | omega | assumption | (simp only [maxLen]; omega) | (intros; omega) | decide, ?_⟩
  refine hK _ ?_
  clear hK K
  refine AWp.seq ?_
  -- region 1
  refine AWp.rseq E_ok [0, 1, 2, 3, 4, 5, 8] fun K hK => ?_
  simp [encCus_eq]
  repeat refine ⟨by first | omega | assumption | (simp only [maxLen]; omega) | (intros; omega) | decide, ?_⟩
  refine meet.of (custody_Right c) ?_
  simp [encCus_eq]
  repeat refine ⟨by first | omega | assumption | (simp only [maxLen]; omega) | (intros; omega) | decide, ?_⟩
  refine hK _ ?_
  clear hK K
  refine AWp.cond rfl (fun h8 => ?_) (fun h8 => ?_)
  · try simp at h8
    -- region 2
    refine AWp.rseq E_ok [0, 1, 2, 3, 4, 5, 8] fun K hK => ?_
    simp [encCus_eq, h8]
    repeat refine ⟨by first | omega | assumption | (simp only [maxLen]; omega) | (intros; omega) | decide, ?_⟩
    refine hK _ ?_
    clear hK K
    refine AWp.ret ?_
    repeat first | refine thenN ?_ | refine thenX ?_ | refine thenR ?_ | refine blockN ?_ | refine blockR ?_ | refine blockX ?_ | refine blockM rfl ?_
    first | (rw [text_bad h8]; simp [RetOk, RV]; done) | (rw [text_ok h8]; simp [RetOk, RV, textT, hst])
  · try simp at h8
    have hrg := right_rng h8
    have hln := right_len h8
    refine AWp.skip ?_
    repeat first | refine thenN ?_ | refine thenX ?_ | refine thenR ?_ | refine blockN ?_ | refine blockR ?_ | refine blockX ?_ | refine blockM rfl ?_
    -- region 3
    refine AWp.rseqQ E_ok mixed [0, 1, 2, 3, 4, 5, 8] (by kernel_rfl) fun K hK => ?_
    simp [encCus_eq, h8]
    repeat refine ⟨by first | omega | assumption | (simp only [maxLen]; omega) | (intros; omega) | decide, ?_⟩
    refine meet.of (strconv_Itoa c.br (by omega) (by omega)) ?_
    simp [encCus_eq, h8]
    repeat refine ⟨by first | omega | assumption | (simp only [maxLen]; omega) | (intros; omega) | decide, ?_⟩
    refine meet.of (strconv_Itoa c.who (by omega) (by omega)) ?_
    simp [encCus_eq, h8]
    repeat refine ⟨by first | omega | assumption | (simp only [maxLen]; omega) | (intros; omega) | decide, ?_⟩
    refine hK _ ?_
    clear hK K
    -- region 4
    refine AWp.rseq E_ok [0, 1, 2, 3, 4, 5, 8] fun K hK => ?_
    simp [encCus_eq, h8]
    repeat refine ⟨by first | omega | assumption | (simp only [maxLen]; omega) | (intros; omega) | decide, ?_⟩
    refine meet.of (strconv_Itoa c.to (by omega) (by omega)) ?_
    simp [encCus_eq, h8]
    repeat refine ⟨by first | omega | assumption | (simp only [maxLen]; omega) | (intros; omega) | decide, ?_⟩
    refine hK _ ?_
    clear hK K
    rcases (by omega : c.st = 1 ∨ c.st = 2 ∨ c.st = 3 ∨ c.st = 4 ∨ c.st = 5 ∨ c.st = 6 ∨ c.st = 7 ∨ c.st = 8 ∨ c.st = 9 ∨ c.st = 10 ∨ c.st = 11 ∨ c.st = 12) with hst | hst | hst | hst | hst | hst | hst | hst | hst | hst | hst | hst
    · skip
      skip
      -- region 5
      refine AWp.rseq E_ok [0, 1, 2, 3, 4, 5, 8] fun K hK => ?_
      simp [encCus_eq, h8, hst]
      repeat refine ⟨by first | omega | assumption | (simp only [maxLen]; omega) | (intros; omega) | decide, ?_⟩
      refine hK _ ?_
      clear hK K
      refine AWp.ret ?_
      repeat first | refine thenN ?_ | refine thenX ?_ | refine thenR ?_ | refine blockN ?_ | refine blockR ?_ | refine blockX ?_ | refine blockM rfl ?_
      first | (rw [text_bad h8]; simp [RetOk, RV]; done) | (rw [text_ok h8]; simp [RetOk, RV, textT, hst])
    · skip
      skip
      -- region 5
      refine AWp.rseq E_ok [0, 1, 2, 3, 4, 5, 8] fun K hK => ?_
      simp [encCus_eq, h8, hst]
      repeat refine ⟨by first | omega | assumption | (simp only [maxLen]; omega) | (intros; omega) | decide, ?_⟩
      refine hK _ ?_
      clear hK K
      refine AWp.ret ?_
      repeat first | refine thenN ?_ | refine thenX ?_ | refine thenR ?_ | refine blockN ?_ | refine blockR ?_ | refine blockX ?_ | refine blockM rfl ?_
      first | (rw [text_bad h8]; simp [RetOk, RV]; done) | (rw [text_ok h8]; simp [RetOk, RV, textT, hst])
    · skip
      skip
      -- region 5
      refine AWp.rseq E_ok [0, 1, 2, 3, 4, 5, 8] fun K hK => ?_
      simp [encCus_eq, h8, hst]
      repeat refine ⟨by first | omega | assumption | (simp only [maxLen]; omega) | (intros; omega) | decide, ?_⟩
      refine hK _ ?_
      clear hK K
      refine AWp.ret ?_
      repeat first | refine thenN ?_ | refine thenX ?_ | refine thenR ?_ | refine blockN ?_ | refine blockR ?_ | refine blockX ?_ | refine blockM rfl ?_
      first | (rw [text_bad h8]; simp [RetOk, RV]; done) | (rw [text_ok h8]; simp [RetOk, RV, textT, hst])
    · skip
      skip
      -- region 5
      refine AWp.rseq E_ok [0, 1, 2, 3, 4, 5, 8] fun K hK => ?_
      simp [encCus_eq, h8, hst]
      repeat refine ⟨by first | omega | assumption | (simp only [maxLen]; omega) | (intros; omega) | decide, ?_⟩
      refine hK _ ?_
      clear hK K
      refine AWp.ret ?_
      repeat first | refine thenN ?_ | refine thenX ?_ | refine thenR ?_ | refine blockN ?_ | refine blockR ?_ | refine blockX ?_ | refine blockM rfl ?_
      first | (rw [text_bad h8]; simp [RetOk, RV]; done) | (rw [text_ok h8]; simp [RetOk, RV, textT, hst])
    · skip
      skip
      -- region 5
      refine AWp.rseq E_ok [0, 1, 2, 3, 4, 5, 8] fun K hK => ?_
      simp [encCus_eq, h8, hst]
      repeat refine ⟨by first | omega | assumption | (simp only [maxLen]; omega) | (intros; omega) | decide, ?_⟩
      refine hK _ ?_
      clear hK K
      refine AWp.ret ?_
      repeat first | refine thenN ?_ | refine thenX ?_ | refine thenR ?_ | refine blockN ?_ | refine blockR ?_ | refine blockX ?_ | refine blockM rfl ?_
      first | (rw [text_bad h8]; simp [RetOk, RV]; done) | (rw [text_ok h8]; simp [RetOk, RV, textT, hst])
    · skip
      skip
      -- region 5
      refine AWp.rseq E_ok [0, 1, 2, 3, 4, 5, 8] fun K hK => ?_
      simp [encCus_eq, h8, hst]
      repeat refine ⟨by first | omega | assumption | (simp only [maxLen]; omega) | (intros; omega) | decide, ?_⟩
      refine hK _ ?_
      clear hK K
      refine AWp.ret ?_
      repeat first | refine thenN ?_ | refine thenX ?_ | refine thenR ?_ | refine blockN ?_ | refine blockR ?_ | refine blockX ?_ | refine blockM rfl ?_
      first | (rw [text_bad h8]; simp [RetOk, RV]; done) | (rw [text_ok h8]; simp [RetOk, RV, textT, hst])
    · skip
      skip
      -- region 5
      refine AWp.rseq E_ok [0, 1, 2, 3, 4, 5, 8] fun K hK => ?_
      simp [encCus_eq, h8, hst]
      repeat refine ⟨by first | omega | assumption | (simp only [maxLen]; omega) | (intros; omega) | decide, ?_⟩
      refine hK _ ?_
      clear hK K
      refine AWp.ret ?_
      repeat first | refine thenN ?_ | refine thenX ?_ | refine thenR ?_ | refine blockN ?_ | refine blockR ?_ | refine blockX ?_ | refine blockM rfl ?_
      first | (rw [text_bad h8]; simp [RetOk, RV]; done) | (rw [text_ok h8]; simp [RetOk, RV, textT, hst])
    · skip
      skip
      -- region 5
      refine AWp.rseq E_ok [0, 1, 2, 3, 4, 5, 8] fun K hK => ?_
      simp [encCus_eq, h8, hst]
      repeat refine ⟨by first | omega | assumption | (simp only [maxLen]; omega) | (intros; omega) | decide, ?_⟩
      refine hK _ ?_
      clear hK K
      refine AWp.ret ?_
      repeat first | refine thenN ?_ | refine thenX ?_ | refine thenR ?_ | refine blockN ?_ | refine blockR ?_ | refine blockX ?_ | refine blockM rfl ?_
      first | (rw [text_bad h8]; simp [RetOk, RV]; done) | (rw [text_ok h8]; simp [RetOk, RV, textT, hst])
    · skip
      skip
      -- region 5
      refine AWp.rseq E_ok [0, 1, 2, 3, 4, 5, 8] fun K hK => ?_
      simp [encCus_eq, h8, hst]
      repeat refine ⟨by first | omega | assumption | (simp only [maxLen]; omega) | (intros; omega) | decide, ?_⟩
      refine hK _ ?_
      clear hK K
      refine AWp.ret ?_
      repeat first | refine thenN ?_ | refine thenX ?_ | refine thenR ?_ | refine blockN ?_ | refine blockR ?_ | refine blockX ?_ | refine blockM rfl ?_
      first | (rw [text_bad h8]; simp [RetOk, RV]; done) | (rw [text_ok h8]; simp [RetOk, RV, textT, hst])
    · skip
      skip
      -- region 5
      refine AWp.rseq E_ok [0, 1, 2, 3, 4, 5, 8] fun K hK => ?_
      simp [encCus_eq, h8, hst]
      repeat refine ⟨by first | omega | assumption | (simp only [maxLen]; omega) | (intros; omega) | decide, ?_⟩
      refine hK _ ?_
      clear hK K
      refine AWp.ret ?_
      repeat first | refine thenN ?_ | refine thenX ?_ | refine thenR ?_ | refine blockN ?_ | refine blockR ?_ | refine blockX ?_ | refine blockM rfl ?_
      first | (rw [text_bad h8]; simp [RetOk, RV]; done) | (rw [text_ok h8]; simp [RetOk, RV, textT, hst])
    · skip
      skip
      -- region 5
      refine AWp.rseq E_ok [0, 1, 2, 3, 4, 5, 8] fun K hK => ?_
      simp [encCus_eq, h8, hst]
      repeat refine ⟨by first | omega | assumption | (simp only [maxLen]; omega) | (intros; omega) | decide, ?_⟩
      refine hK _ ?_
      clear hK K
      refine AWp.ret ?_
      repeat first | refine thenN ?_ | refine thenX ?_ | refine thenR ?_ | refine blockN ?_ | refine blockR ?_ | refine blockX ?_ | refine blockM rfl ?_
      first | (rw [text_bad h8]; simp [RetOk, RV]; done) | (rw [text_ok h8]; simp [RetOk, RV, textT, hst])
    · skip
      skip
      -- region 5
      refine AWp.rseq E_ok [0, 1, 2, 3, 4, 5, 8] fun K hK => ?_
      simp [encCus_eq, h8, hst]
      repeat refine ⟨by first | omega | assumption | (simp only [maxLen]; omega) | (intros; omega) | decide, ?_⟩
      refine hK _ ?_
      clear hK K
      refine AWp.ret ?_
      repeat first | refine thenN ?_ | refine thenX ?_ | refine thenR ?_ | refine blockN ?_ | refine blockR ?_ | refine blockX ?_ | refine blockM rfl ?_
      first | (rw [text_bad h8]; simp [RetOk, RV]; done) | (rw [text_ok h8]; simp [RetOk, RV, textT, hst])
end Go.Proofs.YtabmhpgbfjkkcaaDoor

set_option maxRecDepth 100000
set_option linter.unusedSimpArgs false
set_option linter.unusedVariables false
namespace Go.Proofs.YtabmhpgbfjkkcaaDoor
open Go Ab Pl
theorem custody_Away (c : Custody) : ACalls E.P 21 [encCus c] (.d (.bool (awayB c))) := by
  refine ACalls.intro E_ok Tryd.func21 rfl rfl Tryd.ntmps21 Tryd.results21 (Nat.le_of_ble_eq_true rfl) fun hok base S0 w0 => ?_
  -- region 0
  refine AWp.rseq E_ok [0, 1, 2, 4, 5] fun K hK => ?_
  simp [encCus_eq]
  repeat refine ⟨by first | omega | assumption | (simp only [maxLen]; omega) | (intros; omega) | decide, ?_⟩
  refine hK _ ?_
  clear hK K
  refine AWp.seq ?_
  -- region 1
  refine AWp.rseq E_ok [0, 1, 2, 4, 5] fun K hK => ?_
  simp [encCus_eq]
  repeat refine ⟨by first | omega | assumption | (simp only [maxLen]; omega) | (intros; omega) | decide, ?_⟩
  refine hK _ ?_
  clear hK K
  refine AWp.block ?_
  refine AWp.seq ?_
  -- region 2
  refine AWp.rseq E_ok [0, 1, 2, 4, 5] fun K hK => ?_
  simp [encCus_eq]
  repeat refine ⟨by first | omega | assumption | (simp only [maxLen]; omega) | (intros; omega) | decide, ?_⟩
  refine hK _ ?_
  clear hK K
  refine AWp.cond rfl (fun h5 => ?_) (fun h5 => ?_)
  · try simp at h5
    refine AWp.skip ?_
    repeat first | refine thenN ?_ | refine thenX ?_ | refine thenR ?_ | refine blockN ?_ | refine blockR ?_ | refine blockX ?_ | refine blockM rfl ?_
    refine AWp.cond rfl (fun hz => ?_) (fun hz => ?_)
    · clear hz
      -- region 7
      refine AWp.rseq E_ok [0, 1, 2, 4, 5] fun K hK => ?_
      simp [encCus_eq, h5]
      repeat refine ⟨by first | omega | assumption | (simp only [maxLen]; omega) | (intros; omega) | decide, ?_⟩
      refine hK _ ?_
      clear hK K
      refine AWp.ret ?_
      repeat first | refine thenN ?_ | refine thenX ?_ | refine thenR ?_ | refine blockN ?_ | refine blockR ?_ | refine blockX ?_ | refine blockM rfl ?_
      simp [RetOk, RV]; (try rw [Bool.eq_iff_iff]); simp [awayB]; omega
    · exact absurd hz (by simp [h5])
  · try simp at h5
    -- region 3
    refine AWp.rseq E_ok [0, 1, 2, 4, 5] fun K hK => ?_
    simp [encCus_eq, h5]
    repeat refine ⟨by first | omega | assumption | (simp only [maxLen]; omega) | (intros; omega) | decide, ?_⟩
    refine hK _ ?_
    clear hK K
    refine AWp.cond rfl (fun h5 => ?_) (fun h5 => ?_)
    · try simp at h5
      refine AWp.skip ?_
      repeat first | refine thenN ?_ | refine thenX ?_ | refine thenR ?_ | refine blockN ?_ | refine blockR ?_ | refine blockX ?_ | refine blockM rfl ?_
      refine AWp.cond rfl (fun hz => ?_) (fun hz => ?_)
      · clear hz
        -- region 7
        refine AWp.rseq E_ok [0, 1, 2, 4, 5] fun K hK => ?_
        simp [encCus_eq, h5, h5]
        repeat refine ⟨by first | omega | assumption | (simp only [maxLen]; omega) | (intros; omega) | decide, ?_⟩
        refine hK _ ?_
        clear hK K
        refine AWp.ret ?_
        repeat first | refine thenN ?_ | refine thenX ?_ | refine thenR ?_ | refine blockN ?_ | refine blockR ?_ | refine blockX ?_ | refine blockM rfl ?_
        simp [RetOk, RV]; (try rw [Bool.eq_iff_iff]); simp [awayB]; omega
      · exact absurd hz (by simp [h5])
    · try simp at h5
      -- region 4
      refine AWp.rseq E_ok [0, 1, 2, 4, 5] fun K hK => ?_
      simp [encCus_eq, h5, h5]
      repeat refine ⟨by first | omega | assumption | (simp only [maxLen]; omega) | (intros; omega) | decide, ?_⟩
      refine hK _ ?_
      clear hK K
      refine AWp.cond rfl (fun h5 => ?_) (fun h5 => ?_)
      · try simp at h5
        refine AWp.skip ?_
        repeat first | refine thenN ?_ | refine thenX ?_ | refine thenR ?_ | refine blockN ?_ | refine blockR ?_ | refine blockX ?_ | refine blockM rfl ?_
        refine AWp.cond rfl (fun hz => ?_) (fun hz => ?_)
        · clear hz
          -- region 7
          refine AWp.rseq E_ok [0, 1, 2, 4, 5] fun K hK => ?_
          simp [encCus_eq, h5, h5, h5]
          repeat refine ⟨by first | omega | assumption | (simp only [maxLen]; omega) | (intros; omega) | decide, ?_⟩
          refine hK _ ?_
          clear hK K
          refine AWp.ret ?_
          repeat first | refine thenN ?_ | refine thenX ?_ | refine thenR ?_ | refine blockN ?_ | refine blockR ?_ | refine blockX ?_ | refine blockM rfl ?_
          simp [RetOk, RV]; (try rw [Bool.eq_iff_iff]); simp [awayB]; omega
        · exact absurd hz (by simp [h5])
      · try simp at h5
        -- region 5
        refine AWp.rseq E_ok [0, 1, 2, 4, 5] fun K hK => ?_
        simp [encCus_eq, h5, h5, h5]
        repeat refine ⟨by first | omega | assumption | (simp only [maxLen]; omega) | (intros; omega) | decide, ?_⟩
        refine hK _ ?_
        clear hK K
        refine AWp.cond rfl (fun h5 => ?_) (fun h5 => ?_)
        · try simp at h5
          refine AWp.skip ?_
          repeat first | refine thenN ?_ | refine thenX ?_ | refine thenR ?_ | refine blockN ?_ | refine blockR ?_ | refine blockX ?_ | refine blockM rfl ?_
          refine AWp.cond rfl (fun hz => ?_) (fun hz => ?_)
          · clear hz
            -- region 7
            refine AWp.rseq E_ok [0, 1, 2, 4, 5] fun K hK => ?_
            simp [encCus_eq, h5, h5, h5, h5]
            repeat refine ⟨by first | omega | assumption | (simp only [maxLen]; omega) | (intros; omega) | decide, ?_⟩
            refine hK _ ?_
            clear hK K
            refine AWp.ret ?_
            repeat first | refine thenN ?_ | refine thenX ?_ | refine thenR ?_ | refine blockN ?_ | refine blockR ?_ | refine blockX ?_ | refine blockM rfl ?_
            simp [RetOk, RV]; (try rw [Bool.eq_iff_iff]); simp [awayB]; omega
          · exact absurd hz (by simp [h5])
        · try simp at h5
          -- region 6
          refine AWp.rend E_ok [0, 1, 2, 4, 5] fun K hK => ?_
          simp [encCus_eq, h5, h5, h5, h5]
          repeat refine ⟨by first | omega | assumption | (simp only [maxLen]; omega) | (intros; omega) | decide, ?_⟩
          refine hK _ ?_
          clear hK K
          repeat first | refine thenN ?_ | refine thenX ?_ | refine thenR ?_ | refine blockN ?_ | refine blockR ?_ | refine blockX ?_ | refine blockM rfl ?_
          refine AWp.cond rfl (fun h5 => ?_) (fun h5 => ?_)
          · try simp at h5
            -- region 7
            refine AWp.rseq E_ok [0, 1, 2, 4, 5] fun K hK => ?_
            simp [encCus_eq, h5, h5, h5, h5, h5]
            repeat refine ⟨by first | omega | assumption | (simp only [maxLen]; omega) | (intros; omega) | decide, ?_⟩
            refine hK _ ?_
            clear hK K
            refine AWp.ret ?_
            repeat first | refine thenN ?_ | refine thenX ?_ | refine thenR ?_ | refine blockN ?_ | refine blockR ?_ | refine blockX ?_ | refine blockM rfl ?_
            simp [RetOk, RV]; (try rw [Bool.eq_iff_iff]); simp [awayB]; omega
          · try simp at h5
            refine AWp.skip ?_
            repeat first | refine thenN ?_ | refine thenX ?_ | refine thenR ?_ | refine blockN ?_ | refine blockR ?_ | refine blockX ?_ | refine blockM rfl ?_
            -- region 8
            refine AWp.rseq E_ok [0, 1, 2, 4, 5] fun K hK => ?_
            simp [encCus_eq, h5, h5, h5, h5, h5]
            repeat refine ⟨by first | omega | assumption | (simp only [maxLen]; omega) | (intros; omega) | decide, ?_⟩
            refine hK _ ?_
            clear hK K
            refine AWp.ret ?_
            repeat first | refine thenN ?_ | refine thenX ?_ | refine thenR ?_ | refine blockN ?_ | refine blockR ?_ | refine blockX ?_ | refine blockM rfl ?_
            simp [RetOk, RV]; (try rw [Bool.eq_iff_iff]); simp [awayB]; omega
end Go.Proofs.YtabmhpgbfjkkcaaDoor

set_option maxRecDepth 100000
set_option linter.unusedSimpArgs false
set_option linter.unusedVariables false
namespace Go.Proofs.YtabmhpgbfjkkcaaDoor
open Go Ab Pl
theorem custody_Replay_x (l : List Mv) (c : Custody) (hl : l.length ≤ 1000000) (h : replayR 2 l 5 = (c, -1, 0)) : ACalls E.P 19 [.int .i64 2, encMoves l, .int .i64 5] (.tup [encCus c, .int .i64 (-1), .int .i64 0]) := by
  have := custody_Replay 2 l 5 hl
  rwa [h] at this
theorem custody_Text_x (c : Custody) (s : List UInt8) (h : textR c = s) : ACalls E.P 23 [encCus c] (.d (.str s)) := h ▸ custody_Text c
theorem custody_Apply_x (c : Custody) (m : Mv) (d : Custody) (e : Int) (h : applyR c m = (d, e)) : ACalls E.P 17 [encCus c, encMove m] (.tup [encCus d, .int .i64 e]) := by
  have := custody_Apply c m
  rwa [h] at this
theorem custody_Right_x : ACalls E.P 12 [encCus ⟨2, 1, 0, 0⟩] (.d (.bool true)) := by
  have := custody_Right ⟨2, 1, 0, 0⟩
  rwa [show rightB ⟨2, 1, 0, 0⟩ = true by decide +kernel] at this
theorem custody_Away_x : ACalls E.P 21 [encCus ⟨6, 3, 0, 1⟩] (.d (.bool true)) := by
  have := custody_Away ⟨6, 3, 0, 1⟩
  rwa [show awayB ⟨6, 3, 0, 1⟩ = true by decide +kernel] at this
theorem custody_Allowed_x : ACalls E.P 14 [.int .i64 3, .int .i64 10] (.d (.bool true)) := by
  have := custody_Allowed 3 10
  rwa [show allowB 3 10 = true by decide +kernel] at this

end Go.Proofs.YtabmhpgbfjkkcaaDoor

set_option maxRecDepth 100000
set_option linter.unusedSimpArgs false
set_option linter.unusedVariables false
namespace Go.Proofs.YtabmhpgbfjkkcaaDoor
open Go Ab Pl
set_option maxHeartbeats 1000000 in
theorem law30_alive  : ACalls E.P 16 [] (.d (.bool true)) := by
  refine ACalls.intro E_ok Tryd.func16 rfl rfl Tryd.ntmps16 Tryd.results16 (Nat.le_of_ble_eq_true rfl) fun hok base S0 w0 => ?_
  -- region 0
  refine AWp.rseq E_ok [0, 1, 2, 3, 4, 5, 6, 7, 9, 10, 11, 13, 15, 63] fun K hK => ?_
  simp [encCus_eq, encMove_eq, encMoves_eq]
  repeat refine ⟨by first | omega | assumption | (simp only [maxLen]; omega) | (intros; omega) | decide, ?_⟩
  refine hK _ ?_
  clear hK K
  -- region 1
  refine AWp.rseq E_ok [0, 1, 2, 3, 4, 5, 6, 7, 9, 10, 11, 13, 15, 63] fun K hK => ?_
  simp [encCus_eq, encMove_eq, encMoves_eq]
  repeat refine ⟨by first | omega | assumption | (simp only [maxLen]; omega) | (intros; omega) | decide, ?_⟩
  refine hK _ ?_
  clear hK K
  -- region 2
  refine AWp.rseq E_ok [0, 1, 2, 3, 4, 5, 6, 7, 9, 10, 11, 13, 15, 63] fun K hK => ?_
  simp [encCus_eq, encMove_eq, encMoves_eq]
  repeat refine ⟨by first | omega | assumption | (simp only [maxLen]; omega) | (intros; omega) | decide, ?_⟩
  refine meet.of (custody_Replay_x (mvs.take 3) ⟨4, 1, 7, 0⟩ (by decide) (by decide +kernel)) ?_
  simp [encCus_eq, encMove_eq, encMoves_eq]
  repeat refine ⟨by first | omega | assumption | (simp only [maxLen]; omega) | (intros; omega) | decide, ?_⟩
  refine hK _ ?_
  clear hK K
  -- region 3
  refine AWp.rseq E_ok [0, 1, 2, 3, 4, 5, 6, 7, 9, 10, 11, 13, 15, 63] fun K hK => ?_
  simp [encCus_eq, encMove_eq, encMoves_eq]
  repeat refine ⟨by first | omega | assumption | (simp only [maxLen]; omega) | (intros; omega) | decide, ?_⟩
  refine meet.of (custody_Replay_x mvs ⟨6, 3, 0, 1⟩ (by decide) (by decide +kernel)) ?_
  simp [encCus_eq, encMove_eq, encMoves_eq]
  repeat refine ⟨by first | omega | assumption | (simp only [maxLen]; omega) | (intros; omega) | decide, ?_⟩
  refine hK _ ?_
  clear hK K
  refine AWp.seq ?_
  -- region 4
  refine AWp.rseq E_ok [0, 1, 2, 3, 4, 5, 6, 7, 9, 10, 11, 13, 15, 63] fun K hK => ?_
  simp [encCus_eq, encMove_eq, encMoves_eq]
  repeat refine ⟨by first | omega | assumption | (simp only [maxLen]; omega) | (intros; omega) | decide, ?_⟩
  refine meet.of (custody_Start 2) ?_
  simp [encCus_eq, encMove_eq, encMoves_eq]
  repeat refine ⟨by first | omega | assumption | (simp only [maxLen]; omega) | (intros; omega) | decide, ?_⟩
  refine meet.of (custody_Text_x ⟨4, 1, 7, 0⟩ _ text_a) ?_
  simp [encCus_eq, encMove_eq, encMoves_eq]
  repeat refine ⟨by first | omega | assumption | (simp only [maxLen]; omega) | (intros; omega) | decide, ?_⟩
  refine meet.of (custody_Text_x ⟨6, 3, 0, 1⟩ _ text_b) ?_
  simp [encCus_eq, encMove_eq, encMoves_eq]
  repeat refine ⟨by first | omega | assumption | (simp only [maxLen]; omega) | (intros; omega) | decide, ?_⟩
  refine hK _ ?_
  clear hK K
  refine AWp.cond rfl (fun h63 => ?_) (fun h63 => ?_)
  · exact absurd h63 (by simp)
  · try simp at h63
    refine AWp.skip ?_
    repeat first | refine thenN ?_ | refine thenX ?_ | refine thenR ?_ | refine blockN ?_ | refine blockR ?_ | refine blockX ?_ | refine blockM rfl ?_
    -- region 6
    refine AWp.rseq E_ok [0, 1, 2, 3, 4, 5, 6, 7, 9, 10, 11, 13, 15, 63] fun K hK => ?_
    simp [encCus_eq, encMove_eq, encMoves_eq]
    repeat refine ⟨by first | omega | assumption | (simp only [maxLen]; omega) | (intros; omega) | decide, ?_⟩
    refine meet.of (custody_Apply_x ⟨6, 3, 0, 1⟩ ⟨0, 5, 7, 2, 0⟩ c00 1 (by decide +kernel)) ?_
    simp [encCus_eq, encMove_eq, encMoves_eq]
    repeat refine ⟨by first | omega | assumption | (simp only [maxLen]; omega) | (intros; omega) | decide, ?_⟩
    refine hK _ ?_
    clear hK K
    -- region 7
    refine AWp.rseq E_ok [0, 1, 2, 3, 4, 5, 6, 7, 9, 10, 11, 13, 15, 63] fun K hK => ?_
    simp [encCus_eq, encMove_eq, encMoves_eq]
    repeat refine ⟨by first | omega | assumption | (simp only [maxLen]; omega) | (intros; omega) | decide, ?_⟩
    refine meet.of (custody_Apply_x ⟨6, 3, 0, 1⟩ ⟨0, 5, 7, 1, 0⟩ ⟨2, 1, 0, 0⟩ 0 (by decide +kernel)) ?_
    simp [encCus_eq, encMove_eq, encMoves_eq]
    repeat refine ⟨by first | omega | assumption | (simp only [maxLen]; omega) | (intros; omega) | decide, ?_⟩
    refine hK _ ?_
    clear hK K
    -- region 8
    refine AWp.rseq E_ok [0, 1, 2, 3, 4, 5, 6, 7, 9, 10, 11, 13, 15, 63] fun K hK => ?_
    simp [encCus_eq, encMove_eq, encMoves_eq]
    repeat refine ⟨by first | omega | assumption | (simp only [maxLen]; omega) | (intros; omega) | decide, ?_⟩
    refine meet.of (custody_Apply_x ⟨5, 1, 7, 0⟩ ⟨0, 5, 3, 1, 8⟩ c00 16 (by decide +kernel)) ?_
    simp [encCus_eq, encMove_eq, encMoves_eq]
    repeat refine ⟨by first | omega | assumption | (simp only [maxLen]; omega) | (intros; omega) | decide, ?_⟩
    refine hK _ ?_
    clear hK K
    -- region 9
    refine AWp.rseq E_ok [0, 1, 2, 3, 4, 5, 6, 7, 9, 10, 11, 13, 15, 63] fun K hK => ?_
    simp [encCus_eq, encMove_eq, encMoves_eq]
    repeat refine ⟨by first | omega | assumption | (simp only [maxLen]; omega) | (intros; omega) | decide, ?_⟩
    refine meet.of (custody_Apply_x ⟨3, 1, 0, 0⟩ ⟨0, 5, 4, 1, 0⟩ c00 12 (by decide +kernel)) ?_
    simp [encCus_eq, encMove_eq, encMoves_eq]
    repeat refine ⟨by first | omega | assumption | (simp only [maxLen]; omega) | (intros; omega) | decide, ?_⟩
    refine hK _ ?_
    clear hK K
    -- region 10
    refine AWp.rseq E_ok [0, 1, 2, 3, 4, 5, 6, 7, 9, 10, 11, 13, 15, 63] fun K hK => ?_
    simp [encCus_eq, encMove_eq, encMoves_eq]
    repeat refine ⟨by first | omega | assumption | (simp only [maxLen]; omega) | (intros; omega) | decide, ?_⟩
    refine meet.of (custody_Text_x ⟨2, 1, 0, 0⟩ _ text_c) ?_
    simp [encCus_eq, encMove_eq, encMoves_eq]
    repeat refine ⟨by first | omega | assumption | (simp only [maxLen]; omega) | (intros; omega) | decide, ?_⟩
    refine meet.of (custody_Right_x) ?_
    simp [encCus_eq, encMove_eq, encMoves_eq]
    repeat refine ⟨by first | omega | assumption | (simp only [maxLen]; omega) | (intros; omega) | decide, ?_⟩
    refine meet.of (custody_Away_x) ?_
    simp [encCus_eq, encMove_eq, encMoves_eq]
    repeat refine ⟨by first | omega | assumption | (simp only [maxLen]; omega) | (intros; omega) | decide, ?_⟩
    refine meet.of (custody_Allowed_x) ?_
    simp [encCus_eq, encMove_eq, encMoves_eq]
    repeat refine ⟨by first | omega | assumption | (simp only [maxLen]; omega) | (intros; omega) | decide, ?_⟩
    refine hK _ ?_
    clear hK K
    refine AWp.ret ?_
    repeat first | refine thenN ?_ | refine thenX ?_ | refine thenR ?_ | refine blockN ?_ | refine blockR ?_ | refine blockX ?_ | refine blockM rfl ?_
    simp [RetOk, RV]
end Go.Proofs.YtabmhpgbfjkkcaaDoor

set_option maxRecDepth 100000
set_option linter.unusedSimpArgs false
set_option linter.unusedVariables false
namespace Go.Proofs.YtabmhpgbfjkkcaaDoor
open Go Ab Pl
theorem custody_Replay_a (b : Int) (l : List Mv) (m : Mv) (hl : l.length ≤ 100000) : ACalls E.P 19 [.int .i64 b, .slice (.agg [.int .i64 0, .int .i64 0, .int .i64 0, .int .i64 0, .int .i64 0]) (l.map encMove ++ [.agg [.int .i64 m.day, .int .i64 m.item, .int .i64 m.kind, .int .i64 m.br, .int .i64 m.who]]), .int .i64 m.item] (.tup [encCus (replayR b (l ++ [m]) m.item).1, .int .i64 (replayR b (l ++ [m]) m.item).2.1, .int .i64 (replayR b (l ++ [m]) m.item).2.2]) := by
  have h := custody_Replay b (l ++ [m]) m.item (by simp; omega)
  rw [encMoves_eq, List.map_append] at h
  exact h

end Go.Proofs.YtabmhpgbfjkkcaaDoor

set_option maxRecDepth 100000
set_option linter.unusedSimpArgs false
set_option linter.unusedVariables false
namespace Go.Proofs.YtabmhpgbfjkkcaaDoor
open Go Ab Pl
set_option maxHeartbeats 4000000 in
theorem law30_CustodyContinues (b : Int) (l : List Mv) (m : Mv) : ACalls E.P 8 [.int .i64 b, encMoves l, encMove m] (.d (.bool true)) := by
  refine ACalls.intro E_ok Tryd.func8 rfl rfl Tryd.ntmps8 Tryd.results8 (Nat.le_of_ble_eq_true rfl) fun hok base S0 w0 => ?_
  -- region 0
  refine AWp.rseq E_ok [0, 1, 2, 5, 6, 7, 8, 9, 10, 11, 12, 13, 14, 15, 16, 18, 19, 21, 24, 51, 94, 96, 97, 98, 99, 106] fun K hK => ?_
  simp [encMoves_eq, encCus_eq, encMove_eq]
  repeat refine ⟨by first | omega | assumption | (simp only [maxLen]; omega) | (intros; omega) | decide, ?_⟩
  refine hK _ ?_
  clear hK K
  refine AWp.seq ?_
  -- region 1
  refine AWp.rseq E_ok [0, 1, 2, 5, 6, 7, 8, 9, 10, 11, 12, 13, 14, 15, 16, 18, 19, 21, 24, 51, 94, 96, 97, 98, 99, 106] fun K hK => ?_
  simp [encMoves_eq, encCus_eq, encMove_eq]
  repeat refine ⟨by first | omega | assumption | (simp only [maxLen]; omega) | (intros; omega) | decide, ?_⟩
  refine hK _ ?_
  clear hK K
  refine AWp.cond rfl (fun h24 => ?_) (fun h24 => ?_)
  · try simp at h24
    -- region 2
    refine AWp.rseq E_ok [0, 1, 2, 5, 6, 7, 8, 9, 10, 11, 12, 13, 14, 15, 16, 18, 19, 21, 24, 51, 94, 96, 97, 98, 99, 106] fun K hK => ?_
    simp [encMoves_eq, encCus_eq, encMove_eq]
    repeat refine ⟨by first | omega | assumption | (simp only [maxLen]; omega) | (intros; omega) | decide, ?_⟩
    refine meet.of (law30_alive) ?_
    simp [encMoves_eq, encCus_eq, encMove_eq]
    repeat refine ⟨by first | omega | assumption | (simp only [maxLen]; omega) | (intros; omega) | decide, ?_⟩
    refine hK _ ?_
    clear hK K
    refine AWp.ret ?_
    repeat first | refine thenN ?_ | refine thenX ?_ | refine thenR ?_ | refine blockN ?_ | refine blockR ?_ | refine blockX ?_ | refine blockM rfl ?_
    first | (simp [RetOk, RV]; done) | (simp [RetOk, RV, hA]; done) | (simp [RetOk, RV, hO])
  · try simp at h24
    refine AWp.skip ?_
    repeat first | refine thenN ?_ | refine thenX ?_ | refine thenR ?_ | refine blockN ?_ | refine blockR ?_ | refine blockX ?_ | refine blockM rfl ?_
    -- region 3
    refine AWp.rseq E_ok [0, 1, 2, 5, 6, 7, 8, 9, 10, 11, 12, 13, 14, 15, 16, 18, 19, 21, 24, 51, 94, 96, 97, 98, 99, 106] fun K hK => ?_
    simp [encMoves_eq, encCus_eq, encMove_eq]
    repeat refine ⟨by first | omega | assumption | (simp only [maxLen]; omega) | (intros; omega) | decide, ?_⟩
    refine meet.of (custody_Replay b l m.item (by omega)) ?_
    simp [encMoves_eq, encCus_eq, encMove_eq]
    repeat refine ⟨by first | omega | assumption | (simp only [maxLen]; omega) | (intros; omega) | decide, ?_⟩
    refine hK _ ?_
    clear hK K
    -- region 4, every order
    refine AWp.rseqB E_ok mixed [0, 1, 2, 5, 6, 7, 8, 9, 10, 11, 12, 13, 14, 15, 16, 18, 19, 21, 24, 51, 94, 96, 97, 98, 99, 106] (n := 7) (l := #[false, false, false, false, false, false, false]) rfl (by kernel_rfl) fun K hK => ?_
    suffices hnext : K [(0, T.val (D.int IntKind.i64 b)), (1, T.val ((D.agg [D.int IntKind.i64 zm.day, D.int IntKind.i64 zm.item, D.int IntKind.i64 zm.kind, D.int IntKind.i64 zm.br, D.int IntKind.i64 zm.who]).slice (List.map encMove l))), (2, T.val (D.agg [D.int IntKind.i64 m.day, D.int IntKind.i64 m.item, D.int IntKind.i64 m.kind, D.int IntKind.i64 m.br, D.int IntKind.i64 m.who])), (5, T.box [C.d (D.int IntKind.i64 m.day), C.d (D.int IntKind.i64 m.item), C.d (D.int IntKind.i64 m.kind), C.d (D.int IntKind.i64 m.br), C.d (D.int IntKind.i64 m.who)]), (6, T.val (D.bool false)), (7, T.box [C.d (D.int IntKind.i64 (replayR b l m.item).fst.st), C.d (D.int IntKind.i64 (replayR b l m.item).fst.br), C.d (D.int IntKind.i64 (replayR b l m.item).fst.who), C.d (D.int IntKind.i64 (replayR b l m.item).fst.to)]), (8, T.val (D.int IntKind.i64 (replayR b l m.item).snd.fst)), (9, T.val (D.int IntKind.i64 (replayR b l m.item).snd.snd)), (10, T.own true (D.agg [D.int IntKind.i64 (0 : Int), D.int IntKind.i64 (0 : Int), D.int IntKind.i64 (0 : Int), D.int IntKind.i64 (0 : Int), D.int IntKind.i64 (0 : Int)]) (List.map encMove l ++ [D.agg [D.int IntKind.i64 m.day, D.int IntKind.i64 m.item, D.int IntKind.i64 m.kind, D.int IntKind.i64 m.br, D.int IntKind.i64 m.who]])), (11, T.junk), (12, T.junk), (13, T.junk), (14, T.junk), (15, T.junk), (16, T.junk), (18, T.junk), (19, T.junk), (21, T.junk), (24, T.val (D.bool (decide ((60 : Int) < ↑l.length)))), (51, T.junk), (94, T.junk), (96, T.junk), (97, T.junk), (98, T.junk), (99, T.junk), (106, T.junk)] by
      refine coreB.cut 0 #[true, true, true, true, true, true, true] [(0, T.val (D.int IntKind.i64 b)), (1, T.val ((D.agg [D.int IntKind.i64 zm.day, D.int IntKind.i64 zm.item, D.int IntKind.i64 zm.kind, D.int IntKind.i64 zm.br, D.int IntKind.i64 zm.who]).slice (List.map encMove l))), (2, T.val (D.agg [D.int IntKind.i64 m.day, D.int IntKind.i64 m.item, D.int IntKind.i64 m.kind, D.int IntKind.i64 m.br, D.int IntKind.i64 m.who])), (5, T.box [C.d (D.int IntKind.i64 m.day), C.d (D.int IntKind.i64 m.item), C.d (D.int IntKind.i64 m.kind), C.d (D.int IntKind.i64 m.br), C.d (D.int IntKind.i64 m.who)]), (6, T.val (D.bool false)), (7, T.box [C.d (D.int IntKind.i64 (replayR b l m.item).fst.st), C.d (D.int IntKind.i64 (replayR b l m.item).fst.br), C.d (D.int IntKind.i64 (replayR b l m.item).fst.who), C.d (D.int IntKind.i64 (replayR b l m.item).fst.to)]), (8, T.val (D.int IntKind.i64 (replayR b l m.item).snd.fst)), (9, T.val (D.int IntKind.i64 (replayR b l m.item).snd.snd)), (10, T.alias (40, 0)), (24, T.val (D.bool (decide ((60 : Int) < ↑l.length)))), (36, T.val ((D.agg [D.int IntKind.i64 zm.day, D.int IntKind.i64 zm.item, D.int IntKind.i64 zm.kind, D.int IntKind.i64 zm.br, D.int IntKind.i64 zm.who]).slice (List.map encMove l))), (38, T.val (D.agg [D.int IntKind.i64 m.day, D.int IntKind.i64 m.item, D.int IntKind.i64 m.kind, D.int IntKind.i64 m.br, D.int IntKind.i64 m.who])), (39, T.own false (D.agg [D.int IntKind.i64 (0 : Int), D.int IntKind.i64 (0 : Int), D.int IntKind.i64 (0 : Int), D.int IntKind.i64 (0 : Int), D.int IntKind.i64 (0 : Int)]) [D.agg [D.int IntKind.i64 m.day, D.int IntKind.i64 m.item, D.int IntKind.i64 m.kind, D.int IntKind.i64 m.br, D.int IntKind.i64 m.who]]), (40, T.own true (D.agg [D.int IntKind.i64 (0 : Int), D.int IntKind.i64 (0 : Int), D.int IntKind.i64 (0 : Int), D.int IntKind.i64 (0 : Int), D.int IntKind.i64 (0 : Int)]) (List.map encMove l ++ [D.agg [D.int IntKind.i64 m.day, D.int IntKind.i64 m.item, D.int IntKind.i64 m.kind, D.int IntKind.i64 m.br, D.int IntKind.i64 m.who]]))] ?_ fun h_0_1_2_3_4_5_6 => ?_
      · skip
        refine coreB.nil (by kernel_rfl) ?_
        simpa [encMoves_eq, encCus_eq, encMove_eq] using hnext
      refine coreB.cut 1 #[true, true, true, true, true, true, false] [(0, T.val (D.int IntKind.i64 b)), (1, T.val ((D.agg [D.int IntKind.i64 zm.day, D.int IntKind.i64 zm.item, D.int IntKind.i64 zm.kind, D.int IntKind.i64 zm.br, D.int IntKind.i64 zm.who]).slice (List.map encMove l))), (2, T.val (D.agg [D.int IntKind.i64 m.day, D.int IntKind.i64 m.item, D.int IntKind.i64 m.kind, D.int IntKind.i64 m.br, D.int IntKind.i64 m.who])), (5, T.box [C.d (D.int IntKind.i64 m.day), C.d (D.int IntKind.i64 m.item), C.d (D.int IntKind.i64 m.kind), C.d (D.int IntKind.i64 m.br), C.d (D.int IntKind.i64 m.who)]), (6, T.val (D.bool false)), (7, T.box [C.d (D.int IntKind.i64 (replayR b l m.item).fst.st), C.d (D.int IntKind.i64 (replayR b l m.item).fst.br), C.d (D.int IntKind.i64 (replayR b l m.item).fst.who), C.d (D.int IntKind.i64 (replayR b l m.item).fst.to)]), (8, T.val (D.int IntKind.i64 (replayR b l m.item).snd.fst)), (9, T.val (D.int IntKind.i64 (replayR b l m.item).snd.snd)), (24, T.val (D.bool (decide ((60 : Int) < ↑l.length)))), (36, T.val ((D.agg [D.int IntKind.i64 zm.day, D.int IntKind.i64 zm.item, D.int IntKind.i64 zm.kind, D.int IntKind.i64 zm.br, D.int IntKind.i64 zm.who]).slice (List.map encMove l))), (38, T.val (D.agg [D.int IntKind.i64 m.day, D.int IntKind.i64 m.item, D.int IntKind.i64 m.kind, D.int IntKind.i64 m.br, D.int IntKind.i64 m.who])), (39, T.own false (D.agg [D.int IntKind.i64 (0 : Int), D.int IntKind.i64 (0 : Int), D.int IntKind.i64 (0 : Int), D.int IntKind.i64 (0 : Int), D.int IntKind.i64 (0 : Int)]) [D.agg [D.int IntKind.i64 m.day, D.int IntKind.i64 m.item, D.int IntKind.i64 m.kind, D.int IntKind.i64 m.br, D.int IntKind.i64 m.who]]), (40, T.own true (D.agg [D.int IntKind.i64 (0 : Int), D.int IntKind.i64 (0 : Int), D.int IntKind.i64 (0 : Int), D.int IntKind.i64 (0 : Int), D.int IntKind.i64 (0 : Int)]) (List.map encMove l ++ [D.agg [D.int IntKind.i64 m.day, D.int IntKind.i64 m.item, D.int IntKind.i64 m.kind, D.int IntKind.i64 m.br, D.int IntKind.i64 m.who]]))] ?_ fun h_0_1_2_3_4_5 => ?_
      · skip
        refine coreB.step [6] (by kernel_rfl) (by simp) ?_
        refine allB.cons rfl ?_ ?_
        · skip
          simp [encMoves_eq, encCus_eq, encMove_eq]
          repeat refine ⟨by first | omega | assumption | (simp only [maxLen]; omega) | (intros; omega) | decide, ?_⟩
          exact contB.mk (by simp [Weak, TW, encMoves_eq, encCus_eq, encMove_eq]) h_0_1_2_3_4_5_6 (by kernel_rfl)
        exact allB.nil
      refine coreB.cut 2 #[true, true, true, true, true, false, false] [(0, T.val (D.int IntKind.i64 b)), (1, T.val ((D.agg [D.int IntKind.i64 zm.day, D.int IntKind.i64 zm.item, D.int IntKind.i64 zm.kind, D.int IntKind.i64 zm.br, D.int IntKind.i64 zm.who]).slice (List.map encMove l))), (2, T.val (D.agg [D.int IntKind.i64 m.day, D.int IntKind.i64 m.item, D.int IntKind.i64 m.kind, D.int IntKind.i64 m.br, D.int IntKind.i64 m.who])), (5, T.box [C.d (D.int IntKind.i64 m.day), C.d (D.int IntKind.i64 m.item), C.d (D.int IntKind.i64 m.kind), C.d (D.int IntKind.i64 m.br), C.d (D.int IntKind.i64 m.who)]), (6, T.val (D.bool false)), (7, T.box [C.d (D.int IntKind.i64 (replayR b l m.item).fst.st), C.d (D.int IntKind.i64 (replayR b l m.item).fst.br), C.d (D.int IntKind.i64 (replayR b l m.item).fst.who), C.d (D.int IntKind.i64 (replayR b l m.item).fst.to)]), (8, T.val (D.int IntKind.i64 (replayR b l m.item).snd.fst)), (9, T.val (D.int IntKind.i64 (replayR b l m.item).snd.snd)), (24, T.val (D.bool (decide ((60 : Int) < ↑l.length)))), (36, T.val ((D.agg [D.int IntKind.i64 zm.day, D.int IntKind.i64 zm.item, D.int IntKind.i64 zm.kind, D.int IntKind.i64 zm.br, D.int IntKind.i64 zm.who]).slice (List.map encMove l))), (37, T.own true (D.agg [D.int IntKind.i64 (0 : Int), D.int IntKind.i64 (0 : Int), D.int IntKind.i64 (0 : Int), D.int IntKind.i64 (0 : Int), D.int IntKind.i64 (0 : Int)]) (List.map encMove l)), (38, T.val (D.agg [D.int IntKind.i64 m.day, D.int IntKind.i64 m.item, D.int IntKind.i64 m.kind, D.int IntKind.i64 m.br, D.int IntKind.i64 m.who])), (39, T.own true (D.agg [D.int IntKind.i64 (0 : Int), D.int IntKind.i64 (0 : Int), D.int IntKind.i64 (0 : Int), D.int IntKind.i64 (0 : Int), D.int IntKind.i64 (0 : Int)]) [D.agg [D.int IntKind.i64 m.day, D.int IntKind.i64 m.item, D.int IntKind.i64 m.kind, D.int IntKind.i64 m.br, D.int IntKind.i64 m.who]])] ?_ fun h_0_1_2_3_4 => ?_
      · skip
        refine coreB.step [5] (by kernel_rfl) (by simp) ?_
        refine allB.cons rfl ?_ ?_
        · skip
          simp [encMoves_eq, encCus_eq, encMove_eq]
          repeat refine ⟨by first | omega | assumption | (simp only [maxLen]; omega) | (intros; omega) | decide, ?_⟩
          exact contB.mk (by simp [Weak, TW, encMoves_eq, encCus_eq, encMove_eq]) h_0_1_2_3_4_5 (by kernel_rfl)
        exact allB.nil
      refine coreB.cut 3 #[true, true, true, true, false, false, false] [(0, T.val (D.int IntKind.i64 b)), (1, T.val ((D.agg [D.int IntKind.i64 zm.day, D.int IntKind.i64 zm.item, D.int IntKind.i64 zm.kind, D.int IntKind.i64 zm.br, D.int IntKind.i64 zm.who]).slice (List.map encMove l))), (2, T.val (D.agg [D.int IntKind.i64 m.day, D.int IntKind.i64 m.item, D.int IntKind.i64 m.kind, D.int IntKind.i64 m.br, D.int IntKind.i64 m.who])), (5, T.box [C.d (D.int IntKind.i64 m.day), C.d (D.int IntKind.i64 m.item), C.d (D.int IntKind.i64 m.kind), C.d (D.int IntKind.i64 m.br), C.d (D.int IntKind.i64 m.who)]), (6, T.val (D.bool false)), (7, T.box [C.d (D.int IntKind.i64 (replayR b l m.item).fst.st), C.d (D.int IntKind.i64 (replayR b l m.item).fst.br), C.d (D.int IntKind.i64 (replayR b l m.item).fst.who), C.d (D.int IntKind.i64 (replayR b l m.item).fst.to)]), (8, T.val (D.int IntKind.i64 (replayR b l m.item).snd.fst)), (9, T.val (D.int IntKind.i64 (replayR b l m.item).snd.snd)), (24, T.val (D.bool (decide ((60 : Int) < ↑l.length)))), (36, T.val ((D.agg [D.int IntKind.i64 zm.day, D.int IntKind.i64 zm.item, D.int IntKind.i64 zm.kind, D.int IntKind.i64 zm.br, D.int IntKind.i64 zm.who]).slice (List.map encMove l))), (37, T.own true (D.agg [D.int IntKind.i64 (0 : Int), D.int IntKind.i64 (0 : Int), D.int IntKind.i64 (0 : Int), D.int IntKind.i64 (0 : Int), D.int IntKind.i64 (0 : Int)]) (List.map encMove l)), (38, T.val (D.agg [D.int IntKind.i64 m.day, D.int IntKind.i64 m.item, D.int IntKind.i64 m.kind, D.int IntKind.i64 m.br, D.int IntKind.i64 m.who]))] ?_ fun h_0_1_2_3 => ?_
      · skip
        refine coreB.step [4] (by kernel_rfl) (by simp) ?_
        refine allB.cons rfl ?_ ?_
        · skip
          simp [encMoves_eq, encCus_eq, encMove_eq]
          repeat refine ⟨by first | omega | assumption | (simp only [maxLen]; omega) | (intros; omega) | decide, ?_⟩
          exact contB.mk (by simp [Weak, TW, encMoves_eq, encCus_eq, encMove_eq]) h_0_1_2_3_4 (by kernel_rfl)
        exact allB.nil
      refine coreB.cut 3 #[true, true, false, true, true, false, false] [(0, T.val (D.int IntKind.i64 b)), (1, T.val ((D.agg [D.int IntKind.i64 zm.day, D.int IntKind.i64 zm.item, D.int IntKind.i64 zm.kind, D.int IntKind.i64 zm.br, D.int IntKind.i64 zm.who]).slice (List.map encMove l))), (2, T.val (D.agg [D.int IntKind.i64 m.day, D.int IntKind.i64 m.item, D.int IntKind.i64 m.kind, D.int IntKind.i64 m.br, D.int IntKind.i64 m.who])), (5, T.box [C.d (D.int IntKind.i64 m.day), C.d (D.int IntKind.i64 m.item), C.d (D.int IntKind.i64 m.kind), C.d (D.int IntKind.i64 m.br), C.d (D.int IntKind.i64 m.who)]), (6, T.val (D.bool false)), (7, T.box [C.d (D.int IntKind.i64 (replayR b l m.item).fst.st), C.d (D.int IntKind.i64 (replayR b l m.item).fst.br), C.d (D.int IntKind.i64 (replayR b l m.item).fst.who), C.d (D.int IntKind.i64 (replayR b l m.item).fst.to)]), (8, T.val (D.int IntKind.i64 (replayR b l m.item).snd.fst)), (9, T.val (D.int IntKind.i64 (replayR b l m.item).snd.snd)), (24, T.val (D.bool (decide ((60 : Int) < ↑l.length)))), (35, T.own true (D.agg [D.int IntKind.i64 (0 : Int), D.int IntKind.i64 (0 : Int), D.int IntKind.i64 (0 : Int), D.int IntKind.i64 (0 : Int), D.int IntKind.i64 (0 : Int)]) []), (36, T.val ((D.agg [D.int IntKind.i64 zm.day, D.int IntKind.i64 zm.item, D.int IntKind.i64 zm.kind, D.int IntKind.i64 zm.br, D.int IntKind.i64 zm.who]).slice (List.map encMove l))), (38, T.val (D.agg [D.int IntKind.i64 m.day, D.int IntKind.i64 m.item, D.int IntKind.i64 m.kind, D.int IntKind.i64 m.br, D.int IntKind.i64 m.who])), (39, T.own true (D.agg [D.int IntKind.i64 (0 : Int), D.int IntKind.i64 (0 : Int), D.int IntKind.i64 (0 : Int), D.int IntKind.i64 (0 : Int), D.int IntKind.i64 (0 : Int)]) [D.agg [D.int IntKind.i64 m.day, D.int IntKind.i64 m.item, D.int IntKind.i64 m.kind, D.int IntKind.i64 m.br, D.int IntKind.i64 m.who]])] ?_ fun h_0_1_3_4 => ?_
      · skip
        refine coreB.step [2] (by kernel_rfl) (by simp) ?_
        refine allB.cons rfl ?_ ?_
        · skip
          simp [encMoves_eq, encCus_eq, encMove_eq]
          repeat refine ⟨by first | omega | assumption | (simp only [maxLen]; omega) | (intros; omega) | decide, ?_⟩
          exact contB.mk (by simp [Weak, TW, encMoves_eq, encCus_eq, encMove_eq]) h_0_1_2_3_4 (by kernel_rfl)
        exact allB.nil
      refine coreB.cut 4 #[true, true, true, false, false, false, false] [(0, T.val (D.int IntKind.i64 b)), (1, T.val ((D.agg [D.int IntKind.i64 zm.day, D.int IntKind.i64 zm.item, D.int IntKind.i64 zm.kind, D.int IntKind.i64 zm.br, D.int IntKind.i64 zm.who]).slice (List.map encMove l))), (2, T.val (D.agg [D.int IntKind.i64 m.day, D.int IntKind.i64 m.item, D.int IntKind.i64 m.kind, D.int IntKind.i64 m.br, D.int IntKind.i64 m.who])), (5, T.box [C.d (D.int IntKind.i64 m.day), C.d (D.int IntKind.i64 m.item), C.d (D.int IntKind.i64 m.kind), C.d (D.int IntKind.i64 m.br), C.d (D.int IntKind.i64 m.who)]), (6, T.val (D.bool false)), (7, T.box [C.d (D.int IntKind.i64 (replayR b l m.item).fst.st), C.d (D.int IntKind.i64 (replayR b l m.item).fst.br), C.d (D.int IntKind.i64 (replayR b l m.item).fst.who), C.d (D.int IntKind.i64 (replayR b l m.item).fst.to)]), (8, T.val (D.int IntKind.i64 (replayR b l m.item).snd.fst)), (9, T.val (D.int IntKind.i64 (replayR b l m.item).snd.snd)), (24, T.val (D.bool (decide ((60 : Int) < ↑l.length)))), (36, T.val ((D.agg [D.int IntKind.i64 zm.day, D.int IntKind.i64 zm.item, D.int IntKind.i64 zm.kind, D.int IntKind.i64 zm.br, D.int IntKind.i64 zm.who]).slice (List.map encMove l))), (37, T.own true (D.agg [D.int IntKind.i64 (0 : Int), D.int IntKind.i64 (0 : Int), D.int IntKind.i64 (0 : Int), D.int IntKind.i64 (0 : Int), D.int IntKind.i64 (0 : Int)]) (List.map encMove l))] ?_ fun h_0_1_2 => ?_
      · skip
        refine coreB.step [3] (by kernel_rfl) (by simp) ?_
        refine allB.cons rfl ?_ ?_
        · skip
          simp [encMoves_eq, encCus_eq, encMove_eq]
          repeat refine ⟨by first | omega | assumption | (simp only [maxLen]; omega) | (intros; omega) | decide, ?_⟩
          exact contB.mk (by simp [Weak, TW, encMoves_eq, encCus_eq, encMove_eq]) h_0_1_2_3 (by kernel_rfl)
        exact allB.nil
      refine coreB.cut 4 #[true, true, false, true, false, false, false] [(0, T.val (D.int IntKind.i64 b)), (1, T.val ((D.agg [D.int IntKind.i64 zm.day, D.int IntKind.i64 zm.item, D.int IntKind.i64 zm.kind, D.int IntKind.i64 zm.br, D.int IntKind.i64 zm.who]).slice (List.map encMove l))), (2, T.val (D.agg [D.int IntKind.i64 m.day, D.int IntKind.i64 m.item, D.int IntKind.i64 m.kind, D.int IntKind.i64 m.br, D.int IntKind.i64 m.who])), (5, T.box [C.d (D.int IntKind.i64 m.day), C.d (D.int IntKind.i64 m.item), C.d (D.int IntKind.i64 m.kind), C.d (D.int IntKind.i64 m.br), C.d (D.int IntKind.i64 m.who)]), (6, T.val (D.bool false)), (7, T.box [C.d (D.int IntKind.i64 (replayR b l m.item).fst.st), C.d (D.int IntKind.i64 (replayR b l m.item).fst.br), C.d (D.int IntKind.i64 (replayR b l m.item).fst.who), C.d (D.int IntKind.i64 (replayR b l m.item).fst.to)]), (8, T.val (D.int IntKind.i64 (replayR b l m.item).snd.fst)), (9, T.val (D.int IntKind.i64 (replayR b l m.item).snd.snd)), (24, T.val (D.bool (decide ((60 : Int) < ↑l.length)))), (35, T.own true (D.agg [D.int IntKind.i64 (0 : Int), D.int IntKind.i64 (0 : Int), D.int IntKind.i64 (0 : Int), D.int IntKind.i64 (0 : Int), D.int IntKind.i64 (0 : Int)]) []), (36, T.val ((D.agg [D.int IntKind.i64 zm.day, D.int IntKind.i64 zm.item, D.int IntKind.i64 zm.kind, D.int IntKind.i64 zm.br, D.int IntKind.i64 zm.who]).slice (List.map encMove l))), (38, T.val (D.agg [D.int IntKind.i64 m.day, D.int IntKind.i64 m.item, D.int IntKind.i64 m.kind, D.int IntKind.i64 m.br, D.int IntKind.i64 m.who]))] ?_ fun h_0_1_3 => ?_
      · skip
        refine coreB.step [2, 4] (by kernel_rfl) (by simp) ?_
        refine allB.cons rfl ?_ ?_
        · skip
          simp [encMoves_eq, encCus_eq, encMove_eq]
          repeat refine ⟨by first | omega | assumption | (simp only [maxLen]; omega) | (intros; omega) | decide, ?_⟩
          exact contB.mk (by simp [Weak, TW, encMoves_eq, encCus_eq, encMove_eq]) h_0_1_2_3 (by kernel_rfl)
        refine allB.cons rfl ?_ ?_
        · skip
          simp [encMoves_eq, encCus_eq, encMove_eq]
          repeat refine ⟨by first | omega | assumption | (simp only [maxLen]; omega) | (intros; omega) | decide, ?_⟩
          exact contB.mk (by simp [Weak, TW, encMoves_eq, encCus_eq, encMove_eq]) h_0_1_3_4 (by kernel_rfl)
        exact allB.nil
      refine coreB.cut 4 #[true, false, false, true, true, false, false] [(0, T.val (D.int IntKind.i64 b)), (1, T.val ((D.agg [D.int IntKind.i64 zm.day, D.int IntKind.i64 zm.item, D.int IntKind.i64 zm.kind, D.int IntKind.i64 zm.br, D.int IntKind.i64 zm.who]).slice (List.map encMove l))), (2, T.val (D.agg [D.int IntKind.i64 m.day, D.int IntKind.i64 m.item, D.int IntKind.i64 m.kind, D.int IntKind.i64 m.br, D.int IntKind.i64 m.who])), (5, T.box [C.d (D.int IntKind.i64 m.day), C.d (D.int IntKind.i64 m.item), C.d (D.int IntKind.i64 m.kind), C.d (D.int IntKind.i64 m.br), C.d (D.int IntKind.i64 m.who)]), (6, T.val (D.bool false)), (7, T.box [C.d (D.int IntKind.i64 (replayR b l m.item).fst.st), C.d (D.int IntKind.i64 (replayR b l m.item).fst.br), C.d (D.int IntKind.i64 (replayR b l m.item).fst.who), C.d (D.int IntKind.i64 (replayR b l m.item).fst.to)]), (8, T.val (D.int IntKind.i64 (replayR b l m.item).snd.fst)), (9, T.val (D.int IntKind.i64 (replayR b l m.item).snd.snd)), (24, T.val (D.bool (decide ((60 : Int) < ↑l.length)))), (35, T.own true (D.agg [D.int IntKind.i64 (0 : Int), D.int IntKind.i64 (0 : Int), D.int IntKind.i64 (0 : Int), D.int IntKind.i64 (0 : Int), D.int IntKind.i64 (0 : Int)]) []), (38, T.val (D.agg [D.int IntKind.i64 m.day, D.int IntKind.i64 m.item, D.int IntKind.i64 m.kind, D.int IntKind.i64 m.br, D.int IntKind.i64 m.who])), (39, T.own true (D.agg [D.int IntKind.i64 (0 : Int), D.int IntKind.i64 (0 : Int), D.int IntKind.i64 (0 : Int), D.int IntKind.i64 (0 : Int), D.int IntKind.i64 (0 : Int)]) [D.agg [D.int IntKind.i64 m.day, D.int IntKind.i64 m.item, D.int IntKind.i64 m.kind, D.int IntKind.i64 m.br, D.int IntKind.i64 m.who]])] ?_ fun h_0_3_4 => ?_
      · skip
        refine coreB.step [1] (by kernel_rfl) (by simp) ?_
        refine allB.cons rfl ?_ ?_
        · skip
          simp [encMoves_eq, encCus_eq, encMove_eq]
          repeat refine ⟨by first | omega | assumption | (simp only [maxLen]; omega) | (intros; omega) | decide, ?_⟩
          exact contB.mk (by simp [Weak, TW, encMoves_eq, encCus_eq, encMove_eq]) h_0_1_3_4 (by kernel_rfl)
        exact allB.nil
      refine coreB.cut 4 #[false, true, false, true, true, false, false] [(0, T.val (D.int IntKind.i64 b)), (1, T.val ((D.agg [D.int IntKind.i64 zm.day, D.int IntKind.i64 zm.item, D.int IntKind.i64 zm.kind, D.int IntKind.i64 zm.br, D.int IntKind.i64 zm.who]).slice (List.map encMove l))), (2, T.val (D.agg [D.int IntKind.i64 m.day, D.int IntKind.i64 m.item, D.int IntKind.i64 m.kind, D.int IntKind.i64 m.br, D.int IntKind.i64 m.who])), (5, T.box [C.d (D.int IntKind.i64 m.day), C.d (D.int IntKind.i64 m.item), C.d (D.int IntKind.i64 m.kind), C.d (D.int IntKind.i64 m.br), C.d (D.int IntKind.i64 m.who)]), (6, T.val (D.bool false)), (7, T.box [C.d (D.int IntKind.i64 (replayR b l m.item).fst.st), C.d (D.int IntKind.i64 (replayR b l m.item).fst.br), C.d (D.int IntKind.i64 (replayR b l m.item).fst.who), C.d (D.int IntKind.i64 (replayR b l m.item).fst.to)]), (8, T.val (D.int IntKind.i64 (replayR b l m.item).snd.fst)), (9, T.val (D.int IntKind.i64 (replayR b l m.item).snd.snd)), (24, T.val (D.bool (decide ((60 : Int) < ↑l.length)))), (36, T.val ((D.agg [D.int IntKind.i64 zm.day, D.int IntKind.i64 zm.item, D.int IntKind.i64 zm.kind, D.int IntKind.i64 zm.br, D.int IntKind.i64 zm.who]).slice (List.map encMove l))), (38, T.val (D.agg [D.int IntKind.i64 m.day, D.int IntKind.i64 m.item, D.int IntKind.i64 m.kind, D.int IntKind.i64 m.br, D.int IntKind.i64 m.who])), (39, T.own true (D.agg [D.int IntKind.i64 (0 : Int), D.int IntKind.i64 (0 : Int), D.int IntKind.i64 (0 : Int), D.int IntKind.i64 (0 : Int), D.int IntKind.i64 (0 : Int)]) [D.agg [D.int IntKind.i64 m.day, D.int IntKind.i64 m.item, D.int IntKind.i64 m.kind, D.int IntKind.i64 m.br, D.int IntKind.i64 m.who]])] ?_ fun h_1_3_4 => ?_
      · skip
        refine coreB.step [0] (by kernel_rfl) (by simp) ?_
        refine allB.cons rfl ?_ ?_
        · skip
          simp [encMoves_eq, encCus_eq, encMove_eq]
          repeat refine ⟨by first | omega | assumption | (simp only [maxLen]; omega) | (intros; omega) | decide, ?_⟩
          exact contB.mk (by simp [Weak, TW, encMoves_eq, encCus_eq, encMove_eq]) h_0_1_3_4 (by kernel_rfl)
        exact allB.nil
      refine coreB.cut 5 #[true, true, false, false, false, false, false] [(0, T.val (D.int IntKind.i64 b)), (1, T.val ((D.agg [D.int IntKind.i64 zm.day, D.int IntKind.i64 zm.item, D.int IntKind.i64 zm.kind, D.int IntKind.i64 zm.br, D.int IntKind.i64 zm.who]).slice (List.map encMove l))), (2, T.val (D.agg [D.int IntKind.i64 m.day, D.int IntKind.i64 m.item, D.int IntKind.i64 m.kind, D.int IntKind.i64 m.br, D.int IntKind.i64 m.who])), (5, T.box [C.d (D.int IntKind.i64 m.day), C.d (D.int IntKind.i64 m.item), C.d (D.int IntKind.i64 m.kind), C.d (D.int IntKind.i64 m.br), C.d (D.int IntKind.i64 m.who)]), (6, T.val (D.bool false)), (7, T.box [C.d (D.int IntKind.i64 (replayR b l m.item).fst.st), C.d (D.int IntKind.i64 (replayR b l m.item).fst.br), C.d (D.int IntKind.i64 (replayR b l m.item).fst.who), C.d (D.int IntKind.i64 (replayR b l m.item).fst.to)]), (8, T.val (D.int IntKind.i64 (replayR b l m.item).snd.fst)), (9, T.val (D.int IntKind.i64 (replayR b l m.item).snd.snd)), (24, T.val (D.bool (decide ((60 : Int) < ↑l.length)))), (35, T.own true (D.agg [D.int IntKind.i64 (0 : Int), D.int IntKind.i64 (0 : Int), D.int IntKind.i64 (0 : Int), D.int IntKind.i64 (0 : Int), D.int IntKind.i64 (0 : Int)]) []), (36, T.val ((D.agg [D.int IntKind.i64 zm.day, D.int IntKind.i64 zm.item, D.int IntKind.i64 zm.kind, D.int IntKind.i64 zm.br, D.int IntKind.i64 zm.who]).slice (List.map encMove l)))] ?_ fun h_0_1 => ?_
      · skip
        refine coreB.step [2, 3] (by kernel_rfl) (by simp) ?_
        refine allB.cons rfl ?_ ?_
        · skip
          simp [encMoves_eq, encCus_eq, encMove_eq]
          repeat refine ⟨by first | omega | assumption | (simp only [maxLen]; omega) | (intros; omega) | decide, ?_⟩
          exact contB.mk (by simp [Weak, TW, encMoves_eq, encCus_eq, encMove_eq]) h_0_1_2 (by kernel_rfl)
        refine allB.cons rfl ?_ ?_
        · skip
          simp [encMoves_eq, encCus_eq, encMove_eq]
          repeat refine ⟨by first | omega | assumption | (simp only [maxLen]; omega) | (intros; omega) | decide, ?_⟩
          exact contB.mk (by simp [Weak, TW, encMoves_eq, encCus_eq, encMove_eq]) h_0_1_3 (by kernel_rfl)
        exact allB.nil
      refine coreB.cut 5 #[true, false, false, true, false, false, false] [(0, T.val (D.int IntKind.i64 b)), (1, T.val ((D.agg [D.int IntKind.i64 zm.day, D.int IntKind.i64 zm.item, D.int IntKind.i64 zm.kind, D.int IntKind.i64 zm.br, D.int IntKind.i64 zm.who]).slice (List.map encMove l))), (2, T.val (D.agg [D.int IntKind.i64 m.day, D.int IntKind.i64 m.item, D.int IntKind.i64 m.kind, D.int IntKind.i64 m.br, D.int IntKind.i64 m.who])), (5, T.box [C.d (D.int IntKind.i64 m.day), C.d (D.int IntKind.i64 m.item), C.d (D.int IntKind.i64 m.kind), C.d (D.int IntKind.i64 m.br), C.d (D.int IntKind.i64 m.who)]), (6, T.val (D.bool false)), (7, T.box [C.d (D.int IntKind.i64 (replayR b l m.item).fst.st), C.d (D.int IntKind.i64 (replayR b l m.item).fst.br), C.d (D.int IntKind.i64 (replayR b l m.item).fst.who), C.d (D.int IntKind.i64 (replayR b l m.item).fst.to)]), (8, T.val (D.int IntKind.i64 (replayR b l m.item).snd.fst)), (9, T.val (D.int IntKind.i64 (replayR b l m.item).snd.snd)), (24, T.val (D.bool (decide ((60 : Int) < ↑l.length)))), (35, T.own true (D.agg [D.int IntKind.i64 (0 : Int), D.int IntKind.i64 (0 : Int), D.int IntKind.i64 (0 : Int), D.int IntKind.i64 (0 : Int), D.int IntKind.i64 (0 : Int)]) []), (38, T.val (D.agg [D.int IntKind.i64 m.day, D.int IntKind.i64 m.item, D.int IntKind.i64 m.kind, D.int IntKind.i64 m.br, D.int IntKind.i64 m.who]))] ?_ fun h_0_3 => ?_
      · skip
        refine coreB.step [1, 4] (by kernel_rfl) (by simp) ?_
        refine allB.cons rfl ?_ ?_
        · skip
          simp [encMoves_eq, encCus_eq, encMove_eq]
          repeat refine ⟨by first | omega | assumption | (simp only [maxLen]; omega) | (intros; omega) | decide, ?_⟩
          exact contB.mk (by simp [Weak, TW, encMoves_eq, encCus_eq, encMove_eq]) h_0_1_3 (by kernel_rfl)
        refine allB.cons rfl ?_ ?_
        · skip
          simp [encMoves_eq, encCus_eq, encMove_eq]
          repeat refine ⟨by first | omega | assumption | (simp only [maxLen]; omega) | (intros; omega) | decide, ?_⟩
          exact contB.mk (by simp [Weak, TW, encMoves_eq, encCus_eq, encMove_eq]) h_0_3_4 (by kernel_rfl)
        exact allB.nil
      refine coreB.cut 5 #[false, true, false, true, false, false, false] [(0, T.val (D.int IntKind.i64 b)), (1, T.val ((D.agg [D.int IntKind.i64 zm.day, D.int IntKind.i64 zm.item, D.int IntKind.i64 zm.kind, D.int IntKind.i64 zm.br, D.int IntKind.i64 zm.who]).slice (List.map encMove l))), (2, T.val (D.agg [D.int IntKind.i64 m.day, D.int IntKind.i64 m.item, D.int IntKind.i64 m.kind, D.int IntKind.i64 m.br, D.int IntKind.i64 m.who])), (5, T.box [C.d (D.int IntKind.i64 m.day), C.d (D.int IntKind.i64 m.item), C.d (D.int IntKind.i64 m.kind), C.d (D.int IntKind.i64 m.br), C.d (D.int IntKind.i64 m.who)]), (6, T.val (D.bool false)), (7, T.box [C.d (D.int IntKind.i64 (replayR b l m.item).fst.st), C.d (D.int IntKind.i64 (replayR b l m.item).fst.br), C.d (D.int IntKind.i64 (replayR b l m.item).fst.who), C.d (D.int IntKind.i64 (replayR b l m.item).fst.to)]), (8, T.val (D.int IntKind.i64 (replayR b l m.item).snd.fst)), (9, T.val (D.int IntKind.i64 (replayR b l m.item).snd.snd)), (24, T.val (D.bool (decide ((60 : Int) < ↑l.length)))), (36, T.val ((D.agg [D.int IntKind.i64 zm.day, D.int IntKind.i64 zm.item, D.int IntKind.i64 zm.kind, D.int IntKind.i64 zm.br, D.int IntKind.i64 zm.who]).slice (List.map encMove l))), (38, T.val (D.agg [D.int IntKind.i64 m.day, D.int IntKind.i64 m.item, D.int IntKind.i64 m.kind, D.int IntKind.i64 m.br, D.int IntKind.i64 m.who]))] ?_ fun h_1_3 => ?_
      · skip
        refine coreB.step [0, 4] (by kernel_rfl) (by simp) ?_
        refine allB.cons rfl ?_ ?_
        · skip
          simp [encMoves_eq, encCus_eq, encMove_eq]
          repeat refine ⟨by first | omega | assumption | (simp only [maxLen]; omega) | (intros; omega) | decide, ?_⟩
          exact contB.mk (by simp [Weak, TW, encMoves_eq, encCus_eq, encMove_eq]) h_0_1_3 (by kernel_rfl)
        refine allB.cons rfl ?_ ?_
        · skip
          simp [encMoves_eq, encCus_eq, encMove_eq]
          repeat refine ⟨by first | omega | assumption | (simp only [maxLen]; omega) | (intros; omega) | decide, ?_⟩
          exact contB.mk (by simp [Weak, TW, encMoves_eq, encCus_eq, encMove_eq]) h_1_3_4 (by kernel_rfl)
        exact allB.nil
      refine coreB.cut 5 #[false, false, false, true, true, false, false] [(0, T.val (D.int IntKind.i64 b)), (1, T.val ((D.agg [D.int IntKind.i64 zm.day, D.int IntKind.i64 zm.item, D.int IntKind.i64 zm.kind, D.int IntKind.i64 zm.br, D.int IntKind.i64 zm.who]).slice (List.map encMove l))), (2, T.val (D.agg [D.int IntKind.i64 m.day, D.int IntKind.i64 m.item, D.int IntKind.i64 m.kind, D.int IntKind.i64 m.br, D.int IntKind.i64 m.who])), (5, T.box [C.d (D.int IntKind.i64 m.day), C.d (D.int IntKind.i64 m.item), C.d (D.int IntKind.i64 m.kind), C.d (D.int IntKind.i64 m.br), C.d (D.int IntKind.i64 m.who)]), (6, T.val (D.bool false)), (7, T.box [C.d (D.int IntKind.i64 (replayR b l m.item).fst.st), C.d (D.int IntKind.i64 (replayR b l m.item).fst.br), C.d (D.int IntKind.i64 (replayR b l m.item).fst.who), C.d (D.int IntKind.i64 (replayR b l m.item).fst.to)]), (8, T.val (D.int IntKind.i64 (replayR b l m.item).snd.fst)), (9, T.val (D.int IntKind.i64 (replayR b l m.item).snd.snd)), (24, T.val (D.bool (decide ((60 : Int) < ↑l.length)))), (38, T.val (D.agg [D.int IntKind.i64 m.day, D.int IntKind.i64 m.item, D.int IntKind.i64 m.kind, D.int IntKind.i64 m.br, D.int IntKind.i64 m.who])), (39, T.own true (D.agg [D.int IntKind.i64 (0 : Int), D.int IntKind.i64 (0 : Int), D.int IntKind.i64 (0 : Int), D.int IntKind.i64 (0 : Int), D.int IntKind.i64 (0 : Int)]) [D.agg [D.int IntKind.i64 m.day, D.int IntKind.i64 m.item, D.int IntKind.i64 m.kind, D.int IntKind.i64 m.br, D.int IntKind.i64 m.who]])] ?_ fun h_3_4 => ?_
      · skip
        refine coreB.step [0, 1] (by kernel_rfl) (by simp) ?_
        refine allB.cons rfl ?_ ?_
        · skip
          simp [encMoves_eq, encCus_eq, encMove_eq]
          repeat refine ⟨by first | omega | assumption | (simp only [maxLen]; omega) | (intros; omega) | decide, ?_⟩
          exact contB.mk (by simp [Weak, TW, encMoves_eq, encCus_eq, encMove_eq]) h_0_3_4 (by kernel_rfl)
        refine allB.cons rfl ?_ ?_
        · skip
          simp [encMoves_eq, encCus_eq, encMove_eq]
          repeat refine ⟨by first | omega | assumption | (simp only [maxLen]; omega) | (intros; omega) | decide, ?_⟩
          exact contB.mk (by simp [Weak, TW, encMoves_eq, encCus_eq, encMove_eq]) h_1_3_4 (by kernel_rfl)
        exact allB.nil
      refine coreB.cut 6 #[true, false, false, false, false, false, false] [(0, T.val (D.int IntKind.i64 b)), (1, T.val ((D.agg [D.int IntKind.i64 zm.day, D.int IntKind.i64 zm.item, D.int IntKind.i64 zm.kind, D.int IntKind.i64 zm.br, D.int IntKind.i64 zm.who]).slice (List.map encMove l))), (2, T.val (D.agg [D.int IntKind.i64 m.day, D.int IntKind.i64 m.item, D.int IntKind.i64 m.kind, D.int IntKind.i64 m.br, D.int IntKind.i64 m.who])), (5, T.box [C.d (D.int IntKind.i64 m.day), C.d (D.int IntKind.i64 m.item), C.d (D.int IntKind.i64 m.kind), C.d (D.int IntKind.i64 m.br), C.d (D.int IntKind.i64 m.who)]), (6, T.val (D.bool false)), (7, T.box [C.d (D.int IntKind.i64 (replayR b l m.item).fst.st), C.d (D.int IntKind.i64 (replayR b l m.item).fst.br), C.d (D.int IntKind.i64 (replayR b l m.item).fst.who), C.d (D.int IntKind.i64 (replayR b l m.item).fst.to)]), (8, T.val (D.int IntKind.i64 (replayR b l m.item).snd.fst)), (9, T.val (D.int IntKind.i64 (replayR b l m.item).snd.snd)), (24, T.val (D.bool (decide ((60 : Int) < ↑l.length)))), (35, T.own true (D.agg [D.int IntKind.i64 (0 : Int), D.int IntKind.i64 (0 : Int), D.int IntKind.i64 (0 : Int), D.int IntKind.i64 (0 : Int), D.int IntKind.i64 (0 : Int)]) [])] ?_ fun h_0 => ?_
      · skip
        refine coreB.step [1, 3] (by kernel_rfl) (by simp) ?_
        refine allB.cons rfl ?_ ?_
        · skip
          simp [encMoves_eq, encCus_eq, encMove_eq]
          repeat refine ⟨by first | omega | assumption | (simp only [maxLen]; omega) | (intros; omega) | decide, ?_⟩
          exact contB.mk (by simp [Weak, TW, encMoves_eq, encCus_eq, encMove_eq]) h_0_1 (by kernel_rfl)
        refine allB.cons rfl ?_ ?_
        · skip
          simp [encMoves_eq, encCus_eq, encMove_eq]
          repeat refine ⟨by first | omega | assumption | (simp only [maxLen]; omega) | (intros; omega) | decide, ?_⟩
          exact contB.mk (by simp [Weak, TW, encMoves_eq, encCus_eq, encMove_eq]) h_0_3 (by kernel_rfl)
        exact allB.nil
      refine coreB.cut 6 #[false, true, false, false, false, false, false] [(0, T.val (D.int IntKind.i64 b)), (1, T.val ((D.agg [D.int IntKind.i64 zm.day, D.int IntKind.i64 zm.item, D.int IntKind.i64 zm.kind, D.int IntKind.i64 zm.br, D.int IntKind.i64 zm.who]).slice (List.map encMove l))), (2, T.val (D.agg [D.int IntKind.i64 m.day, D.int IntKind.i64 m.item, D.int IntKind.i64 m.kind, D.int IntKind.i64 m.br, D.int IntKind.i64 m.who])), (5, T.box [C.d (D.int IntKind.i64 m.day), C.d (D.int IntKind.i64 m.item), C.d (D.int IntKind.i64 m.kind), C.d (D.int IntKind.i64 m.br), C.d (D.int IntKind.i64 m.who)]), (6, T.val (D.bool false)), (7, T.box [C.d (D.int IntKind.i64 (replayR b l m.item).fst.st), C.d (D.int IntKind.i64 (replayR b l m.item).fst.br), C.d (D.int IntKind.i64 (replayR b l m.item).fst.who), C.d (D.int IntKind.i64 (replayR b l m.item).fst.to)]), (8, T.val (D.int IntKind.i64 (replayR b l m.item).snd.fst)), (9, T.val (D.int IntKind.i64 (replayR b l m.item).snd.snd)), (24, T.val (D.bool (decide ((60 : Int) < ↑l.length)))), (36, T.val ((D.agg [D.int IntKind.i64 zm.day, D.int IntKind.i64 zm.item, D.int IntKind.i64 zm.kind, D.int IntKind.i64 zm.br, D.int IntKind.i64 zm.who]).slice (List.map encMove l)))] ?_ fun h_1 => ?_
      · skip
        refine coreB.step [0, 3] (by kernel_rfl) (by simp) ?_
        refine allB.cons rfl ?_ ?_
        · skip
          simp [encMoves_eq, encCus_eq, encMove_eq]
          repeat refine ⟨by first | omega | assumption | (simp only [maxLen]; omega) | (intros; omega) | decide, ?_⟩
          exact contB.mk (by simp [Weak, TW, encMoves_eq, encCus_eq, encMove_eq]) h_0_1 (by kernel_rfl)
        refine allB.cons rfl ?_ ?_
        · skip
          simp [encMoves_eq, encCus_eq, encMove_eq]
          repeat refine ⟨by first | omega | assumption | (simp only [maxLen]; omega) | (intros; omega) | decide, ?_⟩
          exact contB.mk (by simp [Weak, TW, encMoves_eq, encCus_eq, encMove_eq]) h_1_3 (by kernel_rfl)
        exact allB.nil
      refine coreB.cut 6 #[false, false, false, true, false, false, false] [(0, T.val (D.int IntKind.i64 b)), (1, T.val ((D.agg [D.int IntKind.i64 zm.day, D.int IntKind.i64 zm.item, D.int IntKind.i64 zm.kind, D.int IntKind.i64 zm.br, D.int IntKind.i64 zm.who]).slice (List.map encMove l))), (2, T.val (D.agg [D.int IntKind.i64 m.day, D.int IntKind.i64 m.item, D.int IntKind.i64 m.kind, D.int IntKind.i64 m.br, D.int IntKind.i64 m.who])), (5, T.box [C.d (D.int IntKind.i64 m.day), C.d (D.int IntKind.i64 m.item), C.d (D.int IntKind.i64 m.kind), C.d (D.int IntKind.i64 m.br), C.d (D.int IntKind.i64 m.who)]), (6, T.val (D.bool false)), (7, T.box [C.d (D.int IntKind.i64 (replayR b l m.item).fst.st), C.d (D.int IntKind.i64 (replayR b l m.item).fst.br), C.d (D.int IntKind.i64 (replayR b l m.item).fst.who), C.d (D.int IntKind.i64 (replayR b l m.item).fst.to)]), (8, T.val (D.int IntKind.i64 (replayR b l m.item).snd.fst)), (9, T.val (D.int IntKind.i64 (replayR b l m.item).snd.snd)), (24, T.val (D.bool (decide ((60 : Int) < ↑l.length)))), (38, T.val (D.agg [D.int IntKind.i64 m.day, D.int IntKind.i64 m.item, D.int IntKind.i64 m.kind, D.int IntKind.i64 m.br, D.int IntKind.i64 m.who]))] ?_ fun h_3 => ?_
      · skip
        refine coreB.step [0, 1, 4] (by kernel_rfl) (by simp) ?_
        refine allB.cons rfl ?_ ?_
        · skip
          simp [encMoves_eq, encCus_eq, encMove_eq]
          repeat refine ⟨by first | omega | assumption | (simp only [maxLen]; omega) | (intros; omega) | decide, ?_⟩
          exact contB.mk (by simp [Weak, TW, encMoves_eq, encCus_eq, encMove_eq]) h_0_3 (by kernel_rfl)
        refine allB.cons rfl ?_ ?_
        · skip
          simp [encMoves_eq, encCus_eq, encMove_eq]
          repeat refine ⟨by first | omega | assumption | (simp only [maxLen]; omega) | (intros; omega) | decide, ?_⟩
          exact contB.mk (by simp [Weak, TW, encMoves_eq, encCus_eq, encMove_eq]) h_1_3 (by kernel_rfl)
        refine allB.cons rfl ?_ ?_
        · skip
          simp [encMoves_eq, encCus_eq, encMove_eq]
          repeat refine ⟨by first | omega | assumption | (simp only [maxLen]; omega) | (intros; omega) | decide, ?_⟩
          exact contB.mk (by simp [Weak, TW, encMoves_eq, encCus_eq, encMove_eq]) h_3_4 (by kernel_rfl)
        exact allB.nil
      refine coreB.cut 7 #[false, false, false, false, false, false, false] [(0, T.val (D.int IntKind.i64 b)), (1, T.val ((D.agg [D.int IntKind.i64 zm.day, D.int IntKind.i64 zm.item, D.int IntKind.i64 zm.kind, D.int IntKind.i64 zm.br, D.int IntKind.i64 zm.who]).slice (List.map encMove l))), (2, T.val (D.agg [D.int IntKind.i64 m.day, D.int IntKind.i64 m.item, D.int IntKind.i64 m.kind, D.int IntKind.i64 m.br, D.int IntKind.i64 m.who])), (5, T.box [C.d (D.int IntKind.i64 m.day), C.d (D.int IntKind.i64 m.item), C.d (D.int IntKind.i64 m.kind), C.d (D.int IntKind.i64 m.br), C.d (D.int IntKind.i64 m.who)]), (6, T.val (D.bool false)), (7, T.box [C.d (D.int IntKind.i64 (replayR b l m.item).fst.st), C.d (D.int IntKind.i64 (replayR b l m.item).fst.br), C.d (D.int IntKind.i64 (replayR b l m.item).fst.who), C.d (D.int IntKind.i64 (replayR b l m.item).fst.to)]), (8, T.val (D.int IntKind.i64 (replayR b l m.item).snd.fst)), (9, T.val (D.int IntKind.i64 (replayR b l m.item).snd.snd)), (10, T.junk), (11, T.junk), (12, T.junk), (13, T.junk), (14, T.junk), (15, T.junk), (16, T.junk), (18, T.junk), (19, T.junk), (21, T.junk), (24, T.val (D.bool (decide ((60 : Int) < ↑l.length)))), (51, T.junk), (94, T.junk), (96, T.junk), (97, T.junk), (98, T.junk), (99, T.junk), (106, T.junk)] ?_ fun h_ => ?_
      · skip
        refine coreB.step [0, 1, 3] (by kernel_rfl) (by simp) ?_
        refine allB.cons rfl ?_ ?_
        · skip
          simp [encMoves_eq, encCus_eq, encMove_eq]
          repeat refine ⟨by first | omega | assumption | (simp only [maxLen]; omega) | (intros; omega) | decide, ?_⟩
          exact contB.mk (by simp [Weak, TW, encMoves_eq, encCus_eq, encMove_eq]) h_0 (by kernel_rfl)
        refine allB.cons rfl ?_ ?_
        · skip
          simp [encMoves_eq, encCus_eq, encMove_eq]
          repeat refine ⟨by first | omega | assumption | (simp only [maxLen]; omega) | (intros; omega) | decide, ?_⟩
          exact contB.mk (by simp [Weak, TW, encMoves_eq, encCus_eq, encMove_eq]) h_1 (by kernel_rfl)
        refine allB.cons rfl ?_ ?_
        · skip
          simp [encMoves_eq, encCus_eq, encMove_eq]
          repeat refine ⟨by first | omega | assumption | (simp only [maxLen]; omega) | (intros; omega) | decide, ?_⟩
          exact contB.mk (by simp [Weak, TW, encMoves_eq, encCus_eq, encMove_eq]) h_3 (by kernel_rfl)
        exact allB.nil
      exact h_
    refine hK _ ?_
    clear hK K
    -- region 5
    refine AWp.rseq E_ok [0, 1, 2, 5, 6, 7, 8, 9, 10, 11, 12, 13, 14, 15, 16, 18, 19, 21, 24, 51, 94, 96, 97, 98, 99, 106] fun K hK => ?_
    simp [encMoves_eq, encCus_eq, encMove_eq]
    repeat refine ⟨by first | omega | assumption | (simp only [maxLen]; omega) | (intros; omega) | decide, ?_⟩
    refine meet.of (custody_Replay_a b l m (by omega)) ?_
    simp [encMoves_eq, encCus_eq, encMove_eq]
    repeat refine ⟨by first | omega | assumption | (simp only [maxLen]; omega) | (intros; omega) | decide, ?_⟩
    refine hK _ ?_
    clear hK K
    refine AWp.seq ?_
    -- region 6
    refine AWp.rseq E_ok [0, 1, 2, 5, 6, 7, 8, 9, 10, 11, 12, 13, 14, 15, 16, 18, 19, 21, 24, 51, 94, 96, 97, 98, 99, 106] fun K hK => ?_
    simp [encMoves_eq, encCus_eq, encMove_eq]
    repeat refine ⟨by first | omega | assumption | (simp only [maxLen]; omega) | (intros; omega) | decide, ?_⟩
    refine hK _ ?_
    clear hK K
    refine AWp.cond rfl (fun h51 => ?_) (fun h51 => ?_)
    · try simp at h51
      have hA := cont_bad (m := m) h51
      -- region 7
      refine AWp.rseq E_ok [0, 1, 2, 5, 6, 7, 8, 9, 10, 11, 12, 13, 14, 15, 16, 18, 19, 21, 24, 51, 94, 96, 97, 98, 99, 106] fun K hK => ?_
      simp [encMoves_eq, encCus_eq, encMove_eq]
      repeat refine ⟨by first | omega | assumption | (simp only [maxLen]; omega) | (intros; omega) | decide, ?_⟩
      refine meet.of (law30_alive) ?_
      simp [encMoves_eq, encCus_eq, encMove_eq]
      repeat refine ⟨by first | omega | assumption | (simp only [maxLen]; omega) | (intros; omega) | decide, ?_⟩
      refine hK _ ?_
      clear hK K
      refine AWp.ret ?_
      repeat first | refine thenN ?_ | refine thenX ?_ | refine thenR ?_ | refine blockN ?_ | refine blockR ?_ | refine blockX ?_ | refine blockM rfl ?_
      first | (simp [RetOk, RV]; done) | (simp [RetOk, RV, hA]; done) | (simp [RetOk, RV, hO])
    · try simp at h51
      have hA := cont_ok (m := m) rfl h51
      refine AWp.skip ?_
      repeat first | refine thenN ?_ | refine thenX ?_ | refine thenR ?_ | refine blockN ?_ | refine blockR ?_ | refine blockX ?_ | refine blockM rfl ?_
      -- region 8
      refine AWp.rseq E_ok [0, 1, 2, 5, 6, 7, 8, 9, 10, 11, 12, 13, 14, 15, 16, 18, 19, 21, 24, 51, 94, 96, 97, 98, 99, 106] fun K hK => ?_
      simp [encMoves_eq, encCus_eq, encMove_eq]
      repeat refine ⟨by first | omega | assumption | (simp only [maxLen]; omega) | (intros; omega) | decide, ?_⟩
      refine meet.of (custody_Apply (replayR b l m.item).1 m) ?_
      simp [encMoves_eq, encCus_eq, encMove_eq]
      repeat refine ⟨by first | omega | assumption | (simp only [maxLen]; omega) | (intros; omega) | decide, ?_⟩
      refine hK _ ?_
      clear hK K
      refine AWp.seq ?_
      -- region 9
      refine AWp.rseq E_ok [0, 1, 2, 5, 6, 7, 8, 9, 10, 11, 12, 13, 14, 15, 16, 18, 19, 21, 24, 51, 94, 96, 97, 98, 99, 106] fun K hK => ?_
      simp [encMoves_eq, encCus_eq, encMove_eq]
      repeat refine ⟨by first | omega | assumption | (simp only [maxLen]; omega) | (intros; omega) | decide, ?_⟩
      refine hK _ ?_
      clear hK K
      refine AWp.cond rfl (fun h94 => ?_) (fun h94 => ?_)
      · try simp at h94
        exfalso; rcases hA with ⟨a1, a2, a3⟩ | ⟨a1, a3⟩ <;> simp [a3, a1, *, c00] at h94
      · try simp at h94
        refine AWp.skip ?_
        repeat first | refine thenN ?_ | refine thenX ?_ | refine thenR ?_ | refine blockN ?_ | refine blockR ?_ | refine blockX ?_ | refine blockM rfl ?_
        -- region 11
        refine AWp.rseq E_ok [0, 1, 2, 5, 6, 7, 8, 9, 10, 11, 12, 13, 14, 15, 16, 18, 19, 21, 24, 51, 94, 96, 97, 98, 99, 106] fun K hK => ?_
        simp [encMoves_eq, encCus_eq, encMove_eq]
        repeat refine ⟨by first | omega | assumption | (simp only [maxLen]; omega) | (intros; omega) | decide, ?_⟩
        refine hK _ ?_
        clear hK K
        refine AWp.seq ?_
        -- region 12
        refine AWp.rseq E_ok [0, 1, 2, 5, 6, 7, 8, 9, 10, 11, 12, 13, 14, 15, 16, 18, 19, 21, 24, 51, 94, 96, 97, 98, 99, 106] fun K hK => ?_
        simp [encMoves_eq, encCus_eq, encMove_eq]
        repeat refine ⟨by first | omega | assumption | (simp only [maxLen]; omega) | (intros; omega) | decide, ?_⟩
        refine hK _ ?_
        clear hK K
        refine AWp.block ?_
        refine AWp.range (l := l) (F := ownF m.item) (tot := ownF m.item [] l) (fun k y => match y with | o => o.length ≤ k) (fun k y => match y with | o => [(0, T.val (D.int IntKind.i64 b)), (1, T.val ((D.agg [D.int IntKind.i64 zm.day, D.int IntKind.i64 zm.item, D.int IntKind.i64 zm.kind, D.int IntKind.i64 zm.br, D.int IntKind.i64 zm.who]).slice (List.map encMove l))), (2, T.val (D.agg [D.int IntKind.i64 m.day, D.int IntKind.i64 m.item, D.int IntKind.i64 m.kind, D.int IntKind.i64 m.br, D.int IntKind.i64 m.who])), (5, T.box [C.d (D.int IntKind.i64 m.day), C.d (D.int IntKind.i64 m.item), C.d (D.int IntKind.i64 m.kind), C.d (D.int IntKind.i64 m.br), C.d (D.int IntKind.i64 m.who)]), (7, T.box [C.d (D.int IntKind.i64 (replayR b l m.item).fst.st), C.d (D.int IntKind.i64 (replayR b l m.item).fst.br), C.d (D.int IntKind.i64 (replayR b l m.item).fst.who), C.d (D.int IntKind.i64 (replayR b l m.item).fst.to)]), (16, T.own true (encMove zm) (o.map encMove)), (96, T.val ((D.agg [D.int IntKind.i64 zm.day, D.int IntKind.i64 zm.item, D.int IntKind.i64 zm.kind, D.int IntKind.i64 zm.br, D.int IntKind.i64 zm.who]).slice (List.map encMove l))), (97, T.val (D.int IntKind.i64 ↑l.length)), (98, T.val (.int .i64 k))]) ([]) ?_ rfl ?_ ?_
        · simp [Weak, TW, encMoves_eq, encCus_eq, encMove_eq, zm]
        · first | exact trivial | (simp; omega) | simp
        rintro k o hk hs hi
        try simp only at hi
        -- region 13
        refine AWp.rseq E_ok [0, 1, 2, 5, 6, 7, 8, 9, 10, 11, 12, 13, 14, 15, 16, 18, 19, 21, 24, 51, 94, 96, 97, 98, 99, 106] fun K hK => ?_
        simp [encMoves_eq, encCus_eq, encMove_eq]
        repeat refine ⟨by first | omega | assumption | (simp only [maxLen]; omega) | (intros; omega) | decide, ?_⟩
        refine hK _ ?_
        clear hK K
        refine AWp.seq ?_
        refine AWp.cond rfl (fun h99 => ?_) (fun h99 => ?_)
        · try simp at h99
          obtain ⟨x, hx, hxx, hd⟩ := at_indexG (l := l) h99
          rw [hd] at hs
          refine AWp.skip ?_
          repeat first | refine thenN ?_ | refine thenX ?_ | refine thenR ?_ | refine blockN ?_ | refine blockR ?_ | refine blockX ?_ | refine blockM rfl ?_
          refine AWp.seq ?_
          refine AWp.block ?_
          -- region 14
          refine AWp.rseq E_ok [0, 1, 2, 5, 6, 7, 8, 9, 10, 11, 12, 13, 14, 15, 16, 18, 19, 21, 24, 51, 94, 96, 97, 98, 99, 106] fun K hK => ?_
          simp [encMoves_eq, encCus_eq, encMove_eq, h99, hx, hxx]
          repeat refine ⟨by first | omega | assumption | (simp only [maxLen]; omega) | (intros; omega) | decide, ?_⟩
          refine hK _ ?_
          clear hK K
          -- region 15
          refine AWp.rseq E_ok [0, 1, 2, 5, 6, 7, 8, 9, 10, 11, 12, 13, 14, 15, 16, 18, 19, 21, 24, 51, 94, 96, 97, 98, 99, 106] fun K hK => ?_
          simp [encMoves_eq, encCus_eq, encMove_eq, h99, hx, hxx]
          repeat refine ⟨by first | omega | assumption | (simp only [maxLen]; omega) | (intros; omega) | decide, ?_⟩
          refine hK _ ?_
          clear hK K
          refine AWp.cond rfl (fun h106 => ?_) (fun h106 => ?_)
          · try simp at h106
            have hc : x.item = m.item := by simpa using h106
            -- region 16
            refine AWp.rend E_ok [0, 1, 2, 5, 6, 7, 8, 9, 10, 11, 12, 13, 14, 15, 16, 18, 19, 21, 24, 51, 94, 96, 97, 98, 99, 106] fun K hK => ?_
            simp [encMoves_eq, encCus_eq, encMove_eq, h99, hx, hxx]
            repeat refine ⟨by first | omega | assumption | (simp only [maxLen]; omega) | (intros; omega) | decide, ?_⟩
            refine hK _ ?_
            clear hK K
            repeat first | refine thenN ?_ | refine thenX ?_ | refine thenR ?_ | refine blockN ?_ | refine blockR ?_ | refine blockX ?_ | refine blockM rfl ?_
            -- region 17
            refine AWp.rend E_ok [0, 1, 2, 5, 6, 7, 8, 9, 10, 11, 12, 13, 14, 15, 16, 18, 19, 21, 24, 51, 94, 96, 97, 98, 99, 106] fun K hK => ?_
            simp [encMoves_eq, encCus_eq, encMove_eq, h99, hx, hxx]
            repeat refine ⟨by first | omega | assumption | (simp only [maxLen]; omega) | (intros; omega) | decide, ?_⟩
            refine hK _ ?_
            clear hK K
            repeat first | refine thenN ?_ | refine thenX ?_ | refine thenR ?_ | refine blockN ?_ | refine blockR ?_ | refine blockX ?_ | refine blockM rfl ?_
            have hw : IntKind.i64.wrap ((k : Int) + 1) = (k : Int) + 1 := by rw [wrap_i64] <;> omega
            rw [ownF] at hs
            first | rw [if_pos hc] at hs | rw [if_neg hc] at hs
            refine ⟨_, h99, hs, ?_, ?_⟩
            · first | exact trivial | (simp; omega) | simp
            · simp [Weak, TW, hw, encMoves_eq, encCus_eq, encMove_eq]
          · try simp at h106
            have hc : ¬ x.item = m.item := by simpa using h106
            refine AWp.skip ?_
            repeat first | refine thenN ?_ | refine thenX ?_ | refine thenR ?_ | refine blockN ?_ | refine blockR ?_ | refine blockX ?_ | refine blockM rfl ?_
            -- region 17
            refine AWp.rend E_ok [0, 1, 2, 5, 6, 7, 8, 9, 10, 11, 12, 13, 14, 15, 16, 18, 19, 21, 24, 51, 94, 96, 97, 98, 99, 106] fun K hK => ?_
            simp [encMoves_eq, encCus_eq, encMove_eq, h99, hx, hxx]
            repeat refine ⟨by first | omega | assumption | (simp only [maxLen]; omega) | (intros; omega) | decide, ?_⟩
            refine hK _ ?_
            clear hK K
            repeat first | refine thenN ?_ | refine thenX ?_ | refine thenR ?_ | refine blockN ?_ | refine blockR ?_ | refine blockX ?_ | refine blockM rfl ?_
            have hw : IntKind.i64.wrap ((k : Int) + 1) = (k : Int) + 1 := by rw [wrap_i64] <;> omega
            rw [ownF] at hs
            first | rw [if_pos hc] at hs | rw [if_neg hc] at hs
            refine ⟨_, h99, hs, ?_, ?_⟩
            · first | exact trivial | (simp; omega) | simp
            · simp [Weak, TW, hw, encMoves_eq, encCus_eq, encMove_eq]
        · try simp at h99
          obtain rfl : k = l.length := by omega
          simp [ownF] at hs
          refine AWp.exit ?_
          repeat first | refine thenN ?_ | refine thenX ?_ | refine thenR ?_ | refine blockN ?_ | refine blockR ?_ | refine blockX ?_ | refine blockM rfl ?_
          -- region 18
          subst hs
          have hO := own_ok h51
          refine AWp.rseq E_ok [0, 1, 2, 5, 6, 7, 8, 9, 10, 11, 12, 13, 14, 15, 16, 18, 19, 21, 24, 51, 94, 96, 97, 98, 99, 106] fun K hK => ?_
          simp [encMoves_eq, encCus_eq, encMove_eq, h99]
          repeat refine ⟨by first | omega | assumption | (simp only [maxLen]; omega) | (intros; omega) | decide, ?_⟩
          refine meet.of (custody_Replay b (ownF m.item [] l) m.item (by have := own_len m.item l; omega)) ?_
          simp [encMoves_eq, encCus_eq, encMove_eq, h99]
          repeat refine ⟨by first | omega | assumption | (simp only [maxLen]; omega) | (intros; omega) | decide, ?_⟩
          refine hK _ ?_
          clear hK K
          -- region 19
          refine AWp.rseq E_ok [0, 1, 2, 5, 6, 7, 8, 9, 10, 11, 12, 13, 14, 15, 16, 18, 19, 21, 24, 51, 94, 96, 97, 98, 99, 106] fun K hK => ?_
          simp [encMoves_eq, encCus_eq, encMove_eq, h99]
          repeat refine ⟨by first | omega | assumption | (simp only [maxLen]; omega) | (intros; omega) | decide, ?_⟩
          refine meet.of (law30_alive) ?_
          simp [encMoves_eq, encCus_eq, encMove_eq, h99]
          repeat refine ⟨by first | omega | assumption | (simp only [maxLen]; omega) | (intros; omega) | decide, ?_⟩
          refine hK _ ?_
          clear hK K
          refine AWp.ret ?_
          repeat first | refine thenN ?_ | refine thenX ?_ | refine thenR ?_ | refine blockN ?_ | refine blockR ?_ | refine blockX ?_ | refine blockM rfl ?_
          first | (simp [RetOk, RV]; done) | (simp [RetOk, RV, hA]; done) | (simp [RetOk, RV, hO])
end Go.Proofs.YtabmhpgbfjkkcaaDoor

namespace Pl
open Go Ab
structure Charge where
  id : Int
  patron : Int
  item : Int
  day : Int
  kind : Int
  amount : Int
  paid : Int
  deriving Inhabited, DecidableEq
structure Cal where
  week : Int
  closed : List Int
structure Rule where
  r0 : Int
  r1 : Int
  r2 : Int
  r3 : Int
  r4 : Int
  fine : Int
  grace : Int
  maxFine : Int
  r8 : Int
  r9 : Int
  r10 : Int
  r11 : Int
  r12 : Int
def encCharge (c : Charge) : D := .agg [.int .i64 c.id, .int .i64 c.patron, .int .i64 c.item, .int .i64 c.day, .int .i64 c.kind, .int .i64 c.amount, .int .i64 c.paid]
def z0 : Charge := ⟨0, 0, 0, 0, 0, 0, 0⟩
def encCharges (l : List Charge) : D := .slice (encCharge z0) (l.map encCharge)
def encInts (l : List Int) : D := .slice (.int .i64 0) (l.map (D.int .i64))
def encCal (c : Cal) : D := .agg [.int .i64 c.week, encInts c.closed]
def encRule (r : Rule) : D := .agg [.int .i64 r.r0, .int .i64 r.r1, .int .i64 r.r2, .int .i64 r.r3, .int .i64 r.r4, .int .i64 r.fine, .int .i64 r.grace, .int .i64 r.maxFine, .int .i64 r.r8, .int .i64 r.r9, .int .i64 r.r10, .int .i64 r.r11, .int .i64 r.r12]
@[simp] theorem encCharge_cells (c : Charge) : (encCharge c).cells = [.int .i64 c.id, .int .i64 c.patron, .int .i64 c.item, .int .i64 c.day, .int .i64 c.kind, .int .i64 c.amount, .int .i64 c.paid] := rfl
theorem encCharge_eq (c : Charge) : encCharge c = .agg [.int .i64 c.id, .int .i64 c.patron, .int .i64 c.item, .int .i64 c.day, .int .i64 c.kind, .int .i64 c.amount, .int .i64 c.paid] := rfl
theorem encCharges_eq (l : List Charge) : encCharges l = .slice (encCharge z0) (l.map encCharge) := rfl
theorem encInts_eq (l : List Int) : encInts l = .slice (.int .i64 0) (l.map (D.int .i64)) := rfl
theorem encCal_eq (c : Cal) : encCal c = .agg [.int .i64 c.week, encInts c.closed] := rfl
theorem encRule_eq (r : Rule) : encRule r = .agg [.int .i64 r.r0, .int .i64 r.r1, .int .i64 r.r2, .int .i64 r.r3, .int .i64 r.r4, .int .i64 r.fine, .int .i64 r.grace, .int .i64 r.maxFine, .int .i64 r.r8, .int .i64 r.r9, .int .i64 r.r10, .int .i64 r.r11, .int .i64 r.r12] := rfl
def isDay (n : Int) : Bool := decide (0 ≤ n) && decide (n ≤ 109572)
def isID (n : Int) : Bool := decide (1 ≤ n) && decide (n ≤ 9999)
def wday (n : Int) : Int := if isDay n then n.tmod 7 else -1
def ruleOk (r : Rule) : Bool := decide (0 ≤ r.fine) && decide (r.fine ≤ 1000) && decide (0 ≤ r.grace) && decide (r.grace ≤ 30) && decide (0 ≤ r.maxFine) && decide (r.maxFine ≤ 100000000)
def owedF (p : Int) : Int → List Charge → Int
  | s, [] => s
  | s, c :: l => owedF p (if c.patron = p then IntKind.i64.wrap (s + IntKind.i64.wrap (c.amount - c.paid)) else s) l
def payStep (p r : Int) (c : Charge) : Int := if IntKind.i64.wrap (c.amount - c.paid) < r then IntKind.i64.wrap (c.amount - c.paid) else r
def payF (p : Int) : Int × List Charge → List Charge → Int × List Charge
  | (r, o), [] => (r, o)
  | (r, o), c :: l =>
    if c.patron = p then
      if IntKind.i64.wrap (c.paid + payStep p r c) < c.amount then payF p (IntKind.i64.wrap (r - payStep p r c), o ++ [{ c with paid := IntKind.i64.wrap (c.paid + payStep p r c) }]) l
      else payF p (IntKind.i64.wrap (r - payStep p r c), o) l
    else if c.paid < c.amount then payF p (r, o ++ [c]) l else payF p (r, o) l
def payR (l : List Charge) (p a : Int) : RetT :=
  if a < 1 ∨ 100000000 < a then .tup [encCharges [], .int .i64 0, .int .i64 1]
  else .tup [encCharges (payF p (a, []) l).2, .int .i64 (payF p (a, []) l).1, .int .i64 0]
theorem payR_bad {l : List Charge} {p a : Int} (h : a < 1 ∨ 100000000 < a) : payR l p a = .tup [encCharges [], .int .i64 0, .int .i64 1] := if_pos h
theorem payR_good {l : List Charge} {p a : Int} (h : 1 ≤ a ∧ a ≤ 100000000) : payR l p a = .tup [encCharges (payF p (a, []) l).2, .int .i64 (payF p (a, []) l).1, .int .i64 0] := if_neg (by omega)
def idxG (p : Int → Bool) : Unit → List Int → Int := fun _ _ => 0
def owedG (p : Int) : Int → List Charge → Int
  | s, [] => s
  | s, c :: l => owedG p (if c.patron = p then IntKind.i64.wrap (IntKind.i64.wrap (s + c.amount) - c.paid) else s) l
theorem owedG_eq (p : Int) : ∀ (l : List Charge) (s : Int), owedG p s l = owedF p s l
  | [], s => rfl
  | c :: l, s => by
    have e : IntKind.i64.wrap (IntKind.i64.wrap (s + c.amount) - c.paid) = IntKind.i64.wrap (s + IntKind.i64.wrap (c.amount - c.paid)) := by
      simp only [IntKind.wrap_i64]; omega
    rw [owedG, owedF, e]
    exact owedG_eq p l _
def idxF (p : Int → Bool) : Int → List Int → Int
  | _, [] => -1
  | i, x :: l => if p x then i else idxF p (i + 1) l
theorem idxF_any (p : Int → Bool) : ∀ (l : List Int) (i : Int), 0 ≤ i → decide (0 ≤ idxF p i l) = l.any p
  | [], i, _ => by simp [idxF]
  | x :: l, i, hi => by
    by_cases hp : p x = true
    · simp [idxF, hp, hi]
    · have hp' : p x = false := by simpa using hp
      simp only [idxF, List.any_cons, hp', Bool.false_eq_true, if_false, Bool.false_or]
      exact idxF_any p l (i + 1) (by omega)
def chkC (c : Charge) : Int :=
  if c.id < 1 ∨ 99999 < c.id ∨ c.patron < 1 ∨ 9999 < c.patron ∨ c.item < 1 ∨ 9999 < c.item ∨ isDay c.day = false then 2
  else if c.kind < 1 ∨ 3 < c.kind then 1
  else if c.amount < 1 ∨ 100000000 < c.amount ∨ c.paid < 0 ∨ c.amount ≤ c.paid then 2 else 0
section
variable {x : Charge}
theorem chk2a (h : (((((x.id < 1 ∨ 99999 < x.id) ∨ x.patron < 1) ∨ 9999 < x.patron) ∨ x.item < 1) ∨ 9999 < x.item) ∨ isDay x.day = false) : chkC x = 2 := if_pos (by simpa only [or_assoc] using h)
theorem chkn (h : (((((1 ≤ x.id ∧ x.id ≤ 99999) ∧ 1 ≤ x.patron) ∧ x.patron ≤ 9999) ∧ 1 ≤ x.item) ∧ x.item ≤ 9999) ∧ isDay x.day = true) : ¬ (x.id < 1 ∨ 99999 < x.id ∨ x.patron < 1 ∨ 9999 < x.patron ∨ x.item < 1 ∨ 9999 < x.item ∨ isDay x.day = false) := by
  obtain ⟨h1, h2⟩ := h
  rw [h2]
  simp
  omega
theorem chk1 (h : (((((1 ≤ x.id ∧ x.id ≤ 99999) ∧ 1 ≤ x.patron) ∧ x.patron ≤ 9999) ∧ 1 ≤ x.item) ∧ x.item ≤ 9999) ∧ isDay x.day = true) (h2 : x.kind < 1 ∨ 3 < x.kind) : chkC x = 1 := by
  unfold chkC; rw [if_neg (chkn h), if_pos h2]
theorem chk2b (h : (((((1 ≤ x.id ∧ x.id ≤ 99999) ∧ 1 ≤ x.patron) ∧ x.patron ≤ 9999) ∧ 1 ≤ x.item) ∧ x.item ≤ 9999) ∧ isDay x.day = true) (h2 : 1 ≤ x.kind ∧ x.kind ≤ 3) (h3 : ((x.amount < 1 ∨ 100000000 < x.amount) ∨ x.paid < 0) ∨ x.amount ≤ x.paid) : chkC x = 2 := by
  unfold chkC; rw [if_neg (chkn h), if_neg (by omega), if_pos (by omega)]
theorem chk0 (h : (((((1 ≤ x.id ∧ x.id ≤ 99999) ∧ 1 ≤ x.patron) ∧ x.patron ≤ 9999) ∧ 1 ≤ x.item) ∧ x.item ≤ 9999) ∧ isDay x.day = true) (h2 : 1 ≤ x.kind ∧ x.kind ≤ 3) (h3 : ((1 ≤ x.amount ∧ x.amount ≤ 100000000) ∧ 0 ≤ x.paid) ∧ x.paid < x.amount) : chkC x = 0 := by
  unfold chkC; rw [if_neg (chkn h), if_neg (by omega), if_neg (by omega)]
end
def lowId : Option Int → Int → Bool
  | none, _ => false
  | some p, i => decide (i ≤ p)
def rightF : Option Int → List Charge → Int
  | _, [] => 0
  | pr, c :: l => if lowId pr c.id = true then 7 else if chkC c ≠ 0 then chkC c else rightF (some c.id) l
def rightR (l : List Charge) : Int := if 128 < l.length then 13 else rightF none l
theorem rightR_ok {l : List Charge} (h : (l.length : Int) ≤ 128) : rightR l = rightF none l := if_neg (by omega)
theorem rightR_full {l : List Charge} (h : 128 < (l.length : Int)) : rightR l = 13 := if_pos (by omega)
def sameF : List Charge → List Charge → Bool := fun r l => decide (l = r)
section
variable {x : Charge}
theorem isID_t {n : Int} : isID n = true ↔ 1 ≤ n ∧ n ≤ 9999 := by simp [isID]
theorem isID_f {n : Int} : isID n = false ↔ n < 1 ∨ 9999 < n := by simp [isID]; omega
theorem chk2c (h : (((x.id < 1 ∨ 99999 < x.id) ∨ isID x.patron = false) ∨ isID x.item = false) ∨ isDay x.day = false) : chkC x = 2 := if_pos (by simp only [isID_f] at h; simpa only [or_assoc] using h)
theorem chkcv (h : (((1 ≤ x.id ∧ x.id ≤ 99999) ∧ isID x.patron = true) ∧ isID x.item = true) ∧ isDay x.day = true) : (((((1 ≤ x.id ∧ x.id ≤ 99999) ∧ 1 ≤ x.patron) ∧ x.patron ≤ 9999) ∧ 1 ≤ x.item) ∧ x.item ≤ 9999) ∧ isDay x.day = true := by
  simp only [isID_t] at h; simpa only [and_assoc] using h
theorem chk1c (h : (((1 ≤ x.id ∧ x.id ≤ 99999) ∧ isID x.patron = true) ∧ isID x.item = true) ∧ isDay x.day = true) (h2 : x.kind < 1 ∨ 3 < x.kind) : chkC x = 1 := chk1 (chkcv h) h2
theorem chk2d (h : (((1 ≤ x.id ∧ x.id ≤ 99999) ∧ isID x.patron = true) ∧ isID x.item = true) ∧ isDay x.day = true) (h2 : 1 ≤ x.kind ∧ x.kind ≤ 3) (h3 : ((x.amount < 1 ∨ 100000000 < x.amount) ∨ x.paid < 0) ∨ x.amount ≤ x.paid) : chkC x = 2 := chk2b (chkcv h) h2 h3
theorem chk0c (h : (((1 ≤ x.id ∧ x.id ≤ 99999) ∧ isID x.patron = true) ∧ isID x.item = true) ∧ isDay x.day = true) (h2 : 1 ≤ x.kind ∧ x.kind ≤ 3) (h3 : ((1 ≤ x.amount ∧ x.amount ≤ 100000000) ∧ 0 ≤ x.paid) ∧ x.paid < x.amount) : chkC x = 0 := chk0 (chkcv h) h2 h3
end
def remF (p : Charge → Bool) : List Charge × Int × Int → List Charge → List Charge × Int × Int
  | (o, q, n), [] => (o, q, n)
  | (o, q, n), c :: l => if p c = true then remF p (o, IntKind.i64.wrap (q + c.paid), IntKind.i64.wrap (n + 1)) l else remF p (o ++ [c], q, n) l
def remR (l : List Charge) (p : Charge → Bool) : RetT := .tup [encCharges (remF p ([], 0, 0) l).1, .int .i64 (remF p ([], 0, 0) l).2.1, .int .i64 (remF p ([], 0, 0) l).2.2]
def refP (p i k : Int) (c : Charge) : Bool := (c.patron == p && c.item == i) && (k == 0 || c.kind == k)
def waiveR (l : List Charge) (i : Int) : RetT :=
  if (remF (fun c => c.id == i) ([], 0, 0) l).2.2 = 0 then .tup [encCharges [], .int .i64 0, .int .i64 9]
  else .tup [encCharges (remF (fun c => c.id == i) ([], 0, 0) l).1, .int .i64 (remF (fun c => c.id == i) ([], 0, 0) l).2.1, .int .i64 0]
theorem waiveR_none {l : List Charge} {i : Int} (h : (remF (fun c => c.id == i) ([], 0, 0) l).2.2 = 0) : waiveR l i = .tup [encCharges [], .int .i64 0, .int .i64 9] := if_pos h
theorem waiveR_some {l : List Charge} {i : Int} (h : ¬ (remF (fun c => c.id == i) ([], 0, 0) l).2.2 = 0) : waiveR l i = .tup [encCharges (remF (fun c => c.id == i) ([], 0, 0) l).1, .int .i64 (remF (fun c => c.id == i) ([], 0, 0) l).2.1, .int .i64 0] := if_neg h
def refundR (l : List Charge) (p i k : Int) : RetT := .tup [encCharges (remF (refP p i k) ([], 0, 0) l).1, .int .i64 (remF (refP p i k) ([], 0, 0) l).2.1]
def wvF (i : Int) : List Charge × Int → List Charge → List Charge × Int
  | (o, q), [] => (o, q)
  | (o, q), c :: l => if c.id = i then wvF i (o, c.paid) l else wvF i (o ++ [c], q) l
def wvR (l : List Charge) (i : Int) : RetT :=
  if (wvF i ([], -1) l).2 < 0 then .tup [encCharges [], .int .i64 0, .int .i64 9] else .tup [encCharges (wvF i ([], -1) l).1, .int .i64 (wvF i ([], -1) l).2, .int .i64 0]
theorem wvR_none {l : List Charge} {i : Int} (h : (wvF i ([], -1) l).2 < 0) : wvR l i = .tup [encCharges [], .int .i64 0, .int .i64 9] := if_pos h
theorem wvR_some {l : List Charge} {i : Int} (h : 0 ≤ (wvF i ([], -1) l).2) : wvR l i = .tup [encCharges (wvF i ([], -1) l).1, .int .i64 (wvF i ([], -1) l).2, .int .i64 0] := if_neg (by omega)
def rfF (p i k : Int) : List Charge × Int → List Charge → List Charge × Int
  | (o, q), [] => (o, q)
  | (o, q), c :: l => if refP p i k c = true then rfF p i k (o, IntKind.i64.wrap (q + c.paid)) l else rfF p i k (o ++ [c], q) l
def rfR (l : List Charge) (p i k : Int) : RetT := .tup [encCharges (rfF p i k ([], 0) l).1, .int .i64 (rfF p i k ([], 0) l).2]
def ascF : Option Int → List Int → Int
  | _, [] => 0
  | pr, x :: l => if lowId pr x = true then 7 else ascF (some x) l
def calR (c : Cal) : Int := if c.week < 0 ∨ 127 ≤ c.week then 1 else if 64 < (c.closed.length : Int) then 13 else if c.closed.any (fun n => !isDay n) = true then 2 else ascF none c.closed
theorem cal_len {c : Cal} (h : D.Ok (encCal c)) : c.closed.length ≤ 9223372036854775807 := by
  have := (Ok_slice (Ok_agg h (encInts c.closed) (by simp))).1
  simpa using this
section
variable {c : Cal}
theorem cal1 (h : c.week < 0 ∨ 127 ≤ c.week) : calR c = 1 := if_pos h
theorem cal13 (h : 0 ≤ c.week ∧ c.week < 127) (h2 : 64 < (c.closed.length : Int)) : calR c = 13 := by unfold calR; rw [if_neg (by omega), if_pos h2]
theorem cal2 (h : 0 ≤ c.week ∧ c.week < 127) (h2 : (c.closed.length : Int) ≤ 64) (h3 : ∃ x ∈ c.closed, isDay x = false) : calR c = 2 := by
  unfold calR; rw [if_neg (by omega), if_neg (by omega), if_pos (by simpa using h3)]
theorem calA (h : 0 ≤ c.week ∧ c.week < 127) (h2 : (c.closed.length : Int) ≤ 64) (h3 : ∀ x ∈ c.closed, isDay x = true) : calR c = ascF none c.closed := by
  unfold calR; rw [if_neg (by omega), if_neg (by omega), if_neg (by simpa using h3)]
end
def fst7 (w : Int) : Int := (IntKind.i64.wrap (IntKind.i64.wrap (w - wday 0) + 7)).tmod 7
def upToW (d w : Int) : Int := if d < fst7 w then 0 else IntKind.i64.wrap (IntKind.i64.wrap ((IntKind.i64.wrap (d - fst7 w)).tdiv 7) + 1)
theorem upToW_lt {d w : Int} (h : d < fst7 w) : upToW d w = 0 := if_pos h
theorem upToW_ge {d w : Int} (h : fst7 w ≤ d) : upToW d w = IntKind.i64.wrap (IntKind.i64.wrap ((IntKind.i64.wrap (d - fst7 w)).tdiv 7) + 1) := if_neg (by omega)
def wkB (w : Int) (i : Nat) : Bool := bits BinOp.and IntKind.i64 (w.fdiv (2 ^ min i IntKind.i64.bits)) 1 == 0
def weekL (w : Int) : List D := [.bool (wkB w 0), .bool (wkB w 1), .bool (wkB w 2), .bool (wkB w 3), .bool (wkB w 4), .bool (wkB w 5), .bool (wkB w 6)]
@[simp] theorem weekL_length (w : Int) : (weekL w).length = 7 := rfl
@[simp] theorem weekL_getD (w : Int) (i : Nat) : (weekL w)[i]?.getD (D.bool false) = D.bool (decide (i < 7) && wkB w i) := by
  by_cases h : i < 7
  · have : i = 0 ∨ i = 1 ∨ i = 2 ∨ i = 3 ∨ i = 4 ∨ i = 5 ∨ i = 6 := by omega
    rcases this with rfl | rfl | rfl | rfl | rfl | rfl | rfl <;> simp [weekL]
  · rw [List.getElem?_eq_none (by simp; omega)]
    simp [h]
@[simp] theorem weekL_ld (w : Int) : List.take 7 (List.map (C.dat ∘ C.d) (weekL w)) = weekL w := rfl
def cnt7 (w lo hi : Int) : Nat → Int
  | 0 => 0
  | k + 1 => if wkB w k = true then IntKind.i64.wrap (cnt7 w lo hi k + IntKind.i64.wrap (upToW hi k - upToW (IntKind.i64.wrap (lo - 1)) k)) else cnt7 w lo hi k
@[simp] theorem cnt7_zero {w lo hi : Int} : cnt7 w lo hi 0 = 0 := rfl
theorem wday_rng {d : Int} (h0 : 0 ≤ d) (h1 : d ≤ 109572) : 0 ≤ wday d ∧ wday d < 7 := by
  have e : wday d = d % 7 := by
    unfold wday isDay
    rw [if_pos (by simp [h0, h1]), Int.tmod_eq_emod_of_nonneg h0]
  rw [e]; omega
def cntIn (w lo hi d : Int) : Bool := (decide (lo ≤ d) && decide (d ≤ hi)) && (decide (wday d < 7) && wkB w (wday d).toNat)
def cntG (w lo hi : Int) : Int → List Int → Int
  | n, [] => n
  | n, d :: l => if cntIn w lo hi d = true then cntG w lo hi (IntKind.i64.wrap (n - 1)) l else cntG w lo hi n l
def countR (c : Cal) (f t : Int) : Int :=
  if (if 109572 < t then 109572 else t) < (if f < 0 then 0 else f) then 0
  else cntG c.week (if f < 0 then 0 else f) (if 109572 < t then 109572 else t) (cnt7 c.week (if f < 0 then 0 else f) (if 109572 < t then 109572 else t) 7) c.closed
theorem countR_ge {c : Cal} {f t lo hi : Int} (h1 : (if f < 0 then 0 else f) = lo) (h2 : (if 109572 < t then 109572 else t) = hi) (h : lo ≤ hi) : countR c f t = cntG c.week lo hi (cnt7 c.week lo hi 7) c.closed := by
  unfold countR; rw [h1, h2, if_neg (by omega)]
def lateR (r : Rule) (c : Cal) (d b : Int) : Int :=
  if (¬ calR c = 0 ∨ isDay d = false) ∨ isDay b = false then 0
  else if countR c (IntKind.i64.wrap (d + 1)) b ≤ r.grace then 0
  else if r.maxFine < IntKind.i64.wrap (countR c (IntKind.i64.wrap (d + 1)) b * r.fine) then r.maxFine else IntKind.i64.wrap (countR c (IntKind.i64.wrap (d + 1)) b * r.fine)
section
variable {r : Rule} {c : Cal} {d b : Int}
theorem lateR_bad (h : (¬ calR c = 0 ∨ isDay d = false) ∨ isDay b = false) : lateR r c d b = 0 := if_pos h
theorem lateN (h : (calR c = 0 ∧ isDay d = true) ∧ isDay b = true) : ¬ ((¬ calR c = 0 ∨ isDay d = false) ∨ isDay b = false) := by simp [h.1.1, h.1.2, h.2]
theorem lateR_gr (h : (calR c = 0 ∧ isDay d = true) ∧ isDay b = true) (h2 : countR c (IntKind.i64.wrap (d + 1)) b ≤ r.grace) : lateR r c d b = 0 := by
  unfold lateR; rw [if_neg (lateN h), if_pos h2]
theorem lateR_ok (h : (calR c = 0 ∧ isDay d = true) ∧ isDay b = true) (h2 : r.grace < countR c (IntKind.i64.wrap (d + 1)) b) :
    lateR r c d b = if r.maxFine < IntKind.i64.wrap (countR c (IntKind.i64.wrap (d + 1)) b * r.fine) then r.maxFine else IntKind.i64.wrap (countR c (IntKind.i64.wrap (d + 1)) b * r.fine) := by
  unfold lateR; rw [if_neg (lateN h), if_neg (by omega)]
end
def r0 : Rule := ⟨0, 0, 0, 0, 0, 20, 1, 100, 0, 0, 0, 0, 0⟩
def c0 : Cal := ⟨0, []⟩
def l0 : List Charge := [⟨1, 5, 3, 9, 1, 300, 100⟩, ⟨2, 5, 4, 9, 3, 50, 0⟩]
def payO (l : List Charge) (p a : Int) : List Charge := if a < 1 ∨ 100000000 < a then [] else (payF p (a, []) l).2
def payX (l : List Charge) (p a : Int) : Int := if a < 1 ∨ 100000000 < a then 0 else (payF p (a, []) l).1
def payE (_ : List Charge) (_ a : Int) : Int := if a < 1 ∨ 100000000 < a then 1 else 0
theorem payR_tup (l : List Charge) (p a : Int) : payR l p a = .tup [encCharges (payO l p a), .int .i64 (payX l p a), .int .i64 (payE l p a)] := by
  unfold payR payO payX payE
  split <;> rfl
theorem rightF_cons {pr : Option Int} {c : Charge} {l : List Charge} (h : rightF pr (c :: l) = 0) : lowId pr c.id = false ∧ chkC c = 0 ∧ rightF (some c.id) l = 0 := by
  simp only [rightF] at h
  split at h
  · exact absurd h (by decide)
  · rename_i h1
    split at h
    · rename_i h2; exact absurd h h2
    · rename_i h2
      exact ⟨by simpa using h1, by simpa using h2, h⟩
theorem rightF_gt : ∀ (l : List Charge) (m : Int), rightF (some m) l = 0 → ∀ c ∈ l, m < c.id
  | [], _, _, c, hc => by simp at hc
  | x :: l, m, h, c, hc => by
    obtain ⟨h1, _, h3⟩ := rightF_cons h
    have hx : m < x.id := by simpa [lowId] using h1
    rcases List.mem_cons.1 hc with rfl | hc
    · exact hx
    · have := rightF_gt l x.id h3 c hc; omega
theorem chk0_facts {x : Charge} (h : chkC x = 0) : 1 ≤ x.id ∧ x.id ≤ 99999 ∧ 1 ≤ x.amount ∧ x.amount ≤ 100000000 ∧ 0 ≤ x.paid ∧ x.paid < x.amount := by
  unfold chkC at h
  split at h
  · exact absurd h (by decide)
  · split at h
    · exact absurd h (by decide)
    · split at h
      · exact absurd h (by decide)
      · rename_i h1 h2 h3
        have : ¬ (x.id < 1 ∨ 99999 < x.id) := fun hh => h1 (by rcases hh with hh | hh <;> simp [hh])
        omega
theorem rem_none {i : Int} : ∀ (l : List Charge) (o : List Charge) (q n : Int), (∀ c ∈ l, c.id ≠ i) → remF (fun c => c.id == i) (o, q, n) l = (o ++ l, q, n)
  | [], o, q, n, _ => by simp [remF]
  | c :: l, o, q, n, h => by
    have hc : ¬ (c.id = i) := h c (by simp)
    simp only [remF, beq_iff_eq, hc, if_false]
    rw [rem_none l _ q n (fun c' h' => h c' (by simp [h']))]; simp
theorem wv_none {i : Int} : ∀ (l : List Charge) (o : List Charge) (q : Int), (∀ c ∈ l, c.id ≠ i) → wvF i (o, q) l = (o ++ l, q)
  | [], o, q, _ => by simp [wvF]
  | c :: l, o, q, h => by
    have hc : ¬ (c.id = i) := h c (by simp)
    simp only [wvF, hc, if_false]
    rw [wv_none l _ q (fun c' h' => h c' (by simp [h']))]; simp
theorem rem_wv {i : Int} : ∀ (l : List Charge) (pr : Option Int) (o : List Charge), rightF pr l = 0 →
    (∃ x, remF (fun c => c.id == i) (o, 0, 0) l = (x, 0, 0) ∧ wvF i (o, -1) l = (x, -1)) ∨ ∃ x pd, 0 ≤ pd ∧ remF (fun c => c.id == i) (o, 0, 0) l = (x, pd, 1) ∧ wvF i (o, -1) l = (x, pd)
  | [], _, o, _ => .inl ⟨o, by simp [remF], by simp [wvF]⟩
  | c :: l, pr, o, h => by
    obtain ⟨_, h2, h3⟩ := rightF_cons h
    have hf := chk0_facts h2
    by_cases hc : c.id = i
    · right
      have hno : ∀ c' ∈ l, c'.id ≠ i := fun c' hc' => by have := rightF_gt l c.id h3 c' hc'; omega
      have e1 : IntKind.i64.wrap (0 + c.paid) = c.paid := by rw [wrap_i64] <;> omega
      have e2 : IntKind.i64.wrap (0 + 1) = 1 := by rw [wrap_i64] <;> omega
      refine ⟨o ++ l, c.paid, hf.2.2.2.2.1, ?_, ?_⟩
      · simp only [remF, beq_iff_eq, hc, if_true, e1, e2]
        exact rem_none l o _ _ hno
      · simp only [wvF, hc, if_true]
        exact wv_none l o _ hno
    · simp only [remF, wvF, beq_iff_eq, hc, if_false]
      exact rem_wv l (some c.id) (o ++ [c]) h3
theorem wvR_eq {l : List Charge} {i : Int} (h : rightR l = 0) : wvR l i = waiveR l i := by
  have h' : rightF none l = 0 := by
    unfold rightR at h
    split at h
    · exact absurd h (by decide)
    · exact h
  rcases rem_wv (i := i) l none [] h' with ⟨x, h1, h2⟩ | ⟨x, pd, h0, h1, h2⟩
  · unfold wvR waiveR; rw [h1, h2]; simp
  · unfold wvR waiveR; rw [h1, h2]; simp; omega
def wO (l : List Charge) (i : Int) : List Charge := if (remF (fun c => c.id == i) ([], 0, 0) l).2.2 = 0 then [] else (remF (fun c => c.id == i) ([], 0, 0) l).1
def wX (l : List Charge) (i : Int) : Int := if (remF (fun c => c.id == i) ([], 0, 0) l).2.2 = 0 then 0 else (remF (fun c => c.id == i) ([], 0, 0) l).2.1
def wE (l : List Charge) (i : Int) : Int := if (remF (fun c => c.id == i) ([], 0, 0) l).2.2 = 0 then 9 else 0
theorem waiveR_tup (l : List Charge) (i : Int) : waiveR l i = .tup [encCharges (wO l i), .int .i64 (wX l i), .int .i64 (wE l i)] := by
  unfold waiveR wO wX wE; split <;> rfl
theorem rf_rem {p i k : Int} : ∀ (l : List Charge) (o : List Charge) (q n : Int), (rfF p i k (o, q) l).1 = (remF (refP p i k) (o, q, n) l).1 ∧ (rfF p i k (o, q) l).2 = (remF (refP p i k) (o, q, n) l).2.1
  | [], o, q, n => ⟨rfl, rfl⟩
  | c :: l, o, q, n => by
    simp only [rfF, remF]
    split
    · exact rf_rem l o _ _
    · exact rf_rem l _ q n
def addR (l : List Charge) (c : Charge) : RetT := if rightR (l ++ [c]) = 0 then .tup [encCharges (l ++ [c]), .int .i64 0] else .tup [encCharges [], .int .i64 (rightR (l ++ [c]))]
theorem addR_bad {l : List Charge} {c : Charge} (h : ¬ rightR (l ++ [c]) = 0) : addR l c = .tup [encCharges [], .int .i64 (rightR (l ++ [c]))] := if_neg h
theorem addR_ok {l : List Charge} {c : Charge} (h : rightR (l ++ [c]) = 0) : addR l c = .tup [encCharges (l ++ [c]), .int .i64 0] := if_pos h
def copyF (o l : List Charge) : List Charge := o ++ l
def addO (l : List Charge) (c : Charge) : List Charge := if rightR (l ++ [c]) = 0 then l ++ [c] else []
theorem addR_tup (l : List Charge) (c : Charge) : addR l c = .tup [encCharges (addO l c), .int .i64 (rightR (l ++ [c]))] := by
  unfold addR addO
  split
  · rename_i h; rw [h]
  · rfl
def hv : Nat → Int → Int
  | 0, w => w
  | k + 1, w => IntKind.i64.wrap ((hv k w).tdiv 2)
@[simp] theorem hv_zero {w : Int} : hv 0 w = w := rfl
def anyF (d : Int) : Unit → List Int → Bool
  | _, [] => true
  | _, x :: l => if x = d then false else anyF d () l
def openR (c : Cal) (d : Int) : Bool := if d < 0 ∨ 109572 < d then false else if (hv (wday d).toNat c.week).tmod 2 = 1 then false else anyF d () c.closed
section
variable {c : Cal} {d : Int}
theorem openR_out (h : d < 0 ∨ 109572 < d) : openR c d = false := if_pos h
theorem openR_week (h : 0 ≤ d ∧ d ≤ 109572) (h2 : (hv (wday d).toNat c.week).tmod 2 = 1) : openR c d = false := by unfold openR; rw [if_neg (by omega), if_pos h2]
theorem openR_in (h : 0 ≤ d ∧ d ≤ 109572) (h2 : ¬ (hv (wday d).toNat c.week).tmod 2 = 1) : openR c d = anyF d () c.closed := by unfold openR; rw [if_neg (by omega), if_neg h2]
end
def cntN (c : Cal) : Nat → Int → Int → Int
  | 0, _, n => n
  | k + 1, d, n => cntN c k (d + 1) (if openR c d = true then IntKind.i64.wrap (n + 1) else n)
def countD (c : Cal) (f t : Int) : Int := cntN c ((if 109572 < t then 109572 else t) + 1 - (if f < 0 then 0 else f)).toNat (if f < 0 then 0 else f) 0
theorem countD_eq {c : Cal} {f t lo hi : Int} (h1 : (if f < 0 then 0 else f) = lo) (h2 : (if 109572 < t then 109572 else t) = hi) : countD c f t = cntN c (hi + 1 - lo).toNat lo 0 := by
  unfold countD; rw [h1, h2]
def badF : Unit → List Int → Bool
  | _, [] => false
  | _, x :: l => if isDay x = false then true else badF () l
theorem badF_any : ∀ l : List Int, badF () l = l.any (fun n => !isDay n)
  | [] => rfl
  | x :: l => by
    simp only [badF, List.any_cons, badF_any l]
    cases h : isDay x <;> simp
theorem asc_tail : ∀ l : List Int, ascF none l = ascF l.head? l.tail
  | [] => rfl
  | x :: l => by simp [ascF, lowId]
theorem cal2b {c : Cal} (h : 0 ≤ c.week ∧ c.week < 127) (h2 : (c.closed.length : Int) ≤ 64) (h3 : badF () c.closed = true) : calR c = 2 := by
  rw [badF_any] at h3
  unfold calR; rw [if_neg (by omega), if_neg (by omega), if_pos h3]
theorem calAb {c : Cal} (h : 0 ≤ c.week ∧ c.week < 127) (h2 : (c.closed.length : Int) ≤ 64) (h3 : badF () c.closed = false) : calR c = ascF c.closed.head? c.closed.tail := by
  rw [badF_any] at h3
  unfold calR; rw [if_neg (by omega), if_neg (by omega), if_neg (by simp [h3]), asc_tail]
end Pl
