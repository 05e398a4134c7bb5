/-
  What the functions compute that the statement reaches: contracts, and the plain laws between them. Conditions stand at each theorem.
-/
import Derived.Test.YtabmhpgbfjkkcaaDoorWalkOne
import Derived.Shelf.Strconv.Itoa0
import Derived.Shelf.Strconv.Itoa1
import Derived.Shelf.LaysM
import Derived.Shelf.Strconv.Itoa2
import Derived.Shelf.Strconv.Itoa3
import Derived.Test.YtabmhpgbfjkkcaaDoorProg
set_option linter.unusedVariables false
set_option linter.unusedSimpArgs false
/-
  DERIVED: THE SHELF's CONTRACTS AT THIS DUMP, IN PLAIN WORDS (tools/lay-plain.mjs out of 'TrydShelf.lean', which tools/lay-shelf.mjs wrote): THE SAME DECLARATIONS UNDER THE SAME NAMES: 'import', 'namespace', 'open', 'def', 'theorem' AND NOTHING ELSE: no command of the shelf's: FOR A HAND-IN. Each laying: the table of numbers ('.._ren') and one theorem, a field a fact of the dump's own or the kernel's comparison; each contract: ONE APPLICATION.
-/
namespace Go.Proofs
open Go.Shelf
def Tryd.lays129_ren : Go.Shelf.Ren := ⟨fun | 129 => 42 | n => n, fun | 53 => 55 | 3 => 3 | 4 => 4 | 46 => 64 | 5 => 5 | 9 => 9 | n => n, fun | n => n⟩
theorem Tryd.lays129 : Go.Proofs.Lays.n129 Tryd.prog Tryd.lays129_ren := {
  mixed := by kernel_rfl
  f129 := Tryd.func42.trans (congrArg some (by kernel_rfl))
  t3 := Tryd.underlying3
  a3 := Tryd.isAgg3
  z3 := Tryd.sizeOf3
  v3 := Tryd.zeroValue3
  t4 := Tryd.underlying4
  a4 := Tryd.isAgg4
  z4 := Tryd.sizeOf4
  v4 := Tryd.zeroValue4
  t5 := Tryd.underlying5
  a5 := Tryd.isAgg5
  z5 := Tryd.sizeOf5
  v5 := Tryd.zeroValue5
  t9 := Tryd.underlying9
  a9 := Tryd.isAgg9
  z9 := Tryd.sizeOf9
  v9 := Tryd.zeroValue9
  t46 := Tryd.underlying64
  a46 := Tryd.isAgg64
  z46 := Tryd.sizeOf64
  v46 := Tryd.zeroValue64
  t53 := Tryd.underlying55
  a53 := Tryd.isAgg55
  z53 := Tryd.sizeOf55
  v53 := Tryd.zeroValue55 }
/-- bits.Len64: "Len64 returns the minimum number of bits required to represent x; the result is 0 for x == 0.": IT RETURNS 'Lib.bitLen x'; the world is as it was. ('h0', 'h1': x is a uint64.) (LAID: no walk: one application.) -/
theorem Tryd.bits_Len64 (x : Int) (w : World) (h0 : 0 ≤ x) (h1 : x ≤ 18446744073709551615) :
    Calls Tryd.prog 42 #[.int .u64 x] w fun e w' => e = .returned (.int .i64 (Lib.bitLen x.toNat)) ∧ w' = w := Any.bits_Len64 Tryd.lays129 x w h0 h1
def Tryd.lays317_ren : Go.Shelf.Ren := ⟨fun | 317 => 41 | n => n, fun | 3 => 3 | 46 => 64 | n => n, fun | n => n⟩
theorem Tryd.lays317 : Go.Proofs.Lays.n317 Tryd.prog Tryd.lays317_ren := {
  mixed := by kernel_rfl
  f317 := Tryd.func41.trans (congrArg some (by kernel_rfl))
  t3 := Tryd.underlying3
  a3 := Tryd.isAgg3
  z3 := Tryd.sizeOf3
  v3 := Tryd.zeroValue3
  t46 := Tryd.underlying64
  a46 := Tryd.isAgg64
  z46 := Tryd.sizeOf64
  v46 := Tryd.zeroValue64 }
open Go.Lib in
/-- internal/strconv.log10Pow2: "log10Pow2(x) returns ⌊log₁₀ 2**x⌋ = ⌊x * log₁₀ 2⌋.": '(x * 78913) >> 18', at an x up to 64 (a length in bits). The world is as it was. (LAID: no walk: one application.) -/
theorem Tryd.internal_strconv_log10Pow2 (x : Nat) (h : x ≤ 64) (w : World) :
    Calls Tryd.prog 41 #[.int .i64 x] w fun e w' => e = .returned (.int .i64 (Lib.l10 x)) ∧ w' = w := Any.internal_strconv_log10Pow2 Tryd.lays317 x h w
def Tryd.lays318_ren : Go.Shelf.Ren := ⟨fun | 318 => 43 | n => n, fun | 3 => 3 | 4 => 4 | n => n, fun | n => n⟩
theorem Tryd.lays318 : Go.Proofs.Lays.n318 Tryd.prog Tryd.lays318_ren := {
  mixed := by kernel_rfl
  f318 := Tryd.func43.trans (congrArg some (by kernel_rfl))
  t3 := Tryd.underlying3
  a3 := Tryd.isAgg3
  z3 := Tryd.sizeOf3
  v3 := Tryd.zeroValue3
  t4 := Tryd.underlying4
  a4 := Tryd.isAgg4
  z4 := Tryd.sizeOf4
  v4 := Tryd.zeroValue4 }
open Go.Lib in
/-- internal/strconv.bool2: "bool2 converts b to an integer: 1 for true, 0 for false." The world is as it was. (LAID: no walk: one application.) -/
theorem Tryd.internal_strconv_bool2_int (b : Bool) (w : World) :
    Calls Tryd.prog 43 #[.bool b] w fun e w' => e = .returned (.int .i64 (if b then 1 else 0)) ∧ w' = w := Any.internal_strconv_bool2_int Tryd.lays318 b w
def Tryd.lays283_ren : Go.Shelf.Ren := ⟨fun | 283 => 37 | n => n, fun | 3 => 3 | 9 => 9 | 4 => 4 | n => n, fun | n => n⟩
theorem Tryd.lays283 : Go.Proofs.Lays.n283 Tryd.prog Tryd.lays283_ren := {
  mixed := by kernel_rfl
  f283 := Tryd.func37.trans (congrArg some (by kernel_rfl))
  t3 := Tryd.underlying3
  a3 := Tryd.isAgg3
  z3 := Tryd.sizeOf3
  v3 := Tryd.zeroValue3
  t4 := Tryd.underlying4
  a4 := Tryd.isAgg4
  z4 := Tryd.sizeOf4
  v4 := Tryd.zeroValue4
  t9 := Tryd.underlying9
  a9 := Tryd.isAgg9
  z9 := Tryd.sizeOf9
  v9 := Tryd.zeroValue9 }
open Go.Lib in
/-- internal/strconv.small: "small returns the string for an i with 0 <= i < nSmalls.": i's decimal numeral. The world is as it was. (LAID: no walk: one application.) -/
theorem Tryd.internal_strconv_small (i : Nat) (h : i < 100) (w : World) :
    Calls Tryd.prog 37 #[.int .i64 i] w fun e w' => e = .returned (.string ⟨(Lib.decDigits i).toArray⟩) ∧ w' = w := Any.internal_strconv_small Tryd.lays283 i h w
def Tryd.laysM284_ren : Go.Shelf.Ren := ⟨fun | 284 => 38 | 129 => 42 | 317 => 41 | 318 => 43 | n => n, fun | 53 => 55 | 3 => 3 | 212 => 61 | 0 => 0 | 4 => 4 | 46 => 64 | 5 => 5 | 9 => 9 | n => n, fun | 17 => 1 | n => n⟩
theorem Tryd.laysM284 : Go.Proofs.LaysM.n284 Tryd.prog Tryd.laysM284_ren := {
  mixed := by kernel_rfl
  f129 := Tryd.func42.trans (congrArg some (by kernel_rfl))
  f284 := Tryd.func38.trans (congrArg some (by kernel_rfl))
  f317 := Tryd.func41.trans (congrArg some (by kernel_rfl))
  f318 := Tryd.func43.trans (congrArg some (by kernel_rfl))
  t0 := Tryd.underlying0
  a0 := Tryd.isAgg0
  z0 := Tryd.sizeOf0
  v0 := Tryd.zeroValue0
  t3 := Tryd.underlying3
  a3 := Tryd.isAgg3
  z3 := Tryd.sizeOf3
  v3 := Tryd.zeroValue3
  t4 := Tryd.underlying4
  a4 := Tryd.isAgg4
  z4 := Tryd.sizeOf4
  v4 := Tryd.zeroValue4
  t5 := Tryd.underlying5
  a5 := Tryd.isAgg5
  z5 := Tryd.sizeOf5
  v5 := Tryd.zeroValue5
  t9 := Tryd.underlying9
  a9 := Tryd.isAgg9
  z9 := Tryd.sizeOf9
  v9 := Tryd.zeroValue9
  t46 := Tryd.underlying64
  a46 := Tryd.isAgg64
  z46 := Tryd.sizeOf64
  v46 := Tryd.zeroValue64
  t53 := Tryd.underlying55
  a53 := Tryd.isAgg55
  z53 := Tryd.sizeOf55
  v53 := Tryd.zeroValue55
  t212 := Tryd.underlying61
  a212 := Tryd.isAgg61
  z212 := Tryd.sizeOf61
  v212 := Tryd.zeroValue61
  g17 := by kernel_rfl
  i0 := by kernel_rfl
  i3 := by kernel_rfl
  i4 := by kernel_rfl
  i5 := by kernel_rfl
  i9 := by kernel_rfl
  i46 := by kernel_rfl
  i53 := by kernel_rfl
  i212 := by kernel_rfl
  m17 := by kernel_rfl }
open Go.Lib in
/-- internal/strconv.numDigits, at a d that is not 0: THE NUMBER OF d's DECIMAL DIGITS. The world is as it was. (LAID: no walk: one application.) -/
theorem Tryd.internal_strconv_numDigits (u : Nat) (h1 : 1 ≤ u) (h2 : u < 18446744073709551616) (w : World) (htab : Lib.TabIs Tryd.prog w "internal/strconv.uint64pow10" .u64 Lib.pow10Tab) :
    Calls Tryd.prog 38 #[.int .u64 u] w fun e w' => e = .returned (.int .i64 (Lib.nDigits u)) ∧ w' = w := Any.internal_strconv_numDigits Tryd.laysM284 u h1 h2 w htab
def Tryd.lays285_ren : Go.Shelf.Ren := ⟨fun | 285 => 39 | n => n, fun | 37 => 52 | 53 => 55 | 3 => 3 | 4 => 4 | 51 => 62 | 9 => 9 | 5 => 5 | 0 => 0 | n => n, fun | n => n⟩
theorem Tryd.lays285 : Go.Proofs.Lays.n285 Tryd.prog Tryd.lays285_ren := {
  mixed := by kernel_rfl
  f285 := Tryd.func39.trans (congrArg some (by kernel_rfl))
  t0 := Tryd.underlying0
  a0 := Tryd.isAgg0
  z0 := Tryd.sizeOf0
  v0 := Tryd.zeroValue0
  t3 := Tryd.underlying3
  a3 := Tryd.isAgg3
  z3 := Tryd.sizeOf3
  v3 := Tryd.zeroValue3
  t4 := Tryd.underlying4
  a4 := Tryd.isAgg4
  z4 := Tryd.sizeOf4
  v4 := Tryd.zeroValue4
  t5 := Tryd.underlying5
  a5 := Tryd.isAgg5
  z5 := Tryd.sizeOf5
  v5 := Tryd.zeroValue5
  t9 := Tryd.underlying9
  a9 := Tryd.isAgg9
  z9 := Tryd.sizeOf9
  v9 := Tryd.zeroValue9
  t37 := Tryd.underlying52
  a37 := Tryd.isAgg52
  z37 := Tryd.sizeOf52
  v37 := Tryd.zeroValue52
  t51 := Tryd.underlying62
  a51 := Tryd.isAgg62
  z51 := Tryd.sizeOf62
  v51 := Tryd.zeroValue62
  t53 := Tryd.underlying55
  a53 := Tryd.isAgg55
  z53 := Tryd.sizeOf55
  v53 := Tryd.zeroValue55 }
open Go.RowKit Go.Sort Go.Lib in
/-- internal/strconv.formatBase10: "formatBase10 formats the decimal representation of u into a. The caller is responsible for ensuring that a is big enough to hold u. If a is too big, leading zeros will be filled in as needed.": THE ROW HOLDS u's DIGITS ('FmtInv .. 0 ..': every place t holds 'dg u (len - 1 - t)'); all else is as it was but for the count of draws. (LAID: no walk: one application.) -/
theorem Tryd.internal_strconv_formatBase10 (blk off cap : Nat) (u : Nat) (d : Array UInt8) (w : World) (hH : Holds (fun (b : UInt8) => Value.int .u8 (b.toNat : Int)) w blk off d) (hu : u < 10 ^ d.size) (hu64 : u < 18446744073709551616) (hsz : d.size < 4611686018427387904) :
    Calls Tryd.prog 39 #[.slice (some ⟨blk, off, none⟩) d.size cap, .int .u64 u] w fun e w' =>
      e = .returned (.tuple #[]) ∧ ∃ (n v' : Nat) (dk : Array UInt8), w' = (putRow (fun (b : UInt8) => Value.int .u8 (b.toNat : Int)) w blk off dk).drewN n ∧ FmtInv d.size u 0 v' dk := Any.internal_strconv_formatBase10 Tryd.lays285 blk off cap u d w hH hu hu64 hsz
def Tryd.laysM246_ren : Go.Shelf.Ren := ⟨fun | 246 => 36 | 283 => 37 | 284 => 38 | 285 => 39 | 286 => 40 | 129 => 42 | 317 => 41 | 318 => 43 | 319 => 44 | 320 => 45 | 337 => 46 | 338 => 47 | n => n, fun | 2 => 2 | 3 => 3 | 9 => 9 | 4 => 4 | 171 => 54 | 0 => 0 | 53 => 55 | 37 => 52 | 5 => 5 | 173 => 58 | 212 => 61 | 51 => 62 | 20 => 20 | 213 => 63 | 46 => 64 | 232 => 67 | 233 => 68 | n => n, fun | 17 => 1 | 18 => 2 | 19 => 3 | n => n⟩
theorem Tryd.laysM246 : Go.Proofs.LaysM.n246 Tryd.prog Tryd.laysM246_ren := {
  mixed := by kernel_rfl
  f129 := Tryd.func42.trans (congrArg some (by kernel_rfl))
  f246 := Tryd.func36.trans (congrArg some (by kernel_rfl))
  f283 := Tryd.func37.trans (congrArg some (by kernel_rfl))
  f284 := Tryd.func38.trans (congrArg some (by kernel_rfl))
  f285 := Tryd.func39.trans (congrArg some (by kernel_rfl))
  f286 := Tryd.func40.trans (congrArg some (by kernel_rfl))
  f317 := Tryd.func41.trans (congrArg some (by kernel_rfl))
  f318 := Tryd.func43.trans (congrArg some (by kernel_rfl))
  f319 := Tryd.func44.trans (congrArg some (by kernel_rfl))
  f320 := Tryd.func45.trans (congrArg some (by kernel_rfl))
  f337 := Tryd.func46.trans (congrArg some (by kernel_rfl))
  f338 := Tryd.func47.trans (congrArg some (by kernel_rfl))
  t0 := Tryd.underlying0
  a0 := Tryd.isAgg0
  z0 := Tryd.sizeOf0
  v0 := Tryd.zeroValue0
  t2 := Tryd.underlying2
  a2 := Tryd.isAgg2
  z2 := Tryd.sizeOf2
  v2 := Tryd.zeroValue2
  t3 := Tryd.underlying3
  a3 := Tryd.isAgg3
  z3 := Tryd.sizeOf3
  v3 := Tryd.zeroValue3
  t4 := Tryd.underlying4
  a4 := Tryd.isAgg4
  z4 := Tryd.sizeOf4
  v4 := Tryd.zeroValue4
  t5 := Tryd.underlying5
  a5 := Tryd.isAgg5
  z5 := Tryd.sizeOf5
  v5 := Tryd.zeroValue5
  t9 := Tryd.underlying9
  a9 := Tryd.isAgg9
  z9 := Tryd.sizeOf9
  v9 := Tryd.zeroValue9
  t20 := Tryd.underlying20
  a20 := Tryd.isAgg20
  z20 := Tryd.sizeOf20
  v20 := Tryd.zeroValue20
  t37 := Tryd.underlying52
  a37 := Tryd.isAgg52
  z37 := Tryd.sizeOf52
  v37 := Tryd.zeroValue52
  t46 := Tryd.underlying64
  a46 := Tryd.isAgg64
  z46 := Tryd.sizeOf64
  v46 := Tryd.zeroValue64
  t51 := Tryd.underlying62
  a51 := Tryd.isAgg62
  z51 := Tryd.sizeOf62
  v51 := Tryd.zeroValue62
  t53 := Tryd.underlying55
  a53 := Tryd.isAgg55
  z53 := Tryd.sizeOf55
  v53 := Tryd.zeroValue55
  t171 := Tryd.underlying54
  a171 := Tryd.isAgg54
  z171 := Tryd.sizeOf54
  v171 := Tryd.zeroValue54
  t173 := Tryd.underlying58
  a173 := Tryd.isAgg58
  z173 := Tryd.sizeOf58
  v173 := Tryd.zeroValue58
  t212 := Tryd.underlying61
  a212 := Tryd.isAgg61
  z212 := Tryd.sizeOf61
  v212 := Tryd.zeroValue61
  t213 := Tryd.underlying63
  a213 := Tryd.isAgg63
  z213 := Tryd.sizeOf63
  t232 := Tryd.underlying67
  a232 := Tryd.isAgg67
  z232 := Tryd.sizeOf67
  v232 := Tryd.zeroValue67
  t233 := Tryd.underlying68
  a233 := Tryd.isAgg68
  z233 := Tryd.sizeOf68
  v233 := Tryd.zeroValue68
  g17 := by kernel_rfl
  g18 := by kernel_rfl
  g19 := by kernel_rfl
  i0 := by kernel_rfl
  i2 := by kernel_rfl
  i3 := by kernel_rfl
  i4 := by kernel_rfl
  i5 := by kernel_rfl
  i9 := by kernel_rfl
  i20 := by kernel_rfl
  i37 := by kernel_rfl
  i46 := by kernel_rfl
  i51 := by kernel_rfl
  i53 := by kernel_rfl
  i171 := by kernel_rfl
  i173 := by kernel_rfl
  i212 := by kernel_rfl
  i232 := by kernel_rfl
  i233 := by kernel_rfl
  m17 := by kernel_rfl
  m18 := by kernel_rfl
  m19 := by kernel_rfl }
open Go.RowKit Go.Sort Go.Lib in
/-- internal/strconv.FormatInt: "FormatInt returns the string representation of i in the given base": AT BASE 10: i's decimal numeral, for every int64. The world behind the call: the world before it, new blocks behind the heap, draws. (LAID: no walk: one application.) -/
theorem Tryd.internal_strconv_FormatInt_10 (n : Int) (h0 : -9223372036854775808 ≤ n) (h1 : n ≤ 9223372036854775807) (w : World) (htab : Lib.TabIs Tryd.prog w "internal/strconv.uint64pow10" .u64 Lib.pow10Tab) :
    Calls Tryd.prog 36 #[.int .i64 n, .int .i64 10] w fun e w' => e = .returned (.string ⟨(Lib.itoa n).toArray⟩) ∧ ∃ k os, w' = grow (w.drewN k) os := Any.internal_strconv_FormatInt_10 Tryd.laysM246 n h0 h1 w htab
def Tryd.lays246_ren : Go.Shelf.Ren := ⟨fun | 246 => 36 | 283 => 37 | 284 => 38 | 285 => 39 | 286 => 40 | 129 => 42 | 317 => 41 | 318 => 43 | 319 => 44 | 320 => 45 | 337 => 46 | 338 => 47 | n => n, fun | 2 => 2 | 3 => 3 | 9 => 9 | 4 => 4 | 171 => 54 | 0 => 0 | 53 => 55 | 37 => 52 | 5 => 5 | 173 => 58 | 212 => 61 | 51 => 62 | 20 => 20 | 213 => 63 | 46 => 64 | 232 => 67 | 233 => 68 | n => n, fun | 17 => 1 | 18 => 2 | 19 => 3 | n => n⟩
theorem Tryd.lays246 : Go.Proofs.Lays.n246 Tryd.prog Tryd.lays246_ren := {
  mixed := by kernel_rfl
  f129 := Tryd.func42.trans (congrArg some (by kernel_rfl))
  f246 := Tryd.func36.trans (congrArg some (by kernel_rfl))
  f283 := Tryd.func37.trans (congrArg some (by kernel_rfl))
  f284 := Tryd.func38.trans (congrArg some (by kernel_rfl))
  f285 := Tryd.func39.trans (congrArg some (by kernel_rfl))
  f286 := Tryd.func40.trans (congrArg some (by kernel_rfl))
  f317 := Tryd.func41.trans (congrArg some (by kernel_rfl))
  f318 := Tryd.func43.trans (congrArg some (by kernel_rfl))
  f319 := Tryd.func44.trans (congrArg some (by kernel_rfl))
  f320 := Tryd.func45.trans (congrArg some (by kernel_rfl))
  f337 := Tryd.func46.trans (congrArg some (by kernel_rfl))
  f338 := Tryd.func47.trans (congrArg some (by kernel_rfl))
  t0 := Tryd.underlying0
  a0 := Tryd.isAgg0
  z0 := Tryd.sizeOf0
  v0 := Tryd.zeroValue0
  t2 := Tryd.underlying2
  a2 := Tryd.isAgg2
  z2 := Tryd.sizeOf2
  v2 := Tryd.zeroValue2
  t3 := Tryd.underlying3
  a3 := Tryd.isAgg3
  z3 := Tryd.sizeOf3
  v3 := Tryd.zeroValue3
  t4 := Tryd.underlying4
  a4 := Tryd.isAgg4
  z4 := Tryd.sizeOf4
  v4 := Tryd.zeroValue4
  t5 := Tryd.underlying5
  a5 := Tryd.isAgg5
  z5 := Tryd.sizeOf5
  v5 := Tryd.zeroValue5
  t9 := Tryd.underlying9
  a9 := Tryd.isAgg9
  z9 := Tryd.sizeOf9
  v9 := Tryd.zeroValue9
  t20 := Tryd.underlying20
  a20 := Tryd.isAgg20
  z20 := Tryd.sizeOf20
  v20 := Tryd.zeroValue20
  t37 := Tryd.underlying52
  a37 := Tryd.isAgg52
  z37 := Tryd.sizeOf52
  v37 := Tryd.zeroValue52
  t46 := Tryd.underlying64
  a46 := Tryd.isAgg64
  z46 := Tryd.sizeOf64
  v46 := Tryd.zeroValue64
  t51 := Tryd.underlying62
  a51 := Tryd.isAgg62
  z51 := Tryd.sizeOf62
  v51 := Tryd.zeroValue62
  t53 := Tryd.underlying55
  a53 := Tryd.isAgg55
  z53 := Tryd.sizeOf55
  v53 := Tryd.zeroValue55
  t171 := Tryd.underlying54
  a171 := Tryd.isAgg54
  z171 := Tryd.sizeOf54
  v171 := Tryd.zeroValue54
  t173 := Tryd.underlying58
  a173 := Tryd.isAgg58
  z173 := Tryd.sizeOf58
  v173 := Tryd.zeroValue58
  t212 := Tryd.underlying61
  a212 := Tryd.isAgg61
  z212 := Tryd.sizeOf61
  v212 := Tryd.zeroValue61
  t213 := Tryd.underlying63
  a213 := Tryd.isAgg63
  z213 := Tryd.sizeOf63
  t232 := Tryd.underlying67
  a232 := Tryd.isAgg67
  z232 := Tryd.sizeOf67
  v232 := Tryd.zeroValue67
  t233 := Tryd.underlying68
  a233 := Tryd.isAgg68
  z233 := Tryd.sizeOf68
  v233 := Tryd.zeroValue68
  g17 := by kernel_rfl
  g18 := by kernel_rfl
  g19 := by kernel_rfl }
open Go.RowKit Go.Sort Go.Lib in
/-- THE ROAD WITHOUT THE TABLE: 0 <= i < 100: two constants are read, nothing is laid: no premise on the world, and the world is as it was. (LAID: no walk: one application.) -/
theorem Tryd.internal_strconv_FormatInt_10_small (i : Nat) (hi : i < 100) (w : World) :
    Calls Tryd.prog 36 #[.int .i64 i, .int .i64 10] w fun e w' => e = .returned (.string ⟨(Lib.decDigits i).toArray⟩) ∧ w' = w := Any.internal_strconv_FormatInt_10_small Tryd.lays246 i hi w
def Tryd.laysM243_ren : Go.Shelf.Ren := ⟨fun | 243 => 35 | 246 => 36 | 283 => 37 | 284 => 38 | 285 => 39 | 286 => 40 | 129 => 42 | 317 => 41 | 318 => 43 | 319 => 44 | 320 => 45 | 337 => 46 | 338 => 47 | n => n, fun | 3 => 3 | 9 => 9 | 2 => 2 | 4 => 4 | 171 => 54 | 0 => 0 | 53 => 55 | 37 => 52 | 5 => 5 | 173 => 58 | 212 => 61 | 51 => 62 | 20 => 20 | 213 => 63 | 46 => 64 | 232 => 67 | 233 => 68 | n => n, fun | 17 => 1 | 18 => 2 | 19 => 3 | n => n⟩
theorem Tryd.laysM243 : Go.Proofs.LaysM.n243 Tryd.prog Tryd.laysM243_ren := {
  mixed := by kernel_rfl
  f129 := Tryd.func42.trans (congrArg some (by kernel_rfl))
  f243 := Tryd.func35.trans (congrArg some (by kernel_rfl))
  f246 := Tryd.func36.trans (congrArg some (by kernel_rfl))
  f283 := Tryd.func37.trans (congrArg some (by kernel_rfl))
  f284 := Tryd.func38.trans (congrArg some (by kernel_rfl))
  f285 := Tryd.func39.trans (congrArg some (by kernel_rfl))
  f286 := Tryd.func40.trans (congrArg some (by kernel_rfl))
  f317 := Tryd.func41.trans (congrArg some (by kernel_rfl))
  f318 := Tryd.func43.trans (congrArg some (by kernel_rfl))
  f319 := Tryd.func44.trans (congrArg some (by kernel_rfl))
  f320 := Tryd.func45.trans (congrArg some (by kernel_rfl))
  f337 := Tryd.func46.trans (congrArg some (by kernel_rfl))
  f338 := Tryd.func47.trans (congrArg some (by kernel_rfl))
  t0 := Tryd.underlying0
  a0 := Tryd.isAgg0
  z0 := Tryd.sizeOf0
  v0 := Tryd.zeroValue0
  t2 := Tryd.underlying2
  a2 := Tryd.isAgg2
  z2 := Tryd.sizeOf2
  v2 := Tryd.zeroValue2
  t3 := Tryd.underlying3
  a3 := Tryd.isAgg3
  z3 := Tryd.sizeOf3
  v3 := Tryd.zeroValue3
  t4 := Tryd.underlying4
  a4 := Tryd.isAgg4
  z4 := Tryd.sizeOf4
  v4 := Tryd.zeroValue4
  t5 := Tryd.underlying5
  a5 := Tryd.isAgg5
  z5 := Tryd.sizeOf5
  v5 := Tryd.zeroValue5
  t9 := Tryd.underlying9
  a9 := Tryd.isAgg9
  z9 := Tryd.sizeOf9
  v9 := Tryd.zeroValue9
  t20 := Tryd.underlying20
  a20 := Tryd.isAgg20
  z20 := Tryd.sizeOf20
  v20 := Tryd.zeroValue20
  t37 := Tryd.underlying52
  a37 := Tryd.isAgg52
  z37 := Tryd.sizeOf52
  v37 := Tryd.zeroValue52
  t46 := Tryd.underlying64
  a46 := Tryd.isAgg64
  z46 := Tryd.sizeOf64
  v46 := Tryd.zeroValue64
  t51 := Tryd.underlying62
  a51 := Tryd.isAgg62
  z51 := Tryd.sizeOf62
  v51 := Tryd.zeroValue62
  t53 := Tryd.underlying55
  a53 := Tryd.isAgg55
  z53 := Tryd.sizeOf55
  v53 := Tryd.zeroValue55
  t171 := Tryd.underlying54
  a171 := Tryd.isAgg54
  z171 := Tryd.sizeOf54
  v171 := Tryd.zeroValue54
  t173 := Tryd.underlying58
  a173 := Tryd.isAgg58
  z173 := Tryd.sizeOf58
  v173 := Tryd.zeroValue58
  t212 := Tryd.underlying61
  a212 := Tryd.isAgg61
  z212 := Tryd.sizeOf61
  v212 := Tryd.zeroValue61
  t213 := Tryd.underlying63
  a213 := Tryd.isAgg63
  z213 := Tryd.sizeOf63
  t232 := Tryd.underlying67
  a232 := Tryd.isAgg67
  z232 := Tryd.sizeOf67
  v232 := Tryd.zeroValue67
  t233 := Tryd.underlying68
  a233 := Tryd.isAgg68
  z233 := Tryd.sizeOf68
  v233 := Tryd.zeroValue68
  g17 := by kernel_rfl
  g18 := by kernel_rfl
  g19 := by kernel_rfl
  i0 := by kernel_rfl
  i2 := by kernel_rfl
  i3 := by kernel_rfl
  i4 := by kernel_rfl
  i5 := by kernel_rfl
  i9 := by kernel_rfl
  i20 := by kernel_rfl
  i37 := by kernel_rfl
  i46 := by kernel_rfl
  i51 := by kernel_rfl
  i53 := by kernel_rfl
  i171 := by kernel_rfl
  i173 := by kernel_rfl
  i212 := by kernel_rfl
  i232 := by kernel_rfl
  i233 := by kernel_rfl
  m17 := by kernel_rfl
  m18 := by kernel_rfl
  m19 := by kernel_rfl }
open Go.RowKit Go.Sort Go.Lib in
/-- internal/strconv.Itoa: "Itoa is equivalent to FormatInt(int64(i), 10).": i's decimal numeral, for every int. (LAID: no walk: one application.) -/
theorem Tryd.internal_strconv_Itoa (n : Int) (h0 : -9223372036854775808 ≤ n) (h1 : n ≤ 9223372036854775807) (w : World) (htab : Lib.TabIs Tryd.prog w "internal/strconv.uint64pow10" .u64 Lib.pow10Tab) :
    Calls Tryd.prog 35 #[.int .i64 n] w fun e w' => e = .returned (.string ⟨(Lib.itoa n).toArray⟩) ∧ ∃ k os, w' = grow (w.drewN k) os := Any.internal_strconv_Itoa Tryd.laysM243 n h0 h1 w htab
def Tryd.lays243_ren : Go.Shelf.Ren := ⟨fun | 243 => 35 | 246 => 36 | 283 => 37 | 284 => 38 | 285 => 39 | 286 => 40 | 129 => 42 | 317 => 41 | 318 => 43 | 319 => 44 | 320 => 45 | 337 => 46 | 338 => 47 | n => n, fun | 3 => 3 | 9 => 9 | 2 => 2 | 4 => 4 | 171 => 54 | 0 => 0 | 53 => 55 | 37 => 52 | 5 => 5 | 173 => 58 | 212 => 61 | 51 => 62 | 20 => 20 | 213 => 63 | 46 => 64 | 232 => 67 | 233 => 68 | n => n, fun | 17 => 1 | 18 => 2 | 19 => 3 | n => n⟩
theorem Tryd.lays243 : Go.Proofs.Lays.n243 Tryd.prog Tryd.lays243_ren := {
  mixed := by kernel_rfl
  f129 := Tryd.func42.trans (congrArg some (by kernel_rfl))
  f243 := Tryd.func35.trans (congrArg some (by kernel_rfl))
  f246 := Tryd.func36.trans (congrArg some (by kernel_rfl))
  f283 := Tryd.func37.trans (congrArg some (by kernel_rfl))
  f284 := Tryd.func38.trans (congrArg some (by kernel_rfl))
  f285 := Tryd.func39.trans (congrArg some (by kernel_rfl))
  f286 := Tryd.func40.trans (congrArg some (by kernel_rfl))
  f317 := Tryd.func41.trans (congrArg some (by kernel_rfl))
  f318 := Tryd.func43.trans (congrArg some (by kernel_rfl))
  f319 := Tryd.func44.trans (congrArg some (by kernel_rfl))
  f320 := Tryd.func45.trans (congrArg some (by kernel_rfl))
  f337 := Tryd.func46.trans (congrArg some (by kernel_rfl))
  f338 := Tryd.func47.trans (congrArg some (by kernel_rfl))
  t0 := Tryd.underlying0
  a0 := Tryd.isAgg0
  z0 := Tryd.sizeOf0
  v0 := Tryd.zeroValue0
  t2 := Tryd.underlying2
  a2 := Tryd.isAgg2
  z2 := Tryd.sizeOf2
  v2 := Tryd.zeroValue2
  t3 := Tryd.underlying3
  a3 := Tryd.isAgg3
  z3 := Tryd.sizeOf3
  v3 := Tryd.zeroValue3
  t4 := Tryd.underlying4
  a4 := Tryd.isAgg4
  z4 := Tryd.sizeOf4
  v4 := Tryd.zeroValue4
  t5 := Tryd.underlying5
  a5 := Tryd.isAgg5
  z5 := Tryd.sizeOf5
  v5 := Tryd.zeroValue5
  t9 := Tryd.underlying9
  a9 := Tryd.isAgg9
  z9 := Tryd.sizeOf9
  v9 := Tryd.zeroValue9
  t20 := Tryd.underlying20
  a20 := Tryd.isAgg20
  z20 := Tryd.sizeOf20
  v20 := Tryd.zeroValue20
  t37 := Tryd.underlying52
  a37 := Tryd.isAgg52
  z37 := Tryd.sizeOf52
  v37 := Tryd.zeroValue52
  t46 := Tryd.underlying64
  a46 := Tryd.isAgg64
  z46 := Tryd.sizeOf64
  v46 := Tryd.zeroValue64
  t51 := Tryd.underlying62
  a51 := Tryd.isAgg62
  z51 := Tryd.sizeOf62
  v51 := Tryd.zeroValue62
  t53 := Tryd.underlying55
  a53 := Tryd.isAgg55
  z53 := Tryd.sizeOf55
  v53 := Tryd.zeroValue55
  t171 := Tryd.underlying54
  a171 := Tryd.isAgg54
  z171 := Tryd.sizeOf54
  v171 := Tryd.zeroValue54
  t173 := Tryd.underlying58
  a173 := Tryd.isAgg58
  z173 := Tryd.sizeOf58
  v173 := Tryd.zeroValue58
  t212 := Tryd.underlying61
  a212 := Tryd.isAgg61
  z212 := Tryd.sizeOf61
  v212 := Tryd.zeroValue61
  t213 := Tryd.underlying63
  a213 := Tryd.isAgg63
  z213 := Tryd.sizeOf63
  t232 := Tryd.underlying67
  a232 := Tryd.isAgg67
  z232 := Tryd.sizeOf67
  v232 := Tryd.zeroValue67
  t233 := Tryd.underlying68
  a233 := Tryd.isAgg68
  z233 := Tryd.sizeOf68
  v233 := Tryd.zeroValue68
  g17 := by kernel_rfl
  g18 := by kernel_rfl
  g19 := by kernel_rfl }
open Go.RowKit Go.Sort Go.Lib in
/-- THE ROAD WITHOUT THE TABLE: 0 <= i < 100. (LAID: no walk: one application.) -/
theorem Tryd.internal_strconv_Itoa_small (i : Nat) (hi : i < 100) (w : World) :
    Calls Tryd.prog 35 #[.int .i64 i] w fun e w' => e = .returned (.string ⟨(Lib.decDigits i).toArray⟩) ∧ w' = w := Any.internal_strconv_Itoa_small Tryd.lays243 i hi w
def Tryd.laysM171_ren : Go.Shelf.Ren := ⟨fun | 171 => 33 | 243 => 35 | 246 => 36 | 283 => 37 | 284 => 38 | 285 => 39 | 286 => 40 | 129 => 42 | 317 => 41 | 318 => 43 | 319 => 44 | 320 => 45 | 337 => 46 | 338 => 47 | n => n, fun | 3 => 3 | 9 => 9 | 2 => 2 | 4 => 4 | 171 => 54 | 0 => 0 | 53 => 55 | 37 => 52 | 5 => 5 | 173 => 58 | 212 => 61 | 51 => 62 | 20 => 20 | 213 => 63 | 46 => 64 | 232 => 67 | 233 => 68 | n => n, fun | 17 => 1 | 18 => 2 | 19 => 3 | n => n⟩
theorem Tryd.laysM171 : Go.Proofs.LaysM.n171 Tryd.prog Tryd.laysM171_ren := {
  mixed := by kernel_rfl
  f129 := Tryd.func42.trans (congrArg some (by kernel_rfl))
  f171 := Tryd.func33.trans (congrArg some (by kernel_rfl))
  f243 := Tryd.func35.trans (congrArg some (by kernel_rfl))
  f246 := Tryd.func36.trans (congrArg some (by kernel_rfl))
  f283 := Tryd.func37.trans (congrArg some (by kernel_rfl))
  f284 := Tryd.func38.trans (congrArg some (by kernel_rfl))
  f285 := Tryd.func39.trans (congrArg some (by kernel_rfl))
  f286 := Tryd.func40.trans (congrArg some (by kernel_rfl))
  f317 := Tryd.func41.trans (congrArg some (by kernel_rfl))
  f318 := Tryd.func43.trans (congrArg some (by kernel_rfl))
  f319 := Tryd.func44.trans (congrArg some (by kernel_rfl))
  f320 := Tryd.func45.trans (congrArg some (by kernel_rfl))
  f337 := Tryd.func46.trans (congrArg some (by kernel_rfl))
  f338 := Tryd.func47.trans (congrArg some (by kernel_rfl))
  t0 := Tryd.underlying0
  a0 := Tryd.isAgg0
  z0 := Tryd.sizeOf0
  v0 := Tryd.zeroValue0
  t2 := Tryd.underlying2
  a2 := Tryd.isAgg2
  z2 := Tryd.sizeOf2
  v2 := Tryd.zeroValue2
  t3 := Tryd.underlying3
  a3 := Tryd.isAgg3
  z3 := Tryd.sizeOf3
  v3 := Tryd.zeroValue3
  t4 := Tryd.underlying4
  a4 := Tryd.isAgg4
  z4 := Tryd.sizeOf4
  v4 := Tryd.zeroValue4
  t5 := Tryd.underlying5
  a5 := Tryd.isAgg5
  z5 := Tryd.sizeOf5
  v5 := Tryd.zeroValue5
  t9 := Tryd.underlying9
  a9 := Tryd.isAgg9
  z9 := Tryd.sizeOf9
  v9 := Tryd.zeroValue9
  t20 := Tryd.underlying20
  a20 := Tryd.isAgg20
  z20 := Tryd.sizeOf20
  v20 := Tryd.zeroValue20
  t37 := Tryd.underlying52
  a37 := Tryd.isAgg52
  z37 := Tryd.sizeOf52
  v37 := Tryd.zeroValue52
  t46 := Tryd.underlying64
  a46 := Tryd.isAgg64
  z46 := Tryd.sizeOf64
  v46 := Tryd.zeroValue64
  t51 := Tryd.underlying62
  a51 := Tryd.isAgg62
  z51 := Tryd.sizeOf62
  v51 := Tryd.zeroValue62
  t53 := Tryd.underlying55
  a53 := Tryd.isAgg55
  z53 := Tryd.sizeOf55
  v53 := Tryd.zeroValue55
  t171 := Tryd.underlying54
  a171 := Tryd.isAgg54
  z171 := Tryd.sizeOf54
  v171 := Tryd.zeroValue54
  t173 := Tryd.underlying58
  a173 := Tryd.isAgg58
  z173 := Tryd.sizeOf58
  v173 := Tryd.zeroValue58
  t212 := Tryd.underlying61
  a212 := Tryd.isAgg61
  z212 := Tryd.sizeOf61
  v212 := Tryd.zeroValue61
  t213 := Tryd.underlying63
  a213 := Tryd.isAgg63
  z213 := Tryd.sizeOf63
  t232 := Tryd.underlying67
  a232 := Tryd.isAgg67
  z232 := Tryd.sizeOf67
  v232 := Tryd.zeroValue67
  t233 := Tryd.underlying68
  a233 := Tryd.isAgg68
  z233 := Tryd.sizeOf68
  v233 := Tryd.zeroValue68
  g17 := by kernel_rfl
  g18 := by kernel_rfl
  g19 := by kernel_rfl
  i0 := by kernel_rfl
  i2 := by kernel_rfl
  i3 := by kernel_rfl
  i4 := by kernel_rfl
  i5 := by kernel_rfl
  i9 := by kernel_rfl
  i20 := by kernel_rfl
  i37 := by kernel_rfl
  i46 := by kernel_rfl
  i51 := by kernel_rfl
  i53 := by kernel_rfl
  i171 := by kernel_rfl
  i173 := by kernel_rfl
  i212 := by kernel_rfl
  i232 := by kernel_rfl
  i233 := by kernel_rfl
  m17 := by kernel_rfl
  m18 := by kernel_rfl
  m19 := by kernel_rfl }
open Go.RowKit Go.Sort Go.Lib in
/-- strconv.Itoa: "Itoa is equivalent to FormatInt(int64(i), 10).": i's DECIMAL NUMERAL ('Lib.itoa': a '-' where i is negative, then the digits), FOR EVERY int. The world behind the call: the world before it, new blocks behind the heap (the library's 'var a [24]byte'), draws. (LAID: no walk: one application.) -/
theorem Tryd.strconv_Itoa (n : Int) (h0 : -9223372036854775808 ≤ n) (h1 : n ≤ 9223372036854775807) (w : World) (htab : Lib.TabIs Tryd.prog w "internal/strconv.uint64pow10" .u64 Lib.pow10Tab) :
    Calls Tryd.prog 33 #[.int .i64 n] w fun e w' => e = .returned (.string ⟨(Lib.itoa n).toArray⟩) ∧ ∃ k os, w' = grow (w.drewN k) os := Any.strconv_Itoa Tryd.laysM171 n h0 h1 w htab
def Tryd.lays171_ren : Go.Shelf.Ren := ⟨fun | 171 => 33 | 243 => 35 | 246 => 36 | 283 => 37 | 284 => 38 | 285 => 39 | 286 => 40 | 129 => 42 | 317 => 41 | 318 => 43 | 319 => 44 | 320 => 45 | 337 => 46 | 338 => 47 | n => n, fun | 3 => 3 | 9 => 9 | 2 => 2 | 4 => 4 | 171 => 54 | 0 => 0 | 53 => 55 | 37 => 52 | 5 => 5 | 173 => 58 | 212 => 61 | 51 => 62 | 20 => 20 | 213 => 63 | 46 => 64 | 232 => 67 | 233 => 68 | n => n, fun | 17 => 1 | 18 => 2 | 19 => 3 | n => n⟩
theorem Tryd.lays171 : Go.Proofs.Lays.n171 Tryd.prog Tryd.lays171_ren := {
  mixed := by kernel_rfl
  f129 := Tryd.func42.trans (congrArg some (by kernel_rfl))
  f171 := Tryd.func33.trans (congrArg some (by kernel_rfl))
  f243 := Tryd.func35.trans (congrArg some (by kernel_rfl))
  f246 := Tryd.func36.trans (congrArg some (by kernel_rfl))
  f283 := Tryd.func37.trans (congrArg some (by kernel_rfl))
  f284 := Tryd.func38.trans (congrArg some (by kernel_rfl))
  f285 := Tryd.func39.trans (congrArg some (by kernel_rfl))
  f286 := Tryd.func40.trans (congrArg some (by kernel_rfl))
  f317 := Tryd.func41.trans (congrArg some (by kernel_rfl))
  f318 := Tryd.func43.trans (congrArg some (by kernel_rfl))
  f319 := Tryd.func44.trans (congrArg some (by kernel_rfl))
  f320 := Tryd.func45.trans (congrArg some (by kernel_rfl))
  f337 := Tryd.func46.trans (congrArg some (by kernel_rfl))
  f338 := Tryd.func47.trans (congrArg some (by kernel_rfl))
  t0 := Tryd.underlying0
  a0 := Tryd.isAgg0
  z0 := Tryd.sizeOf0
  v0 := Tryd.zeroValue0
  t2 := Tryd.underlying2
  a2 := Tryd.isAgg2
  z2 := Tryd.sizeOf2
  v2 := Tryd.zeroValue2
  t3 := Tryd.underlying3
  a3 := Tryd.isAgg3
  z3 := Tryd.sizeOf3
  v3 := Tryd.zeroValue3
  t4 := Tryd.underlying4
  a4 := Tryd.isAgg4
  z4 := Tryd.sizeOf4
  v4 := Tryd.zeroValue4
  t5 := Tryd.underlying5
  a5 := Tryd.isAgg5
  z5 := Tryd.sizeOf5
  v5 := Tryd.zeroValue5
  t9 := Tryd.underlying9
  a9 := Tryd.isAgg9
  z9 := Tryd.sizeOf9
  v9 := Tryd.zeroValue9
  t20 := Tryd.underlying20
  a20 := Tryd.isAgg20
  z20 := Tryd.sizeOf20
  v20 := Tryd.zeroValue20
  t37 := Tryd.underlying52
  a37 := Tryd.isAgg52
  z37 := Tryd.sizeOf52
  v37 := Tryd.zeroValue52
  t46 := Tryd.underlying64
  a46 := Tryd.isAgg64
  z46 := Tryd.sizeOf64
  v46 := Tryd.zeroValue64
  t51 := Tryd.underlying62
  a51 := Tryd.isAgg62
  z51 := Tryd.sizeOf62
  v51 := Tryd.zeroValue62
  t53 := Tryd.underlying55
  a53 := Tryd.isAgg55
  z53 := Tryd.sizeOf55
  v53 := Tryd.zeroValue55
  t171 := Tryd.underlying54
  a171 := Tryd.isAgg54
  z171 := Tryd.sizeOf54
  v171 := Tryd.zeroValue54
  t173 := Tryd.underlying58
  a173 := Tryd.isAgg58
  z173 := Tryd.sizeOf58
  v173 := Tryd.zeroValue58
  t212 := Tryd.underlying61
  a212 := Tryd.isAgg61
  z212 := Tryd.sizeOf61
  v212 := Tryd.zeroValue61
  t213 := Tryd.underlying63
  a213 := Tryd.isAgg63
  z213 := Tryd.sizeOf63
  t232 := Tryd.underlying67
  a232 := Tryd.isAgg67
  z232 := Tryd.sizeOf67
  v232 := Tryd.zeroValue67
  t233 := Tryd.underlying68
  a233 := Tryd.isAgg68
  z233 := Tryd.sizeOf68
  v233 := Tryd.zeroValue68
  g17 := by kernel_rfl
  g18 := by kernel_rfl
  g19 := by kernel_rfl }
open Go.RowKit Go.Sort Go.Lib in
/-- THE ROAD WITHOUT THE TABLE: 0 <= i < 100: NO PREMISE ON THE WORLD, AND THE WORLD IS AS IT WAS: a row that keeps its argument in that range need list no table ('laid = []'). (LAID: no walk: one application.) -/
theorem Tryd.strconv_Itoa_small (i : Nat) (hi : i < 100) (w : World) :
    Calls Tryd.prog 33 #[.int .i64 i] w fun e w' => e = .returned (.string ⟨(Lib.decDigits i).toArray⟩) ∧ w' = w := Any.strconv_Itoa_small Tryd.lays171 i hi w
end Go.Proofs

set_option maxRecDepth 100000
set_option linter.unusedSimpArgs false
set_option linter.unusedVariables false
namespace Go.Proofs.YtabmhpgbfjkkcaaDoor
open Go Ab Pl
theorem strconv_Itoa (n : Int) (h0 : -9223372036854775808 ≤ n) (h1 : n ≤ 9223372036854775807) : ACalls E.P 33 [.int .i64 n] (.d (.str (Go.Lib.itoa n))) :=
  ACalls.itoa n ⟨_, Tryd.func33, by kernel_rfl, by kernel_rfl⟩ (by have := Go.Lib.itoa_length_le n h0 h1; simp only [maxLen]; omega) (fun w S h => amb_is1 h) (fun h0 h1 w ht => Tryd.strconv_Itoa n h0 h1 w ht)

end Go.Proofs.YtabmhpgbfjkkcaaDoor

set_option maxRecDepth 100000
set_option linter.unusedSimpArgs false
set_option linter.unusedVariables false
namespace Go.Proofs.YtabmhpgbfjkkcaaDoor
open Go Ab Pl
theorem custody_Text (c : Custody) : ACalls E.P 23 [encCus c] (.d (.str (textR c))) := by
  refine ACalls.intro E_ok Tryd.func23 rfl rfl Tryd.ntmps23 Tryd.results23 (Nat.le_of_ble_eq_true rfl) fun hok base S0 w0 => ?_
  -- region 0
  refine AWp.rseq E_ok [0, 1, 2, 3, 4, 5, 8] fun K hK => ?_
  simp [encCus_eq]
  repeat refine ⟨by first | omega | assumption | (simp only [maxLen]; omega) | (intros; omega) | decide, ?_⟩
  refine hK _ ?_
  clear hK K
  refine AWp.seq ?_
  -- region 1
  refine AWp.rseq E_ok [0, 1, 2, 3, 4, 5, 8] fun K hK => ?_
  simp [encCus_eq]
  repeat refine ⟨by first | omega | assumption | (simp only [maxLen]; omega) | (intros; omega) | decide, ?_⟩
  refine meet.of (custody_Right c) ?_
  simp [encCus_eq]
  repeat refine ⟨by first | omega | assumption | (simp only [maxLen]; omega) | (intros; omega) | decide, ?_⟩
  refine hK _ ?_
  clear hK K
  refine AWp.cond rfl (fun h8 => ?_) (fun h8 => ?_)
  · try simp at h8
    -- region 2
    refine AWp.rseq E_ok [0, 1, 2, 3, 4, 5, 8] fun K hK => ?_
    simp [encCus_eq, h8]
    repeat refine ⟨by first | omega | assumption | (simp only [maxLen]; omega) | (intros; omega) | decide, ?_⟩
    refine hK _ ?_
    clear hK K
    refine AWp.ret ?_
    repeat first | refine thenN ?_ | refine thenX ?_ | refine thenR ?_ | refine blockN ?_ | refine blockR ?_ | refine blockX ?_ | refine blockM rfl ?_
    first | (rw [text_bad h8]; simp [RetOk, RV]; done) | (rw [text_ok h8]; simp [RetOk, RV, textT, hst])
  · try simp at h8
    have hrg := right_rng h8
    have hln := right_len h8
    refine AWp.skip ?_
    repeat first | refine thenN ?_ | refine thenX ?_ | refine thenR ?_ | refine blockN ?_ | refine blockR ?_ | refine blockX ?_ | refine blockM rfl ?_
    -- region 3
    refine AWp.rseqQ E_ok mixed [0, 1, 2, 3, 4, 5, 8] (by kernel_rfl) fun K hK => ?_
    simp [encCus_eq, h8]
    repeat refine ⟨by first | omega | assumption | (simp only [maxLen]; omega) | (intros; omega) | decide, ?_⟩
    refine meet.of (strconv_Itoa c.br (by omega) (by omega)) ?_
    simp [encCus_eq, h8]
    repeat refine ⟨by first | omega | assumption | (simp only [maxLen]; omega) | (intros; omega) | decide, ?_⟩
    refine meet.of (strconv_Itoa c.who (by omega) (by omega)) ?_
    simp [encCus_eq, h8]
    repeat refine ⟨by first | omega | assumption | (simp only [maxLen]; omega) | (intros; omega) | decide, ?_⟩
    refine hK _ ?_
    clear hK K
    -- region 4
    refine AWp.rseq E_ok [0, 1, 2, 3, 4, 5, 8] fun K hK => ?_
    simp [encCus_eq, h8]
    repeat refine ⟨by first | omega | assumption | (simp only [maxLen]; omega) | (intros; omega) | decide, ?_⟩
    refine meet.of (strconv_Itoa c.to (by omega) (by omega)) ?_
    simp [encCus_eq, h8]
    repeat refine ⟨by first | omega | assumption | (simp only [maxLen]; omega) | (intros; omega) | decide, ?_⟩
    refine hK _ ?_
    clear hK K
    rcases (by omega : c.st = 1 ∨ c.st = 2 ∨ c.st = 3 ∨ c.st = 4 ∨ c.st = 5 ∨ c.st = 6 ∨ c.st = 7 ∨ c.st = 8 ∨ c.st = 9 ∨ c.st = 10 ∨ c.st = 11 ∨ c.st = 12) with hst | hst | hst | hst | hst | hst | hst | hst | hst | hst | hst | hst
    · skip
      skip
      -- region 5
      refine AWp.rseq E_ok [0, 1, 2, 3, 4, 5, 8] fun K hK => ?_
      simp [encCus_eq, h8, hst]
      repeat refine ⟨by first | omega | assumption | (simp only [maxLen]; omega) | (intros; omega) | decide, ?_⟩
      refine hK _ ?_
      clear hK K
      refine AWp.ret ?_
      repeat first | refine thenN ?_ | refine thenX ?_ | refine thenR ?_ | refine blockN ?_ | refine blockR ?_ | refine blockX ?_ | refine blockM rfl ?_
      first | (rw [text_bad h8]; simp [RetOk, RV]; done) | (rw [text_ok h8]; simp [RetOk, RV, textT, hst])
    · skip
      skip
      -- region 5
      refine AWp.rseq E_ok [0, 1, 2, 3, 4, 5, 8] fun K hK => ?_
      simp [encCus_eq, h8, hst]
      repeat refine ⟨by first | omega | assumption | (simp only [maxLen]; omega) | (intros; omega) | decide, ?_⟩
      refine hK _ ?_
      clear hK K
      refine AWp.ret ?_
      repeat first | refine thenN ?_ | refine thenX ?_ | refine thenR ?_ | refine blockN ?_ | refine blockR ?_ | refine blockX ?_ | refine blockM rfl ?_
      first | (rw [text_bad h8]; simp [RetOk, RV]; done) | (rw [text_ok h8]; simp [RetOk, RV, textT, hst])
    · skip
      skip
      -- region 5
      refine AWp.rseq E_ok [0, 1, 2, 3, 4, 5, 8] fun K hK => ?_
      simp [encCus_eq, h8, hst]
      repeat refine ⟨by first | omega | assumption | (simp only [maxLen]; omega) | (intros; omega) | decide, ?_⟩
      refine hK _ ?_
      clear hK K
      refine AWp.ret ?_
      repeat first | refine thenN ?_ | refine thenX ?_ | refine thenR ?_ | refine blockN ?_ | refine blockR ?_ | refine blockX ?_ | refine blockM rfl ?_
      first | (rw [text_bad h8]; simp [RetOk, RV]; done) | (rw [text_ok h8]; simp [RetOk, RV, textT, hst])
    · skip
      skip
      -- region 5
      refine AWp.rseq E_ok [0, 1, 2, 3, 4, 5, 8] fun K hK => ?_
      simp [encCus_eq, h8, hst]
      repeat refine ⟨by first | omega | assumption | (simp only [maxLen]; omega) | (intros; omega) | decide, ?_⟩
      refine hK _ ?_
      clear hK K
      refine AWp.ret ?_
      repeat first | refine thenN ?_ | refine thenX ?_ | refine thenR ?_ | refine blockN ?_ | refine blockR ?_ | refine blockX ?_ | refine blockM rfl ?_
      first | (rw [text_bad h8]; simp [RetOk, RV]; done) | (rw [text_ok h8]; simp [RetOk, RV, textT, hst])
    · skip
      skip
      -- region 5
      refine AWp.rseq E_ok [0, 1, 2, 3, 4, 5, 8] fun K hK => ?_
      simp [encCus_eq, h8, hst]
      repeat refine ⟨by first | omega | assumption | (simp only [maxLen]; omega) | (intros; omega) | decide, ?_⟩
      refine hK _ ?_
      clear hK K
      refine AWp.ret ?_
      repeat first | refine thenN ?_ | refine thenX ?_ | refine thenR ?_ | refine blockN ?_ | refine blockR ?_ | refine blockX ?_ | refine blockM rfl ?_
      first | (rw [text_bad h8]; simp [RetOk, RV]; done) | (rw [text_ok h8]; simp [RetOk, RV, textT, hst])
    · skip
      skip
      -- region 5
      refine AWp.rseq E_ok [0, 1, 2, 3, 4, 5, 8] fun K hK => ?_
      simp [encCus_eq, h8, hst]
      repeat refine ⟨by first | omega | assumption | (simp only [maxLen]; omega) | (intros; omega) | decide, ?_⟩
      refine hK _ ?_
      clear hK K
      refine AWp.ret ?_
      repeat first | refine thenN ?_ | refine thenX ?_ | refine thenR ?_ | refine blockN ?_ | refine blockR ?_ | refine blockX ?_ | refine blockM rfl ?_
      first | (rw [text_bad h8]; simp [RetOk, RV]; done) | (rw [text_ok h8]; simp [RetOk, RV, textT, hst])
    · skip
      skip
      -- region 5
      refine AWp.rseq E_ok [0, 1, 2, 3, 4, 5, 8] fun K hK => ?_
      simp [encCus_eq, h8, hst]
      repeat refine ⟨by first | omega | assumption | (simp only [maxLen]; omega) | (intros; omega) | decide, ?_⟩
      refine hK _ ?_
      clear hK K
      refine AWp.ret ?_
      repeat first | refine thenN ?_ | refine thenX ?_ | refine thenR ?_ | refine blockN ?_ | refine blockR ?_ | refine blockX ?_ | refine blockM rfl ?_
      first | (rw [text_bad h8]; simp [RetOk, RV]; done) | (rw [text_ok h8]; simp [RetOk, RV, textT, hst])
    · skip
      skip
      -- region 5
      refine AWp.rseq E_ok [0, 1, 2, 3, 4, 5, 8] fun K hK => ?_
      simp [encCus_eq, h8, hst]
      repeat refine ⟨by first | omega | assumption | (simp only [maxLen]; omega) | (intros; omega) | decide, ?_⟩
      refine hK _ ?_
      clear hK K
      refine AWp.ret ?_
      repeat first | refine thenN ?_ | refine thenX ?_ | refine thenR ?_ | refine blockN ?_ | refine blockR ?_ | refine blockX ?_ | refine blockM rfl ?_
      first | (rw [text_bad h8]; simp [RetOk, RV]; done) | (rw [text_ok h8]; simp [RetOk, RV, textT, hst])
    · skip
      skip
      -- region 5
      refine AWp.rseq E_ok [0, 1, 2, 3, 4, 5, 8] fun K hK => ?_
      simp [encCus_eq, h8, hst]
      repeat refine ⟨by first | omega | assumption | (simp only [maxLen]; omega) | (intros; omega) | decide, ?_⟩
      refine hK _ ?_
      clear hK K
      refine AWp.ret ?_
      repeat first | refine thenN ?_ | refine thenX ?_ | refine thenR ?_ | refine blockN ?_ | refine blockR ?_ | refine blockX ?_ | refine blockM rfl ?_
      first | (rw [text_bad h8]; simp [RetOk, RV]; done) | (rw [text_ok h8]; simp [RetOk, RV, textT, hst])
    · skip
      skip
      -- region 5
      refine AWp.rseq E_ok [0, 1, 2, 3, 4, 5, 8] fun K hK => ?_
      simp [encCus_eq, h8, hst]
      repeat refine ⟨by first | omega | assumption | (simp only [maxLen]; omega) | (intros; omega) | decide, ?_⟩
      refine hK _ ?_
      clear hK K
      refine AWp.ret ?_
      repeat first | refine thenN ?_ | refine thenX ?_ | refine thenR ?_ | refine blockN ?_ | refine blockR ?_ | refine blockX ?_ | refine blockM rfl ?_
      first | (rw [text_bad h8]; simp [RetOk, RV]; done) | (rw [text_ok h8]; simp [RetOk, RV, textT, hst])
    · skip
      skip
      -- region 5
      refine AWp.rseq E_ok [0, 1, 2, 3, 4, 5, 8] fun K hK => ?_
      simp [encCus_eq, h8, hst]
      repeat refine ⟨by first | omega | assumption | (simp only [maxLen]; omega) | (intros; omega) | decide, ?_⟩
      refine hK _ ?_
      clear hK K
      refine AWp.ret ?_
      repeat first | refine thenN ?_ | refine thenX ?_ | refine thenR ?_ | refine blockN ?_ | refine blockR ?_ | refine blockX ?_ | refine blockM rfl ?_
      first | (rw [text_bad h8]; simp [RetOk, RV]; done) | (rw [text_ok h8]; simp [RetOk, RV, textT, hst])
    · skip
      skip
      -- region 5
      refine AWp.rseq E_ok [0, 1, 2, 3, 4, 5, 8] fun K hK => ?_
      simp [encCus_eq, h8, hst]
      repeat refine ⟨by first | omega | assumption | (simp only [maxLen]; omega) | (intros; omega) | decide, ?_⟩
      refine hK _ ?_
      clear hK K
      refine AWp.ret ?_
      repeat first | refine thenN ?_ | refine thenX ?_ | refine thenR ?_ | refine blockN ?_ | refine blockR ?_ | refine blockX ?_ | refine blockM rfl ?_
      first | (rw [text_bad h8]; simp [RetOk, RV]; done) | (rw [text_ok h8]; simp [RetOk, RV, textT, hst])
end Go.Proofs.YtabmhpgbfjkkcaaDoor

set_option maxRecDepth 100000
set_option linter.unusedSimpArgs false
set_option linter.unusedVariables false
namespace Go.Proofs.YtabmhpgbfjkkcaaDoor
open Go Ab Pl
theorem custody_Away (c : Custody) : ACalls E.P 21 [encCus c] (.d (.bool (awayB c))) := by
  refine ACalls.intro E_ok Tryd.func21 rfl rfl Tryd.ntmps21 Tryd.results21 (Nat.le_of_ble_eq_true rfl) fun hok base S0 w0 => ?_
  -- region 0
  refine AWp.rseq E_ok [0, 1, 2, 4, 5] fun K hK => ?_
  simp [encCus_eq]
  repeat refine ⟨by first | omega | assumption | (simp only [maxLen]; omega) | (intros; omega) | decide, ?_⟩
  refine hK _ ?_
  clear hK K
  refine AWp.seq ?_
  -- region 1
  refine AWp.rseq E_ok [0, 1, 2, 4, 5] fun K hK => ?_
  simp [encCus_eq]
  repeat refine ⟨by first | omega | assumption | (simp only [maxLen]; omega) | (intros; omega) | decide, ?_⟩
  refine hK _ ?_
  clear hK K
  refine AWp.block ?_
  refine AWp.seq ?_
  -- region 2
  refine AWp.rseq E_ok [0, 1, 2, 4, 5] fun K hK => ?_
  simp [encCus_eq]
  repeat refine ⟨by first | omega | assumption | (simp only [maxLen]; omega) | (intros; omega) | decide, ?_⟩
  refine hK _ ?_
  clear hK K
  refine AWp.cond rfl (fun h5 => ?_) (fun h5 => ?_)
  · try simp at h5
    refine AWp.skip ?_
    repeat first | refine thenN ?_ | refine thenX ?_ | refine thenR ?_ | refine blockN ?_ | refine blockR ?_ | refine blockX ?_ | refine blockM rfl ?_
    refine AWp.cond rfl (fun hz => ?_) (fun hz => ?_)
    · clear hz
      -- region 7
      refine AWp.rseq E_ok [0, 1, 2, 4, 5] fun K hK => ?_
      simp [encCus_eq, h5]
      repeat refine ⟨by first | omega | assumption | (simp only [maxLen]; omega) | (intros; omega) | decide, ?_⟩
      refine hK _ ?_
      clear hK K
      refine AWp.ret ?_
      repeat first | refine thenN ?_ | refine thenX ?_ | refine thenR ?_ | refine blockN ?_ | refine blockR ?_ | refine blockX ?_ | refine blockM rfl ?_
      simp [RetOk, RV]; (try rw [Bool.eq_iff_iff]); simp [awayB]; omega
    · exact absurd hz (by simp [h5])
  · try simp at h5
    -- region 3
    refine AWp.rseq E_ok [0, 1, 2, 4, 5] fun K hK => ?_
    simp [encCus_eq, h5]
    repeat refine ⟨by first | omega | assumption | (simp only [maxLen]; omega) | (intros; omega) | decide, ?_⟩
    refine hK _ ?_
    clear hK K
    refine AWp.cond rfl (fun h5 => ?_) (fun h5 => ?_)
    · try simp at h5
      refine AWp.skip ?_
      repeat first | refine thenN ?_ | refine thenX ?_ | refine thenR ?_ | refine blockN ?_ | refine blockR ?_ | refine blockX ?_ | refine blockM rfl ?_
      refine AWp.cond rfl (fun hz => ?_) (fun hz => ?_)
      · clear hz
        -- region 7
        refine AWp.rseq E_ok [0, 1, 2, 4, 5] fun K hK => ?_
        simp [encCus_eq, h5, h5]
        repeat refine ⟨by first | omega | assumption | (simp only [maxLen]; omega) | (intros; omega) | decide, ?_⟩
        refine hK _ ?_
        clear hK K
        refine AWp.ret ?_
        repeat first | refine thenN ?_ | refine thenX ?_ | refine thenR ?_ | refine blockN ?_ | refine blockR ?_ | refine blockX ?_ | refine blockM rfl ?_
        simp [RetOk, RV]; (try rw [Bool.eq_iff_iff]); simp [awayB]; omega
      · exact absurd hz (by simp [h5])
    · try simp at h5
      -- region 4
      refine AWp.rseq E_ok [0, 1, 2, 4, 5] fun K hK => ?_
      simp [encCus_eq, h5, h5]
      repeat refine ⟨by first | omega | assumption | (simp only [maxLen]; omega) | (intros; omega) | decide, ?_⟩
      refine hK _ ?_
      clear hK K
      refine AWp.cond rfl (fun h5 => ?_) (fun h5 => ?_)
      · try simp at h5
        refine AWp.skip ?_
        repeat first | refine thenN ?_ | refine thenX ?_ | refine thenR ?_ | refine blockN ?_ | refine blockR ?_ | refine blockX ?_ | refine blockM rfl ?_
        refine AWp.cond rfl (fun hz => ?_) (fun hz => ?_)
        · clear hz
          -- region 7
          refine AWp.rseq E_ok [0, 1, 2, 4, 5] fun K hK => ?_
          simp [encCus_eq, h5, h5, h5]
          repeat refine ⟨by first | omega | assumption | (simp only [maxLen]; omega) | (intros; omega) | decide, ?_⟩
          refine hK _ ?_
          clear hK K
          refine AWp.ret ?_
          repeat first | refine thenN ?_ | refine thenX ?_ | refine thenR ?_ | refine blockN ?_ | refine blockR ?_ | refine blockX ?_ | refine blockM rfl ?_
          simp [RetOk, RV]; (try rw [Bool.eq_iff_iff]); simp [awayB]; omega
        · exact absurd hz (by simp [h5])
      · try simp at h5
        -- region 5
        refine AWp.rseq E_ok [0, 1, 2, 4, 5] fun K hK => ?_
        simp [encCus_eq, h5, h5, h5]
        repeat refine ⟨by first | omega | assumption | (simp only [maxLen]; omega) | (intros; omega) | decide, ?_⟩
        refine hK _ ?_
        clear hK K
        refine AWp.cond rfl (fun h5 => ?_) (fun h5 => ?_)
        · try simp at h5
          refine AWp.skip ?_
          repeat first | refine thenN ?_ | refine thenX ?_ | refine thenR ?_ | refine blockN ?_ | refine blockR ?_ | refine blockX ?_ | refine blockM rfl ?_
          refine AWp.cond rfl (fun hz => ?_) (fun hz => ?_)
          · clear hz
            -- region 7
            refine AWp.rseq E_ok [0, 1, 2, 4, 5] fun K hK => ?_
            simp [encCus_eq, h5, h5, h5, h5]
            repeat refine ⟨by first | omega | assumption | (simp only [maxLen]; omega) | (intros; omega) | decide, ?_⟩
            refine hK _ ?_
            clear hK K
            refine AWp.ret ?_
            repeat first | refine thenN ?_ | refine thenX ?_ | refine thenR ?_ | refine blockN ?_ | refine blockR ?_ | refine blockX ?_ | refine blockM rfl ?_
            simp [RetOk, RV]; (try rw [Bool.eq_iff_iff]); simp [awayB]; omega
          · exact absurd hz (by simp [h5])
        · try simp at h5
          -- region 6
          refine AWp.rend E_ok [0, 1, 2, 4, 5] fun K hK => ?_
          simp [encCus_eq, h5, h5, h5, h5]
          repeat refine ⟨by first | omega | assumption | (simp only [maxLen]; omega) | (intros; omega) | decide, ?_⟩
          refine hK _ ?_
          clear hK K
          repeat first | refine thenN ?_ | refine thenX ?_ | refine thenR ?_ | refine blockN ?_ | refine blockR ?_ | refine blockX ?_ | refine blockM rfl ?_
          refine AWp.cond rfl (fun h5 => ?_) (fun h5 => ?_)
          · try simp at h5
            -- region 7
            refine AWp.rseq E_ok [0, 1, 2, 4, 5] fun K hK => ?_
            simp [encCus_eq, h5, h5, h5, h5, h5]
            repeat refine ⟨by first | omega | assumption | (simp only [maxLen]; omega) | (intros; omega) | decide, ?_⟩
            refine hK _ ?_
            clear hK K
            refine AWp.ret ?_
            repeat first | refine thenN ?_ | refine thenX ?_ | refine thenR ?_ | refine blockN ?_ | refine blockR ?_ | refine blockX ?_ | refine blockM rfl ?_
            simp [RetOk, RV]; (try rw [Bool.eq_iff_iff]); simp [awayB]; omega
          · try simp at h5
            refine AWp.skip ?_
            repeat first | refine thenN ?_ | refine thenX ?_ | refine thenR ?_ | refine blockN ?_ | refine blockR ?_ | refine blockX ?_ | refine blockM rfl ?_
            -- region 8
            refine AWp.rseq E_ok [0, 1, 2, 4, 5] fun K hK => ?_
            simp [encCus_eq, h5, h5, h5, h5, h5]
            repeat refine ⟨by first | omega | assumption | (simp only [maxLen]; omega) | (intros; omega) | decide, ?_⟩
            refine hK _ ?_
            clear hK K
            refine AWp.ret ?_
            repeat first | refine thenN ?_ | refine thenX ?_ | refine thenR ?_ | refine blockN ?_ | refine blockR ?_ | refine blockX ?_ | refine blockM rfl ?_
            simp [RetOk, RV]; (try rw [Bool.eq_iff_iff]); simp [awayB]; omega
end Go.Proofs.YtabmhpgbfjkkcaaDoor

set_option maxRecDepth 100000
set_option linter.unusedSimpArgs false
set_option linter.unusedVariables false
namespace Go.Proofs.YtabmhpgbfjkkcaaDoor
open Go Ab Pl
theorem custody_Replay_x (l : List Mv) (c : Custody) (hl : l.length ≤ 1000000) (h : replayR 2 l 5 = (c, -1, 0)) : ACalls E.P 19 [.int .i64 2, encMoves l, .int .i64 5] (.tup [encCus c, .int .i64 (-1), .int .i64 0]) := by
  have := custody_Replay 2 l 5 hl
  rwa [h] at this
theorem custody_Text_x (c : Custody) (s : List UInt8) (h : textR c = s) : ACalls E.P 23 [encCus c] (.d (.str s)) := h ▸ custody_Text c
theorem custody_Apply_x (c : Custody) (m : Mv) (d : Custody) (e : Int) (h : applyR c m = (d, e)) : ACalls E.P 17 [encCus c, encMove m] (.tup [encCus d, .int .i64 e]) := by
  have := custody_Apply c m
  rwa [h] at this
theorem custody_Right_x : ACalls E.P 12 [encCus ⟨2, 1, 0, 0⟩] (.d (.bool true)) := by
  have := custody_Right ⟨2, 1, 0, 0⟩
  rwa [show rightB ⟨2, 1, 0, 0⟩ = true by decide +kernel] at this
theorem custody_Away_x : ACalls E.P 21 [encCus ⟨6, 3, 0, 1⟩] (.d (.bool true)) := by
  have := custody_Away ⟨6, 3, 0, 1⟩
  rwa [show awayB ⟨6, 3, 0, 1⟩ = true by decide +kernel] at this
theorem custody_Allowed_x : ACalls E.P 14 [.int .i64 3, .int .i64 10] (.d (.bool true)) := by
  have := custody_Allowed 3 10
  rwa [show allowB 3 10 = true by decide +kernel] at this

end Go.Proofs.YtabmhpgbfjkkcaaDoor

set_option maxRecDepth 100000
set_option linter.unusedSimpArgs false
set_option linter.unusedVariables false
namespace Go.Proofs.YtabmhpgbfjkkcaaDoor
open Go Ab Pl
set_option maxHeartbeats 1000000 in
theorem law30_alive  : ACalls E.P 16 [] (.d (.bool true)) := by
  refine ACalls.intro E_ok Tryd.func16 rfl rfl Tryd.ntmps16 Tryd.results16 (Nat.le_of_ble_eq_true rfl) fun hok base S0 w0 => ?_
  -- region 0
  refine AWp.rseq E_ok [0, 1, 2, 3, 4, 5, 6, 7, 9, 10, 11, 13, 15, 63] fun K hK => ?_
  simp [encCus_eq, encMove_eq, encMoves_eq]
  repeat refine ⟨by first | omega | assumption | (simp only [maxLen]; omega) | (intros; omega) | decide, ?_⟩
  refine hK _ ?_
  clear hK K
  -- region 1
  refine AWp.rseq E_ok [0, 1, 2, 3, 4, 5, 6, 7, 9, 10, 11, 13, 15, 63] fun K hK => ?_
  simp [encCus_eq, encMove_eq, encMoves_eq]
  repeat refine ⟨by first | omega | assumption | (simp only [maxLen]; omega) | (intros; omega) | decide, ?_⟩
  refine hK _ ?_
  clear hK K
  -- region 2
  refine AWp.rseq E_ok [0, 1, 2, 3, 4, 5, 6, 7, 9, 10, 11, 13, 15, 63] fun K hK => ?_
  simp [encCus_eq, encMove_eq, encMoves_eq]
  repeat refine ⟨by first | omega | assumption | (simp only [maxLen]; omega) | (intros; omega) | decide, ?_⟩
  refine meet.of (custody_Replay_x (mvs.take 3) ⟨4, 1, 7, 0⟩ (by decide) (by decide +kernel)) ?_
  simp [encCus_eq, encMove_eq, encMoves_eq]
  repeat refine ⟨by first | omega | assumption | (simp only [maxLen]; omega) | (intros; omega) | decide, ?_⟩
  refine hK _ ?_
  clear hK K
  -- region 3
  refine AWp.rseq E_ok [0, 1, 2, 3, 4, 5, 6, 7, 9, 10, 11, 13, 15, 63] fun K hK => ?_
  simp [encCus_eq, encMove_eq, encMoves_eq]
  repeat refine ⟨by first | omega | assumption | (simp only [maxLen]; omega) | (intros; omega) | decide, ?_⟩
  refine meet.of (custody_Replay_x mvs ⟨6, 3, 0, 1⟩ (by decide) (by decide +kernel)) ?_
  simp [encCus_eq, encMove_eq, encMoves_eq]
  repeat refine ⟨by first | omega | assumption | (simp only [maxLen]; omega) | (intros; omega) | decide, ?_⟩
  refine hK _ ?_
  clear hK K
  refine AWp.seq ?_
  -- region 4
  refine AWp.rseq E_ok [0, 1, 2, 3, 4, 5, 6, 7, 9, 10, 11, 13, 15, 63] fun K hK => ?_
  simp [encCus_eq, encMove_eq, encMoves_eq]
  repeat refine ⟨by first | omega | assumption | (simp only [maxLen]; omega) | (intros; omega) | decide, ?_⟩
  refine meet.of (custody_Start 2) ?_
  simp [encCus_eq, encMove_eq, encMoves_eq]
  repeat refine ⟨by first | omega | assumption | (simp only [maxLen]; omega) | (intros; omega) | decide, ?_⟩
  refine meet.of (custody_Text_x ⟨4, 1, 7, 0⟩ _ text_a) ?_
  simp [encCus_eq, encMove_eq, encMoves_eq]
  repeat refine ⟨by first | omega | assumption | (simp only [maxLen]; omega) | (intros; omega) | decide, ?_⟩
  refine meet.of (custody_Text_x ⟨6, 3, 0, 1⟩ _ text_b) ?_
  simp [encCus_eq, encMove_eq, encMoves_eq]
  repeat refine ⟨by first | omega | assumption | (simp only [maxLen]; omega) | (intros; omega) | decide, ?_⟩
  refine hK _ ?_
  clear hK K
  refine AWp.cond rfl (fun h63 => ?_) (fun h63 => ?_)
  · exact absurd h63 (by simp)
  · try simp at h63
    refine AWp.skip ?_
    repeat first | refine thenN ?_ | refine thenX ?_ | refine thenR ?_ | refine blockN ?_ | refine blockR ?_ | refine blockX ?_ | refine blockM rfl ?_
    -- region 6
    refine AWp.rseq E_ok [0, 1, 2, 3, 4, 5, 6, 7, 9, 10, 11, 13, 15, 63] fun K hK => ?_
    simp [encCus_eq, encMove_eq, encMoves_eq]
    repeat refine ⟨by first | omega | assumption | (simp only [maxLen]; omega) | (intros; omega) | decide, ?_⟩
    refine meet.of (custody_Apply_x ⟨6, 3, 0, 1⟩ ⟨0, 5, 7, 2, 0⟩ c00 1 (by decide +kernel)) ?_
    simp [encCus_eq, encMove_eq, encMoves_eq]
    repeat refine ⟨by first | omega | assumption | (simp only [maxLen]; omega) | (intros; omega) | decide, ?_⟩
    refine hK _ ?_
    clear hK K
    -- region 7
    refine AWp.rseq E_ok [0, 1, 2, 3, 4, 5, 6, 7, 9, 10, 11, 13, 15, 63] fun K hK => ?_
    simp [encCus_eq, encMove_eq, encMoves_eq]
    repeat refine ⟨by first | omega | assumption | (simp only [maxLen]; omega) | (intros; omega) | decide, ?_⟩
    refine meet.of (custody_Apply_x ⟨6, 3, 0, 1⟩ ⟨0, 5, 7, 1, 0⟩ ⟨2, 1, 0, 0⟩ 0 (by decide +kernel)) ?_
    simp [encCus_eq, encMove_eq, encMoves_eq]
    repeat refine ⟨by first | omega | assumption | (simp only [maxLen]; omega) | (intros; omega) | decide, ?_⟩
    refine hK _ ?_
    clear hK K
    -- region 8
    refine AWp.rseq E_ok [0, 1, 2, 3, 4, 5, 6, 7, 9, 10, 11, 13, 15, 63] fun K hK => ?_
    simp [encCus_eq, encMove_eq, encMoves_eq]
    repeat refine ⟨by first | omega | assumption | (simp only [maxLen]; omega) | (intros; omega) | decide, ?_⟩
    refine meet.of (custody_Apply_x ⟨5, 1, 7, 0⟩ ⟨0, 5, 3, 1, 8⟩ c00 16 (by decide +kernel)) ?_
    simp [encCus_eq, encMove_eq, encMoves_eq]
    repeat refine ⟨by first | omega | assumption | (simp only [maxLen]; omega) | (intros; omega) | decide, ?_⟩
    refine hK _ ?_
    clear hK K
    -- region 9
    refine AWp.rseq E_ok [0, 1, 2, 3, 4, 5, 6, 7, 9, 10, 11, 13, 15, 63] fun K hK => ?_
    simp [encCus_eq, encMove_eq, encMoves_eq]
    repeat refine ⟨by first | omega | assumption | (simp only [maxLen]; omega) | (intros; omega) | decide, ?_⟩
    refine meet.of (custody_Apply_x ⟨3, 1, 0, 0⟩ ⟨0, 5, 4, 1, 0⟩ c00 12 (by decide +kernel)) ?_
    simp [encCus_eq, encMove_eq, encMoves_eq]
    repeat refine ⟨by first | omega | assumption | (simp only [maxLen]; omega) | (intros; omega) | decide, ?_⟩
    refine hK _ ?_
    clear hK K
    -- region 10
    refine AWp.rseq E_ok [0, 1, 2, 3, 4, 5, 6, 7, 9, 10, 11, 13, 15, 63] fun K hK => ?_
    simp [encCus_eq, encMove_eq, encMoves_eq]
    repeat refine ⟨by first | omega | assumption | (simp only [maxLen]; omega) | (intros; omega) | decide, ?_⟩
    refine meet.of (custody_Text_x ⟨2, 1, 0, 0⟩ _ text_c) ?_
    simp [encCus_eq, encMove_eq, encMoves_eq]
    repeat refine ⟨by first | omega | assumption | (simp only [maxLen]; omega) | (intros; omega) | decide, ?_⟩
    refine meet.of (custody_Right_x) ?_
    simp [encCus_eq, encMove_eq, encMoves_eq]
    repeat refine ⟨by first | omega | assumption | (simp only [maxLen]; omega) | (intros; omega) | decide, ?_⟩
    refine meet.of (custody_Away_x) ?_
    simp [encCus_eq, encMove_eq, encMoves_eq]
    repeat refine ⟨by first | omega | assumption | (simp only [maxLen]; omega) | (intros; omega) | decide, ?_⟩
    refine meet.of (custody_Allowed_x) ?_
    simp [encCus_eq, encMove_eq, encMoves_eq]
    repeat refine ⟨by first | omega | assumption | (simp only [maxLen]; omega) | (intros; omega) | decide, ?_⟩
    refine hK _ ?_
    clear hK K
    refine AWp.ret ?_
    repeat first | refine thenN ?_ | refine thenX ?_ | refine thenR ?_ | refine blockN ?_ | refine blockR ?_ | refine blockX ?_ | refine blockM rfl ?_
    simp [RetOk, RV]
end Go.Proofs.YtabmhpgbfjkkcaaDoor

set_option maxRecDepth 100000
set_option linter.unusedSimpArgs false
set_option linter.unusedVariables false
namespace Go.Proofs.YtabmhpgbfjkkcaaDoor
open Go Ab Pl
theorem ref30_Start (b : Int) : ACalls E.P 11 [.int .i64 b] (.d (encCus ⟨1, b, 0, 0⟩)) := by
  refine ACalls.intro E_ok Tryd.func11 rfl rfl Tryd.ntmps11 Tryd.results11 (Nat.le_of_ble_eq_true rfl) fun hok base S0 w0 => ?_
  -- region 0
  refine AWp.rseq E_ok [0, 2] fun K hK => ?_
  simp
  repeat refine ⟨by first | omega | assumption | (simp only [maxLen]; omega) | (intros; omega) | decide, ?_⟩
  refine hK _ ?_
  clear hK K
  -- region 1
  refine AWp.rseq E_ok [0, 2] fun K hK => ?_
  simp
  repeat refine ⟨by first | omega | assumption | (simp only [maxLen]; omega) | (intros; omega) | decide, ?_⟩
  refine hK _ ?_
  clear hK K
  refine AWp.ret ?_
  repeat first | refine thenN ?_ | refine thenX ?_ | refine thenR ?_ | refine blockN ?_ | refine blockR ?_ | refine blockX ?_ | refine blockM rfl ?_
  simp [RetOk, RV, encCus_eq]
end Go.Proofs.YtabmhpgbfjkkcaaDoor

set_option maxRecDepth 100000
set_option linter.unusedSimpArgs false
set_option linter.unusedVariables false
namespace Go.Proofs.YtabmhpgbfjkkcaaDoor
open Go Ab Pl
theorem ref30_personal (s : Int) : ACalls E.P 26 [.int .i64 s] (.d (.bool (persB s))) := by
  refine ACalls.intro E_ok Tryd.func26 rfl rfl Tryd.ntmps26 Tryd.results26 (Nat.le_of_ble_eq_true rfl) fun hok base S0 w0 => ?_
  -- region 0
  refine AWp.rseq E_ok [0, 2] fun K hK => ?_
  simp
  repeat refine ⟨by first | omega | assumption | (simp only [maxLen]; omega) | (intros; omega) | decide, ?_⟩
  refine hK _ ?_
  clear hK K
  -- region 1
  refine AWp.rseq E_ok [0, 2] fun K hK => ?_
  simp
  repeat refine ⟨by first | omega | assumption | (simp only [maxLen]; omega) | (intros; omega) | decide, ?_⟩
  refine hK _ ?_
  clear hK K
  refine AWp.ret ?_
  repeat first | refine thenN ?_ | refine thenX ?_ | refine thenR ?_ | refine blockN ?_ | refine blockR ?_ | refine blockX ?_ | refine blockM rfl ?_
  simp [RetOk, RV, persB]
end Go.Proofs.YtabmhpgbfjkkcaaDoor

set_option maxRecDepth 100000
set_option linter.unusedSimpArgs false
set_option linter.unusedVariables false
namespace Go.Proofs.YtabmhpgbfjkkcaaDoor
open Go Ab Pl
theorem ref30_Right (c : Custody) : ACalls E.P 13 [encCus c] (.d (.bool (rightB c))) := by
  refine ACalls.intro E_ok Tryd.func13 rfl rfl Tryd.ntmps13 Tryd.results13 (Nat.le_of_ble_eq_true rfl) fun hok base S0 w0 => ?_
  -- region 0
  refine AWp.rseq E_ok [0, 1, 2, 20, 23, 51, 54] fun K hK => ?_
  simp [encCus_eq]
  repeat refine ⟨by first | omega | assumption | (simp only [maxLen]; omega) | (intros; omega) | decide, ?_⟩
  refine hK _ ?_
  clear hK K
  refine AWp.seq ?_
  -- region 1
  refine AWp.rseq E_ok [0, 1, 2, 20, 23, 51, 54] fun K hK => ?_
  simp [encCus_eq]
  repeat refine ⟨by first | omega | assumption | (simp only [maxLen]; omega) | (intros; omega) | decide, ?_⟩
  refine hK _ ?_
  clear hK K
  refine AWp.cond rfl (fun h20 => ?_) (fun h20 => ?_)
  · try simp at h20
    -- region 2
    refine AWp.rseq E_ok [0, 1, 2, 20, 23, 51, 54] fun K hK => ?_
    simp [encCus_eq, h20]
    repeat refine ⟨by first | omega | assumption | (simp only [maxLen]; omega) | (intros; omega) | decide, ?_⟩
    refine hK _ ?_
    clear hK K
    refine AWp.ret ?_
    repeat first | refine thenN ?_ | refine thenX ?_ | refine thenR ?_ | refine blockN ?_ | refine blockR ?_ | refine blockX ?_ | refine blockM rfl ?_
    simp [RetOk, RV]; rw [Bool.eq_iff_iff, rightB_iff]; simp; (try unfold PersC at hp); omega
  · try simp at h20
    refine AWp.skip ?_
    repeat first | refine thenN ?_ | refine thenX ?_ | refine thenR ?_ | refine blockN ?_ | refine blockR ?_ | refine blockX ?_ | refine blockM rfl ?_
    refine AWp.seq ?_
    -- region 3
    refine AWp.rseq E_ok [0, 1, 2, 20, 23, 51, 54] fun K hK => ?_
    simp [encCus_eq, h20]
    repeat refine ⟨by first | omega | assumption | (simp only [maxLen]; omega) | (intros; omega) | decide, ?_⟩
    refine hK _ ?_
    clear hK K
    refine AWp.cond rfl (fun h23 => ?_) (fun h23 => ?_)
    · try simp at h23
      -- region 4
      refine AWp.rseq E_ok [0, 1, 2, 20, 23, 51, 54] fun K hK => ?_
      simp [encCus_eq, h20, h23]
      repeat refine ⟨by first | omega | assumption | (simp only [maxLen]; omega) | (intros; omega) | decide, ?_⟩
      refine hK _ ?_
      clear hK K
      refine AWp.ret ?_
      repeat first | refine thenN ?_ | refine thenX ?_ | refine thenR ?_ | refine blockN ?_ | refine blockR ?_ | refine blockX ?_ | refine blockM rfl ?_
      simp [RetOk, RV]; rw [Bool.eq_iff_iff, rightB_iff]; simp; (try unfold PersC at hp); omega
    · try simp at h23
      refine AWp.skip ?_
      repeat first | refine thenN ?_ | refine thenX ?_ | refine thenR ?_ | refine blockN ?_ | refine blockR ?_ | refine blockX ?_ | refine blockM rfl ?_
      refine AWp.seq ?_
      -- region 5
      refine AWp.rseq E_ok [0, 1, 2, 20, 23, 51, 54] fun K hK => ?_
      simp [encCus_eq, h20, h23]
      repeat refine ⟨by first | omega | assumption | (simp only [maxLen]; omega) | (intros; omega) | decide, ?_⟩
      refine hK _ ?_
      clear hK K
      refine AWp.cond rfl (fun h51 => ?_) (fun h51 => ?_)
      · try simp at h51
        -- region 6
        refine AWp.rseq E_ok [0, 1, 2, 20, 23, 51, 54] fun K hK => ?_
        simp [encCus_eq, h20, h23, h51]
        repeat refine ⟨by first | omega | assumption | (simp only [maxLen]; omega) | (intros; omega) | decide, ?_⟩
        refine hK _ ?_
        clear hK K
        refine AWp.ret ?_
        repeat first | refine thenN ?_ | refine thenX ?_ | refine thenR ?_ | refine blockN ?_ | refine blockR ?_ | refine blockX ?_ | refine blockM rfl ?_
        simp [RetOk, RV]; rw [Bool.eq_iff_iff, rightB_iff]; simp; (try unfold PersC at hp); omega
      · try simp at h51
        refine AWp.skip ?_
        repeat first | refine thenN ?_ | refine thenX ?_ | refine thenR ?_ | refine blockN ?_ | refine blockR ?_ | refine blockX ?_ | refine blockM rfl ?_
        refine AWp.seq ?_
        -- region 7
        refine AWp.rseq E_ok [0, 1, 2, 20, 23, 51, 54] fun K hK => ?_
        simp [encCus_eq, h20, h23, h51]
        repeat refine ⟨by first | omega | assumption | (simp only [maxLen]; omega) | (intros; omega) | decide, ?_⟩
        refine meet.of (ref30_personal _) ?_
        simp [encCus_eq, h20, h23, h51]
        repeat refine ⟨by first | omega | assumption | (simp only [maxLen]; omega) | (intros; omega) | decide, ?_⟩
        refine hK _ ?_
        clear hK K
        refine AWp.cond rfl (fun h54 => ?_) (fun h54 => ?_)
        · try simp at h54
          have hp : PersC c.st := by simpa [persB, PersC, or_assoc] using h54
          -- region 8
          refine AWp.rseq E_ok [0, 1, 2, 20, 23, 51, 54] fun K hK => ?_
          simp [encCus_eq, h20, h23, h51, h54]
          repeat refine ⟨by first | omega | assumption | (simp only [maxLen]; omega) | (intros; omega) | decide, ?_⟩
          refine hK _ ?_
          clear hK K
          refine AWp.ret ?_
          repeat first | refine thenN ?_ | refine thenX ?_ | refine thenR ?_ | refine blockN ?_ | refine blockR ?_ | refine blockX ?_ | refine blockM rfl ?_
          simp [RetOk, RV]; rw [Bool.eq_iff_iff, rightB_iff]; simp; (try unfold PersC at hp); omega
        · try simp at h54
          have hp : ¬ PersC c.st := by simpa [persB, PersC, or_assoc, and_assoc] using h54
          refine AWp.skip ?_
          repeat first | refine thenN ?_ | refine thenX ?_ | refine thenR ?_ | refine blockN ?_ | refine blockR ?_ | refine blockX ?_ | refine blockM rfl ?_
          -- region 9
          refine AWp.rseq E_ok [0, 1, 2, 20, 23, 51, 54] fun K hK => ?_
          simp [encCus_eq, h20, h23, h51, h54]
          repeat refine ⟨by first | omega | assumption | (simp only [maxLen]; omega) | (intros; omega) | decide, ?_⟩
          refine hK _ ?_
          clear hK K
          refine AWp.ret ?_
          repeat first | refine thenN ?_ | refine thenX ?_ | refine thenR ?_ | refine blockN ?_ | refine blockR ?_ | refine blockX ?_ | refine blockM rfl ?_
          simp [RetOk, RV]; rw [Bool.eq_iff_iff, rightB_iff]; simp; (try unfold PersC at hp); omega
end Go.Proofs.YtabmhpgbfjkkcaaDoor

set_option maxRecDepth 100000
set_option linter.unusedSimpArgs false
set_option linter.unusedVariables false
namespace Go.Proofs.YtabmhpgbfjkkcaaDoor
open Go Ab Pl
theorem ref30_within (m : Mv) : ACalls E.P 30 [encMove m] (.d (.bool (moveB m))) := by
  refine ACalls.intro E_ok Tryd.func30 rfl rfl Tryd.ntmps30 Tryd.results30 (Nat.le_of_ble_eq_true rfl) fun hok base S0 w0 => ?_
  -- region 0
  refine AWp.rseq E_ok [0, 1, 2] fun K hK => ?_
  simp [encMove_eq]
  repeat refine ⟨by first | omega | assumption | (simp only [maxLen]; omega) | (intros; omega) | decide, ?_⟩
  refine hK _ ?_
  clear hK K
  -- region 1
  refine AWp.rseq E_ok [0, 1, 2] fun K hK => ?_
  simp [encMove_eq]
  repeat refine ⟨by first | omega | assumption | (simp only [maxLen]; omega) | (intros; omega) | decide, ?_⟩
  refine hK _ ?_
  clear hK K
  refine AWp.ret ?_
  repeat first | refine thenN ?_ | refine thenX ?_ | refine thenR ?_ | refine blockN ?_ | refine blockR ?_ | refine blockX ?_ | refine blockM rfl ?_
  simp [RetOk, RV]; rw [Bool.eq_iff_iff, moveB_iff]; simp; omega
end Go.Proofs.YtabmhpgbfjkkcaaDoor

set_option maxRecDepth 100000
set_option linter.unusedSimpArgs false
set_option linter.unusedVariables false
namespace Go.Proofs.YtabmhpgbfjkkcaaDoor
open Go Ab Pl
theorem ref30_states (k : Int) : ACalls E.P 27 [.int .i64 k] (.d (encInts' (statesL k))) := by
  refine ACalls.intro E_ok Tryd.func27 rfl rfl Tryd.ntmps27 Tryd.results27 (Nat.le_of_ble_eq_true rfl) fun hok base S0 w0 => ?_
  -- region 0
  refine AWp.rseq E_ok [0, 2, 3, 4, 7, 10, 13, 16, 20, 23, 26, 29, 32, 35, 38, 41, 44] fun K hK => ?_
  simp [encInts'_eq]
  repeat refine ⟨by first | omega | assumption | (simp only [maxLen]; omega) | (intros; omega) | decide, ?_⟩
  refine hK _ ?_
  clear hK K
  refine AWp.seq ?_
  -- region 1
  refine AWp.rseq E_ok [0, 2, 3, 4, 7, 10, 13, 16, 20, 23, 26, 29, 32, 35, 38, 41, 44] fun K hK => ?_
  simp [encInts'_eq]
  repeat refine ⟨by first | omega | assumption | (simp only [maxLen]; omega) | (intros; omega) | decide, ?_⟩
  refine hK _ ?_
  clear hK K
  refine AWp.block ?_
  -- region 2
  refine AWp.rseq E_ok [0, 2, 3, 4, 7, 10, 13, 16, 20, 23, 26, 29, 32, 35, 38, 41, 44] fun K hK => ?_
  simp [encInts'_eq]
  repeat refine ⟨by first | omega | assumption | (simp only [maxLen]; omega) | (intros; omega) | decide, ?_⟩
  refine hK _ ?_
  clear hK K
  refine AWp.cond rfl (fun h4 => ?_) (fun h4 => ?_)
  · try simp at h4
    -- region 3
    refine AWp.rseq E_ok [0, 2, 3, 4, 7, 10, 13, 16, 20, 23, 26, 29, 32, 35, 38, 41, 44] fun K hK => ?_
    simp [encInts'_eq, h4]
    repeat refine ⟨by first | omega | assumption | (simp only [maxLen]; omega) | (intros; omega) | decide, ?_⟩
    refine hK _ ?_
    clear hK K
    refine AWp.ret ?_
    repeat first | refine thenN ?_ | refine thenX ?_ | refine thenR ?_ | refine blockN ?_ | refine blockR ?_ | refine blockX ?_ | refine blockM rfl ?_
    simp [RetOk, RV, statesL, encInts'_eq, *]
  · try simp at h4
    -- region 4
    refine AWp.rseq E_ok [0, 2, 3, 4, 7, 10, 13, 16, 20, 23, 26, 29, 32, 35, 38, 41, 44] fun K hK => ?_
    simp [encInts'_eq, h4]
    repeat refine ⟨by first | omega | assumption | (simp only [maxLen]; omega) | (intros; omega) | decide, ?_⟩
    refine hK _ ?_
    clear hK K
    refine AWp.cond rfl (fun h7 => ?_) (fun h7 => ?_)
    · try simp at h7
      -- region 5
      refine AWp.rseq E_ok [0, 2, 3, 4, 7, 10, 13, 16, 20, 23, 26, 29, 32, 35, 38, 41, 44] fun K hK => ?_
      simp [encInts'_eq, h4, h7]
      repeat refine ⟨by first | omega | assumption | (simp only [maxLen]; omega) | (intros; omega) | decide, ?_⟩
      refine hK _ ?_
      clear hK K
      refine AWp.ret ?_
      repeat first | refine thenN ?_ | refine thenX ?_ | refine thenR ?_ | refine blockN ?_ | refine blockR ?_ | refine blockX ?_ | refine blockM rfl ?_
      simp [RetOk, RV, statesL, encInts'_eq, *]
    · try simp at h7
      -- region 6
      refine AWp.rseq E_ok [0, 2, 3, 4, 7, 10, 13, 16, 20, 23, 26, 29, 32, 35, 38, 41, 44] fun K hK => ?_
      simp [encInts'_eq, h4, h7]
      repeat refine ⟨by first | omega | assumption | (simp only [maxLen]; omega) | (intros; omega) | decide, ?_⟩
      refine hK _ ?_
      clear hK K
      refine AWp.cond rfl (fun h10 => ?_) (fun h10 => ?_)
      · try simp at h10
        -- region 7
        refine AWp.rseq E_ok [0, 2, 3, 4, 7, 10, 13, 16, 20, 23, 26, 29, 32, 35, 38, 41, 44] fun K hK => ?_
        simp [encInts'_eq, h4, h7, h10]
        repeat refine ⟨by first | omega | assumption | (simp only [maxLen]; omega) | (intros; omega) | decide, ?_⟩
        refine hK _ ?_
        clear hK K
        refine AWp.ret ?_
        repeat first | refine thenN ?_ | refine thenX ?_ | refine thenR ?_ | refine blockN ?_ | refine blockR ?_ | refine blockX ?_ | refine blockM rfl ?_
        simp [RetOk, RV, statesL, encInts'_eq, *]
      · try simp at h10
        -- region 8
        refine AWp.rseq E_ok [0, 2, 3, 4, 7, 10, 13, 16, 20, 23, 26, 29, 32, 35, 38, 41, 44] fun K hK => ?_
        simp [encInts'_eq, h4, h7, h10]
        repeat refine ⟨by first | omega | assumption | (simp only [maxLen]; omega) | (intros; omega) | decide, ?_⟩
        refine hK _ ?_
        clear hK K
        refine AWp.cond rfl (fun h13 => ?_) (fun h13 => ?_)
        · try simp at h13
          -- region 9
          refine AWp.rseq E_ok [0, 2, 3, 4, 7, 10, 13, 16, 20, 23, 26, 29, 32, 35, 38, 41, 44] fun K hK => ?_
          simp [encInts'_eq, h4, h7, h10, h13]
          repeat refine ⟨by first | omega | assumption | (simp only [maxLen]; omega) | (intros; omega) | decide, ?_⟩
          refine hK _ ?_
          clear hK K
          refine AWp.ret ?_
          repeat first | refine thenN ?_ | refine thenX ?_ | refine thenR ?_ | refine blockN ?_ | refine blockR ?_ | refine blockX ?_ | refine blockM rfl ?_
          simp [RetOk, RV, statesL, encInts'_eq, *]
        · try simp at h13
          refine AWp.seq ?_
          -- region 10
          refine AWp.rseq E_ok [0, 2, 3, 4, 7, 10, 13, 16, 20, 23, 26, 29, 32, 35, 38, 41, 44] fun K hK => ?_
          simp [encInts'_eq, h4, h7, h10, h13]
          repeat refine ⟨by first | omega | assumption | (simp only [maxLen]; omega) | (intros; omega) | decide, ?_⟩
          refine hK _ ?_
          clear hK K
          refine AWp.cond rfl (fun h16 => ?_) (fun h16 => ?_)
          · try simp at h16
            refine AWp.skip ?_
            repeat first | refine thenN ?_ | refine thenX ?_ | refine thenR ?_ | refine blockN ?_ | refine blockR ?_ | refine blockX ?_ | refine blockM rfl ?_
            refine AWp.cond rfl (fun hz => ?_) (fun hz => ?_)
            · clear hz
              -- region 12
              refine AWp.rseq E_ok [0, 2, 3, 4, 7, 10, 13, 16, 20, 23, 26, 29, 32, 35, 38, 41, 44] fun K hK => ?_
              simp [encInts'_eq, h4, h7, h10, h13, h16]
              repeat refine ⟨by first | omega | assumption | (simp only [maxLen]; omega) | (intros; omega) | decide, ?_⟩
              refine hK _ ?_
              clear hK K
              refine AWp.ret ?_
              repeat first | refine thenN ?_ | refine thenX ?_ | refine thenR ?_ | refine blockN ?_ | refine blockR ?_ | refine blockX ?_ | refine blockM rfl ?_
              simp [RetOk, RV, statesL, encInts'_eq, *]
            · exact absurd hz (by simp [h16])
          · try simp at h16
            -- region 11
            refine AWp.rend E_ok [0, 2, 3, 4, 7, 10, 13, 16, 20, 23, 26, 29, 32, 35, 38, 41, 44] fun K hK => ?_
            simp [encInts'_eq, h4, h7, h10, h13, h16]
            repeat refine ⟨by first | omega | assumption | (simp only [maxLen]; omega) | (intros; omega) | decide, ?_⟩
            refine hK _ ?_
            clear hK K
            repeat first | refine thenN ?_ | refine thenX ?_ | refine thenR ?_ | refine blockN ?_ | refine blockR ?_ | refine blockX ?_ | refine blockM rfl ?_
            refine AWp.cond rfl (fun h16 => ?_) (fun h16 => ?_)
            · try simp at h16
              -- region 12
              refine AWp.rseq E_ok [0, 2, 3, 4, 7, 10, 13, 16, 20, 23, 26, 29, 32, 35, 38, 41, 44] fun K hK => ?_
              simp [encInts'_eq, h4, h7, h10, h13, h16, h16]
              repeat refine ⟨by first | omega | assumption | (simp only [maxLen]; omega) | (intros; omega) | decide, ?_⟩
              refine hK _ ?_
              clear hK K
              refine AWp.ret ?_
              repeat first | refine thenN ?_ | refine thenX ?_ | refine thenR ?_ | refine blockN ?_ | refine blockR ?_ | refine blockX ?_ | refine blockM rfl ?_
              simp [RetOk, RV, statesL, encInts'_eq, *]
            · try simp at h16
              -- region 13
              refine AWp.rseq E_ok [0, 2, 3, 4, 7, 10, 13, 16, 20, 23, 26, 29, 32, 35, 38, 41, 44] fun K hK => ?_
              simp [encInts'_eq, h4, h7, h10, h13, h16, h16]
              repeat refine ⟨by first | omega | assumption | (simp only [maxLen]; omega) | (intros; omega) | decide, ?_⟩
              refine hK _ ?_
              clear hK K
              refine AWp.cond rfl (fun h20 => ?_) (fun h20 => ?_)
              · try simp at h20
                -- region 14
                refine AWp.rseq E_ok [0, 2, 3, 4, 7, 10, 13, 16, 20, 23, 26, 29, 32, 35, 38, 41, 44] fun K hK => ?_
                simp [encInts'_eq, h4, h7, h10, h13, h16, h16, h20]
                repeat refine ⟨by first | omega | assumption | (simp only [maxLen]; omega) | (intros; omega) | decide, ?_⟩
                refine hK _ ?_
                clear hK K
                refine AWp.ret ?_
                repeat first | refine thenN ?_ | refine thenX ?_ | refine thenR ?_ | refine blockN ?_ | refine blockR ?_ | refine blockX ?_ | refine blockM rfl ?_
                simp [RetOk, RV, statesL, encInts'_eq, *]
              · try simp at h20
                -- region 15
                refine AWp.rseq E_ok [0, 2, 3, 4, 7, 10, 13, 16, 20, 23, 26, 29, 32, 35, 38, 41, 44] fun K hK => ?_
                simp [encInts'_eq, h4, h7, h10, h13, h16, h16, h20]
                repeat refine ⟨by first | omega | assumption | (simp only [maxLen]; omega) | (intros; omega) | decide, ?_⟩
                refine hK _ ?_
                clear hK K
                refine AWp.cond rfl (fun h23 => ?_) (fun h23 => ?_)
                · try simp at h23
                  -- region 16
                  refine AWp.rseq E_ok [0, 2, 3, 4, 7, 10, 13, 16, 20, 23, 26, 29, 32, 35, 38, 41, 44] fun K hK => ?_
                  simp [encInts'_eq, h4, h7, h10, h13, h16, h16, h20, h23]
                  repeat refine ⟨by first | omega | assumption | (simp only [maxLen]; omega) | (intros; omega) | decide, ?_⟩
                  refine hK _ ?_
                  clear hK K
                  refine AWp.ret ?_
                  repeat first | refine thenN ?_ | refine thenX ?_ | refine thenR ?_ | refine blockN ?_ | refine blockR ?_ | refine blockX ?_ | refine blockM rfl ?_
                  simp [RetOk, RV, statesL, encInts'_eq, *]
                · try simp at h23
                  -- region 17
                  refine AWp.rseq E_ok [0, 2, 3, 4, 7, 10, 13, 16, 20, 23, 26, 29, 32, 35, 38, 41, 44] fun K hK => ?_
                  simp [encInts'_eq, h4, h7, h10, h13, h16, h16, h20, h23]
                  repeat refine ⟨by first | omega | assumption | (simp only [maxLen]; omega) | (intros; omega) | decide, ?_⟩
                  refine hK _ ?_
                  clear hK K
                  refine AWp.cond rfl (fun h26 => ?_) (fun h26 => ?_)
                  · try simp at h26
                    -- region 18
                    refine AWp.rseq E_ok [0, 2, 3, 4, 7, 10, 13, 16, 20, 23, 26, 29, 32, 35, 38, 41, 44] fun K hK => ?_
                    simp [encInts'_eq, h4, h7, h10, h13, h16, h16, h20, h23, h26]
                    repeat refine ⟨by first | omega | assumption | (simp only [maxLen]; omega) | (intros; omega) | decide, ?_⟩
                    refine hK _ ?_
                    clear hK K
                    refine AWp.ret ?_
                    repeat first | refine thenN ?_ | refine thenX ?_ | refine thenR ?_ | refine blockN ?_ | refine blockR ?_ | refine blockX ?_ | refine blockM rfl ?_
                    simp [RetOk, RV, statesL, encInts'_eq, *]
                  · try simp at h26
                    -- region 19
                    refine AWp.rseq E_ok [0, 2, 3, 4, 7, 10, 13, 16, 20, 23, 26, 29, 32, 35, 38, 41, 44] fun K hK => ?_
                    simp [encInts'_eq, h4, h7, h10, h13, h16, h16, h20, h23, h26]
                    repeat refine ⟨by first | omega | assumption | (simp only [maxLen]; omega) | (intros; omega) | decide, ?_⟩
                    refine hK _ ?_
                    clear hK K
                    refine AWp.cond rfl (fun h29 => ?_) (fun h29 => ?_)
                    · try simp at h29
                      -- region 20
                      refine AWp.rseq E_ok [0, 2, 3, 4, 7, 10, 13, 16, 20, 23, 26, 29, 32, 35, 38, 41, 44] fun K hK => ?_
                      simp [encInts'_eq, h4, h7, h10, h13, h16, h16, h20, h23, h26, h29]
                      repeat refine ⟨by first | omega | assumption | (simp only [maxLen]; omega) | (intros; omega) | decide, ?_⟩
                      refine hK _ ?_
                      clear hK K
                      refine AWp.ret ?_
                      repeat first | refine thenN ?_ | refine thenX ?_ | refine thenR ?_ | refine blockN ?_ | refine blockR ?_ | refine blockX ?_ | refine blockM rfl ?_
                      simp [RetOk, RV, statesL, encInts'_eq, *]
                    · try simp at h29
                      -- region 21
                      refine AWp.rseq E_ok [0, 2, 3, 4, 7, 10, 13, 16, 20, 23, 26, 29, 32, 35, 38, 41, 44] fun K hK => ?_
                      simp [encInts'_eq, h4, h7, h10, h13, h16, h16, h20, h23, h26, h29]
                      repeat refine ⟨by first | omega | assumption | (simp only [maxLen]; omega) | (intros; omega) | decide, ?_⟩
                      refine hK _ ?_
                      clear hK K
                      refine AWp.cond rfl (fun h32 => ?_) (fun h32 => ?_)
                      · try simp at h32
                        -- region 22
                        refine AWp.rseq E_ok [0, 2, 3, 4, 7, 10, 13, 16, 20, 23, 26, 29, 32, 35, 38, 41, 44] fun K hK => ?_
                        simp [encInts'_eq, h4, h7, h10, h13, h16, h16, h20, h23, h26, h29, h32]
                        repeat refine ⟨by first | omega | assumption | (simp only [maxLen]; omega) | (intros; omega) | decide, ?_⟩
                        refine hK _ ?_
                        clear hK K
                        refine AWp.ret ?_
                        repeat first | refine thenN ?_ | refine thenX ?_ | refine thenR ?_ | refine blockN ?_ | refine blockR ?_ | refine blockX ?_ | refine blockM rfl ?_
                        simp [RetOk, RV, statesL, encInts'_eq, *]
                      · try simp at h32
                        -- region 23
                        refine AWp.rseq E_ok [0, 2, 3, 4, 7, 10, 13, 16, 20, 23, 26, 29, 32, 35, 38, 41, 44] fun K hK => ?_
                        simp [encInts'_eq, h4, h7, h10, h13, h16, h16, h20, h23, h26, h29, h32]
                        repeat refine ⟨by first | omega | assumption | (simp only [maxLen]; omega) | (intros; omega) | decide, ?_⟩
                        refine hK _ ?_
                        clear hK K
                        refine AWp.cond rfl (fun h35 => ?_) (fun h35 => ?_)
                        · try simp at h35
                          -- region 24
                          refine AWp.rseq E_ok [0, 2, 3, 4, 7, 10, 13, 16, 20, 23, 26, 29, 32, 35, 38, 41, 44] fun K hK => ?_
                          simp [encInts'_eq, h4, h7, h10, h13, h16, h16, h20, h23, h26, h29, h32, h35]
                          repeat refine ⟨by first | omega | assumption | (simp only [maxLen]; omega) | (intros; omega) | decide, ?_⟩
                          refine hK _ ?_
                          clear hK K
                          refine AWp.ret ?_
                          repeat first | refine thenN ?_ | refine thenX ?_ | refine thenR ?_ | refine blockN ?_ | refine blockR ?_ | refine blockX ?_ | refine blockM rfl ?_
                          simp [RetOk, RV, statesL, encInts'_eq, *]
                        · try simp at h35
                          -- region 25
                          refine AWp.rseq E_ok [0, 2, 3, 4, 7, 10, 13, 16, 20, 23, 26, 29, 32, 35, 38, 41, 44] fun K hK => ?_
                          simp [encInts'_eq, h4, h7, h10, h13, h16, h16, h20, h23, h26, h29, h32, h35]
                          repeat refine ⟨by first | omega | assumption | (simp only [maxLen]; omega) | (intros; omega) | decide, ?_⟩
                          refine hK _ ?_
                          clear hK K
                          refine AWp.cond rfl (fun h38 => ?_) (fun h38 => ?_)
                          · try simp at h38
                            -- region 26
                            refine AWp.rseq E_ok [0, 2, 3, 4, 7, 10, 13, 16, 20, 23, 26, 29, 32, 35, 38, 41, 44] fun K hK => ?_
                            simp [encInts'_eq, h4, h7, h10, h13, h16, h16, h20, h23, h26, h29, h32, h35, h38]
                            repeat refine ⟨by first | omega | assumption | (simp only [maxLen]; omega) | (intros; omega) | decide, ?_⟩
                            refine hK _ ?_
                            clear hK K
                            refine AWp.ret ?_
                            repeat first | refine thenN ?_ | refine thenX ?_ | refine thenR ?_ | refine blockN ?_ | refine blockR ?_ | refine blockX ?_ | refine blockM rfl ?_
                            simp [RetOk, RV, statesL, encInts'_eq, *]
                          · try simp at h38
                            -- region 27
                            refine AWp.rseq E_ok [0, 2, 3, 4, 7, 10, 13, 16, 20, 23, 26, 29, 32, 35, 38, 41, 44] fun K hK => ?_
                            simp [encInts'_eq, h4, h7, h10, h13, h16, h16, h20, h23, h26, h29, h32, h35, h38]
                            repeat refine ⟨by first | omega | assumption | (simp only [maxLen]; omega) | (intros; omega) | decide, ?_⟩
                            refine hK _ ?_
                            clear hK K
                            refine AWp.cond rfl (fun h41 => ?_) (fun h41 => ?_)
                            · try simp at h41
                              -- region 28
                              refine AWp.rseq E_ok [0, 2, 3, 4, 7, 10, 13, 16, 20, 23, 26, 29, 32, 35, 38, 41, 44] fun K hK => ?_
                              simp [encInts'_eq, h4, h7, h10, h13, h16, h16, h20, h23, h26, h29, h32, h35, h38, h41]
                              repeat refine ⟨by first | omega | assumption | (simp only [maxLen]; omega) | (intros; omega) | decide, ?_⟩
                              refine hK _ ?_
                              clear hK K
                              refine AWp.ret ?_
                              repeat first | refine thenN ?_ | refine thenX ?_ | refine thenR ?_ | refine blockN ?_ | refine blockR ?_ | refine blockX ?_ | refine blockM rfl ?_
                              simp [RetOk, RV, statesL, encInts'_eq, *]
                            · try simp at h41
                              -- region 29
                              refine AWp.rseq E_ok [0, 2, 3, 4, 7, 10, 13, 16, 20, 23, 26, 29, 32, 35, 38, 41, 44] fun K hK => ?_
                              simp [encInts'_eq, h4, h7, h10, h13, h16, h16, h20, h23, h26, h29, h32, h35, h38, h41]
                              repeat refine ⟨by first | omega | assumption | (simp only [maxLen]; omega) | (intros; omega) | decide, ?_⟩
                              refine hK _ ?_
                              clear hK K
                              refine AWp.cond rfl (fun h44 => ?_) (fun h44 => ?_)
                              · try simp at h44
                                -- region 30
                                refine AWp.rseq E_ok [0, 2, 3, 4, 7, 10, 13, 16, 20, 23, 26, 29, 32, 35, 38, 41, 44] fun K hK => ?_
                                simp [encInts'_eq, h4, h7, h10, h13, h16, h16, h20, h23, h26, h29, h32, h35, h38, h41, h44]
                                repeat refine ⟨by first | omega | assumption | (simp only [maxLen]; omega) | (intros; omega) | decide, ?_⟩
                                refine hK _ ?_
                                clear hK K
                                refine AWp.ret ?_
                                repeat first | refine thenN ?_ | refine thenX ?_ | refine thenR ?_ | refine blockN ?_ | refine blockR ?_ | refine blockX ?_ | refine blockM rfl ?_
                                simp [RetOk, RV, statesL, encInts'_eq, *]
                              · try simp at h44
                                refine AWp.skip ?_
                                repeat first | refine thenN ?_ | refine thenX ?_ | refine thenR ?_ | refine blockN ?_ | refine blockR ?_ | refine blockX ?_ | refine blockM rfl ?_
                                -- region 31
                                refine AWp.rseq E_ok [0, 2, 3, 4, 7, 10, 13, 16, 20, 23, 26, 29, 32, 35, 38, 41, 44] fun K hK => ?_
                                simp [encInts'_eq, h4, h7, h10, h13, h16, h16, h20, h23, h26, h29, h32, h35, h38, h41, h44]
                                repeat refine ⟨by first | omega | assumption | (simp only [maxLen]; omega) | (intros; omega) | decide, ?_⟩
                                refine hK _ ?_
                                clear hK K
                                refine AWp.ret ?_
                                repeat first | refine thenN ?_ | refine thenX ?_ | refine thenR ?_ | refine blockN ?_ | refine blockR ?_ | refine blockX ?_ | refine blockM rfl ?_
                                simp [RetOk, RV, statesL, encInts'_eq, *]
end Go.Proofs.YtabmhpgbfjkkcaaDoor

set_option maxRecDepth 100000
set_option linter.unusedSimpArgs false
set_option linter.unusedVariables false
namespace Go.Proofs.YtabmhpgbfjkkcaaDoor
open Go Ab Pl
theorem ref30_Allowed (s k : Int) : ACalls E.P 15 [.int .i64 s, .int .i64 k] (.d (.bool (allowB s k))) := by
  refine ACalls.intro E_ok Tryd.func15 rfl rfl Tryd.ntmps15 Tryd.results15 (Nat.le_of_ble_eq_true rfl) fun hok base S0 w0 => ?_
  have hl := states_len k
  -- region 0
  refine AWp.rseq E_ok [0, 1, 4, 5, 6, 12, 20] fun K hK => ?_
  simp [encInts'_eq]
  repeat refine ⟨by first | omega | assumption | (simp only [maxLen]; omega) | (intros; omega) | decide, ?_⟩
  refine hK _ ?_
  clear hK K
  -- region 1
  refine AWp.rseq E_ok [0, 1, 4, 5, 6, 12, 20] fun K hK => ?_
  simp [encInts'_eq]
  repeat refine ⟨by first | omega | assumption | (simp only [maxLen]; omega) | (intros; omega) | decide, ?_⟩
  refine meet.of (ref30_states k) ?_
  simp [encInts'_eq]
  repeat refine ⟨by first | omega | assumption | (simp only [maxLen]; omega) | (intros; omega) | decide, ?_⟩
  refine hK _ ?_
  clear hK K
  refine AWp.seq ?_
  -- region 2
  refine AWp.rseq E_ok [0, 1, 4, 5, 6, 12, 20] fun K hK => ?_
  simp [encInts'_eq]
  repeat refine ⟨by first | omega | assumption | (simp only [maxLen]; omega) | (intros; omega) | decide, ?_⟩
  refine hK _ ?_
  clear hK K
  refine AWp.block ?_
  refine AWp.range (l := (statesL k)) (F := memF s) (tot := memF s () (statesL k)) (fun k1 y => match y with | u => True) (fun k1 y => match y with | u => [(0, T.val (D.int IntKind.i64 s)), (1, T.val (D.int IntKind.i64 k)), (5, T.val ((D.int IntKind.i64 0).slice (List.map (D.int IntKind.i64) (statesL k)))), (6, T.val (.int .i64 k1))]) () ?_ rfl ?_ ?_
  · simp [Weak, TW, encInts'_eq]
  · first | exact trivial | (simp; omega) | simp
  rintro k1 u hk1 hs1 hi1
  try simp only at hi1
  refine AWp.seq ?_
  -- region 3
  refine AWp.rseq E_ok [0, 1, 4, 5, 6, 12, 20] fun K hK => ?_
  simp [encInts'_eq]
  repeat refine ⟨by first | omega | assumption | (simp only [maxLen]; omega) | (intros; omega) | decide, ?_⟩
  refine hK _ ?_
  clear hK K
  refine AWp.cond rfl (fun h12 => ?_) (fun h12 => ?_)
  · try simp at h12
    obtain ⟨x1, hx1, hxx1, hd1⟩ := at_indexG (l := (statesL k)) h12
    rw [hd1] at hs1
    refine AWp.skip ?_
    repeat first | refine thenN ?_ | refine thenX ?_ | refine thenR ?_ | refine blockN ?_ | refine blockR ?_ | refine blockX ?_ | refine blockM rfl ?_
    refine AWp.seq ?_
    refine AWp.block ?_
    -- region 5
    refine AWp.rseq E_ok [0, 1, 4, 5, 6, 12, 20] fun K hK => ?_
    simp [encInts'_eq, h12, hx1, hxx1]
    repeat refine ⟨by first | omega | assumption | (simp only [maxLen]; omega) | (intros; omega) | decide, ?_⟩
    refine hK _ ?_
    clear hK K
    refine AWp.cond rfl (fun h20 => ?_) (fun h20 => ?_)
    · try simp at h20
      -- region 6
      refine AWp.rseq E_ok [0, 1, 4, 5, 6, 12, 20] fun K hK => ?_
      simp [encInts'_eq, h12, hx1, hxx1, h20]
      repeat refine ⟨by first | omega | assumption | (simp only [maxLen]; omega) | (intros; omega) | decide, ?_⟩
      refine hK _ ?_
      clear hK K
      refine AWp.ret ?_
      repeat first | refine thenN ?_ | refine thenX ?_ | refine thenR ?_ | refine blockN ?_ | refine blockR ?_ | refine blockX ?_ | refine blockM rfl ?_
      simp [memF, h20] at hs1
      rw [memF_eq] at hs1; simp [RetOk, RV, allowB]; simpa using hs1
    · try simp at h20
      refine AWp.skip ?_
      repeat first | refine thenN ?_ | refine thenX ?_ | refine thenR ?_ | refine blockN ?_ | refine blockR ?_ | refine blockX ?_ | refine blockM rfl ?_
      -- region 4
      refine AWp.rend E_ok [0, 1, 4, 5, 6, 12, 20] fun K hK => ?_
      simp [encInts'_eq, h12, hx1, hxx1, h20]
      repeat refine ⟨by first | omega | assumption | (simp only [maxLen]; omega) | (intros; omega) | decide, ?_⟩
      refine hK _ ?_
      clear hK K
      repeat first | refine thenN ?_ | refine thenX ?_ | refine thenR ?_ | refine blockN ?_ | refine blockR ?_ | refine blockX ?_ | refine blockM rfl ?_
      have hw1 : IntKind.i64.wrap ((k1 : Int) + 1) = (k1 : Int) + 1 := by rw [wrap_i64] <;> omega
      simp [memF, h20] at hs1
      refine ⟨_, h12, hs1, ?_, ?_⟩
      · first | exact trivial | (simp; omega) | simp
      · simp [Weak, TW, hw1, encInts'_eq]
  · try simp at h12
    obtain rfl : k1 = (statesL k).length := by omega
    simp [memF] at hs1
    refine AWp.exit ?_
    repeat first | refine thenN ?_ | refine thenX ?_ | refine thenR ?_ | refine blockN ?_ | refine blockR ?_ | refine blockX ?_ | refine blockM rfl ?_
    -- region 7
    refine AWp.rseq E_ok [0, 1, 4, 5, 6, 12, 20] fun K hK => ?_
    simp [encInts'_eq, h12]
    repeat refine ⟨by first | omega | assumption | (simp only [maxLen]; omega) | (intros; omega) | decide, ?_⟩
    refine hK _ ?_
    clear hK K
    refine AWp.ret ?_
    repeat first | refine thenN ?_ | refine thenX ?_ | refine thenR ?_ | refine blockN ?_ | refine blockR ?_ | refine blockX ?_ | refine blockM rfl ?_
    rw [memF_eq] at hs1; simp [RetOk, RV, allowB]; simpa using hs1
end Go.Proofs.YtabmhpgbfjkkcaaDoor

set_option maxRecDepth 100000
set_option linter.unusedSimpArgs false
set_option linter.unusedVariables false
namespace Go.Proofs.YtabmhpgbfjkkcaaDoor
open Go Ab Pl
theorem ref30_fits (c : Custody) (m : Mv) : ACalls E.P 31 [encCus c, encMove m] (.d (.bool (fitB c m))) := by
  refine ACalls.intro E_ok Tryd.func31 rfl rfl Tryd.ntmps31 Tryd.results31 (Nat.le_of_ble_eq_true rfl) fun hok base S0 w0 => ?_
  -- region 0
  refine AWp.rseq E_ok [0, 1, 2, 3, 4, 6, 7, 15, 27, 34] fun K hK => ?_
  simp [encCus_eq, encMove_eq]
  repeat refine ⟨by first | omega | assumption | (simp only [maxLen]; omega) | (intros; omega) | decide, ?_⟩
  refine hK _ ?_
  clear hK K
  refine AWp.seq ?_
  -- region 1
  refine AWp.rseq E_ok [0, 1, 2, 3, 4, 6, 7, 15, 27, 34] fun K hK => ?_
  simp [encCus_eq, encMove_eq]
  repeat refine ⟨by first | omega | assumption | (simp only [maxLen]; omega) | (intros; omega) | decide, ?_⟩
  refine hK _ ?_
  clear hK K
  refine AWp.block ?_
  refine AWp.seq ?_
  -- region 2
  refine AWp.rseq E_ok [0, 1, 2, 3, 4, 6, 7, 15, 27, 34] fun K hK => ?_
  simp [encCus_eq, encMove_eq]
  repeat refine ⟨by first | omega | assumption | (simp only [maxLen]; omega) | (intros; omega) | decide, ?_⟩
  refine hK _ ?_
  clear hK K
  refine AWp.cond rfl (fun h7 => ?_) (fun h7 => ?_)
  · try simp at h7
    refine AWp.skip ?_
    repeat first | refine thenN ?_ | refine thenX ?_ | refine thenR ?_ | refine blockN ?_ | refine blockR ?_ | refine blockX ?_ | refine blockM rfl ?_
    refine AWp.cond rfl (fun hz => ?_) (fun hz => ?_)
    · clear hz
      -- region 6
      refine AWp.rseq E_ok [0, 1, 2, 3, 4, 6, 7, 15, 27, 34] fun K hK => ?_
      simp [encCus_eq, encMove_eq, h7]
      repeat refine ⟨by first | omega | assumption | (simp only [maxLen]; omega) | (intros; omega) | decide, ?_⟩
      refine hK _ ?_
      clear hK K
      refine AWp.ret ?_
      repeat first | refine thenN ?_ | refine thenX ?_ | refine thenR ?_ | refine blockN ?_ | refine blockR ?_ | refine blockX ?_ | refine blockM rfl ?_
      simp [RetOk, RV, fitB, *]
    · exact absurd hz (by simp [h7])
  · try simp at h7
    -- region 3
    refine AWp.rseq E_ok [0, 1, 2, 3, 4, 6, 7, 15, 27, 34] fun K hK => ?_
    simp [encCus_eq, encMove_eq, h7]
    repeat refine ⟨by first | omega | assumption | (simp only [maxLen]; omega) | (intros; omega) | decide, ?_⟩
    refine hK _ ?_
    clear hK K
    refine AWp.cond rfl (fun h7 => ?_) (fun h7 => ?_)
    · try simp at h7
      refine AWp.skip ?_
      repeat first | refine thenN ?_ | refine thenX ?_ | refine thenR ?_ | refine blockN ?_ | refine blockR ?_ | refine blockX ?_ | refine blockM rfl ?_
      refine AWp.cond rfl (fun hz => ?_) (fun hz => ?_)
      · clear hz
        -- region 6
        refine AWp.rseq E_ok [0, 1, 2, 3, 4, 6, 7, 15, 27, 34] fun K hK => ?_
        simp [encCus_eq, encMove_eq, h7, h7]
        repeat refine ⟨by first | omega | assumption | (simp only [maxLen]; omega) | (intros; omega) | decide, ?_⟩
        refine hK _ ?_
        clear hK K
        refine AWp.ret ?_
        repeat first | refine thenN ?_ | refine thenX ?_ | refine thenR ?_ | refine blockN ?_ | refine blockR ?_ | refine blockX ?_ | refine blockM rfl ?_
        simp [RetOk, RV, fitB, *]
      · exact absurd hz (by simp [h7])
    · try simp at h7
      -- region 4
      refine AWp.rseq E_ok [0, 1, 2, 3, 4, 6, 7, 15, 27, 34] fun K hK => ?_
      simp [encCus_eq, encMove_eq, h7, h7]
      repeat refine ⟨by first | omega | assumption | (simp only [maxLen]; omega) | (intros; omega) | decide, ?_⟩
      refine hK _ ?_
      clear hK K
      refine AWp.cond rfl (fun h7 => ?_) (fun h7 => ?_)
      · try simp at h7
        refine AWp.skip ?_
        repeat first | refine thenN ?_ | refine thenX ?_ | refine thenR ?_ | refine blockN ?_ | refine blockR ?_ | refine blockX ?_ | refine blockM rfl ?_
        refine AWp.cond rfl (fun hz => ?_) (fun hz => ?_)
        · clear hz
          -- region 6
          refine AWp.rseq E_ok [0, 1, 2, 3, 4, 6, 7, 15, 27, 34] fun K hK => ?_
          simp [encCus_eq, encMove_eq, h7, h7, h7]
          repeat refine ⟨by first | omega | assumption | (simp only [maxLen]; omega) | (intros; omega) | decide, ?_⟩
          refine hK _ ?_
          clear hK K
          refine AWp.ret ?_
          repeat first | refine thenN ?_ | refine thenX ?_ | refine thenR ?_ | refine blockN ?_ | refine blockR ?_ | refine blockX ?_ | refine blockM rfl ?_
          simp [RetOk, RV, fitB, *]
        · exact absurd hz (by simp [h7])
      · try simp at h7
        -- region 5
        refine AWp.rend E_ok [0, 1, 2, 3, 4, 6, 7, 15, 27, 34] fun K hK => ?_
        simp [encCus_eq, encMove_eq, h7, h7, h7]
        repeat refine ⟨by first | omega | assumption | (simp only [maxLen]; omega) | (intros; omega) | decide, ?_⟩
        refine hK _ ?_
        clear hK K
        repeat first | refine thenN ?_ | refine thenX ?_ | refine thenR ?_ | refine blockN ?_ | refine blockR ?_ | refine blockX ?_ | refine blockM rfl ?_
        refine AWp.cond rfl (fun h7 => ?_) (fun h7 => ?_)
        · try simp at h7
          -- region 6
          refine AWp.rseq E_ok [0, 1, 2, 3, 4, 6, 7, 15, 27, 34] fun K hK => ?_
          simp [encCus_eq, encMove_eq, h7, h7, h7, h7]
          repeat refine ⟨by first | omega | assumption | (simp only [maxLen]; omega) | (intros; omega) | decide, ?_⟩
          refine hK _ ?_
          clear hK K
          refine AWp.ret ?_
          repeat first | refine thenN ?_ | refine thenX ?_ | refine thenR ?_ | refine blockN ?_ | refine blockR ?_ | refine blockX ?_ | refine blockM rfl ?_
          simp [RetOk, RV, fitB, *]
        · try simp at h7
          -- region 7
          refine AWp.rseq E_ok [0, 1, 2, 3, 4, 6, 7, 15, 27, 34] fun K hK => ?_
          simp [encCus_eq, encMove_eq, h7, h7, h7, h7]
          repeat refine ⟨by first | omega | assumption | (simp only [maxLen]; omega) | (intros; omega) | decide, ?_⟩
          refine hK _ ?_
          clear hK K
          refine AWp.cond rfl (fun h15 => ?_) (fun h15 => ?_)
          · try simp at h15
            -- region 8
            refine AWp.rseq E_ok [0, 1, 2, 3, 4, 6, 7, 15, 27, 34] fun K hK => ?_
            simp [encCus_eq, encMove_eq, h7, h7, h7, h7, h15]
            repeat refine ⟨by first | omega | assumption | (simp only [maxLen]; omega) | (intros; omega) | decide, ?_⟩
            refine hK _ ?_
            clear hK K
            refine AWp.ret ?_
            repeat first | refine thenN ?_ | refine thenX ?_ | refine thenR ?_ | refine blockN ?_ | refine blockR ?_ | refine blockX ?_ | refine blockM rfl ?_
            simp [RetOk, RV, fitB, *]
          · try simp at h15
            -- region 9
            refine AWp.rseq E_ok [0, 1, 2, 3, 4, 6, 7, 15, 27, 34] fun K hK => ?_
            simp [encCus_eq, encMove_eq, h7, h7, h7, h7, h15]
            repeat refine ⟨by first | omega | assumption | (simp only [maxLen]; omega) | (intros; omega) | decide, ?_⟩
            refine hK _ ?_
            clear hK K
            refine AWp.cond rfl (fun h27 => ?_) (fun h27 => ?_)
            · try simp at h27
              -- region 10
              refine AWp.rseq E_ok [0, 1, 2, 3, 4, 6, 7, 15, 27, 34] fun K hK => ?_
              simp [encCus_eq, encMove_eq, h7, h7, h7, h7, h15, h27]
              repeat refine ⟨by first | omega | assumption | (simp only [maxLen]; omega) | (intros; omega) | decide, ?_⟩
              refine hK _ ?_
              clear hK K
              refine AWp.ret ?_
              repeat first | refine thenN ?_ | refine thenX ?_ | refine thenR ?_ | refine blockN ?_ | refine blockR ?_ | refine blockX ?_ | refine blockM rfl ?_
              simp [RetOk, RV, fitB, *]
            · try simp at h27
              refine AWp.seq ?_
              -- region 11
              refine AWp.rseq E_ok [0, 1, 2, 3, 4, 6, 7, 15, 27, 34] fun K hK => ?_
              simp [encCus_eq, encMove_eq, h7, h7, h7, h7, h15, h27]
              repeat refine ⟨by first | omega | assumption | (simp only [maxLen]; omega) | (intros; omega) | decide, ?_⟩
              refine hK _ ?_
              clear hK K
              refine AWp.cond rfl (fun h34 => ?_) (fun h34 => ?_)
              · try simp at h34
                refine AWp.skip ?_
                repeat first | refine thenN ?_ | refine thenX ?_ | refine thenR ?_ | refine blockN ?_ | refine blockR ?_ | refine blockX ?_ | refine blockM rfl ?_
                refine AWp.cond rfl (fun hz => ?_) (fun hz => ?_)
                · clear hz
                  -- region 14
                  refine AWp.rseq E_ok [0, 1, 2, 3, 4, 6, 7, 15, 27, 34] fun K hK => ?_
                  simp [encCus_eq, encMove_eq, h7, h7, h7, h7, h15, h27, h34]
                  repeat refine ⟨by first | omega | assumption | (simp only [maxLen]; omega) | (intros; omega) | decide, ?_⟩
                  refine hK _ ?_
                  clear hK K
                  refine AWp.ret ?_
                  repeat first | refine thenN ?_ | refine thenX ?_ | refine thenR ?_ | refine blockN ?_ | refine blockR ?_ | refine blockX ?_ | refine blockM rfl ?_
                  simp [RetOk, RV, fitB, *]
                · exact absurd hz (by simp [h34])
              · try simp at h34
                -- region 12
                refine AWp.rseq E_ok [0, 1, 2, 3, 4, 6, 7, 15, 27, 34] fun K hK => ?_
                simp [encCus_eq, encMove_eq, h7, h7, h7, h7, h15, h27, h34]
                repeat refine ⟨by first | omega | assumption | (simp only [maxLen]; omega) | (intros; omega) | decide, ?_⟩
                refine hK _ ?_
                clear hK K
                refine AWp.cond rfl (fun h34 => ?_) (fun h34 => ?_)
                · try simp at h34
                  refine AWp.skip ?_
                  repeat first | refine thenN ?_ | refine thenX ?_ | refine thenR ?_ | refine blockN ?_ | refine blockR ?_ | refine blockX ?_ | refine blockM rfl ?_
                  refine AWp.cond rfl (fun hz => ?_) (fun hz => ?_)
                  · clear hz
                    -- region 14
                    refine AWp.rseq E_ok [0, 1, 2, 3, 4, 6, 7, 15, 27, 34] fun K hK => ?_
                    simp [encCus_eq, encMove_eq, h7, h7, h7, h7, h15, h27, h34, h34]
                    repeat refine ⟨by first | omega | assumption | (simp only [maxLen]; omega) | (intros; omega) | decide, ?_⟩
                    refine hK _ ?_
                    clear hK K
                    refine AWp.ret ?_
                    repeat first | refine thenN ?_ | refine thenX ?_ | refine thenR ?_ | refine blockN ?_ | refine blockR ?_ | refine blockX ?_ | refine blockM rfl ?_
                    simp [RetOk, RV, fitB, *]
                  · exact absurd hz (by simp [h34])
                · try simp at h34
                  -- region 13
                  refine AWp.rend E_ok [0, 1, 2, 3, 4, 6, 7, 15, 27, 34] fun K hK => ?_
                  simp [encCus_eq, encMove_eq, h7, h7, h7, h7, h15, h27, h34, h34]
                  repeat refine ⟨by first | omega | assumption | (simp only [maxLen]; omega) | (intros; omega) | decide, ?_⟩
                  refine hK _ ?_
                  clear hK K
                  repeat first | refine thenN ?_ | refine thenX ?_ | refine thenR ?_ | refine blockN ?_ | refine blockR ?_ | refine blockX ?_ | refine blockM rfl ?_
                  refine AWp.cond rfl (fun h34 => ?_) (fun h34 => ?_)
                  · try simp at h34
                    -- region 14
                    refine AWp.rseq E_ok [0, 1, 2, 3, 4, 6, 7, 15, 27, 34] fun K hK => ?_
                    simp [encCus_eq, encMove_eq, h7, h7, h7, h7, h15, h27, h34, h34, h34]
                    repeat refine ⟨by first | omega | assumption | (simp only [maxLen]; omega) | (intros; omega) | decide, ?_⟩
                    refine hK _ ?_
                    clear hK K
                    refine AWp.ret ?_
                    repeat first | refine thenN ?_ | refine thenX ?_ | refine thenR ?_ | refine blockN ?_ | refine blockR ?_ | refine blockX ?_ | refine blockM rfl ?_
                    simp [RetOk, RV, fitB, *]
                  · try simp at h34
                    refine AWp.skip ?_
                    repeat first | refine thenN ?_ | refine thenX ?_ | refine thenR ?_ | refine blockN ?_ | refine blockR ?_ | refine blockX ?_ | refine blockM rfl ?_
                    -- region 15
                    refine AWp.rseq E_ok [0, 1, 2, 3, 4, 6, 7, 15, 27, 34] fun K hK => ?_
                    simp [encCus_eq, encMove_eq, h7, h7, h7, h7, h15, h27, h34, h34, h34]
                    repeat refine ⟨by first | omega | assumption | (simp only [maxLen]; omega) | (intros; omega) | decide, ?_⟩
                    refine hK _ ?_
                    clear hK K
                    refine AWp.ret ?_
                    repeat first | refine thenN ?_ | refine thenX ?_ | refine thenR ?_ | refine blockN ?_ | refine blockR ?_ | refine blockX ?_ | refine blockM rfl ?_
                    simp [RetOk, RV, fitB, *]
end Go.Proofs.YtabmhpgbfjkkcaaDoor

set_option maxRecDepth 100000
set_option linter.unusedSimpArgs false
set_option linter.unusedVariables false
namespace Go.Proofs.YtabmhpgbfjkkcaaDoor
open Go Ab Pl
theorem ref30_after (k : Int) : ACalls E.P 32 [.int .i64 k] (.d (.int .i64 (aftR k))) := by
  refine ACalls.intro E_ok Tryd.func32 rfl rfl Tryd.ntmps32 Tryd.results32 (Nat.le_of_ble_eq_true rfl) fun hok base S0 w0 => ?_
  -- region 0
  refine AWp.rseq E_ok [0, 2, 3, 4, 10, 12, 14, 16, 18, 20, 22, 24, 26] fun K hK => ?_
  simp
  repeat refine ⟨by first | omega | assumption | (simp only [maxLen]; omega) | (intros; omega) | decide, ?_⟩
  refine hK _ ?_
  clear hK K
  refine AWp.seq ?_
  -- region 1
  refine AWp.rseq E_ok [0, 2, 3, 4, 10, 12, 14, 16, 18, 20, 22, 24, 26] fun K hK => ?_
  simp
  repeat refine ⟨by first | omega | assumption | (simp only [maxLen]; omega) | (intros; omega) | decide, ?_⟩
  refine hK _ ?_
  clear hK K
  refine AWp.block ?_
  refine AWp.seq ?_
  -- region 2
  refine AWp.rseq E_ok [0, 2, 3, 4, 10, 12, 14, 16, 18, 20, 22, 24, 26] fun K hK => ?_
  simp
  repeat refine ⟨by first | omega | assumption | (simp only [maxLen]; omega) | (intros; omega) | decide, ?_⟩
  refine hK _ ?_
  clear hK K
  refine AWp.cond rfl (fun h4 => ?_) (fun h4 => ?_)
  · try simp at h4
    refine AWp.skip ?_
    repeat first | refine thenN ?_ | refine thenX ?_ | refine thenR ?_ | refine blockN ?_ | refine blockR ?_ | refine blockX ?_ | refine blockM rfl ?_
    refine AWp.cond rfl (fun hz => ?_) (fun hz => ?_)
    · clear hz
      -- region 7
      refine AWp.rseq E_ok [0, 2, 3, 4, 10, 12, 14, 16, 18, 20, 22, 24, 26] fun K hK => ?_
      simp [h4]
      repeat refine ⟨by first | omega | assumption | (simp only [maxLen]; omega) | (intros; omega) | decide, ?_⟩
      refine hK _ ?_
      clear hK K
      refine AWp.ret ?_
      repeat first | refine thenN ?_ | refine thenX ?_ | refine thenR ?_ | refine blockN ?_ | refine blockR ?_ | refine blockX ?_ | refine blockM rfl ?_
      simp [RetOk, RV, aftR, *]
    · exact absurd hz (by simp [h4])
  · try simp at h4
    -- region 3
    refine AWp.rseq E_ok [0, 2, 3, 4, 10, 12, 14, 16, 18, 20, 22, 24, 26] fun K hK => ?_
    simp [h4]
    repeat refine ⟨by first | omega | assumption | (simp only [maxLen]; omega) | (intros; omega) | decide, ?_⟩
    refine hK _ ?_
    clear hK K
    refine AWp.cond rfl (fun h4 => ?_) (fun h4 => ?_)
    · try simp at h4
      refine AWp.skip ?_
      repeat first | refine thenN ?_ | refine thenX ?_ | refine thenR ?_ | refine blockN ?_ | refine blockR ?_ | refine blockX ?_ | refine blockM rfl ?_
      refine AWp.cond rfl (fun hz => ?_) (fun hz => ?_)
      · clear hz
        -- region 7
        refine AWp.rseq E_ok [0, 2, 3, 4, 10, 12, 14, 16, 18, 20, 22, 24, 26] fun K hK => ?_
        simp [h4, h4]
        repeat refine ⟨by first | omega | assumption | (simp only [maxLen]; omega) | (intros; omega) | decide, ?_⟩
        refine hK _ ?_
        clear hK K
        refine AWp.ret ?_
        repeat first | refine thenN ?_ | refine thenX ?_ | refine thenR ?_ | refine blockN ?_ | refine blockR ?_ | refine blockX ?_ | refine blockM rfl ?_
        simp [RetOk, RV, aftR, *]
      · exact absurd hz (by simp [h4])
    · try simp at h4
      -- region 4
      refine AWp.rseq E_ok [0, 2, 3, 4, 10, 12, 14, 16, 18, 20, 22, 24, 26] fun K hK => ?_
      simp [h4, h4]
      repeat refine ⟨by first | omega | assumption | (simp only [maxLen]; omega) | (intros; omega) | decide, ?_⟩
      refine hK _ ?_
      clear hK K
      refine AWp.cond rfl (fun h4 => ?_) (fun h4 => ?_)
      · try simp at h4
        refine AWp.skip ?_
        repeat first | refine thenN ?_ | refine thenX ?_ | refine thenR ?_ | refine blockN ?_ | refine blockR ?_ | refine blockX ?_ | refine blockM rfl ?_
        refine AWp.cond rfl (fun hz => ?_) (fun hz => ?_)
        · clear hz
          -- region 7
          refine AWp.rseq E_ok [0, 2, 3, 4, 10, 12, 14, 16, 18, 20, 22, 24, 26] fun K hK => ?_
          simp [h4, h4, h4]
          repeat refine ⟨by first | omega | assumption | (simp only [maxLen]; omega) | (intros; omega) | decide, ?_⟩
          refine hK _ ?_
          clear hK K
          refine AWp.ret ?_
          repeat first | refine thenN ?_ | refine thenX ?_ | refine thenR ?_ | refine blockN ?_ | refine blockR ?_ | refine blockX ?_ | refine blockM rfl ?_
          simp [RetOk, RV, aftR, *]
        · exact absurd hz (by simp [h4])
      · try simp at h4
        -- region 5
        refine AWp.rseq E_ok [0, 2, 3, 4, 10, 12, 14, 16, 18, 20, 22, 24, 26] fun K hK => ?_
        simp [h4, h4, h4]
        repeat refine ⟨by first | omega | assumption | (simp only [maxLen]; omega) | (intros; omega) | decide, ?_⟩
        refine hK _ ?_
        clear hK K
        refine AWp.cond rfl (fun h4 => ?_) (fun h4 => ?_)
        · try simp at h4
          refine AWp.skip ?_
          repeat first | refine thenN ?_ | refine thenX ?_ | refine thenR ?_ | refine blockN ?_ | refine blockR ?_ | refine blockX ?_ | refine blockM rfl ?_
          refine AWp.cond rfl (fun hz => ?_) (fun hz => ?_)
          · clear hz
            -- region 7
            refine AWp.rseq E_ok [0, 2, 3, 4, 10, 12, 14, 16, 18, 20, 22, 24, 26] fun K hK => ?_
            simp [h4, h4, h4, h4]
            repeat refine ⟨by first | omega | assumption | (simp only [maxLen]; omega) | (intros; omega) | decide, ?_⟩
            refine hK _ ?_
            clear hK K
            refine AWp.ret ?_
            repeat first | refine thenN ?_ | refine thenX ?_ | refine thenR ?_ | refine blockN ?_ | refine blockR ?_ | refine blockX ?_ | refine blockM rfl ?_
            simp [RetOk, RV, aftR, *]
          · exact absurd hz (by simp [h4])
        · try simp at h4
          -- region 6
          refine AWp.rend E_ok [0, 2, 3, 4, 10, 12, 14, 16, 18, 20, 22, 24, 26] fun K hK => ?_
          simp [h4, h4, h4, h4]
          repeat refine ⟨by first | omega | assumption | (simp only [maxLen]; omega) | (intros; omega) | decide, ?_⟩
          refine hK _ ?_
          clear hK K
          repeat first | refine thenN ?_ | refine thenX ?_ | refine thenR ?_ | refine blockN ?_ | refine blockR ?_ | refine blockX ?_ | refine blockM rfl ?_
          refine AWp.cond rfl (fun h4 => ?_) (fun h4 => ?_)
          · try simp at h4
            -- region 7
            refine AWp.rseq E_ok [0, 2, 3, 4, 10, 12, 14, 16, 18, 20, 22, 24, 26] fun K hK => ?_
            simp [h4, h4, h4, h4, h4]
            repeat refine ⟨by first | omega | assumption | (simp only [maxLen]; omega) | (intros; omega) | decide, ?_⟩
            refine hK _ ?_
            clear hK K
            refine AWp.ret ?_
            repeat first | refine thenN ?_ | refine thenX ?_ | refine thenR ?_ | refine blockN ?_ | refine blockR ?_ | refine blockX ?_ | refine blockM rfl ?_
            simp [RetOk, RV, aftR, *]
          · try simp at h4
            -- region 8
            refine AWp.rseq E_ok [0, 2, 3, 4, 10, 12, 14, 16, 18, 20, 22, 24, 26] fun K hK => ?_
            simp [h4, h4, h4, h4, h4]
            repeat refine ⟨by first | omega | assumption | (simp only [maxLen]; omega) | (intros; omega) | decide, ?_⟩
            refine hK _ ?_
            clear hK K
            refine AWp.cond rfl (fun h10 => ?_) (fun h10 => ?_)
            · try simp at h10
              -- region 9
              refine AWp.rseq E_ok [0, 2, 3, 4, 10, 12, 14, 16, 18, 20, 22, 24, 26] fun K hK => ?_
              simp [h4, h4, h4, h4, h4, h10]
              repeat refine ⟨by first | omega | assumption | (simp only [maxLen]; omega) | (intros; omega) | decide, ?_⟩
              refine hK _ ?_
              clear hK K
              refine AWp.ret ?_
              repeat first | refine thenN ?_ | refine thenX ?_ | refine thenR ?_ | refine blockN ?_ | refine blockR ?_ | refine blockX ?_ | refine blockM rfl ?_
              simp [RetOk, RV, aftR, *]
            · try simp at h10
              -- region 10
              refine AWp.rseq E_ok [0, 2, 3, 4, 10, 12, 14, 16, 18, 20, 22, 24, 26] fun K hK => ?_
              simp [h4, h4, h4, h4, h4, h10]
              repeat refine ⟨by first | omega | assumption | (simp only [maxLen]; omega) | (intros; omega) | decide, ?_⟩
              refine hK _ ?_
              clear hK K
              refine AWp.cond rfl (fun h12 => ?_) (fun h12 => ?_)
              · try simp at h12
                -- region 11
                refine AWp.rseq E_ok [0, 2, 3, 4, 10, 12, 14, 16, 18, 20, 22, 24, 26] fun K hK => ?_
                simp [h4, h4, h4, h4, h4, h10, h12]
                repeat refine ⟨by first | omega | assumption | (simp only [maxLen]; omega) | (intros; omega) | decide, ?_⟩
                refine hK _ ?_
                clear hK K
                refine AWp.ret ?_
                repeat first | refine thenN ?_ | refine thenX ?_ | refine thenR ?_ | refine blockN ?_ | refine blockR ?_ | refine blockX ?_ | refine blockM rfl ?_
                simp [RetOk, RV, aftR, *]
              · try simp at h12
                -- region 12
                refine AWp.rseq E_ok [0, 2, 3, 4, 10, 12, 14, 16, 18, 20, 22, 24, 26] fun K hK => ?_
                simp [h4, h4, h4, h4, h4, h10, h12]
                repeat refine ⟨by first | omega | assumption | (simp only [maxLen]; omega) | (intros; omega) | decide, ?_⟩
                refine hK _ ?_
                clear hK K
                refine AWp.cond rfl (fun h14 => ?_) (fun h14 => ?_)
                · try simp at h14
                  -- region 13
                  refine AWp.rseq E_ok [0, 2, 3, 4, 10, 12, 14, 16, 18, 20, 22, 24, 26] fun K hK => ?_
                  simp [h4, h4, h4, h4, h4, h10, h12, h14]
                  repeat refine ⟨by first | omega | assumption | (simp only [maxLen]; omega) | (intros; omega) | decide, ?_⟩
                  refine hK _ ?_
                  clear hK K
                  refine AWp.ret ?_
                  repeat first | refine thenN ?_ | refine thenX ?_ | refine thenR ?_ | refine blockN ?_ | refine blockR ?_ | refine blockX ?_ | refine blockM rfl ?_
                  simp [RetOk, RV, aftR, *]
                · try simp at h14
                  -- region 14
                  refine AWp.rseq E_ok [0, 2, 3, 4, 10, 12, 14, 16, 18, 20, 22, 24, 26] fun K hK => ?_
                  simp [h4, h4, h4, h4, h4, h10, h12, h14]
                  repeat refine ⟨by first | omega | assumption | (simp only [maxLen]; omega) | (intros; omega) | decide, ?_⟩
                  refine hK _ ?_
                  clear hK K
                  refine AWp.cond rfl (fun h16 => ?_) (fun h16 => ?_)
                  · try simp at h16
                    -- region 15
                    refine AWp.rseq E_ok [0, 2, 3, 4, 10, 12, 14, 16, 18, 20, 22, 24, 26] fun K hK => ?_
                    simp [h4, h4, h4, h4, h4, h10, h12, h14, h16]
                    repeat refine ⟨by first | omega | assumption | (simp only [maxLen]; omega) | (intros; omega) | decide, ?_⟩
                    refine hK _ ?_
                    clear hK K
                    refine AWp.ret ?_
                    repeat first | refine thenN ?_ | refine thenX ?_ | refine thenR ?_ | refine blockN ?_ | refine blockR ?_ | refine blockX ?_ | refine blockM rfl ?_
                    simp [RetOk, RV, aftR, *]
                  · try simp at h16
                    -- region 16
                    refine AWp.rseq E_ok [0, 2, 3, 4, 10, 12, 14, 16, 18, 20, 22, 24, 26] fun K hK => ?_
                    simp [h4, h4, h4, h4, h4, h10, h12, h14, h16]
                    repeat refine ⟨by first | omega | assumption | (simp only [maxLen]; omega) | (intros; omega) | decide, ?_⟩
                    refine hK _ ?_
                    clear hK K
                    refine AWp.cond rfl (fun h18 => ?_) (fun h18 => ?_)
                    · try simp at h18
                      -- region 17
                      refine AWp.rseq E_ok [0, 2, 3, 4, 10, 12, 14, 16, 18, 20, 22, 24, 26] fun K hK => ?_
                      simp [h4, h4, h4, h4, h4, h10, h12, h14, h16, h18]
                      repeat refine ⟨by first | omega | assumption | (simp only [maxLen]; omega) | (intros; omega) | decide, ?_⟩
                      refine hK _ ?_
                      clear hK K
                      refine AWp.ret ?_
                      repeat first | refine thenN ?_ | refine thenX ?_ | refine thenR ?_ | refine blockN ?_ | refine blockR ?_ | refine blockX ?_ | refine blockM rfl ?_
                      simp [RetOk, RV, aftR, *]
                    · try simp at h18
                      -- region 18
                      refine AWp.rseq E_ok [0, 2, 3, 4, 10, 12, 14, 16, 18, 20, 22, 24, 26] fun K hK => ?_
                      simp [h4, h4, h4, h4, h4, h10, h12, h14, h16, h18]
                      repeat refine ⟨by first | omega | assumption | (simp only [maxLen]; omega) | (intros; omega) | decide, ?_⟩
                      refine hK _ ?_
                      clear hK K
                      refine AWp.cond rfl (fun h20 => ?_) (fun h20 => ?_)
                      · try simp at h20
                        -- region 19
                        refine AWp.rseq E_ok [0, 2, 3, 4, 10, 12, 14, 16, 18, 20, 22, 24, 26] fun K hK => ?_
                        simp [h4, h4, h4, h4, h4, h10, h12, h14, h16, h18, h20]
                        repeat refine ⟨by first | omega | assumption | (simp only [maxLen]; omega) | (intros; omega) | decide, ?_⟩
                        refine hK _ ?_
                        clear hK K
                        refine AWp.ret ?_
                        repeat first | refine thenN ?_ | refine thenX ?_ | refine thenR ?_ | refine blockN ?_ | refine blockR ?_ | refine blockX ?_ | refine blockM rfl ?_
                        simp [RetOk, RV, aftR, *]
                      · try simp at h20
                        -- region 20
                        refine AWp.rseq E_ok [0, 2, 3, 4, 10, 12, 14, 16, 18, 20, 22, 24, 26] fun K hK => ?_
                        simp [h4, h4, h4, h4, h4, h10, h12, h14, h16, h18, h20]
                        repeat refine ⟨by first | omega | assumption | (simp only [maxLen]; omega) | (intros; omega) | decide, ?_⟩
                        refine hK _ ?_
                        clear hK K
                        refine AWp.cond rfl (fun h22 => ?_) (fun h22 => ?_)
                        · try simp at h22
                          -- region 21
                          refine AWp.rseq E_ok [0, 2, 3, 4, 10, 12, 14, 16, 18, 20, 22, 24, 26] fun K hK => ?_
                          simp [h4, h4, h4, h4, h4, h10, h12, h14, h16, h18, h20, h22]
                          repeat refine ⟨by first | omega | assumption | (simp only [maxLen]; omega) | (intros; omega) | decide, ?_⟩
                          refine hK _ ?_
                          clear hK K
                          refine AWp.ret ?_
                          repeat first | refine thenN ?_ | refine thenX ?_ | refine thenR ?_ | refine blockN ?_ | refine blockR ?_ | refine blockX ?_ | refine blockM rfl ?_
                          simp [RetOk, RV, aftR, *]
                        · try simp at h22
                          -- region 22
                          refine AWp.rseq E_ok [0, 2, 3, 4, 10, 12, 14, 16, 18, 20, 22, 24, 26] fun K hK => ?_
                          simp [h4, h4, h4, h4, h4, h10, h12, h14, h16, h18, h20, h22]
                          repeat refine ⟨by first | omega | assumption | (simp only [maxLen]; omega) | (intros; omega) | decide, ?_⟩
                          refine hK _ ?_
                          clear hK K
                          refine AWp.cond rfl (fun h24 => ?_) (fun h24 => ?_)
                          · try simp at h24
                            -- region 23
                            refine AWp.rseq E_ok [0, 2, 3, 4, 10, 12, 14, 16, 18, 20, 22, 24, 26] fun K hK => ?_
                            simp [h4, h4, h4, h4, h4, h10, h12, h14, h16, h18, h20, h22, h24]
                            repeat refine ⟨by first | omega | assumption | (simp only [maxLen]; omega) | (intros; omega) | decide, ?_⟩
                            refine hK _ ?_
                            clear hK K
                            refine AWp.ret ?_
                            repeat first | refine thenN ?_ | refine thenX ?_ | refine thenR ?_ | refine blockN ?_ | refine blockR ?_ | refine blockX ?_ | refine blockM rfl ?_
                            simp [RetOk, RV, aftR, *]
                          · try simp at h24
                            -- region 24
                            refine AWp.rseq E_ok [0, 2, 3, 4, 10, 12, 14, 16, 18, 20, 22, 24, 26] fun K hK => ?_
                            simp [h4, h4, h4, h4, h4, h10, h12, h14, h16, h18, h20, h22, h24]
                            repeat refine ⟨by first | omega | assumption | (simp only [maxLen]; omega) | (intros; omega) | decide, ?_⟩
                            refine hK _ ?_
                            clear hK K
                            refine AWp.cond rfl (fun h26 => ?_) (fun h26 => ?_)
                            · try simp at h26
                              -- region 25
                              refine AWp.rseq E_ok [0, 2, 3, 4, 10, 12, 14, 16, 18, 20, 22, 24, 26] fun K hK => ?_
                              simp [h4, h4, h4, h4, h4, h10, h12, h14, h16, h18, h20, h22, h24, h26]
                              repeat refine ⟨by first | omega | assumption | (simp only [maxLen]; omega) | (intros; omega) | decide, ?_⟩
                              refine hK _ ?_
                              clear hK K
                              refine AWp.ret ?_
                              repeat first | refine thenN ?_ | refine thenX ?_ | refine thenR ?_ | refine blockN ?_ | refine blockR ?_ | refine blockX ?_ | refine blockM rfl ?_
                              simp [RetOk, RV, aftR, *]
                            · try simp at h26
                              refine AWp.skip ?_
                              repeat first | refine thenN ?_ | refine thenX ?_ | refine thenR ?_ | refine blockN ?_ | refine blockR ?_ | refine blockX ?_ | refine blockM rfl ?_
                              -- region 26
                              refine AWp.rseq E_ok [0, 2, 3, 4, 10, 12, 14, 16, 18, 20, 22, 24, 26] fun K hK => ?_
                              simp [h4, h4, h4, h4, h4, h10, h12, h14, h16, h18, h20, h22, h24, h26]
                              repeat refine ⟨by first | omega | assumption | (simp only [maxLen]; omega) | (intros; omega) | decide, ?_⟩
                              refine hK _ ?_
                              clear hK K
                              refine AWp.ret ?_
                              repeat first | refine thenN ?_ | refine thenX ?_ | refine thenR ?_ | refine blockN ?_ | refine blockR ?_ | refine blockX ?_ | refine blockM rfl ?_
                              simp [RetOk, RV, aftR, *]
end Go.Proofs.YtabmhpgbfjkkcaaDoor
