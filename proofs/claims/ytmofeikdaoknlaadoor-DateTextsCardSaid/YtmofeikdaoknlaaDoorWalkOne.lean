/-
  What the functions compute that the statement reaches: contracts, and the plain laws between them. Conditions stand at each theorem.
-/
import Derived.Test.YtmofeikdaoknlaaDoorEngTwo
import Derived.Test.YtmofeikdaoknlaaDoorChecked
import Derived.Lib.ItoaLen
import Derived.Lib.Atoi
import Derived.Lib.Repeat
import Derived.Shelf.Strings.Builder1
import Derived.Shelf.Strings.Builder2
import Derived.Shelf.Strings.BuilderF
import Derived.Shelf.Strconv.Atoi
import Derived.Shelf.Strconv.Itoa0
import Derived.Shelf.Strconv.Itoa1
import Derived.Shelf.LaysM
import Derived.Shelf.Strconv.Itoa2
import Derived.Shelf.Strconv.Itoa3
import Derived.Shelf.Strings.Prefix
import Derived.Shelf.Bits.Mul64
import Derived.Shelf.Strings.Repeat
import Derived.Test.YtmofeikdaoknlaaDoorProg
set_option linter.unusedVariables false
set_option linter.unusedSimpArgs false
/- The types of this seat, as the layer reads them. -/
set_option maxRecDepth 100000
namespace Go.Proofs.YtmofeikdaoknlaaDoor
open Go Ab

abbrev ti2 : TI := { key := .int .i64, size := 1, bytes := 8, zero := .int .i64 0, zc := [.int .i64 0], eq := [] }
abbrev ti3 : TI := { key := .int .i64, size := 1, bytes := 8, zero := .int .i64 0, zc := [.int .i64 0], eq := [] }
abbrev ti4 : TI := { key := .bool, size := 1, bytes := 1, zero := .bool false, zc := [.bool false], eq := [] }
abbrev ti5 : TI := { key := .int .u8, size := 1, bytes := 1, zero := .int .u8 0, zc := [.int .u8 0], eq := [] }
abbrev ti9 : TI := { key := .string, size := 1, bytes := 16, zero := .string ⟨#[]⟩, zc := [.str []], eq := [] }
abbrev ti12 : TI := { key := .int .u64, size := 1, bytes := 8, zero := .int .u64 0, zc := [.int .u64 0], eq := [] }
abbrev ti15 : TI := { key := .other, size := 1, bytes := 8, zero := .pointer none, zc := [.lit (.pointer none)], eq := [] }
abbrev ti16 : TI := { key := .other, size := 1, bytes := 8, zero := .pointer none, zc := [.lit (.pointer none)], eq := [] }
abbrev ti17 : TI := { key := .other, size := 1, bytes := 8, zero := .pointer none, zc := [.lit (.pointer none)], eq := [] }
abbrev ti21 : TI := { key := .int .i32, size := 1, bytes := 4, zero := .int .i32 0, zc := [.int .i32 0], eq := [] }
abbrev ti22 : TI := { key := .int .i64, size := 1, bytes := 8, zero := .int .i64 0, zc := [.int .i64 0], eq := [] }
abbrev ti37 : TI := { key := .array 12 3, size := 12, bytes := 96, zero := .agg #[.int .i64 0, .int .i64 0, .int .i64 0, .int .i64 0, .int .i64 0, .int .i64 0, .int .i64 0, .int .i64 0, .int .i64 0, .int .i64 0, .int .i64 0, .int .i64 0], zc := [.int .i64 0, .int .i64 0, .int .i64 0, .int .i64 0, .int .i64 0, .int .i64 0, .int .i64 0, .int .i64 0, .int .i64 0, .int .i64 0, .int .i64 0, .int .i64 0], eq := [] }
abbrev ti38 : TI := { key := .slice 3, size := 1, bytes := 24, zero := .slice none 0 0, zc := [.slice (.int .i64 0) []], eq := [] }
abbrev ti42 : TI := { key := .slice 5, size := 1, bytes := 24, zero := .slice none 0 0, zc := [.slice (.int .u8 0) []], eq := [] }
abbrev ti49 : TI := { key := .int .u64, size := 1, bytes := 8, zero := .int .u64 0, zc := [.int .u64 0], eq := [] }
abbrev ti53 : TI := { key := .other, size := 1, bytes := 8, zero := .pointer none, zc := [.lit (.pointer none)], eq := [] }
abbrev ti54 : TI := { key := .struct [(0, 53), (1, 42)], size := 2, bytes := 32, zero := .agg #[.pointer none, .slice none 0 0], zc := [.lit (.pointer none), .slice (.int .u8 0) []], eq := [] }
abbrev ti55 : TI := { key := .struct [(0, 53), (1, 42)], size := 2, bytes := 32, zero := .agg #[.pointer none, .slice none 0 0], zc := [.lit (.pointer none), .slice (.int .u8 0) []], eq := [] }
abbrev ti62 : TI := { key := .other, size := 1, bytes := 8, zero := .pointer none, zc := [.lit (.pointer none)], eq := [] }
abbrev ti66 : TI := { key := .int .u32, size := 1, bytes := 4, zero := .int .u32 0, zc := [.int .u32 0], eq := [] }
abbrev ti69 : TI := { key := .int .u64, size := 1, bytes := 8, zero := .int .u64 0, zc := [.int .u64 0], eq := [] }
abbrev ti72 : TI := { key := .other, size := 1, bytes := 8, zero := .pointer none, zc := [.lit (.pointer none)], eq := [] }
abbrev ti76 : TI := { key := .struct [(0, 9), (1, 9), (2, 44)], size := 3, bytes := 48, zero := .agg #[.string ⟨#[]⟩, .string ⟨#[]⟩, .nilIface], zc := [.str [], .str [], .lit (.nilIface)], eq := [] }
abbrev ti77 : TI := { key := .struct [(0, 9), (1, 9), (2, 44)], size := 3, bytes := 48, zero := .agg #[.string ⟨#[]⟩, .string ⟨#[]⟩, .nilIface], zc := [.str [], .str [], .lit (.nilIface)], eq := [] }
abbrev ti79 : TI := { key := .array 24 5, size := 24, bytes := 24, zero := .agg #[.int .u8 0, .int .u8 0, .int .u8 0, .int .u8 0, .int .u8 0, .int .u8 0, .int .u8 0, .int .u8 0, .int .u8 0, .int .u8 0, .int .u8 0, .int .u8 0, .int .u8 0, .int .u8 0, .int .u8 0, .int .u8 0, .int .u8 0, .int .u8 0, .int .u8 0, .int .u8 0, .int .u8 0, .int .u8 0, .int .u8 0, .int .u8 0], zc := [.int .u8 0, .int .u8 0, .int .u8 0, .int .u8 0, .int .u8 0, .int .u8 0, .int .u8 0, .int .u8 0, .int .u8 0, .int .u8 0, .int .u8 0, .int .u8 0, .int .u8 0, .int .u8 0, .int .u8 0, .int .u8 0, .int .u8 0, .int .u8 0, .int .u8 0, .int .u8 0, .int .u8 0, .int .u8 0, .int .u8 0, .int .u8 0], eq := [] }
abbrev ti89 : TI := { key := .other, size := 1, bytes := 8, zero := .pointer none, zc := [.lit (.pointer none)], eq := [] }
abbrev ti90 : TI := { key := .struct [(0, 9)], size := 1, bytes := 16, zero := .agg #[.string ⟨#[]⟩], zc := [.str []], eq := [2] }
abbrev ti91 : TI := { key := .struct [(0, 9)], size := 1, bytes := 16, zero := .agg #[.string ⟨#[]⟩], zc := [.str []], eq := [2] }
abbrev ti93 : TI := { key := .array 20 69, size := 20, bytes := 160, zero := .agg #[.int .u64 0, .int .u64 0, .int .u64 0, .int .u64 0, .int .u64 0, .int .u64 0, .int .u64 0, .int .u64 0, .int .u64 0, .int .u64 0, .int .u64 0, .int .u64 0, .int .u64 0, .int .u64 0, .int .u64 0, .int .u64 0, .int .u64 0, .int .u64 0, .int .u64 0, .int .u64 0], zc := [.int .u64 0, .int .u64 0, .int .u64 0, .int .u64 0, .int .u64 0, .int .u64 0, .int .u64 0, .int .u64 0, .int .u64 0, .int .u64 0, .int .u64 0, .int .u64 0, .int .u64 0, .int .u64 0, .int .u64 0, .int .u64 0, .int .u64 0, .int .u64 0, .int .u64 0, .int .u64 0], eq := [] }
abbrev ti94 : TI := { key := .array 65 5, size := 65, bytes := 65, zero := .agg #[.int .u8 0, .int .u8 0, .int .u8 0, .int .u8 0, .int .u8 0, .int .u8 0, .int .u8 0, .int .u8 0, .int .u8 0, .int .u8 0, .int .u8 0, .int .u8 0, .int .u8 0, .int .u8 0, .int .u8 0, .int .u8 0, .int .u8 0, .int .u8 0, .int .u8 0, .int .u8 0, .int .u8 0, .int .u8 0, .int .u8 0, .int .u8 0, .int .u8 0, .int .u8 0, .int .u8 0, .int .u8 0, .int .u8 0, .int .u8 0, .int .u8 0, .int .u8 0, .int .u8 0, .int .u8 0, .int .u8 0, .int .u8 0, .int .u8 0, .int .u8 0, .int .u8 0, .int .u8 0, .int .u8 0, .int .u8 0, .int .u8 0, .int .u8 0, .int .u8 0, .int .u8 0, .int .u8 0, .int .u8 0, .int .u8 0, .int .u8 0, .int .u8 0, .int .u8 0, .int .u8 0, .int .u8 0, .int .u8 0, .int .u8 0, .int .u8 0, .int .u8 0, .int .u8 0, .int .u8 0, .int .u8 0, .int .u8 0, .int .u8 0, .int .u8 0, .int .u8 0], zc := [.int .u8 0, .int .u8 0, .int .u8 0, .int .u8 0, .int .u8 0, .int .u8 0, .int .u8 0, .int .u8 0, .int .u8 0, .int .u8 0, .int .u8 0, .int .u8 0, .int .u8 0, .int .u8 0, .int .u8 0, .int .u8 0, .int .u8 0, .int .u8 0, .int .u8 0, .int .u8 0, .int .u8 0, .int .u8 0, .int .u8 0, .int .u8 0, .int .u8 0, .int .u8 0, .int .u8 0, .int .u8 0, .int .u8 0, .int .u8 0, .int .u8 0, .int .u8 0, .int .u8 0, .int .u8 0, .int .u8 0, .int .u8 0, .int .u8 0, .int .u8 0, .int .u8 0, .int .u8 0, .int .u8 0, .int .u8 0, .int .u8 0, .int .u8 0, .int .u8 0, .int .u8 0, .int .u8 0, .int .u8 0, .int .u8 0, .int .u8 0, .int .u8 0, .int .u8 0, .int .u8 0, .int .u8 0, .int .u8 0, .int .u8 0, .int .u8 0, .int .u8 0, .int .u8 0, .int .u8 0, .int .u8 0, .int .u8 0, .int .u8 0, .int .u8 0, .int .u8 0], eq := [] }
abbrev ti97 : TI := { key := .array 32 5, size := 32, bytes := 32, zero := .agg #[.int .u8 0, .int .u8 0, .int .u8 0, .int .u8 0, .int .u8 0, .int .u8 0, .int .u8 0, .int .u8 0, .int .u8 0, .int .u8 0, .int .u8 0, .int .u8 0, .int .u8 0, .int .u8 0, .int .u8 0, .int .u8 0, .int .u8 0, .int .u8 0, .int .u8 0, .int .u8 0, .int .u8 0, .int .u8 0, .int .u8 0, .int .u8 0, .int .u8 0, .int .u8 0, .int .u8 0, .int .u8 0, .int .u8 0, .int .u8 0, .int .u8 0, .int .u8 0], zc := [.int .u8 0, .int .u8 0, .int .u8 0, .int .u8 0, .int .u8 0, .int .u8 0, .int .u8 0, .int .u8 0, .int .u8 0, .int .u8 0, .int .u8 0, .int .u8 0, .int .u8 0, .int .u8 0, .int .u8 0, .int .u8 0, .int .u8 0, .int .u8 0, .int .u8 0, .int .u8 0, .int .u8 0, .int .u8 0, .int .u8 0, .int .u8 0, .int .u8 0, .int .u8 0, .int .u8 0, .int .u8 0, .int .u8 0, .int .u8 0, .int .u8 0, .int .u8 0], eq := [] }
abbrev ti98 : TI := { key := .array 64 5, size := 64, bytes := 64, zero := .agg #[.int .u8 0, .int .u8 0, .int .u8 0, .int .u8 0, .int .u8 0, .int .u8 0, .int .u8 0, .int .u8 0, .int .u8 0, .int .u8 0, .int .u8 0, .int .u8 0, .int .u8 0, .int .u8 0, .int .u8 0, .int .u8 0, .int .u8 0, .int .u8 0, .int .u8 0, .int .u8 0, .int .u8 0, .int .u8 0, .int .u8 0, .int .u8 0, .int .u8 0, .int .u8 0, .int .u8 0, .int .u8 0, .int .u8 0, .int .u8 0, .int .u8 0, .int .u8 0, .int .u8 0, .int .u8 0, .int .u8 0, .int .u8 0, .int .u8 0, .int .u8 0, .int .u8 0, .int .u8 0, .int .u8 0, .int .u8 0, .int .u8 0, .int .u8 0, .int .u8 0, .int .u8 0, .int .u8 0, .int .u8 0, .int .u8 0, .int .u8 0, .int .u8 0, .int .u8 0, .int .u8 0, .int .u8 0, .int .u8 0, .int .u8 0, .int .u8 0, .int .u8 0, .int .u8 0, .int .u8 0, .int .u8 0, .int .u8 0, .int .u8 0, .int .u8 0], zc := [.int .u8 0, .int .u8 0, .int .u8 0, .int .u8 0, .int .u8 0, .int .u8 0, .int .u8 0, .int .u8 0, .int .u8 0, .int .u8 0, .int .u8 0, .int .u8 0, .int .u8 0, .int .u8 0, .int .u8 0, .int .u8 0, .int .u8 0, .int .u8 0, .int .u8 0, .int .u8 0, .int .u8 0, .int .u8 0, .int .u8 0, .int .u8 0, .int .u8 0, .int .u8 0, .int .u8 0, .int .u8 0, .int .u8 0, .int .u8 0, .int .u8 0, .int .u8 0, .int .u8 0, .int .u8 0, .int .u8 0, .int .u8 0, .int .u8 0, .int .u8 0, .int .u8 0, .int .u8 0, .int .u8 0, .int .u8 0, .int .u8 0, .int .u8 0, .int .u8 0, .int .u8 0, .int .u8 0, .int .u8 0, .int .u8 0, .int .u8 0, .int .u8 0, .int .u8 0, .int .u8 0, .int .u8 0, .int .u8 0, .int .u8 0, .int .u8 0, .int .u8 0, .int .u8 0, .int .u8 0, .int .u8 0, .int .u8 0, .int .u8 0, .int .u8 0], eq := [] }
def tab : TypeId → Option TI
  | 2 => some ti2
  | 3 => some ti3
  | 4 => some ti4
  | 5 => some ti5
  | 9 => some ti9
  | 12 => some ti12
  | 15 => some ti15
  | 16 => some ti16
  | 17 => some ti17
  | 21 => some ti21
  | 22 => some ti22
  | 37 => some ti37
  | 38 => some ti38
  | 42 => some ti42
  | 49 => some ti49
  | 53 => some ti53
  | 54 => some ti54
  | 55 => some ti55
  | 62 => some ti62
  | 66 => some ti66
  | 69 => some ti69
  | 72 => some ti72
  | 76 => some ti76
  | 77 => some ti77
  | 79 => some ti79
  | 89 => some ti89
  | 90 => some ti90
  | 91 => some ti91
  | 93 => some ti93
  | 94 => some ti94
  | 97 => some ti97
  | 98 => some ti98
  | _ => none
noncomputable def E : Env := { P := Tryd.prog, tab := tab }
theorem tyok2 : TyOk Tryd.prog 2 ti2 where
  key := by kernel_rfl
  info := by kernel_rfl
  zc := by kernel_rfl
  zok := by kernel_rfl
  len := by kernel_rfl
  one := fun _ => rfl
  zero_slice := fun _ h => by cases h
  eq := fun h => absurd rfl h
theorem tyok3 : TyOk Tryd.prog 3 ti3 where
  key := by kernel_rfl
  info := by kernel_rfl
  zc := by kernel_rfl
  zok := by kernel_rfl
  len := by kernel_rfl
  one := fun _ => rfl
  zero_slice := fun _ h => by cases h
  eq := fun h => absurd rfl h
theorem tyok4 : TyOk Tryd.prog 4 ti4 where
  key := by kernel_rfl
  info := by kernel_rfl
  zc := by kernel_rfl
  zok := by kernel_rfl
  len := by kernel_rfl
  one := fun _ => rfl
  zero_slice := fun _ h => by cases h
  eq := fun h => absurd rfl h
theorem tyok5 : TyOk Tryd.prog 5 ti5 where
  key := by kernel_rfl
  info := by kernel_rfl
  zc := by kernel_rfl
  zok := by kernel_rfl
  len := by kernel_rfl
  one := fun _ => rfl
  zero_slice := fun _ h => by cases h
  eq := fun h => absurd rfl h
theorem tyok9 : TyOk Tryd.prog 9 ti9 where
  key := by kernel_rfl
  info := by kernel_rfl
  zc := by kernel_rfl
  zok := by kernel_rfl
  len := by kernel_rfl
  one := fun _ => rfl
  zero_slice := fun _ h => by cases h
  eq := fun h => absurd rfl h
theorem tyok12 : TyOk Tryd.prog 12 ti12 where
  key := by kernel_rfl
  info := by kernel_rfl
  zc := by kernel_rfl
  zok := by kernel_rfl
  len := by kernel_rfl
  one := fun _ => rfl
  zero_slice := fun _ h => by cases h
  eq := fun h => absurd rfl h
theorem tyok15 : TyOk Tryd.prog 15 ti15 where
  key := by kernel_rfl
  info := by kernel_rfl
  zc := by kernel_rfl
  zok := by kernel_rfl
  len := by kernel_rfl
  one := fun _ => rfl
  zero_slice := fun _ h => by cases h
  eq := fun h => absurd rfl h
theorem tyok16 : TyOk Tryd.prog 16 ti16 where
  key := by kernel_rfl
  info := by kernel_rfl
  zc := by kernel_rfl
  zok := by kernel_rfl
  len := by kernel_rfl
  one := fun _ => rfl
  zero_slice := fun _ h => by cases h
  eq := fun h => absurd rfl h
theorem tyok17 : TyOk Tryd.prog 17 ti17 where
  key := by kernel_rfl
  info := by kernel_rfl
  zc := by kernel_rfl
  zok := by kernel_rfl
  len := by kernel_rfl
  one := fun _ => rfl
  zero_slice := fun _ h => by cases h
  eq := fun h => absurd rfl h
theorem tyok21 : TyOk Tryd.prog 21 ti21 where
  key := by kernel_rfl
  info := by kernel_rfl
  zc := by kernel_rfl
  zok := by kernel_rfl
  len := by kernel_rfl
  one := fun _ => rfl
  zero_slice := fun _ h => by cases h
  eq := fun h => absurd rfl h
theorem tyok22 : TyOk Tryd.prog 22 ti22 where
  key := by kernel_rfl
  info := by kernel_rfl
  zc := by kernel_rfl
  zok := by kernel_rfl
  len := by kernel_rfl
  one := fun _ => rfl
  zero_slice := fun _ h => by cases h
  eq := fun h => absurd rfl h
theorem tyok37 : TyOk Tryd.prog 37 ti37 where
  key := by kernel_rfl
  info := by kernel_rfl
  zc := by kernel_rfl
  zok := by kernel_rfl
  len := by kernel_rfl
  one := fun h => by cases h
  zero_slice := fun _ h => by cases h
  eq := fun h => absurd rfl h
theorem tyok38 : TyOk Tryd.prog 38 ti38 where
  key := by kernel_rfl
  info := by kernel_rfl
  zc := by kernel_rfl
  zok := by kernel_rfl
  len := by kernel_rfl
  one := fun _ => rfl
  zero_slice := fun _ _ => rfl
  eq := fun h => absurd rfl h
theorem tyok42 : TyOk Tryd.prog 42 ti42 where
  key := by kernel_rfl
  info := by kernel_rfl
  zc := by kernel_rfl
  zok := by kernel_rfl
  len := by kernel_rfl
  one := fun _ => rfl
  zero_slice := fun _ _ => rfl
  eq := fun h => absurd rfl h
theorem tyok49 : TyOk Tryd.prog 49 ti49 where
  key := by kernel_rfl
  info := by kernel_rfl
  zc := by kernel_rfl
  zok := by kernel_rfl
  len := by kernel_rfl
  one := fun _ => rfl
  zero_slice := fun _ h => by cases h
  eq := fun h => absurd rfl h
theorem tyok53 : TyOk Tryd.prog 53 ti53 where
  key := by kernel_rfl
  info := by kernel_rfl
  zc := by kernel_rfl
  zok := by kernel_rfl
  len := by kernel_rfl
  one := fun _ => rfl
  zero_slice := fun _ h => by cases h
  eq := fun h => absurd rfl h
theorem tyok54 : TyOk Tryd.prog 54 ti54 where
  key := by kernel_rfl
  info := by kernel_rfl
  zc := by kernel_rfl
  zok := by kernel_rfl
  len := by kernel_rfl
  one := fun h => by cases h
  zero_slice := fun _ h => by cases h
  eq := fun h => absurd rfl h
theorem tyok55 : TyOk Tryd.prog 55 ti55 where
  key := by kernel_rfl
  info := by kernel_rfl
  zc := by kernel_rfl
  zok := by kernel_rfl
  len := by kernel_rfl
  one := fun h => by cases h
  zero_slice := fun _ h => by cases h
  eq := fun h => absurd rfl h
theorem tyok62 : TyOk Tryd.prog 62 ti62 where
  key := by kernel_rfl
  info := by kernel_rfl
  zc := by kernel_rfl
  zok := by kernel_rfl
  len := by kernel_rfl
  one := fun _ => rfl
  zero_slice := fun _ h => by cases h
  eq := fun h => absurd rfl h
theorem tyok66 : TyOk Tryd.prog 66 ti66 where
  key := by kernel_rfl
  info := by kernel_rfl
  zc := by kernel_rfl
  zok := by kernel_rfl
  len := by kernel_rfl
  one := fun _ => rfl
  zero_slice := fun _ h => by cases h
  eq := fun h => absurd rfl h
theorem tyok69 : TyOk Tryd.prog 69 ti69 where
  key := by kernel_rfl
  info := by kernel_rfl
  zc := by kernel_rfl
  zok := by kernel_rfl
  len := by kernel_rfl
  one := fun _ => rfl
  zero_slice := fun _ h => by cases h
  eq := fun h => absurd rfl h
theorem tyok72 : TyOk Tryd.prog 72 ti72 where
  key := by kernel_rfl
  info := by kernel_rfl
  zc := by kernel_rfl
  zok := by kernel_rfl
  len := by kernel_rfl
  one := fun _ => rfl
  zero_slice := fun _ h => by cases h
  eq := fun h => absurd rfl h
theorem tyok76 : TyOk Tryd.prog 76 ti76 where
  key := by kernel_rfl
  info := by kernel_rfl
  zc := by kernel_rfl
  zok := by kernel_rfl
  len := by kernel_rfl
  one := fun h => by cases h
  zero_slice := fun _ h => by cases h
  eq := fun h => absurd rfl h
theorem tyok77 : TyOk Tryd.prog 77 ti77 where
  key := by kernel_rfl
  info := by kernel_rfl
  zc := by kernel_rfl
  zok := by kernel_rfl
  len := by kernel_rfl
  one := fun h => by cases h
  zero_slice := fun _ h => by cases h
  eq := fun h => absurd rfl h
theorem tyok79 : TyOk Tryd.prog 79 ti79 where
  key := by kernel_rfl
  info := by kernel_rfl
  zc := by kernel_rfl
  zok := by kernel_rfl
  len := by kernel_rfl
  one := fun h => by cases h
  zero_slice := fun _ h => by cases h
  eq := fun h => absurd rfl h
theorem tyok89 : TyOk Tryd.prog 89 ti89 where
  key := by kernel_rfl
  info := by kernel_rfl
  zc := by kernel_rfl
  zok := by kernel_rfl
  len := by kernel_rfl
  one := fun _ => rfl
  zero_slice := fun _ h => by cases h
  eq := fun h => absurd rfl h
theorem tyok90 : TyOk Tryd.prog 90 ti90 where
  key := by kernel_rfl
  info := by kernel_rfl
  zc := by kernel_rfl
  zok := by kernel_rfl
  len := by kernel_rfl
  one := fun h => by cases h
  zero_slice := fun _ h => by cases h
  eq := fun _ => ⟨by kernel_rfl, by kernel_rfl, by kernel_rfl⟩
theorem tyok91 : TyOk Tryd.prog 91 ti91 where
  key := by kernel_rfl
  info := by kernel_rfl
  zc := by kernel_rfl
  zok := by kernel_rfl
  len := by kernel_rfl
  one := fun h => by cases h
  zero_slice := fun _ h => by cases h
  eq := fun _ => ⟨by kernel_rfl, by kernel_rfl, by kernel_rfl⟩
theorem tyok93 : TyOk Tryd.prog 93 ti93 where
  key := by kernel_rfl
  info := by kernel_rfl
  zc := by kernel_rfl
  zok := by kernel_rfl
  len := by kernel_rfl
  one := fun h => by cases h
  zero_slice := fun _ h => by cases h
  eq := fun h => absurd rfl h
theorem tyok94 : TyOk Tryd.prog 94 ti94 where
  key := by kernel_rfl
  info := by kernel_rfl
  zc := by kernel_rfl
  zok := by kernel_rfl
  len := by kernel_rfl
  one := fun h => by cases h
  zero_slice := fun _ h => by cases h
  eq := fun h => absurd rfl h
theorem tyok97 : TyOk Tryd.prog 97 ti97 where
  key := by kernel_rfl
  info := by kernel_rfl
  zc := by kernel_rfl
  zok := by kernel_rfl
  len := by kernel_rfl
  one := fun h => by cases h
  zero_slice := fun _ h => by cases h
  eq := fun h => absurd rfl h
theorem tyok98 : TyOk Tryd.prog 98 ti98 where
  key := by kernel_rfl
  info := by kernel_rfl
  zc := by kernel_rfl
  zok := by kernel_rfl
  len := by kernel_rfl
  one := fun h => by cases h
  zero_slice := fun _ h => by cases h
  eq := fun h => absurd rfl h
theorem E_ok : E.Ok := by
  refine ⟨by kernel_rfl, fun t ti h => ?_⟩
  change tab t = some ti at h
  unfold tab at h
  split at h
  · cases h; exact tyok2
  · cases h; exact tyok3
  · cases h; exact tyok4
  · cases h; exact tyok5
  · cases h; exact tyok9
  · cases h; exact tyok12
  · cases h; exact tyok15
  · cases h; exact tyok16
  · cases h; exact tyok17
  · cases h; exact tyok21
  · cases h; exact tyok22
  · cases h; exact tyok37
  · cases h; exact tyok38
  · cases h; exact tyok42
  · cases h; exact tyok49
  · cases h; exact tyok53
  · cases h; exact tyok54
  · cases h; exact tyok55
  · cases h; exact tyok62
  · cases h; exact tyok66
  · cases h; exact tyok69
  · cases h; exact tyok72
  · cases h; exact tyok76
  · cases h; exact tyok77
  · cases h; exact tyok79
  · cases h; exact tyok89
  · cases h; exact tyok90
  · cases h; exact tyok91
  · cases h; exact tyok93
  · cases h; exact tyok94
  · cases h; exact tyok97
  · cases h; exact tyok98
  · cases h
@[simp] theorem tab2 : E.tab 2 = some { key := .int .i64, size := 1, bytes := 8, zero := .int .i64 0, zc := [.int .i64 0], eq := [] } := rfl
@[simp] theorem tab3 : E.tab 3 = some { key := .int .i64, size := 1, bytes := 8, zero := .int .i64 0, zc := [.int .i64 0], eq := [] } := rfl
@[simp] theorem tab4 : E.tab 4 = some { key := .bool, size := 1, bytes := 1, zero := .bool false, zc := [.bool false], eq := [] } := rfl
@[simp] theorem tab5 : E.tab 5 = some { key := .int .u8, size := 1, bytes := 1, zero := .int .u8 0, zc := [.int .u8 0], eq := [] } := rfl
@[simp] theorem tab9 : E.tab 9 = some { key := .string, size := 1, bytes := 16, zero := .string ⟨#[]⟩, zc := [.str []], eq := [] } := rfl
@[simp] theorem tab12 : E.tab 12 = some { key := .int .u64, size := 1, bytes := 8, zero := .int .u64 0, zc := [.int .u64 0], eq := [] } := rfl
@[simp] theorem tab15 : E.tab 15 = some { key := .other, size := 1, bytes := 8, zero := .pointer none, zc := [.lit (.pointer none)], eq := [] } := rfl
@[simp] theorem tab16 : E.tab 16 = some { key := .other, size := 1, bytes := 8, zero := .pointer none, zc := [.lit (.pointer none)], eq := [] } := rfl
@[simp] theorem tab17 : E.tab 17 = some { key := .other, size := 1, bytes := 8, zero := .pointer none, zc := [.lit (.pointer none)], eq := [] } := rfl
@[simp] theorem tab21 : E.tab 21 = some { key := .int .i32, size := 1, bytes := 4, zero := .int .i32 0, zc := [.int .i32 0], eq := [] } := rfl
@[simp] theorem tab22 : E.tab 22 = some { key := .int .i64, size := 1, bytes := 8, zero := .int .i64 0, zc := [.int .i64 0], eq := [] } := rfl
@[simp] theorem tab37 : E.tab 37 = some { key := .array 12 3, size := 12, bytes := 96, zero := .agg #[.int .i64 0, .int .i64 0, .int .i64 0, .int .i64 0, .int .i64 0, .int .i64 0, .int .i64 0, .int .i64 0, .int .i64 0, .int .i64 0, .int .i64 0, .int .i64 0], zc := [.int .i64 0, .int .i64 0, .int .i64 0, .int .i64 0, .int .i64 0, .int .i64 0, .int .i64 0, .int .i64 0, .int .i64 0, .int .i64 0, .int .i64 0, .int .i64 0], eq := [] } := rfl
@[simp] theorem tab38 : E.tab 38 = some { key := .slice 3, size := 1, bytes := 24, zero := .slice none 0 0, zc := [.slice (.int .i64 0) []], eq := [] } := rfl
@[simp] theorem tab42 : E.tab 42 = some { key := .slice 5, size := 1, bytes := 24, zero := .slice none 0 0, zc := [.slice (.int .u8 0) []], eq := [] } := rfl
@[simp] theorem tab49 : E.tab 49 = some { key := .int .u64, size := 1, bytes := 8, zero := .int .u64 0, zc := [.int .u64 0], eq := [] } := rfl
@[simp] theorem tab53 : E.tab 53 = some { key := .other, size := 1, bytes := 8, zero := .pointer none, zc := [.lit (.pointer none)], eq := [] } := rfl
@[simp] theorem tab54 : E.tab 54 = some { key := .struct [(0, 53), (1, 42)], size := 2, bytes := 32, zero := .agg #[.pointer none, .slice none 0 0], zc := [.lit (.pointer none), .slice (.int .u8 0) []], eq := [] } := rfl
@[simp] theorem tab55 : E.tab 55 = some { key := .struct [(0, 53), (1, 42)], size := 2, bytes := 32, zero := .agg #[.pointer none, .slice none 0 0], zc := [.lit (.pointer none), .slice (.int .u8 0) []], eq := [] } := rfl
@[simp] theorem tab62 : E.tab 62 = some { key := .other, size := 1, bytes := 8, zero := .pointer none, zc := [.lit (.pointer none)], eq := [] } := rfl
@[simp] theorem tab66 : E.tab 66 = some { key := .int .u32, size := 1, bytes := 4, zero := .int .u32 0, zc := [.int .u32 0], eq := [] } := rfl
@[simp] theorem tab69 : E.tab 69 = some { key := .int .u64, size := 1, bytes := 8, zero := .int .u64 0, zc := [.int .u64 0], eq := [] } := rfl
@[simp] theorem tab72 : E.tab 72 = some { key := .other, size := 1, bytes := 8, zero := .pointer none, zc := [.lit (.pointer none)], eq := [] } := rfl
@[simp] theorem tab76 : E.tab 76 = some { key := .struct [(0, 9), (1, 9), (2, 44)], size := 3, bytes := 48, zero := .agg #[.string ⟨#[]⟩, .string ⟨#[]⟩, .nilIface], zc := [.str [], .str [], .lit (.nilIface)], eq := [] } := rfl
@[simp] theorem tab77 : E.tab 77 = some { key := .struct [(0, 9), (1, 9), (2, 44)], size := 3, bytes := 48, zero := .agg #[.string ⟨#[]⟩, .string ⟨#[]⟩, .nilIface], zc := [.str [], .str [], .lit (.nilIface)], eq := [] } := rfl
@[simp] theorem tab79 : E.tab 79 = some { key := .array 24 5, size := 24, bytes := 24, zero := .agg #[.int .u8 0, .int .u8 0, .int .u8 0, .int .u8 0, .int .u8 0, .int .u8 0, .int .u8 0, .int .u8 0, .int .u8 0, .int .u8 0, .int .u8 0, .int .u8 0, .int .u8 0, .int .u8 0, .int .u8 0, .int .u8 0, .int .u8 0, .int .u8 0, .int .u8 0, .int .u8 0, .int .u8 0, .int .u8 0, .int .u8 0, .int .u8 0], zc := [.int .u8 0, .int .u8 0, .int .u8 0, .int .u8 0, .int .u8 0, .int .u8 0, .int .u8 0, .int .u8 0, .int .u8 0, .int .u8 0, .int .u8 0, .int .u8 0, .int .u8 0, .int .u8 0, .int .u8 0, .int .u8 0, .int .u8 0, .int .u8 0, .int .u8 0, .int .u8 0, .int .u8 0, .int .u8 0, .int .u8 0, .int .u8 0], eq := [] } := rfl
@[simp] theorem tab89 : E.tab 89 = some { key := .other, size := 1, bytes := 8, zero := .pointer none, zc := [.lit (.pointer none)], eq := [] } := rfl
@[simp] theorem tab90 : E.tab 90 = some { key := .struct [(0, 9)], size := 1, bytes := 16, zero := .agg #[.string ⟨#[]⟩], zc := [.str []], eq := [2] } := rfl
@[simp] theorem tab91 : E.tab 91 = some { key := .struct [(0, 9)], size := 1, bytes := 16, zero := .agg #[.string ⟨#[]⟩], zc := [.str []], eq := [2] } := rfl
@[simp] theorem tab93 : E.tab 93 = some { key := .array 20 69, size := 20, bytes := 160, zero := .agg #[.int .u64 0, .int .u64 0, .int .u64 0, .int .u64 0, .int .u64 0, .int .u64 0, .int .u64 0, .int .u64 0, .int .u64 0, .int .u64 0, .int .u64 0, .int .u64 0, .int .u64 0, .int .u64 0, .int .u64 0, .int .u64 0, .int .u64 0, .int .u64 0, .int .u64 0, .int .u64 0], zc := [.int .u64 0, .int .u64 0, .int .u64 0, .int .u64 0, .int .u64 0, .int .u64 0, .int .u64 0, .int .u64 0, .int .u64 0, .int .u64 0, .int .u64 0, .int .u64 0, .int .u64 0, .int .u64 0, .int .u64 0, .int .u64 0, .int .u64 0, .int .u64 0, .int .u64 0, .int .u64 0], eq := [] } := rfl
@[simp] theorem tab94 : E.tab 94 = some { key := .array 65 5, size := 65, bytes := 65, zero := .agg #[.int .u8 0, .int .u8 0, .int .u8 0, .int .u8 0, .int .u8 0, .int .u8 0, .int .u8 0, .int .u8 0, .int .u8 0, .int .u8 0, .int .u8 0, .int .u8 0, .int .u8 0, .int .u8 0, .int .u8 0, .int .u8 0, .int .u8 0, .int .u8 0, .int .u8 0, .int .u8 0, .int .u8 0, .int .u8 0, .int .u8 0, .int .u8 0, .int .u8 0, .int .u8 0, .int .u8 0, .int .u8 0, .int .u8 0, .int .u8 0, .int .u8 0, .int .u8 0, .int .u8 0, .int .u8 0, .int .u8 0, .int .u8 0, .int .u8 0, .int .u8 0, .int .u8 0, .int .u8 0, .int .u8 0, .int .u8 0, .int .u8 0, .int .u8 0, .int .u8 0, .int .u8 0, .int .u8 0, .int .u8 0, .int .u8 0, .int .u8 0, .int .u8 0, .int .u8 0, .int .u8 0, .int .u8 0, .int .u8 0, .int .u8 0, .int .u8 0, .int .u8 0, .int .u8 0, .int .u8 0, .int .u8 0, .int .u8 0, .int .u8 0, .int .u8 0, .int .u8 0], zc := [.int .u8 0, .int .u8 0, .int .u8 0, .int .u8 0, .int .u8 0, .int .u8 0, .int .u8 0, .int .u8 0, .int .u8 0, .int .u8 0, .int .u8 0, .int .u8 0, .int .u8 0, .int .u8 0, .int .u8 0, .int .u8 0, .int .u8 0, .int .u8 0, .int .u8 0, .int .u8 0, .int .u8 0, .int .u8 0, .int .u8 0, .int .u8 0, .int .u8 0, .int .u8 0, .int .u8 0, .int .u8 0, .int .u8 0, .int .u8 0, .int .u8 0, .int .u8 0, .int .u8 0, .int .u8 0, .int .u8 0, .int .u8 0, .int .u8 0, .int .u8 0, .int .u8 0, .int .u8 0, .int .u8 0, .int .u8 0, .int .u8 0, .int .u8 0, .int .u8 0, .int .u8 0, .int .u8 0, .int .u8 0, .int .u8 0, .int .u8 0, .int .u8 0, .int .u8 0, .int .u8 0, .int .u8 0, .int .u8 0, .int .u8 0, .int .u8 0, .int .u8 0, .int .u8 0, .int .u8 0, .int .u8 0, .int .u8 0, .int .u8 0, .int .u8 0, .int .u8 0], eq := [] } := rfl
@[simp] theorem tab97 : E.tab 97 = some { key := .array 32 5, size := 32, bytes := 32, zero := .agg #[.int .u8 0, .int .u8 0, .int .u8 0, .int .u8 0, .int .u8 0, .int .u8 0, .int .u8 0, .int .u8 0, .int .u8 0, .int .u8 0, .int .u8 0, .int .u8 0, .int .u8 0, .int .u8 0, .int .u8 0, .int .u8 0, .int .u8 0, .int .u8 0, .int .u8 0, .int .u8 0, .int .u8 0, .int .u8 0, .int .u8 0, .int .u8 0, .int .u8 0, .int .u8 0, .int .u8 0, .int .u8 0, .int .u8 0, .int .u8 0, .int .u8 0, .int .u8 0], zc := [.int .u8 0, .int .u8 0, .int .u8 0, .int .u8 0, .int .u8 0, .int .u8 0, .int .u8 0, .int .u8 0, .int .u8 0, .int .u8 0, .int .u8 0, .int .u8 0, .int .u8 0, .int .u8 0, .int .u8 0, .int .u8 0, .int .u8 0, .int .u8 0, .int .u8 0, .int .u8 0, .int .u8 0, .int .u8 0, .int .u8 0, .int .u8 0, .int .u8 0, .int .u8 0, .int .u8 0, .int .u8 0, .int .u8 0, .int .u8 0, .int .u8 0, .int .u8 0], eq := [] } := rfl
@[simp] theorem tab98 : E.tab 98 = some { key := .array 64 5, size := 64, bytes := 64, zero := .agg #[.int .u8 0, .int .u8 0, .int .u8 0, .int .u8 0, .int .u8 0, .int .u8 0, .int .u8 0, .int .u8 0, .int .u8 0, .int .u8 0, .int .u8 0, .int .u8 0, .int .u8 0, .int .u8 0, .int .u8 0, .int .u8 0, .int .u8 0, .int .u8 0, .int .u8 0, .int .u8 0, .int .u8 0, .int .u8 0, .int .u8 0, .int .u8 0, .int .u8 0, .int .u8 0, .int .u8 0, .int .u8 0, .int .u8 0, .int .u8 0, .int .u8 0, .int .u8 0, .int .u8 0, .int .u8 0, .int .u8 0, .int .u8 0, .int .u8 0, .int .u8 0, .int .u8 0, .int .u8 0, .int .u8 0, .int .u8 0, .int .u8 0, .int .u8 0, .int .u8 0, .int .u8 0, .int .u8 0, .int .u8 0, .int .u8 0, .int .u8 0, .int .u8 0, .int .u8 0, .int .u8 0, .int .u8 0, .int .u8 0, .int .u8 0, .int .u8 0, .int .u8 0, .int .u8 0, .int .u8 0, .int .u8 0, .int .u8 0, .int .u8 0, .int .u8 0], zc := [.int .u8 0, .int .u8 0, .int .u8 0, .int .u8 0, .int .u8 0, .int .u8 0, .int .u8 0, .int .u8 0, .int .u8 0, .int .u8 0, .int .u8 0, .int .u8 0, .int .u8 0, .int .u8 0, .int .u8 0, .int .u8 0, .int .u8 0, .int .u8 0, .int .u8 0, .int .u8 0, .int .u8 0, .int .u8 0, .int .u8 0, .int .u8 0, .int .u8 0, .int .u8 0, .int .u8 0, .int .u8 0, .int .u8 0, .int .u8 0, .int .u8 0, .int .u8 0, .int .u8 0, .int .u8 0, .int .u8 0, .int .u8 0, .int .u8 0, .int .u8 0, .int .u8 0, .int .u8 0, .int .u8 0, .int .u8 0, .int .u8 0, .int .u8 0, .int .u8 0, .int .u8 0, .int .u8 0, .int .u8 0, .int .u8 0, .int .u8 0, .int .u8 0, .int .u8 0, .int .u8 0, .int .u8 0, .int .u8 0, .int .u8 0, .int .u8 0, .int .u8 0, .int .u8 0, .int .u8 0, .int .u8 0, .int .u8 0, .int .u8 0, .int .u8 0], eq := [] } := rfl
end Go.Proofs.YtmofeikdaoknlaaDoor

namespace Go.Proofs.YtmofeikdaoknlaaDoor
open Go Ab
abbrev n_main_main : Nat := 0
abbrev n_gosem_cut : Nat := 1
abbrev n_gosem_cut_init : Nat := 2
abbrev n_law03_DateOf : Nat := 3
abbrev n_law03_DateParts : Nat := 4
abbrev n_law03_DateLengths : Nat := 5
abbrev n_law03_DateMonths : Nat := 6
abbrev n_law03_DateTexts : Nat := 7
abbrev n_law03_DateBack : Nat := 8
abbrev n_law03_DateSteps : Nat := 9
abbrev n_date_Of : Nat := 10
abbrev n_ref03_Of : Nat := 11
abbrev n_law03_alive : Nat := 12
abbrev n_date_Parts : Nat := 13
abbrev n_ref03_Parts : Nat := 14
abbrev n_date_Length : Nat := 15
abbrev n_ref03_Length : Nat := 16
abbrev n_date_Weekday : Nat := 17
abbrev n_ref03_Weekday : Nat := 18
abbrev n_date_Months : Nat := 19
abbrev n_ref03_Months : Nat := 20
abbrev n_date_Parse : Nat := 21
abbrev n_ref03_Parse : Nat := 22
abbrev n_date_Format : Nat := 23
abbrev n_ref03_Format : Nat := 24
abbrev n_date_newYear : Nat := 25
abbrev n_date_before : Nat := 26
abbrev n_ref03_Year : Nat := 27
abbrev n_date_known : Nat := 28
abbrev n_ref03_Is : Nat := 29
abbrev n_date_leap : Nat := 30
abbrev n_date_number : Nat := 31
abbrev n_date_padded : Nat := 32
abbrev n_ref03_Digits : Nat := 33
abbrev n_strconv_Atoi : Nat := 34
abbrev n_strconv_Itoa : Nat := 35
abbrev n_strings_Repeat : Nat := 36
abbrev n_internal_strconv_Atoi : Nat := 37
abbrev n_strconv_toError : Nat := 38
abbrev n_internal_strconv_Itoa : Nat := 39
abbrev n_math_bits_Mul : Nat := 40
abbrev n_strings_HasPrefix : Nat := 41
abbrev n_strings_Builder_Grow : Nat := 42
abbrev n_strings_Builder_WriteString : Nat := 43
abbrev n_strings_Builder_Len : Nat := 44
abbrev n_strings_Builder_String : Nat := 45
abbrev n_internal_strconv_ParseInt : Nat := 46
abbrev n_strconv_syntaxError : Nat := 47
abbrev n_strconv_rangeError : Nat := 48
abbrev n_strconv_baseError : Nat := 49
abbrev n_strconv_bitSizeError : Nat := 50
abbrev n_internal_strconv_FormatInt : Nat := 51
abbrev n_math_bits_Mul32 : Nat := 52
abbrev n_math_bits_Mul64 : Nat := 53
abbrev n_internal_stringslite_HasPrefix : Nat := 54
abbrev n_strings_Builder_copyCheck : Nat := 55
abbrev n_strings_Builder_grow : Nat := 56
abbrev n_internal_strconv_ParseUint : Nat := 57
abbrev n_internal_stringslite_Clone : Nat := 58
abbrev n_errors_New : Nat := 59
abbrev n_internal_strconv_small : Nat := 60
abbrev n_internal_strconv_numDigits : Nat := 61
abbrev n_internal_strconv_formatBase10 : Nat := 62
abbrev n_internal_strconv_formatBits : Nat := 63
abbrev n_internal_abi_NoEscape : Nat := 64
abbrev n_internal_bytealg_MakeNoZero : Nat := 65
abbrev n_internal_strconv_lower : Nat := 66
abbrev n_internal_strconv_underscoreOK : Nat := 67
abbrev n_internal_strconv_log10Pow2 : Nat := 68
abbrev n_math_bits_Len64 : Nat := 69
abbrev n_internal_strconv_bool2_int : Nat := 70
abbrev n_internal_strconv_isPowerOfTwo : Nat := 71
abbrev n_math_bits_TrailingZeros : Nat := 72
abbrev n_math_bits_TrailingZeros32 : Nat := 73
abbrev n_math_bits_TrailingZeros64 : Nat := 74
abbrev n_runtime_boundsError_Error : Nat := 75
abbrev n_runtime_boundsError_RuntimeError : Nat := 76
abbrev n_runtime_errorString_Error : Nat := 77
abbrev n_runtime_errorString_RuntimeError : Nat := 78
abbrev n_runtime_plainError_Error : Nat := 79
abbrev n_runtime_plainError_RuntimeError : Nat := 80
abbrev n_runtime_errorAddressString_Error : Nat := 81
abbrev n_runtime_errorAddressString_RuntimeError : Nat := 82
abbrev n_runtime_TypeAssertionError_Error : Nat := 83
abbrev n_runtime_TypeAssertionError_RuntimeError : Nat := 84
abbrev n_runtime_PanicNilError_Error : Nat := 85
abbrev n_runtime_PanicNilError_RuntimeError : Nat := 86
abbrev n_internal_abi_Type_Align : Nat := 87
abbrev n_internal_runtime_maps_unhashableTypeError_Error : Nat := 88
abbrev n_internal_runtime_maps_unhashableTypeError_RuntimeError : Nat := 89
abbrev n_api_Errno_Error : Nat := 90
abbrev n_strings_Builder_Reset : Nat := 91
abbrev n_internal_strconv_Error_Error : Nat := 92
abbrev n_strconv_NumError_Error : Nat := 93
abbrev n_errors_errorString_Error : Nat := 94
abbrev n_internal_abi_Kind_String : Nat := 95
abbrev n_var_s_door_gosem_cut_vars_holds_initialisers_alone_see_the_manifest_s_row_cutvarsword_look_11_test_files_too : Nat := 96
abbrev n_var_s_door_internal_strconv_uint64pow10_is_laid_by_its_own_initialiser_plain_data_look_11 : Nat := 97
abbrev n_var_s_door_math_bits_deBruijn32tab_is_laid_by_its_own_initialiser_plain_data_look_11 : Nat := 98
abbrev n_var_s_door_math_bits_deBruijn64tab_is_laid_by_its_own_initialiser_plain_data_look_11 : Nat := 99
abbrev n_var_s_door_strconv_ErrRange_is_laid_by_its_own_call_of_errors_New_on_one_literal_look_11 : Nat := 100
abbrev n_var_s_door_strconv_ErrSyntax_is_laid_by_its_own_call_of_errors_New_on_one_literal_look_11 : Nat := 101
abbrev n_var_s_door_the_look_of_gosem_cut_vars_went_over_the_folder_that_the_caller_named_as_the_repository_s_root_look_11 : Nat := 102
abbrev n_gosem_cut_vars : Nat := 103
abbrev t_ : Nat := 0
abbrev t_Error : Nat := 43
abbrev t_a0_p_runtime_PanicNilError : Nat := 101
abbrev t_a12_int : Nat := 37
abbrev t_a20_uint64 : Nat := 93
abbrev t_a24_uint8 : Nat := 79
abbrev t_a32_uint8 : Nat := 97
abbrev t_a64_uint8 : Nat := 98
abbrev t_a65_uint8 : Nat := 94
abbrev t_abi_BoundsErrorCode : Nat := 6
abbrev t_abi_Kind : Nat := 105
abbrev t_abi_NameOff : Nat := 107
abbrev t_abi_TFlag : Nat := 104
abbrev t_abi_Type : Nat := 110
abbrev t_abi_TypeOff : Nat := 108
abbrev t_api_Errno : Nat := 22
abbrev t_bool : Nat := 4
abbrev t_error : Nat := 44
abbrev t_errors_errorString : Nat := 91
abbrev t_int : Nat := 3
abbrev t_int32 : Nat := 21
abbrev t_int64 : Nat := 2
abbrev t_maps_unhashableTypeError : Nat := 19
abbrev t_p_abi_Type : Nat := 17
abbrev t_p_errors_errorString : Nat := 89
abbrev t_p_runtime_PanicNilError : Nat := 16
abbrev t_p_runtime_TypeAssertionError : Nat := 15
abbrev t_p_strconv_NumError : Nat := 62
abbrev t_p_strings_Builder : Nat := 53
abbrev t_p_uint8 : Nat := 72
abbrev t_runtime_PanicNilError : Nat := 103
abbrev t_runtime_TypeAssertionError : Nat := 100
abbrev t_runtime_boundsError : Nat := 8
abbrev t_runtime_errorAddressString : Nat := 14
abbrev t_runtime_errorString : Nat := 10
abbrev t_runtime_plainError : Nat := 11
abbrev t_s_int : Nat := 38
abbrev t_s_uint8 : Nat := 42
abbrev t_strconv_Error : Nat := 59
abbrev t_strconv_NumError : Nat := 77
abbrev t_string : Nat := 9
abbrev t_strings_Builder : Nat := 55
abbrev t_uint : Nat := 49
abbrev t_uint32 : Nat := 66
abbrev t_uint64 : Nat := 69
abbrev t_uint8 : Nat := 5
abbrev t_uintptr : Nat := 12
abbrev t_unsafe_Pointer : Nat := 84
def tabZ_math_bits_deBruijn32tab : List Int := [0, 1, 28, 2, 29, 14, 24, 3, 30, 22, 20, 15, 25, 17, 4, 8, 31, 27, 13, 23, 21, 19, 16, 7, 26, 12, 18, 6, 11, 5, 10, 9]
@[simp] theorem tabZ_math_bits_deBruijn32tab_len : tabZ_math_bits_deBruijn32tab.length = 32 := rfl
def tabL0 : TabL := ⟨ "math/bits.deBruijn32tab", 4, .u8, tabZ_math_bits_deBruijn32tab⟩
def tabZ_math_bits_deBruijn64tab : List Int := [0, 1, 56, 2, 57, 49, 28, 3, 61, 58, 42, 50, 38, 29, 17, 4, 62, 47, 59, 36, 45, 43, 51, 22, 53, 39, 33, 30, 24, 18, 12, 5, 63, 55, 48, 27, 60, 41, 37, 16, 46, 35, 44, 21, 52, 32, 23, 11, 54, 26, 40, 15, 34, 20, 31, 10, 25, 14, 19, 9, 13, 8, 7, 6]
@[simp] theorem tabZ_math_bits_deBruijn64tab_len : tabZ_math_bits_deBruijn64tab.length = 64 := rfl
def tabL1 : TabL := ⟨ "math/bits.deBruijn64tab", 5, .u8, tabZ_math_bits_deBruijn64tab⟩
def tabZ_internal_strconv_uint64pow10 : List Int := [1, 10, 100, 1000, 10000, 100000, 1000000, 10000000, 100000000, 1000000000, 10000000000, 100000000000, 1000000000000, 10000000000000, 100000000000000, 1000000000000000, 10000000000000000, 100000000000000000, 1000000000000000000, 10000000000000000000]
@[simp] theorem tabZ_internal_strconv_uint64pow10_len : tabZ_internal_strconv_uint64pow10.length = 20 := rfl
def tabL2 : TabL := ⟨ "internal/strconv.uint64pow10", 2, .u64, tabZ_internal_strconv_uint64pow10⟩
def tabL : List TabL := [tabL0, tabL1, tabL2]
theorem tabL_g : ∀ x ∈ tabL, Tryd.prog.globalNamed x.name = some x.g := by
  intro x hx
  simp only [tabL, List.mem_cons, List.not_mem_nil, or_false] at hx
  rcases hx with rfl | rfl | rfl <;> kernel_rfl
theorem tabL_r : ∀ x ∈ tabL, ∀ z ∈ x.zs, x.k.min ≤ z ∧ z ≤ x.k.max := by decide +kernel
instance amb : Amb := Amb.tabs Tryd.prog tabL tabL_g tabL_r
@[simp] theorem amb_tab4 : Amb.tab 4 = some (tabZ_math_bits_deBruijn32tab.map (D.int .u8)) := rfl
@[simp] theorem amb_tab5 : Amb.tab 5 = some (tabZ_math_bits_deBruijn64tab.map (D.int .u8)) := rfl
@[simp] theorem amb_tab2 : Amb.tab 2 = some (tabZ_internal_strconv_uint64pow10.map (D.int .u64)) := rfl
@[simp] theorem amb_tab0 : Amb.tab 0 = none := rfl
@[simp] theorem amb_tab1 : Amb.tab 1 = none := rfl
@[simp] theorem amb_tab3 : Amb.tab 3 = none := rfl
theorem amb_is4 {w : World} {S : Nat → Nat → Prop} (h : Amb.G w S) : Go.Lib.TabIs Tryd.prog w "math/bits.deBruijn32tab" .u8 [0, 1, 28, 2, 29, 14, 24, 3, 30, 22, 20, 15, 25, 17, 4, 8, 31, 27, 13, 23, 21, 19, 16, 7, 26, 12, 18, 6, 11, 5, 10, 9] := (h tabL0 (by simp [tabL])).1
theorem amb_is5 {w : World} {S : Nat → Nat → Prop} (h : Amb.G w S) : Go.Lib.TabIs Tryd.prog w "math/bits.deBruijn64tab" .u8 [0, 1, 56, 2, 57, 49, 28, 3, 61, 58, 42, 50, 38, 29, 17, 4, 62, 47, 59, 36, 45, 43, 51, 22, 53, 39, 33, 30, 24, 18, 12, 5, 63, 55, 48, 27, 60, 41, 37, 16, 46, 35, 44, 21, 52, 32, 23, 11, 54, 26, 40, 15, 34, 20, 31, 10, 25, 14, 19, 9, 13, 8, 7, 6] := (h tabL1 (by simp [tabL])).1
theorem amb_is2 {w : World} {S : Nat → Nat → Prop} (h : Amb.G w S) : Go.Lib.TabIs Tryd.prog w "internal/strconv.uint64pow10" .u64 [1, 10, 100, 1000, 10000, 100000, 1000000, 10000000, 100000000, 1000000000, 10000000000, 100000000000, 1000000000000, 10000000000000, 100000000000000, 1000000000000000, 10000000000000000, 100000000000000000, 1000000000000000000, 10000000000000000000] := (h tabL2 (by simp [tabL])).1
theorem mixed : E.P.follows .mixedOrders = true := by kernel_rfl
end Go.Proofs.YtmofeikdaoknlaaDoor

/- Dates: years, months and days. -/
namespace Pl
set_option linter.unusedVariables false
set_option linter.unusedSimpArgs false
def leapB (y : Int) : Bool := decide (y % 4 = 0 ∧ (¬ y % 100 = 0 ∨ y % 400 = 0))
theorem leap_iff {y : Int} (h : 1900 ≤ y) (h2 : y ≤ 2199) : leapB y = true ↔ (y % 4 = 0 ∧ ¬ y = 1900 ∧ ¬ y = 2100) := by
  unfold leapB; rw [decide_eq_true_iff]; omega
/-- the days ahead of a year -/
def nyD (y : Int) : Int := if y ≤ 1900 then 0 else 365 * (y - 1900) + (y - 1) / 4 - 475 - (if y ≤ 2100 then 0 else 1)
def yearD (y : Int) : Int := if leapB y = true then 366 else 365
theorem ny_step {y : Int} (h : 1900 ≤ y) (h2 : y ≤ 2199) : nyD (y + 1) = nyD y + yearD y := by
  unfold nyD yearD
  by_cases hl : leapB y = true
  · have := (leap_iff h h2).1 hl
    rw [if_pos hl]; repeat' split
    all_goals omega
  · have := mt (leap_iff h h2).2 hl
    rw [if_neg hl]; repeat' split
    all_goals omega
theorem year_pos (y : Int) : 365 ≤ yearD y ∧ yearD y ≤ 366 := by unfold yearD; split <;> omega
theorem ny_mono {y z : Int} (h : y ≤ z) : nyD y ≤ nyD z := by unfold nyD; repeat' split <;> omega
theorem ny_first : nyD 1900 = 0 := by decide
theorem ny_end : nyD 2200 = 109573 := by decide
theorem ny_rng {y : Int} (h : 1900 ≤ y) (h2 : y ≤ 2200) : 0 ≤ nyD y ∧ nyD y ≤ 109573 ∧ 365 * (y - 1900) ≤ nyD y ∧ nyD y ≤ 366 * (y - 1900) := by unfold nyD; repeat' split <;> omega
/-- the length of a month -/
def tblD (m : Int) : Int := if m = 2 then 28 else if m = 4 ∨ m = 6 ∨ m = 9 ∨ m = 11 then 30 else 31
def mlenD (y m : Int) : Int := if (y < 1900 ∨ 2199 < y) ∨ (m < 1 ∨ 12 < m) then 0 else if m = 2 ∧ leapB y = true then 29 else tblD m
/-- the days of a year ahead of a month -/
def befT (m : Int) : Int :=
  if m ≤ 1 then 0 else if m = 2 then 31 else if m = 3 then 59 else if m = 4 then 90 else if m = 5 then 120 else if m = 6 then 151 else if m = 7 then 181 else if m = 8 then 212 else if m = 9 then 243
  else if m = 10 then 273 else if m = 11 then 304 else if m = 12 then 334 else 365
def befD (y m : Int) : Int := befT m + (if 2 < m ∧ leapB y = true then 1 else 0)
theorem mlen_ok {y m : Int} (hy : 1900 ≤ y) (hy2 : y ≤ 2199) (hm : 1 ≤ m) (hm2 : m ≤ 12) : mlenD y m = if m = 2 ∧ leapB y = true then 29 else tblD m := if_neg (by omega)
theorem bef_step {y m : Int} (hy : 1900 ≤ y) (hy2 : y ≤ 2199) (hm : 1 ≤ m) (hm2 : m ≤ 12) : befD y (m + 1) = befD y m + mlenD y m := by
  rw [mlen_ok hy hy2 hm hm2]
  have hc : m = 1 ∨ m = 2 ∨ m = 3 ∨ m = 4 ∨ m = 5 ∨ m = 6 ∨ m = 7 ∨ m = 8 ∨ m = 9 ∨ m = 10 ∨ m = 11 ∨ m = 12 := by omega
  unfold befD
  cases leapB y <;> rcases hc with rfl | rfl | rfl | rfl | rfl | rfl | rfl | rfl | rfl | rfl | rfl | rfl <;> decide
theorem bef_first (y : Int) : befD y 1 = 0 := by simp [befD, befT]
theorem bef_end {y : Int} (hy : 1900 ≤ y) (hy2 : y ≤ 2199) : befD y 13 = yearD y := by
  unfold befD yearD; cases leapB y <;> decide
theorem befT_mono {m n : Int} (hn : n ≤ 13) (h1 : 1 ≤ m) (h : m ≤ n) : befT m ≤ befT n := by
  have hc : m = 1 ∨ m = 2 ∨ m = 3 ∨ m = 4 ∨ m = 5 ∨ m = 6 ∨ m = 7 ∨ m = 8 ∨ m = 9 ∨ m = 10 ∨ m = 11 ∨ m = 12 ∨ m = 13 := by omega
  have hd : n = 1 ∨ n = 2 ∨ n = 3 ∨ n = 4 ∨ n = 5 ∨ n = 6 ∨ n = 7 ∨ n = 8 ∨ n = 9 ∨ n = 10 ∨ n = 11 ∨ n = 12 ∨ n = 13 := by omega
  have key : ∀ i : Fin 13, ∀ j : Fin 13, i ≤ j → befT ((i.val : Int) + 1) ≤ befT ((j.val : Int) + 1) := by decide
  have := key ⟨(m - 1).toNat, by omega⟩ ⟨(n - 1).toNat, by omega⟩ (by rw [Fin.le_def]; simp only; omega)
  simp only at this
  rwa [show (((m - 1).toNat : Nat) : Int) + 1 = m by omega, show (((n - 1).toNat : Nat) : Int) + 1 = n by omega] at this
theorem bef_mono {y m n : Int} (hn : n ≤ 13) (h1 : 1 ≤ m) (h : m ≤ n) : befD y m ≤ befD y n := by
  have := befT_mono hn h1 h
  unfold befD
  cases leapB y
  · simpa using this
  · simp only [and_true]
    split <;> split <;> omega
theorem mlen_rng {y m : Int} (hy : 1900 ≤ y) (hy2 : y ≤ 2199) (hm : 1 ≤ m) (hm2 : m ≤ 12) : 28 ≤ mlenD y m ∧ mlenD y m ≤ 31 := by
  rw [mlen_ok hy hy2 hm hm2]; unfold tblD; repeat' split <;> omega
theorem mlen_in {y m d : Int} (h1 : 1 ≤ d) (h2 : d ≤ mlenD y m) : (1900 ≤ y ∧ y ≤ 2199) ∧ 1 ≤ m ∧ m ≤ 12 := by
  unfold mlenD at h2; split at h2 <;> omega
/-- the day of a date -/
def dayD (y m d : Int) : Int := nyD y + befD y m + d - 1
def ofR (y m d : Int) : Int × Int := if d < 1 ∨ mlenD y m < d then (0, 2) else (dayD y m d, 0)
theorem of_bad {y m d : Int} (h : d < 1 ∨ mlenD y m < d) : ofR y m d = (0, 2) := if_pos h
theorem of_ok {y m d : Int} (h1 : 1 ≤ d) (h2 : d ≤ mlenD y m) : ofR y m d = (dayD y m d, 0) := if_neg (by omega)
structure Parts where
  y : Int
  m : Int
  d : Int
def IsParts (day : Int) (p : Parts) : Prop := 1 ≤ p.d ∧ p.d ≤ mlenD p.y p.m ∧ dayD p.y p.m p.d = day
theorem parts_in {day : Int} {p : Parts} (h : IsParts day p) : (1900 ≤ p.y ∧ p.y ≤ 2199) ∧ (1 ≤ p.m ∧ p.m ≤ 12) ∧ (nyD p.y ≤ day ∧ day < nyD (p.y + 1)) ∧ (befD p.y p.m ≤ day - nyD p.y ∧ day - nyD p.y < befD p.y (p.m + 1)) ∧ (1 ≤ p.d ∧ p.d ≤ 31) ∧ 0 ≤ day ∧ day ≤ 109572 := by
  obtain ⟨h1, h2, h3⟩ := h
  obtain ⟨⟨a1, a2⟩, a3, a4⟩ := mlen_in h1 h2
  have b1 := bef_step a1 a2 a3 a4
  have b2 := bef_mono (y := p.y) (m := p.m + 1) (n := 13) (by omega) (by omega) (by omega)
  have b3 := bef_mono (y := p.y) (m := 1) (n := p.m) (by omega) (by omega) (by omega)
  rw [bef_end a1 a2] at b2
  rw [bef_first] at b3
  have b4 := ny_step a1 a2
  have b5 := ny_rng a1 (by omega)
  have b6 := ny_rng (y := p.y + 1) (by omega) (by omega)
  have b7 := mlen_rng a1 a2 a3 a4
  unfold dayD at h3
  omega
theorem parts_uniq {day : Int} {p q : Parts} (hp : IsParts day p) (hq : IsParts day q) : p = q := by
  have a := parts_in hp
  have b := parts_in hq
  have hy : p.y = q.y := by
    have c1 := fun h : p.y + 1 ≤ q.y => ny_mono h
    have c2 := fun h : q.y + 1 ≤ p.y => ny_mono h
    omega
  have hm : p.m = q.m := by
    rw [hy] at a
    have c1 := fun h : p.m + 1 ≤ q.m => bef_mono (y := q.y) (m := p.m + 1) (n := q.m) (by omega) (by omega) h
    have c2 := fun h : q.m + 1 ≤ p.m => bef_mono (y := q.y) (m := q.m + 1) (n := p.m) (by omega) (by omega) h
    omega
  have hd : p.d = q.d := by
    have e1 := hp.2.2
    have e2 := hq.2.2
    unfold dayD at e1 e2
    rw [hy, hm] at e1
    omega
  cases p; cases q; simp_all
open Classical in
noncomputable def partsP (day : Int) : Parts := if h : ∃ p, IsParts day p then h.choose else ⟨0, 0, 0⟩
theorem parts_eq {day : Int} {p : Parts} (h : IsParts day p) : partsP day = p := by
  have he : ∃ p, IsParts day p := ⟨p, h⟩
  unfold partsP
  rw [dif_pos he]
  exact parts_uniq he.choose_spec h
theorem parts_mk {day y m : Int} (hy : 1900 ≤ y) (hy2 : y ≤ 2199) (hm : 1 ≤ m) (hm2 : m ≤ 12) (h1 : befD y m ≤ day - nyD y) (h2 : day - nyD y < befD y (m + 1)) : IsParts day ⟨y, m, day - nyD y - befD y m + 1⟩ := by
  have := bef_step hy hy2 hm hm2
  refine ⟨?_, ?_, ?_⟩ <;> simp only [dayD] <;> omega
end Pl

/- Dates: from day to day, and months on. -/
namespace Pl
set_option linter.unusedVariables false
set_option linter.unusedSimpArgs false
def nextP (p : Parts) : Parts := if p.d < mlenD p.y p.m then ⟨p.y, p.m, p.d + 1⟩ else if p.m < 12 then ⟨p.y, p.m + 1, 1⟩ else ⟨p.y + 1, 1, 1⟩
theorem next_is {day : Int} {p : Parts} (h : IsParts day p) (hd : day < 109572) : IsParts (day + 1) (nextP p) := by
  obtain ⟨⟨a1, a2⟩, ⟨a3, a4⟩, ⟨a5, a6⟩, ⟨a7, a8⟩, ⟨a9, a10⟩, a11, a12⟩ := parts_in h
  obtain ⟨h1, h2, h3⟩ := h
  have b1 := bef_step a1 a2 a3 a4
  have b2 := ny_step a1 a2
  have b3 := bef_end a1 a2
  unfold dayD at h3
  unfold nextP
  by_cases c1 : p.d < mlenD p.y p.m
  · rw [if_pos c1]
    refine ⟨?_, ?_, ?_⟩ <;> simp only [dayD] <;> omega
  · rw [if_neg c1]
    by_cases c2 : p.m < 12
    · rw [if_pos c2]
      have b4 := mlen_rng a1 a2 (m := p.m + 1) (by omega) (by omega)
      refine ⟨?_, ?_, ?_⟩ <;> simp only [dayD] <;> omega
    · rw [if_neg c2]
      have e12 : p.m = 12 := by omega
      rw [e12] at b1
      rw [show (12 : Int) + 1 = 13 from rfl, b3] at b1
      rw [e12] at h3 h2 c1
      have hy : p.y ≤ 2198 := by
        apply Classical.byContradiction
        intro hn
        have : p.y = 2199 := by omega
        rw [this] at b2 b1 h3 c1 h2
        rw [show (2199 : Int) + 1 = 2200 from rfl, ny_end] at b2
        omega
      have b4 := mlen_rng (y := p.y + 1) (m := 1) (by omega) (by omega) (by omega) (by omega)
      refine ⟨?_, ?_, ?_⟩ <;> simp only [dayD, bef_first] <;> omega
theorem is_first : IsParts 0 ⟨1900, 1, 1⟩ := ⟨by decide, by decide, by decide⟩
theorem has_parts : ∀ n : Nat, n ≤ 109572 → ∃ p, IsParts (n : Int) p
  | 0, _ => ⟨_, is_first⟩
  | n + 1, h => by
    obtain ⟨p, hp⟩ := has_parts n (by omega)
    refine ⟨nextP p, ?_⟩
    have := next_is hp (by omega)
    rwa [show ((n + 1 : Nat) : Int) = (n : Int) + 1 by omega]
theorem parts_is {day : Int} (h0 : 0 ≤ day) (h1 : day ≤ 109572) : IsParts day (partsP day) := by
  obtain ⟨p, hp⟩ := has_parts day.toNat (by omega)
  rw [show (day.toNat : Int) = day by omega] at hp
  rw [parts_eq hp]
  exact hp
theorem parts_next {day : Int} (h0 : 0 ≤ day) (h1 : day < 109572) : partsP (day + 1) = nextP (partsP day) := parts_eq (next_is (parts_is h0 (by omega)) h1)
theorem parts_of {y m d : Int} (h1 : 1 ≤ d) (h2 : d ≤ mlenD y m) : partsP (dayD y m d) = ⟨y, m, d⟩ := parts_eq ⟨h1, h2, rfl⟩
def knownB (day : Int) : Bool := decide (0 ≤ day ∧ day ≤ 109572)
/-- some months on -/
noncomputable def monK (day n : Int) : Int := 12 * (partsP day).y + (partsP day).m - 1 + n
noncomputable def monthsR (day n : Int) : Int × Int :=
  if ¬ (0 ≤ day ∧ day ≤ 109572) ∨ (n < -3600 ∨ 3600 < n) then (0, 2)
  else if monK day n < 22800 ∨ 26399 < monK day n then (0, 2)
  else (dayD (monK day n / 12) (monK day n % 12 + 1) (min (partsP day).d (mlenD (monK day n / 12) (monK day n % 12 + 1))), 0)
theorem mon_in {day n : Int} (h : 0 ≤ day ∧ day ≤ 109572) (h2 : ¬ (monK day n < 22800 ∨ 26399 < monK day n)) :
    1 ≤ min (partsP day).d (mlenD (monK day n / 12) (monK day n % 12 + 1)) ∧ min (partsP day).d (mlenD (monK day n / 12) (monK day n % 12 + 1)) ≤ mlenD (monK day n / 12) (monK day n % 12 + 1) := by
  have a := parts_in (parts_is h.1 h.2)
  have b := mlen_rng (y := monK day n / 12) (m := monK day n % 12 + 1) (by omega) (by omega) (by omega) (by omega)
  omega
theorem months_a {day n : Int} (h : ¬ (0 ≤ day ∧ day ≤ 109572) ∨ (n < -3600 ∨ 3600 < n)) : monthsR day n = (0, 2) := if_pos h
theorem months_b {day n : Int} (h : (0 ≤ day ∧ day ≤ 109572) ∧ -3600 ≤ n ∧ n ≤ 3600) (h2 : monK day n < 22800 ∨ 26399 < monK day n) : monthsR day n = (0, 2) := by
  unfold monthsR; rw [if_neg (by omega), if_pos h2]
theorem months_c {day n : Int} (h : (0 ≤ day ∧ day ≤ 109572) ∧ -3600 ≤ n ∧ n ≤ 3600) (h2 : ¬ (monK day n < 22800 ∨ 26399 < monK day n)) :
    monthsR day n = ofR (monK day n / 12) (monK day n % 12 + 1) (min (partsP day).d (mlenD (monK day n / 12) (monK day n % 12 + 1))) := by
  have a := mon_in h.1 h2
  rw [of_ok a.1 a.2]
  unfold monthsR; rw [if_neg (by omega), if_neg h2]
theorem months_zero {day : Int} (h : 0 ≤ day ∧ day ≤ 109572) : monthsR day 0 = (day, 0) := by
  have a := parts_is h.1 h.2
  have b := parts_in a
  have hk : monK day 0 = 12 * (partsP day).y + (partsP day).m - 1 := by unfold monK; omega
  have e1 : monK day 0 / 12 = (partsP day).y := by omega
  have e2 : monK day 0 % 12 + 1 = (partsP day).m := by omega
  have c := months_c (n := 0) ⟨h, by omega, by omega⟩ (by omega)
  rw [e1, e2] at c
  have hm : min (partsP day).d (mlenD (partsP day).y (partsP day).m) = (partsP day).d := Int.min_eq_left a.2.1
  rw [c, hm, of_ok a.1 a.2.1, a.2.2]
theorem months_parts {day n : Int} (h : (0 ≤ day ∧ day ≤ 109572) ∧ -3600 ≤ n ∧ n ≤ 3600) (h2 : ¬ (monK day n < 22800 ∨ 26399 < monK day n)) :
    (monthsR day n).2 = 0 ∧ IsParts (monthsR day n).1 ⟨monK day n / 12, monK day n % 12 + 1, min (partsP day).d (mlenD (monK day n / 12) (monK day n % 12 + 1))⟩ := by
  have a := mon_in h.1 h2
  rw [months_c h h2, of_ok a.1 a.2]
  exact ⟨rfl, a.1, a.2, rfl⟩
end Pl

/- Numbers as text. -/
namespace Pl
open Go Ab
set_option linter.unusedVariables false
set_option linter.unusedSimpArgs false
theorem dig_eq {x : Int} (h0 : 0 ≤ x) (h1 : x < 10) : Ab.byteOf (D.int IntKind.u8 (IntKind.u8.wrap (IntKind.i64.wrap (48 + x)))) = UInt8.ofNat (48 + x.toNat) := by
  rw [wrap_i64 (by omega) (by omega)]
  have e : IntKind.u8.wrap (48 + x) = 48 + x := by rw [IntKind.wrap_u8]; omega
  rw [e]
  have : (48 + x).toNat = 48 + x.toNat := by omega
  simp [Ab.byteOf, this]
theorem itoa_pos {n : Int} (h : 0 ≤ n) : Go.Lib.itoa n = Go.Lib.decDigits n.toNat := by unfold Go.Lib.itoa; rw [if_neg (by omega)]
theorem itoa_len {n : Int} (h0 : 0 ≤ n) (h1 : n ≤ 9223372036854775807) : (Go.Lib.itoa n).length ≤ 21 := Go.Lib.itoa_length_le n (by omega) h1
theorem dec_step {x : Int} (h : 10 ≤ x) (s : List UInt8) :
    Go.Lib.decDigits (x.tdiv 10).toNat ++ (Ab.byteOf (D.int IntKind.u8 (IntKind.u8.wrap (IntKind.i64.wrap (48 + x.tmod 10)))) :: s) = Go.Lib.decDigits x.toNat ++ s := by
  rw [Int.tmod_eq_emod_of_nonneg (by omega), dig_eq (by omega) (by omega), Int.tdiv_eq_ediv_of_nonneg (by omega)]
  have e1 : (x / 10).toNat = x.toNat / 10 := by omega
  have e2 : (x % 10).toNat = x.toNat % 10 := by omega
  rw [e1, e2]
  conv => rhs; rw [Go.Lib.decDigits, dif_neg (by omega)]
  simp
theorem dec_last {x : Int} (h0 : 0 ≤ x) (h : x < 10) (s : List UInt8) :
    Ab.byteOf (D.int IntKind.u8 (IntKind.u8.wrap (IntKind.i64.wrap (48 + x)))) :: s = Go.Lib.decDigits x.toNat ++ s := by
  rw [dig_eq h0 h, Go.Lib.decDigits, dif_pos (by omega)]; rfl
end Pl

/- Dates as text. -/
namespace Pl
open Go Ab
set_option linter.unusedVariables false
set_option linter.unusedSimpArgs false
def digC (n : Int) : UInt8 := UInt8.ofNat (48 + (n % 10).toNat)
theorem digC_val (n : Int) : (digC n).toNat = 48 + (n % 10).toNat := by
  have : (n % 10).toNat < 10 := by omega
  simp [digC, UInt8.toNat_ofNat]; omega
/-- the last digits of a number -/
def digD (n : Int) : Nat → List UInt8
  | 0 => []
  | w + 1 => digD (n / 10) w ++ [digC n]
theorem digD_len : ∀ (w : Nat) (n : Int), (digD n w).length = w
  | 0, _ => rfl
  | w + 1, n => by simp [digD, digD_len w]
theorem digD_zero : ∀ w : Nat, digD 0 w = List.replicate w 48
  | 0 => rfl
  | w + 1 => by
    rw [digD, show (0 : Int) / 10 = 0 from rfl, digD_zero w, show digC 0 = 48 from rfl, ← List.replicate_succ']
theorem itoa_small {n : Int} (h0 : 0 ≤ n) (h : n < 10) : Go.Lib.itoa n = [digC n] := by
  rw [itoa_pos h0, Go.Lib.decDigits, dif_pos (by omega)]
  have : (n % 10).toNat = n.toNat := by omega
  simp [digC, this]
theorem itoa_big {n : Int} (h : 10 ≤ n) : Go.Lib.itoa n = Go.Lib.itoa (n / 10) ++ [digC n] := by
  rw [itoa_pos (by omega), itoa_pos (n := n / 10) (by omega), Go.Lib.decDigits, dif_neg (by omega)]
  have e1 : (n / 10).toNat = n.toNat / 10 := by omega
  have e2 : (n % 10).toNat = n.toNat % 10 := by omega
  rw [e1, digC, e2]
theorem pad_eq : ∀ (w : Nat) (n : Int), 0 ≤ n → n < 10 ^ (w + 1) → (Go.Lib.itoa n).length ≤ w + 1 ∧ List.replicate (w + 1 - (Go.Lib.itoa n).length) 48 ++ Go.Lib.itoa n = digD n (w + 1)
  | 0, n, h0, h => by
    rw [itoa_small h0 (by simpa using h)]
    simp [digD]
  | w + 1, n, h0, h => by
    by_cases hn : n < 10
    · rw [itoa_small h0 hn]
      refine ⟨by simp, ?_⟩
      rw [digD, show n / 10 = 0 by omega, digD_zero]
      simp
    · have h' : n / 10 < 10 ^ (w + 1) := by
        rw [Int.pow_succ] at h
        omega
      obtain ⟨a, b⟩ := pad_eq w (n / 10) (by omega) h'
      rw [itoa_big (by omega)]
      refine ⟨by simp; omega, ?_⟩
      rw [digD, ← b, List.length_append, List.length_singleton, show w + 1 + 1 - ((Go.Lib.itoa (n / 10)).length + 1) = w + 1 - (Go.Lib.itoa (n / 10)).length by omega, List.append_assoc]
def isDig (b : UInt8) : Bool := decide (48 ≤ b.toNat ∧ b.toNat ≤ 57)
def valF : Int → List UInt8 → Int
  | a, [] => a
  | a, b :: l => valF (10 * a + ((b.toNat : Int) - 48)) l
theorem valF_app : ∀ (l : List UInt8) (a : Int) (b : UInt8), valF a (l ++ [b]) = 10 * valF a l + ((b.toNat : Int) - 48)
  | [], a, b => rfl
  | x :: l, a, b => by simp only [List.cons_append, valF]; exact valF_app l _ b
theorem digC_dig (n : Int) : isDig (digC n) = true := by
  unfold isDig; rw [digC_val, decide_eq_true_iff]; omega
theorem digD_dig : ∀ (w : Nat) (n : Int), (digD n w).all isDig = true
  | 0, _ => rfl
  | w + 1, n => by simp [digD, digD_dig w, digC_dig, -List.all_eq_true]
theorem digD_val : ∀ (w : Nat) (n : Int), 0 ≤ n → n < 10 ^ w → valF 0 (digD n w) = n
  | 0, n, h0, h => by simp [digD, valF] at *; omega
  | w + 1, n, h0, h => by
    have h' : n / 10 < 10 ^ w := by
      rw [Int.pow_succ] at h
      omega
    rw [digD, valF_app, digD_val w (n / 10) (by omega) h', digC_val]
    omega
theorem dec_val : ∀ (l : List UInt8) (a : Nat), l.all isDig = true → ∃ n : Nat, Go.Lib.decFrom a l = some n ∧ (n : Int) = valF a l
  | [], a, _ => ⟨a, rfl, rfl⟩
  | b :: l, a, h => by
    simp only [List.all_cons, Bool.and_eq_true] at h
    have hb : 48 ≤ b.toNat ∧ b.toNat ≤ 57 := by simpa [isDig] using h.1
    obtain ⟨n, h1, h2⟩ := dec_val l (a * 10 + (b.toNat - 48)) h.2
    refine ⟨n, ?_, ?_⟩
    · simp only [Go.Lib.decFrom, Go.Lib.digitVal, if_pos hb]
      exact h1
    · rw [h2]
      simp only [valF]
      congr 1
      omega
theorem atoi_val {l : List UInt8} (hn : l ≠ []) (h : l.all isDig = true) : Go.Lib.atoi l = some (valF 0 l) := by
  match l, hn with
  | b :: r, _ =>
    have hb : 48 ≤ b.toNat ∧ b.toNat ≤ 57 := by
      simp only [List.all_cons, Bool.and_eq_true] at h
      simpa [isDig] using h.1
    have n1 : (b == 45) = false := by
      rw [beq_eq_false_iff_ne]; intro hh; rw [hh] at hb; exact absurd hb (by decide)
    have n2 : (b == 43) = false := by
      rw [beq_eq_false_iff_ne]; intro hh; rw [hh] at hb; exact absurd hb (by decide)
    obtain ⟨n, h1, h2⟩ := dec_val (b :: r) 0 h
    simp only [Go.Lib.atoi, n1, n2, Go.Lib.decNat, List.isEmpty_cons]
    simp only [Bool.false_eq_true, if_false]
    rw [h1]
    simp [h2]
/-- a text's number -/
def numR (s : List UInt8) : Int × Bool := if s.all isDig = true then (valF 0 s, true) else (0, false)
theorem num_ok {s : List UInt8} (h : s.all isDig = true) : numR s = (valF 0 s, true) := if_pos h
theorem num_bad {s : List UInt8} (h : ¬ s.all isDig = true) : numR s = (0, false) := if_neg h
/-- a date's text -/
noncomputable def formatR (day : Int) : List UInt8 :=
  if 0 ≤ day ∧ day ≤ 109572 then digD (partsP day).y 4 ++ [45] ++ digD (partsP day).m 2 ++ [45] ++ digD (partsP day).d 2 else []
def formB (s : List UInt8) : Prop := s.length = 10 ∧ s[4]? = some 45 ∧ s[7]? = some 45 ∧ (s.take 4).all isDig = true ∧ ((s.drop 5).take 2).all isDig = true ∧ (s.drop 8).all isDig = true
instance (s : List UInt8) : Decidable (formB s) := by unfold formB; infer_instance
def parseR (s : List UInt8) : Int × Int := if formB s then ofR (valF 0 (s.take 4)) (valF 0 ((s.drop 5).take 2)) (valF 0 (s.drop 8)) else (0, 3)
theorem parse_text {y m d : Int} (hy : 0 ≤ y ∧ y < 10000) (hm : 0 ≤ m ∧ m < 100) (hd : 0 ≤ d ∧ d < 100) : parseR (digD y 4 ++ [45] ++ digD m 2 ++ [45] ++ digD d 2) = ofR y m d := by
  have vy := digD_val 4 y hy.1 (by simpa using hy.2)
  have vm := digD_val 2 m hm.1 (by simpa using hm.2)
  have vd := digD_val 2 d hd.1 (by simpa using hd.2)
  have gy := digD_dig 4 y
  have gm := digD_dig 2 m
  have gd := digD_dig 2 d
  have ly := digD_len 4 y
  have lm := digD_len 2 m
  have ld := digD_len 2 d
  generalize digD y 4 = a at *
  generalize digD m 2 = b at *
  generalize digD d 2 = c at *
  match a, ly, b, lm, c, ld with
  | [a1, a2, a3, a4], _, [b1, b2], _, [c1, c2], _ =>
    unfold parseR
    rw [if_pos]
    · simp only [List.cons_append, List.nil_append, List.append_assoc, List.take_succ_cons, List.take_zero, List.drop_succ_cons, List.drop_zero]
      rw [vy, vm, vd]
    · refine ⟨by simp, by simp, by simp, ?_, ?_, ?_⟩
      · simpa using gy
      · simpa using gm
      · simpa using gd
theorem parse_format {day : Int} (h : 0 ≤ day ∧ day ≤ 109572) : parseR (formatR day) = (day, 0) := by
  have a := parts_is h.1 h.2
  have b := parts_in a
  unfold formatR
  rw [if_pos h, parse_text (by omega) (by omega) (by omega), of_ok a.1 a.2.1, a.2.2]
end Pl

/- Dates: what the laws ask. -/
namespace Pl
set_option linter.unusedVariables false
set_option linter.unusedSimpArgs false
theorem later_ok {day : Int} (h0 : 0 ≤ day) (h1 : day < 109572) :
    ((partsP (day + 1)).y = (partsP day).y ∧ (partsP (day + 1)).m = (partsP day).m ∧ (partsP (day + 1)).d = (partsP day).d + 1) ∨
    ((partsP (day + 1)).y = (partsP day).y ∧ (partsP (day + 1)).m = (partsP day).m + 1 ∧ (partsP (day + 1)).d = 1 ∧ (partsP day).d = mlenD (partsP day).y (partsP day).m) ∨
    ((partsP (day + 1)).y = (partsP day).y + 1 ∧ (partsP (day + 1)).m = 1 ∧ (partsP (day + 1)).d = 1 ∧ (partsP day).m = 12 ∧ (partsP day).d = 31) := by
  have a := parts_is h0 (by omega)
  have b := parts_in a
  obtain ⟨c1, c2, c3⟩ := a
  rw [parts_next h0 h1]
  generalize partsP day = p at *
  unfold nextP
  split
  · exact .inl ⟨rfl, rfl, rfl⟩
  · split
    · exact .inr (.inl ⟨rfl, rfl, rfl, by omega⟩)
    · have e : p.m = 12 := by omega
      refine .inr (.inr ⟨rfl, rfl, rfl, e, ?_⟩)
      have : mlenD p.y p.m = 31 := by
        rw [mlen_ok b.1.1 b.1.2 b.2.1.1 b.2.1.2, e]
        simp [tblD]
      omega
theorem steps_ok {day n : Int} (h : (0 ≤ day ∧ day ≤ 109572) ∧ -3600 ≤ n ∧ n ≤ 3600) (h2 : ¬ (monK day n < 22800 ∨ 26399 < monK day n)) :
    (monthsR day n).2 = 0 ∧ (0 ≤ (monthsR day n).1 ∧ (monthsR day n).1 ≤ 109572) ∧ 12 * (partsP (monthsR day n).1).y + (partsP (monthsR day n).1).m - 1 = monK day n ∧
    ((partsP (monthsR day n).1).d = (partsP day).d ∨ ((partsP (monthsR day n).1).d < (partsP day).d ∧ (partsP (monthsR day n).1).d = mlenD (partsP (monthsR day n).1).y (partsP (monthsR day n).1).m)) := by
  obtain ⟨a1, a2⟩ := months_parts h h2
  have b := parts_in a2
  rw [parts_eq a2]
  simp only at b ⊢
  refine ⟨a1, ⟨b.2.2.2.2.2.1, b.2.2.2.2.2.2⟩, by omega, by omega⟩
end Pl

/- Dates: the tables of months as the walks read them. -/
namespace Pl
open Go Ab
set_option linter.unusedVariables false
set_option linter.unusedSimpArgs false
theorem month_cases {m : Int} (h : 1 ≤ m ∧ m ≤ 12) : m = 1 ∨ m = 2 ∨ m = 3 ∨ m = 4 ∨ m = 5 ∨ m = 6 ∨ m = 7 ∨ m = 8 ∨ m = 9 ∨ m = 10 ∨ m = 11 ∨ m = 12 := by omega
theorem tbl_row {m : Int} (h : 1 ≤ m ∧ m ≤ 12) : (([D.int IntKind.i64 31, D.int IntKind.i64 28, D.int IntKind.i64 31, D.int IntKind.i64 30, D.int IntKind.i64 31, D.int IntKind.i64 30, D.int IntKind.i64 31, D.int IntKind.i64 31, D.int IntKind.i64 30, D.int IntKind.i64 31, D.int IntKind.i64 30, D.int IntKind.i64 31][m.toNat - 1]?.getD (D.int IntKind.i64 0)).cells[0]?.getD (D.int IntKind.i64 0)) = D.int IntKind.i64 (tblD m) := by
  rcases month_cases h with rfl | rfl | rfl | rfl | rfl | rfl | rfl | rfl | rfl | rfl | rfl | rfl <;> rfl
theorem tbl_arr {m : Int} (h : 1 ≤ m ∧ m ≤ 12) : ([D.int IntKind.i64 31, D.int IntKind.i64 28, D.int IntKind.i64 31, D.int IntKind.i64 30, D.int IntKind.i64 31, D.int IntKind.i64 30, D.int IntKind.i64 31, D.int IntKind.i64 31, D.int IntKind.i64 30, D.int IntKind.i64 31, D.int IntKind.i64 30, D.int IntKind.i64 31][m.toNat - 1]?.getD (D.int IntKind.i64 0)) = D.int IntKind.i64 (tblD m) := by
  rcases month_cases h with rfl | rfl | rfl | rfl | rfl | rfl | rfl | rfl | rfl | rfl | rfl | rfl <;> rfl
theorem bef_arr {m : Int} (h : 1 ≤ m ∧ m ≤ 12) : ([D.int IntKind.i64 0, D.int IntKind.i64 31, D.int IntKind.i64 59, D.int IntKind.i64 90, D.int IntKind.i64 120, D.int IntKind.i64 151, D.int IntKind.i64 181, D.int IntKind.i64 212, D.int IntKind.i64 243, D.int IntKind.i64 273, D.int IntKind.i64 304, D.int IntKind.i64 334][m.toNat - 1]?.getD (D.int IntKind.i64 0)) = D.int IntKind.i64 (befT m) := by
  rcases month_cases h with rfl | rfl | rfl | rfl | rfl | rfl | rfl | rfl | rfl | rfl | rfl | rfl <;> rfl
theorem befT_rng (m : Int) : 0 ≤ befT m ∧ befT m ≤ 365 := by unfold befT; repeat' split <;> omega
theorem mlen_out {y m : Int} (h : (y < 1900 ∨ 2199 < y) ∨ (m < 1 ∨ 12 < m)) : mlenD y m = 0 := if_pos h
theorem mlen_29 {y m : Int} (hy : 1900 ≤ y) (hy2 : y ≤ 2199) (h : m = 2) (hl : leapB y = true) : mlenD y m = 29 := by subst h; rw [mlen_ok hy hy2 (by omega) (by omega), if_pos ⟨rfl, hl⟩]
theorem mlen_tbl {y m : Int} (hy : 1900 ≤ y) (hy2 : y ≤ 2199) (hm : 1 ≤ m) (hm2 : m ≤ 12) (h : ¬ (m = 2 ∧ leapB y = true)) : mlenD y m = tblD m := by rw [mlen_ok hy hy2 hm hm2, if_neg h]
/-- the parts of a day, or the error -/
noncomputable def partsR (day : Int) : Int × Int × Int × Int := if 0 ≤ day ∧ day ≤ 109572 then ((partsP day).y, (partsP day).m, (partsP day).d, 0) else (0, 0, 0, 2)
theorem partsR_ok {day : Int} (h : 0 ≤ day ∧ day ≤ 109572) : partsR day = ((partsP day).y, (partsP day).m, (partsP day).d, 0) := if_pos h
theorem partsR_bad {day : Int} (h : ¬ (0 ≤ day ∧ day ≤ 109572)) : partsR day = (0, 0, 0, 2) := if_neg h
theorem partsR_known {day : Int} (h : (partsR day).2.2.2 = 0) : 0 ≤ day ∧ day ≤ 109572 := by
  apply Classical.byContradiction
  intro hh
  rw [partsR_bad hh] at h
  exact absurd h (by decide)
theorem partsR_unknown {day : Int} (h : ¬ (partsR day).2.2.2 = 0) : ¬ (0 ≤ day ∧ day ≤ 109572) := fun hh => by
  rw [partsR_ok hh] at h
  exact h rfl
theorem repeat_eq : ∀ c : Nat, Go.Lib.repeatL [48] c = List.replicate c 48
  | 0 => rfl
  | c + 1 => by simp [Go.Lib.repeatL, repeat_eq c, List.replicate_succ]
theorem pad_rep (w : Nat) (n : Int) (h0 : 0 ≤ n) (h1 : n < 10 ^ (w + 1)) : (Go.Lib.itoa n).length ≤ w + 1 ∧ Go.Lib.repeatL [48] (w + 1 - (Go.Lib.itoa n).length) ++ Go.Lib.itoa n = digD n (w + 1) := by
  rw [repeat_eq]
  exact pad_eq w n h0 h1
theorem format_bad {day : Int} (h : ¬ (0 ≤ day ∧ day ≤ 109572)) : formatR day = [] := if_neg h
theorem format_ok {day : Int} (h : 0 ≤ day ∧ day ≤ 109572) : formatR day = digD (partsP day).y 4 ++ [45] ++ digD (partsP day).m 2 ++ [45] ++ digD (partsP day).d 2 := if_pos h
theorem map_byte : ∀ l : List UInt8, l.map (fun x => Ab.byteOf (D.int IntKind.u8 (x.toNat : Int))) = l
  | [] => rfl
  | x :: l => by rw [List.map_cons, map_byte l]; simp [Ab.byteOf]
theorem digC_int {x : Int} (h : 0 ≤ x) : IntKind.u8.wrap (IntKind.i64.wrap (48 + x.tmod 10)) = ((digC x).toNat : Int) := by
  rw [Int.tmod_eq_emod_of_nonneg h, wrap_i64 (by omega) (by omega), digC_val]
  have : IntKind.u8.wrap (48 + x % 10) = 48 + x % 10 := by rw [IntKind.wrap_u8]; omega
  omega
def digitsF : Unit → List UInt8 → Bool
  | _, [] => true
  | _, b :: l => if isDig b = true then digitsF () l else false
theorem digits_eq : ∀ l : List UInt8, digitsF () l = l.all isDig
  | [] => rfl
  | b :: l => by
    rw [digitsF, List.all_cons, digits_eq l]
    cases isDig b <;> simp
end Pl

/- Dates: reading a text. -/
namespace Pl
set_option linter.unusedVariables false
theorem num_snd (s : List UInt8) : (numR s).2 = true ↔ s.all isDig = true := by
  unfold numR; split <;> simp_all
theorem num_fst {s : List UInt8} (h : (numR s).2 = true) : (numR s).1 = valF 0 s := by rw [num_ok ((num_snd s).1 h)]
theorem at_some {s : List UInt8} {i : Nat} (hi : i < s.length) (h : (s[i]?.getD 0).toNat = 45) : s[i]? = some 45 := by
  rw [List.getElem?_eq_getElem hi] at h ⊢
  simp only [Option.getD_some] at h
  have : s[i] = 45 := UInt8.toNat_inj.1 h
  rw [this]
theorem at_none {s : List UInt8} {i : Nat} (h : ¬ (s[i]?.getD 0).toNat = 45) : ¬ s[i]? = some 45 := fun hh => h (by rw [hh]; rfl)
theorem parse_bad {s : List UInt8} (h : ¬ formB s) : parseR s = (0, 3) := if_neg h
theorem parse_good {s : List UInt8} (h : s.length = 10) (h4 : (s[4]?.getD 0).toNat = 45) (h7 : (s[7]?.getD 0).toNat = 45) (a : (numR (List.take 4 s)).2 = true) (b : (numR (List.drop 5 (List.take 7 s))).2 = true) (c : (numR (List.drop 8 s)).2 = true) :
    parseR s = ofR (numR (List.take 4 s)).1 (numR (List.drop 5 (List.take 7 s))).1 (numR (List.drop 8 s)).1 := by
  have e : List.drop 5 (List.take 7 s) = (s.drop 5).take 2 := by rw [List.drop_take]
  rw [num_fst a, num_fst b, num_fst c]
  rw [e] at b ⊢
  exact if_pos ⟨h, at_some (by omega) h4, at_some (by omega) h7, (num_snd _).1 a, (num_snd _).1 b, (num_snd _).1 c⟩
theorem parse_nonum {s : List UInt8} (h : ¬ (((numR (List.take 4 s)).2 = true ∧ (numR (List.drop 5 (List.take 7 s))).2 = true) ∧ (numR (List.drop 8 s)).2 = true)) : parseR s = (0, 3) := by
  refine parse_bad fun hh => h ?_
  have e : List.drop 5 (List.take 7 s) = (s.drop 5).take 2 := by rw [List.drop_take]
  rw [e]
  exact ⟨⟨(num_snd _).2 hh.2.2.2.1, (num_snd _).2 hh.2.2.2.2.1⟩, (num_snd _).2 hh.2.2.2.2.2⟩
theorem parse_nodash {s : List UInt8} (h : ¬ (s.length = 10 ∧ (s[4]?.getD 0).toNat = 45 ∧ (s[7]?.getD 0).toNat = 45)) : parseR s = (0, 3) := by
  refine parse_bad fun hh => h ⟨hh.1, ?_, ?_⟩
  · rw [hh.2.1]; rfl
  · rw [hh.2.2.1]; rfl
theorem take_ne {s : List UInt8} (h : s.length = 10) : List.take 4 s ≠ [] ∧ List.drop 5 (List.take 7 s) ≠ [] ∧ List.drop 8 s ≠ [] := by
  have key : ∀ l : List UInt8, 0 < l.length → l ≠ [] := fun l hl hh => by rw [hh] at hl; exact absurd hl (by decide)
  exact ⟨key _ (by rw [List.length_take]; omega), key _ (by rw [List.length_drop, List.length_take]; omega), key _ (by rw [List.length_drop]; omega)⟩
end Pl

/-
  DERIVED: THE SHELF's CONTRACTS AT THIS DUMP, IN PLAIN WORDS (tools/lay-plain.mjs out of 'TrydShelf.lean', which tools/lay-shelf.mjs wrote): THE SAME DECLARATIONS UNDER THE SAME NAMES: 'import', 'namespace', 'open', 'def', 'theorem' AND NOTHING ELSE: no command of the shelf's: FOR A HAND-IN. Each laying: the table of numbers ('.._ren') and one theorem, a field a fact of the dump's own or the kernel's comparison; each contract: ONE APPLICATION.
-/
namespace Go.Proofs
open Go.Shelf
def Tryd.lays170_ren : Go.Shelf.Ren := ⟨fun | 170 => 44 | n => n, fun | 70 => 53 | 3 => 3 | 0 => 0 | 72 => 55 | 37 => 42 | 5 => 5 | n => n, fun | n => n⟩
theorem Tryd.lays170 : Go.Proofs.Lays.n170 Tryd.prog Tryd.lays170_ren := {
  mixed := by kernel_rfl
  f170 := Tryd.func44.trans (congrArg some (by kernel_rfl))
  t0 := Tryd.underlying0
  a0 := Tryd.isAgg0
  z0 := Tryd.sizeOf0
  v0 := Tryd.zeroValue0
  t3 := Tryd.underlying3
  a3 := Tryd.isAgg3
  z3 := Tryd.sizeOf3
  v3 := Tryd.zeroValue3
  t37 := Tryd.underlying42
  a37 := Tryd.isAgg42
  z37 := Tryd.sizeOf42
  v37 := Tryd.zeroValue42
  t70 := Tryd.underlying53
  a70 := Tryd.isAgg53
  z70 := Tryd.sizeOf53
  v70 := Tryd.zeroValue53
  t72 := Tryd.underlying55
  a72 := Tryd.isAgg55
  z72 := Tryd.sizeOf55
  v72 := Tryd.zeroValue55 }
open Go.RowKit in
/-- (*strings.Builder).Len: "Len returns the number of accumulated bytes; b.Len() == len(b.String()).": the world is as it was. (LAID: no walk: one application.) -/
theorem Tryd.Builder_Len (B b : Nat) (bs : List Value) (w : World) (h : Lib.IsBuilder 55 5 B b bs w) :
    Calls Tryd.prog 44 #[.pointer (some ⟨b, 0, none⟩)] w fun e w' => e = .returned (.int .i64 bs.length) ∧ w' = w := Any.Builder_Len Tryd.lays170 B b bs w h
def Tryd.lays169_ren : Go.Shelf.Ren := ⟨fun | 169 => 45 | n => n, fun | 70 => 53 | 9 => 9 | 0 => 0 | 72 => 55 | 37 => 42 | 127 => 72 | 3 => 3 | 5 => 5 | n => n, fun | n => n⟩
theorem Tryd.lays169 : Go.Proofs.Lays.n169 Tryd.prog Tryd.lays169_ren := {
  mixed := by kernel_rfl
  f169 := Tryd.func45.trans (congrArg some (by kernel_rfl))
  t0 := Tryd.underlying0
  a0 := Tryd.isAgg0
  z0 := Tryd.sizeOf0
  v0 := Tryd.zeroValue0
  t3 := Tryd.underlying3
  a3 := Tryd.isAgg3
  z3 := Tryd.sizeOf3
  v3 := Tryd.zeroValue3
  t9 := Tryd.underlying9
  a9 := Tryd.isAgg9
  z9 := Tryd.sizeOf9
  v9 := Tryd.zeroValue9
  t37 := Tryd.underlying42
  a37 := Tryd.isAgg42
  z37 := Tryd.sizeOf42
  v37 := Tryd.zeroValue42
  t70 := Tryd.underlying53
  a70 := Tryd.isAgg53
  z70 := Tryd.sizeOf53
  v70 := Tryd.zeroValue53
  t72 := Tryd.underlying55
  a72 := Tryd.isAgg55
  z72 := Tryd.sizeOf55
  v72 := Tryd.zeroValue55
  t127 := Tryd.underlying72
  a127 := Tryd.isAgg72
  z127 := Tryd.sizeOf72
  v127 := Tryd.zeroValue72 }
theorem Tryd.Builder_Extra_169 : Builder.Extra Tryd.prog Tryd.lays169_ren := {
  sizeBuilder := by kernel_rfl
  liesBuilder := by kernel_rfl
  t5 := Tryd.underlying5
  a5 := Tryd.isAgg5
  z5 := Tryd.sizeOf5
  v5 := Tryd.zeroValue5
  infoByte := by kernel_rfl
  cellsByte := by kernel_rfl
  sizeByte := by kernel_rfl
  neB5 := by decide }
open Go.RowKit in
/-- (*strings.Builder).String: "String returns the accumulated string.": OF A BUILDER THAT HOLDS AT LEAST ONE BYTE. ✋ THE MODEL FREEZES THOSE BYTES IN THE BUFFER (unsafe.String): a later write INTO them ends the model's run without an answer; a later append BEHIND them goes on. The statement's order of evaluation is drawn: one draw. (LAID: no walk: one application.) -/
theorem Tryd.Builder_String (B b : Nat) (l : List UInt8) (w : World) (h : Lib.IsBuilder 55 5 B b (Lib.byteCells l) w) (h0 : l ≠ []) :
    Calls Tryd.prog 45 #[.pointer (some ⟨b, 0, none⟩)] w fun e w' => e = .returned (.string ⟨l.toArray⟩) ∧ Below B w w' := Any.Builder_String Tryd.lays169 Tryd.Builder_Extra_169 B b l w h h0
open Go.RowKit in
/-- (*strings.Builder).String OF A BUILDER THAT HOLDS NO BYTE: the empty string. (Its buffer is nil, or a row of which it has taken nothing yet; where that row has NO capacity the model lays one new block for unsafe.SliceData's 'some address'.) One draw. (LAID: no walk: one application.) -/
theorem Tryd.Builder_String_empty (B b : Nat) (w : World) (h : Lib.IsBuilder 55 5 B b [] w) (hBw : B ≤ w.heap.size) :
    Calls Tryd.prog 45 #[.pointer (some ⟨b, 0, none⟩)] w fun e w' => e = .returned (.string ⟨#[]⟩) ∧ Below B w w' := Any.Builder_String_empty Tryd.lays169 Tryd.Builder_Extra_169 B b w h hBw
open Go.RowKit in
/-- (*strings.Builder).String: "String returns the accumulated string.": WHATEVER THE BUILDER HOLDS. (LAID: no walk: one application.) -/
theorem Tryd.Builder_String_any (B b : Nat) (l : List UInt8) (w : World) (h : Lib.IsBuilder 55 5 B b (Lib.byteCells l) w) (hBw : B ≤ w.heap.size) :
    Calls Tryd.prog 45 #[.pointer (some ⟨b, 0, none⟩)] w fun e w' => e = .returned (.string ⟨l.toArray⟩) ∧ Below B w w' := Any.Builder_String_any Tryd.lays169 Tryd.Builder_Extra_169 B b l w h hBw
def Tryd.lays241_ren : Go.Shelf.Ren := ⟨fun | 241 => 56 | 277 => 65 | n => n, fun | 70 => 53 | 3 => 3 | 0 => 0 | 72 => 55 | 37 => 42 | 5 => 5 | n => n, fun | n => n⟩
theorem Tryd.lays241 : Go.Proofs.Lays.n241 Tryd.prog Tryd.lays241_ren := {
  mixed := by kernel_rfl
  f241 := Tryd.func56.trans (congrArg some (by kernel_rfl))
  f277 := Tryd.func65.trans (congrArg some (by kernel_rfl))
  t0 := Tryd.underlying0
  a0 := Tryd.isAgg0
  z0 := Tryd.sizeOf0
  v0 := Tryd.zeroValue0
  t3 := Tryd.underlying3
  a3 := Tryd.isAgg3
  z3 := Tryd.sizeOf3
  v3 := Tryd.zeroValue3
  t37 := Tryd.underlying42
  a37 := Tryd.isAgg42
  z37 := Tryd.sizeOf42
  v37 := Tryd.zeroValue42
  t70 := Tryd.underlying53
  a70 := Tryd.isAgg53
  z70 := Tryd.sizeOf53
  v70 := Tryd.zeroValue53
  t72 := Tryd.underlying55
  a72 := Tryd.isAgg55
  z72 := Tryd.sizeOf55
  v72 := Tryd.zeroValue55 }
theorem Tryd.Builder_Extra_241 : Builder.Extra Tryd.prog Tryd.lays241_ren := {
  sizeBuilder := by kernel_rfl
  liesBuilder := by kernel_rfl
  t5 := Tryd.underlying5
  a5 := Tryd.isAgg5
  z5 := Tryd.sizeOf5
  v5 := Tryd.zeroValue5
  infoByte := by kernel_rfl
  cellsByte := by kernel_rfl
  sizeByte := by kernel_rfl
  neB5 := by decide }
open Go.RowKit in
/-- (*strings.Builder).grow (no doc but "grow copies the buffer to a new, larger buffer so that there are at least n bytes of capacity beyond len(b.buf)."): AT A BUILDER WITHOUT A BUFFER: a new row of whatever bytes for its buffer, none of them its own yet. Three draws. (LAID: no walk: one application.) -/
theorem Tryd.Builder_grow_fresh (B b n : Nat) (w : World) (hB : B ≤ b) (hbk : w.heap[b]? = some (.cells #[.pointer (some ⟨b, 0, none⟩), .slice none 0 0] 55 (0, 0))) (hBw : B ≤ w.heap.size) (hn : n ≤ 281474976710656) :
    Calls Tryd.prog 56 #[.pointer (some ⟨b, 0, none⟩), .int .i64 n] w fun e w' => e = .returned (.tuple #[]) ∧ (Lib.BuilderAt 55 5 B b (.pointer (some ⟨b, 0, none⟩)) [] w' ∧ Below B w w') := Any.Builder_grow_fresh Tryd.lays241 Tryd.Builder_Extra_241 B b n w hB hbk hBw hn
def Tryd.lays165_ren : Go.Shelf.Ren := ⟨fun | 165 => 42 | 240 => 55 | 241 => 56 | 276 => 64 | 277 => 65 | n => n, fun | 70 => 53 | 3 => 3 | 0 => 0 | 4 => 4 | 9 => 9 | 20 => 20 | 72 => 55 | 37 => 42 | 164 => 84 | 5 => 5 | n => n, fun | n => n⟩
theorem Tryd.lays165 : Go.Proofs.Lays.n165 Tryd.prog Tryd.lays165_ren := {
  mixed := by kernel_rfl
  f165 := Tryd.func42.trans (congrArg some (by kernel_rfl))
  f240 := Tryd.func55.trans (congrArg some (by kernel_rfl))
  f241 := Tryd.func56.trans (congrArg some (by kernel_rfl))
  f276 := Tryd.func64.trans (congrArg some (by kernel_rfl))
  f277 := Tryd.func65.trans (congrArg some (by kernel_rfl))
  t0 := Tryd.underlying0
  a0 := Tryd.isAgg0
  z0 := Tryd.sizeOf0
  v0 := Tryd.zeroValue0
  t3 := Tryd.underlying3
  a3 := Tryd.isAgg3
  z3 := Tryd.sizeOf3
  v3 := Tryd.zeroValue3
  t4 := Tryd.underlying4
  a4 := Tryd.isAgg4
  z4 := Tryd.sizeOf4
  v4 := Tryd.zeroValue4
  t9 := Tryd.underlying9
  a9 := Tryd.isAgg9
  z9 := Tryd.sizeOf9
  v9 := Tryd.zeroValue9
  t20 := Tryd.underlying20
  a20 := Tryd.isAgg20
  z20 := Tryd.sizeOf20
  v20 := Tryd.zeroValue20
  t37 := Tryd.underlying42
  a37 := Tryd.isAgg42
  z37 := Tryd.sizeOf42
  v37 := Tryd.zeroValue42
  t70 := Tryd.underlying53
  a70 := Tryd.isAgg53
  z70 := Tryd.sizeOf53
  v70 := Tryd.zeroValue53
  t72 := Tryd.underlying55
  a72 := Tryd.isAgg55
  z72 := Tryd.sizeOf55
  v72 := Tryd.zeroValue55
  t164 := Tryd.underlying84
  a164 := Tryd.isAgg84
  z164 := Tryd.sizeOf84
  v164 := Tryd.zeroValue84 }
theorem Tryd.Builder_Extra_165 : Builder.Extra Tryd.prog Tryd.lays165_ren := {
  sizeBuilder := by kernel_rfl
  liesBuilder := by kernel_rfl
  t5 := Tryd.underlying5
  a5 := Tryd.isAgg5
  z5 := Tryd.sizeOf5
  v5 := Tryd.zeroValue5
  infoByte := by kernel_rfl
  cellsByte := by kernel_rfl
  sizeByte := by kernel_rfl
  neB5 := by decide }
open Go.RowKit in
/-- (*strings.Builder).Grow AT A BUILDER THAT HAS NOT BEEN WRITTEN ('var b strings.Builder; b.Grow(n)'): "Grow grows b's capacity, if necessary, to guarantee space for another n bytes.": it holds no byte behind it as before it. (LAID: no walk: one application.) -/
theorem Tryd.Builder_Grow_fresh (B b n : Nat) (w : World) (hB : B ≤ b) (hbk : w.heap[b]? = some (.cells #[.pointer none, .slice none 0 0] 55 (0, 0))) (hBw : B ≤ w.heap.size) (hn : n ≤ 281474976710656) :
    Calls Tryd.prog 42 #[.pointer (some ⟨b, 0, none⟩), .int .i64 n] w fun e w' => e = .returned (.tuple #[]) ∧ (Lib.BuilderAt 55 5 B b (.pointer (some ⟨b, 0, none⟩)) [] w' ∧ Below B w w') := Any.Builder_Grow_fresh Tryd.lays165 Tryd.Builder_Extra_165 B b n w hB hbk hBw hn
open Go.RowKit in
/-- (*strings.Builder).Len: "Len returns the number of accumulated bytes; b.Len() == len(b.String()).": the world is as it was. (THE FORM '_f': 'Lib.IsBuilderF'.) (LAID: no walk: one application.) -/
theorem Tryd.Builder_Len_f (B b : Nat) (bs : List Value) (w : World) (h : Lib.IsBuilderF 55 5 B b bs w) :
    Calls Tryd.prog 44 #[.pointer (some ⟨b, 0, none⟩)] w fun e w' => e = .returned (.int .i64 bs.length) ∧ w' = w := Any.Builder_Len_f Tryd.lays170 B b bs w h
open Go.RowKit in
/-- (*strings.Builder).String: "String returns the accumulated string.": OF A BUILDER THAT HOLDS AT LEAST ONE BYTE. ✋ THE MODEL FREEZES THOSE BYTES IN THE BUFFER (unsafe.String): a later write INTO them ends the model's run without an answer; a later append BEHIND them goes on. The statement's order of evaluation is drawn: one draw. THE FORM '_f': IT SAYS BESIDES THAT THE BUILDER IS A BUILDER STILL ('Lib.IsBuilderF', the same bytes): SO IT CAN BE WRITTEN ON: 'b.WriteString(b.String()[:k])'. (LAID: no walk: one application.) -/
theorem Tryd.Builder_String_f (B b : Nat) (l : List UInt8) (w : World) (h : Lib.IsBuilderF 55 5 B b (Lib.byteCells l) w) (h0 : l ≠ []) :
    Calls Tryd.prog 45 #[.pointer (some ⟨b, 0, none⟩)] w fun e w' => e = .returned (.string ⟨l.toArray⟩) ∧ (Lib.IsBuilderF 55 5 B b (Lib.byteCells l) w' ∧ Below B w w') := Any.Builder_String_f Tryd.lays169 Tryd.Builder_Extra_169 B b l w h h0
open Go.RowKit in
/-- (*strings.Builder).String OF A BUILDER THAT HOLDS NO BYTE: the empty string; THE FORM '_f': a builder still. (LAID: no walk: one application.) -/
theorem Tryd.Builder_String_empty_f (B b : Nat) (w : World) (h : Lib.IsBuilderF 55 5 B b [] w) (hBw : B ≤ w.heap.size) :
    Calls Tryd.prog 45 #[.pointer (some ⟨b, 0, none⟩)] w fun e w' => e = .returned (.string ⟨#[]⟩) ∧ (Lib.IsBuilderF 55 5 B b [] w' ∧ Below B w w') := Any.Builder_String_empty_f Tryd.lays169 Tryd.Builder_Extra_169 B b w h hBw
open Go.RowKit in
/-- (*strings.Builder).String: "String returns the accumulated string.": WHATEVER THE BUILDER HOLDS; THE FORM '_f': OF A BUILDER THAT MAY HAVE BEEN READ BEFORE; AND IT IS A BUILDER STILL, holding the same bytes: it can be written on. (LAID: no walk: one application.) -/
theorem Tryd.Builder_String_any_f (B b : Nat) (l : List UInt8) (w : World) (h : Lib.IsBuilderF 55 5 B b (Lib.byteCells l) w) (hBw : B ≤ w.heap.size) :
    Calls Tryd.prog 45 #[.pointer (some ⟨b, 0, none⟩)] w fun e w' => e = .returned (.string ⟨l.toArray⟩) ∧ (Lib.IsBuilderF 55 5 B b (Lib.byteCells l) w' ∧ Below B w w') := Any.Builder_String_any_f Tryd.lays169 Tryd.Builder_Extra_169 B b l w h hBw
def Tryd.lays244_ren : Go.Shelf.Ren := ⟨fun | 244 => 37 | 247 => 46 | 287 => 57 | 321 => 66 | 322 => 67 | n => n, fun | 9 => 9 | 3 => 3 | 75 => 44 | 4 => 4 | 5 => 5 | 167 => 59 | 37 => 42 | 0 => 0 | 85 => 60 | 2 => 2 | 53 => 69 | 175 => 73 | 46 => 49 | 21 => 21 | 80 => 58 | n => n, fun | n => n⟩
theorem Tryd.lays244 : Go.Proofs.Lays.n244 Tryd.prog Tryd.lays244_ren := {
  mixed := by kernel_rfl
  f244 := Tryd.func37.trans (congrArg some (by kernel_rfl))
  f247 := Tryd.func46.trans (congrArg some (by kernel_rfl))
  f287 := Tryd.func57.trans (congrArg some (by kernel_rfl))
  f321 := Tryd.func66.trans (congrArg some (by kernel_rfl))
  f322 := Tryd.func67.trans (congrArg some (by kernel_rfl))
  t0 := Tryd.underlying0
  a0 := Tryd.isAgg0
  z0 := Tryd.sizeOf0
  v0 := Tryd.zeroValue0
  t2 := Tryd.underlying2
  a2 := Tryd.isAgg2
  z2 := Tryd.sizeOf2
  v2 := Tryd.zeroValue2
  t3 := Tryd.underlying3
  a3 := Tryd.isAgg3
  z3 := Tryd.sizeOf3
  v3 := Tryd.zeroValue3
  t4 := Tryd.underlying4
  a4 := Tryd.isAgg4
  z4 := Tryd.sizeOf4
  v4 := Tryd.zeroValue4
  t5 := Tryd.underlying5
  a5 := Tryd.isAgg5
  z5 := Tryd.sizeOf5
  v5 := Tryd.zeroValue5
  t9 := Tryd.underlying9
  a9 := Tryd.isAgg9
  z9 := Tryd.sizeOf9
  v9 := Tryd.zeroValue9
  t21 := Tryd.underlying21
  a21 := Tryd.isAgg21
  z21 := Tryd.sizeOf21
  v21 := Tryd.zeroValue21
  t37 := Tryd.underlying42
  a37 := Tryd.isAgg42
  z37 := Tryd.sizeOf42
  v37 := Tryd.zeroValue42
  t46 := Tryd.underlying49
  a46 := Tryd.isAgg49
  z46 := Tryd.sizeOf49
  v46 := Tryd.zeroValue49
  t53 := Tryd.underlying69
  a53 := Tryd.isAgg69
  z53 := Tryd.sizeOf69
  v53 := Tryd.zeroValue69
  t75 := Tryd.underlying44
  a75 := Tryd.isAgg44
  z75 := Tryd.sizeOf44
  v75 := Tryd.zeroValue44
  t85 := Tryd.underlying60
  a85 := Tryd.isAgg60
  z85 := Tryd.sizeOf60
  v85 := Tryd.zeroValue60
  t167 := Tryd.underlying59
  a167 := Tryd.isAgg59
  z167 := Tryd.sizeOf59
  v167 := Tryd.zeroValue59
  t175 := Tryd.underlying73
  a175 := Tryd.isAgg73
  z175 := Tryd.sizeOf73
  v175 := Tryd.zeroValue73 }
open Go.RowKit in
/-- internal/strconv.Atoi, at a decimal numeral of at most 18 bytes: ITS VALUE, AND NO ERROR. The world behind the call: the one new row that '[]byte(s)' lays. (LAID: no walk: one application.) -/
theorem Tryd.internal_strconv_Atoi (s : ByteArray) (n : Int) (hl : s.size ≤ 18) (h : Lib.atoi s.data.toList = some n) (w : World) :
    Calls Tryd.prog 37 #[.string s] w fun e w' => e = .returned (.tuple #[.int .i64 n, .nilIface]) ∧ ∃ t, w' = Lib.bytesWorld w 5 t := Any.internal_strconv_Atoi Tryd.lays244 s n hl h w
def Tryd.lays172_ren : Go.Shelf.Ren := ⟨fun | 172 => 34 | 244 => 37 | 245 => 38 | 247 => 46 | 279 => 47 | 280 => 48 | 281 => 49 | 282 => 50 | 287 => 57 | 316 => 58 | 171 => 35 | 205 => 59 | 321 => 66 | 322 => 67 | 243 => 39 | 246 => 51 | 283 => 60 | 284 => 61 | 285 => 62 | 286 => 63 | 129 => 69 | 317 => 68 | 318 => 70 | 319 => 71 | 320 => 72 | 337 => 73 | 338 => 74 | n => n, fun | 9 => 9 | 3 => 3 | 75 => 44 | 76 => 45 | 4 => 4 | 5 => 5 | 167 => 59 | 37 => 42 | 0 => 0 | 85 => 60 | 2 => 2 | 168 => 62 | 53 => 69 | 175 => 73 | 46 => 49 | 210 => 77 | 127 => 72 | 145 => 91 | 143 => 89 | 21 => 21 | 171 => 79 | 173 => 82 | 212 => 93 | 51 => 66 | 20 => 20 | 213 => 94 | 232 => 97 | 233 => 98 | 80 => 58 | n => n, fun | 15 => 0 | 16 => 1 | 17 => 2 | 18 => 4 | 19 => 5 | n => n⟩
theorem Tryd.lays172 : Go.Proofs.Lays.n172 Tryd.prog Tryd.lays172_ren := {
  mixed := by kernel_rfl
  f129 := Tryd.func69.trans (congrArg some (by kernel_rfl))
  f171 := Tryd.func35.trans (congrArg some (by kernel_rfl))
  f172 := Tryd.func34.trans (congrArg some (by kernel_rfl))
  f205 := Tryd.func59.trans (congrArg some (by kernel_rfl))
  f243 := Tryd.func39.trans (congrArg some (by kernel_rfl))
  f244 := Tryd.func37.trans (congrArg some (by kernel_rfl))
  f245 := Tryd.func38.trans (congrArg some (by kernel_rfl))
  f246 := Tryd.func51.trans (congrArg some (by kernel_rfl))
  f247 := Tryd.func46.trans (congrArg some (by kernel_rfl))
  f279 := Tryd.func47.trans (congrArg some (by kernel_rfl))
  f280 := Tryd.func48.trans (congrArg some (by kernel_rfl))
  f281 := Tryd.func49.trans (congrArg some (by kernel_rfl))
  f282 := Tryd.func50.trans (congrArg some (by kernel_rfl))
  f283 := Tryd.func60.trans (congrArg some (by kernel_rfl))
  f284 := Tryd.func61.trans (congrArg some (by kernel_rfl))
  f285 := Tryd.func62.trans (congrArg some (by kernel_rfl))
  f286 := Tryd.func63.trans (congrArg some (by kernel_rfl))
  f287 := Tryd.func57.trans (congrArg some (by kernel_rfl))
  f316 := Tryd.func58.trans (congrArg some (by kernel_rfl))
  f317 := Tryd.func68.trans (congrArg some (by kernel_rfl))
  f318 := Tryd.func70.trans (congrArg some (by kernel_rfl))
  f319 := Tryd.func71.trans (congrArg some (by kernel_rfl))
  f320 := Tryd.func72.trans (congrArg some (by kernel_rfl))
  f321 := Tryd.func66.trans (congrArg some (by kernel_rfl))
  f322 := Tryd.func67.trans (congrArg some (by kernel_rfl))
  f337 := Tryd.func73.trans (congrArg some (by kernel_rfl))
  f338 := Tryd.func74.trans (congrArg some (by kernel_rfl))
  t0 := Tryd.underlying0
  a0 := Tryd.isAgg0
  z0 := Tryd.sizeOf0
  v0 := Tryd.zeroValue0
  t2 := Tryd.underlying2
  a2 := Tryd.isAgg2
  z2 := Tryd.sizeOf2
  v2 := Tryd.zeroValue2
  t3 := Tryd.underlying3
  a3 := Tryd.isAgg3
  z3 := Tryd.sizeOf3
  v3 := Tryd.zeroValue3
  t4 := Tryd.underlying4
  a4 := Tryd.isAgg4
  z4 := Tryd.sizeOf4
  v4 := Tryd.zeroValue4
  t5 := Tryd.underlying5
  a5 := Tryd.isAgg5
  z5 := Tryd.sizeOf5
  v5 := Tryd.zeroValue5
  t9 := Tryd.underlying9
  a9 := Tryd.isAgg9
  z9 := Tryd.sizeOf9
  v9 := Tryd.zeroValue9
  t20 := Tryd.underlying20
  a20 := Tryd.isAgg20
  z20 := Tryd.sizeOf20
  v20 := Tryd.zeroValue20
  t21 := Tryd.underlying21
  a21 := Tryd.isAgg21
  z21 := Tryd.sizeOf21
  v21 := Tryd.zeroValue21
  t37 := Tryd.underlying42
  a37 := Tryd.isAgg42
  z37 := Tryd.sizeOf42
  v37 := Tryd.zeroValue42
  t46 := Tryd.underlying49
  a46 := Tryd.isAgg49
  z46 := Tryd.sizeOf49
  v46 := Tryd.zeroValue49
  t51 := Tryd.underlying66
  a51 := Tryd.isAgg66
  z51 := Tryd.sizeOf66
  v51 := Tryd.zeroValue66
  t53 := Tryd.underlying69
  a53 := Tryd.isAgg69
  z53 := Tryd.sizeOf69
  v53 := Tryd.zeroValue69
  t75 := Tryd.underlying44
  a75 := Tryd.isAgg44
  z75 := Tryd.sizeOf44
  v75 := Tryd.zeroValue44
  t76 := Tryd.underlying45
  a76 := Tryd.isAgg45
  z76 := Tryd.sizeOf45
  v76 := Tryd.zeroValue45
  t85 := Tryd.underlying60
  a85 := Tryd.isAgg60
  z85 := Tryd.sizeOf60
  v85 := Tryd.zeroValue60
  t127 := Tryd.underlying72
  a127 := Tryd.isAgg72
  z127 := Tryd.sizeOf72
  v127 := Tryd.zeroValue72
  t143 := Tryd.underlying89
  a143 := Tryd.isAgg89
  z143 := Tryd.sizeOf89
  v143 := Tryd.zeroValue89
  t145 := Tryd.underlying91
  a145 := Tryd.isAgg91
  z145 := Tryd.sizeOf91
  v145 := Tryd.zeroValue91
  t167 := Tryd.underlying59
  a167 := Tryd.isAgg59
  z167 := Tryd.sizeOf59
  v167 := Tryd.zeroValue59
  t168 := Tryd.underlying62
  a168 := Tryd.isAgg62
  z168 := Tryd.sizeOf62
  v168 := Tryd.zeroValue62
  t171 := Tryd.underlying79
  a171 := Tryd.isAgg79
  z171 := Tryd.sizeOf79
  v171 := Tryd.zeroValue79
  t173 := Tryd.underlying82
  a173 := Tryd.isAgg82
  z173 := Tryd.sizeOf82
  v173 := Tryd.zeroValue82
  t175 := Tryd.underlying73
  a175 := Tryd.isAgg73
  z175 := Tryd.sizeOf73
  v175 := Tryd.zeroValue73
  t210 := Tryd.underlying77
  a210 := Tryd.isAgg77
  z210 := Tryd.sizeOf77
  v210 := Tryd.zeroValue77
  t212 := Tryd.underlying93
  a212 := Tryd.isAgg93
  z212 := Tryd.sizeOf93
  v212 := Tryd.zeroValue93
  t213 := Tryd.underlying94
  a213 := Tryd.isAgg94
  z213 := Tryd.sizeOf94
  t232 := Tryd.underlying97
  a232 := Tryd.isAgg97
  z232 := Tryd.sizeOf97
  v232 := Tryd.zeroValue97
  t233 := Tryd.underlying98
  a233 := Tryd.isAgg98
  z233 := Tryd.sizeOf98
  v233 := Tryd.zeroValue98
  g15 := by kernel_rfl
  g16 := by kernel_rfl
  g17 := by kernel_rfl
  g18 := by kernel_rfl
  g19 := by kernel_rfl }
open Go.RowKit in
/-- strconv.Atoi: "Atoi is equivalent to ParseInt(s, 10, 0), converted to type int.": AT A DECIMAL NUMERAL OF AT MOST 18 BYTES: its value, and a nil error. The world behind the call: the one new row that the library's '[]byte(s)' lays. (LAID: no walk: one application.) -/
theorem Tryd.strconv_Atoi (s : ByteArray) (n : Int) (hl : s.size ≤ 18) (h : Lib.atoi s.data.toList = some n) (w : World) :
    Calls Tryd.prog 34 #[.string s] w fun e w' => e = .returned (.tuple #[.int .i64 n, .nilIface]) ∧ ∃ t, w' = Lib.bytesWorld w 5 t := Any.strconv_Atoi Tryd.lays172 s n hl h w
def Tryd.lays129_ren : Go.Shelf.Ren := ⟨fun | 129 => 69 | n => n, fun | 53 => 69 | 3 => 3 | 4 => 4 | 46 => 49 | 5 => 5 | 9 => 9 | n => n, fun | n => n⟩
theorem Tryd.lays129 : Go.Proofs.Lays.n129 Tryd.prog Tryd.lays129_ren := {
  mixed := by kernel_rfl
  f129 := Tryd.func69.trans (congrArg some (by kernel_rfl))
  t3 := Tryd.underlying3
  a3 := Tryd.isAgg3
  z3 := Tryd.sizeOf3
  v3 := Tryd.zeroValue3
  t4 := Tryd.underlying4
  a4 := Tryd.isAgg4
  z4 := Tryd.sizeOf4
  v4 := Tryd.zeroValue4
  t5 := Tryd.underlying5
  a5 := Tryd.isAgg5
  z5 := Tryd.sizeOf5
  v5 := Tryd.zeroValue5
  t9 := Tryd.underlying9
  a9 := Tryd.isAgg9
  z9 := Tryd.sizeOf9
  v9 := Tryd.zeroValue9
  t46 := Tryd.underlying49
  a46 := Tryd.isAgg49
  z46 := Tryd.sizeOf49
  v46 := Tryd.zeroValue49
  t53 := Tryd.underlying69
  a53 := Tryd.isAgg69
  z53 := Tryd.sizeOf69
  v53 := Tryd.zeroValue69 }
/-- bits.Len64: "Len64 returns the minimum number of bits required to represent x; the result is 0 for x == 0.": IT RETURNS 'Lib.bitLen x'; the world is as it was. ('h0', 'h1': x is a uint64.) (LAID: no walk: one application.) -/
theorem Tryd.bits_Len64 (x : Int) (w : World) (h0 : 0 ≤ x) (h1 : x ≤ 18446744073709551615) :
    Calls Tryd.prog 69 #[.int .u64 x] w fun e w' => e = .returned (.int .i64 (Lib.bitLen x.toNat)) ∧ w' = w := Any.bits_Len64 Tryd.lays129 x w h0 h1
def Tryd.lays317_ren : Go.Shelf.Ren := ⟨fun | 317 => 68 | n => n, fun | 3 => 3 | 46 => 49 | n => n, fun | n => n⟩
theorem Tryd.lays317 : Go.Proofs.Lays.n317 Tryd.prog Tryd.lays317_ren := {
  mixed := by kernel_rfl
  f317 := Tryd.func68.trans (congrArg some (by kernel_rfl))
  t3 := Tryd.underlying3
  a3 := Tryd.isAgg3
  z3 := Tryd.sizeOf3
  v3 := Tryd.zeroValue3
  t46 := Tryd.underlying49
  a46 := Tryd.isAgg49
  z46 := Tryd.sizeOf49
  v46 := Tryd.zeroValue49 }
open Go.Lib in
/-- internal/strconv.log10Pow2: "log10Pow2(x) returns ⌊log₁₀ 2**x⌋ = ⌊x * log₁₀ 2⌋.": '(x * 78913) >> 18', at an x up to 64 (a length in bits). The world is as it was. (LAID: no walk: one application.) -/
theorem Tryd.internal_strconv_log10Pow2 (x : Nat) (h : x ≤ 64) (w : World) :
    Calls Tryd.prog 68 #[.int .i64 x] w fun e w' => e = .returned (.int .i64 (Lib.l10 x)) ∧ w' = w := Any.internal_strconv_log10Pow2 Tryd.lays317 x h w
def Tryd.lays318_ren : Go.Shelf.Ren := ⟨fun | 318 => 70 | n => n, fun | 3 => 3 | 4 => 4 | n => n, fun | n => n⟩
theorem Tryd.lays318 : Go.Proofs.Lays.n318 Tryd.prog Tryd.lays318_ren := {
  mixed := by kernel_rfl
  f318 := Tryd.func70.trans (congrArg some (by kernel_rfl))
  t3 := Tryd.underlying3
  a3 := Tryd.isAgg3
  z3 := Tryd.sizeOf3
  v3 := Tryd.zeroValue3
  t4 := Tryd.underlying4
  a4 := Tryd.isAgg4
  z4 := Tryd.sizeOf4
  v4 := Tryd.zeroValue4 }
open Go.Lib in
/-- internal/strconv.bool2: "bool2 converts b to an integer: 1 for true, 0 for false." The world is as it was. (LAID: no walk: one application.) -/
theorem Tryd.internal_strconv_bool2_int (b : Bool) (w : World) :
    Calls Tryd.prog 70 #[.bool b] w fun e w' => e = .returned (.int .i64 (if b then 1 else 0)) ∧ w' = w := Any.internal_strconv_bool2_int Tryd.lays318 b w
def Tryd.lays283_ren : Go.Shelf.Ren := ⟨fun | 283 => 60 | n => n, fun | 3 => 3 | 9 => 9 | 4 => 4 | n => n, fun | n => n⟩
theorem Tryd.lays283 : Go.Proofs.Lays.n283 Tryd.prog Tryd.lays283_ren := {
  mixed := by kernel_rfl
  f283 := Tryd.func60.trans (congrArg some (by kernel_rfl))
  t3 := Tryd.underlying3
  a3 := Tryd.isAgg3
  z3 := Tryd.sizeOf3
  v3 := Tryd.zeroValue3
  t4 := Tryd.underlying4
  a4 := Tryd.isAgg4
  z4 := Tryd.sizeOf4
  v4 := Tryd.zeroValue4
  t9 := Tryd.underlying9
  a9 := Tryd.isAgg9
  z9 := Tryd.sizeOf9
  v9 := Tryd.zeroValue9 }
open Go.Lib in
/-- internal/strconv.small: "small returns the string for an i with 0 <= i < nSmalls.": i's decimal numeral. The world is as it was. (LAID: no walk: one application.) -/
theorem Tryd.internal_strconv_small (i : Nat) (h : i < 100) (w : World) :
    Calls Tryd.prog 60 #[.int .i64 i] w fun e w' => e = .returned (.string ⟨(Lib.decDigits i).toArray⟩) ∧ w' = w := Any.internal_strconv_small Tryd.lays283 i h w
def Tryd.laysM284_ren : Go.Shelf.Ren := ⟨fun | 284 => 61 | 129 => 69 | 317 => 68 | 318 => 70 | n => n, fun | 53 => 69 | 3 => 3 | 212 => 93 | 0 => 0 | 4 => 4 | 46 => 49 | 5 => 5 | 9 => 9 | n => n, fun | 17 => 2 | n => n⟩
theorem Tryd.laysM284 : Go.Proofs.LaysM.n284 Tryd.prog Tryd.laysM284_ren := {
  mixed := by kernel_rfl
  f129 := Tryd.func69.trans (congrArg some (by kernel_rfl))
  f284 := Tryd.func61.trans (congrArg some (by kernel_rfl))
  f317 := Tryd.func68.trans (congrArg some (by kernel_rfl))
  f318 := Tryd.func70.trans (congrArg some (by kernel_rfl))
  t0 := Tryd.underlying0
  a0 := Tryd.isAgg0
  z0 := Tryd.sizeOf0
  v0 := Tryd.zeroValue0
  t3 := Tryd.underlying3
  a3 := Tryd.isAgg3
  z3 := Tryd.sizeOf3
  v3 := Tryd.zeroValue3
  t4 := Tryd.underlying4
  a4 := Tryd.isAgg4
  z4 := Tryd.sizeOf4
  v4 := Tryd.zeroValue4
  t5 := Tryd.underlying5
  a5 := Tryd.isAgg5
  z5 := Tryd.sizeOf5
  v5 := Tryd.zeroValue5
  t9 := Tryd.underlying9
  a9 := Tryd.isAgg9
  z9 := Tryd.sizeOf9
  v9 := Tryd.zeroValue9
  t46 := Tryd.underlying49
  a46 := Tryd.isAgg49
  z46 := Tryd.sizeOf49
  v46 := Tryd.zeroValue49
  t53 := Tryd.underlying69
  a53 := Tryd.isAgg69
  z53 := Tryd.sizeOf69
  v53 := Tryd.zeroValue69
  t212 := Tryd.underlying93
  a212 := Tryd.isAgg93
  z212 := Tryd.sizeOf93
  v212 := Tryd.zeroValue93
  g17 := by kernel_rfl
  i0 := by kernel_rfl
  i3 := by kernel_rfl
  i4 := by kernel_rfl
  i5 := by kernel_rfl
  i9 := by kernel_rfl
  i46 := by kernel_rfl
  i53 := by kernel_rfl
  i212 := by kernel_rfl
  m17 := by kernel_rfl }
open Go.Lib in
/-- internal/strconv.numDigits, at a d that is not 0: THE NUMBER OF d's DECIMAL DIGITS. The world is as it was. (LAID: no walk: one application.) -/
theorem Tryd.internal_strconv_numDigits (u : Nat) (h1 : 1 ≤ u) (h2 : u < 18446744073709551616) (w : World) (htab : Lib.TabIs Tryd.prog w "internal/strconv.uint64pow10" .u64 Lib.pow10Tab) :
    Calls Tryd.prog 61 #[.int .u64 u] w fun e w' => e = .returned (.int .i64 (Lib.nDigits u)) ∧ w' = w := Any.internal_strconv_numDigits Tryd.laysM284 u h1 h2 w htab
def Tryd.lays285_ren : Go.Shelf.Ren := ⟨fun | 285 => 62 | n => n, fun | 37 => 42 | 53 => 69 | 3 => 3 | 4 => 4 | 51 => 66 | 9 => 9 | 5 => 5 | 0 => 0 | n => n, fun | n => n⟩
theorem Tryd.lays285 : Go.Proofs.Lays.n285 Tryd.prog Tryd.lays285_ren := {
  mixed := by kernel_rfl
  f285 := Tryd.func62.trans (congrArg some (by kernel_rfl))
  t0 := Tryd.underlying0
  a0 := Tryd.isAgg0
  z0 := Tryd.sizeOf0
  v0 := Tryd.zeroValue0
  t3 := Tryd.underlying3
  a3 := Tryd.isAgg3
  z3 := Tryd.sizeOf3
  v3 := Tryd.zeroValue3
  t4 := Tryd.underlying4
  a4 := Tryd.isAgg4
  z4 := Tryd.sizeOf4
  v4 := Tryd.zeroValue4
  t5 := Tryd.underlying5
  a5 := Tryd.isAgg5
  z5 := Tryd.sizeOf5
  v5 := Tryd.zeroValue5
  t9 := Tryd.underlying9
  a9 := Tryd.isAgg9
  z9 := Tryd.sizeOf9
  v9 := Tryd.zeroValue9
  t37 := Tryd.underlying42
  a37 := Tryd.isAgg42
  z37 := Tryd.sizeOf42
  v37 := Tryd.zeroValue42
  t51 := Tryd.underlying66
  a51 := Tryd.isAgg66
  z51 := Tryd.sizeOf66
  v51 := Tryd.zeroValue66
  t53 := Tryd.underlying69
  a53 := Tryd.isAgg69
  z53 := Tryd.sizeOf69
  v53 := Tryd.zeroValue69 }
open Go.RowKit Go.Sort Go.Lib in
/-- internal/strconv.formatBase10: "formatBase10 formats the decimal representation of u into a. The caller is responsible for ensuring that a is big enough to hold u. If a is too big, leading zeros will be filled in as needed.": THE ROW HOLDS u's DIGITS ('FmtInv .. 0 ..': every place t holds 'dg u (len - 1 - t)'); all else is as it was but for the count of draws. (LAID: no walk: one application.) -/
theorem Tryd.internal_strconv_formatBase10 (blk off cap : Nat) (u : Nat) (d : Array UInt8) (w : World) (hH : Holds (fun (b : UInt8) => Value.int .u8 (b.toNat : Int)) w blk off d) (hu : u < 10 ^ d.size) (hu64 : u < 18446744073709551616) (hsz : d.size < 4611686018427387904) :
    Calls Tryd.prog 62 #[.slice (some ⟨blk, off, none⟩) d.size cap, .int .u64 u] w fun e w' =>
      e = .returned (.tuple #[]) ∧ ∃ (n v' : Nat) (dk : Array UInt8), w' = (putRow (fun (b : UInt8) => Value.int .u8 (b.toNat : Int)) w blk off dk).drewN n ∧ FmtInv d.size u 0 v' dk := Any.internal_strconv_formatBase10 Tryd.lays285 blk off cap u d w hH hu hu64 hsz
def Tryd.laysM246_ren : Go.Shelf.Ren := ⟨fun | 246 => 51 | 283 => 60 | 284 => 61 | 285 => 62 | 286 => 63 | 129 => 69 | 317 => 68 | 318 => 70 | 319 => 71 | 320 => 72 | 337 => 73 | 338 => 74 | n => n, fun | 2 => 2 | 3 => 3 | 9 => 9 | 4 => 4 | 171 => 79 | 0 => 0 | 53 => 69 | 37 => 42 | 5 => 5 | 173 => 82 | 212 => 93 | 51 => 66 | 20 => 20 | 213 => 94 | 46 => 49 | 232 => 97 | 233 => 98 | n => n, fun | 17 => 2 | 18 => 4 | 19 => 5 | n => n⟩
theorem Tryd.laysM246 : Go.Proofs.LaysM.n246 Tryd.prog Tryd.laysM246_ren := {
  mixed := by kernel_rfl
  f129 := Tryd.func69.trans (congrArg some (by kernel_rfl))
  f246 := Tryd.func51.trans (congrArg some (by kernel_rfl))
  f283 := Tryd.func60.trans (congrArg some (by kernel_rfl))
  f284 := Tryd.func61.trans (congrArg some (by kernel_rfl))
  f285 := Tryd.func62.trans (congrArg some (by kernel_rfl))
  f286 := Tryd.func63.trans (congrArg some (by kernel_rfl))
  f317 := Tryd.func68.trans (congrArg some (by kernel_rfl))
  f318 := Tryd.func70.trans (congrArg some (by kernel_rfl))
  f319 := Tryd.func71.trans (congrArg some (by kernel_rfl))
  f320 := Tryd.func72.trans (congrArg some (by kernel_rfl))
  f337 := Tryd.func73.trans (congrArg some (by kernel_rfl))
  f338 := Tryd.func74.trans (congrArg some (by kernel_rfl))
  t0 := Tryd.underlying0
  a0 := Tryd.isAgg0
  z0 := Tryd.sizeOf0
  v0 := Tryd.zeroValue0
  t2 := Tryd.underlying2
  a2 := Tryd.isAgg2
  z2 := Tryd.sizeOf2
  v2 := Tryd.zeroValue2
  t3 := Tryd.underlying3
  a3 := Tryd.isAgg3
  z3 := Tryd.sizeOf3
  v3 := Tryd.zeroValue3
  t4 := Tryd.underlying4
  a4 := Tryd.isAgg4
  z4 := Tryd.sizeOf4
  v4 := Tryd.zeroValue4
  t5 := Tryd.underlying5
  a5 := Tryd.isAgg5
  z5 := Tryd.sizeOf5
  v5 := Tryd.zeroValue5
  t9 := Tryd.underlying9
  a9 := Tryd.isAgg9
  z9 := Tryd.sizeOf9
  v9 := Tryd.zeroValue9
  t20 := Tryd.underlying20
  a20 := Tryd.isAgg20
  z20 := Tryd.sizeOf20
  v20 := Tryd.zeroValue20
  t37 := Tryd.underlying42
  a37 := Tryd.isAgg42
  z37 := Tryd.sizeOf42
  v37 := Tryd.zeroValue42
  t46 := Tryd.underlying49
  a46 := Tryd.isAgg49
  z46 := Tryd.sizeOf49
  v46 := Tryd.zeroValue49
  t51 := Tryd.underlying66
  a51 := Tryd.isAgg66
  z51 := Tryd.sizeOf66
  v51 := Tryd.zeroValue66
  t53 := Tryd.underlying69
  a53 := Tryd.isAgg69
  z53 := Tryd.sizeOf69
  v53 := Tryd.zeroValue69
  t171 := Tryd.underlying79
  a171 := Tryd.isAgg79
  z171 := Tryd.sizeOf79
  v171 := Tryd.zeroValue79
  t173 := Tryd.underlying82
  a173 := Tryd.isAgg82
  z173 := Tryd.sizeOf82
  v173 := Tryd.zeroValue82
  t212 := Tryd.underlying93
  a212 := Tryd.isAgg93
  z212 := Tryd.sizeOf93
  v212 := Tryd.zeroValue93
  t213 := Tryd.underlying94
  a213 := Tryd.isAgg94
  z213 := Tryd.sizeOf94
  t232 := Tryd.underlying97
  a232 := Tryd.isAgg97
  z232 := Tryd.sizeOf97
  v232 := Tryd.zeroValue97
  t233 := Tryd.underlying98
  a233 := Tryd.isAgg98
  z233 := Tryd.sizeOf98
  v233 := Tryd.zeroValue98
  g17 := by kernel_rfl
  g18 := by kernel_rfl
  g19 := by kernel_rfl
  i0 := by kernel_rfl
  i2 := by kernel_rfl
  i3 := by kernel_rfl
  i4 := by kernel_rfl
  i5 := by kernel_rfl
  i9 := by kernel_rfl
  i20 := by kernel_rfl
  i37 := by kernel_rfl
  i46 := by kernel_rfl
  i51 := by kernel_rfl
  i53 := by kernel_rfl
  i171 := by kernel_rfl
  i173 := by kernel_rfl
  i212 := by kernel_rfl
  i232 := by kernel_rfl
  i233 := by kernel_rfl
  m17 := by kernel_rfl
  m18 := by kernel_rfl
  m19 := by kernel_rfl }
open Go.RowKit Go.Sort Go.Lib in
/-- internal/strconv.FormatInt: "FormatInt returns the string representation of i in the given base": AT BASE 10: i's decimal numeral, for every int64. The world behind the call: the world before it, new blocks behind the heap, draws. (LAID: no walk: one application.) -/
theorem Tryd.internal_strconv_FormatInt_10 (n : Int) (h0 : -9223372036854775808 ≤ n) (h1 : n ≤ 9223372036854775807) (w : World) (htab : Lib.TabIs Tryd.prog w "internal/strconv.uint64pow10" .u64 Lib.pow10Tab) :
    Calls Tryd.prog 51 #[.int .i64 n, .int .i64 10] w fun e w' => e = .returned (.string ⟨(Lib.itoa n).toArray⟩) ∧ ∃ k os, w' = grow (w.drewN k) os := Any.internal_strconv_FormatInt_10 Tryd.laysM246 n h0 h1 w htab
def Tryd.lays246_ren : Go.Shelf.Ren := ⟨fun | 246 => 51 | 283 => 60 | 284 => 61 | 285 => 62 | 286 => 63 | 129 => 69 | 317 => 68 | 318 => 70 | 319 => 71 | 320 => 72 | 337 => 73 | 338 => 74 | n => n, fun | 2 => 2 | 3 => 3 | 9 => 9 | 4 => 4 | 171 => 79 | 0 => 0 | 53 => 69 | 37 => 42 | 5 => 5 | 173 => 82 | 212 => 93 | 51 => 66 | 20 => 20 | 213 => 94 | 46 => 49 | 232 => 97 | 233 => 98 | n => n, fun | 17 => 2 | 18 => 4 | 19 => 5 | n => n⟩
theorem Tryd.lays246 : Go.Proofs.Lays.n246 Tryd.prog Tryd.lays246_ren := {
  mixed := by kernel_rfl
  f129 := Tryd.func69.trans (congrArg some (by kernel_rfl))
  f246 := Tryd.func51.trans (congrArg some (by kernel_rfl))
  f283 := Tryd.func60.trans (congrArg some (by kernel_rfl))
  f284 := Tryd.func61.trans (congrArg some (by kernel_rfl))
  f285 := Tryd.func62.trans (congrArg some (by kernel_rfl))
  f286 := Tryd.func63.trans (congrArg some (by kernel_rfl))
  f317 := Tryd.func68.trans (congrArg some (by kernel_rfl))
  f318 := Tryd.func70.trans (congrArg some (by kernel_rfl))
  f319 := Tryd.func71.trans (congrArg some (by kernel_rfl))
  f320 := Tryd.func72.trans (congrArg some (by kernel_rfl))
  f337 := Tryd.func73.trans (congrArg some (by kernel_rfl))
  f338 := Tryd.func74.trans (congrArg some (by kernel_rfl))
  t0 := Tryd.underlying0
  a0 := Tryd.isAgg0
  z0 := Tryd.sizeOf0
  v0 := Tryd.zeroValue0
  t2 := Tryd.underlying2
  a2 := Tryd.isAgg2
  z2 := Tryd.sizeOf2
  v2 := Tryd.zeroValue2
  t3 := Tryd.underlying3
  a3 := Tryd.isAgg3
  z3 := Tryd.sizeOf3
  v3 := Tryd.zeroValue3
  t4 := Tryd.underlying4
  a4 := Tryd.isAgg4
  z4 := Tryd.sizeOf4
  v4 := Tryd.zeroValue4
  t5 := Tryd.underlying5
  a5 := Tryd.isAgg5
  z5 := Tryd.sizeOf5
  v5 := Tryd.zeroValue5
  t9 := Tryd.underlying9
  a9 := Tryd.isAgg9
  z9 := Tryd.sizeOf9
  v9 := Tryd.zeroValue9
  t20 := Tryd.underlying20
  a20 := Tryd.isAgg20
  z20 := Tryd.sizeOf20
  v20 := Tryd.zeroValue20
  t37 := Tryd.underlying42
  a37 := Tryd.isAgg42
  z37 := Tryd.sizeOf42
  v37 := Tryd.zeroValue42
  t46 := Tryd.underlying49
  a46 := Tryd.isAgg49
  z46 := Tryd.sizeOf49
  v46 := Tryd.zeroValue49
  t51 := Tryd.underlying66
  a51 := Tryd.isAgg66
  z51 := Tryd.sizeOf66
  v51 := Tryd.zeroValue66
  t53 := Tryd.underlying69
  a53 := Tryd.isAgg69
  z53 := Tryd.sizeOf69
  v53 := Tryd.zeroValue69
  t171 := Tryd.underlying79
  a171 := Tryd.isAgg79
  z171 := Tryd.sizeOf79
  v171 := Tryd.zeroValue79
  t173 := Tryd.underlying82
  a173 := Tryd.isAgg82
  z173 := Tryd.sizeOf82
  v173 := Tryd.zeroValue82
  t212 := Tryd.underlying93
  a212 := Tryd.isAgg93
  z212 := Tryd.sizeOf93
  v212 := Tryd.zeroValue93
  t213 := Tryd.underlying94
  a213 := Tryd.isAgg94
  z213 := Tryd.sizeOf94
  t232 := Tryd.underlying97
  a232 := Tryd.isAgg97
  z232 := Tryd.sizeOf97
  v232 := Tryd.zeroValue97
  t233 := Tryd.underlying98
  a233 := Tryd.isAgg98
  z233 := Tryd.sizeOf98
  v233 := Tryd.zeroValue98
  g17 := by kernel_rfl
  g18 := by kernel_rfl
  g19 := by kernel_rfl }
open Go.RowKit Go.Sort Go.Lib in
/-- THE ROAD WITHOUT THE TABLE: 0 <= i < 100: two constants are read, nothing is laid: no premise on the world, and the world is as it was. (LAID: no walk: one application.) -/
theorem Tryd.internal_strconv_FormatInt_10_small (i : Nat) (hi : i < 100) (w : World) :
    Calls Tryd.prog 51 #[.int .i64 i, .int .i64 10] w fun e w' => e = .returned (.string ⟨(Lib.decDigits i).toArray⟩) ∧ w' = w := Any.internal_strconv_FormatInt_10_small Tryd.lays246 i hi w
def Tryd.laysM243_ren : Go.Shelf.Ren := ⟨fun | 243 => 39 | 246 => 51 | 283 => 60 | 284 => 61 | 285 => 62 | 286 => 63 | 129 => 69 | 317 => 68 | 318 => 70 | 319 => 71 | 320 => 72 | 337 => 73 | 338 => 74 | n => n, fun | 3 => 3 | 9 => 9 | 2 => 2 | 4 => 4 | 171 => 79 | 0 => 0 | 53 => 69 | 37 => 42 | 5 => 5 | 173 => 82 | 212 => 93 | 51 => 66 | 20 => 20 | 213 => 94 | 46 => 49 | 232 => 97 | 233 => 98 | n => n, fun | 17 => 2 | 18 => 4 | 19 => 5 | n => n⟩
theorem Tryd.laysM243 : Go.Proofs.LaysM.n243 Tryd.prog Tryd.laysM243_ren := {
  mixed := by kernel_rfl
  f129 := Tryd.func69.trans (congrArg some (by kernel_rfl))
  f243 := Tryd.func39.trans (congrArg some (by kernel_rfl))
  f246 := Tryd.func51.trans (congrArg some (by kernel_rfl))
  f283 := Tryd.func60.trans (congrArg some (by kernel_rfl))
  f284 := Tryd.func61.trans (congrArg some (by kernel_rfl))
  f285 := Tryd.func62.trans (congrArg some (by kernel_rfl))
  f286 := Tryd.func63.trans (congrArg some (by kernel_rfl))
  f317 := Tryd.func68.trans (congrArg some (by kernel_rfl))
  f318 := Tryd.func70.trans (congrArg some (by kernel_rfl))
  f319 := Tryd.func71.trans (congrArg some (by kernel_rfl))
  f320 := Tryd.func72.trans (congrArg some (by kernel_rfl))
  f337 := Tryd.func73.trans (congrArg some (by kernel_rfl))
  f338 := Tryd.func74.trans (congrArg some (by kernel_rfl))
  t0 := Tryd.underlying0
  a0 := Tryd.isAgg0
  z0 := Tryd.sizeOf0
  v0 := Tryd.zeroValue0
  t2 := Tryd.underlying2
  a2 := Tryd.isAgg2
  z2 := Tryd.sizeOf2
  v2 := Tryd.zeroValue2
  t3 := Tryd.underlying3
  a3 := Tryd.isAgg3
  z3 := Tryd.sizeOf3
  v3 := Tryd.zeroValue3
  t4 := Tryd.underlying4
  a4 := Tryd.isAgg4
  z4 := Tryd.sizeOf4
  v4 := Tryd.zeroValue4
  t5 := Tryd.underlying5
  a5 := Tryd.isAgg5
  z5 := Tryd.sizeOf5
  v5 := Tryd.zeroValue5
  t9 := Tryd.underlying9
  a9 := Tryd.isAgg9
  z9 := Tryd.sizeOf9
  v9 := Tryd.zeroValue9
  t20 := Tryd.underlying20
  a20 := Tryd.isAgg20
  z20 := Tryd.sizeOf20
  v20 := Tryd.zeroValue20
  t37 := Tryd.underlying42
  a37 := Tryd.isAgg42
  z37 := Tryd.sizeOf42
  v37 := Tryd.zeroValue42
  t46 := Tryd.underlying49
  a46 := Tryd.isAgg49
  z46 := Tryd.sizeOf49
  v46 := Tryd.zeroValue49
  t51 := Tryd.underlying66
  a51 := Tryd.isAgg66
  z51 := Tryd.sizeOf66
  v51 := Tryd.zeroValue66
  t53 := Tryd.underlying69
  a53 := Tryd.isAgg69
  z53 := Tryd.sizeOf69
  v53 := Tryd.zeroValue69
  t171 := Tryd.underlying79
  a171 := Tryd.isAgg79
  z171 := Tryd.sizeOf79
  v171 := Tryd.zeroValue79
  t173 := Tryd.underlying82
  a173 := Tryd.isAgg82
  z173 := Tryd.sizeOf82
  v173 := Tryd.zeroValue82
  t212 := Tryd.underlying93
  a212 := Tryd.isAgg93
  z212 := Tryd.sizeOf93
  v212 := Tryd.zeroValue93
  t213 := Tryd.underlying94
  a213 := Tryd.isAgg94
  z213 := Tryd.sizeOf94
  t232 := Tryd.underlying97
  a232 := Tryd.isAgg97
  z232 := Tryd.sizeOf97
  v232 := Tryd.zeroValue97
  t233 := Tryd.underlying98
  a233 := Tryd.isAgg98
  z233 := Tryd.sizeOf98
  v233 := Tryd.zeroValue98
  g17 := by kernel_rfl
  g18 := by kernel_rfl
  g19 := by kernel_rfl
  i0 := by kernel_rfl
  i2 := by kernel_rfl
  i3 := by kernel_rfl
  i4 := by kernel_rfl
  i5 := by kernel_rfl
  i9 := by kernel_rfl
  i20 := by kernel_rfl
  i37 := by kernel_rfl
  i46 := by kernel_rfl
  i51 := by kernel_rfl
  i53 := by kernel_rfl
  i171 := by kernel_rfl
  i173 := by kernel_rfl
  i212 := by kernel_rfl
  i232 := by kernel_rfl
  i233 := by kernel_rfl
  m17 := by kernel_rfl
  m18 := by kernel_rfl
  m19 := by kernel_rfl }
open Go.RowKit Go.Sort Go.Lib in
/-- internal/strconv.Itoa: "Itoa is equivalent to FormatInt(int64(i), 10).": i's decimal numeral, for every int. (LAID: no walk: one application.) -/
theorem Tryd.internal_strconv_Itoa (n : Int) (h0 : -9223372036854775808 ≤ n) (h1 : n ≤ 9223372036854775807) (w : World) (htab : Lib.TabIs Tryd.prog w "internal/strconv.uint64pow10" .u64 Lib.pow10Tab) :
    Calls Tryd.prog 39 #[.int .i64 n] w fun e w' => e = .returned (.string ⟨(Lib.itoa n).toArray⟩) ∧ ∃ k os, w' = grow (w.drewN k) os := Any.internal_strconv_Itoa Tryd.laysM243 n h0 h1 w htab
def Tryd.lays243_ren : Go.Shelf.Ren := ⟨fun | 243 => 39 | 246 => 51 | 283 => 60 | 284 => 61 | 285 => 62 | 286 => 63 | 129 => 69 | 317 => 68 | 318 => 70 | 319 => 71 | 320 => 72 | 337 => 73 | 338 => 74 | n => n, fun | 3 => 3 | 9 => 9 | 2 => 2 | 4 => 4 | 171 => 79 | 0 => 0 | 53 => 69 | 37 => 42 | 5 => 5 | 173 => 82 | 212 => 93 | 51 => 66 | 20 => 20 | 213 => 94 | 46 => 49 | 232 => 97 | 233 => 98 | n => n, fun | 17 => 2 | 18 => 4 | 19 => 5 | n => n⟩
theorem Tryd.lays243 : Go.Proofs.Lays.n243 Tryd.prog Tryd.lays243_ren := {
  mixed := by kernel_rfl
  f129 := Tryd.func69.trans (congrArg some (by kernel_rfl))
  f243 := Tryd.func39.trans (congrArg some (by kernel_rfl))
  f246 := Tryd.func51.trans (congrArg some (by kernel_rfl))
  f283 := Tryd.func60.trans (congrArg some (by kernel_rfl))
  f284 := Tryd.func61.trans (congrArg some (by kernel_rfl))
  f285 := Tryd.func62.trans (congrArg some (by kernel_rfl))
  f286 := Tryd.func63.trans (congrArg some (by kernel_rfl))
  f317 := Tryd.func68.trans (congrArg some (by kernel_rfl))
  f318 := Tryd.func70.trans (congrArg some (by kernel_rfl))
  f319 := Tryd.func71.trans (congrArg some (by kernel_rfl))
  f320 := Tryd.func72.trans (congrArg some (by kernel_rfl))
  f337 := Tryd.func73.trans (congrArg some (by kernel_rfl))
  f338 := Tryd.func74.trans (congrArg some (by kernel_rfl))
  t0 := Tryd.underlying0
  a0 := Tryd.isAgg0
  z0 := Tryd.sizeOf0
  v0 := Tryd.zeroValue0
  t2 := Tryd.underlying2
  a2 := Tryd.isAgg2
  z2 := Tryd.sizeOf2
  v2 := Tryd.zeroValue2
  t3 := Tryd.underlying3
  a3 := Tryd.isAgg3
  z3 := Tryd.sizeOf3
  v3 := Tryd.zeroValue3
  t4 := Tryd.underlying4
  a4 := Tryd.isAgg4
  z4 := Tryd.sizeOf4
  v4 := Tryd.zeroValue4
  t5 := Tryd.underlying5
  a5 := Tryd.isAgg5
  z5 := Tryd.sizeOf5
  v5 := Tryd.zeroValue5
  t9 := Tryd.underlying9
  a9 := Tryd.isAgg9
  z9 := Tryd.sizeOf9
  v9 := Tryd.zeroValue9
  t20 := Tryd.underlying20
  a20 := Tryd.isAgg20
  z20 := Tryd.sizeOf20
  v20 := Tryd.zeroValue20
  t37 := Tryd.underlying42
  a37 := Tryd.isAgg42
  z37 := Tryd.sizeOf42
  v37 := Tryd.zeroValue42
  t46 := Tryd.underlying49
  a46 := Tryd.isAgg49
  z46 := Tryd.sizeOf49
  v46 := Tryd.zeroValue49
  t51 := Tryd.underlying66
  a51 := Tryd.isAgg66
  z51 := Tryd.sizeOf66
  v51 := Tryd.zeroValue66
  t53 := Tryd.underlying69
  a53 := Tryd.isAgg69
  z53 := Tryd.sizeOf69
  v53 := Tryd.zeroValue69
  t171 := Tryd.underlying79
  a171 := Tryd.isAgg79
  z171 := Tryd.sizeOf79
  v171 := Tryd.zeroValue79
  t173 := Tryd.underlying82
  a173 := Tryd.isAgg82
  z173 := Tryd.sizeOf82
  v173 := Tryd.zeroValue82
  t212 := Tryd.underlying93
  a212 := Tryd.isAgg93
  z212 := Tryd.sizeOf93
  v212 := Tryd.zeroValue93
  t213 := Tryd.underlying94
  a213 := Tryd.isAgg94
  z213 := Tryd.sizeOf94
  t232 := Tryd.underlying97
  a232 := Tryd.isAgg97
  z232 := Tryd.sizeOf97
  v232 := Tryd.zeroValue97
  t233 := Tryd.underlying98
  a233 := Tryd.isAgg98
  z233 := Tryd.sizeOf98
  v233 := Tryd.zeroValue98
  g17 := by kernel_rfl
  g18 := by kernel_rfl
  g19 := by kernel_rfl }
open Go.RowKit Go.Sort Go.Lib in
/-- THE ROAD WITHOUT THE TABLE: 0 <= i < 100. (LAID: no walk: one application.) -/
theorem Tryd.internal_strconv_Itoa_small (i : Nat) (hi : i < 100) (w : World) :
    Calls Tryd.prog 39 #[.int .i64 i] w fun e w' => e = .returned (.string ⟨(Lib.decDigits i).toArray⟩) ∧ w' = w := Any.internal_strconv_Itoa_small Tryd.lays243 i hi w
def Tryd.laysM171_ren : Go.Shelf.Ren := ⟨fun | 171 => 35 | 243 => 39 | 246 => 51 | 283 => 60 | 284 => 61 | 285 => 62 | 286 => 63 | 129 => 69 | 317 => 68 | 318 => 70 | 319 => 71 | 320 => 72 | 337 => 73 | 338 => 74 | n => n, fun | 3 => 3 | 9 => 9 | 2 => 2 | 4 => 4 | 171 => 79 | 0 => 0 | 53 => 69 | 37 => 42 | 5 => 5 | 173 => 82 | 212 => 93 | 51 => 66 | 20 => 20 | 213 => 94 | 46 => 49 | 232 => 97 | 233 => 98 | n => n, fun | 17 => 2 | 18 => 4 | 19 => 5 | n => n⟩
theorem Tryd.laysM171 : Go.Proofs.LaysM.n171 Tryd.prog Tryd.laysM171_ren := {
  mixed := by kernel_rfl
  f129 := Tryd.func69.trans (congrArg some (by kernel_rfl))
  f171 := Tryd.func35.trans (congrArg some (by kernel_rfl))
  f243 := Tryd.func39.trans (congrArg some (by kernel_rfl))
  f246 := Tryd.func51.trans (congrArg some (by kernel_rfl))
  f283 := Tryd.func60.trans (congrArg some (by kernel_rfl))
  f284 := Tryd.func61.trans (congrArg some (by kernel_rfl))
  f285 := Tryd.func62.trans (congrArg some (by kernel_rfl))
  f286 := Tryd.func63.trans (congrArg some (by kernel_rfl))
  f317 := Tryd.func68.trans (congrArg some (by kernel_rfl))
  f318 := Tryd.func70.trans (congrArg some (by kernel_rfl))
  f319 := Tryd.func71.trans (congrArg some (by kernel_rfl))
  f320 := Tryd.func72.trans (congrArg some (by kernel_rfl))
  f337 := Tryd.func73.trans (congrArg some (by kernel_rfl))
  f338 := Tryd.func74.trans (congrArg some (by kernel_rfl))
  t0 := Tryd.underlying0
  a0 := Tryd.isAgg0
  z0 := Tryd.sizeOf0
  v0 := Tryd.zeroValue0
  t2 := Tryd.underlying2
  a2 := Tryd.isAgg2
  z2 := Tryd.sizeOf2
  v2 := Tryd.zeroValue2
  t3 := Tryd.underlying3
  a3 := Tryd.isAgg3
  z3 := Tryd.sizeOf3
  v3 := Tryd.zeroValue3
  t4 := Tryd.underlying4
  a4 := Tryd.isAgg4
  z4 := Tryd.sizeOf4
  v4 := Tryd.zeroValue4
  t5 := Tryd.underlying5
  a5 := Tryd.isAgg5
  z5 := Tryd.sizeOf5
  v5 := Tryd.zeroValue5
  t9 := Tryd.underlying9
  a9 := Tryd.isAgg9
  z9 := Tryd.sizeOf9
  v9 := Tryd.zeroValue9
  t20 := Tryd.underlying20
  a20 := Tryd.isAgg20
  z20 := Tryd.sizeOf20
  v20 := Tryd.zeroValue20
  t37 := Tryd.underlying42
  a37 := Tryd.isAgg42
  z37 := Tryd.sizeOf42
  v37 := Tryd.zeroValue42
  t46 := Tryd.underlying49
  a46 := Tryd.isAgg49
  z46 := Tryd.sizeOf49
  v46 := Tryd.zeroValue49
  t51 := Tryd.underlying66
  a51 := Tryd.isAgg66
  z51 := Tryd.sizeOf66
  v51 := Tryd.zeroValue66
  t53 := Tryd.underlying69
  a53 := Tryd.isAgg69
  z53 := Tryd.sizeOf69
  v53 := Tryd.zeroValue69
  t171 := Tryd.underlying79
  a171 := Tryd.isAgg79
  z171 := Tryd.sizeOf79
  v171 := Tryd.zeroValue79
  t173 := Tryd.underlying82
  a173 := Tryd.isAgg82
  z173 := Tryd.sizeOf82
  v173 := Tryd.zeroValue82
  t212 := Tryd.underlying93
  a212 := Tryd.isAgg93
  z212 := Tryd.sizeOf93
  v212 := Tryd.zeroValue93
  t213 := Tryd.underlying94
  a213 := Tryd.isAgg94
  z213 := Tryd.sizeOf94
  t232 := Tryd.underlying97
  a232 := Tryd.isAgg97
  z232 := Tryd.sizeOf97
  v232 := Tryd.zeroValue97
  t233 := Tryd.underlying98
  a233 := Tryd.isAgg98
  z233 := Tryd.sizeOf98
  v233 := Tryd.zeroValue98
  g17 := by kernel_rfl
  g18 := by kernel_rfl
  g19 := by kernel_rfl
  i0 := by kernel_rfl
  i2 := by kernel_rfl
  i3 := by kernel_rfl
  i4 := by kernel_rfl
  i5 := by kernel_rfl
  i9 := by kernel_rfl
  i20 := by kernel_rfl
  i37 := by kernel_rfl
  i46 := by kernel_rfl
  i51 := by kernel_rfl
  i53 := by kernel_rfl
  i171 := by kernel_rfl
  i173 := by kernel_rfl
  i212 := by kernel_rfl
  i232 := by kernel_rfl
  i233 := by kernel_rfl
  m17 := by kernel_rfl
  m18 := by kernel_rfl
  m19 := by kernel_rfl }
open Go.RowKit Go.Sort Go.Lib in
/-- strconv.Itoa: "Itoa is equivalent to FormatInt(int64(i), 10).": i's DECIMAL NUMERAL ('Lib.itoa': a '-' where i is negative, then the digits), FOR EVERY int. The world behind the call: the world before it, new blocks behind the heap (the library's 'var a [24]byte'), draws. (LAID: no walk: one application.) -/
theorem Tryd.strconv_Itoa (n : Int) (h0 : -9223372036854775808 ≤ n) (h1 : n ≤ 9223372036854775807) (w : World) (htab : Lib.TabIs Tryd.prog w "internal/strconv.uint64pow10" .u64 Lib.pow10Tab) :
    Calls Tryd.prog 35 #[.int .i64 n] w fun e w' => e = .returned (.string ⟨(Lib.itoa n).toArray⟩) ∧ ∃ k os, w' = grow (w.drewN k) os := Any.strconv_Itoa Tryd.laysM171 n h0 h1 w htab
def Tryd.lays171_ren : Go.Shelf.Ren := ⟨fun | 171 => 35 | 243 => 39 | 246 => 51 | 283 => 60 | 284 => 61 | 285 => 62 | 286 => 63 | 129 => 69 | 317 => 68 | 318 => 70 | 319 => 71 | 320 => 72 | 337 => 73 | 338 => 74 | n => n, fun | 3 => 3 | 9 => 9 | 2 => 2 | 4 => 4 | 171 => 79 | 0 => 0 | 53 => 69 | 37 => 42 | 5 => 5 | 173 => 82 | 212 => 93 | 51 => 66 | 20 => 20 | 213 => 94 | 46 => 49 | 232 => 97 | 233 => 98 | n => n, fun | 17 => 2 | 18 => 4 | 19 => 5 | n => n⟩
theorem Tryd.lays171 : Go.Proofs.Lays.n171 Tryd.prog Tryd.lays171_ren := {
  mixed := by kernel_rfl
  f129 := Tryd.func69.trans (congrArg some (by kernel_rfl))
  f171 := Tryd.func35.trans (congrArg some (by kernel_rfl))
  f243 := Tryd.func39.trans (congrArg some (by kernel_rfl))
  f246 := Tryd.func51.trans (congrArg some (by kernel_rfl))
  f283 := Tryd.func60.trans (congrArg some (by kernel_rfl))
  f284 := Tryd.func61.trans (congrArg some (by kernel_rfl))
  f285 := Tryd.func62.trans (congrArg some (by kernel_rfl))
  f286 := Tryd.func63.trans (congrArg some (by kernel_rfl))
  f317 := Tryd.func68.trans (congrArg some (by kernel_rfl))
  f318 := Tryd.func70.trans (congrArg some (by kernel_rfl))
  f319 := Tryd.func71.trans (congrArg some (by kernel_rfl))
  f320 := Tryd.func72.trans (congrArg some (by kernel_rfl))
  f337 := Tryd.func73.trans (congrArg some (by kernel_rfl))
  f338 := Tryd.func74.trans (congrArg some (by kernel_rfl))
  t0 := Tryd.underlying0
  a0 := Tryd.isAgg0
  z0 := Tryd.sizeOf0
  v0 := Tryd.zeroValue0
  t2 := Tryd.underlying2
  a2 := Tryd.isAgg2
  z2 := Tryd.sizeOf2
  v2 := Tryd.zeroValue2
  t3 := Tryd.underlying3
  a3 := Tryd.isAgg3
  z3 := Tryd.sizeOf3
  v3 := Tryd.zeroValue3
  t4 := Tryd.underlying4
  a4 := Tryd.isAgg4
  z4 := Tryd.sizeOf4
  v4 := Tryd.zeroValue4
  t5 := Tryd.underlying5
  a5 := Tryd.isAgg5
  z5 := Tryd.sizeOf5
  v5 := Tryd.zeroValue5
  t9 := Tryd.underlying9
  a9 := Tryd.isAgg9
  z9 := Tryd.sizeOf9
  v9 := Tryd.zeroValue9
  t20 := Tryd.underlying20
  a20 := Tryd.isAgg20
  z20 := Tryd.sizeOf20
  v20 := Tryd.zeroValue20
  t37 := Tryd.underlying42
  a37 := Tryd.isAgg42
  z37 := Tryd.sizeOf42
  v37 := Tryd.zeroValue42
  t46 := Tryd.underlying49
  a46 := Tryd.isAgg49
  z46 := Tryd.sizeOf49
  v46 := Tryd.zeroValue49
  t51 := Tryd.underlying66
  a51 := Tryd.isAgg66
  z51 := Tryd.sizeOf66
  v51 := Tryd.zeroValue66
  t53 := Tryd.underlying69
  a53 := Tryd.isAgg69
  z53 := Tryd.sizeOf69
  v53 := Tryd.zeroValue69
  t171 := Tryd.underlying79
  a171 := Tryd.isAgg79
  z171 := Tryd.sizeOf79
  v171 := Tryd.zeroValue79
  t173 := Tryd.underlying82
  a173 := Tryd.isAgg82
  z173 := Tryd.sizeOf82
  v173 := Tryd.zeroValue82
  t212 := Tryd.underlying93
  a212 := Tryd.isAgg93
  z212 := Tryd.sizeOf93
  v212 := Tryd.zeroValue93
  t213 := Tryd.underlying94
  a213 := Tryd.isAgg94
  z213 := Tryd.sizeOf94
  t232 := Tryd.underlying97
  a232 := Tryd.isAgg97
  z232 := Tryd.sizeOf97
  v232 := Tryd.zeroValue97
  t233 := Tryd.underlying98
  a233 := Tryd.isAgg98
  z233 := Tryd.sizeOf98
  v233 := Tryd.zeroValue98
  g17 := by kernel_rfl
  g18 := by kernel_rfl
  g19 := by kernel_rfl }
open Go.RowKit Go.Sort Go.Lib in
/-- THE ROAD WITHOUT THE TABLE: 0 <= i < 100: NO PREMISE ON THE WORLD, AND THE WORLD IS AS IT WAS: a row that keeps its argument in that range need list no table ('laid = []'). (LAID: no walk: one application.) -/
theorem Tryd.strconv_Itoa_small (i : Nat) (hi : i < 100) (w : World) :
    Calls Tryd.prog 35 #[.int .i64 i] w fun e w' => e = .returned (.string ⟨(Lib.decDigits i).toArray⟩) ∧ w' = w := Any.strconv_Itoa_small Tryd.lays171 i hi w
def Tryd.lays206_ren : Go.Shelf.Ren := ⟨fun | 206 => 54 | n => n, fun | 9 => 9 | 4 => 4 | 3 => 3 | n => n, fun | n => n⟩
theorem Tryd.lays206 : Go.Proofs.Lays.n206 Tryd.prog Tryd.lays206_ren := {
  mixed := by kernel_rfl
  f206 := Tryd.func54.trans (congrArg some (by kernel_rfl))
  t3 := Tryd.underlying3
  a3 := Tryd.isAgg3
  z3 := Tryd.sizeOf3
  v3 := Tryd.zeroValue3
  t4 := Tryd.underlying4
  a4 := Tryd.isAgg4
  z4 := Tryd.sizeOf4
  v4 := Tryd.zeroValue4
  t9 := Tryd.underlying9
  a9 := Tryd.isAgg9
  z9 := Tryd.sizeOf9
  v9 := Tryd.zeroValue9 }
open Go.RowKit Go.Lib in
/-- internal/stringslite.HasPrefix (what strings.HasPrefix calls). (LAID: no walk: one application.) -/
theorem Tryd.stringslite_HasPrefix (s p : ByteArray) (w : World) :
    Calls Tryd.prog 54 #[.string s, .string p] w fun e w' => e = .returned (.bool (Lib.hasPrefix s.data.toList p.data.toList)) ∧ w' = w := Any.stringslite_HasPrefix Tryd.lays206 s p w
def Tryd.lays99_ren : Go.Shelf.Ren := ⟨fun | 99 => 41 | 206 => 54 | n => n, fun | 9 => 9 | 4 => 4 | 3 => 3 | n => n, fun | n => n⟩
theorem Tryd.lays99 : Go.Proofs.Lays.n99 Tryd.prog Tryd.lays99_ren := {
  mixed := by kernel_rfl
  f99 := Tryd.func41.trans (congrArg some (by kernel_rfl))
  f206 := Tryd.func54.trans (congrArg some (by kernel_rfl))
  t3 := Tryd.underlying3
  a3 := Tryd.isAgg3
  z3 := Tryd.sizeOf3
  v3 := Tryd.zeroValue3
  t4 := Tryd.underlying4
  a4 := Tryd.isAgg4
  z4 := Tryd.sizeOf4
  v4 := Tryd.zeroValue4
  t9 := Tryd.underlying9
  a9 := Tryd.isAgg9
  z9 := Tryd.sizeOf9
  v9 := Tryd.zeroValue9 }
open Go.RowKit Go.Lib in
/-- strings.HasPrefix: "HasPrefix reports whether the string s begins with prefix.": IT RETURNS 'Lib.hasPrefix s prefix'; the world is as it was. (LAID: no walk: one application.) -/
theorem Tryd.strings_HasPrefix (s p : ByteArray) (w : World) :
    Calls Tryd.prog 41 #[.string s, .string p] w fun e w' => e = .returned (.bool (Lib.hasPrefix s.data.toList p.data.toList)) ∧ w' = w := Any.strings_HasPrefix Tryd.lays99 s p w
def Tryd.lays264_ren : Go.Shelf.Ren := ⟨fun | 264 => 53 | n => n, fun | 53 => 69 | 46 => 49 | n => n, fun | n => n⟩
theorem Tryd.lays264 : Go.Proofs.Lays.n264 Tryd.prog Tryd.lays264_ren := {
  mixed := by kernel_rfl
  f264 := Tryd.func53.trans (congrArg some (by kernel_rfl))
  t46 := Tryd.underlying49
  a46 := Tryd.isAgg49
  z46 := Tryd.sizeOf49
  v46 := Tryd.zeroValue49
  t53 := Tryd.underlying69
  a53 := Tryd.isAgg69
  z53 := Tryd.sizeOf69
  v53 := Tryd.zeroValue69 }
open Go.RowKit Go.Lib in
theorem Tryd.bits_Mul64 (x y : Nat) (hx : x < 18446744073709551616) (hy : y < 18446744073709551616) (w : World) :
    Calls Tryd.prog 53 #[.int .u64 x, .int .u64 y] w fun e w' => e = .returned (.tuple #[.int .u64 ((x * y / 18446744073709551616 : Nat) : Int), .int .u64 ((x * y % 18446744073709551616 : Nat) : Int)]) ∧ w' = w := Any.bits_Mul64 Tryd.lays264 x y hx hy w
def Tryd.lays212_ren : Go.Shelf.Ren := ⟨fun | 212 => 40 | 263 => 52 | 264 => 53 | n => n, fun | 46 => 49 | 51 => 66 | 146 => 67 | 53 => 69 | 148 => 70 | n => n, fun | n => n⟩
theorem Tryd.lays212 : Go.Proofs.Lays.n212 Tryd.prog Tryd.lays212_ren := {
  mixed := by kernel_rfl
  f212 := Tryd.func40.trans (congrArg some (by kernel_rfl))
  f263 := Tryd.func52.trans (congrArg some (by kernel_rfl))
  f264 := Tryd.func53.trans (congrArg some (by kernel_rfl))
  t46 := Tryd.underlying49
  a46 := Tryd.isAgg49
  z46 := Tryd.sizeOf49
  v46 := Tryd.zeroValue49
  t51 := Tryd.underlying66
  a51 := Tryd.isAgg66
  z51 := Tryd.sizeOf66
  v51 := Tryd.zeroValue66
  t53 := Tryd.underlying69
  a53 := Tryd.isAgg69
  z53 := Tryd.sizeOf69
  v53 := Tryd.zeroValue69
  t146 := Tryd.underlying67
  a146 := Tryd.isAgg67
  z146 := Tryd.sizeOf67
  v146 := Tryd.zeroValue67
  t148 := Tryd.underlying70
  a148 := Tryd.isAgg70
  z148 := Tryd.sizeOf70
  v148 := Tryd.zeroValue70 }
open Go.RowKit Go.Lib in
/-- math/bits.Mul: "Mul returns the full-width product of x and y": on a machine of 64 bits: Mul64's. (LAID: no walk: one application.) -/
theorem Tryd.bits_Mul (x y : Nat) (hx : x < 18446744073709551616) (hy : y < 18446744073709551616) (w : World) :
    Calls Tryd.prog 40 #[.int .u64 x, .int .u64 y] w fun e w' => e = .returned (.tuple #[.int .u64 ((x * y / 18446744073709551616 : Nat) : Int), .int .u64 ((x * y % 18446744073709551616 : Nat) : Int)]) ∧ w' = w := Any.bits_Mul Tryd.lays212 x y hx hy w
def Tryd.lays105_ren : Go.Shelf.Ren := ⟨fun | 105 => 36 | 212 => 40 | 99 => 41 | 165 => 42 | 166 => 43 | 170 => 44 | 169 => 45 | 263 => 52 | 264 => 53 | 206 => 54 | 240 => 55 | 241 => 56 | 276 => 64 | 277 => 65 | n => n, fun | 9 => 9 | 3 => 3 | 4 => 4 | 20 => 20 | 0 => 0 | 46 => 49 | 109 => 50 | 5 => 5 | 72 => 55 | 76 => 45 | 51 => 66 | 146 => 67 | 53 => 69 | 148 => 70 | 70 => 53 | 37 => 42 | 75 => 44 | 127 => 72 | 164 => 84 | 80 => 58 | n => n, fun | n => n⟩
theorem Tryd.lays105 : Go.Proofs.Lays.n105 Tryd.prog Tryd.lays105_ren := {
  mixed := by kernel_rfl
  f99 := Tryd.func41.trans (congrArg some (by kernel_rfl))
  f105 := Tryd.func36.trans (congrArg some (by kernel_rfl))
  f165 := Tryd.func42.trans (congrArg some (by kernel_rfl))
  f166 := Tryd.func43.trans (congrArg some (by kernel_rfl))
  f169 := Tryd.func45.trans (congrArg some (by kernel_rfl))
  f170 := Tryd.func44.trans (congrArg some (by kernel_rfl))
  f206 := Tryd.func54.trans (congrArg some (by kernel_rfl))
  f212 := Tryd.func40.trans (congrArg some (by kernel_rfl))
  f240 := Tryd.func55.trans (congrArg some (by kernel_rfl))
  f241 := Tryd.func56.trans (congrArg some (by kernel_rfl))
  f263 := Tryd.func52.trans (congrArg some (by kernel_rfl))
  f264 := Tryd.func53.trans (congrArg some (by kernel_rfl))
  f276 := Tryd.func64.trans (congrArg some (by kernel_rfl))
  f277 := Tryd.func65.trans (congrArg some (by kernel_rfl))
  t0 := Tryd.underlying0
  a0 := Tryd.isAgg0
  z0 := Tryd.sizeOf0
  v0 := Tryd.zeroValue0
  t3 := Tryd.underlying3
  a3 := Tryd.isAgg3
  z3 := Tryd.sizeOf3
  v3 := Tryd.zeroValue3
  t4 := Tryd.underlying4
  a4 := Tryd.isAgg4
  z4 := Tryd.sizeOf4
  v4 := Tryd.zeroValue4
  t5 := Tryd.underlying5
  a5 := Tryd.isAgg5
  z5 := Tryd.sizeOf5
  v5 := Tryd.zeroValue5
  t9 := Tryd.underlying9
  a9 := Tryd.isAgg9
  z9 := Tryd.sizeOf9
  v9 := Tryd.zeroValue9
  t20 := Tryd.underlying20
  a20 := Tryd.isAgg20
  z20 := Tryd.sizeOf20
  v20 := Tryd.zeroValue20
  t37 := Tryd.underlying42
  a37 := Tryd.isAgg42
  z37 := Tryd.sizeOf42
  v37 := Tryd.zeroValue42
  t46 := Tryd.underlying49
  a46 := Tryd.isAgg49
  z46 := Tryd.sizeOf49
  v46 := Tryd.zeroValue49
  t51 := Tryd.underlying66
  a51 := Tryd.isAgg66
  z51 := Tryd.sizeOf66
  v51 := Tryd.zeroValue66
  t53 := Tryd.underlying69
  a53 := Tryd.isAgg69
  z53 := Tryd.sizeOf69
  v53 := Tryd.zeroValue69
  t70 := Tryd.underlying53
  a70 := Tryd.isAgg53
  z70 := Tryd.sizeOf53
  v70 := Tryd.zeroValue53
  t72 := Tryd.underlying55
  a72 := Tryd.isAgg55
  z72 := Tryd.sizeOf55
  v72 := Tryd.zeroValue55
  t75 := Tryd.underlying44
  a75 := Tryd.isAgg44
  z75 := Tryd.sizeOf44
  v75 := Tryd.zeroValue44
  t76 := Tryd.underlying45
  a76 := Tryd.isAgg45
  z76 := Tryd.sizeOf45
  v76 := Tryd.zeroValue45
  t109 := Tryd.underlying50
  a109 := Tryd.isAgg50
  z109 := Tryd.sizeOf50
  v109 := Tryd.zeroValue50
  t127 := Tryd.underlying72
  a127 := Tryd.isAgg72
  z127 := Tryd.sizeOf72
  v127 := Tryd.zeroValue72
  t146 := Tryd.underlying67
  a146 := Tryd.isAgg67
  z146 := Tryd.sizeOf67
  v146 := Tryd.zeroValue67
  t148 := Tryd.underlying70
  a148 := Tryd.isAgg70
  z148 := Tryd.sizeOf70
  v148 := Tryd.zeroValue70
  t164 := Tryd.underlying84
  a164 := Tryd.isAgg84
  z164 := Tryd.sizeOf84
  v164 := Tryd.zeroValue84 }
theorem Tryd.Builder_Extra_105 : Builder.Extra Tryd.prog Tryd.lays105_ren := {
  sizeBuilder := by kernel_rfl
  liesBuilder := by kernel_rfl
  t5 := Tryd.underlying5
  a5 := Tryd.isAgg5
  z5 := Tryd.sizeOf5
  v5 := Tryd.zeroValue5
  infoByte := by kernel_rfl
  cellsByte := by kernel_rfl
  sizeByte := by kernel_rfl
  neB5 := by decide }
open Go.RowKit Go.Lib in
/-- THE MAIN CASE: at least two copies of a string that is not empty. (LAID: no walk: one application.) -/
theorem Tryd.strings_Repeat_main (s : ByteArray) (c : Nat) (w : World) (hc2 : 2 ≤ c) (hc : c ≤ 9223372036854775807) (hlen : s.size * c ≤ 140737488355328) (h0 : 0 < s.size) :
    Calls Tryd.prog 36 #[.string s, .int .i64 c] w fun e w' => e = .returned (.string ⟨(Lib.repeatL s.data.toList c).toArray⟩) ∧ Below w.heap.size w w' := Any.strings_Repeat_main Tryd.lays105 Tryd.Builder_Extra_105 s c w hc2 hc hlen h0
open Go.RowKit Go.Lib in
theorem Tryd.strings_Repeat_zero (s : ByteArray) (w : World) :
    Calls Tryd.prog 36 #[.string s, .int .i64 0] w fun e w' => e = .returned (.string ⟨#[]⟩) ∧ w' = w := Any.strings_Repeat_zero Tryd.lays105 s w
open Go.RowKit Go.Lib in
theorem Tryd.strings_Repeat_one (s : ByteArray) (w : World) :
    Calls Tryd.prog 36 #[.string s, .int .i64 1] w fun e w' => e = .returned (.string s) ∧ w' = w := Any.strings_Repeat_one Tryd.lays105 s w
open Go.RowKit Go.Lib in
/-- Copies of the empty string. (LAID: no walk: one application.) -/
theorem Tryd.strings_Repeat_empty (s : ByteArray) (c : Nat) (w : World) (hc2 : 2 ≤ c) (hc : c ≤ 9223372036854775807) (h0 : s.size = 0) :
    Calls Tryd.prog 36 #[.string s, .int .i64 c] w fun e w' => e = .returned (.string ⟨#[]⟩) ∧ w' = w := Any.strings_Repeat_empty Tryd.lays105 s c w hc2 hc h0
open Go.RowKit Go.Lib in
/-- count < 0: "It panics if count is negative". (LAID: no walk: one application.) -/
theorem Tryd.strings_Repeat_negative (s : ByteArray) (c : Int) (w : World) (hc : c < 0) :
    Calls Tryd.prog 36 #[.string s, .int .i64 c] w fun e w' => e = .panicked [{ v := repeatPanic Tryd.lays105_ren "strings: negative Repeat count", recovered := false }] ∧ w' = w := Any.strings_Repeat_negative Tryd.lays105 s c w hc
open Go.RowKit Go.Lib in
/-- len(s) * count is no int: ".. or if the result of (len(s) * count) overflows". (LAID: no walk: one application.) -/
theorem Tryd.strings_Repeat_overflow (s : ByteArray) (c : Nat) (w : World) (hc : c ≤ 9223372036854775807) (hs : s.size ≤ 9223372036854775807) (hbig : 9223372036854775807 < s.size * c) :
    Calls Tryd.prog 36 #[.string s, .int .i64 c] w fun e w' => e = .panicked [{ v := repeatPanic Tryd.lays105_ren "strings: Repeat output length overflow", recovered := false }] ∧ w' = w := Any.strings_Repeat_overflow Tryd.lays105 s c w hc hs hbig
open Go.RowKit Go.Lib in
/-- **strings.Repeat: count ≥ 0, the result within one allocation: count copies of s.** (LAID: no walk: one application.) -/
theorem Tryd.strings_Repeat (s : ByteArray) (c : Nat) (w : World) (hc : c ≤ 9223372036854775807) (hlen : s.size * c ≤ 140737488355328) :
    Calls Tryd.prog 36 #[.string s, .int .i64 c] w fun e w' => e = .returned (.string ⟨(Lib.repeatL s.data.toList c).toArray⟩) ∧ Below w.heap.size w w' := Any.strings_Repeat Tryd.lays105 Tryd.Builder_Extra_105 s c w hc hlen
end Go.Proofs

set_option maxRecDepth 100000
set_option linter.unusedSimpArgs false
set_option linter.unusedVariables false
namespace Go.Proofs.YtmofeikdaoknlaaDoor
open Go Ab Pl
theorem strconv_Atoi (s : List UInt8) (n : Int) (hl : s.length ≤ 18) (ha : Go.Lib.atoi s = some n) : ACalls E.P 34 [.str s] (.tup [.int .i64 n, .lit .nilIface]) :=
  ACalls.atoi ⟨_, Tryd.func34, by kernel_rfl, by kernel_rfl⟩ hl ha (fun w => Tryd.strconv_Atoi ⟨s.toArray⟩ n hl (by simpa using ha) w)
theorem strings_Repeat (s : List UInt8) (c : Nat) (hc : c ≤ 1000) (hs : s.length ≤ 1000) : ACalls E.P 36 [.str s, .int .i64 c] (.d (.str (Go.Lib.repeatL s c))) :=
  ACalls.repeat ⟨_, Tryd.func36, by kernel_rfl, by kernel_rfl⟩ (by rw [Go.Lib.repeatL_length]; simp only [maxLen]; have := Nat.mul_le_mul hc hs; omega)
    (fun w => Tryd.strings_Repeat ⟨s.toArray⟩ c w (by omega) (by have := Nat.mul_le_mul hs hc; simp only [ba_size]; omega))

end Go.Proofs.YtmofeikdaoknlaaDoor

set_option maxRecDepth 100000
set_option linter.unusedSimpArgs false
set_option linter.unusedVariables false
namespace Go.Proofs.YtmofeikdaoknlaaDoor
open Go Ab Pl
theorem date_number (s : List UInt8) (hl : s.length ≤ 18) (hne : s ≠ []) : ACalls E.P 31 [.str s] (.tup [.int .i64 (numR s).1, .bool (numR s).2]) := by
  refine ACalls.intro E_ok Tryd.func31 rfl rfl Tryd.ntmps31 Tryd.results31 (Nat.le_of_ble_eq_true rfl) fun hok base S0 w0 => ?_
  -- region 0
  refine AWp.rseq E_ok [0, 2, 3, 5, 6, 7, 9, 10, 11, 12, 20] fun K hK => ?_
  simp
  repeat refine ⟨by first | omega | assumption | (simp only [maxLen]; omega) | (intros; omega) | decide, ?_⟩
  refine hK _ ?_
  clear hK K
  refine AWp.seq ?_
  -- region 1
  refine AWp.rseq E_ok [0, 2, 3, 5, 6, 7, 9, 10, 11, 12, 20] fun K hK => ?_
  simp
  repeat refine ⟨by first | omega | assumption | (simp only [maxLen]; omega) | (intros; omega) | decide, ?_⟩
  refine hK _ ?_
  clear hK K
  refine AWp.block ?_
  refine AWp.range (l := s) (F := digitsF) (tot := digitsF () s) (fun k y => match y with | () => True) (fun k y => match y with | () => [(0, T.val (D.str s)), (9, T.val ((D.int IntKind.u8 0).slice (List.map (fun b => D.int IntKind.u8 ↑b.toNat) s))), (10, T.val (D.int IntKind.i64 ↑s.length)), (11, T.val (.int .i64 k))]) () ?_ rfl ?_ ?_
  · simp [Weak, TW]
  · first | exact trivial | (simp; omega) | simp
  rintro k ⟨⟩ hk hs hi
  try simp only at hi
  -- region 2
  refine AWp.rseq E_ok [0, 2, 3, 5, 6, 7, 9, 10, 11, 12, 20] fun K hK => ?_
  simp
  repeat refine ⟨by first | omega | assumption | (simp only [maxLen]; omega) | (intros; omega) | decide, ?_⟩
  refine hK _ ?_
  clear hK K
  refine AWp.seq ?_
  refine AWp.cond rfl (fun h12 => ?_) (fun h12 => ?_)
  · try simp at h12
    obtain ⟨x, hx, hxx, hd⟩ := at_indexG (l := s) h12
    rw [hd] at hs
    refine AWp.skip ?_
    repeat first | refine thenN ?_ | refine thenX ?_ | refine thenR ?_ | refine blockN ?_ | refine blockR ?_ | refine blockX ?_ | refine blockM rfl ?_
    refine AWp.seq ?_
    refine AWp.block ?_
    -- region 3
    refine AWp.rseq E_ok [0, 2, 3, 5, 6, 7, 9, 10, 11, 12, 20] fun K hK => ?_
    simp [hx, hxx]
    repeat refine ⟨by first | omega | assumption | (simp only [maxLen]; omega) | (intros; omega) | decide, ?_⟩
    refine hK _ ?_
    clear hK K
    -- region 4
    refine AWp.rseq E_ok [0, 2, 3, 5, 6, 7, 9, 10, 11, 12, 20] fun K hK => ?_
    simp [hx, hxx]
    repeat refine ⟨by first | omega | assumption | (simp only [maxLen]; omega) | (intros; omega) | decide, ?_⟩
    refine hK _ ?_
    clear hK K
    refine AWp.cond rfl (fun h20 => ?_) (fun h20 => ?_)
    · try simp at h20
      have hc : ¬ isDig x = true := by simp [isDig]; omega
      rw [digitsF, if_neg hc] at hs
      have hb := num_bad (s := s) (by rw [← digits_eq, ← hs]; simp)
      -- region 5
      refine AWp.rseq E_ok [0, 2, 3, 5, 6, 7, 9, 10, 11, 12, 20] fun K hK => ?_
      simp [hx, hxx]
      repeat refine ⟨by first | omega | assumption | (simp only [maxLen]; omega) | (intros; omega) | decide, ?_⟩
      refine hK _ ?_
      clear hK K
      refine AWp.ret ?_
      repeat first | refine thenN ?_ | refine thenX ?_ | refine thenR ?_ | refine blockN ?_ | refine blockR ?_ | refine blockX ?_ | refine blockM rfl ?_
      simp [RetOk, RV, RVs, hb]
    · try simp at h20
      have hc : isDig x = true := by simp [isDig]; omega
      rw [digitsF, if_pos hc] at hs
      refine AWp.skip ?_
      repeat first | refine thenN ?_ | refine thenX ?_ | refine thenR ?_ | refine blockN ?_ | refine blockR ?_ | refine blockX ?_ | refine blockM rfl ?_
      -- region 6
      refine AWp.rend E_ok [0, 2, 3, 5, 6, 7, 9, 10, 11, 12, 20] fun K hK => ?_
      simp [hx, hxx]
      repeat refine ⟨by first | omega | assumption | (simp only [maxLen]; omega) | (intros; omega) | decide, ?_⟩
      refine hK _ ?_
      clear hK K
      repeat first | refine thenN ?_ | refine thenX ?_ | refine thenR ?_ | refine blockN ?_ | refine blockR ?_ | refine blockX ?_ | refine blockM rfl ?_
      have hw : IntKind.i64.wrap ((k : Int) + 1) = (k : Int) + 1 := by rw [wrap_i64] <;> omega
      skip
      refine ⟨_, h12, hs, ?_, ?_⟩
      · first | exact trivial | (simp; omega) | simp
      · simp [Weak, TW, hw]
  · try simp at h12
    have hall : s.all isDig = true := by rw [← digits_eq, ← hs, List.drop_eq_nil_of_le (by omega)]; rfl
    have hb := num_ok hall
    obtain rfl : k = s.length := by omega
    simp [digitsF] at hs
    refine AWp.exit ?_
    repeat first | refine thenN ?_ | refine thenX ?_ | refine thenR ?_ | refine blockN ?_ | refine blockR ?_ | refine blockX ?_ | refine blockM rfl ?_
    -- region 7
    refine AWp.rseq E_ok [0, 2, 3, 5, 6, 7, 9, 10, 11, 12, 20] fun K hK => ?_
    simp
    repeat refine ⟨by first | omega | assumption | (simp only [maxLen]; omega) | (intros; omega) | decide, ?_⟩
    refine meet.of (strconv_Atoi s (valF 0 s) hl (atoi_val hne hall)) ?_
    simp
    repeat refine ⟨by first | omega | assumption | (simp only [maxLen]; omega) | (intros; omega) | decide, ?_⟩
    refine hK _ ?_
    clear hK K
    -- region 8
    refine AWp.rseqQ E_ok mixed [0, 2, 3, 5, 6, 7, 9, 10, 11, 12, 20] (by kernel_rfl) fun K hK => ?_
    simp
    refine ⟨⟨_, Tryd.underlying44⟩, ?_⟩
    repeat refine ⟨by first | omega | assumption | (simp only [maxLen]; omega) | (intros; omega) | decide, ?_⟩
    refine hK _ ?_
    clear hK K
    refine AWp.ret ?_
    repeat first | refine thenN ?_ | refine thenX ?_ | refine thenR ?_ | refine blockN ?_ | refine blockR ?_ | refine blockX ?_ | refine blockM rfl ?_
    simp [RetOk, RV, RVs, hb]
end Go.Proofs.YtmofeikdaoknlaaDoor

set_option maxRecDepth 100000
set_option linter.unusedSimpArgs false
set_option linter.unusedVariables false
namespace Go.Proofs.YtmofeikdaoknlaaDoor
open Go Ab Pl
theorem date_leap (y : Int) (hy : 0 ≤ y) : ACalls E.P 30 [.int .i64 y] (.d (.bool (leapB y))) := by
  refine ACalls.intro E_ok Tryd.func30 rfl rfl Tryd.ntmps30 Tryd.results30 (Nat.le_of_ble_eq_true rfl) fun hok base S0 w0 => ?_
  -- region 0
  refine AWp.rseq E_ok [0, 2] fun K hK => ?_
  simp
  repeat refine ⟨by first | omega | assumption | (simp only [maxLen]; omega) | (intros; omega) | decide, ?_⟩
  refine hK _ ?_
  clear hK K
  -- region 1
  refine AWp.rseq E_ok [0, 2] fun K hK => ?_
  simp
  repeat refine ⟨by first | omega | assumption | (simp only [maxLen]; omega) | (intros; omega) | decide, ?_⟩
  refine hK _ ?_
  clear hK K
  refine AWp.ret ?_
  repeat first | refine thenN ?_ | refine thenX ?_ | refine thenR ?_ | refine blockN ?_ | refine blockR ?_ | refine blockX ?_ | refine blockM rfl ?_
  simp [RetOk, RV, RVs, Int.tmod_eq_emod_of_nonneg hy]; rw [Bool.eq_iff_iff]; simp [leapB]
end Go.Proofs.YtmofeikdaoknlaaDoor

set_option maxRecDepth 100000
set_option linter.unusedSimpArgs false
set_option linter.unusedVariables false
namespace Go.Proofs.YtmofeikdaoknlaaDoor
open Go Ab Pl
theorem date_Length (y m : Int) : ACalls E.P 15 [.int .i64 y, .int .i64 m] (.d (.int .i64 (mlenD y m))) := by
  refine ACalls.intro E_ok Tryd.func15 rfl rfl Tryd.ntmps15 Tryd.results15 (Nat.le_of_ble_eq_true rfl) fun hok base S0 w0 => ?_
  -- region 0
  refine AWp.rseq E_ok [0, 1, 4, 5, 20] fun K hK => ?_
  simp
  repeat refine ⟨by first | omega | assumption | (simp only [maxLen]; omega) | (intros; omega) | decide, ?_⟩
  refine hK _ ?_
  clear hK K
  refine AWp.seq ?_
  refine AWp.block ?_
  -- region 1
  refine AWp.rseq E_ok [0, 1, 4, 5, 20] fun K hK => ?_
  simp
  repeat refine ⟨by first | omega | assumption | (simp only [maxLen]; omega) | (intros; omega) | decide, ?_⟩
  refine hK _ ?_
  clear hK K
  refine AWp.cond rfl (fun h5 => ?_) (fun h5 => ?_)
  · try simp at h5
    -- region 2
    refine AWp.rseq E_ok [0, 1, 4, 5, 20] fun K hK => ?_
    simp
    repeat refine ⟨by first | omega | assumption | (simp only [maxLen]; omega) | (intros; omega) | decide, ?_⟩
    refine hK _ ?_
    clear hK K
    refine AWp.ret ?_
    repeat first | refine thenN ?_ | refine thenX ?_ | refine thenR ?_ | refine blockN ?_ | refine blockR ?_ | refine blockX ?_ | refine blockM rfl ?_
    first | (rw [mlen_out (by omega)]; simp [RetOk, RV, RVs]; done) | (rw [hq]; simp [RetOk, RV, RVs]; done)
  · try simp at h5
    -- region 3
    refine AWp.rseq E_ok [0, 1, 4, 5, 20] fun K hK => ?_
    simp
    repeat refine ⟨by first | omega | assumption | (simp only [maxLen]; omega) | (intros; omega) | decide, ?_⟩
    refine meet.of (date_leap y (by omega)) ?_
    simp
    repeat refine ⟨by first | omega | assumption | (simp only [maxLen]; omega) | (intros; omega) | decide, ?_⟩
    refine hK _ ?_
    clear hK K
    refine AWp.cond rfl (fun h20 => ?_) (fun h20 => ?_)
    · try simp at h20
      have hq := mlen_29 (y := y) (m := m) (by omega) (by omega) h20.1 h20.2
      -- region 4
      refine AWp.rseq E_ok [0, 1, 4, 5, 20] fun K hK => ?_
      simp
      repeat refine ⟨by first | omega | assumption | (simp only [maxLen]; omega) | (intros; omega) | decide, ?_⟩
      refine hK _ ?_
      clear hK K
      refine AWp.ret ?_
      repeat first | refine thenN ?_ | refine thenX ?_ | refine thenR ?_ | refine blockN ?_ | refine blockR ?_ | refine blockX ?_ | refine blockM rfl ?_
      first | (rw [mlen_out (by omega)]; simp [RetOk, RV, RVs]; done) | (rw [hq]; simp [RetOk, RV, RVs]; done)
    · try simp at h20
      have hq := mlen_tbl (y := y) (m := m) (by omega) (by omega) (by omega) (by omega) (by simpa using h20)
      have e1 : IntKind.i64.wrap (m - 1) = m - 1 := by rw [wrap_i64] <;> omega
      have tg := tbl_arr (m := m) (by omega)
      refine AWp.skip ?_
      repeat first | refine thenN ?_ | refine thenX ?_ | refine thenR ?_ | refine blockN ?_ | refine blockR ?_ | refine blockX ?_ | refine blockM rfl ?_
      -- region 5
      refine AWp.rseq E_ok [0, 1, 4, 5, 20] fun K hK => ?_
      simp [e1, tg]
      repeat refine ⟨by first | omega | assumption | (simp only [maxLen]; omega) | (intros; omega) | decide, ?_⟩
      refine hK _ ?_
      clear hK K
      refine AWp.ret ?_
      repeat first | refine thenN ?_ | refine thenX ?_ | refine thenR ?_ | refine blockN ?_ | refine blockR ?_ | refine blockX ?_ | refine blockM rfl ?_
      first | (rw [mlen_out (by omega)]; simp [RetOk, RV, RVs]; done) | (rw [hq]; simp [RetOk, RV, RVs]; done)
end Go.Proofs.YtmofeikdaoknlaaDoor
