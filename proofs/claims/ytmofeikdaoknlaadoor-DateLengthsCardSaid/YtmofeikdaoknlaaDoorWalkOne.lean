/-
  What the functions compute that the statement reaches: contracts, and the plain laws between them. Conditions stand at each theorem.
-/
import Derived.Test.YtmofeikdaoknlaaDoorEngTwo
import Derived.Test.YtmofeikdaoknlaaDoorChecked
import Derived.Lib.ItoaLen
import Derived.Lib.Atoi
import Derived.Lib.Repeat
set_option linter.unusedVariables false
set_option linter.unusedSimpArgs false
/- The types of this seat, as the layer reads them. -/
set_option maxRecDepth 100000
namespace Go.Proofs.YtmofeikdaoknlaaDoor
open Go Ab

abbrev ti2 : TI := { key := .int .i64, size := 1, bytes := 8, zero := .int .i64 0, zc := [.int .i64 0], eq := [] }
abbrev ti3 : TI := { key := .int .i64, size := 1, bytes := 8, zero := .int .i64 0, zc := [.int .i64 0], eq := [] }
abbrev ti4 : TI := { key := .bool, size := 1, bytes := 1, zero := .bool false, zc := [.bool false], eq := [] }
abbrev ti5 : TI := { key := .int .u8, size := 1, bytes := 1, zero := .int .u8 0, zc := [.int .u8 0], eq := [] }
abbrev ti9 : TI := { key := .string, size := 1, bytes := 16, zero := .string ⟨#[]⟩, zc := [.str []], eq := [] }
abbrev ti12 : TI := { key := .int .u64, size := 1, bytes := 8, zero := .int .u64 0, zc := [.int .u64 0], eq := [] }
abbrev ti15 : TI := { key := .other, size := 1, bytes := 8, zero := .pointer none, zc := [.lit (.pointer none)], eq := [] }
abbrev ti16 : TI := { key := .other, size := 1, bytes := 8, zero := .pointer none, zc := [.lit (.pointer none)], eq := [] }
abbrev ti17 : TI := { key := .other, size := 1, bytes := 8, zero := .pointer none, zc := [.lit (.pointer none)], eq := [] }
abbrev ti21 : TI := { key := .int .i32, size := 1, bytes := 4, zero := .int .i32 0, zc := [.int .i32 0], eq := [] }
abbrev ti22 : TI := { key := .int .i64, size := 1, bytes := 8, zero := .int .i64 0, zc := [.int .i64 0], eq := [] }
abbrev ti37 : TI := { key := .array 12 3, size := 12, bytes := 96, zero := .agg #[.int .i64 0, .int .i64 0, .int .i64 0, .int .i64 0, .int .i64 0, .int .i64 0, .int .i64 0, .int .i64 0, .int .i64 0, .int .i64 0, .int .i64 0, .int .i64 0], zc := [.int .i64 0, .int .i64 0, .int .i64 0, .int .i64 0, .int .i64 0, .int .i64 0, .int .i64 0, .int .i64 0, .int .i64 0, .int .i64 0, .int .i64 0, .int .i64 0], eq := [] }
abbrev ti38 : TI := { key := .slice 3, size := 1, bytes := 24, zero := .slice none 0 0, zc := [.slice (.int .i64 0) []], eq := [] }
abbrev ti42 : TI := { key := .slice 5, size := 1, bytes := 24, zero := .slice none 0 0, zc := [.slice (.int .u8 0) []], eq := [] }
abbrev ti49 : TI := { key := .int .u64, size := 1, bytes := 8, zero := .int .u64 0, zc := [.int .u64 0], eq := [] }
abbrev ti53 : TI := { key := .other, size := 1, bytes := 8, zero := .pointer none, zc := [.lit (.pointer none)], eq := [] }
abbrev ti54 : TI := { key := .struct [(0, 53), (1, 42)], size := 2, bytes := 32, zero := .agg #[.pointer none, .slice none 0 0], zc := [.lit (.pointer none), .slice (.int .u8 0) []], eq := [] }
abbrev ti55 : TI := { key := .struct [(0, 53), (1, 42)], size := 2, bytes := 32, zero := .agg #[.pointer none, .slice none 0 0], zc := [.lit (.pointer none), .slice (.int .u8 0) []], eq := [] }
abbrev ti62 : TI := { key := .other, size := 1, bytes := 8, zero := .pointer none, zc := [.lit (.pointer none)], eq := [] }
abbrev ti66 : TI := { key := .int .u32, size := 1, bytes := 4, zero := .int .u32 0, zc := [.int .u32 0], eq := [] }
abbrev ti69 : TI := { key := .int .u64, size := 1, bytes := 8, zero := .int .u64 0, zc := [.int .u64 0], eq := [] }
abbrev ti72 : TI := { key := .other, size := 1, bytes := 8, zero := .pointer none, zc := [.lit (.pointer none)], eq := [] }
abbrev ti76 : TI := { key := .struct [(0, 9), (1, 9), (2, 44)], size := 3, bytes := 48, zero := .agg #[.string ⟨#[]⟩, .string ⟨#[]⟩, .nilIface], zc := [.str [], .str [], .lit (.nilIface)], eq := [] }
abbrev ti77 : TI := { key := .struct [(0, 9), (1, 9), (2, 44)], size := 3, bytes := 48, zero := .agg #[.string ⟨#[]⟩, .string ⟨#[]⟩, .nilIface], zc := [.str [], .str [], .lit (.nilIface)], eq := [] }
abbrev ti79 : TI := { key := .array 24 5, size := 24, bytes := 24, zero := .agg #[.int .u8 0, .int .u8 0, .int .u8 0, .int .u8 0, .int .u8 0, .int .u8 0, .int .u8 0, .int .u8 0, .int .u8 0, .int .u8 0, .int .u8 0, .int .u8 0, .int .u8 0, .int .u8 0, .int .u8 0, .int .u8 0, .int .u8 0, .int .u8 0, .int .u8 0, .int .u8 0, .int .u8 0, .int .u8 0, .int .u8 0, .int .u8 0], zc := [.int .u8 0, .int .u8 0, .int .u8 0, .int .u8 0, .int .u8 0, .int .u8 0, .int .u8 0, .int .u8 0, .int .u8 0, .int .u8 0, .int .u8 0, .int .u8 0, .int .u8 0, .int .u8 0, .int .u8 0, .int .u8 0, .int .u8 0, .int .u8 0, .int .u8 0, .int .u8 0, .int .u8 0, .int .u8 0, .int .u8 0, .int .u8 0], eq := [] }
abbrev ti89 : TI := { key := .other, size := 1, bytes := 8, zero := .pointer none, zc := [.lit (.pointer none)], eq := [] }
abbrev ti90 : TI := { key := .struct [(0, 9)], size := 1, bytes := 16, zero := .agg #[.string ⟨#[]⟩], zc := [.str []], eq := [2] }
abbrev ti91 : TI := { key := .struct [(0, 9)], size := 1, bytes := 16, zero := .agg #[.string ⟨#[]⟩], zc := [.str []], eq := [2] }
abbrev ti93 : TI := { key := .array 20 69, size := 20, bytes := 160, zero := .agg #[.int .u64 0, .int .u64 0, .int .u64 0, .int .u64 0, .int .u64 0, .int .u64 0, .int .u64 0, .int .u64 0, .int .u64 0, .int .u64 0, .int .u64 0, .int .u64 0, .int .u64 0, .int .u64 0, .int .u64 0, .int .u64 0, .int .u64 0, .int .u64 0, .int .u64 0, .int .u64 0], zc := [.int .u64 0, .int .u64 0, .int .u64 0, .int .u64 0, .int .u64 0, .int .u64 0, .int .u64 0, .int .u64 0, .int .u64 0, .int .u64 0, .int .u64 0, .int .u64 0, .int .u64 0, .int .u64 0, .int .u64 0, .int .u64 0, .int .u64 0, .int .u64 0, .int .u64 0, .int .u64 0], eq := [] }
abbrev ti94 : TI := { key := .array 65 5, size := 65, bytes := 65, zero := .agg #[.int .u8 0, .int .u8 0, .int .u8 0, .int .u8 0, .int .u8 0, .int .u8 0, .int .u8 0, .int .u8 0, .int .u8 0, .int .u8 0, .int .u8 0, .int .u8 0, .int .u8 0, .int .u8 0, .int .u8 0, .int .u8 0, .int .u8 0, .int .u8 0, .int .u8 0, .int .u8 0, .int .u8 0, .int .u8 0, .int .u8 0, .int .u8 0, .int .u8 0, .int .u8 0, .int .u8 0, .int .u8 0, .int .u8 0, .int .u8 0, .int .u8 0, .int .u8 0, .int .u8 0, .int .u8 0, .int .u8 0, .int .u8 0, .int .u8 0, .int .u8 0, .int .u8 0, .int .u8 0, .int .u8 0, .int .u8 0, .int .u8 0, .int .u8 0, .int .u8 0, .int .u8 0, .int .u8 0, .int .u8 0, .int .u8 0, .int .u8 0, .int .u8 0, .int .u8 0, .int .u8 0, .int .u8 0, .int .u8 0, .int .u8 0, .int .u8 0, .int .u8 0, .int .u8 0, .int .u8 0, .int .u8 0, .int .u8 0, .int .u8 0, .int .u8 0, .int .u8 0], zc := [.int .u8 0, .int .u8 0, .int .u8 0, .int .u8 0, .int .u8 0, .int .u8 0, .int .u8 0, .int .u8 0, .int .u8 0, .int .u8 0, .int .u8 0, .int .u8 0, .int .u8 0, .int .u8 0, .int .u8 0, .int .u8 0, .int .u8 0, .int .u8 0, .int .u8 0, .int .u8 0, .int .u8 0, .int .u8 0, .int .u8 0, .int .u8 0, .int .u8 0, .int .u8 0, .int .u8 0, .int .u8 0, .int .u8 0, .int .u8 0, .int .u8 0, .int .u8 0, .int .u8 0, .int .u8 0, .int .u8 0, .int .u8 0, .int .u8 0, .int .u8 0, .int .u8 0, .int .u8 0, .int .u8 0, .int .u8 0, .int .u8 0, .int .u8 0, .int .u8 0, .int .u8 0, .int .u8 0, .int .u8 0, .int .u8 0, .int .u8 0, .int .u8 0, .int .u8 0, .int .u8 0, .int .u8 0, .int .u8 0, .int .u8 0, .int .u8 0, .int .u8 0, .int .u8 0, .int .u8 0, .int .u8 0, .int .u8 0, .int .u8 0, .int .u8 0, .int .u8 0], eq := [] }
abbrev ti97 : TI := { key := .array 32 5, size := 32, bytes := 32, zero := .agg #[.int .u8 0, .int .u8 0, .int .u8 0, .int .u8 0, .int .u8 0, .int .u8 0, .int .u8 0, .int .u8 0, .int .u8 0, .int .u8 0, .int .u8 0, .int .u8 0, .int .u8 0, .int .u8 0, .int .u8 0, .int .u8 0, .int .u8 0, .int .u8 0, .int .u8 0, .int .u8 0, .int .u8 0, .int .u8 0, .int .u8 0, .int .u8 0, .int .u8 0, .int .u8 0, .int .u8 0, .int .u8 0, .int .u8 0, .int .u8 0, .int .u8 0, .int .u8 0], zc := [.int .u8 0, .int .u8 0, .int .u8 0, .int .u8 0, .int .u8 0, .int .u8 0, .int .u8 0, .int .u8 0, .int .u8 0, .int .u8 0, .int .u8 0, .int .u8 0, .int .u8 0, .int .u8 0, .int .u8 0, .int .u8 0, .int .u8 0, .int .u8 0, .int .u8 0, .int .u8 0, .int .u8 0, .int .u8 0, .int .u8 0, .int .u8 0, .int .u8 0, .int .u8 0, .int .u8 0, .int .u8 0, .int .u8 0, .int .u8 0, .int .u8 0, .int .u8 0], eq := [] }
abbrev ti98 : TI := { key := .array 64 5, size := 64, bytes := 64, zero := .agg #[.int .u8 0, .int .u8 0, .int .u8 0, .int .u8 0, .int .u8 0, .int .u8 0, .int .u8 0, .int .u8 0, .int .u8 0, .int .u8 0, .int .u8 0, .int .u8 0, .int .u8 0, .int .u8 0, .int .u8 0, .int .u8 0, .int .u8 0, .int .u8 0, .int .u8 0, .int .u8 0, .int .u8 0, .int .u8 0, .int .u8 0, .int .u8 0, .int .u8 0, .int .u8 0, .int .u8 0, .int .u8 0, .int .u8 0, .int .u8 0, .int .u8 0, .int .u8 0, .int .u8 0, .int .u8 0, .int .u8 0, .int .u8 0, .int .u8 0, .int .u8 0, .int .u8 0, .int .u8 0, .int .u8 0, .int .u8 0, .int .u8 0, .int .u8 0, .int .u8 0, .int .u8 0, .int .u8 0, .int .u8 0, .int .u8 0, .int .u8 0, .int .u8 0, .int .u8 0, .int .u8 0, .int .u8 0, .int .u8 0, .int .u8 0, .int .u8 0, .int .u8 0, .int .u8 0, .int .u8 0, .int .u8 0, .int .u8 0, .int .u8 0, .int .u8 0], zc := [.int .u8 0, .int .u8 0, .int .u8 0, .int .u8 0, .int .u8 0, .int .u8 0, .int .u8 0, .int .u8 0, .int .u8 0, .int .u8 0, .int .u8 0, .int .u8 0, .int .u8 0, .int .u8 0, .int .u8 0, .int .u8 0, .int .u8 0, .int .u8 0, .int .u8 0, .int .u8 0, .int .u8 0, .int .u8 0, .int .u8 0, .int .u8 0, .int .u8 0, .int .u8 0, .int .u8 0, .int .u8 0, .int .u8 0, .int .u8 0, .int .u8 0, .int .u8 0, .int .u8 0, .int .u8 0, .int .u8 0, .int .u8 0, .int .u8 0, .int .u8 0, .int .u8 0, .int .u8 0, .int .u8 0, .int .u8 0, .int .u8 0, .int .u8 0, .int .u8 0, .int .u8 0, .int .u8 0, .int .u8 0, .int .u8 0, .int .u8 0, .int .u8 0, .int .u8 0, .int .u8 0, .int .u8 0, .int .u8 0, .int .u8 0, .int .u8 0, .int .u8 0, .int .u8 0, .int .u8 0, .int .u8 0, .int .u8 0, .int .u8 0, .int .u8 0], eq := [] }
def tab : TypeId → Option TI
  | 2 => some ti2
  | 3 => some ti3
  | 4 => some ti4
  | 5 => some ti5
  | 9 => some ti9
  | 12 => some ti12
  | 15 => some ti15
  | 16 => some ti16
  | 17 => some ti17
  | 21 => some ti21
  | 22 => some ti22
  | 37 => some ti37
  | 38 => some ti38
  | 42 => some ti42
  | 49 => some ti49
  | 53 => some ti53
  | 54 => some ti54
  | 55 => some ti55
  | 62 => some ti62
  | 66 => some ti66
  | 69 => some ti69
  | 72 => some ti72
  | 76 => some ti76
  | 77 => some ti77
  | 79 => some ti79
  | 89 => some ti89
  | 90 => some ti90
  | 91 => some ti91
  | 93 => some ti93
  | 94 => some ti94
  | 97 => some ti97
  | 98 => some ti98
  | _ => none
noncomputable def E : Env := { P := Tryd.prog, tab := tab }
theorem tyok2 : TyOk Tryd.prog 2 ti2 where
  key := by kernel_rfl
  info := by kernel_rfl
  zc := by kernel_rfl
  zok := by kernel_rfl
  len := by kernel_rfl
  one := fun _ => rfl
  zero_slice := fun _ h => by cases h
  eq := fun h => absurd rfl h
theorem tyok3 : TyOk Tryd.prog 3 ti3 where
  key := by kernel_rfl
  info := by kernel_rfl
  zc := by kernel_rfl
  zok := by kernel_rfl
  len := by kernel_rfl
  one := fun _ => rfl
  zero_slice := fun _ h => by cases h
  eq := fun h => absurd rfl h
theorem tyok4 : TyOk Tryd.prog 4 ti4 where
  key := by kernel_rfl
  info := by kernel_rfl
  zc := by kernel_rfl
  zok := by kernel_rfl
  len := by kernel_rfl
  one := fun _ => rfl
  zero_slice := fun _ h => by cases h
  eq := fun h => absurd rfl h
theorem tyok5 : TyOk Tryd.prog 5 ti5 where
  key := by kernel_rfl
  info := by kernel_rfl
  zc := by kernel_rfl
  zok := by kernel_rfl
  len := by kernel_rfl
  one := fun _ => rfl
  zero_slice := fun _ h => by cases h
  eq := fun h => absurd rfl h
theorem tyok9 : TyOk Tryd.prog 9 ti9 where
  key := by kernel_rfl
  info := by kernel_rfl
  zc := by kernel_rfl
  zok := by kernel_rfl
  len := by kernel_rfl
  one := fun _ => rfl
  zero_slice := fun _ h => by cases h
  eq := fun h => absurd rfl h
theorem tyok12 : TyOk Tryd.prog 12 ti12 where
  key := by kernel_rfl
  info := by kernel_rfl
  zc := by kernel_rfl
  zok := by kernel_rfl
  len := by kernel_rfl
  one := fun _ => rfl
  zero_slice := fun _ h => by cases h
  eq := fun h => absurd rfl h
theorem tyok15 : TyOk Tryd.prog 15 ti15 where
  key := by kernel_rfl
  info := by kernel_rfl
  zc := by kernel_rfl
  zok := by kernel_rfl
  len := by kernel_rfl
  one := fun _ => rfl
  zero_slice := fun _ h => by cases h
  eq := fun h => absurd rfl h
theorem tyok16 : TyOk Tryd.prog 16 ti16 where
  key := by kernel_rfl
  info := by kernel_rfl
  zc := by kernel_rfl
  zok := by kernel_rfl
  len := by kernel_rfl
  one := fun _ => rfl
  zero_slice := fun _ h => by cases h
  eq := fun h => absurd rfl h
theorem tyok17 : TyOk Tryd.prog 17 ti17 where
  key := by kernel_rfl
  info := by kernel_rfl
  zc := by kernel_rfl
  zok := by kernel_rfl
  len := by kernel_rfl
  one := fun _ => rfl
  zero_slice := fun _ h => by cases h
  eq := fun h => absurd rfl h
theorem tyok21 : TyOk Tryd.prog 21 ti21 where
  key := by kernel_rfl
  info := by kernel_rfl
  zc := by kernel_rfl
  zok := by kernel_rfl
  len := by kernel_rfl
  one := fun _ => rfl
  zero_slice := fun _ h => by cases h
  eq := fun h => absurd rfl h
theorem tyok22 : TyOk Tryd.prog 22 ti22 where
  key := by kernel_rfl
  info := by kernel_rfl
  zc := by kernel_rfl
  zok := by kernel_rfl
  len := by kernel_rfl
  one := fun _ => rfl
  zero_slice := fun _ h => by cases h
  eq := fun h => absurd rfl h
theorem tyok37 : TyOk Tryd.prog 37 ti37 where
  key := by kernel_rfl
  info := by kernel_rfl
  zc := by kernel_rfl
  zok := by kernel_rfl
  len := by kernel_rfl
  one := fun h => by cases h
  zero_slice := fun _ h => by cases h
  eq := fun h => absurd rfl h
theorem tyok38 : TyOk Tryd.prog 38 ti38 where
  key := by kernel_rfl
  info := by kernel_rfl
  zc := by kernel_rfl
  zok := by kernel_rfl
  len := by kernel_rfl
  one := fun _ => rfl
  zero_slice := fun _ _ => rfl
  eq := fun h => absurd rfl h
theorem tyok42 : TyOk Tryd.prog 42 ti42 where
  key := by kernel_rfl
  info := by kernel_rfl
  zc := by kernel_rfl
  zok := by kernel_rfl
  len := by kernel_rfl
  one := fun _ => rfl
  zero_slice := fun _ _ => rfl
  eq := fun h => absurd rfl h
theorem tyok49 : TyOk Tryd.prog 49 ti49 where
  key := by kernel_rfl
  info := by kernel_rfl
  zc := by kernel_rfl
  zok := by kernel_rfl
  len := by kernel_rfl
  one := fun _ => rfl
  zero_slice := fun _ h => by cases h
  eq := fun h => absurd rfl h
theorem tyok53 : TyOk Tryd.prog 53 ti53 where
  key := by kernel_rfl
  info := by kernel_rfl
  zc := by kernel_rfl
  zok := by kernel_rfl
  len := by kernel_rfl
  one := fun _ => rfl
  zero_slice := fun _ h => by cases h
  eq := fun h => absurd rfl h
theorem tyok54 : TyOk Tryd.prog 54 ti54 where
  key := by kernel_rfl
  info := by kernel_rfl
  zc := by kernel_rfl
  zok := by kernel_rfl
  len := by kernel_rfl
  one := fun h => by cases h
  zero_slice := fun _ h => by cases h
  eq := fun h => absurd rfl h
theorem tyok55 : TyOk Tryd.prog 55 ti55 where
  key := by kernel_rfl
  info := by kernel_rfl
  zc := by kernel_rfl
  zok := by kernel_rfl
  len := by kernel_rfl
  one := fun h => by cases h
  zero_slice := fun _ h => by cases h
  eq := fun h => absurd rfl h
theorem tyok62 : TyOk Tryd.prog 62 ti62 where
  key := by kernel_rfl
  info := by kernel_rfl
  zc := by kernel_rfl
  zok := by kernel_rfl
  len := by kernel_rfl
  one := fun _ => rfl
  zero_slice := fun _ h => by cases h
  eq := fun h => absurd rfl h
theorem tyok66 : TyOk Tryd.prog 66 ti66 where
  key := by kernel_rfl
  info := by kernel_rfl
  zc := by kernel_rfl
  zok := by kernel_rfl
  len := by kernel_rfl
  one := fun _ => rfl
  zero_slice := fun _ h => by cases h
  eq := fun h => absurd rfl h
theorem tyok69 : TyOk Tryd.prog 69 ti69 where
  key := by kernel_rfl
  info := by kernel_rfl
  zc := by kernel_rfl
  zok := by kernel_rfl
  len := by kernel_rfl
  one := fun _ => rfl
  zero_slice := fun _ h => by cases h
  eq := fun h => absurd rfl h
theorem tyok72 : TyOk Tryd.prog 72 ti72 where
  key := by kernel_rfl
  info := by kernel_rfl
  zc := by kernel_rfl
  zok := by kernel_rfl
  len := by kernel_rfl
  one := fun _ => rfl
  zero_slice := fun _ h => by cases h
  eq := fun h => absurd rfl h
theorem tyok76 : TyOk Tryd.prog 76 ti76 where
  key := by kernel_rfl
  info := by kernel_rfl
  zc := by kernel_rfl
  zok := by kernel_rfl
  len := by kernel_rfl
  one := fun h => by cases h
  zero_slice := fun _ h => by cases h
  eq := fun h => absurd rfl h
theorem tyok77 : TyOk Tryd.prog 77 ti77 where
  key := by kernel_rfl
  info := by kernel_rfl
  zc := by kernel_rfl
  zok := by kernel_rfl
  len := by kernel_rfl
  one := fun h => by cases h
  zero_slice := fun _ h => by cases h
  eq := fun h => absurd rfl h
theorem tyok79 : TyOk Tryd.prog 79 ti79 where
  key := by kernel_rfl
  info := by kernel_rfl
  zc := by kernel_rfl
  zok := by kernel_rfl
  len := by kernel_rfl
  one := fun h => by cases h
  zero_slice := fun _ h => by cases h
  eq := fun h => absurd rfl h
theorem tyok89 : TyOk Tryd.prog 89 ti89 where
  key := by kernel_rfl
  info := by kernel_rfl
  zc := by kernel_rfl
  zok := by kernel_rfl
  len := by kernel_rfl
  one := fun _ => rfl
  zero_slice := fun _ h => by cases h
  eq := fun h => absurd rfl h
theorem tyok90 : TyOk Tryd.prog 90 ti90 where
  key := by kernel_rfl
  info := by kernel_rfl
  zc := by kernel_rfl
  zok := by kernel_rfl
  len := by kernel_rfl
  one := fun h => by cases h
  zero_slice := fun _ h => by cases h
  eq := fun _ => ⟨by kernel_rfl, by kernel_rfl, by kernel_rfl⟩
theorem tyok91 : TyOk Tryd.prog 91 ti91 where
  key := by kernel_rfl
  info := by kernel_rfl
  zc := by kernel_rfl
  zok := by kernel_rfl
  len := by kernel_rfl
  one := fun h => by cases h
  zero_slice := fun _ h => by cases h
  eq := fun _ => ⟨by kernel_rfl, by kernel_rfl, by kernel_rfl⟩
theorem tyok93 : TyOk Tryd.prog 93 ti93 where
  key := by kernel_rfl
  info := by kernel_rfl
  zc := by kernel_rfl
  zok := by kernel_rfl
  len := by kernel_rfl
  one := fun h => by cases h
  zero_slice := fun _ h => by cases h
  eq := fun h => absurd rfl h
theorem tyok94 : TyOk Tryd.prog 94 ti94 where
  key := by kernel_rfl
  info := by kernel_rfl
  zc := by kernel_rfl
  zok := by kernel_rfl
  len := by kernel_rfl
  one := fun h => by cases h
  zero_slice := fun _ h => by cases h
  eq := fun h => absurd rfl h
theorem tyok97 : TyOk Tryd.prog 97 ti97 where
  key := by kernel_rfl
  info := by kernel_rfl
  zc := by kernel_rfl
  zok := by kernel_rfl
  len := by kernel_rfl
  one := fun h => by cases h
  zero_slice := fun _ h => by cases h
  eq := fun h => absurd rfl h
theorem tyok98 : TyOk Tryd.prog 98 ti98 where
  key := by kernel_rfl
  info := by kernel_rfl
  zc := by kernel_rfl
  zok := by kernel_rfl
  len := by kernel_rfl
  one := fun h => by cases h
  zero_slice := fun _ h => by cases h
  eq := fun h => absurd rfl h
theorem E_ok : E.Ok := by
  refine ⟨by kernel_rfl, fun t ti h => ?_⟩
  change tab t = some ti at h
  unfold tab at h
  split at h
  · cases h; exact tyok2
  · cases h; exact tyok3
  · cases h; exact tyok4
  · cases h; exact tyok5
  · cases h; exact tyok9
  · cases h; exact tyok12
  · cases h; exact tyok15
  · cases h; exact tyok16
  · cases h; exact tyok17
  · cases h; exact tyok21
  · cases h; exact tyok22
  · cases h; exact tyok37
  · cases h; exact tyok38
  · cases h; exact tyok42
  · cases h; exact tyok49
  · cases h; exact tyok53
  · cases h; exact tyok54
  · cases h; exact tyok55
  · cases h; exact tyok62
  · cases h; exact tyok66
  · cases h; exact tyok69
  · cases h; exact tyok72
  · cases h; exact tyok76
  · cases h; exact tyok77
  · cases h; exact tyok79
  · cases h; exact tyok89
  · cases h; exact tyok90
  · cases h; exact tyok91
  · cases h; exact tyok93
  · cases h; exact tyok94
  · cases h; exact tyok97
  · cases h; exact tyok98
  · cases h
@[simp] theorem tab2 : E.tab 2 = some { key := .int .i64, size := 1, bytes := 8, zero := .int .i64 0, zc := [.int .i64 0], eq := [] } := rfl
@[simp] theorem tab3 : E.tab 3 = some { key := .int .i64, size := 1, bytes := 8, zero := .int .i64 0, zc := [.int .i64 0], eq := [] } := rfl
@[simp] theorem tab4 : E.tab 4 = some { key := .bool, size := 1, bytes := 1, zero := .bool false, zc := [.bool false], eq := [] } := rfl
@[simp] theorem tab5 : E.tab 5 = some { key := .int .u8, size := 1, bytes := 1, zero := .int .u8 0, zc := [.int .u8 0], eq := [] } := rfl
@[simp] theorem tab9 : E.tab 9 = some { key := .string, size := 1, bytes := 16, zero := .string ⟨#[]⟩, zc := [.str []], eq := [] } := rfl
@[simp] theorem tab12 : E.tab 12 = some { key := .int .u64, size := 1, bytes := 8, zero := .int .u64 0, zc := [.int .u64 0], eq := [] } := rfl
@[simp] theorem tab15 : E.tab 15 = some { key := .other, size := 1, bytes := 8, zero := .pointer none, zc := [.lit (.pointer none)], eq := [] } := rfl
@[simp] theorem tab16 : E.tab 16 = some { key := .other, size := 1, bytes := 8, zero := .pointer none, zc := [.lit (.pointer none)], eq := [] } := rfl
@[simp] theorem tab17 : E.tab 17 = some { key := .other, size := 1, bytes := 8, zero := .pointer none, zc := [.lit (.pointer none)], eq := [] } := rfl
@[simp] theorem tab21 : E.tab 21 = some { key := .int .i32, size := 1, bytes := 4, zero := .int .i32 0, zc := [.int .i32 0], eq := [] } := rfl
@[simp] theorem tab22 : E.tab 22 = some { key := .int .i64, size := 1, bytes := 8, zero := .int .i64 0, zc := [.int .i64 0], eq := [] } := rfl
@[simp] theorem tab37 : E.tab 37 = some { key := .array 12 3, size := 12, bytes := 96, zero := .agg #[.int .i64 0, .int .i64 0, .int .i64 0, .int .i64 0, .int .i64 0, .int .i64 0, .int .i64 0, .int .i64 0, .int .i64 0, .int .i64 0, .int .i64 0, .int .i64 0], zc := [.int .i64 0, .int .i64 0, .int .i64 0, .int .i64 0, .int .i64 0, .int .i64 0, .int .i64 0, .int .i64 0, .int .i64 0, .int .i64 0, .int .i64 0, .int .i64 0], eq := [] } := rfl
@[simp] theorem tab38 : E.tab 38 = some { key := .slice 3, size := 1, bytes := 24, zero := .slice none 0 0, zc := [.slice (.int .i64 0) []], eq := [] } := rfl
@[simp] theorem tab42 : E.tab 42 = some { key := .slice 5, size := 1, bytes := 24, zero := .slice none 0 0, zc := [.slice (.int .u8 0) []], eq := [] } := rfl
@[simp] theorem tab49 : E.tab 49 = some { key := .int .u64, size := 1, bytes := 8, zero := .int .u64 0, zc := [.int .u64 0], eq := [] } := rfl
@[simp] theorem tab53 : E.tab 53 = some { key := .other, size := 1, bytes := 8, zero := .pointer none, zc := [.lit (.pointer none)], eq := [] } := rfl
@[simp] theorem tab54 : E.tab 54 = some { key := .struct [(0, 53), (1, 42)], size := 2, bytes := 32, zero := .agg #[.pointer none, .slice none 0 0], zc := [.lit (.pointer none), .slice (.int .u8 0) []], eq := [] } := rfl
@[simp] theorem tab55 : E.tab 55 = some { key := .struct [(0, 53), (1, 42)], size := 2, bytes := 32, zero := .agg #[.pointer none, .slice none 0 0], zc := [.lit (.pointer none), .slice (.int .u8 0) []], eq := [] } := rfl
@[simp] theorem tab62 : E.tab 62 = some { key := .other, size := 1, bytes := 8, zero := .pointer none, zc := [.lit (.pointer none)], eq := [] } := rfl
@[simp] theorem tab66 : E.tab 66 = some { key := .int .u32, size := 1, bytes := 4, zero := .int .u32 0, zc := [.int .u32 0], eq := [] } := rfl
@[simp] theorem tab69 : E.tab 69 = some { key := .int .u64, size := 1, bytes := 8, zero := .int .u64 0, zc := [.int .u64 0], eq := [] } := rfl
@[simp] theorem tab72 : E.tab 72 = some { key := .other, size := 1, bytes := 8, zero := .pointer none, zc := [.lit (.pointer none)], eq := [] } := rfl
@[simp] theorem tab76 : E.tab 76 = some { key := .struct [(0, 9), (1, 9), (2, 44)], size := 3, bytes := 48, zero := .agg #[.string ⟨#[]⟩, .string ⟨#[]⟩, .nilIface], zc := [.str [], .str [], .lit (.nilIface)], eq := [] } := rfl
@[simp] theorem tab77 : E.tab 77 = some { key := .struct [(0, 9), (1, 9), (2, 44)], size := 3, bytes := 48, zero := .agg #[.string ⟨#[]⟩, .string ⟨#[]⟩, .nilIface], zc := [.str [], .str [], .lit (.nilIface)], eq := [] } := rfl
@[simp] theorem tab79 : E.tab 79 = some { key := .array 24 5, size := 24, bytes := 24, zero := .agg #[.int .u8 0, .int .u8 0, .int .u8 0, .int .u8 0, .int .u8 0, .int .u8 0, .int .u8 0, .int .u8 0, .int .u8 0, .int .u8 0, .int .u8 0, .int .u8 0, .int .u8 0, .int .u8 0, .int .u8 0, .int .u8 0, .int .u8 0, .int .u8 0, .int .u8 0, .int .u8 0, .int .u8 0, .int .u8 0, .int .u8 0, .int .u8 0], zc := [.int .u8 0, .int .u8 0, .int .u8 0, .int .u8 0, .int .u8 0, .int .u8 0, .int .u8 0, .int .u8 0, .int .u8 0, .int .u8 0, .int .u8 0, .int .u8 0, .int .u8 0, .int .u8 0, .int .u8 0, .int .u8 0, .int .u8 0, .int .u8 0, .int .u8 0, .int .u8 0, .int .u8 0, .int .u8 0, .int .u8 0, .int .u8 0], eq := [] } := rfl
@[simp] theorem tab89 : E.tab 89 = some { key := .other, size := 1, bytes := 8, zero := .pointer none, zc := [.lit (.pointer none)], eq := [] } := rfl
@[simp] theorem tab90 : E.tab 90 = some { key := .struct [(0, 9)], size := 1, bytes := 16, zero := .agg #[.string ⟨#[]⟩], zc := [.str []], eq := [2] } := rfl
@[simp] theorem tab91 : E.tab 91 = some { key := .struct [(0, 9)], size := 1, bytes := 16, zero := .agg #[.string ⟨#[]⟩], zc := [.str []], eq := [2] } := rfl
@[simp] theorem tab93 : E.tab 93 = some { key := .array 20 69, size := 20, bytes := 160, zero := .agg #[.int .u64 0, .int .u64 0, .int .u64 0, .int .u64 0, .int .u64 0, .int .u64 0, .int .u64 0, .int .u64 0, .int .u64 0, .int .u64 0, .int .u64 0, .int .u64 0, .int .u64 0, .int .u64 0, .int .u64 0, .int .u64 0, .int .u64 0, .int .u64 0, .int .u64 0, .int .u64 0], zc := [.int .u64 0, .int .u64 0, .int .u64 0, .int .u64 0, .int .u64 0, .int .u64 0, .int .u64 0, .int .u64 0, .int .u64 0, .int .u64 0, .int .u64 0, .int .u64 0, .int .u64 0, .int .u64 0, .int .u64 0, .int .u64 0, .int .u64 0, .int .u64 0, .int .u64 0, .int .u64 0], eq := [] } := rfl
@[simp] theorem tab94 : E.tab 94 = some { key := .array 65 5, size := 65, bytes := 65, zero := .agg #[.int .u8 0, .int .u8 0, .int .u8 0, .int .u8 0, .int .u8 0, .int .u8 0, .int .u8 0, .int .u8 0, .int .u8 0, .int .u8 0, .int .u8 0, .int .u8 0, .int .u8 0, .int .u8 0, .int .u8 0, .int .u8 0, .int .u8 0, .int .u8 0, .int .u8 0, .int .u8 0, .int .u8 0, .int .u8 0, .int .u8 0, .int .u8 0, .int .u8 0, .int .u8 0, .int .u8 0, .int .u8 0, .int .u8 0, .int .u8 0, .int .u8 0, .int .u8 0, .int .u8 0, .int .u8 0, .int .u8 0, .int .u8 0, .int .u8 0, .int .u8 0, .int .u8 0, .int .u8 0, .int .u8 0, .int .u8 0, .int .u8 0, .int .u8 0, .int .u8 0, .int .u8 0, .int .u8 0, .int .u8 0, .int .u8 0, .int .u8 0, .int .u8 0, .int .u8 0, .int .u8 0, .int .u8 0, .int .u8 0, .int .u8 0, .int .u8 0, .int .u8 0, .int .u8 0, .int .u8 0, .int .u8 0, .int .u8 0, .int .u8 0, .int .u8 0, .int .u8 0], zc := [.int .u8 0, .int .u8 0, .int .u8 0, .int .u8 0, .int .u8 0, .int .u8 0, .int .u8 0, .int .u8 0, .int .u8 0, .int .u8 0, .int .u8 0, .int .u8 0, .int .u8 0, .int .u8 0, .int .u8 0, .int .u8 0, .int .u8 0, .int .u8 0, .int .u8 0, .int .u8 0, .int .u8 0, .int .u8 0, .int .u8 0, .int .u8 0, .int .u8 0, .int .u8 0, .int .u8 0, .int .u8 0, .int .u8 0, .int .u8 0, .int .u8 0, .int .u8 0, .int .u8 0, .int .u8 0, .int .u8 0, .int .u8 0, .int .u8 0, .int .u8 0, .int .u8 0, .int .u8 0, .int .u8 0, .int .u8 0, .int .u8 0, .int .u8 0, .int .u8 0, .int .u8 0, .int .u8 0, .int .u8 0, .int .u8 0, .int .u8 0, .int .u8 0, .int .u8 0, .int .u8 0, .int .u8 0, .int .u8 0, .int .u8 0, .int .u8 0, .int .u8 0, .int .u8 0, .int .u8 0, .int .u8 0, .int .u8 0, .int .u8 0, .int .u8 0, .int .u8 0], eq := [] } := rfl
@[simp] theorem tab97 : E.tab 97 = some { key := .array 32 5, size := 32, bytes := 32, zero := .agg #[.int .u8 0, .int .u8 0, .int .u8 0, .int .u8 0, .int .u8 0, .int .u8 0, .int .u8 0, .int .u8 0, .int .u8 0, .int .u8 0, .int .u8 0, .int .u8 0, .int .u8 0, .int .u8 0, .int .u8 0, .int .u8 0, .int .u8 0, .int .u8 0, .int .u8 0, .int .u8 0, .int .u8 0, .int .u8 0, .int .u8 0, .int .u8 0, .int .u8 0, .int .u8 0, .int .u8 0, .int .u8 0, .int .u8 0, .int .u8 0, .int .u8 0, .int .u8 0], zc := [.int .u8 0, .int .u8 0, .int .u8 0, .int .u8 0, .int .u8 0, .int .u8 0, .int .u8 0, .int .u8 0, .int .u8 0, .int .u8 0, .int .u8 0, .int .u8 0, .int .u8 0, .int .u8 0, .int .u8 0, .int .u8 0, .int .u8 0, .int .u8 0, .int .u8 0, .int .u8 0, .int .u8 0, .int .u8 0, .int .u8 0, .int .u8 0, .int .u8 0, .int .u8 0, .int .u8 0, .int .u8 0, .int .u8 0, .int .u8 0, .int .u8 0, .int .u8 0], eq := [] } := rfl
@[simp] theorem tab98 : E.tab 98 = some { key := .array 64 5, size := 64, bytes := 64, zero := .agg #[.int .u8 0, .int .u8 0, .int .u8 0, .int .u8 0, .int .u8 0, .int .u8 0, .int .u8 0, .int .u8 0, .int .u8 0, .int .u8 0, .int .u8 0, .int .u8 0, .int .u8 0, .int .u8 0, .int .u8 0, .int .u8 0, .int .u8 0, .int .u8 0, .int .u8 0, .int .u8 0, .int .u8 0, .int .u8 0, .int .u8 0, .int .u8 0, .int .u8 0, .int .u8 0, .int .u8 0, .int .u8 0, .int .u8 0, .int .u8 0, .int .u8 0, .int .u8 0, .int .u8 0, .int .u8 0, .int .u8 0, .int .u8 0, .int .u8 0, .int .u8 0, .int .u8 0, .int .u8 0, .int .u8 0, .int .u8 0, .int .u8 0, .int .u8 0, .int .u8 0, .int .u8 0, .int .u8 0, .int .u8 0, .int .u8 0, .int .u8 0, .int .u8 0, .int .u8 0, .int .u8 0, .int .u8 0, .int .u8 0, .int .u8 0, .int .u8 0, .int .u8 0, .int .u8 0, .int .u8 0, .int .u8 0, .int .u8 0, .int .u8 0, .int .u8 0], zc := [.int .u8 0, .int .u8 0, .int .u8 0, .int .u8 0, .int .u8 0, .int .u8 0, .int .u8 0, .int .u8 0, .int .u8 0, .int .u8 0, .int .u8 0, .int .u8 0, .int .u8 0, .int .u8 0, .int .u8 0, .int .u8 0, .int .u8 0, .int .u8 0, .int .u8 0, .int .u8 0, .int .u8 0, .int .u8 0, .int .u8 0, .int .u8 0, .int .u8 0, .int .u8 0, .int .u8 0, .int .u8 0, .int .u8 0, .int .u8 0, .int .u8 0, .int .u8 0, .int .u8 0, .int .u8 0, .int .u8 0, .int .u8 0, .int .u8 0, .int .u8 0, .int .u8 0, .int .u8 0, .int .u8 0, .int .u8 0, .int .u8 0, .int .u8 0, .int .u8 0, .int .u8 0, .int .u8 0, .int .u8 0, .int .u8 0, .int .u8 0, .int .u8 0, .int .u8 0, .int .u8 0, .int .u8 0, .int .u8 0, .int .u8 0, .int .u8 0, .int .u8 0, .int .u8 0, .int .u8 0, .int .u8 0, .int .u8 0, .int .u8 0, .int .u8 0], eq := [] } := rfl
end Go.Proofs.YtmofeikdaoknlaaDoor

namespace Go.Proofs.YtmofeikdaoknlaaDoor
open Go Ab
abbrev n_main_main : Nat := 0
abbrev n_gosem_cut : Nat := 1
abbrev n_gosem_cut_init : Nat := 2
abbrev n_law03_DateOf : Nat := 3
abbrev n_law03_DateParts : Nat := 4
abbrev n_law03_DateLengths : Nat := 5
abbrev n_law03_DateMonths : Nat := 6
abbrev n_law03_DateTexts : Nat := 7
abbrev n_law03_DateBack : Nat := 8
abbrev n_law03_DateSteps : Nat := 9
abbrev n_date_Of : Nat := 10
abbrev n_ref03_Of : Nat := 11
abbrev n_law03_alive : Nat := 12
abbrev n_date_Parts : Nat := 13
abbrev n_ref03_Parts : Nat := 14
abbrev n_date_Length : Nat := 15
abbrev n_ref03_Length : Nat := 16
abbrev n_date_Weekday : Nat := 17
abbrev n_ref03_Weekday : Nat := 18
abbrev n_date_Months : Nat := 19
abbrev n_ref03_Months : Nat := 20
abbrev n_date_Parse : Nat := 21
abbrev n_ref03_Parse : Nat := 22
abbrev n_date_Format : Nat := 23
abbrev n_ref03_Format : Nat := 24
abbrev n_date_newYear : Nat := 25
abbrev n_date_before : Nat := 26
abbrev n_ref03_Year : Nat := 27
abbrev n_date_known : Nat := 28
abbrev n_ref03_Is : Nat := 29
abbrev n_date_leap : Nat := 30
abbrev n_date_number : Nat := 31
abbrev n_date_padded : Nat := 32
abbrev n_ref03_Digits : Nat := 33
abbrev n_strconv_Atoi : Nat := 34
abbrev n_strconv_Itoa : Nat := 35
abbrev n_strings_Repeat : Nat := 36
abbrev n_internal_strconv_Atoi : Nat := 37
abbrev n_strconv_toError : Nat := 38
abbrev n_internal_strconv_Itoa : Nat := 39
abbrev n_math_bits_Mul : Nat := 40
abbrev n_strings_HasPrefix : Nat := 41
abbrev n_strings_Builder_Grow : Nat := 42
abbrev n_strings_Builder_WriteString : Nat := 43
abbrev n_strings_Builder_Len : Nat := 44
abbrev n_strings_Builder_String : Nat := 45
abbrev n_internal_strconv_ParseInt : Nat := 46
abbrev n_strconv_syntaxError : Nat := 47
abbrev n_strconv_rangeError : Nat := 48
abbrev n_strconv_baseError : Nat := 49
abbrev n_strconv_bitSizeError : Nat := 50
abbrev n_internal_strconv_FormatInt : Nat := 51
abbrev n_math_bits_Mul32 : Nat := 52
abbrev n_math_bits_Mul64 : Nat := 53
abbrev n_internal_stringslite_HasPrefix : Nat := 54
abbrev n_strings_Builder_copyCheck : Nat := 55
abbrev n_strings_Builder_grow : Nat := 56
abbrev n_internal_strconv_ParseUint : Nat := 57
abbrev n_internal_stringslite_Clone : Nat := 58
abbrev n_errors_New : Nat := 59
abbrev n_internal_strconv_small : Nat := 60
abbrev n_internal_strconv_numDigits : Nat := 61
abbrev n_internal_strconv_formatBase10 : Nat := 62
abbrev n_internal_strconv_formatBits : Nat := 63
abbrev n_internal_abi_NoEscape : Nat := 64
abbrev n_internal_bytealg_MakeNoZero : Nat := 65
abbrev n_internal_strconv_lower : Nat := 66
abbrev n_internal_strconv_underscoreOK : Nat := 67
abbrev n_internal_strconv_log10Pow2 : Nat := 68
abbrev n_math_bits_Len64 : Nat := 69
abbrev n_internal_strconv_bool2_int : Nat := 70
abbrev n_internal_strconv_isPowerOfTwo : Nat := 71
abbrev n_math_bits_TrailingZeros : Nat := 72
abbrev n_math_bits_TrailingZeros32 : Nat := 73
abbrev n_math_bits_TrailingZeros64 : Nat := 74
abbrev n_runtime_boundsError_Error : Nat := 75
abbrev n_runtime_boundsError_RuntimeError : Nat := 76
abbrev n_runtime_errorString_Error : Nat := 77
abbrev n_runtime_errorString_RuntimeError : Nat := 78
abbrev n_runtime_plainError_Error : Nat := 79
abbrev n_runtime_plainError_RuntimeError : Nat := 80
abbrev n_runtime_errorAddressString_Error : Nat := 81
abbrev n_runtime_errorAddressString_RuntimeError : Nat := 82
abbrev n_runtime_TypeAssertionError_Error : Nat := 83
abbrev n_runtime_TypeAssertionError_RuntimeError : Nat := 84
abbrev n_runtime_PanicNilError_Error : Nat := 85
abbrev n_runtime_PanicNilError_RuntimeError : Nat := 86
abbrev n_internal_abi_Type_Align : Nat := 87
abbrev n_internal_runtime_maps_unhashableTypeError_Error : Nat := 88
abbrev n_internal_runtime_maps_unhashableTypeError_RuntimeError : Nat := 89
abbrev n_api_Errno_Error : Nat := 90
abbrev n_strings_Builder_Reset : Nat := 91
abbrev n_internal_strconv_Error_Error : Nat := 92
abbrev n_strconv_NumError_Error : Nat := 93
abbrev n_errors_errorString_Error : Nat := 94
abbrev n_internal_abi_Kind_String : Nat := 95
abbrev n_var_s_door_gosem_cut_vars_holds_initialisers_alone_see_the_manifest_s_row_cutvarsword_look_11_test_files_too : Nat := 96
abbrev n_var_s_door_internal_strconv_uint64pow10_is_laid_by_its_own_initialiser_plain_data_look_11 : Nat := 97
abbrev n_var_s_door_math_bits_deBruijn32tab_is_laid_by_its_own_initialiser_plain_data_look_11 : Nat := 98
abbrev n_var_s_door_math_bits_deBruijn64tab_is_laid_by_its_own_initialiser_plain_data_look_11 : Nat := 99
abbrev n_var_s_door_strconv_ErrRange_is_laid_by_its_own_call_of_errors_New_on_one_literal_look_11 : Nat := 100
abbrev n_var_s_door_strconv_ErrSyntax_is_laid_by_its_own_call_of_errors_New_on_one_literal_look_11 : Nat := 101
abbrev n_var_s_door_the_look_of_gosem_cut_vars_went_over_the_folder_that_the_caller_named_as_the_repository_s_root_look_11 : Nat := 102
abbrev n_gosem_cut_vars : Nat := 103
abbrev t_ : Nat := 0
abbrev t_Error : Nat := 43
abbrev t_a0_p_runtime_PanicNilError : Nat := 101
abbrev t_a12_int : Nat := 37
abbrev t_a20_uint64 : Nat := 93
abbrev t_a24_uint8 : Nat := 79
abbrev t_a32_uint8 : Nat := 97
abbrev t_a64_uint8 : Nat := 98
abbrev t_a65_uint8 : Nat := 94
abbrev t_abi_BoundsErrorCode : Nat := 6
abbrev t_abi_Kind : Nat := 105
abbrev t_abi_NameOff : Nat := 107
abbrev t_abi_TFlag : Nat := 104
abbrev t_abi_Type : Nat := 110
abbrev t_abi_TypeOff : Nat := 108
abbrev t_api_Errno : Nat := 22
abbrev t_bool : Nat := 4
abbrev t_error : Nat := 44
abbrev t_errors_errorString : Nat := 91
abbrev t_int : Nat := 3
abbrev t_int32 : Nat := 21
abbrev t_int64 : Nat := 2
abbrev t_maps_unhashableTypeError : Nat := 19
abbrev t_p_abi_Type : Nat := 17
abbrev t_p_errors_errorString : Nat := 89
abbrev t_p_runtime_PanicNilError : Nat := 16
abbrev t_p_runtime_TypeAssertionError : Nat := 15
abbrev t_p_strconv_NumError : Nat := 62
abbrev t_p_strings_Builder : Nat := 53
abbrev t_p_uint8 : Nat := 72
abbrev t_runtime_PanicNilError : Nat := 103
abbrev t_runtime_TypeAssertionError : Nat := 100
abbrev t_runtime_boundsError : Nat := 8
abbrev t_runtime_errorAddressString : Nat := 14
abbrev t_runtime_errorString : Nat := 10
abbrev t_runtime_plainError : Nat := 11
abbrev t_s_int : Nat := 38
abbrev t_s_uint8 : Nat := 42
abbrev t_strconv_Error : Nat := 59
abbrev t_strconv_NumError : Nat := 77
abbrev t_string : Nat := 9
abbrev t_strings_Builder : Nat := 55
abbrev t_uint : Nat := 49
abbrev t_uint32 : Nat := 66
abbrev t_uint64 : Nat := 69
abbrev t_uint8 : Nat := 5
abbrev t_uintptr : Nat := 12
abbrev t_unsafe_Pointer : Nat := 84
def tabZ_math_bits_deBruijn32tab : List Int := [0, 1, 28, 2, 29, 14, 24, 3, 30, 22, 20, 15, 25, 17, 4, 8, 31, 27, 13, 23, 21, 19, 16, 7, 26, 12, 18, 6, 11, 5, 10, 9]
@[simp] theorem tabZ_math_bits_deBruijn32tab_len : tabZ_math_bits_deBruijn32tab.length = 32 := rfl
def tabL0 : TabL := ⟨ "math/bits.deBruijn32tab", 4, .u8, tabZ_math_bits_deBruijn32tab⟩
def tabZ_math_bits_deBruijn64tab : List Int := [0, 1, 56, 2, 57, 49, 28, 3, 61, 58, 42, 50, 38, 29, 17, 4, 62, 47, 59, 36, 45, 43, 51, 22, 53, 39, 33, 30, 24, 18, 12, 5, 63, 55, 48, 27, 60, 41, 37, 16, 46, 35, 44, 21, 52, 32, 23, 11, 54, 26, 40, 15, 34, 20, 31, 10, 25, 14, 19, 9, 13, 8, 7, 6]
@[simp] theorem tabZ_math_bits_deBruijn64tab_len : tabZ_math_bits_deBruijn64tab.length = 64 := rfl
def tabL1 : TabL := ⟨ "math/bits.deBruijn64tab", 5, .u8, tabZ_math_bits_deBruijn64tab⟩
def tabZ_internal_strconv_uint64pow10 : List Int := [1, 10, 100, 1000, 10000, 100000, 1000000, 10000000, 100000000, 1000000000, 10000000000, 100000000000, 1000000000000, 10000000000000, 100000000000000, 1000000000000000, 10000000000000000, 100000000000000000, 1000000000000000000, 10000000000000000000]
@[simp] theorem tabZ_internal_strconv_uint64pow10_len : tabZ_internal_strconv_uint64pow10.length = 20 := rfl
def tabL2 : TabL := ⟨ "internal/strconv.uint64pow10", 2, .u64, tabZ_internal_strconv_uint64pow10⟩
def tabL : List TabL := [tabL0, tabL1, tabL2]
theorem tabL_g : ∀ x ∈ tabL, Tryd.prog.globalNamed x.name = some x.g := by
  intro x hx
  simp only [tabL, List.mem_cons, List.not_mem_nil, or_false] at hx
  rcases hx with rfl | rfl | rfl <;> kernel_rfl
theorem tabL_r : ∀ x ∈ tabL, ∀ z ∈ x.zs, x.k.min ≤ z ∧ z ≤ x.k.max := by decide +kernel
instance amb : Amb := Amb.tabs Tryd.prog tabL tabL_g tabL_r
@[simp] theorem amb_tab4 : Amb.tab 4 = some (tabZ_math_bits_deBruijn32tab.map (D.int .u8)) := rfl
@[simp] theorem amb_tab5 : Amb.tab 5 = some (tabZ_math_bits_deBruijn64tab.map (D.int .u8)) := rfl
@[simp] theorem amb_tab2 : Amb.tab 2 = some (tabZ_internal_strconv_uint64pow10.map (D.int .u64)) := rfl
@[simp] theorem amb_tab0 : Amb.tab 0 = none := rfl
@[simp] theorem amb_tab1 : Amb.tab 1 = none := rfl
@[simp] theorem amb_tab3 : Amb.tab 3 = none := rfl
theorem amb_is4 {w : World} {S : Nat → Nat → Prop} (h : Amb.G w S) : Go.Lib.TabIs Tryd.prog w "math/bits.deBruijn32tab" .u8 [0, 1, 28, 2, 29, 14, 24, 3, 30, 22, 20, 15, 25, 17, 4, 8, 31, 27, 13, 23, 21, 19, 16, 7, 26, 12, 18, 6, 11, 5, 10, 9] := (h tabL0 (by simp [tabL])).1
theorem amb_is5 {w : World} {S : Nat → Nat → Prop} (h : Amb.G w S) : Go.Lib.TabIs Tryd.prog w "math/bits.deBruijn64tab" .u8 [0, 1, 56, 2, 57, 49, 28, 3, 61, 58, 42, 50, 38, 29, 17, 4, 62, 47, 59, 36, 45, 43, 51, 22, 53, 39, 33, 30, 24, 18, 12, 5, 63, 55, 48, 27, 60, 41, 37, 16, 46, 35, 44, 21, 52, 32, 23, 11, 54, 26, 40, 15, 34, 20, 31, 10, 25, 14, 19, 9, 13, 8, 7, 6] := (h tabL1 (by simp [tabL])).1
theorem amb_is2 {w : World} {S : Nat → Nat → Prop} (h : Amb.G w S) : Go.Lib.TabIs Tryd.prog w "internal/strconv.uint64pow10" .u64 [1, 10, 100, 1000, 10000, 100000, 1000000, 10000000, 100000000, 1000000000, 10000000000, 100000000000, 1000000000000, 10000000000000, 100000000000000, 1000000000000000, 10000000000000000, 100000000000000000, 1000000000000000000, 10000000000000000000] := (h tabL2 (by simp [tabL])).1
theorem mixed : E.P.follows .mixedOrders = true := by kernel_rfl
end Go.Proofs.YtmofeikdaoknlaaDoor

/- Dates: years, months and days. -/
namespace Pl
set_option linter.unusedVariables false
set_option linter.unusedSimpArgs false
def leapB (y : Int) : Bool := decide (y % 4 = 0 ∧ (¬ y % 100 = 0 ∨ y % 400 = 0))
theorem leap_iff {y : Int} (h : 1900 ≤ y) (h2 : y ≤ 2199) : leapB y = true ↔ (y % 4 = 0 ∧ ¬ y = 1900 ∧ ¬ y = 2100) := by
  unfold leapB; rw [decide_eq_true_iff]; omega
/-- the days ahead of a year -/
def nyD (y : Int) : Int := if y ≤ 1900 then 0 else 365 * (y - 1900) + (y - 1) / 4 - 475 - (if y ≤ 2100 then 0 else 1)
def yearD (y : Int) : Int := if leapB y = true then 366 else 365
theorem ny_step {y : Int} (h : 1900 ≤ y) (h2 : y ≤ 2199) : nyD (y + 1) = nyD y + yearD y := by
  unfold nyD yearD
  by_cases hl : leapB y = true
  · have := (leap_iff h h2).1 hl
    rw [if_pos hl]; repeat' split
    all_goals omega
  · have := mt (leap_iff h h2).2 hl
    rw [if_neg hl]; repeat' split
    all_goals omega
theorem year_pos (y : Int) : 365 ≤ yearD y ∧ yearD y ≤ 366 := by unfold yearD; split <;> omega
theorem ny_mono {y z : Int} (h : y ≤ z) : nyD y ≤ nyD z := by unfold nyD; repeat' split <;> omega
theorem ny_first : nyD 1900 = 0 := by decide
theorem ny_end : nyD 2200 = 109573 := by decide
theorem ny_rng {y : Int} (h : 1900 ≤ y) (h2 : y ≤ 2200) : 0 ≤ nyD y ∧ nyD y ≤ 109573 ∧ 365 * (y - 1900) ≤ nyD y ∧ nyD y ≤ 366 * (y - 1900) := by unfold nyD; repeat' split <;> omega
/-- the length of a month -/
def tblD (m : Int) : Int := if m = 2 then 28 else if m = 4 ∨ m = 6 ∨ m = 9 ∨ m = 11 then 30 else 31
def mlenD (y m : Int) : Int := if (y < 1900 ∨ 2199 < y) ∨ (m < 1 ∨ 12 < m) then 0 else if m = 2 ∧ leapB y = true then 29 else tblD m
/-- the days of a year ahead of a month -/
def befT (m : Int) : Int :=
  if m ≤ 1 then 0 else if m = 2 then 31 else if m = 3 then 59 else if m = 4 then 90 else if m = 5 then 120 else if m = 6 then 151 else if m = 7 then 181 else if m = 8 then 212 else if m = 9 then 243
  else if m = 10 then 273 else if m = 11 then 304 else if m = 12 then 334 else 365
def befD (y m : Int) : Int := befT m + (if 2 < m ∧ leapB y = true then 1 else 0)
theorem mlen_ok {y m : Int} (hy : 1900 ≤ y) (hy2 : y ≤ 2199) (hm : 1 ≤ m) (hm2 : m ≤ 12) : mlenD y m = if m = 2 ∧ leapB y = true then 29 else tblD m := if_neg (by omega)
theorem bef_step {y m : Int} (hy : 1900 ≤ y) (hy2 : y ≤ 2199) (hm : 1 ≤ m) (hm2 : m ≤ 12) : befD y (m + 1) = befD y m + mlenD y m := by
  rw [mlen_ok hy hy2 hm hm2]
  have hc : m = 1 ∨ m = 2 ∨ m = 3 ∨ m = 4 ∨ m = 5 ∨ m = 6 ∨ m = 7 ∨ m = 8 ∨ m = 9 ∨ m = 10 ∨ m = 11 ∨ m = 12 := by omega
  unfold befD
  cases leapB y <;> rcases hc with rfl | rfl | rfl | rfl | rfl | rfl | rfl | rfl | rfl | rfl | rfl | rfl <;> decide
theorem bef_first (y : Int) : befD y 1 = 0 := by simp [befD, befT]
theorem bef_end {y : Int} (hy : 1900 ≤ y) (hy2 : y ≤ 2199) : befD y 13 = yearD y := by
  unfold befD yearD; cases leapB y <;> decide
theorem befT_mono {m n : Int} (hn : n ≤ 13) (h1 : 1 ≤ m) (h : m ≤ n) : befT m ≤ befT n := by
  have hc : m = 1 ∨ m = 2 ∨ m = 3 ∨ m = 4 ∨ m = 5 ∨ m = 6 ∨ m = 7 ∨ m = 8 ∨ m = 9 ∨ m = 10 ∨ m = 11 ∨ m = 12 ∨ m = 13 := by omega
  have hd : n = 1 ∨ n = 2 ∨ n = 3 ∨ n = 4 ∨ n = 5 ∨ n = 6 ∨ n = 7 ∨ n = 8 ∨ n = 9 ∨ n = 10 ∨ n = 11 ∨ n = 12 ∨ n = 13 := by omega
  have key : ∀ i : Fin 13, ∀ j : Fin 13, i ≤ j → befT ((i.val : Int) + 1) ≤ befT ((j.val : Int) + 1) := by decide
  have := key ⟨(m - 1).toNat, by omega⟩ ⟨(n - 1).toNat, by omega⟩ (by rw [Fin.le_def]; simp only; omega)
  simp only at this
  rwa [show (((m - 1).toNat : Nat) : Int) + 1 = m by omega, show (((n - 1).toNat : Nat) : Int) + 1 = n by omega] at this
theorem bef_mono {y m n : Int} (hn : n ≤ 13) (h1 : 1 ≤ m) (h : m ≤ n) : befD y m ≤ befD y n := by
  have := befT_mono hn h1 h
  unfold befD
  cases leapB y
  · simpa using this
  · simp only [and_true]
    split <;> split <;> omega
theorem mlen_rng {y m : Int} (hy : 1900 ≤ y) (hy2 : y ≤ 2199) (hm : 1 ≤ m) (hm2 : m ≤ 12) : 28 ≤ mlenD y m ∧ mlenD y m ≤ 31 := by
  rw [mlen_ok hy hy2 hm hm2]; unfold tblD; repeat' split <;> omega
theorem mlen_in {y m d : Int} (h1 : 1 ≤ d) (h2 : d ≤ mlenD y m) : (1900 ≤ y ∧ y ≤ 2199) ∧ 1 ≤ m ∧ m ≤ 12 := by
  unfold mlenD at h2; split at h2 <;> omega
/-- the day of a date -/
def dayD (y m d : Int) : Int := nyD y + befD y m + d - 1
def ofR (y m d : Int) : Int × Int := if d < 1 ∨ mlenD y m < d then (0, 2) else (dayD y m d, 0)
theorem of_bad {y m d : Int} (h : d < 1 ∨ mlenD y m < d) : ofR y m d = (0, 2) := if_pos h
theorem of_ok {y m d : Int} (h1 : 1 ≤ d) (h2 : d ≤ mlenD y m) : ofR y m d = (dayD y m d, 0) := if_neg (by omega)
structure Parts where
  y : Int
  m : Int
  d : Int
def IsParts (day : Int) (p : Parts) : Prop := 1 ≤ p.d ∧ p.d ≤ mlenD p.y p.m ∧ dayD p.y p.m p.d = day
theorem parts_in {day : Int} {p : Parts} (h : IsParts day p) : (1900 ≤ p.y ∧ p.y ≤ 2199) ∧ (1 ≤ p.m ∧ p.m ≤ 12) ∧ (nyD p.y ≤ day ∧ day < nyD (p.y + 1)) ∧ (befD p.y p.m ≤ day - nyD p.y ∧ day - nyD p.y < befD p.y (p.m + 1)) ∧ (1 ≤ p.d ∧ p.d ≤ 31) ∧ 0 ≤ day ∧ day ≤ 109572 := by
  obtain ⟨h1, h2, h3⟩ := h
  obtain ⟨⟨a1, a2⟩, a3, a4⟩ := mlen_in h1 h2
  have b1 := bef_step a1 a2 a3 a4
  have b2 := bef_mono (y := p.y) (m := p.m + 1) (n := 13) (by omega) (by omega) (by omega)
  have b3 := bef_mono (y := p.y) (m := 1) (n := p.m) (by omega) (by omega) (by omega)
  rw [bef_end a1 a2] at b2
  rw [bef_first] at b3
  have b4 := ny_step a1 a2
  have b5 := ny_rng a1 (by omega)
  have b6 := ny_rng (y := p.y + 1) (by omega) (by omega)
  have b7 := mlen_rng a1 a2 a3 a4
  unfold dayD at h3
  omega
theorem parts_uniq {day : Int} {p q : Parts} (hp : IsParts day p) (hq : IsParts day q) : p = q := by
  have a := parts_in hp
  have b := parts_in hq
  have hy : p.y = q.y := by
    have c1 := fun h : p.y + 1 ≤ q.y => ny_mono h
    have c2 := fun h : q.y + 1 ≤ p.y => ny_mono h
    omega
  have hm : p.m = q.m := by
    rw [hy] at a
    have c1 := fun h : p.m + 1 ≤ q.m => bef_mono (y := q.y) (m := p.m + 1) (n := q.m) (by omega) (by omega) h
    have c2 := fun h : q.m + 1 ≤ p.m => bef_mono (y := q.y) (m := q.m + 1) (n := p.m) (by omega) (by omega) h
    omega
  have hd : p.d = q.d := by
    have e1 := hp.2.2
    have e2 := hq.2.2
    unfold dayD at e1 e2
    rw [hy, hm] at e1
    omega
  cases p; cases q; simp_all
open Classical in
noncomputable def partsP (day : Int) : Parts := if h : ∃ p, IsParts day p then h.choose else ⟨0, 0, 0⟩
theorem parts_eq {day : Int} {p : Parts} (h : IsParts day p) : partsP day = p := by
  have he : ∃ p, IsParts day p := ⟨p, h⟩
  unfold partsP
  rw [dif_pos he]
  exact parts_uniq he.choose_spec h
theorem parts_mk {day y m : Int} (hy : 1900 ≤ y) (hy2 : y ≤ 2199) (hm : 1 ≤ m) (hm2 : m ≤ 12) (h1 : befD y m ≤ day - nyD y) (h2 : day - nyD y < befD y (m + 1)) : IsParts day ⟨y, m, day - nyD y - befD y m + 1⟩ := by
  have := bef_step hy hy2 hm hm2
  refine ⟨?_, ?_, ?_⟩ <;> simp only [dayD] <;> omega
end Pl

/- Dates: from day to day, and months on. -/
namespace Pl
set_option linter.unusedVariables false
set_option linter.unusedSimpArgs false
def nextP (p : Parts) : Parts := if p.d < mlenD p.y p.m then ⟨p.y, p.m, p.d + 1⟩ else if p.m < 12 then ⟨p.y, p.m + 1, 1⟩ else ⟨p.y + 1, 1, 1⟩
theorem next_is {day : Int} {p : Parts} (h : IsParts day p) (hd : day < 109572) : IsParts (day + 1) (nextP p) := by
  obtain ⟨⟨a1, a2⟩, ⟨a3, a4⟩, ⟨a5, a6⟩, ⟨a7, a8⟩, ⟨a9, a10⟩, a11, a12⟩ := parts_in h
  obtain ⟨h1, h2, h3⟩ := h
  have b1 := bef_step a1 a2 a3 a4
  have b2 := ny_step a1 a2
  have b3 := bef_end a1 a2
  unfold dayD at h3
  unfold nextP
  by_cases c1 : p.d < mlenD p.y p.m
  · rw [if_pos c1]
    refine ⟨?_, ?_, ?_⟩ <;> simp only [dayD] <;> omega
  · rw [if_neg c1]
    by_cases c2 : p.m < 12
    · rw [if_pos c2]
      have b4 := mlen_rng a1 a2 (m := p.m + 1) (by omega) (by omega)
      refine ⟨?_, ?_, ?_⟩ <;> simp only [dayD] <;> omega
    · rw [if_neg c2]
      have e12 : p.m = 12 := by omega
      rw [e12] at b1
      rw [show (12 : Int) + 1 = 13 from rfl, b3] at b1
      rw [e12] at h3 h2 c1
      have hy : p.y ≤ 2198 := by
        apply Classical.byContradiction
        intro hn
        have : p.y = 2199 := by omega
        rw [this] at b2 b1 h3 c1 h2
        rw [show (2199 : Int) + 1 = 2200 from rfl, ny_end] at b2
        omega
      have b4 := mlen_rng (y := p.y + 1) (m := 1) (by omega) (by omega) (by omega) (by omega)
      refine ⟨?_, ?_, ?_⟩ <;> simp only [dayD, bef_first] <;> omega
theorem is_first : IsParts 0 ⟨1900, 1, 1⟩ := ⟨by decide, by decide, by decide⟩
theorem has_parts : ∀ n : Nat, n ≤ 109572 → ∃ p, IsParts (n : Int) p
  | 0, _ => ⟨_, is_first⟩
  | n + 1, h => by
    obtain ⟨p, hp⟩ := has_parts n (by omega)
    refine ⟨nextP p, ?_⟩
    have := next_is hp (by omega)
    rwa [show ((n + 1 : Nat) : Int) = (n : Int) + 1 by omega]
theorem parts_is {day : Int} (h0 : 0 ≤ day) (h1 : day ≤ 109572) : IsParts day (partsP day) := by
  obtain ⟨p, hp⟩ := has_parts day.toNat (by omega)
  rw [show (day.toNat : Int) = day by omega] at hp
  rw [parts_eq hp]
  exact hp
theorem parts_next {day : Int} (h0 : 0 ≤ day) (h1 : day < 109572) : partsP (day + 1) = nextP (partsP day) := parts_eq (next_is (parts_is h0 (by omega)) h1)
theorem parts_of {y m d : Int} (h1 : 1 ≤ d) (h2 : d ≤ mlenD y m) : partsP (dayD y m d) = ⟨y, m, d⟩ := parts_eq ⟨h1, h2, rfl⟩
def knownB (day : Int) : Bool := decide (0 ≤ day ∧ day ≤ 109572)
/-- some months on -/
noncomputable def monK (day n : Int) : Int := 12 * (partsP day).y + (partsP day).m - 1 + n
noncomputable def monthsR (day n : Int) : Int × Int :=
  if ¬ (0 ≤ day ∧ day ≤ 109572) ∨ (n < -3600 ∨ 3600 < n) then (0, 2)
  else if monK day n < 22800 ∨ 26399 < monK day n then (0, 2)
  else (dayD (monK day n / 12) (monK day n % 12 + 1) (min (partsP day).d (mlenD (monK day n / 12) (monK day n % 12 + 1))), 0)
theorem mon_in {day n : Int} (h : 0 ≤ day ∧ day ≤ 109572) (h2 : ¬ (monK day n < 22800 ∨ 26399 < monK day n)) :
    1 ≤ min (partsP day).d (mlenD (monK day n / 12) (monK day n % 12 + 1)) ∧ min (partsP day).d (mlenD (monK day n / 12) (monK day n % 12 + 1)) ≤ mlenD (monK day n / 12) (monK day n % 12 + 1) := by
  have a := parts_in (parts_is h.1 h.2)
  have b := mlen_rng (y := monK day n / 12) (m := monK day n % 12 + 1) (by omega) (by omega) (by omega) (by omega)
  omega
theorem months_a {day n : Int} (h : ¬ (0 ≤ day ∧ day ≤ 109572) ∨ (n < -3600 ∨ 3600 < n)) : monthsR day n = (0, 2) := if_pos h
theorem months_b {day n : Int} (h : (0 ≤ day ∧ day ≤ 109572) ∧ -3600 ≤ n ∧ n ≤ 3600) (h2 : monK day n < 22800 ∨ 26399 < monK day n) : monthsR day n = (0, 2) := by
  unfold monthsR; rw [if_neg (by omega), if_pos h2]
theorem months_c {day n : Int} (h : (0 ≤ day ∧ day ≤ 109572) ∧ -3600 ≤ n ∧ n ≤ 3600) (h2 : ¬ (monK day n < 22800 ∨ 26399 < monK day n)) :
    monthsR day n = ofR (monK day n / 12) (monK day n % 12 + 1) (min (partsP day).d (mlenD (monK day n / 12) (monK day n % 12 + 1))) := by
  have a := mon_in h.1 h2
  rw [of_ok a.1 a.2]
  unfold monthsR; rw [if_neg (by omega), if_neg h2]
theorem months_zero {day : Int} (h : 0 ≤ day ∧ day ≤ 109572) : monthsR day 0 = (day, 0) := by
  have a := parts_is h.1 h.2
  have b := parts_in a
  have hk : monK day 0 = 12 * (partsP day).y + (partsP day).m - 1 := by unfold monK; omega
  have e1 : monK day 0 / 12 = (partsP day).y := by omega
  have e2 : monK day 0 % 12 + 1 = (partsP day).m := by omega
  have c := months_c (n := 0) ⟨h, by omega, by omega⟩ (by omega)
  rw [e1, e2] at c
  have hm : min (partsP day).d (mlenD (partsP day).y (partsP day).m) = (partsP day).d := Int.min_eq_left a.2.1
  rw [c, hm, of_ok a.1 a.2.1, a.2.2]
theorem months_parts {day n : Int} (h : (0 ≤ day ∧ day ≤ 109572) ∧ -3600 ≤ n ∧ n ≤ 3600) (h2 : ¬ (monK day n < 22800 ∨ 26399 < monK day n)) :
    (monthsR day n).2 = 0 ∧ IsParts (monthsR day n).1 ⟨monK day n / 12, monK day n % 12 + 1, min (partsP day).d (mlenD (monK day n / 12) (monK day n % 12 + 1))⟩ := by
  have a := mon_in h.1 h2
  rw [months_c h h2, of_ok a.1 a.2]
  exact ⟨rfl, a.1, a.2, rfl⟩
end Pl

/- Numbers as text. -/
namespace Pl
open Go Ab
set_option linter.unusedVariables false
set_option linter.unusedSimpArgs false
theorem dig_eq {x : Int} (h0 : 0 ≤ x) (h1 : x < 10) : Ab.byteOf (D.int IntKind.u8 (IntKind.u8.wrap (IntKind.i64.wrap (48 + x)))) = UInt8.ofNat (48 + x.toNat) := by
  rw [wrap_i64 (by omega) (by omega)]
  have e : IntKind.u8.wrap (48 + x) = 48 + x := by rw [IntKind.wrap_u8]; omega
  rw [e]
  have : (48 + x).toNat = 48 + x.toNat := by omega
  simp [Ab.byteOf, this]
theorem itoa_pos {n : Int} (h : 0 ≤ n) : Go.Lib.itoa n = Go.Lib.decDigits n.toNat := by unfold Go.Lib.itoa; rw [if_neg (by omega)]
theorem itoa_len {n : Int} (h0 : 0 ≤ n) (h1 : n ≤ 9223372036854775807) : (Go.Lib.itoa n).length ≤ 21 := Go.Lib.itoa_length_le n (by omega) h1
theorem dec_step {x : Int} (h : 10 ≤ x) (s : List UInt8) :
    Go.Lib.decDigits (x.tdiv 10).toNat ++ (Ab.byteOf (D.int IntKind.u8 (IntKind.u8.wrap (IntKind.i64.wrap (48 + x.tmod 10)))) :: s) = Go.Lib.decDigits x.toNat ++ s := by
  rw [Int.tmod_eq_emod_of_nonneg (by omega), dig_eq (by omega) (by omega), Int.tdiv_eq_ediv_of_nonneg (by omega)]
  have e1 : (x / 10).toNat = x.toNat / 10 := by omega
  have e2 : (x % 10).toNat = x.toNat % 10 := by omega
  rw [e1, e2]
  conv => rhs; rw [Go.Lib.decDigits, dif_neg (by omega)]
  simp
theorem dec_last {x : Int} (h0 : 0 ≤ x) (h : x < 10) (s : List UInt8) :
    Ab.byteOf (D.int IntKind.u8 (IntKind.u8.wrap (IntKind.i64.wrap (48 + x)))) :: s = Go.Lib.decDigits x.toNat ++ s := by
  rw [dig_eq h0 h, Go.Lib.decDigits, dif_pos (by omega)]; rfl
end Pl

/- Dates as text. -/
namespace Pl
open Go Ab
set_option linter.unusedVariables false
set_option linter.unusedSimpArgs false
def digC (n : Int) : UInt8 := UInt8.ofNat (48 + (n % 10).toNat)
theorem digC_val (n : Int) : (digC n).toNat = 48 + (n % 10).toNat := by
  have : (n % 10).toNat < 10 := by omega
  simp [digC, UInt8.toNat_ofNat]; omega
/-- the last digits of a number -/
def digD (n : Int) : Nat → List UInt8
  | 0 => []
  | w + 1 => digD (n / 10) w ++ [digC n]
theorem digD_len : ∀ (w : Nat) (n : Int), (digD n w).length = w
  | 0, _ => rfl
  | w + 1, n => by simp [digD, digD_len w]
theorem digD_zero : ∀ w : Nat, digD 0 w = List.replicate w 48
  | 0 => rfl
  | w + 1 => by
    rw [digD, show (0 : Int) / 10 = 0 from rfl, digD_zero w, show digC 0 = 48 from rfl, ← List.replicate_succ']
theorem itoa_small {n : Int} (h0 : 0 ≤ n) (h : n < 10) : Go.Lib.itoa n = [digC n] := by
  rw [itoa_pos h0, Go.Lib.decDigits, dif_pos (by omega)]
  have : (n % 10).toNat = n.toNat := by omega
  simp [digC, this]
theorem itoa_big {n : Int} (h : 10 ≤ n) : Go.Lib.itoa n = Go.Lib.itoa (n / 10) ++ [digC n] := by
  rw [itoa_pos (by omega), itoa_pos (n := n / 10) (by omega), Go.Lib.decDigits, dif_neg (by omega)]
  have e1 : (n / 10).toNat = n.toNat / 10 := by omega
  have e2 : (n % 10).toNat = n.toNat % 10 := by omega
  rw [e1, digC, e2]
theorem pad_eq : ∀ (w : Nat) (n : Int), 0 ≤ n → n < 10 ^ (w + 1) → (Go.Lib.itoa n).length ≤ w + 1 ∧ List.replicate (w + 1 - (Go.Lib.itoa n).length) 48 ++ Go.Lib.itoa n = digD n (w + 1)
  | 0, n, h0, h => by
    rw [itoa_small h0 (by simpa using h)]
    simp [digD]
  | w + 1, n, h0, h => by
    by_cases hn : n < 10
    · rw [itoa_small h0 hn]
      refine ⟨by simp, ?_⟩
      rw [digD, show n / 10 = 0 by omega, digD_zero]
      simp
    · have h' : n / 10 < 10 ^ (w + 1) := by
        rw [Int.pow_succ] at h
        omega
      obtain ⟨a, b⟩ := pad_eq w (n / 10) (by omega) h'
      rw [itoa_big (by omega)]
      refine ⟨by simp; omega, ?_⟩
      rw [digD, ← b, List.length_append, List.length_singleton, show w + 1 + 1 - ((Go.Lib.itoa (n / 10)).length + 1) = w + 1 - (Go.Lib.itoa (n / 10)).length by omega, List.append_assoc]
def isDig (b : UInt8) : Bool := decide (48 ≤ b.toNat ∧ b.toNat ≤ 57)
def valF : Int → List UInt8 → Int
  | a, [] => a
  | a, b :: l => valF (10 * a + ((b.toNat : Int) - 48)) l
theorem valF_app : ∀ (l : List UInt8) (a : Int) (b : UInt8), valF a (l ++ [b]) = 10 * valF a l + ((b.toNat : Int) - 48)
  | [], a, b => rfl
  | x :: l, a, b => by simp only [List.cons_append, valF]; exact valF_app l _ b
theorem digC_dig (n : Int) : isDig (digC n) = true := by
  unfold isDig; rw [digC_val, decide_eq_true_iff]; omega
theorem digD_dig : ∀ (w : Nat) (n : Int), (digD n w).all isDig = true
  | 0, _ => rfl
  | w + 1, n => by simp [digD, digD_dig w, digC_dig, -List.all_eq_true]
theorem digD_val : ∀ (w : Nat) (n : Int), 0 ≤ n → n < 10 ^ w → valF 0 (digD n w) = n
  | 0, n, h0, h => by simp [digD, valF] at *; omega
  | w + 1, n, h0, h => by
    have h' : n / 10 < 10 ^ w := by
      rw [Int.pow_succ] at h
      omega
    rw [digD, valF_app, digD_val w (n / 10) (by omega) h', digC_val]
    omega
theorem dec_val : ∀ (l : List UInt8) (a : Nat), l.all isDig = true → ∃ n : Nat, Go.Lib.decFrom a l = some n ∧ (n : Int) = valF a l
  | [], a, _ => ⟨a, rfl, rfl⟩
  | b :: l, a, h => by
    simp only [List.all_cons, Bool.and_eq_true] at h
    have hb : 48 ≤ b.toNat ∧ b.toNat ≤ 57 := by simpa [isDig] using h.1
    obtain ⟨n, h1, h2⟩ := dec_val l (a * 10 + (b.toNat - 48)) h.2
    refine ⟨n, ?_, ?_⟩
    · simp only [Go.Lib.decFrom, Go.Lib.digitVal, if_pos hb]
      exact h1
    · rw [h2]
      simp only [valF]
      congr 1
      omega
theorem atoi_val {l : List UInt8} (hn : l ≠ []) (h : l.all isDig = true) : Go.Lib.atoi l = some (valF 0 l) := by
  match l, hn with
  | b :: r, _ =>
    have hb : 48 ≤ b.toNat ∧ b.toNat ≤ 57 := by
      simp only [List.all_cons, Bool.and_eq_true] at h
      simpa [isDig] using h.1
    have n1 : (b == 45) = false := by
      rw [beq_eq_false_iff_ne]; intro hh; rw [hh] at hb; exact absurd hb (by decide)
    have n2 : (b == 43) = false := by
      rw [beq_eq_false_iff_ne]; intro hh; rw [hh] at hb; exact absurd hb (by decide)
    obtain ⟨n, h1, h2⟩ := dec_val (b :: r) 0 h
    simp only [Go.Lib.atoi, n1, n2, Go.Lib.decNat, List.isEmpty_cons]
    simp only [Bool.false_eq_true, if_false]
    rw [h1]
    simp [h2]
/-- a text's number -/
def numR (s : List UInt8) : Int × Bool := if s.all isDig = true then (valF 0 s, true) else (0, false)
theorem num_ok {s : List UInt8} (h : s.all isDig = true) : numR s = (valF 0 s, true) := if_pos h
theorem num_bad {s : List UInt8} (h : ¬ s.all isDig = true) : numR s = (0, false) := if_neg h
/-- a date's text -/
noncomputable def formatR (day : Int) : List UInt8 :=
  if 0 ≤ day ∧ day ≤ 109572 then digD (partsP day).y 4 ++ [45] ++ digD (partsP day).m 2 ++ [45] ++ digD (partsP day).d 2 else []
def formB (s : List UInt8) : Prop := s.length = 10 ∧ s[4]? = some 45 ∧ s[7]? = some 45 ∧ (s.take 4).all isDig = true ∧ ((s.drop 5).take 2).all isDig = true ∧ (s.drop 8).all isDig = true
instance (s : List UInt8) : Decidable (formB s) := by unfold formB; infer_instance
def parseR (s : List UInt8) : Int × Int := if formB s then ofR (valF 0 (s.take 4)) (valF 0 ((s.drop 5).take 2)) (valF 0 (s.drop 8)) else (0, 3)
theorem parse_text {y m d : Int} (hy : 0 ≤ y ∧ y < 10000) (hm : 0 ≤ m ∧ m < 100) (hd : 0 ≤ d ∧ d < 100) : parseR (digD y 4 ++ [45] ++ digD m 2 ++ [45] ++ digD d 2) = ofR y m d := by
  have vy := digD_val 4 y hy.1 (by simpa using hy.2)
  have vm := digD_val 2 m hm.1 (by simpa using hm.2)
  have vd := digD_val 2 d hd.1 (by simpa using hd.2)
  have gy := digD_dig 4 y
  have gm := digD_dig 2 m
  have gd := digD_dig 2 d
  have ly := digD_len 4 y
  have lm := digD_len 2 m
  have ld := digD_len 2 d
  generalize digD y 4 = a at *
  generalize digD m 2 = b at *
  generalize digD d 2 = c at *
  match a, ly, b, lm, c, ld with
  | [a1, a2, a3, a4], _, [b1, b2], _, [c1, c2], _ =>
    unfold parseR
    rw [if_pos]
    · simp only [List.cons_append, List.nil_append, List.append_assoc, List.take_succ_cons, List.take_zero, List.drop_succ_cons, List.drop_zero]
      rw [vy, vm, vd]
    · refine ⟨by simp, by simp, by simp, ?_, ?_, ?_⟩
      · simpa using gy
      · simpa using gm
      · simpa using gd
theorem parse_format {day : Int} (h : 0 ≤ day ∧ day ≤ 109572) : parseR (formatR day) = (day, 0) := by
  have a := parts_is h.1 h.2
  have b := parts_in a
  unfold formatR
  rw [if_pos h, parse_text (by omega) (by omega) (by omega), of_ok a.1 a.2.1, a.2.2]
end Pl

/- Dates: what the laws ask. -/
namespace Pl
set_option linter.unusedVariables false
set_option linter.unusedSimpArgs false
theorem later_ok {day : Int} (h0 : 0 ≤ day) (h1 : day < 109572) :
    ((partsP (day + 1)).y = (partsP day).y ∧ (partsP (day + 1)).m = (partsP day).m ∧ (partsP (day + 1)).d = (partsP day).d + 1) ∨
    ((partsP (day + 1)).y = (partsP day).y ∧ (partsP (day + 1)).m = (partsP day).m + 1 ∧ (partsP (day + 1)).d = 1 ∧ (partsP day).d = mlenD (partsP day).y (partsP day).m) ∨
    ((partsP (day + 1)).y = (partsP day).y + 1 ∧ (partsP (day + 1)).m = 1 ∧ (partsP (day + 1)).d = 1 ∧ (partsP day).m = 12 ∧ (partsP day).d = 31) := by
  have a := parts_is h0 (by omega)
  have b := parts_in a
  obtain ⟨c1, c2, c3⟩ := a
  rw [parts_next h0 h1]
  generalize partsP day = p at *
  unfold nextP
  split
  · exact .inl ⟨rfl, rfl, rfl⟩
  · split
    · exact .inr (.inl ⟨rfl, rfl, rfl, by omega⟩)
    · have e : p.m = 12 := by omega
      refine .inr (.inr ⟨rfl, rfl, rfl, e, ?_⟩)
      have : mlenD p.y p.m = 31 := by
        rw [mlen_ok b.1.1 b.1.2 b.2.1.1 b.2.1.2, e]
        simp [tblD]
      omega
theorem steps_ok {day n : Int} (h : (0 ≤ day ∧ day ≤ 109572) ∧ -3600 ≤ n ∧ n ≤ 3600) (h2 : ¬ (monK day n < 22800 ∨ 26399 < monK day n)) :
    (monthsR day n).2 = 0 ∧ (0 ≤ (monthsR day n).1 ∧ (monthsR day n).1 ≤ 109572) ∧ 12 * (partsP (monthsR day n).1).y + (partsP (monthsR day n).1).m - 1 = monK day n ∧
    ((partsP (monthsR day n).1).d = (partsP day).d ∨ ((partsP (monthsR day n).1).d < (partsP day).d ∧ (partsP (monthsR day n).1).d = mlenD (partsP (monthsR day n).1).y (partsP (monthsR day n).1).m)) := by
  obtain ⟨a1, a2⟩ := months_parts h h2
  have b := parts_in a2
  rw [parts_eq a2]
  simp only at b ⊢
  refine ⟨a1, ⟨b.2.2.2.2.2.1, b.2.2.2.2.2.2⟩, by omega, by omega⟩
end Pl

/- Dates: the tables of months as the walks read them. -/
namespace Pl
open Go Ab
set_option linter.unusedVariables false
set_option linter.unusedSimpArgs false
theorem month_cases {m : Int} (h : 1 ≤ m ∧ m ≤ 12) : m = 1 ∨ m = 2 ∨ m = 3 ∨ m = 4 ∨ m = 5 ∨ m = 6 ∨ m = 7 ∨ m = 8 ∨ m = 9 ∨ m = 10 ∨ m = 11 ∨ m = 12 := by omega
theorem tbl_row {m : Int} (h : 1 ≤ m ∧ m ≤ 12) : (([D.int IntKind.i64 31, D.int IntKind.i64 28, D.int IntKind.i64 31, D.int IntKind.i64 30, D.int IntKind.i64 31, D.int IntKind.i64 30, D.int IntKind.i64 31, D.int IntKind.i64 31, D.int IntKind.i64 30, D.int IntKind.i64 31, D.int IntKind.i64 30, D.int IntKind.i64 31][m.toNat - 1]?.getD (D.int IntKind.i64 0)).cells[0]?.getD (D.int IntKind.i64 0)) = D.int IntKind.i64 (tblD m) := by
  rcases month_cases h with rfl | rfl | rfl | rfl | rfl | rfl | rfl | rfl | rfl | rfl | rfl | rfl <;> rfl
theorem tbl_arr {m : Int} (h : 1 ≤ m ∧ m ≤ 12) : ([D.int IntKind.i64 31, D.int IntKind.i64 28, D.int IntKind.i64 31, D.int IntKind.i64 30, D.int IntKind.i64 31, D.int IntKind.i64 30, D.int IntKind.i64 31, D.int IntKind.i64 31, D.int IntKind.i64 30, D.int IntKind.i64 31, D.int IntKind.i64 30, D.int IntKind.i64 31][m.toNat - 1]?.getD (D.int IntKind.i64 0)) = D.int IntKind.i64 (tblD m) := by
  rcases month_cases h with rfl | rfl | rfl | rfl | rfl | rfl | rfl | rfl | rfl | rfl | rfl | rfl <;> rfl
theorem bef_arr {m : Int} (h : 1 ≤ m ∧ m ≤ 12) : ([D.int IntKind.i64 0, D.int IntKind.i64 31, D.int IntKind.i64 59, D.int IntKind.i64 90, D.int IntKind.i64 120, D.int IntKind.i64 151, D.int IntKind.i64 181, D.int IntKind.i64 212, D.int IntKind.i64 243, D.int IntKind.i64 273, D.int IntKind.i64 304, D.int IntKind.i64 334][m.toNat - 1]?.getD (D.int IntKind.i64 0)) = D.int IntKind.i64 (befT m) := by
  rcases month_cases h with rfl | rfl | rfl | rfl | rfl | rfl | rfl | rfl | rfl | rfl | rfl | rfl <;> rfl
theorem befT_rng (m : Int) : 0 ≤ befT m ∧ befT m ≤ 365 := by unfold befT; repeat' split <;> omega
theorem mlen_out {y m : Int} (h : (y < 1900 ∨ 2199 < y) ∨ (m < 1 ∨ 12 < m)) : mlenD y m = 0 := if_pos h
theorem mlen_29 {y m : Int} (hy : 1900 ≤ y) (hy2 : y ≤ 2199) (h : m = 2) (hl : leapB y = true) : mlenD y m = 29 := by subst h; rw [mlen_ok hy hy2 (by omega) (by omega), if_pos ⟨rfl, hl⟩]
theorem mlen_tbl {y m : Int} (hy : 1900 ≤ y) (hy2 : y ≤ 2199) (hm : 1 ≤ m) (hm2 : m ≤ 12) (h : ¬ (m = 2 ∧ leapB y = true)) : mlenD y m = tblD m := by rw [mlen_ok hy hy2 hm hm2, if_neg h]
/-- the parts of a day, or the error -/
noncomputable def partsR (day : Int) : Int × Int × Int × Int := if 0 ≤ day ∧ day ≤ 109572 then ((partsP day).y, (partsP day).m, (partsP day).d, 0) else (0, 0, 0, 2)
theorem partsR_ok {day : Int} (h : 0 ≤ day ∧ day ≤ 109572) : partsR day = ((partsP day).y, (partsP day).m, (partsP day).d, 0) := if_pos h
theorem partsR_bad {day : Int} (h : ¬ (0 ≤ day ∧ day ≤ 109572)) : partsR day = (0, 0, 0, 2) := if_neg h
theorem partsR_known {day : Int} (h : (partsR day).2.2.2 = 0) : 0 ≤ day ∧ day ≤ 109572 := by
  apply Classical.byContradiction
  intro hh
  rw [partsR_bad hh] at h
  exact absurd h (by decide)
theorem partsR_unknown {day : Int} (h : ¬ (partsR day).2.2.2 = 0) : ¬ (0 ≤ day ∧ day ≤ 109572) := fun hh => by
  rw [partsR_ok hh] at h
  exact h rfl
theorem repeat_eq : ∀ c : Nat, Go.Lib.repeatL [48] c = List.replicate c 48
  | 0 => rfl
  | c + 1 => by simp [Go.Lib.repeatL, repeat_eq c, List.replicate_succ]
theorem pad_rep (w : Nat) (n : Int) (h0 : 0 ≤ n) (h1 : n < 10 ^ (w + 1)) : (Go.Lib.itoa n).length ≤ w + 1 ∧ Go.Lib.repeatL [48] (w + 1 - (Go.Lib.itoa n).length) ++ Go.Lib.itoa n = digD n (w + 1) := by
  rw [repeat_eq]
  exact pad_eq w n h0 h1
theorem format_bad {day : Int} (h : ¬ (0 ≤ day ∧ day ≤ 109572)) : formatR day = [] := if_neg h
theorem format_ok {day : Int} (h : 0 ≤ day ∧ day ≤ 109572) : formatR day = digD (partsP day).y 4 ++ [45] ++ digD (partsP day).m 2 ++ [45] ++ digD (partsP day).d 2 := if_pos h
theorem map_byte : ∀ l : List UInt8, l.map (fun x => Ab.byteOf (D.int IntKind.u8 (x.toNat : Int))) = l
  | [] => rfl
  | x :: l => by rw [List.map_cons, map_byte l]; simp [Ab.byteOf]
theorem digC_int {x : Int} (h : 0 ≤ x) : IntKind.u8.wrap (IntKind.i64.wrap (48 + x.tmod 10)) = ((digC x).toNat : Int) := by
  rw [Int.tmod_eq_emod_of_nonneg h, wrap_i64 (by omega) (by omega), digC_val]
  have : IntKind.u8.wrap (48 + x % 10) = 48 + x % 10 := by rw [IntKind.wrap_u8]; omega
  omega
def digitsF : Unit → List UInt8 → Bool
  | _, [] => true
  | _, b :: l => if isDig b = true then digitsF () l else false
theorem digits_eq : ∀ l : List UInt8, digitsF () l = l.all isDig
  | [] => rfl
  | b :: l => by
    rw [digitsF, List.all_cons, digits_eq l]
    cases isDig b <;> simp
end Pl

set_option maxRecDepth 100000
set_option linter.unusedSimpArgs false
set_option linter.unusedVariables false
namespace Go.Proofs.YtmofeikdaoknlaaDoor
open Go Ab Pl
theorem date_leap (y : Int) (hy : 0 ≤ y) : ACalls E.P 30 [.int .i64 y] (.d (.bool (leapB y))) := by
  refine ACalls.intro E_ok Tryd.func30 rfl rfl Tryd.ntmps30 Tryd.results30 (Nat.le_of_ble_eq_true rfl) fun hok base S0 w0 => ?_
  -- region 0
  refine AWp.rseq E_ok [0, 2] fun K hK => ?_
  simp
  repeat refine ⟨by first | omega | assumption | (simp only [maxLen]; omega) | (intros; omega) | decide, ?_⟩
  refine hK _ ?_
  clear hK K
  -- region 1
  refine AWp.rseq E_ok [0, 2] fun K hK => ?_
  simp
  repeat refine ⟨by first | omega | assumption | (simp only [maxLen]; omega) | (intros; omega) | decide, ?_⟩
  refine hK _ ?_
  clear hK K
  refine AWp.ret ?_
  repeat first | refine thenN ?_ | refine thenX ?_ | refine thenR ?_ | refine blockN ?_ | refine blockR ?_ | refine blockX ?_ | refine blockM rfl ?_
  simp [RetOk, RV, RVs, Int.tmod_eq_emod_of_nonneg hy]; rw [Bool.eq_iff_iff]; simp [leapB]
end Go.Proofs.YtmofeikdaoknlaaDoor

set_option maxRecDepth 100000
set_option linter.unusedSimpArgs false
set_option linter.unusedVariables false
namespace Go.Proofs.YtmofeikdaoknlaaDoor
open Go Ab Pl
theorem date_Length (y m : Int) : ACalls E.P 15 [.int .i64 y, .int .i64 m] (.d (.int .i64 (mlenD y m))) := by
  refine ACalls.intro E_ok Tryd.func15 rfl rfl Tryd.ntmps15 Tryd.results15 (Nat.le_of_ble_eq_true rfl) fun hok base S0 w0 => ?_
  -- region 0
  refine AWp.rseq E_ok [0, 1, 4, 5, 20] fun K hK => ?_
  simp
  repeat refine ⟨by first | omega | assumption | (simp only [maxLen]; omega) | (intros; omega) | decide, ?_⟩
  refine hK _ ?_
  clear hK K
  refine AWp.seq ?_
  refine AWp.block ?_
  -- region 1
  refine AWp.rseq E_ok [0, 1, 4, 5, 20] fun K hK => ?_
  simp
  repeat refine ⟨by first | omega | assumption | (simp only [maxLen]; omega) | (intros; omega) | decide, ?_⟩
  refine hK _ ?_
  clear hK K
  refine AWp.cond rfl (fun h5 => ?_) (fun h5 => ?_)
  · try simp at h5
    -- region 2
    refine AWp.rseq E_ok [0, 1, 4, 5, 20] fun K hK => ?_
    simp
    repeat refine ⟨by first | omega | assumption | (simp only [maxLen]; omega) | (intros; omega) | decide, ?_⟩
    refine hK _ ?_
    clear hK K
    refine AWp.ret ?_
    repeat first | refine thenN ?_ | refine thenX ?_ | refine thenR ?_ | refine blockN ?_ | refine blockR ?_ | refine blockX ?_ | refine blockM rfl ?_
    first | (rw [mlen_out (by omega)]; simp [RetOk, RV, RVs]; done) | (rw [hq]; simp [RetOk, RV, RVs]; done)
  · try simp at h5
    -- region 3
    refine AWp.rseq E_ok [0, 1, 4, 5, 20] fun K hK => ?_
    simp
    repeat refine ⟨by first | omega | assumption | (simp only [maxLen]; omega) | (intros; omega) | decide, ?_⟩
    refine meet.of (date_leap y (by omega)) ?_
    simp
    repeat refine ⟨by first | omega | assumption | (simp only [maxLen]; omega) | (intros; omega) | decide, ?_⟩
    refine hK _ ?_
    clear hK K
    refine AWp.cond rfl (fun h20 => ?_) (fun h20 => ?_)
    · try simp at h20
      have hq := mlen_29 (y := y) (m := m) (by omega) (by omega) h20.1 h20.2
      -- region 4
      refine AWp.rseq E_ok [0, 1, 4, 5, 20] fun K hK => ?_
      simp
      repeat refine ⟨by first | omega | assumption | (simp only [maxLen]; omega) | (intros; omega) | decide, ?_⟩
      refine hK _ ?_
      clear hK K
      refine AWp.ret ?_
      repeat first | refine thenN ?_ | refine thenX ?_ | refine thenR ?_ | refine blockN ?_ | refine blockR ?_ | refine blockX ?_ | refine blockM rfl ?_
      first | (rw [mlen_out (by omega)]; simp [RetOk, RV, RVs]; done) | (rw [hq]; simp [RetOk, RV, RVs]; done)
    · try simp at h20
      have hq := mlen_tbl (y := y) (m := m) (by omega) (by omega) (by omega) (by omega) (by simpa using h20)
      have e1 : IntKind.i64.wrap (m - 1) = m - 1 := by rw [wrap_i64] <;> omega
      have tg := tbl_arr (m := m) (by omega)
      refine AWp.skip ?_
      repeat first | refine thenN ?_ | refine thenX ?_ | refine thenR ?_ | refine blockN ?_ | refine blockR ?_ | refine blockX ?_ | refine blockM rfl ?_
      -- region 5
      refine AWp.rseq E_ok [0, 1, 4, 5, 20] fun K hK => ?_
      simp [e1, tg]
      repeat refine ⟨by first | omega | assumption | (simp only [maxLen]; omega) | (intros; omega) | decide, ?_⟩
      refine hK _ ?_
      clear hK K
      refine AWp.ret ?_
      repeat first | refine thenN ?_ | refine thenX ?_ | refine thenR ?_ | refine blockN ?_ | refine blockR ?_ | refine blockX ?_ | refine blockM rfl ?_
      first | (rw [mlen_out (by omega)]; simp [RetOk, RV, RVs]; done) | (rw [hq]; simp [RetOk, RV, RVs]; done)
end Go.Proofs.YtmofeikdaoknlaaDoor

set_option maxRecDepth 100000
set_option linter.unusedSimpArgs false
set_option linter.unusedVariables false
namespace Go.Proofs.YtmofeikdaoknlaaDoor
open Go Ab Pl
theorem date_newYear (y : Int) (hy : 1900 ≤ y ∧ y ≤ 2200) : ACalls E.P 25 [.int .i64 y] (.d (.int .i64 (nyD y))) := by
  refine ACalls.intro E_ok Tryd.func25 rfl rfl Tryd.ntmps25 Tryd.results25 (Nat.le_of_ble_eq_true rfl) fun hok base S0 w0 => ?_
  have e1 : IntKind.i64.wrap (y - 1900) = y - 1900 := by rw [wrap_i64] <;> omega
  have e2 : IntKind.i64.wrap ((y - 1900) * 365) = (y - 1900) * 365 := by rw [wrap_i64] <;> omega
  have hr := ny_rng hy.1 hy.2
  -- region 0
  refine AWp.rseq E_ok [0, 2, 3, 4, 5, 12, 16] fun K hK => ?_
  simp [ny_first, e1, e2]
  repeat refine ⟨by first | omega | assumption | (simp only [maxLen]; omega) | (intros; omega) | decide, ?_⟩
  refine hK _ ?_
  clear hK K
  -- region 1
  refine AWp.rseq E_ok [0, 2, 3, 4, 5, 12, 16] fun K hK => ?_
  simp [ny_first, e1, e2]
  repeat refine ⟨by first | omega | assumption | (simp only [maxLen]; omega) | (intros; omega) | decide, ?_⟩
  refine hK _ ?_
  clear hK K
  -- region 2
  refine AWp.rseq E_ok [0, 2, 3, 4, 5, 12, 16] fun K hK => ?_
  simp [ny_first, e1, e2]
  repeat refine ⟨by first | omega | assumption | (simp only [maxLen]; omega) | (intros; omega) | decide, ?_⟩
  refine hK _ ?_
  clear hK K
  refine AWp.seq ?_
  -- region 3
  refine AWp.rseq E_ok [0, 2, 3, 4, 5, 12, 16] fun K hK => ?_
  simp [ny_first, e1, e2]
  repeat refine ⟨by first | omega | assumption | (simp only [maxLen]; omega) | (intros; omega) | decide, ?_⟩
  refine hK _ ?_
  clear hK K
  refine AWp.block ?_
  refine AWp.loop (ι := { k : Int // 1900 ≤ k ∧ k ≤ y }) (fun x => match x with | ⟨k, hk, hk2⟩ => [(0, T.val (D.int IntKind.i64 y)), (4, T.val (.int .i64 ((y - 1900) * 365 + (nyD k - 365 * (k - 1900))))), (5, T.val (.int .i64 k))]) (fun x => match x with | ⟨k, hk, hk2⟩ => (y - k).toNat) ⟨1900, Int.le_refl _, hy.1⟩ ?_ ?_
  · simp [Weak, TW, ny_first]
  rintro ⟨k, hk, hk2⟩
  simp only
  try simp only at hk
  try simp only at hk2
  refine AWp.seq ?_
  -- region 4
  refine AWp.rseq E_ok [0, 2, 3, 4, 5, 12, 16] fun K hK => ?_
  simp [ny_first, e1, e2]
  repeat refine ⟨by first | omega | assumption | (simp only [maxLen]; omega) | (intros; omega) | decide, ?_⟩
  refine hK _ ?_
  clear hK K
  refine AWp.cond rfl (fun h12 => ?_) (fun h12 => ?_)
  · try simp at h12
    refine AWp.skip ?_
    repeat first | refine thenN ?_ | refine thenX ?_ | refine thenR ?_ | refine blockN ?_ | refine blockR ?_ | refine blockX ?_ | refine blockM rfl ?_
    refine AWp.seq ?_
    refine AWp.block ?_
    -- region 6
    refine AWp.rseq E_ok [0, 2, 3, 4, 5, 12, 16] fun K hK => ?_
    simp [ny_first, e1, e2]
    repeat refine ⟨by first | omega | assumption | (simp only [maxLen]; omega) | (intros; omega) | decide, ?_⟩
    refine meet.of (date_leap k (by omega)) ?_
    simp [ny_first, e1, e2]
    repeat refine ⟨by first | omega | assumption | (simp only [maxLen]; omega) | (intros; omega) | decide, ?_⟩
    refine hK _ ?_
    clear hK K
    refine AWp.cond rfl (fun h16 => ?_) (fun h16 => ?_)
    · try simp at h16
      -- region 7
      refine AWp.rend E_ok [0, 2, 3, 4, 5, 12, 16] fun K hK => ?_
      simp [ny_first, e1, e2]
      repeat refine ⟨by first | omega | assumption | (simp only [maxLen]; omega) | (intros; omega) | decide, ?_⟩
      refine hK _ ?_
      clear hK K
      repeat first | refine thenN ?_ | refine thenX ?_ | refine thenR ?_ | refine blockN ?_ | refine blockR ?_ | refine blockX ?_ | refine blockM rfl ?_
      -- region 5
      refine AWp.rend E_ok [0, 2, 3, 4, 5, 12, 16] fun K hK => ?_
      simp [ny_first, e1, e2]
      repeat refine ⟨by first | omega | assumption | (simp only [maxLen]; omega) | (intros; omega) | decide, ?_⟩
      refine hK _ ?_
      clear hK K
      repeat first | refine thenN ?_ | refine thenX ?_ | refine thenR ?_ | refine blockN ?_ | refine blockR ?_ | refine blockX ?_ | refine blockM rfl ?_
      have hw : IntKind.i64.wrap (k + 1) = k + 1 := by rw [wrap_i64] <;> omega
      have st := ny_step hk (by omega)
      have hr2 := ny_rng hk (by omega)
      refine ⟨⟨k + 1, by omega, by omega⟩, ?_, by simp only; omega⟩
      first | (have hw2 : IntKind.i64.wrap ((y - 1900) * 365 + (nyD k - 365 * (k - 1900)) + 1) = (y - 1900) * 365 + (nyD k - 365 * (k - 1900)) + 1 := by rw [wrap_i64] <;> omega) | skip
      simp [Weak, TW, hw, hw2]
      simp [yearD, h16] at st
      omega
    · try simp at h16
      refine AWp.skip ?_
      repeat first | refine thenN ?_ | refine thenX ?_ | refine thenR ?_ | refine blockN ?_ | refine blockR ?_ | refine blockX ?_ | refine blockM rfl ?_
      -- region 5
      refine AWp.rend E_ok [0, 2, 3, 4, 5, 12, 16] fun K hK => ?_
      simp [ny_first, e1, e2]
      repeat refine ⟨by first | omega | assumption | (simp only [maxLen]; omega) | (intros; omega) | decide, ?_⟩
      refine hK _ ?_
      clear hK K
      repeat first | refine thenN ?_ | refine thenX ?_ | refine thenR ?_ | refine blockN ?_ | refine blockR ?_ | refine blockX ?_ | refine blockM rfl ?_
      have hw : IntKind.i64.wrap (k + 1) = k + 1 := by rw [wrap_i64] <;> omega
      have st := ny_step hk (by omega)
      have hr2 := ny_rng hk (by omega)
      refine ⟨⟨k + 1, by omega, by omega⟩, ?_, by simp only; omega⟩
      first | (have hw2 : IntKind.i64.wrap ((y - 1900) * 365 + (nyD k - 365 * (k - 1900)) + 1) = (y - 1900) * 365 + (nyD k - 365 * (k - 1900)) + 1 := by rw [wrap_i64] <;> omega) | skip
      simp [Weak, TW, hw, hw2]
      simp [yearD, h16] at st
      omega
  · try simp at h12
    refine AWp.exit ?_
    repeat first | refine thenN ?_ | refine thenX ?_ | refine thenR ?_ | refine blockN ?_ | refine blockR ?_ | refine blockX ?_ | refine blockM rfl ?_
    -- region 8
    refine AWp.rseq E_ok [0, 2, 3, 4, 5, 12, 16] fun K hK => ?_
    simp [ny_first, e1, e2]
    repeat refine ⟨by first | omega | assumption | (simp only [maxLen]; omega) | (intros; omega) | decide, ?_⟩
    refine hK _ ?_
    clear hK K
    refine AWp.ret ?_
    repeat first | refine thenN ?_ | refine thenX ?_ | refine thenR ?_ | refine blockN ?_ | refine blockR ?_ | refine blockX ?_ | refine blockM rfl ?_
    obtain rfl : k = y := (by omega); simp [RetOk, RV, RVs]; omega
end Go.Proofs.YtmofeikdaoknlaaDoor

set_option maxRecDepth 100000
set_option linter.unusedSimpArgs false
set_option linter.unusedVariables false
namespace Go.Proofs.YtmofeikdaoknlaaDoor
open Go Ab Pl
theorem date_before (y m : Int) (hy : 1900 ≤ y ∧ y ≤ 2199) (hm : 1 ≤ m ∧ m ≤ 12) : ACalls E.P 26 [.int .i64 y, .int .i64 m] (.d (.int .i64 (befD y m))) := by
  refine ACalls.intro E_ok Tryd.func26 rfl rfl Tryd.ntmps26 Tryd.results26 (Nat.le_of_ble_eq_true rfl) fun hok base S0 w0 => ?_
  have e1 : IntKind.i64.wrap (m - 1) = m - 1 := by rw [wrap_i64] <;> omega
  have tg := bef_arr (m := m) (by omega)
  have br := befT_rng m
  have e2 : IntKind.i64.wrap (befT m + 1) = befT m + 1 := by rw [wrap_i64] <;> omega
  -- region 0
  refine AWp.rseq E_ok [0, 1, 4, 5, 15] fun K hK => ?_
  simp [e1, tg, e2]
  repeat refine ⟨by first | omega | assumption | (simp only [maxLen]; omega) | (intros; omega) | decide, ?_⟩
  refine hK _ ?_
  clear hK K
  -- region 1
  refine AWp.rseq E_ok [0, 1, 4, 5, 15] fun K hK => ?_
  simp [e1, tg, e2]
  repeat refine ⟨by first | omega | assumption | (simp only [maxLen]; omega) | (intros; omega) | decide, ?_⟩
  refine hK _ ?_
  clear hK K
  refine AWp.seq ?_
  -- region 2
  refine AWp.rseq E_ok [0, 1, 4, 5, 15] fun K hK => ?_
  simp [e1, tg, e2]
  repeat refine ⟨by first | omega | assumption | (simp only [maxLen]; omega) | (intros; omega) | decide, ?_⟩
  refine meet.of (date_leap y (by omega)) ?_
  simp [e1, tg, e2]
  repeat refine ⟨by first | omega | assumption | (simp only [maxLen]; omega) | (intros; omega) | decide, ?_⟩
  refine hK _ ?_
  clear hK K
  refine AWp.cond rfl (fun h15 => ?_) (fun h15 => ?_)
  · try simp at h15
    have hb : befD y m = befT m + 1 := by unfold befD; rw [if_pos h15]
    -- region 3
    refine AWp.rend E_ok [0, 1, 4, 5, 15] fun K hK => ?_
    simp [e1, tg, e2]
    repeat refine ⟨by first | omega | assumption | (simp only [maxLen]; omega) | (intros; omega) | decide, ?_⟩
    refine hK _ ?_
    clear hK K
    repeat first | refine thenN ?_ | refine thenX ?_ | refine thenR ?_ | refine blockN ?_ | refine blockR ?_ | refine blockX ?_ | refine blockM rfl ?_
    -- region 4
    refine AWp.rseq E_ok [0, 1, 4, 5, 15] fun K hK => ?_
    simp [e1, tg, e2]
    repeat refine ⟨by first | omega | assumption | (simp only [maxLen]; omega) | (intros; omega) | decide, ?_⟩
    refine hK _ ?_
    clear hK K
    refine AWp.ret ?_
    repeat first | refine thenN ?_ | refine thenX ?_ | refine thenR ?_ | refine blockN ?_ | refine blockR ?_ | refine blockX ?_ | refine blockM rfl ?_
    simp [RetOk, RV, RVs, hb]
  · try simp at h15
    have hb : befD y m = befT m := by unfold befD; rw [if_neg (by simpa using h15)]; omega
    refine AWp.skip ?_
    repeat first | refine thenN ?_ | refine thenX ?_ | refine thenR ?_ | refine blockN ?_ | refine blockR ?_ | refine blockX ?_ | refine blockM rfl ?_
    -- region 4
    refine AWp.rseq E_ok [0, 1, 4, 5, 15] fun K hK => ?_
    simp [e1, tg, e2]
    repeat refine ⟨by first | omega | assumption | (simp only [maxLen]; omega) | (intros; omega) | decide, ?_⟩
    refine hK _ ?_
    clear hK K
    refine AWp.ret ?_
    repeat first | refine thenN ?_ | refine thenX ?_ | refine thenR ?_ | refine blockN ?_ | refine blockR ?_ | refine blockX ?_ | refine blockM rfl ?_
    simp [RetOk, RV, RVs, hb]
end Go.Proofs.YtmofeikdaoknlaaDoor

set_option maxRecDepth 100000
set_option linter.unusedSimpArgs false
set_option linter.unusedVariables false
namespace Go.Proofs.YtmofeikdaoknlaaDoor
open Go Ab Pl
theorem date_Of (y m d : Int) : ACalls E.P 10 [.int .i64 y, .int .i64 m, .int .i64 d] (.tup [.int .i64 (ofR y m d).1, .int .i64 (ofR y m d).2]) := by
  refine ACalls.intro E_ok Tryd.func10 rfl rfl Tryd.ntmps10 Tryd.results10 (Nat.le_of_ble_eq_true rfl) fun hok base S0 w0 => ?_
  -- region 0
  refine AWp.rseq E_ok [0, 1, 2, 6, 7, 16] fun K hK => ?_
  simp
  repeat refine ⟨by first | omega | assumption | (simp only [maxLen]; omega) | (intros; omega) | decide, ?_⟩
  refine hK _ ?_
  clear hK K
  refine AWp.seq ?_
  -- region 1
  refine AWp.rseq E_ok [0, 1, 2, 6, 7, 16] fun K hK => ?_
  simp
  repeat refine ⟨by first | omega | assumption | (simp only [maxLen]; omega) | (intros; omega) | decide, ?_⟩
  refine meet.of (date_Length y m) ?_
  simp
  repeat refine ⟨by first | omega | assumption | (simp only [maxLen]; omega) | (intros; omega) | decide, ?_⟩
  refine hK _ ?_
  clear hK K
  refine AWp.cond rfl (fun h16 => ?_) (fun h16 => ?_)
  · try simp at h16
    have hb := of_bad h16
    -- region 2
    refine AWp.rseq E_ok [0, 1, 2, 6, 7, 16] fun K hK => ?_
    simp
    repeat refine ⟨by first | omega | assumption | (simp only [maxLen]; omega) | (intros; omega) | decide, ?_⟩
    refine hK _ ?_
    clear hK K
    refine AWp.ret ?_
    repeat first | refine thenN ?_ | refine thenX ?_ | refine thenR ?_ | refine blockN ?_ | refine blockR ?_ | refine blockX ?_ | refine blockM rfl ?_
    first | (simp [RetOk, RV, RVs, hb]; done) | (rw [of_ok (by omega) (by omega)]; simp [RetOk, RV, RVs, dayD])
  · try simp at h16
    have hin := mlen_in (y := y) (m := m) (d := d) (by omega) (by omega)
    have ml := mlen_rng hin.1.1 hin.1.2 hin.2.1 hin.2.2
    have nr := ny_rng hin.1.1 (by omega)
    have b1 := bef_mono (y := y) (m := 1) (n := m) (by omega) (by omega) hin.2.1
    have b2 := bef_mono (y := y) (m := m) (n := 13) (by omega) hin.2.1 (by omega)
    rw [bef_first] at b1
    rw [bef_end hin.1.1 hin.1.2] at b2
    have yp := year_pos y
    have e1 : IntKind.i64.wrap (nyD y + befD y m) = nyD y + befD y m := by rw [wrap_i64] <;> omega
    have e2 : IntKind.i64.wrap (nyD y + befD y m + d) = nyD y + befD y m + d := by rw [wrap_i64] <;> omega
    have e3 : IntKind.i64.wrap (nyD y + befD y m + d - 1) = nyD y + befD y m + d - 1 := by rw [wrap_i64] <;> omega
    refine AWp.skip ?_
    repeat first | refine thenN ?_ | refine thenX ?_ | refine thenR ?_ | refine blockN ?_ | refine blockR ?_ | refine blockX ?_ | refine blockM rfl ?_
    -- region 3
    refine AWp.rseq E_ok [0, 1, 2, 6, 7, 16] fun K hK => ?_
    simp [e1, e2, e3]
    repeat refine ⟨by first | omega | assumption | (simp only [maxLen]; omega) | (intros; omega) | decide, ?_⟩
    refine meet.of (date_newYear y (by omega)) ?_
    simp [e1, e2, e3]
    repeat refine ⟨by first | omega | assumption | (simp only [maxLen]; omega) | (intros; omega) | decide, ?_⟩
    refine meet.of (date_before y m (by omega) (by omega)) ?_
    simp [e1, e2, e3]
    repeat refine ⟨by first | omega | assumption | (simp only [maxLen]; omega) | (intros; omega) | decide, ?_⟩
    refine hK _ ?_
    clear hK K
    refine AWp.ret ?_
    repeat first | refine thenN ?_ | refine thenX ?_ | refine thenR ?_ | refine blockN ?_ | refine blockR ?_ | refine blockX ?_ | refine blockM rfl ?_
    first | (simp [RetOk, RV, RVs, hb]; done) | (rw [of_ok (by omega) (by omega)]; simp [RetOk, RV, RVs, dayD])
end Go.Proofs.YtmofeikdaoknlaaDoor

set_option maxRecDepth 100000
set_option linter.unusedSimpArgs false
set_option linter.unusedVariables false
namespace Go.Proofs.YtmofeikdaoknlaaDoor
open Go Ab Pl
theorem ref03_Length (y m : Int) : ACalls E.P 16 [.int .i64 y, .int .i64 m] (.d (.int .i64 (mlenD y m))) := by
  refine ACalls.intro E_ok Tryd.func16 rfl rfl Tryd.ntmps16 Tryd.results16 (Nat.le_of_ble_eq_true rfl) fun hok base S0 w0 => ?_
  -- region 0
  refine AWp.rseq E_ok [0, 1, 4, 5, 19, 34] fun K hK => ?_
  simp
  repeat refine ⟨by first | omega | assumption | (simp only [maxLen]; omega) | (intros; omega) | decide, ?_⟩
  refine hK _ ?_
  clear hK K
  refine AWp.seq ?_
  -- region 1
  refine AWp.rseq E_ok [0, 1, 4, 5, 19, 34] fun K hK => ?_
  simp
  repeat refine ⟨by first | omega | assumption | (simp only [maxLen]; omega) | (intros; omega) | decide, ?_⟩
  refine hK _ ?_
  clear hK K
  refine AWp.cond rfl (fun h19 => ?_) (fun h19 => ?_)
  · try simp at h19
    -- region 2
    refine AWp.rseq E_ok [0, 1, 4, 5, 19, 34] fun K hK => ?_
    simp
    repeat refine ⟨by first | omega | assumption | (simp only [maxLen]; omega) | (intros; omega) | decide, ?_⟩
    refine hK _ ?_
    clear hK K
    refine AWp.ret ?_
    repeat first | refine thenN ?_ | refine thenX ?_ | refine thenR ?_ | refine blockN ?_ | refine blockR ?_ | refine blockX ?_ | refine blockM rfl ?_
    first | (rw [mlen_out (by omega)]; simp [RetOk, RV, RVs]; done) | (rw [hq]; simp [RetOk, RV, RVs]; done)
  · try simp at h19
    refine AWp.skip ?_
    repeat first | refine thenN ?_ | refine thenX ?_ | refine thenR ?_ | refine blockN ?_ | refine blockR ?_ | refine blockX ?_ | refine blockM rfl ?_
    refine AWp.seq ?_
    -- region 3
    refine AWp.rseq E_ok [0, 1, 4, 5, 19, 34] fun K hK => ?_
    simp
    repeat refine ⟨by first | omega | assumption | (simp only [maxLen]; omega) | (intros; omega) | decide, ?_⟩
    refine hK _ ?_
    clear hK K
    refine AWp.cond rfl (fun h34 => ?_) (fun h34 => ?_)
    · try simp at h34
      have hlp := (leap_iff (y := y) (by omega) (by omega)).2
      have ht : y.tmod 4 = y % 4 := Int.tmod_eq_emod_of_nonneg (by omega)
      have hq := mlen_29 (y := y) (m := m) (by omega) (by omega) (by omega) (hlp (by omega))
      -- region 4
      refine AWp.rseq E_ok [0, 1, 4, 5, 19, 34] fun K hK => ?_
      simp
      repeat refine ⟨by first | omega | assumption | (simp only [maxLen]; omega) | (intros; omega) | decide, ?_⟩
      refine hK _ ?_
      clear hK K
      refine AWp.ret ?_
      repeat first | refine thenN ?_ | refine thenX ?_ | refine thenR ?_ | refine blockN ?_ | refine blockR ?_ | refine blockX ?_ | refine blockM rfl ?_
      first | (rw [mlen_out (by omega)]; simp [RetOk, RV, RVs]; done) | (rw [hq]; simp [RetOk, RV, RVs]; done)
    · try simp at h34
      have hlp := (leap_iff (y := y) (by omega) (by omega)).1
      have ht : y.tmod 4 = y % 4 := Int.tmod_eq_emod_of_nonneg (by omega)
      have hq := mlen_tbl (y := y) (m := m) (by omega) (by omega) (by omega) (by omega) (fun hh => by have := hlp hh.2; omega)
      have e1 : IntKind.i64.wrap (m - 1) = m - 1 := by rw [wrap_i64] <;> omega
      have tg := tbl_row (m := m) (by omega)
      refine AWp.skip ?_
      repeat first | refine thenN ?_ | refine thenX ?_ | refine thenR ?_ | refine blockN ?_ | refine blockR ?_ | refine blockX ?_ | refine blockM rfl ?_
      -- region 5
      refine AWp.rseq E_ok [0, 1, 4, 5, 19, 34] fun K hK => ?_
      simp [e1, tg]
      repeat refine ⟨by first | omega | assumption | (simp only [maxLen]; omega) | (intros; omega) | decide, ?_⟩
      refine hK _ ?_
      clear hK K
      -- region 6
      refine AWp.rseq E_ok [0, 1, 4, 5, 19, 34] fun K hK => ?_
      simp [e1, tg]
      repeat refine ⟨by first | omega | assumption | (simp only [maxLen]; omega) | (intros; omega) | decide, ?_⟩
      refine hK _ ?_
      clear hK K
      refine AWp.ret ?_
      repeat first | refine thenN ?_ | refine thenX ?_ | refine thenR ?_ | refine blockN ?_ | refine blockR ?_ | refine blockX ?_ | refine blockM rfl ?_
      first | (rw [mlen_out (by omega)]; simp [RetOk, RV, RVs]; done) | (rw [hq]; simp [RetOk, RV, RVs]; done)
end Go.Proofs.YtmofeikdaoknlaaDoor

set_option maxRecDepth 100000
set_option linter.unusedSimpArgs false
set_option linter.unusedVariables false
namespace Go.Proofs.YtmofeikdaoknlaaDoor
open Go Ab Pl
theorem ref03_Year (y : Int) (hy : 1900 ≤ y ∧ y ≤ 2199) : ACalls E.P 27 [.int .i64 y] (.d (.int .i64 (yearD y))) := by
  refine ACalls.intro E_ok Tryd.func27 rfl rfl Tryd.ntmps27 Tryd.results27 (Nat.le_of_ble_eq_true rfl) fun hok base S0 w0 => ?_
  have hl : (mlenD y 2 = 29) ↔ leapB y = true := by rw [mlen_ok hy.1 hy.2 (by omega) (by omega)]; cases leapB y <;> simp [tblD]
  -- region 0
  refine AWp.rseq E_ok [0, 2, 5] fun K hK => ?_
  simp
  repeat refine ⟨by first | omega | assumption | (simp only [maxLen]; omega) | (intros; omega) | decide, ?_⟩
  refine hK _ ?_
  clear hK K
  refine AWp.seq ?_
  -- region 1
  refine AWp.rseq E_ok [0, 2, 5] fun K hK => ?_
  simp
  repeat refine ⟨by first | omega | assumption | (simp only [maxLen]; omega) | (intros; omega) | decide, ?_⟩
  refine meet.of (ref03_Length y 2) ?_
  simp
  repeat refine ⟨by first | omega | assumption | (simp only [maxLen]; omega) | (intros; omega) | decide, ?_⟩
  refine hK _ ?_
  clear hK K
  refine AWp.cond rfl (fun h5 => ?_) (fun h5 => ?_)
  · try simp at h5
    -- region 2
    refine AWp.rseq E_ok [0, 2, 5] fun K hK => ?_
    simp [h5]
    repeat refine ⟨by first | omega | assumption | (simp only [maxLen]; omega) | (intros; omega) | decide, ?_⟩
    refine hK _ ?_
    clear hK K
    refine AWp.ret ?_
    repeat first | refine thenN ?_ | refine thenX ?_ | refine thenR ?_ | refine blockN ?_ | refine blockR ?_ | refine blockX ?_ | refine blockM rfl ?_
    first | (simp [RetOk, RV, RVs, yearD, hl.1 h5]; done) | (simp [RetOk, RV, RVs, yearD, mt hl.2 h5])
  · try simp at h5
    refine AWp.skip ?_
    repeat first | refine thenN ?_ | refine thenX ?_ | refine thenR ?_ | refine blockN ?_ | refine blockR ?_ | refine blockX ?_ | refine blockM rfl ?_
    -- region 3
    refine AWp.rseq E_ok [0, 2, 5] fun K hK => ?_
    simp [h5]
    repeat refine ⟨by first | omega | assumption | (simp only [maxLen]; omega) | (intros; omega) | decide, ?_⟩
    refine hK _ ?_
    clear hK K
    refine AWp.ret ?_
    repeat first | refine thenN ?_ | refine thenX ?_ | refine thenR ?_ | refine blockN ?_ | refine blockR ?_ | refine blockX ?_ | refine blockM rfl ?_
    first | (simp [RetOk, RV, RVs, yearD, hl.1 h5]; done) | (simp [RetOk, RV, RVs, yearD, mt hl.2 h5])
end Go.Proofs.YtmofeikdaoknlaaDoor

set_option maxRecDepth 100000
set_option linter.unusedSimpArgs false
set_option linter.unusedVariables false
namespace Go.Proofs.YtmofeikdaoknlaaDoor
open Go Ab Pl
theorem ref03_Of (y m d : Int) : ACalls E.P 11 [.int .i64 y, .int .i64 m, .int .i64 d] (.tup [.int .i64 (ofR y m d).1, .int .i64 (ofR y m d).2]) := by
  refine ACalls.intro E_ok Tryd.func11 rfl rfl Tryd.ntmps11 Tryd.results11 (Nat.le_of_ble_eq_true rfl) fun hok base S0 w0 => ?_
  -- region 0
  refine AWp.rseq E_ok [0, 1, 2, 6, 7, 8, 9, 10, 19, 24, 33] fun K hK => ?_
  simp [ny_first, bef_first]
  repeat refine ⟨by first | omega | assumption | (simp only [maxLen]; omega) | (intros; omega) | decide, ?_⟩
  refine hK _ ?_
  clear hK K
  refine AWp.seq ?_
  -- region 1
  refine AWp.rseq E_ok [0, 1, 2, 6, 7, 8, 9, 10, 19, 24, 33] fun K hK => ?_
  simp [ny_first, bef_first]
  repeat refine ⟨by first | omega | assumption | (simp only [maxLen]; omega) | (intros; omega) | decide, ?_⟩
  refine meet.of (ref03_Length y m) ?_
  simp [ny_first, bef_first]
  repeat refine ⟨by first | omega | assumption | (simp only [maxLen]; omega) | (intros; omega) | decide, ?_⟩
  refine hK _ ?_
  clear hK K
  refine AWp.cond rfl (fun h19 => ?_) (fun h19 => ?_)
  · try simp at h19
    have hb := of_bad h19
    -- region 2
    refine AWp.rseq E_ok [0, 1, 2, 6, 7, 8, 9, 10, 19, 24, 33] fun K hK => ?_
    simp [ny_first, bef_first]
    repeat refine ⟨by first | omega | assumption | (simp only [maxLen]; omega) | (intros; omega) | decide, ?_⟩
    refine hK _ ?_
    clear hK K
    refine AWp.ret ?_
    repeat first | refine thenN ?_ | refine thenX ?_ | refine thenR ?_ | refine blockN ?_ | refine blockR ?_ | refine blockX ?_ | refine blockM rfl ?_
    first | (simp [RetOk, RV, RVs, hb]; done) | (obtain rfl : j = m := (by omega); rw [of_ok (by omega) (by omega)]; simp [RetOk, RV, RVs, dayD]; omega)
  · try simp at h19
    have hin := mlen_in (y := y) (m := m) (d := d) (by omega) (by omega)
    have hd31 := mlen_rng hin.1.1 hin.1.2 hin.2.1 hin.2.2
    have ed : IntKind.i64.wrap (d - 1) = d - 1 := by rw [wrap_i64] <;> omega
    refine AWp.skip ?_
    repeat first | refine thenN ?_ | refine thenX ?_ | refine thenR ?_ | refine blockN ?_ | refine blockR ?_ | refine blockX ?_ | refine blockM rfl ?_
    -- region 3
    refine AWp.rseq E_ok [0, 1, 2, 6, 7, 8, 9, 10, 19, 24, 33] fun K hK => ?_
    simp [ny_first, bef_first, ed]
    repeat refine ⟨by first | omega | assumption | (simp only [maxLen]; omega) | (intros; omega) | decide, ?_⟩
    refine hK _ ?_
    clear hK K
    refine AWp.seq ?_
    -- region 4
    refine AWp.rseq E_ok [0, 1, 2, 6, 7, 8, 9, 10, 19, 24, 33] fun K hK => ?_
    simp [ny_first, bef_first, ed]
    repeat refine ⟨by first | omega | assumption | (simp only [maxLen]; omega) | (intros; omega) | decide, ?_⟩
    refine hK _ ?_
    clear hK K
    refine AWp.block ?_
    refine AWp.loop (ι := { k : Int // 1900 ≤ k ∧ k ≤ y }) (fun x => match x with | ⟨i, hi, hi2⟩ => [(0, T.val (D.int IntKind.i64 y)), (1, T.val (D.int IntKind.i64 m)), (2, T.val (D.int IntKind.i64 d)), (8, T.val (.int .i64 (d - 1 + nyD i))), (9, T.val (.int .i64 i))]) (fun x => match x with | ⟨i, hi, hi2⟩ => (y - i).toNat) ⟨1900, Int.le_refl _, hin.1.1⟩ ?_ ?_
    · simp [Weak, TW, ny_first, bef_first]
    rintro ⟨i, hi, hi2⟩
    simp only
    try simp only at hi
    try simp only at hi2
    refine AWp.seq ?_
    -- region 5
    refine AWp.rseq E_ok [0, 1, 2, 6, 7, 8, 9, 10, 19, 24, 33] fun K hK => ?_
    simp [ny_first, bef_first, ed]
    repeat refine ⟨by first | omega | assumption | (simp only [maxLen]; omega) | (intros; omega) | decide, ?_⟩
    refine hK _ ?_
    clear hK K
    refine AWp.cond rfl (fun h24 => ?_) (fun h24 => ?_)
    · try simp at h24
      refine AWp.skip ?_
      repeat first | refine thenN ?_ | refine thenX ?_ | refine thenR ?_ | refine blockN ?_ | refine blockR ?_ | refine blockX ?_ | refine blockM rfl ?_
      refine AWp.seq ?_
      refine AWp.block ?_
      -- region 7
      refine AWp.rend E_ok [0, 1, 2, 6, 7, 8, 9, 10, 19, 24, 33] fun K hK => ?_
      simp [ny_first, bef_first, ed]
      repeat refine ⟨by first | omega | assumption | (simp only [maxLen]; omega) | (intros; omega) | decide, ?_⟩
      refine meet.of (ref03_Year i (by omega)) ?_
      simp [ny_first, bef_first, ed]
      repeat refine ⟨by first | omega | assumption | (simp only [maxLen]; omega) | (intros; omega) | decide, ?_⟩
      refine hK _ ?_
      clear hK K
      repeat first | refine thenN ?_ | refine thenX ?_ | refine thenR ?_ | refine blockN ?_ | refine blockR ?_ | refine blockX ?_ | refine blockM rfl ?_
      -- region 6
      refine AWp.rend E_ok [0, 1, 2, 6, 7, 8, 9, 10, 19, 24, 33] fun K hK => ?_
      simp [ny_first, bef_first, ed]
      repeat refine ⟨by first | omega | assumption | (simp only [maxLen]; omega) | (intros; omega) | decide, ?_⟩
      refine hK _ ?_
      clear hK K
      repeat first | refine thenN ?_ | refine thenX ?_ | refine thenR ?_ | refine blockN ?_ | refine blockR ?_ | refine blockX ?_ | refine blockM rfl ?_
      have hw : IntKind.i64.wrap (i + 1) = i + 1 := by rw [wrap_i64] <;> omega
      have st := ny_step hi (by omega)
      have hr2 := ny_rng hi (by omega)
      have yp := year_pos i
      have hw2 : IntKind.i64.wrap (d - 1 + nyD i + yearD i) = d - 1 + nyD i + yearD i := by rw [wrap_i64] <;> omega
      refine ⟨⟨i + 1, by omega, by omega⟩, ?_, by simp only; omega⟩
      simp [Weak, TW, hw, hw2, st]
      omega
    · try simp at h24
      have hiy : nyD i = nyD y := by rw [show i = y by omega]
      refine AWp.exit ?_
      repeat first | refine thenN ?_ | refine thenX ?_ | refine thenR ?_ | refine blockN ?_ | refine blockR ?_ | refine blockX ?_ | refine blockM rfl ?_
      refine AWp.seq ?_
      -- region 8
      refine AWp.rseq E_ok [0, 1, 2, 6, 7, 8, 9, 10, 19, 24, 33] fun K hK => ?_
      simp [ny_first, bef_first, ed, hiy]
      repeat refine ⟨by first | omega | assumption | (simp only [maxLen]; omega) | (intros; omega) | decide, ?_⟩
      refine hK _ ?_
      clear hK K
      refine AWp.block ?_
      refine AWp.loop (ι := { k : Int // 1 ≤ k ∧ k ≤ m }) (fun x => match x with | ⟨j, hj, hj2⟩ => [(0, T.val (D.int IntKind.i64 y)), (1, T.val (D.int IntKind.i64 m)), (2, T.val (D.int IntKind.i64 d)), (8, T.val (.int .i64 (d - 1 + nyD y + befD y j))), (10, T.val (.int .i64 j))]) (fun x => match x with | ⟨j, hj, hj2⟩ => (m - j).toNat) ⟨1, Int.le_refl _, hin.2.1⟩ ?_ ?_
      · simp [Weak, TW, ny_first, bef_first]
      rintro ⟨j, hj, hj2⟩
      simp only
      try simp only at hj
      try simp only at hj2
      refine AWp.seq ?_
      -- region 9
      refine AWp.rseq E_ok [0, 1, 2, 6, 7, 8, 9, 10, 19, 24, 33] fun K hK => ?_
      simp [ny_first, bef_first, ed, hiy]
      repeat refine ⟨by first | omega | assumption | (simp only [maxLen]; omega) | (intros; omega) | decide, ?_⟩
      refine hK _ ?_
      clear hK K
      refine AWp.cond rfl (fun h33 => ?_) (fun h33 => ?_)
      · try simp at h33
        refine AWp.skip ?_
        repeat first | refine thenN ?_ | refine thenX ?_ | refine thenR ?_ | refine blockN ?_ | refine blockR ?_ | refine blockX ?_ | refine blockM rfl ?_
        refine AWp.seq ?_
        refine AWp.block ?_
        -- region 11
        refine AWp.rend E_ok [0, 1, 2, 6, 7, 8, 9, 10, 19, 24, 33] fun K hK => ?_
        simp [ny_first, bef_first, ed, hiy]
        repeat refine ⟨by first | omega | assumption | (simp only [maxLen]; omega) | (intros; omega) | decide, ?_⟩
        refine meet.of (ref03_Length y j) ?_
        simp [ny_first, bef_first, ed, hiy]
        repeat refine ⟨by first | omega | assumption | (simp only [maxLen]; omega) | (intros; omega) | decide, ?_⟩
        refine hK _ ?_
        clear hK K
        repeat first | refine thenN ?_ | refine thenX ?_ | refine thenR ?_ | refine blockN ?_ | refine blockR ?_ | refine blockX ?_ | refine blockM rfl ?_
        -- region 10
        refine AWp.rend E_ok [0, 1, 2, 6, 7, 8, 9, 10, 19, 24, 33] fun K hK => ?_
        simp [ny_first, bef_first, ed, hiy]
        repeat refine ⟨by first | omega | assumption | (simp only [maxLen]; omega) | (intros; omega) | decide, ?_⟩
        refine hK _ ?_
        clear hK K
        repeat first | refine thenN ?_ | refine thenX ?_ | refine thenR ?_ | refine blockN ?_ | refine blockR ?_ | refine blockX ?_ | refine blockM rfl ?_
        have hw : IntKind.i64.wrap (j + 1) = j + 1 := by rw [wrap_i64] <;> omega
        have st := bef_step hin.1.1 hin.1.2 hj (by omega)
        have hr2 := ny_rng hin.1.1 (by omega)
        have b1 := bef_mono (y := y) (m := 1) (n := j) (by omega) (by omega) hj
        have b2 := bef_mono (y := y) (m := j) (n := 13) (by omega) hj (by omega)
        rw [bef_first] at b1
        rw [bef_end hin.1.1 hin.1.2] at b2
        have yp := year_pos y
        have ml := mlen_rng hin.1.1 hin.1.2 hj (by omega)
        have hw2 : IntKind.i64.wrap (d - 1 + nyD y + befD y j + mlenD y j) = d - 1 + nyD y + befD y j + mlenD y j := by rw [wrap_i64] <;> omega
        refine ⟨⟨j + 1, by omega, by omega⟩, ?_, by simp only; omega⟩
        simp [Weak, TW, hw, hw2, st]
        omega
      · try simp at h33
        refine AWp.exit ?_
        repeat first | refine thenN ?_ | refine thenX ?_ | refine thenR ?_ | refine blockN ?_ | refine blockR ?_ | refine blockX ?_ | refine blockM rfl ?_
        -- region 12
        refine AWp.rseq E_ok [0, 1, 2, 6, 7, 8, 9, 10, 19, 24, 33] fun K hK => ?_
        simp [ny_first, bef_first, ed, hiy]
        repeat refine ⟨by first | omega | assumption | (simp only [maxLen]; omega) | (intros; omega) | decide, ?_⟩
        refine hK _ ?_
        clear hK K
        refine AWp.ret ?_
        repeat first | refine thenN ?_ | refine thenX ?_ | refine thenR ?_ | refine blockN ?_ | refine blockR ?_ | refine blockX ?_ | refine blockM rfl ?_
        first | (simp [RetOk, RV, RVs, hb]; done) | (obtain rfl : j = m := (by omega); rw [of_ok (by omega) (by omega)]; simp [RetOk, RV, RVs, dayD]; omega)
end Go.Proofs.YtmofeikdaoknlaaDoor

/- Dates: reading a text. -/
namespace Pl
set_option linter.unusedVariables false
theorem num_snd (s : List UInt8) : (numR s).2 = true ↔ s.all isDig = true := by
  unfold numR; split <;> simp_all
theorem num_fst {s : List UInt8} (h : (numR s).2 = true) : (numR s).1 = valF 0 s := by rw [num_ok ((num_snd s).1 h)]
theorem at_some {s : List UInt8} {i : Nat} (hi : i < s.length) (h : (s[i]?.getD 0).toNat = 45) : s[i]? = some 45 := by
  rw [List.getElem?_eq_getElem hi] at h ⊢
  simp only [Option.getD_some] at h
  have : s[i] = 45 := UInt8.toNat_inj.1 h
  rw [this]
theorem at_none {s : List UInt8} {i : Nat} (h : ¬ (s[i]?.getD 0).toNat = 45) : ¬ s[i]? = some 45 := fun hh => h (by rw [hh]; rfl)
theorem parse_bad {s : List UInt8} (h : ¬ formB s) : parseR s = (0, 3) := if_neg h
theorem parse_good {s : List UInt8} (h : s.length = 10) (h4 : (s[4]?.getD 0).toNat = 45) (h7 : (s[7]?.getD 0).toNat = 45) (a : (numR (List.take 4 s)).2 = true) (b : (numR (List.drop 5 (List.take 7 s))).2 = true) (c : (numR (List.drop 8 s)).2 = true) :
    parseR s = ofR (numR (List.take 4 s)).1 (numR (List.drop 5 (List.take 7 s))).1 (numR (List.drop 8 s)).1 := by
  have e : List.drop 5 (List.take 7 s) = (s.drop 5).take 2 := by rw [List.drop_take]
  rw [num_fst a, num_fst b, num_fst c]
  rw [e] at b ⊢
  exact if_pos ⟨h, at_some (by omega) h4, at_some (by omega) h7, (num_snd _).1 a, (num_snd _).1 b, (num_snd _).1 c⟩
theorem parse_nonum {s : List UInt8} (h : ¬ (((numR (List.take 4 s)).2 = true ∧ (numR (List.drop 5 (List.take 7 s))).2 = true) ∧ (numR (List.drop 8 s)).2 = true)) : parseR s = (0, 3) := by
  refine parse_bad fun hh => h ?_
  have e : List.drop 5 (List.take 7 s) = (s.drop 5).take 2 := by rw [List.drop_take]
  rw [e]
  exact ⟨⟨(num_snd _).2 hh.2.2.2.1, (num_snd _).2 hh.2.2.2.2.1⟩, (num_snd _).2 hh.2.2.2.2.2⟩
theorem parse_nodash {s : List UInt8} (h : ¬ (s.length = 10 ∧ (s[4]?.getD 0).toNat = 45 ∧ (s[7]?.getD 0).toNat = 45)) : parseR s = (0, 3) := by
  refine parse_bad fun hh => h ⟨hh.1, ?_, ?_⟩
  · rw [hh.2.1]; rfl
  · rw [hh.2.2.1]; rfl
theorem take_ne {s : List UInt8} (h : s.length = 10) : List.take 4 s ≠ [] ∧ List.drop 5 (List.take 7 s) ≠ [] ∧ List.drop 8 s ≠ [] := by
  have key : ∀ l : List UInt8, 0 < l.length → l ≠ [] := fun l hl hh => by rw [hh] at hl; exact absurd hl (by decide)
  exact ⟨key _ (by rw [List.length_take]; omega), key _ (by rw [List.length_drop, List.length_take]; omega), key _ (by rw [List.length_drop]; omega)⟩
end Pl

/- Dates: the chapter's examples. -/
namespace Pl
theorem ex_months1 : monthsR 30 1 = (58, 0) := by
  have hp : partsP 30 = ⟨1900, 1, 31⟩ := parts_eq ⟨by decide, by decide, by decide⟩
  have hk : monK 30 1 = 22801 := by unfold monK; rw [hp]; decide
  have := months_c (day := 30) (n := 1) ⟨⟨by decide, by decide⟩, by decide, by decide⟩ (by rw [hk]; decide)
  rw [this, hk, hp]; decide
theorem ex_months2 : monthsR 0 (-1) = (0, 2) := by
  have hp : partsP 0 = ⟨1900, 1, 1⟩ := parts_eq ⟨by decide, by decide, by decide⟩
  have hk : monK 0 (-1) = 22799 := by unfold monK; rw [hp]; decide
  exact months_b (day := 0) (n := -1) ⟨⟨by decide, by decide⟩, by decide, by decide⟩ (by rw [hk]; decide)
theorem ex_format : formatR 46340 = [50, 48, 50, 54, 45, 49, 49, 45, 49, 54] := by
  have hp : partsP 46340 = ⟨2026, 11, 16⟩ := parts_eq ⟨by decide, by decide, by decide⟩
  rw [format_ok ⟨by decide, by decide⟩, hp]; decide
theorem ex_of1 : ofR 2026 11 16 = (46340, 0) := by decide
theorem ex_of2 : ofR 2000 2 29 = (36583, 0) := by decide
theorem ex_of3 : ofR 1900 2 29 = (0, 2) := by decide
theorem ex_p1 : parseR [50, 49, 57, 57, 45, 49, 50, 45, 51, 49] = (109572, 0) := by decide
theorem ex_p2 : parseR [50, 48, 50, 54, 45, 48, 50, 45, 51, 48] = (0, 2) := by decide
theorem ex_p3 : parseR [50, 48, 50, 54, 45, 50, 45, 51] = (0, 3) := by decide
end Pl

namespace Pl
open Go Ab
structure Charge where
  id : Int
  patron : Int
  item : Int
  day : Int
  kind : Int
  amount : Int
  paid : Int
  deriving Inhabited, DecidableEq
structure Cal where
  week : Int
  closed : List Int
structure Rule where
  r0 : Int
  r1 : Int
  r2 : Int
  r3 : Int
  r4 : Int
  fine : Int
  grace : Int
  maxFine : Int
  r8 : Int
  r9 : Int
  r10 : Int
  r11 : Int
  r12 : Int
def encCharge (c : Charge) : D := .agg [.int .i64 c.id, .int .i64 c.patron, .int .i64 c.item, .int .i64 c.day, .int .i64 c.kind, .int .i64 c.amount, .int .i64 c.paid]
def z0 : Charge := ⟨0, 0, 0, 0, 0, 0, 0⟩
def encCharges (l : List Charge) : D := .slice (encCharge z0) (l.map encCharge)
def encInts (l : List Int) : D := .slice (.int .i64 0) (l.map (D.int .i64))
def encCal (c : Cal) : D := .agg [.int .i64 c.week, encInts c.closed]
def encRule (r : Rule) : D := .agg [.int .i64 r.r0, .int .i64 r.r1, .int .i64 r.r2, .int .i64 r.r3, .int .i64 r.r4, .int .i64 r.fine, .int .i64 r.grace, .int .i64 r.maxFine, .int .i64 r.r8, .int .i64 r.r9, .int .i64 r.r10, .int .i64 r.r11, .int .i64 r.r12]
@[simp] theorem encCharge_cells (c : Charge) : (encCharge c).cells = [.int .i64 c.id, .int .i64 c.patron, .int .i64 c.item, .int .i64 c.day, .int .i64 c.kind, .int .i64 c.amount, .int .i64 c.paid] := rfl
theorem encCharge_eq (c : Charge) : encCharge c = .agg [.int .i64 c.id, .int .i64 c.patron, .int .i64 c.item, .int .i64 c.day, .int .i64 c.kind, .int .i64 c.amount, .int .i64 c.paid] := rfl
theorem encCharges_eq (l : List Charge) : encCharges l = .slice (encCharge z0) (l.map encCharge) := rfl
theorem encInts_eq (l : List Int) : encInts l = .slice (.int .i64 0) (l.map (D.int .i64)) := rfl
theorem encCal_eq (c : Cal) : encCal c = .agg [.int .i64 c.week, encInts c.closed] := rfl
theorem encRule_eq (r : Rule) : encRule r = .agg [.int .i64 r.r0, .int .i64 r.r1, .int .i64 r.r2, .int .i64 r.r3, .int .i64 r.r4, .int .i64 r.fine, .int .i64 r.grace, .int .i64 r.maxFine, .int .i64 r.r8, .int .i64 r.r9, .int .i64 r.r10, .int .i64 r.r11, .int .i64 r.r12] := rfl
def isDay (n : Int) : Bool := decide (0 ≤ n) && decide (n ≤ 109572)
def isID (n : Int) : Bool := decide (1 ≤ n) && decide (n ≤ 9999)
def wday (n : Int) : Int := if isDay n then n.tmod 7 else -1
def ruleOk (r : Rule) : Bool := decide (0 ≤ r.fine) && decide (r.fine ≤ 1000) && decide (0 ≤ r.grace) && decide (r.grace ≤ 30) && decide (0 ≤ r.maxFine) && decide (r.maxFine ≤ 100000000)
def owedF (p : Int) : Int → List Charge → Int
  | s, [] => s
  | s, c :: l => owedF p (if c.patron = p then IntKind.i64.wrap (s + IntKind.i64.wrap (c.amount - c.paid)) else s) l
def payStep (p r : Int) (c : Charge) : Int := if IntKind.i64.wrap (c.amount - c.paid) < r then IntKind.i64.wrap (c.amount - c.paid) else r
def payF (p : Int) : Int × List Charge → List Charge → Int × List Charge
  | (r, o), [] => (r, o)
  | (r, o), c :: l =>
    if c.patron = p then
      if IntKind.i64.wrap (c.paid + payStep p r c) < c.amount then payF p (IntKind.i64.wrap (r - payStep p r c), o ++ [{ c with paid := IntKind.i64.wrap (c.paid + payStep p r c) }]) l
      else payF p (IntKind.i64.wrap (r - payStep p r c), o) l
    else if c.paid < c.amount then payF p (r, o ++ [c]) l else payF p (r, o) l
def payR (l : List Charge) (p a : Int) : RetT :=
  if a < 1 ∨ 100000000 < a then .tup [encCharges [], .int .i64 0, .int .i64 1]
  else .tup [encCharges (payF p (a, []) l).2, .int .i64 (payF p (a, []) l).1, .int .i64 0]
theorem payR_bad {l : List Charge} {p a : Int} (h : a < 1 ∨ 100000000 < a) : payR l p a = .tup [encCharges [], .int .i64 0, .int .i64 1] := if_pos h
theorem payR_good {l : List Charge} {p a : Int} (h : 1 ≤ a ∧ a ≤ 100000000) : payR l p a = .tup [encCharges (payF p (a, []) l).2, .int .i64 (payF p (a, []) l).1, .int .i64 0] := if_neg (by omega)
def idxG (p : Int → Bool) : Unit → List Int → Int := fun _ _ => 0
def owedG (p : Int) : Int → List Charge → Int
  | s, [] => s
  | s, c :: l => owedG p (if c.patron = p then IntKind.i64.wrap (IntKind.i64.wrap (s + c.amount) - c.paid) else s) l
theorem owedG_eq (p : Int) : ∀ (l : List Charge) (s : Int), owedG p s l = owedF p s l
  | [], s => rfl
  | c :: l, s => by
    have e : IntKind.i64.wrap (IntKind.i64.wrap (s + c.amount) - c.paid) = IntKind.i64.wrap (s + IntKind.i64.wrap (c.amount - c.paid)) := by
      simp only [IntKind.wrap_i64]; omega
    rw [owedG, owedF, e]
    exact owedG_eq p l _
def idxF (p : Int → Bool) : Int → List Int → Int
  | _, [] => -1
  | i, x :: l => if p x then i else idxF p (i + 1) l
theorem idxF_any (p : Int → Bool) : ∀ (l : List Int) (i : Int), 0 ≤ i → decide (0 ≤ idxF p i l) = l.any p
  | [], i, _ => by simp [idxF]
  | x :: l, i, hi => by
    by_cases hp : p x = true
    · simp [idxF, hp, hi]
    · have hp' : p x = false := by simpa using hp
      simp only [idxF, List.any_cons, hp', Bool.false_eq_true, if_false, Bool.false_or]
      exact idxF_any p l (i + 1) (by omega)
def chkC (c : Charge) : Int :=
  if c.id < 1 ∨ 99999 < c.id ∨ c.patron < 1 ∨ 9999 < c.patron ∨ c.item < 1 ∨ 9999 < c.item ∨ isDay c.day = false then 2
  else if c.kind < 1 ∨ 3 < c.kind then 1
  else if c.amount < 1 ∨ 100000000 < c.amount ∨ c.paid < 0 ∨ c.amount ≤ c.paid then 2 else 0
section
variable {x : Charge}
theorem chk2a (h : (((((x.id < 1 ∨ 99999 < x.id) ∨ x.patron < 1) ∨ 9999 < x.patron) ∨ x.item < 1) ∨ 9999 < x.item) ∨ isDay x.day = false) : chkC x = 2 := if_pos (by simpa only [or_assoc] using h)
theorem chkn (h : (((((1 ≤ x.id ∧ x.id ≤ 99999) ∧ 1 ≤ x.patron) ∧ x.patron ≤ 9999) ∧ 1 ≤ x.item) ∧ x.item ≤ 9999) ∧ isDay x.day = true) : ¬ (x.id < 1 ∨ 99999 < x.id ∨ x.patron < 1 ∨ 9999 < x.patron ∨ x.item < 1 ∨ 9999 < x.item ∨ isDay x.day = false) := by
  obtain ⟨h1, h2⟩ := h
  rw [h2]
  simp
  omega
theorem chk1 (h : (((((1 ≤ x.id ∧ x.id ≤ 99999) ∧ 1 ≤ x.patron) ∧ x.patron ≤ 9999) ∧ 1 ≤ x.item) ∧ x.item ≤ 9999) ∧ isDay x.day = true) (h2 : x.kind < 1 ∨ 3 < x.kind) : chkC x = 1 := by
  unfold chkC; rw [if_neg (chkn h), if_pos h2]
theorem chk2b (h : (((((1 ≤ x.id ∧ x.id ≤ 99999) ∧ 1 ≤ x.patron) ∧ x.patron ≤ 9999) ∧ 1 ≤ x.item) ∧ x.item ≤ 9999) ∧ isDay x.day = true) (h2 : 1 ≤ x.kind ∧ x.kind ≤ 3) (h3 : ((x.amount < 1 ∨ 100000000 < x.amount) ∨ x.paid < 0) ∨ x.amount ≤ x.paid) : chkC x = 2 := by
  unfold chkC; rw [if_neg (chkn h), if_neg (by omega), if_pos (by omega)]
theorem chk0 (h : (((((1 ≤ x.id ∧ x.id ≤ 99999) ∧ 1 ≤ x.patron) ∧ x.patron ≤ 9999) ∧ 1 ≤ x.item) ∧ x.item ≤ 9999) ∧ isDay x.day = true) (h2 : 1 ≤ x.kind ∧ x.kind ≤ 3) (h3 : ((1 ≤ x.amount ∧ x.amount ≤ 100000000) ∧ 0 ≤ x.paid) ∧ x.paid < x.amount) : chkC x = 0 := by
  unfold chkC; rw [if_neg (chkn h), if_neg (by omega), if_neg (by omega)]
end
def lowId : Option Int → Int → Bool
  | none, _ => false
  | some p, i => decide (i ≤ p)
def rightF : Option Int → List Charge → Int
  | _, [] => 0
  | pr, c :: l => if lowId pr c.id = true then 7 else if chkC c ≠ 0 then chkC c else rightF (some c.id) l
def rightR (l : List Charge) : Int := if 128 < l.length then 13 else rightF none l
theorem rightR_ok {l : List Charge} (h : (l.length : Int) ≤ 128) : rightR l = rightF none l := if_neg (by omega)
theorem rightR_full {l : List Charge} (h : 128 < (l.length : Int)) : rightR l = 13 := if_pos (by omega)
def sameF : List Charge → List Charge → Bool := fun r l => decide (l = r)
section
variable {x : Charge}
theorem isID_t {n : Int} : isID n = true ↔ 1 ≤ n ∧ n ≤ 9999 := by simp [isID]
theorem isID_f {n : Int} : isID n = false ↔ n < 1 ∨ 9999 < n := by simp [isID]; omega
theorem chk2c (h : (((x.id < 1 ∨ 99999 < x.id) ∨ isID x.patron = false) ∨ isID x.item = false) ∨ isDay x.day = false) : chkC x = 2 := if_pos (by simp only [isID_f] at h; simpa only [or_assoc] using h)
theorem chkcv (h : (((1 ≤ x.id ∧ x.id ≤ 99999) ∧ isID x.patron = true) ∧ isID x.item = true) ∧ isDay x.day = true) : (((((1 ≤ x.id ∧ x.id ≤ 99999) ∧ 1 ≤ x.patron) ∧ x.patron ≤ 9999) ∧ 1 ≤ x.item) ∧ x.item ≤ 9999) ∧ isDay x.day = true := by
  simp only [isID_t] at h; simpa only [and_assoc] using h
theorem chk1c (h : (((1 ≤ x.id ∧ x.id ≤ 99999) ∧ isID x.patron = true) ∧ isID x.item = true) ∧ isDay x.day = true) (h2 : x.kind < 1 ∨ 3 < x.kind) : chkC x = 1 := chk1 (chkcv h) h2
theorem chk2d (h : (((1 ≤ x.id ∧ x.id ≤ 99999) ∧ isID x.patron = true) ∧ isID x.item = true) ∧ isDay x.day = true) (h2 : 1 ≤ x.kind ∧ x.kind ≤ 3) (h3 : ((x.amount < 1 ∨ 100000000 < x.amount) ∨ x.paid < 0) ∨ x.amount ≤ x.paid) : chkC x = 2 := chk2b (chkcv h) h2 h3
theorem chk0c (h : (((1 ≤ x.id ∧ x.id ≤ 99999) ∧ isID x.patron = true) ∧ isID x.item = true) ∧ isDay x.day = true) (h2 : 1 ≤ x.kind ∧ x.kind ≤ 3) (h3 : ((1 ≤ x.amount ∧ x.amount ≤ 100000000) ∧ 0 ≤ x.paid) ∧ x.paid < x.amount) : chkC x = 0 := chk0 (chkcv h) h2 h3
end
def remF (p : Charge → Bool) : List Charge × Int × Int → List Charge → List Charge × Int × Int
  | (o, q, n), [] => (o, q, n)
  | (o, q, n), c :: l => if p c = true then remF p (o, IntKind.i64.wrap (q + c.paid), IntKind.i64.wrap (n + 1)) l else remF p (o ++ [c], q, n) l
def remR (l : List Charge) (p : Charge → Bool) : RetT := .tup [encCharges (remF p ([], 0, 0) l).1, .int .i64 (remF p ([], 0, 0) l).2.1, .int .i64 (remF p ([], 0, 0) l).2.2]
def refP (p i k : Int) (c : Charge) : Bool := (c.patron == p && c.item == i) && (k == 0 || c.kind == k)
def waiveR (l : List Charge) (i : Int) : RetT :=
  if (remF (fun c => c.id == i) ([], 0, 0) l).2.2 = 0 then .tup [encCharges [], .int .i64 0, .int .i64 9]
  else .tup [encCharges (remF (fun c => c.id == i) ([], 0, 0) l).1, .int .i64 (remF (fun c => c.id == i) ([], 0, 0) l).2.1, .int .i64 0]
theorem waiveR_none {l : List Charge} {i : Int} (h : (remF (fun c => c.id == i) ([], 0, 0) l).2.2 = 0) : waiveR l i = .tup [encCharges [], .int .i64 0, .int .i64 9] := if_pos h
theorem waiveR_some {l : List Charge} {i : Int} (h : ¬ (remF (fun c => c.id == i) ([], 0, 0) l).2.2 = 0) : waiveR l i = .tup [encCharges (remF (fun c => c.id == i) ([], 0, 0) l).1, .int .i64 (remF (fun c => c.id == i) ([], 0, 0) l).2.1, .int .i64 0] := if_neg h
def refundR (l : List Charge) (p i k : Int) : RetT := .tup [encCharges (remF (refP p i k) ([], 0, 0) l).1, .int .i64 (remF (refP p i k) ([], 0, 0) l).2.1]
def wvF (i : Int) : List Charge × Int → List Charge → List Charge × Int
  | (o, q), [] => (o, q)
  | (o, q), c :: l => if c.id = i then wvF i (o, c.paid) l else wvF i (o ++ [c], q) l
def wvR (l : List Charge) (i : Int) : RetT :=
  if (wvF i ([], -1) l).2 < 0 then .tup [encCharges [], .int .i64 0, .int .i64 9] else .tup [encCharges (wvF i ([], -1) l).1, .int .i64 (wvF i ([], -1) l).2, .int .i64 0]
theorem wvR_none {l : List Charge} {i : Int} (h : (wvF i ([], -1) l).2 < 0) : wvR l i = .tup [encCharges [], .int .i64 0, .int .i64 9] := if_pos h
theorem wvR_some {l : List Charge} {i : Int} (h : 0 ≤ (wvF i ([], -1) l).2) : wvR l i = .tup [encCharges (wvF i ([], -1) l).1, .int .i64 (wvF i ([], -1) l).2, .int .i64 0] := if_neg (by omega)
def rfF (p i k : Int) : List Charge × Int → List Charge → List Charge × Int
  | (o, q), [] => (o, q)
  | (o, q), c :: l => if refP p i k c = true then rfF p i k (o, IntKind.i64.wrap (q + c.paid)) l else rfF p i k (o ++ [c], q) l
def rfR (l : List Charge) (p i k : Int) : RetT := .tup [encCharges (rfF p i k ([], 0) l).1, .int .i64 (rfF p i k ([], 0) l).2]
def ascF : Option Int → List Int → Int
  | _, [] => 0
  | pr, x :: l => if lowId pr x = true then 7 else ascF (some x) l
def calR (c : Cal) : Int := if c.week < 0 ∨ 127 ≤ c.week then 1 else if 64 < (c.closed.length : Int) then 13 else if c.closed.any (fun n => !isDay n) = true then 2 else ascF none c.closed
theorem cal_len {c : Cal} (h : D.Ok (encCal c)) : c.closed.length ≤ 9223372036854775807 := by
  have := (Ok_slice (Ok_agg h (encInts c.closed) (by simp))).1
  simpa using this
section
variable {c : Cal}
theorem cal1 (h : c.week < 0 ∨ 127 ≤ c.week) : calR c = 1 := if_pos h
theorem cal13 (h : 0 ≤ c.week ∧ c.week < 127) (h2 : 64 < (c.closed.length : Int)) : calR c = 13 := by unfold calR; rw [if_neg (by omega), if_pos h2]
theorem cal2 (h : 0 ≤ c.week ∧ c.week < 127) (h2 : (c.closed.length : Int) ≤ 64) (h3 : ∃ x ∈ c.closed, isDay x = false) : calR c = 2 := by
  unfold calR; rw [if_neg (by omega), if_neg (by omega), if_pos (by simpa using h3)]
theorem calA (h : 0 ≤ c.week ∧ c.week < 127) (h2 : (c.closed.length : Int) ≤ 64) (h3 : ∀ x ∈ c.closed, isDay x = true) : calR c = ascF none c.closed := by
  unfold calR; rw [if_neg (by omega), if_neg (by omega), if_neg (by simpa using h3)]
end
def fst7 (w : Int) : Int := (IntKind.i64.wrap (IntKind.i64.wrap (w - wday 0) + 7)).tmod 7
def upToW (d w : Int) : Int := if d < fst7 w then 0 else IntKind.i64.wrap (IntKind.i64.wrap ((IntKind.i64.wrap (d - fst7 w)).tdiv 7) + 1)
theorem upToW_lt {d w : Int} (h : d < fst7 w) : upToW d w = 0 := if_pos h
theorem upToW_ge {d w : Int} (h : fst7 w ≤ d) : upToW d w = IntKind.i64.wrap (IntKind.i64.wrap ((IntKind.i64.wrap (d - fst7 w)).tdiv 7) + 1) := if_neg (by omega)
def wkB (w : Int) (i : Nat) : Bool := bits BinOp.and IntKind.i64 (w.fdiv (2 ^ min i IntKind.i64.bits)) 1 == 0
def weekL (w : Int) : List D := [.bool (wkB w 0), .bool (wkB w 1), .bool (wkB w 2), .bool (wkB w 3), .bool (wkB w 4), .bool (wkB w 5), .bool (wkB w 6)]
@[simp] theorem weekL_length (w : Int) : (weekL w).length = 7 := rfl
@[simp] theorem weekL_getD (w : Int) (i : Nat) : (weekL w)[i]?.getD (D.bool false) = D.bool (decide (i < 7) && wkB w i) := by
  by_cases h : i < 7
  · have : i = 0 ∨ i = 1 ∨ i = 2 ∨ i = 3 ∨ i = 4 ∨ i = 5 ∨ i = 6 := by omega
    rcases this with rfl | rfl | rfl | rfl | rfl | rfl | rfl <;> simp [weekL]
  · rw [List.getElem?_eq_none (by simp; omega)]
    simp [h]
@[simp] theorem weekL_ld (w : Int) : List.take 7 (List.map (C.dat ∘ C.d) (weekL w)) = weekL w := rfl
def cnt7 (w lo hi : Int) : Nat → Int
  | 0 => 0
  | k + 1 => if wkB w k = true then IntKind.i64.wrap (cnt7 w lo hi k + IntKind.i64.wrap (upToW hi k - upToW (IntKind.i64.wrap (lo - 1)) k)) else cnt7 w lo hi k
@[simp] theorem cnt7_zero {w lo hi : Int} : cnt7 w lo hi 0 = 0 := rfl
theorem wday_rng {d : Int} (h0 : 0 ≤ d) (h1 : d ≤ 109572) : 0 ≤ wday d ∧ wday d < 7 := by
  have e : wday d = d % 7 := by
    unfold wday isDay
    rw [if_pos (by simp [h0, h1]), Int.tmod_eq_emod_of_nonneg h0]
  rw [e]; omega
def cntIn (w lo hi d : Int) : Bool := (decide (lo ≤ d) && decide (d ≤ hi)) && (decide (wday d < 7) && wkB w (wday d).toNat)
def cntG (w lo hi : Int) : Int → List Int → Int
  | n, [] => n
  | n, d :: l => if cntIn w lo hi d = true then cntG w lo hi (IntKind.i64.wrap (n - 1)) l else cntG w lo hi n l
def countR (c : Cal) (f t : Int) : Int :=
  if (if 109572 < t then 109572 else t) < (if f < 0 then 0 else f) then 0
  else cntG c.week (if f < 0 then 0 else f) (if 109572 < t then 109572 else t) (cnt7 c.week (if f < 0 then 0 else f) (if 109572 < t then 109572 else t) 7) c.closed
theorem countR_ge {c : Cal} {f t lo hi : Int} (h1 : (if f < 0 then 0 else f) = lo) (h2 : (if 109572 < t then 109572 else t) = hi) (h : lo ≤ hi) : countR c f t = cntG c.week lo hi (cnt7 c.week lo hi 7) c.closed := by
  unfold countR; rw [h1, h2, if_neg (by omega)]
def lateR (r : Rule) (c : Cal) (d b : Int) : Int :=
  if (¬ calR c = 0 ∨ isDay d = false) ∨ isDay b = false then 0
  else if countR c (IntKind.i64.wrap (d + 1)) b ≤ r.grace then 0
  else if r.maxFine < IntKind.i64.wrap (countR c (IntKind.i64.wrap (d + 1)) b * r.fine) then r.maxFine else IntKind.i64.wrap (countR c (IntKind.i64.wrap (d + 1)) b * r.fine)
section
variable {r : Rule} {c : Cal} {d b : Int}
theorem lateR_bad (h : (¬ calR c = 0 ∨ isDay d = false) ∨ isDay b = false) : lateR r c d b = 0 := if_pos h
theorem lateN (h : (calR c = 0 ∧ isDay d = true) ∧ isDay b = true) : ¬ ((¬ calR c = 0 ∨ isDay d = false) ∨ isDay b = false) := by simp [h.1.1, h.1.2, h.2]
theorem lateR_gr (h : (calR c = 0 ∧ isDay d = true) ∧ isDay b = true) (h2 : countR c (IntKind.i64.wrap (d + 1)) b ≤ r.grace) : lateR r c d b = 0 := by
  unfold lateR; rw [if_neg (lateN h), if_pos h2]
theorem lateR_ok (h : (calR c = 0 ∧ isDay d = true) ∧ isDay b = true) (h2 : r.grace < countR c (IntKind.i64.wrap (d + 1)) b) :
    lateR r c d b = if r.maxFine < IntKind.i64.wrap (countR c (IntKind.i64.wrap (d + 1)) b * r.fine) then r.maxFine else IntKind.i64.wrap (countR c (IntKind.i64.wrap (d + 1)) b * r.fine) := by
  unfold lateR; rw [if_neg (lateN h), if_neg (by omega)]
end
def r0 : Rule := ⟨0, 0, 0, 0, 0, 20, 1, 100, 0, 0, 0, 0, 0⟩
def c0 : Cal := ⟨0, []⟩
def l0 : List Charge := [⟨1, 5, 3, 9, 1, 300, 100⟩, ⟨2, 5, 4, 9, 3, 50, 0⟩]
def payO (l : List Charge) (p a : Int) : List Charge := if a < 1 ∨ 100000000 < a then [] else (payF p (a, []) l).2
def payX (l : List Charge) (p a : Int) : Int := if a < 1 ∨ 100000000 < a then 0 else (payF p (a, []) l).1
def payE (_ : List Charge) (_ a : Int) : Int := if a < 1 ∨ 100000000 < a then 1 else 0
theorem payR_tup (l : List Charge) (p a : Int) : payR l p a = .tup [encCharges (payO l p a), .int .i64 (payX l p a), .int .i64 (payE l p a)] := by
  unfold payR payO payX payE
  split <;> rfl
theorem rightF_cons {pr : Option Int} {c : Charge} {l : List Charge} (h : rightF pr (c :: l) = 0) : lowId pr c.id = false ∧ chkC c = 0 ∧ rightF (some c.id) l = 0 := by
  simp only [rightF] at h
  split at h
  · exact absurd h (by decide)
  · rename_i h1
    split at h
    · rename_i h2; exact absurd h h2
    · rename_i h2
      exact ⟨by simpa using h1, by simpa using h2, h⟩
theorem rightF_gt : ∀ (l : List Charge) (m : Int), rightF (some m) l = 0 → ∀ c ∈ l, m < c.id
  | [], _, _, c, hc => by simp at hc
  | x :: l, m, h, c, hc => by
    obtain ⟨h1, _, h3⟩ := rightF_cons h
    have hx : m < x.id := by simpa [lowId] using h1
    rcases List.mem_cons.1 hc with rfl | hc
    · exact hx
    · have := rightF_gt l x.id h3 c hc; omega
theorem chk0_facts {x : Charge} (h : chkC x = 0) : 1 ≤ x.id ∧ x.id ≤ 99999 ∧ 1 ≤ x.amount ∧ x.amount ≤ 100000000 ∧ 0 ≤ x.paid ∧ x.paid < x.amount := by
  unfold chkC at h
  split at h
  · exact absurd h (by decide)
  · split at h
    · exact absurd h (by decide)
    · split at h
      · exact absurd h (by decide)
      · rename_i h1 h2 h3
        have : ¬ (x.id < 1 ∨ 99999 < x.id) := fun hh => h1 (by rcases hh with hh | hh <;> simp [hh])
        omega
theorem rem_none {i : Int} : ∀ (l : List Charge) (o : List Charge) (q n : Int), (∀ c ∈ l, c.id ≠ i) → remF (fun c => c.id == i) (o, q, n) l = (o ++ l, q, n)
  | [], o, q, n, _ => by simp [remF]
  | c :: l, o, q, n, h => by
    have hc : ¬ (c.id = i) := h c (by simp)
    simp only [remF, beq_iff_eq, hc, if_false]
    rw [rem_none l _ q n (fun c' h' => h c' (by simp [h']))]; simp
theorem wv_none {i : Int} : ∀ (l : List Charge) (o : List Charge) (q : Int), (∀ c ∈ l, c.id ≠ i) → wvF i (o, q) l = (o ++ l, q)
  | [], o, q, _ => by simp [wvF]
  | c :: l, o, q, h => by
    have hc : ¬ (c.id = i) := h c (by simp)
    simp only [wvF, hc, if_false]
    rw [wv_none l _ q (fun c' h' => h c' (by simp [h']))]; simp
theorem rem_wv {i : Int} : ∀ (l : List Charge) (pr : Option Int) (o : List Charge), rightF pr l = 0 →
    (∃ x, remF (fun c => c.id == i) (o, 0, 0) l = (x, 0, 0) ∧ wvF i (o, -1) l = (x, -1)) ∨ ∃ x pd, 0 ≤ pd ∧ remF (fun c => c.id == i) (o, 0, 0) l = (x, pd, 1) ∧ wvF i (o, -1) l = (x, pd)
  | [], _, o, _ => .inl ⟨o, by simp [remF], by simp [wvF]⟩
  | c :: l, pr, o, h => by
    obtain ⟨_, h2, h3⟩ := rightF_cons h
    have hf := chk0_facts h2
    by_cases hc : c.id = i
    · right
      have hno : ∀ c' ∈ l, c'.id ≠ i := fun c' hc' => by have := rightF_gt l c.id h3 c' hc'; omega
      have e1 : IntKind.i64.wrap (0 + c.paid) = c.paid := by rw [wrap_i64] <;> omega
      have e2 : IntKind.i64.wrap (0 + 1) = 1 := by rw [wrap_i64] <;> omega
      refine ⟨o ++ l, c.paid, hf.2.2.2.2.1, ?_, ?_⟩
      · simp only [remF, beq_iff_eq, hc, if_true, e1, e2]
        exact rem_none l o _ _ hno
      · simp only [wvF, hc, if_true]
        exact wv_none l o _ hno
    · simp only [remF, wvF, beq_iff_eq, hc, if_false]
      exact rem_wv l (some c.id) (o ++ [c]) h3
theorem wvR_eq {l : List Charge} {i : Int} (h : rightR l = 0) : wvR l i = waiveR l i := by
  have h' : rightF none l = 0 := by
    unfold rightR at h
    split at h
    · exact absurd h (by decide)
    · exact h
  rcases rem_wv (i := i) l none [] h' with ⟨x, h1, h2⟩ | ⟨x, pd, h0, h1, h2⟩
  · unfold wvR waiveR; rw [h1, h2]; simp
  · unfold wvR waiveR; rw [h1, h2]; simp; omega
def wO (l : List Charge) (i : Int) : List Charge := if (remF (fun c => c.id == i) ([], 0, 0) l).2.2 = 0 then [] else (remF (fun c => c.id == i) ([], 0, 0) l).1
def wX (l : List Charge) (i : Int) : Int := if (remF (fun c => c.id == i) ([], 0, 0) l).2.2 = 0 then 0 else (remF (fun c => c.id == i) ([], 0, 0) l).2.1
def wE (l : List Charge) (i : Int) : Int := if (remF (fun c => c.id == i) ([], 0, 0) l).2.2 = 0 then 9 else 0
theorem waiveR_tup (l : List Charge) (i : Int) : waiveR l i = .tup [encCharges (wO l i), .int .i64 (wX l i), .int .i64 (wE l i)] := by
  unfold waiveR wO wX wE; split <;> rfl
theorem rf_rem {p i k : Int} : ∀ (l : List Charge) (o : List Charge) (q n : Int), (rfF p i k (o, q) l).1 = (remF (refP p i k) (o, q, n) l).1 ∧ (rfF p i k (o, q) l).2 = (remF (refP p i k) (o, q, n) l).2.1
  | [], o, q, n => ⟨rfl, rfl⟩
  | c :: l, o, q, n => by
    simp only [rfF, remF]
    split
    · exact rf_rem l o _ _
    · exact rf_rem l _ q n
def addR (l : List Charge) (c : Charge) : RetT := if rightR (l ++ [c]) = 0 then .tup [encCharges (l ++ [c]), .int .i64 0] else .tup [encCharges [], .int .i64 (rightR (l ++ [c]))]
theorem addR_bad {l : List Charge} {c : Charge} (h : ¬ rightR (l ++ [c]) = 0) : addR l c = .tup [encCharges [], .int .i64 (rightR (l ++ [c]))] := if_neg h
theorem addR_ok {l : List Charge} {c : Charge} (h : rightR (l ++ [c]) = 0) : addR l c = .tup [encCharges (l ++ [c]), .int .i64 0] := if_pos h
def copyF (o l : List Charge) : List Charge := o ++ l
def addO (l : List Charge) (c : Charge) : List Charge := if rightR (l ++ [c]) = 0 then l ++ [c] else []
theorem addR_tup (l : List Charge) (c : Charge) : addR l c = .tup [encCharges (addO l c), .int .i64 (rightR (l ++ [c]))] := by
  unfold addR addO
  split
  · rename_i h; rw [h]
  · rfl
def hv : Nat → Int → Int
  | 0, w => w
  | k + 1, w => IntKind.i64.wrap ((hv k w).tdiv 2)
@[simp] theorem hv_zero {w : Int} : hv 0 w = w := rfl
def anyF (d : Int) : Unit → List Int → Bool
  | _, [] => true
  | _, x :: l => if x = d then false else anyF d () l
def openR (c : Cal) (d : Int) : Bool := if d < 0 ∨ 109572 < d then false else if (hv (wday d).toNat c.week).tmod 2 = 1 then false else anyF d () c.closed
section
variable {c : Cal} {d : Int}
theorem openR_out (h : d < 0 ∨ 109572 < d) : openR c d = false := if_pos h
theorem openR_week (h : 0 ≤ d ∧ d ≤ 109572) (h2 : (hv (wday d).toNat c.week).tmod 2 = 1) : openR c d = false := by unfold openR; rw [if_neg (by omega), if_pos h2]
theorem openR_in (h : 0 ≤ d ∧ d ≤ 109572) (h2 : ¬ (hv (wday d).toNat c.week).tmod 2 = 1) : openR c d = anyF d () c.closed := by unfold openR; rw [if_neg (by omega), if_neg h2]
end
def cntN (c : Cal) : Nat → Int → Int → Int
  | 0, _, n => n
  | k + 1, d, n => cntN c k (d + 1) (if openR c d = true then IntKind.i64.wrap (n + 1) else n)
def countD (c : Cal) (f t : Int) : Int := cntN c ((if 109572 < t then 109572 else t) + 1 - (if f < 0 then 0 else f)).toNat (if f < 0 then 0 else f) 0
theorem countD_eq {c : Cal} {f t lo hi : Int} (h1 : (if f < 0 then 0 else f) = lo) (h2 : (if 109572 < t then 109572 else t) = hi) : countD c f t = cntN c (hi + 1 - lo).toNat lo 0 := by
  unfold countD; rw [h1, h2]
def badF : Unit → List Int → Bool
  | _, [] => false
  | _, x :: l => if isDay x = false then true else badF () l
theorem badF_any : ∀ l : List Int, badF () l = l.any (fun n => !isDay n)
  | [] => rfl
  | x :: l => by
    simp only [badF, List.any_cons, badF_any l]
    cases h : isDay x <;> simp
theorem asc_tail : ∀ l : List Int, ascF none l = ascF l.head? l.tail
  | [] => rfl
  | x :: l => by simp [ascF, lowId]
theorem cal2b {c : Cal} (h : 0 ≤ c.week ∧ c.week < 127) (h2 : (c.closed.length : Int) ≤ 64) (h3 : badF () c.closed = true) : calR c = 2 := by
  rw [badF_any] at h3
  unfold calR; rw [if_neg (by omega), if_neg (by omega), if_pos h3]
theorem calAb {c : Cal} (h : 0 ≤ c.week ∧ c.week < 127) (h2 : (c.closed.length : Int) ≤ 64) (h3 : badF () c.closed = false) : calR c = ascF c.closed.head? c.closed.tail := by
  rw [badF_any] at h3
  unfold calR; rw [if_neg (by omega), if_neg (by omega), if_neg (by simp [h3]), asc_tail]
end Pl

/- Calendars: the count by weeks is the count by days. No conditions beyond those at each theorem. -/
namespace Pl
open Go Ab
set_option linter.unusedVariables false
set_option linter.unusedSimpArgs false

def b2i (b : Bool) : Int := if b = true then 1 else 0
theorem b2i_rng (b : Bool) : 0 ≤ b2i b ∧ b2i b ≤ 1 := by cases b <;> simp [b2i]
/-- how many days of [d, d+k) satisfy p -/
def cdays (p : Int → Bool) (d : Int) : Nat → Int
  | 0 => 0
  | k + 1 => cdays p d k + b2i (p (d + k))
theorem cdays_rng (p : Int → Bool) (d : Int) : ∀ k : Nat, 0 ≤ cdays p d k ∧ cdays p d k ≤ k
  | 0 => by simp [cdays]
  | k + 1 => by have := cdays_rng p d k; have := b2i_rng (p (d + k)); simp only [cdays]; omega
theorem cdays_cons (p : Int → Bool) (d : Int) : ∀ k : Nat, cdays p d (k + 1) = b2i (p d) + cdays p (d + 1) k
  | 0 => by simp [cdays]
  | k + 1 => by
    have h := cdays_cons p d k
    rw [cdays, h]
    simp only [cdays]
    have e : d + ((k + 1 : Nat) : Int) = d + 1 + (k : Int) := by omega
    rw [e]; omega
theorem cdays_add (p : Int → Bool) (d : Int) (m : Nat) : ∀ k : Nat, cdays p d (m + k) = cdays p d m + cdays p (d + m) k
  | 0 => by simp [cdays]
  | k + 1 => by
    rw [← Nat.add_assoc]; simp only [cdays]; rw [cdays_add p d m k]
    have e : d + ((m + k : Nat) : Int) = d + m + (k : Int) := by omega
    rw [e]; omega
theorem cdays_congr {p q : Int → Bool} {d : Int} : ∀ k : Nat, (∀ i : Nat, i < k → p (d + i) = q (d + i)) → cdays p d k = cdays q d k
  | 0, _ => rfl
  | k + 1, h => by simp only [cdays]; rw [cdays_congr k (fun i hi => h i (by omega)), h k (by omega)]

theorem cntN_eq (c : Cal) : ∀ (k : Nat) (d n : Int), 0 ≤ n → n + k ≤ 1000000 → cntN c k d n = n + cdays (openR c) d k
  | 0, d, n, _, _ => by simp [cntN, cdays]
  | k + 1, d, n, h0, h1 => by
    rw [cntN, cdays_cons]
    have e : IntKind.i64.wrap (n + 1) = n + 1 := wrap_i64 (by omega) (by omega)
    by_cases ho : openR c d = true
    · rw [if_pos ho, e, cntN_eq c k _ _ (by omega) (by omega)]; simp [b2i, ho]; omega
    · rw [if_neg ho, cntN_eq c k _ _ (by omega) (by omega)]; simp [b2i, ho]

def lo0 (f : Int) : Int := if f < 0 then 0 else f
def hi0 (t : Int) : Int := if 109572 < t then 109572 else t
theorem lo0_rng (f : Int) : 0 ≤ lo0 f ∧ f ≤ lo0 f := by unfold lo0; split <;> omega
theorem hi0_rng (t : Int) : hi0 t ≤ 109572 ∧ hi0 t ≤ t := by unfold hi0; split <;> omega
/-- the open days from f to t -/
def cnt (c : Cal) (f t : Int) : Int := cdays (openR c) (lo0 f) (hi0 t + 1 - lo0 f).toNat
theorem countD_cnt (c : Cal) (f t : Int) : countD c f t = cnt c f t := by
  have h1 := lo0_rng f; have h2 := hi0_rng t
  have e : countD c f t = cntN c (hi0 t + 1 - lo0 f).toNat (lo0 f) 0 := rfl
  rw [e, cntN_eq c _ _ _ (by omega) (by omega), Int.zero_add]; rfl

theorem wk_hv : ∀ (n : Fin 127) (k : Fin 7), wkB (n.val : Int) k.val = !(decide ((hv k.val (n.val : Int)).tmod 2 = 1)) := by decide +kernel
theorem wkB_eq {w : Int} (h0 : 0 ≤ w) (h1 : w < 127) {k : Nat} (hk : k < 7) : wkB w k = !(decide ((hv k w).tmod 2 = 1)) := by
  have := wk_hv ⟨w.toNat, by omega⟩ ⟨k, hk⟩
  have e : ((w.toNat : Nat) : Int) = w := Int.toNat_of_nonneg h0
  simpa only [e] using this
theorem wday_eq {d : Int} (h0 : 0 ≤ d) (h1 : d ≤ 109572) : wday d = d % 7 := by
  unfold wday isDay
  rw [if_pos (by simp [h0, h1]), Int.tmod_eq_emod_of_nonneg h0]
theorem anyF_eq (d : Int) : ∀ l : List Int, anyF d () l = !(decide (d ∈ l))
  | [] => by simp [anyF]
  | x :: l => by
    by_cases h : x = d
    · subst h; simp [anyF]
    · have h' : ¬ d = x := fun e => h e.symm
      simp [anyF, h, h', anyF_eq d l]
/-- the day of the week is open -/
def wkO (c : Cal) (d : Int) : Bool := wkB c.week (d % 7).toNat
theorem calR_facts {c : Cal} (h : calR c = 0) : 0 ≤ c.week ∧ c.week < 127 ∧ c.closed.length ≤ 64 ∧ (∀ x ∈ c.closed, 0 ≤ x ∧ x ≤ 109572) ∧ ascF none c.closed = 0 := by
  unfold calR at h
  split at h
  · exact absurd h (by decide)
  · split at h
    · exact absurd h (by decide)
    · split at h
      · exact absurd h (by decide)
      · rename_i h1 h2 h3
        refine ⟨by omega, by omega, by omega, fun x hx => ?_, h⟩
        simp only [List.any_eq_true, not_exists, not_and] at h3
        have := h3 x hx
        simp [isDay] at this
        exact this
theorem openR_eq {c : Cal} (h : calR c = 0) {d : Int} (h0 : 0 ≤ d) (h1 : d ≤ 109572) : openR c d = (wkO c d && !(decide (d ∈ c.closed))) := by
  obtain ⟨a1, a2, _⟩ := calR_facts h
  unfold openR
  rw [if_neg (by omega), wday_eq h0 h1, anyF_eq]
  unfold wkO
  rw [wkB_eq a1 a2 (by omega)]
  by_cases hh : (hv (d % 7).toNat c.week).tmod 2 = 1
  · simp [hh]
  · simp [hh]
theorem openR_day {c : Cal} {d : Int} (h : openR c d = true) : 0 ≤ d ∧ d ≤ 109572 := by
  unfold openR at h
  split at h
  · cases h
  · omega
/-- ascending lists have no member twice -/
theorem ascF_gt : ∀ (l : List Int) (m : Int), ascF (some m) l = 0 → ∀ x ∈ l, m < x
  | [], _, _, x, hx => by simp at hx
  | y :: l, m, h, x, hx => by
    simp only [ascF] at h
    split at h
    · exact absurd h (by decide)
    · rename_i h1
      have hy : m < y := by simpa [lowId] using h1
      rcases List.mem_cons.1 hx with rfl | hx
      · exact hy
      · have := ascF_gt l y h x hx; omega
theorem ascF_nodup : ∀ (l : List Int) (p : Option Int), ascF p l = 0 → l.Nodup
  | [], _, _ => List.nodup_nil
  | y :: l, p, h => by
    simp only [ascF] at h
    split at h
    · exact absurd h (by decide)
    · refine List.nodup_cons.2 ⟨fun hy => ?_, ascF_nodup l _ h⟩
      have := ascF_gt l y h y hy; omega

/-- days from 0 to a day with a weekday, without wrapping -/
def upz (d k : Int) : Int := if d < k then 0 else (d - k) / 7 + 1
theorem fst7_eq {k : Int} (h0 : 0 ≤ k) (h1 : k < 7) : fst7 k = k := by
  have e0 : wday 0 = 0 := by decide
  unfold fst7
  rw [e0]
  rw [wrap_i64 (n := k - 0) (by omega) (by omega), wrap_i64 (by omega) (by omega), Int.tmod_eq_emod_of_nonneg (by omega)]
  omega
theorem upToW_eq {d k : Int} (h0 : 0 ≤ k) (h1 : k < 7) (hd : -1 ≤ d) (hd2 : d ≤ 109572) : upToW d k = upz d k := by
  unfold upToW upz
  rw [fst7_eq h0 h1]
  by_cases h : d < k
  · rw [if_pos h, if_pos h]
  · rw [if_neg h, if_neg h]
    rw [wrap_i64 (n := d - k) (by omega) (by omega), Int.tdiv_eq_ediv_of_nonneg (by omega), wrap_i64 (n := (d - k) / 7) (by omega) (by omega), wrap_i64 (by omega) (by omega)]
theorem upz_step {d k : Int} (h0 : 0 ≤ k) (h1 : k < 7) (hd : -1 ≤ d) : upz (d + 1) k = upz d k + (if (d + 1) % 7 = k then 1 else 0) := by
  unfold upz
  split <;> split <;> split <;> omega
/-- the count of weekdays below k, without wrapping -/
def c7 (w lo hi : Int) : Nat → Int
  | 0 => 0
  | k + 1 => c7 w lo hi k + b2i (wkB w k) * (upz hi k - upz (lo - 1) k)
theorem upz_rng {lo hi k : Int} (h0 : 0 ≤ k) (h1 : k < 7) (hl : -1 ≤ lo) (hh : lo ≤ hi) : upz lo k ≤ upz hi k ∧ upz hi k - upz lo k ≤ hi - lo := by
  unfold upz; split <;> split <;> omega
theorem c7_rng {w lo hi : Int} (hl : 0 ≤ lo) (hh : lo - 1 ≤ hi) : ∀ k : Nat, k ≤ 7 → 0 ≤ c7 w lo hi k ∧ c7 w lo hi k ≤ k * (hi + 1 - lo)
  | 0, _ => by simp [c7]
  | k + 1, hk => by
    have := c7_rng (w := w) hl hh k (by omega)
    have := upz_rng (lo := lo - 1) (hi := hi) (k := k) (by omega) (by omega) (by omega) hh
    have e : ((k + 1 : Nat) : Int) * (hi + 1 - lo) = k * (hi + 1 - lo) + (hi + 1 - lo) := by
      rw [Int.natCast_add, Int.add_mul]; simp
    simp only [c7]
    rw [e]
    unfold b2i
    split <;> omega
theorem cnt7_eq {w lo hi : Int} (hl : 0 ≤ lo) (hh : lo - 1 ≤ hi) (hh2 : hi ≤ 109572) : ∀ k : Nat, k ≤ 7 → cnt7 w lo hi k = c7 w lo hi k
  | 0, _ => rfl
  | k + 1, hk => by
    have hr := c7_rng (w := w) hl hh k (by omega)
    have hu := upz_rng (lo := lo - 1) (hi := hi) (k := k) (by omega) (by omega) (by omega) hh
    have hm : (k : Int) * (hi + 1 - lo) ≤ 7 * (hi + 1 - lo) := Int.mul_le_mul_of_nonneg_right (by omega) (by omega)
    simp only [cnt7, c7]
    rw [cnt7_eq hl hh hh2 k (by omega), wrap_i64 (n := lo - 1) (by omega) (by omega), upToW_eq (by omega) (by omega) (by omega) hh2, upToW_eq (by omega) (by omega) (by omega) (by omega)]
    unfold b2i
    split
    · rw [wrap_i64 (n := upz hi k - upz (lo - 1) k) (by omega) (by omega), wrap_i64 (by omega) (by omega)]; omega
    · omega
theorem c7_step {w lo hi : Int} (hh : -1 ≤ hi) : ∀ k : Nat, k ≤ 7 → c7 w lo (hi + 1) k = c7 w lo hi k + (if (hi + 1) % 7 < k then b2i (wkB w ((hi + 1) % 7).toNat) else 0)
  | 0, _ => by
    simp only [c7]
    rw [if_neg (by omega)]; rfl
  | k + 1, hk => by
    simp only [c7]
    rw [c7_step hh k (by omega), upz_step (by omega) (by omega) hh]
    by_cases he : (hi + 1) % 7 = (k : Int)
    · rw [he, if_pos rfl, if_neg (by omega), if_pos (by omega)]
      have : ((k : Int)).toNat = k := by omega
      rw [this]
      unfold b2i; split <;> omega
    · rw [if_neg he]
      by_cases h2 : (hi + 1) % 7 < (k : Int)
      · rw [if_pos h2, if_pos (by omega)]; simp; omega
      · rw [if_neg h2, if_neg (by omega)]; simp
/-- closed days between lo and hi that would be open -/
def ccl (w lo hi : Int) : List Int → Int
  | [] => 0
  | d :: l => b2i (decide (lo ≤ d) && decide (d ≤ hi) && wkB w (d % 7).toNat) + ccl w lo hi l
theorem ccl_rng (w lo hi : Int) : ∀ l : List Int, 0 ≤ ccl w lo hi l ∧ ccl w lo hi l ≤ l.length
  | [] => by simp [ccl]
  | d :: l => by
    have := ccl_rng w lo hi l; have := b2i_rng (decide (lo ≤ d) && decide (d ≤ hi) && wkB w (d % 7).toNat)
    simp only [ccl, List.length_cons]; omega
theorem cntG_eq {w lo hi : Int} : ∀ (l : List Int) (n : Int), (∀ x ∈ l, 0 ≤ x ∧ x ≤ 109572) → -1000000 + l.length ≤ n → n ≤ 1000000 → cntG w lo hi n l = n - ccl w lo hi l
  | [], n, _, _, _ => by simp [cntG, ccl]
  | d :: l, n, hd, h1, h2 => by
    have hx := hd d (by simp)
    have hl : ∀ x ∈ l, 0 ≤ x ∧ x ≤ 109572 := fun x h => hd x (by simp [h])
    have e : cntIn w lo hi d = (decide (lo ≤ d) && decide (d ≤ hi) && wkB w (d % 7).toNat) := by
      unfold cntIn
      rw [wday_eq hx.1 hx.2]
      have : d % 7 < 7 := by omega
      simp [this]
    simp only [List.length_cons] at h1
    simp only [cntG, ccl]
    rw [e]
    split
    · rename_i h
      rw [wrap_i64 (by omega) (by omega), cntG_eq l _ hl (by omega) (by omega), h]
      simp [b2i]; omega
    · rename_i h
      rw [cntG_eq l _ hl (by omega) (by omega)]
      simp only [Bool.not_eq_true] at h
      rw [h]; simp [b2i]
theorem ccl_step {w lo hi : Int} (hl : lo ≤ hi + 1) : ∀ l : List Int, l.Nodup → ccl w lo (hi + 1) l = ccl w lo hi l + (if hi + 1 ∈ l then b2i (wkB w ((hi + 1) % 7).toNat) else 0)
  | [], _ => by simp [ccl]
  | d :: l, hn => by
    obtain ⟨h1, h2⟩ := List.nodup_cons.1 hn
    simp only [ccl]
    rw [ccl_step hl l h2]
    by_cases hd : hi + 1 = d
    · subst hd
      rw [if_neg h1, if_pos (by simp)]
      have a1 : decide (lo ≤ hi + 1) = true := by simp [hl]
      have a2 : decide (hi + 1 ≤ hi) = false := by simp; omega
      simp [a1, a2, b2i]; omega
    · have a : decide (d ≤ hi + 1) = decide (d ≤ hi) := by
        by_cases hh : d ≤ hi
        · simp [hh]; omega
        · simp [hh]; omega
      rw [a]
      have : (hi + 1 ∈ d :: l) ↔ (hi + 1 ∈ l) := by simp [hd]
      simp only [this]; omega
theorem ccl_zero {w lo hi : Int} (h : hi < lo) : ∀ l : List Int, ccl w lo hi l = 0
  | [] => rfl
  | d :: l => by
    simp only [ccl]
    rw [ccl_zero h l]
    have : (decide (lo ≤ d) && decide (d ≤ hi)) = false := by
      by_cases hh : lo ≤ d
      · have : ¬ d ≤ hi := by omega
        simp [this]
      · simp [hh]
    simp [this, b2i]
theorem c7_zero {w lo : Int} : ∀ k : Nat, c7 w lo (lo - 1) k = 0
  | 0 => rfl
  | k + 1 => by simp only [c7]; rw [c7_zero k]; simp
/-- THE COUNT by weeks is the count by days. -/
theorem weeks {c : Cal} (h : calR c = 0) {lo : Int} (hl : 0 ≤ lo) : ∀ k : Nat, lo + k ≤ 109573 → c7 c.week lo (lo + k - 1) 7 - ccl c.week lo (lo + k - 1) c.closed = cdays (openR c) lo k
  | 0, _ => by
    have e : lo + ((0 : Nat) : Int) - 1 = lo - 1 := by omega
    rw [e, c7_zero, ccl_zero (by omega)]; rfl
  | k + 1, hk => by
    have ih := weeks h hl k (by omega)
    have e : lo + ((k + 1 : Nat) : Int) - 1 = (lo + k - 1) + 1 := by omega
    obtain ⟨a1, a2, a3, a4, a5⟩ := calR_facts h
    rw [e, c7_step (by omega) 7 (Nat.le_refl _), ccl_step (by omega) _ (ascF_nodup _ _ a5), if_pos (by omega)]
    simp only [cdays]
    rw [← ih]
    have e2 : lo + (k : Int) - 1 + 1 = lo + k := by omega
    rw [e2, openR_eq h (by omega) (by omega)]
    unfold wkO
    by_cases hm : lo + (k : Int) ∈ c.closed
    · simp [hm, b2i]; omega
    · simp [hm]; omega
theorem countR_cnt {c : Cal} (h : calR c = 0) (f t : Int) : countR c f t = cnt c f t := by
  have h1 := lo0_rng f; have h2 := hi0_rng t
  obtain ⟨a1, a2, a3, a4, a5⟩ := calR_facts h
  have e : countR c f t = if hi0 t < lo0 f then 0 else cntG c.week (lo0 f) (hi0 t) (cnt7 c.week (lo0 f) (hi0 t) 7) c.closed := rfl
  rw [e]
  unfold cnt
  split
  · have : (hi0 t + 1 - lo0 f).toNat = 0 := by omega
    rw [this]; rfl
  · have hr := c7_rng (w := c.week) (lo := lo0 f) (hi := hi0 t) (by omega) (by omega) 7 (Nat.le_refl _)
    rw [cnt7_eq (by omega) (by omega) (by omega) 7 (Nat.le_refl _), cntG_eq _ _ a4 (by omega) (by omega)]
    have := weeks h (lo := lo0 f) h1.1 (hi0 t + 1 - lo0 f).toNat (by omega)
    rw [← this]
    have e2 : lo0 f + ((hi0 t + 1 - lo0 f).toNat : Int) - 1 = hi0 t := by omega
    rw [e2]
theorem countR_countD {c : Cal} (h : calR c = 0) (f t : Int) : countR c f t = countD c f t := by rw [countR_cnt h, countD_cnt]
def lateD (r : Rule) (c : Cal) (d b : Int) : Int :=
  if (¬ calR c = 0 ∨ isDay d = false) ∨ isDay b = false then 0
  else if countD c (IntKind.i64.wrap (d + 1)) b ≤ r.grace then 0
  else if r.maxFine < IntKind.i64.wrap (countD c (IntKind.i64.wrap (d + 1)) b * r.fine) then r.maxFine else IntKind.i64.wrap (countD c (IntKind.i64.wrap (d + 1)) b * r.fine)
section
variable {r : Rule} {c : Cal} {d b : Int}
theorem lateD_bad (h : (¬ calR c = 0 ∨ isDay d = false) ∨ isDay b = false) : lateD r c d b = 0 := if_pos h
theorem lateD_gr (h : (calR c = 0 ∧ isDay d = true) ∧ isDay b = true) (h2 : countD c (IntKind.i64.wrap (d + 1)) b ≤ r.grace) : lateD r c d b = 0 := by
  unfold lateD; rw [if_neg (lateN h), if_pos h2]
theorem lateD_ok (h : (calR c = 0 ∧ isDay d = true) ∧ isDay b = true) (h2 : r.grace < countD c (IntKind.i64.wrap (d + 1)) b) :
    lateD r c d b = if r.maxFine < IntKind.i64.wrap (countD c (IntKind.i64.wrap (d + 1)) b * r.fine) then r.maxFine else IntKind.i64.wrap (countD c (IntKind.i64.wrap (d + 1)) b * r.fine) := by
  unfold lateD; rw [if_neg (lateN h), if_neg (by omega)]
end
theorem lateD_eq (r : Rule) (c : Cal) (d b : Int) : lateD r c d b = lateR r c d b := by
  unfold lateD lateR
  by_cases h : calR c = 0
  · rw [countR_countD h]
  · simp [h]
theorem wrap_rng64 (n : Int) : -9223372036854775808 ≤ IntKind.i64.wrap n ∧ IntKind.i64.wrap n ≤ 9223372036854775807 := by rw [IntKind.wrap_i64]; omega
theorem lateR_rng {r : Rule} {c : Cal} {d b : Int} (h : -9223372036854775808 ≤ r.maxFine ∧ r.maxFine ≤ 9223372036854775807) : -9223372036854775808 ≤ lateR r c d b ∧ lateR r c d b ≤ 9223372036854775807 := by
  have := wrap_rng64 (countR c (IntKind.i64.wrap (d + 1)) b * r.fine)
  unfold lateR
  split
  · omega
  · split
    · omega
    · split <;> omega
end Pl

set_option maxRecDepth 100000
set_option linter.unusedSimpArgs false
set_option linter.unusedVariables false
namespace Go.Proofs.YtmofeikdaoknlaaDoor
open Go Ab Pl
theorem date_known (n : Int) : ACalls E.P 28 [.int .i64 n] (.d (.bool (isDay n))) := by
  refine ACalls.intro E_ok Tryd.func28 rfl rfl Tryd.ntmps28 Tryd.results28 (Nat.le_of_ble_eq_true rfl) fun hok base S0 w0 => ?_
  -- region 0
  refine AWp.rseq E_ok [0, 2] fun K hK => ?_
  simp
  repeat refine ⟨by first | omega | assumption | (simp only [maxLen]; omega) | (intros; omega) | decide, ?_⟩
  refine hK _ ?_
  clear hK K
  -- region 1
  refine AWp.rseq E_ok [0, 2] fun K hK => ?_
  simp
  repeat refine ⟨by first | omega | assumption | (simp only [maxLen]; omega) | (intros; omega) | decide, ?_⟩
  refine hK _ ?_
  clear hK K
  refine AWp.ret ?_
  repeat first | refine thenN ?_ | refine thenX ?_ | refine thenR ?_ | refine blockN ?_ | refine blockR ?_ | refine blockX ?_ | refine blockM rfl ?_
  simp [RetOk, RV, isDay]
end Go.Proofs.YtmofeikdaoknlaaDoor
