/-
  What the functions compute that the statement reaches: contracts, and the plain laws between them. Conditions stand at each theorem.
-/
import Derived.Test.YtabmhpgbfjkkcaaDoorEngTwo
import Derived.Test.YtabmhpgbfjkkcaaDoorChecked
import Derived.Lib.ItoaLen
set_option linter.unusedVariables false
set_option linter.unusedSimpArgs false
/- The types of this seat, as the layer reads them. -/
set_option maxRecDepth 100000
namespace Go.Proofs.YtabmhpgbfjkkcaaDoor
open Go Ab

abbrev ti2 : TI := { key := .int .i64, size := 1, bytes := 8, zero := .int .i64 0, zc := [.int .i64 0], eq := [] }
abbrev ti3 : TI := { key := .int .i64, size := 1, bytes := 8, zero := .int .i64 0, zc := [.int .i64 0], eq := [] }
abbrev ti4 : TI := { key := .bool, size := 1, bytes := 1, zero := .bool false, zc := [.bool false], eq := [] }
abbrev ti5 : TI := { key := .int .u8, size := 1, bytes := 1, zero := .int .u8 0, zc := [.int .u8 0], eq := [] }
abbrev ti9 : TI := { key := .string, size := 1, bytes := 16, zero := .string ⟨#[]⟩, zc := [.str []], eq := [] }
abbrev ti12 : TI := { key := .int .u64, size := 1, bytes := 8, zero := .int .u64 0, zc := [.int .u64 0], eq := [] }
abbrev ti15 : TI := { key := .other, size := 1, bytes := 8, zero := .pointer none, zc := [.lit (.pointer none)], eq := [] }
abbrev ti16 : TI := { key := .other, size := 1, bytes := 8, zero := .pointer none, zc := [.lit (.pointer none)], eq := [] }
abbrev ti17 : TI := { key := .other, size := 1, bytes := 8, zero := .pointer none, zc := [.lit (.pointer none)], eq := [] }
abbrev ti21 : TI := { key := .int .i32, size := 1, bytes := 4, zero := .int .i32 0, zc := [.int .i32 0], eq := [] }
abbrev ti22 : TI := { key := .struct [(0, 3), (1, 3), (2, 3), (3, 3)], size := 4, bytes := 32, zero := .agg #[.int .i64 0, .int .i64 0, .int .i64 0, .int .i64 0], zc := [.int .i64 0, .int .i64 0, .int .i64 0, .int .i64 0], eq := [0, 0, 0, 0] }
abbrev ti23 : TI := { key := .struct [(0, 3), (1, 3), (2, 3), (3, 3)], size := 4, bytes := 32, zero := .agg #[.int .i64 0, .int .i64 0, .int .i64 0, .int .i64 0], zc := [.int .i64 0, .int .i64 0, .int .i64 0, .int .i64 0], eq := [0, 0, 0, 0] }
abbrev ti29 : TI := { key := .struct [(0, 3), (1, 3), (2, 3), (3, 3), (4, 3)], size := 5, bytes := 40, zero := .agg #[.int .i64 0, .int .i64 0, .int .i64 0, .int .i64 0, .int .i64 0], zc := [.int .i64 0, .int .i64 0, .int .i64 0, .int .i64 0, .int .i64 0], eq := [0, 0, 0, 0, 0] }
abbrev ti30 : TI := { key := .struct [(0, 3), (1, 3), (2, 3), (3, 3), (4, 3)], size := 5, bytes := 40, zero := .agg #[.int .i64 0, .int .i64 0, .int .i64 0, .int .i64 0, .int .i64 0], zc := [.int .i64 0, .int .i64 0, .int .i64 0, .int .i64 0, .int .i64 0], eq := [0, 0, 0, 0, 0] }
abbrev ti31 : TI := { key := .int .i64, size := 1, bytes := 8, zero := .int .i64 0, zc := [.int .i64 0], eq := [] }
abbrev ti35 : TI := { key := .slice 30, size := 1, bytes := 24, zero := .slice none 0 0, zc := [.slice (.agg [.int .i64 0, .int .i64 0, .int .i64 0, .int .i64 0, .int .i64 0]) []], eq := [] }
abbrev ti43 : TI := { key := .int .u16, size := 1, bytes := 2, zero := .int .u16 0, zc := [.int .u16 0], eq := [] }
abbrev ti44 : TI := { key := .array 13 43, size := 13, bytes := 26, zero := .agg #[.int .u16 0, .int .u16 0, .int .u16 0, .int .u16 0, .int .u16 0, .int .u16 0, .int .u16 0, .int .u16 0, .int .u16 0, .int .u16 0, .int .u16 0, .int .u16 0, .int .u16 0], zc := [.int .u16 0, .int .u16 0, .int .u16 0, .int .u16 0, .int .u16 0, .int .u16 0, .int .u16 0, .int .u16 0, .int .u16 0, .int .u16 0, .int .u16 0, .int .u16 0, .int .u16 0], eq := [] }
abbrev ti45 : TI := { key := .slice 3, size := 1, bytes := 24, zero := .slice none 0 0, zc := [.slice (.int .i64 0) []], eq := [] }
abbrev ti51 : TI := { key := .array 13 9, size := 13, bytes := 208, zero := .agg #[.string ⟨#[]⟩, .string ⟨#[]⟩, .string ⟨#[]⟩, .string ⟨#[]⟩, .string ⟨#[]⟩, .string ⟨#[]⟩, .string ⟨#[]⟩, .string ⟨#[]⟩, .string ⟨#[]⟩, .string ⟨#[]⟩, .string ⟨#[]⟩, .string ⟨#[]⟩, .string ⟨#[]⟩], zc := [.str [], .str [], .str [], .str [], .str [], .str [], .str [], .str [], .str [], .str [], .str [], .str [], .str []], eq := [] }
abbrev ti52 : TI := { key := .slice 5, size := 1, bytes := 24, zero := .slice none 0 0, zc := [.slice (.int .u8 0) []], eq := [] }
abbrev ti54 : TI := { key := .array 24 5, size := 24, bytes := 24, zero := .agg #[.int .u8 0, .int .u8 0, .int .u8 0, .int .u8 0, .int .u8 0, .int .u8 0, .int .u8 0, .int .u8 0, .int .u8 0, .int .u8 0, .int .u8 0, .int .u8 0, .int .u8 0, .int .u8 0, .int .u8 0, .int .u8 0, .int .u8 0, .int .u8 0, .int .u8 0, .int .u8 0, .int .u8 0, .int .u8 0, .int .u8 0, .int .u8 0], zc := [.int .u8 0, .int .u8 0, .int .u8 0, .int .u8 0, .int .u8 0, .int .u8 0, .int .u8 0, .int .u8 0, .int .u8 0, .int .u8 0, .int .u8 0, .int .u8 0, .int .u8 0, .int .u8 0, .int .u8 0, .int .u8 0, .int .u8 0, .int .u8 0, .int .u8 0, .int .u8 0, .int .u8 0, .int .u8 0, .int .u8 0, .int .u8 0], eq := [] }
abbrev ti55 : TI := { key := .int .u64, size := 1, bytes := 8, zero := .int .u64 0, zc := [.int .u64 0], eq := [] }
abbrev ti61 : TI := { key := .array 20 55, size := 20, bytes := 160, zero := .agg #[.int .u64 0, .int .u64 0, .int .u64 0, .int .u64 0, .int .u64 0, .int .u64 0, .int .u64 0, .int .u64 0, .int .u64 0, .int .u64 0, .int .u64 0, .int .u64 0, .int .u64 0, .int .u64 0, .int .u64 0, .int .u64 0, .int .u64 0, .int .u64 0, .int .u64 0, .int .u64 0], zc := [.int .u64 0, .int .u64 0, .int .u64 0, .int .u64 0, .int .u64 0, .int .u64 0, .int .u64 0, .int .u64 0, .int .u64 0, .int .u64 0, .int .u64 0, .int .u64 0, .int .u64 0, .int .u64 0, .int .u64 0, .int .u64 0, .int .u64 0, .int .u64 0, .int .u64 0, .int .u64 0], eq := [] }
abbrev ti62 : TI := { key := .int .u32, size := 1, bytes := 4, zero := .int .u32 0, zc := [.int .u32 0], eq := [] }
abbrev ti63 : TI := { key := .array 65 5, size := 65, bytes := 65, zero := .agg #[.int .u8 0, .int .u8 0, .int .u8 0, .int .u8 0, .int .u8 0, .int .u8 0, .int .u8 0, .int .u8 0, .int .u8 0, .int .u8 0, .int .u8 0, .int .u8 0, .int .u8 0, .int .u8 0, .int .u8 0, .int .u8 0, .int .u8 0, .int .u8 0, .int .u8 0, .int .u8 0, .int .u8 0, .int .u8 0, .int .u8 0, .int .u8 0, .int .u8 0, .int .u8 0, .int .u8 0, .int .u8 0, .int .u8 0, .int .u8 0, .int .u8 0, .int .u8 0, .int .u8 0, .int .u8 0, .int .u8 0, .int .u8 0, .int .u8 0, .int .u8 0, .int .u8 0, .int .u8 0, .int .u8 0, .int .u8 0, .int .u8 0, .int .u8 0, .int .u8 0, .int .u8 0, .int .u8 0, .int .u8 0, .int .u8 0, .int .u8 0, .int .u8 0, .int .u8 0, .int .u8 0, .int .u8 0, .int .u8 0, .int .u8 0, .int .u8 0, .int .u8 0, .int .u8 0, .int .u8 0, .int .u8 0, .int .u8 0, .int .u8 0, .int .u8 0, .int .u8 0], zc := [.int .u8 0, .int .u8 0, .int .u8 0, .int .u8 0, .int .u8 0, .int .u8 0, .int .u8 0, .int .u8 0, .int .u8 0, .int .u8 0, .int .u8 0, .int .u8 0, .int .u8 0, .int .u8 0, .int .u8 0, .int .u8 0, .int .u8 0, .int .u8 0, .int .u8 0, .int .u8 0, .int .u8 0, .int .u8 0, .int .u8 0, .int .u8 0, .int .u8 0, .int .u8 0, .int .u8 0, .int .u8 0, .int .u8 0, .int .u8 0, .int .u8 0, .int .u8 0, .int .u8 0, .int .u8 0, .int .u8 0, .int .u8 0, .int .u8 0, .int .u8 0, .int .u8 0, .int .u8 0, .int .u8 0, .int .u8 0, .int .u8 0, .int .u8 0, .int .u8 0, .int .u8 0, .int .u8 0, .int .u8 0, .int .u8 0, .int .u8 0, .int .u8 0, .int .u8 0, .int .u8 0, .int .u8 0, .int .u8 0, .int .u8 0, .int .u8 0, .int .u8 0, .int .u8 0, .int .u8 0, .int .u8 0, .int .u8 0, .int .u8 0, .int .u8 0, .int .u8 0], eq := [] }
abbrev ti64 : TI := { key := .int .u64, size := 1, bytes := 8, zero := .int .u64 0, zc := [.int .u64 0], eq := [] }
abbrev ti67 : TI := { key := .array 32 5, size := 32, bytes := 32, zero := .agg #[.int .u8 0, .int .u8 0, .int .u8 0, .int .u8 0, .int .u8 0, .int .u8 0, .int .u8 0, .int .u8 0, .int .u8 0, .int .u8 0, .int .u8 0, .int .u8 0, .int .u8 0, .int .u8 0, .int .u8 0, .int .u8 0, .int .u8 0, .int .u8 0, .int .u8 0, .int .u8 0, .int .u8 0, .int .u8 0, .int .u8 0, .int .u8 0, .int .u8 0, .int .u8 0, .int .u8 0, .int .u8 0, .int .u8 0, .int .u8 0, .int .u8 0, .int .u8 0], zc := [.int .u8 0, .int .u8 0, .int .u8 0, .int .u8 0, .int .u8 0, .int .u8 0, .int .u8 0, .int .u8 0, .int .u8 0, .int .u8 0, .int .u8 0, .int .u8 0, .int .u8 0, .int .u8 0, .int .u8 0, .int .u8 0, .int .u8 0, .int .u8 0, .int .u8 0, .int .u8 0, .int .u8 0, .int .u8 0, .int .u8 0, .int .u8 0, .int .u8 0, .int .u8 0, .int .u8 0, .int .u8 0, .int .u8 0, .int .u8 0, .int .u8 0, .int .u8 0], eq := [] }
abbrev ti68 : TI := { key := .array 64 5, size := 64, bytes := 64, zero := .agg #[.int .u8 0, .int .u8 0, .int .u8 0, .int .u8 0, .int .u8 0, .int .u8 0, .int .u8 0, .int .u8 0, .int .u8 0, .int .u8 0, .int .u8 0, .int .u8 0, .int .u8 0, .int .u8 0, .int .u8 0, .int .u8 0, .int .u8 0, .int .u8 0, .int .u8 0, .int .u8 0, .int .u8 0, .int .u8 0, .int .u8 0, .int .u8 0, .int .u8 0, .int .u8 0, .int .u8 0, .int .u8 0, .int .u8 0, .int .u8 0, .int .u8 0, .int .u8 0, .int .u8 0, .int .u8 0, .int .u8 0, .int .u8 0, .int .u8 0, .int .u8 0, .int .u8 0, .int .u8 0, .int .u8 0, .int .u8 0, .int .u8 0, .int .u8 0, .int .u8 0, .int .u8 0, .int .u8 0, .int .u8 0, .int .u8 0, .int .u8 0, .int .u8 0, .int .u8 0, .int .u8 0, .int .u8 0, .int .u8 0, .int .u8 0, .int .u8 0, .int .u8 0, .int .u8 0, .int .u8 0, .int .u8 0, .int .u8 0, .int .u8 0, .int .u8 0], zc := [.int .u8 0, .int .u8 0, .int .u8 0, .int .u8 0, .int .u8 0, .int .u8 0, .int .u8 0, .int .u8 0, .int .u8 0, .int .u8 0, .int .u8 0, .int .u8 0, .int .u8 0, .int .u8 0, .int .u8 0, .int .u8 0, .int .u8 0, .int .u8 0, .int .u8 0, .int .u8 0, .int .u8 0, .int .u8 0, .int .u8 0, .int .u8 0, .int .u8 0, .int .u8 0, .int .u8 0, .int .u8 0, .int .u8 0, .int .u8 0, .int .u8 0, .int .u8 0, .int .u8 0, .int .u8 0, .int .u8 0, .int .u8 0, .int .u8 0, .int .u8 0, .int .u8 0, .int .u8 0, .int .u8 0, .int .u8 0, .int .u8 0, .int .u8 0, .int .u8 0, .int .u8 0, .int .u8 0, .int .u8 0, .int .u8 0, .int .u8 0, .int .u8 0, .int .u8 0, .int .u8 0, .int .u8 0, .int .u8 0, .int .u8 0, .int .u8 0, .int .u8 0, .int .u8 0, .int .u8 0, .int .u8 0, .int .u8 0, .int .u8 0, .int .u8 0], eq := [] }
abbrev ti79 : TI := { key := .other, size := 1, bytes := 8, zero := .pointer none, zc := [.lit (.pointer none)], eq := [] }
def tab : TypeId → Option TI
  | 2 => some ti2
  | 3 => some ti3
  | 4 => some ti4
  | 5 => some ti5
  | 9 => some ti9
  | 12 => some ti12
  | 15 => some ti15
  | 16 => some ti16
  | 17 => some ti17
  | 21 => some ti21
  | 22 => some ti22
  | 23 => some ti23
  | 29 => some ti29
  | 30 => some ti30
  | 31 => some ti31
  | 35 => some ti35
  | 43 => some ti43
  | 44 => some ti44
  | 45 => some ti45
  | 51 => some ti51
  | 52 => some ti52
  | 54 => some ti54
  | 55 => some ti55
  | 61 => some ti61
  | 62 => some ti62
  | 63 => some ti63
  | 64 => some ti64
  | 67 => some ti67
  | 68 => some ti68
  | 79 => some ti79
  | _ => none
noncomputable def E : Env := { P := Tryd.prog, tab := tab }
theorem tyok2 : TyOk Tryd.prog 2 ti2 where
  key := by kernel_rfl
  info := by kernel_rfl
  zc := by kernel_rfl
  zok := by kernel_rfl
  len := by kernel_rfl
  one := fun _ => rfl
  zero_slice := fun _ h => by cases h
  eq := fun h => absurd rfl h
theorem tyok3 : TyOk Tryd.prog 3 ti3 where
  key := by kernel_rfl
  info := by kernel_rfl
  zc := by kernel_rfl
  zok := by kernel_rfl
  len := by kernel_rfl
  one := fun _ => rfl
  zero_slice := fun _ h => by cases h
  eq := fun h => absurd rfl h
theorem tyok4 : TyOk Tryd.prog 4 ti4 where
  key := by kernel_rfl
  info := by kernel_rfl
  zc := by kernel_rfl
  zok := by kernel_rfl
  len := by kernel_rfl
  one := fun _ => rfl
  zero_slice := fun _ h => by cases h
  eq := fun h => absurd rfl h
theorem tyok5 : TyOk Tryd.prog 5 ti5 where
  key := by kernel_rfl
  info := by kernel_rfl
  zc := by kernel_rfl
  zok := by kernel_rfl
  len := by kernel_rfl
  one := fun _ => rfl
  zero_slice := fun _ h => by cases h
  eq := fun h => absurd rfl h
theorem tyok9 : TyOk Tryd.prog 9 ti9 where
  key := by kernel_rfl
  info := by kernel_rfl
  zc := by kernel_rfl
  zok := by kernel_rfl
  len := by kernel_rfl
  one := fun _ => rfl
  zero_slice := fun _ h => by cases h
  eq := fun h => absurd rfl h
theorem tyok12 : TyOk Tryd.prog 12 ti12 where
  key := by kernel_rfl
  info := by kernel_rfl
  zc := by kernel_rfl
  zok := by kernel_rfl
  len := by kernel_rfl
  one := fun _ => rfl
  zero_slice := fun _ h => by cases h
  eq := fun h => absurd rfl h
theorem tyok15 : TyOk Tryd.prog 15 ti15 where
  key := by kernel_rfl
  info := by kernel_rfl
  zc := by kernel_rfl
  zok := by kernel_rfl
  len := by kernel_rfl
  one := fun _ => rfl
  zero_slice := fun _ h => by cases h
  eq := fun h => absurd rfl h
theorem tyok16 : TyOk Tryd.prog 16 ti16 where
  key := by kernel_rfl
  info := by kernel_rfl
  zc := by kernel_rfl
  zok := by kernel_rfl
  len := by kernel_rfl
  one := fun _ => rfl
  zero_slice := fun _ h => by cases h
  eq := fun h => absurd rfl h
theorem tyok17 : TyOk Tryd.prog 17 ti17 where
  key := by kernel_rfl
  info := by kernel_rfl
  zc := by kernel_rfl
  zok := by kernel_rfl
  len := by kernel_rfl
  one := fun _ => rfl
  zero_slice := fun _ h => by cases h
  eq := fun h => absurd rfl h
theorem tyok21 : TyOk Tryd.prog 21 ti21 where
  key := by kernel_rfl
  info := by kernel_rfl
  zc := by kernel_rfl
  zok := by kernel_rfl
  len := by kernel_rfl
  one := fun _ => rfl
  zero_slice := fun _ h => by cases h
  eq := fun h => absurd rfl h
theorem tyok22 : TyOk Tryd.prog 22 ti22 where
  key := by kernel_rfl
  info := by kernel_rfl
  zc := by kernel_rfl
  zok := by kernel_rfl
  len := by kernel_rfl
  one := fun h => by cases h
  zero_slice := fun _ h => by cases h
  eq := fun _ => ⟨by kernel_rfl, by kernel_rfl, by kernel_rfl⟩
theorem tyok23 : TyOk Tryd.prog 23 ti23 where
  key := by kernel_rfl
  info := by kernel_rfl
  zc := by kernel_rfl
  zok := by kernel_rfl
  len := by kernel_rfl
  one := fun h => by cases h
  zero_slice := fun _ h => by cases h
  eq := fun _ => ⟨by kernel_rfl, by kernel_rfl, by kernel_rfl⟩
theorem tyok29 : TyOk Tryd.prog 29 ti29 where
  key := by kernel_rfl
  info := by kernel_rfl
  zc := by kernel_rfl
  zok := by kernel_rfl
  len := by kernel_rfl
  one := fun h => by cases h
  zero_slice := fun _ h => by cases h
  eq := fun _ => ⟨by kernel_rfl, by kernel_rfl, by kernel_rfl⟩
theorem tyok30 : TyOk Tryd.prog 30 ti30 where
  key := by kernel_rfl
  info := by kernel_rfl
  zc := by kernel_rfl
  zok := by kernel_rfl
  len := by kernel_rfl
  one := fun h => by cases h
  zero_slice := fun _ h => by cases h
  eq := fun _ => ⟨by kernel_rfl, by kernel_rfl, by kernel_rfl⟩
theorem tyok31 : TyOk Tryd.prog 31 ti31 where
  key := by kernel_rfl
  info := by kernel_rfl
  zc := by kernel_rfl
  zok := by kernel_rfl
  len := by kernel_rfl
  one := fun _ => rfl
  zero_slice := fun _ h => by cases h
  eq := fun h => absurd rfl h
theorem tyok35 : TyOk Tryd.prog 35 ti35 where
  key := by kernel_rfl
  info := by kernel_rfl
  zc := by kernel_rfl
  zok := by kernel_rfl
  len := by kernel_rfl
  one := fun _ => rfl
  zero_slice := fun _ _ => rfl
  eq := fun h => absurd rfl h
theorem tyok43 : TyOk Tryd.prog 43 ti43 where
  key := by kernel_rfl
  info := by kernel_rfl
  zc := by kernel_rfl
  zok := by kernel_rfl
  len := by kernel_rfl
  one := fun _ => rfl
  zero_slice := fun _ h => by cases h
  eq := fun h => absurd rfl h
theorem tyok44 : TyOk Tryd.prog 44 ti44 where
  key := by kernel_rfl
  info := by kernel_rfl
  zc := by kernel_rfl
  zok := by kernel_rfl
  len := by kernel_rfl
  one := fun h => by cases h
  zero_slice := fun _ h => by cases h
  eq := fun h => absurd rfl h
theorem tyok45 : TyOk Tryd.prog 45 ti45 where
  key := by kernel_rfl
  info := by kernel_rfl
  zc := by kernel_rfl
  zok := by kernel_rfl
  len := by kernel_rfl
  one := fun _ => rfl
  zero_slice := fun _ _ => rfl
  eq := fun h => absurd rfl h
theorem tyok51 : TyOk Tryd.prog 51 ti51 where
  key := by kernel_rfl
  info := by kernel_rfl
  zc := by kernel_rfl
  zok := by kernel_rfl
  len := by kernel_rfl
  one := fun h => by cases h
  zero_slice := fun _ h => by cases h
  eq := fun h => absurd rfl h
theorem tyok52 : TyOk Tryd.prog 52 ti52 where
  key := by kernel_rfl
  info := by kernel_rfl
  zc := by kernel_rfl
  zok := by kernel_rfl
  len := by kernel_rfl
  one := fun _ => rfl
  zero_slice := fun _ _ => rfl
  eq := fun h => absurd rfl h
theorem tyok54 : TyOk Tryd.prog 54 ti54 where
  key := by kernel_rfl
  info := by kernel_rfl
  zc := by kernel_rfl
  zok := by kernel_rfl
  len := by kernel_rfl
  one := fun h => by cases h
  zero_slice := fun _ h => by cases h
  eq := fun h => absurd rfl h
theorem tyok55 : TyOk Tryd.prog 55 ti55 where
  key := by kernel_rfl
  info := by kernel_rfl
  zc := by kernel_rfl
  zok := by kernel_rfl
  len := by kernel_rfl
  one := fun _ => rfl
  zero_slice := fun _ h => by cases h
  eq := fun h => absurd rfl h
theorem tyok61 : TyOk Tryd.prog 61 ti61 where
  key := by kernel_rfl
  info := by kernel_rfl
  zc := by kernel_rfl
  zok := by kernel_rfl
  len := by kernel_rfl
  one := fun h => by cases h
  zero_slice := fun _ h => by cases h
  eq := fun h => absurd rfl h
theorem tyok62 : TyOk Tryd.prog 62 ti62 where
  key := by kernel_rfl
  info := by kernel_rfl
  zc := by kernel_rfl
  zok := by kernel_rfl
  len := by kernel_rfl
  one := fun _ => rfl
  zero_slice := fun _ h => by cases h
  eq := fun h => absurd rfl h
theorem tyok63 : TyOk Tryd.prog 63 ti63 where
  key := by kernel_rfl
  info := by kernel_rfl
  zc := by kernel_rfl
  zok := by kernel_rfl
  len := by kernel_rfl
  one := fun h => by cases h
  zero_slice := fun _ h => by cases h
  eq := fun h => absurd rfl h
theorem tyok64 : TyOk Tryd.prog 64 ti64 where
  key := by kernel_rfl
  info := by kernel_rfl
  zc := by kernel_rfl
  zok := by kernel_rfl
  len := by kernel_rfl
  one := fun _ => rfl
  zero_slice := fun _ h => by cases h
  eq := fun h => absurd rfl h
theorem tyok67 : TyOk Tryd.prog 67 ti67 where
  key := by kernel_rfl
  info := by kernel_rfl
  zc := by kernel_rfl
  zok := by kernel_rfl
  len := by kernel_rfl
  one := fun h => by cases h
  zero_slice := fun _ h => by cases h
  eq := fun h => absurd rfl h
theorem tyok68 : TyOk Tryd.prog 68 ti68 where
  key := by kernel_rfl
  info := by kernel_rfl
  zc := by kernel_rfl
  zok := by kernel_rfl
  len := by kernel_rfl
  one := fun h => by cases h
  zero_slice := fun _ h => by cases h
  eq := fun h => absurd rfl h
theorem tyok79 : TyOk Tryd.prog 79 ti79 where
  key := by kernel_rfl
  info := by kernel_rfl
  zc := by kernel_rfl
  zok := by kernel_rfl
  len := by kernel_rfl
  one := fun _ => rfl
  zero_slice := fun _ h => by cases h
  eq := fun h => absurd rfl h
theorem E_ok : E.Ok := by
  refine ⟨by kernel_rfl, fun t ti h => ?_⟩
  change tab t = some ti at h
  unfold tab at h
  split at h
  · cases h; exact tyok2
  · cases h; exact tyok3
  · cases h; exact tyok4
  · cases h; exact tyok5
  · cases h; exact tyok9
  · cases h; exact tyok12
  · cases h; exact tyok15
  · cases h; exact tyok16
  · cases h; exact tyok17
  · cases h; exact tyok21
  · cases h; exact tyok22
  · cases h; exact tyok23
  · cases h; exact tyok29
  · cases h; exact tyok30
  · cases h; exact tyok31
  · cases h; exact tyok35
  · cases h; exact tyok43
  · cases h; exact tyok44
  · cases h; exact tyok45
  · cases h; exact tyok51
  · cases h; exact tyok52
  · cases h; exact tyok54
  · cases h; exact tyok55
  · cases h; exact tyok61
  · cases h; exact tyok62
  · cases h; exact tyok63
  · cases h; exact tyok64
  · cases h; exact tyok67
  · cases h; exact tyok68
  · cases h; exact tyok79
  · cases h
@[simp] theorem tab2 : E.tab 2 = some { key := .int .i64, size := 1, bytes := 8, zero := .int .i64 0, zc := [.int .i64 0], eq := [] } := rfl
@[simp] theorem tab3 : E.tab 3 = some { key := .int .i64, size := 1, bytes := 8, zero := .int .i64 0, zc := [.int .i64 0], eq := [] } := rfl
@[simp] theorem tab4 : E.tab 4 = some { key := .bool, size := 1, bytes := 1, zero := .bool false, zc := [.bool false], eq := [] } := rfl
@[simp] theorem tab5 : E.tab 5 = some { key := .int .u8, size := 1, bytes := 1, zero := .int .u8 0, zc := [.int .u8 0], eq := [] } := rfl
@[simp] theorem tab9 : E.tab 9 = some { key := .string, size := 1, bytes := 16, zero := .string ⟨#[]⟩, zc := [.str []], eq := [] } := rfl
@[simp] theorem tab12 : E.tab 12 = some { key := .int .u64, size := 1, bytes := 8, zero := .int .u64 0, zc := [.int .u64 0], eq := [] } := rfl
@[simp] theorem tab15 : E.tab 15 = some { key := .other, size := 1, bytes := 8, zero := .pointer none, zc := [.lit (.pointer none)], eq := [] } := rfl
@[simp] theorem tab16 : E.tab 16 = some { key := .other, size := 1, bytes := 8, zero := .pointer none, zc := [.lit (.pointer none)], eq := [] } := rfl
@[simp] theorem tab17 : E.tab 17 = some { key := .other, size := 1, bytes := 8, zero := .pointer none, zc := [.lit (.pointer none)], eq := [] } := rfl
@[simp] theorem tab21 : E.tab 21 = some { key := .int .i32, size := 1, bytes := 4, zero := .int .i32 0, zc := [.int .i32 0], eq := [] } := rfl
@[simp] theorem tab22 : E.tab 22 = some { key := .struct [(0, 3), (1, 3), (2, 3), (3, 3)], size := 4, bytes := 32, zero := .agg #[.int .i64 0, .int .i64 0, .int .i64 0, .int .i64 0], zc := [.int .i64 0, .int .i64 0, .int .i64 0, .int .i64 0], eq := [0, 0, 0, 0] } := rfl
@[simp] theorem tab23 : E.tab 23 = some { key := .struct [(0, 3), (1, 3), (2, 3), (3, 3)], size := 4, bytes := 32, zero := .agg #[.int .i64 0, .int .i64 0, .int .i64 0, .int .i64 0], zc := [.int .i64 0, .int .i64 0, .int .i64 0, .int .i64 0], eq := [0, 0, 0, 0] } := rfl
@[simp] theorem tab29 : E.tab 29 = some { key := .struct [(0, 3), (1, 3), (2, 3), (3, 3), (4, 3)], size := 5, bytes := 40, zero := .agg #[.int .i64 0, .int .i64 0, .int .i64 0, .int .i64 0, .int .i64 0], zc := [.int .i64 0, .int .i64 0, .int .i64 0, .int .i64 0, .int .i64 0], eq := [0, 0, 0, 0, 0] } := rfl
@[simp] theorem tab30 : E.tab 30 = some { key := .struct [(0, 3), (1, 3), (2, 3), (3, 3), (4, 3)], size := 5, bytes := 40, zero := .agg #[.int .i64 0, .int .i64 0, .int .i64 0, .int .i64 0, .int .i64 0], zc := [.int .i64 0, .int .i64 0, .int .i64 0, .int .i64 0, .int .i64 0], eq := [0, 0, 0, 0, 0] } := rfl
@[simp] theorem tab31 : E.tab 31 = some { key := .int .i64, size := 1, bytes := 8, zero := .int .i64 0, zc := [.int .i64 0], eq := [] } := rfl
@[simp] theorem tab35 : E.tab 35 = some { key := .slice 30, size := 1, bytes := 24, zero := .slice none 0 0, zc := [.slice (.agg [.int .i64 0, .int .i64 0, .int .i64 0, .int .i64 0, .int .i64 0]) []], eq := [] } := rfl
@[simp] theorem tab43 : E.tab 43 = some { key := .int .u16, size := 1, bytes := 2, zero := .int .u16 0, zc := [.int .u16 0], eq := [] } := rfl
@[simp] theorem tab44 : E.tab 44 = some { key := .array 13 43, size := 13, bytes := 26, zero := .agg #[.int .u16 0, .int .u16 0, .int .u16 0, .int .u16 0, .int .u16 0, .int .u16 0, .int .u16 0, .int .u16 0, .int .u16 0, .int .u16 0, .int .u16 0, .int .u16 0, .int .u16 0], zc := [.int .u16 0, .int .u16 0, .int .u16 0, .int .u16 0, .int .u16 0, .int .u16 0, .int .u16 0, .int .u16 0, .int .u16 0, .int .u16 0, .int .u16 0, .int .u16 0, .int .u16 0], eq := [] } := rfl
@[simp] theorem tab45 : E.tab 45 = some { key := .slice 3, size := 1, bytes := 24, zero := .slice none 0 0, zc := [.slice (.int .i64 0) []], eq := [] } := rfl
@[simp] theorem tab51 : E.tab 51 = some { key := .array 13 9, size := 13, bytes := 208, zero := .agg #[.string ⟨#[]⟩, .string ⟨#[]⟩, .string ⟨#[]⟩, .string ⟨#[]⟩, .string ⟨#[]⟩, .string ⟨#[]⟩, .string ⟨#[]⟩, .string ⟨#[]⟩, .string ⟨#[]⟩, .string ⟨#[]⟩, .string ⟨#[]⟩, .string ⟨#[]⟩, .string ⟨#[]⟩], zc := [.str [], .str [], .str [], .str [], .str [], .str [], .str [], .str [], .str [], .str [], .str [], .str [], .str []], eq := [] } := rfl
@[simp] theorem tab52 : E.tab 52 = some { key := .slice 5, size := 1, bytes := 24, zero := .slice none 0 0, zc := [.slice (.int .u8 0) []], eq := [] } := rfl
@[simp] theorem tab54 : E.tab 54 = some { key := .array 24 5, size := 24, bytes := 24, zero := .agg #[.int .u8 0, .int .u8 0, .int .u8 0, .int .u8 0, .int .u8 0, .int .u8 0, .int .u8 0, .int .u8 0, .int .u8 0, .int .u8 0, .int .u8 0, .int .u8 0, .int .u8 0, .int .u8 0, .int .u8 0, .int .u8 0, .int .u8 0, .int .u8 0, .int .u8 0, .int .u8 0, .int .u8 0, .int .u8 0, .int .u8 0, .int .u8 0], zc := [.int .u8 0, .int .u8 0, .int .u8 0, .int .u8 0, .int .u8 0, .int .u8 0, .int .u8 0, .int .u8 0, .int .u8 0, .int .u8 0, .int .u8 0, .int .u8 0, .int .u8 0, .int .u8 0, .int .u8 0, .int .u8 0, .int .u8 0, .int .u8 0, .int .u8 0, .int .u8 0, .int .u8 0, .int .u8 0, .int .u8 0, .int .u8 0], eq := [] } := rfl
@[simp] theorem tab55 : E.tab 55 = some { key := .int .u64, size := 1, bytes := 8, zero := .int .u64 0, zc := [.int .u64 0], eq := [] } := rfl
@[simp] theorem tab61 : E.tab 61 = some { key := .array 20 55, size := 20, bytes := 160, zero := .agg #[.int .u64 0, .int .u64 0, .int .u64 0, .int .u64 0, .int .u64 0, .int .u64 0, .int .u64 0, .int .u64 0, .int .u64 0, .int .u64 0, .int .u64 0, .int .u64 0, .int .u64 0, .int .u64 0, .int .u64 0, .int .u64 0, .int .u64 0, .int .u64 0, .int .u64 0, .int .u64 0], zc := [.int .u64 0, .int .u64 0, .int .u64 0, .int .u64 0, .int .u64 0, .int .u64 0, .int .u64 0, .int .u64 0, .int .u64 0, .int .u64 0, .int .u64 0, .int .u64 0, .int .u64 0, .int .u64 0, .int .u64 0, .int .u64 0, .int .u64 0, .int .u64 0, .int .u64 0, .int .u64 0], eq := [] } := rfl
@[simp] theorem tab62 : E.tab 62 = some { key := .int .u32, size := 1, bytes := 4, zero := .int .u32 0, zc := [.int .u32 0], eq := [] } := rfl
@[simp] theorem tab63 : E.tab 63 = some { key := .array 65 5, size := 65, bytes := 65, zero := .agg #[.int .u8 0, .int .u8 0, .int .u8 0, .int .u8 0, .int .u8 0, .int .u8 0, .int .u8 0, .int .u8 0, .int .u8 0, .int .u8 0, .int .u8 0, .int .u8 0, .int .u8 0, .int .u8 0, .int .u8 0, .int .u8 0, .int .u8 0, .int .u8 0, .int .u8 0, .int .u8 0, .int .u8 0, .int .u8 0, .int .u8 0, .int .u8 0, .int .u8 0, .int .u8 0, .int .u8 0, .int .u8 0, .int .u8 0, .int .u8 0, .int .u8 0, .int .u8 0, .int .u8 0, .int .u8 0, .int .u8 0, .int .u8 0, .int .u8 0, .int .u8 0, .int .u8 0, .int .u8 0, .int .u8 0, .int .u8 0, .int .u8 0, .int .u8 0, .int .u8 0, .int .u8 0, .int .u8 0, .int .u8 0, .int .u8 0, .int .u8 0, .int .u8 0, .int .u8 0, .int .u8 0, .int .u8 0, .int .u8 0, .int .u8 0, .int .u8 0, .int .u8 0, .int .u8 0, .int .u8 0, .int .u8 0, .int .u8 0, .int .u8 0, .int .u8 0, .int .u8 0], zc := [.int .u8 0, .int .u8 0, .int .u8 0, .int .u8 0, .int .u8 0, .int .u8 0, .int .u8 0, .int .u8 0, .int .u8 0, .int .u8 0, .int .u8 0, .int .u8 0, .int .u8 0, .int .u8 0, .int .u8 0, .int .u8 0, .int .u8 0, .int .u8 0, .int .u8 0, .int .u8 0, .int .u8 0, .int .u8 0, .int .u8 0, .int .u8 0, .int .u8 0, .int .u8 0, .int .u8 0, .int .u8 0, .int .u8 0, .int .u8 0, .int .u8 0, .int .u8 0, .int .u8 0, .int .u8 0, .int .u8 0, .int .u8 0, .int .u8 0, .int .u8 0, .int .u8 0, .int .u8 0, .int .u8 0, .int .u8 0, .int .u8 0, .int .u8 0, .int .u8 0, .int .u8 0, .int .u8 0, .int .u8 0, .int .u8 0, .int .u8 0, .int .u8 0, .int .u8 0, .int .u8 0, .int .u8 0, .int .u8 0, .int .u8 0, .int .u8 0, .int .u8 0, .int .u8 0, .int .u8 0, .int .u8 0, .int .u8 0, .int .u8 0, .int .u8 0, .int .u8 0], eq := [] } := rfl
@[simp] theorem tab64 : E.tab 64 = some { key := .int .u64, size := 1, bytes := 8, zero := .int .u64 0, zc := [.int .u64 0], eq := [] } := rfl
@[simp] theorem tab67 : E.tab 67 = some { key := .array 32 5, size := 32, bytes := 32, zero := .agg #[.int .u8 0, .int .u8 0, .int .u8 0, .int .u8 0, .int .u8 0, .int .u8 0, .int .u8 0, .int .u8 0, .int .u8 0, .int .u8 0, .int .u8 0, .int .u8 0, .int .u8 0, .int .u8 0, .int .u8 0, .int .u8 0, .int .u8 0, .int .u8 0, .int .u8 0, .int .u8 0, .int .u8 0, .int .u8 0, .int .u8 0, .int .u8 0, .int .u8 0, .int .u8 0, .int .u8 0, .int .u8 0, .int .u8 0, .int .u8 0, .int .u8 0, .int .u8 0], zc := [.int .u8 0, .int .u8 0, .int .u8 0, .int .u8 0, .int .u8 0, .int .u8 0, .int .u8 0, .int .u8 0, .int .u8 0, .int .u8 0, .int .u8 0, .int .u8 0, .int .u8 0, .int .u8 0, .int .u8 0, .int .u8 0, .int .u8 0, .int .u8 0, .int .u8 0, .int .u8 0, .int .u8 0, .int .u8 0, .int .u8 0, .int .u8 0, .int .u8 0, .int .u8 0, .int .u8 0, .int .u8 0, .int .u8 0, .int .u8 0, .int .u8 0, .int .u8 0], eq := [] } := rfl
@[simp] theorem tab68 : E.tab 68 = some { key := .array 64 5, size := 64, bytes := 64, zero := .agg #[.int .u8 0, .int .u8 0, .int .u8 0, .int .u8 0, .int .u8 0, .int .u8 0, .int .u8 0, .int .u8 0, .int .u8 0, .int .u8 0, .int .u8 0, .int .u8 0, .int .u8 0, .int .u8 0, .int .u8 0, .int .u8 0, .int .u8 0, .int .u8 0, .int .u8 0, .int .u8 0, .int .u8 0, .int .u8 0, .int .u8 0, .int .u8 0, .int .u8 0, .int .u8 0, .int .u8 0, .int .u8 0, .int .u8 0, .int .u8 0, .int .u8 0, .int .u8 0, .int .u8 0, .int .u8 0, .int .u8 0, .int .u8 0, .int .u8 0, .int .u8 0, .int .u8 0, .int .u8 0, .int .u8 0, .int .u8 0, .int .u8 0, .int .u8 0, .int .u8 0, .int .u8 0, .int .u8 0, .int .u8 0, .int .u8 0, .int .u8 0, .int .u8 0, .int .u8 0, .int .u8 0, .int .u8 0, .int .u8 0, .int .u8 0, .int .u8 0, .int .u8 0, .int .u8 0, .int .u8 0, .int .u8 0, .int .u8 0, .int .u8 0, .int .u8 0], zc := [.int .u8 0, .int .u8 0, .int .u8 0, .int .u8 0, .int .u8 0, .int .u8 0, .int .u8 0, .int .u8 0, .int .u8 0, .int .u8 0, .int .u8 0, .int .u8 0, .int .u8 0, .int .u8 0, .int .u8 0, .int .u8 0, .int .u8 0, .int .u8 0, .int .u8 0, .int .u8 0, .int .u8 0, .int .u8 0, .int .u8 0, .int .u8 0, .int .u8 0, .int .u8 0, .int .u8 0, .int .u8 0, .int .u8 0, .int .u8 0, .int .u8 0, .int .u8 0, .int .u8 0, .int .u8 0, .int .u8 0, .int .u8 0, .int .u8 0, .int .u8 0, .int .u8 0, .int .u8 0, .int .u8 0, .int .u8 0, .int .u8 0, .int .u8 0, .int .u8 0, .int .u8 0, .int .u8 0, .int .u8 0, .int .u8 0, .int .u8 0, .int .u8 0, .int .u8 0, .int .u8 0, .int .u8 0, .int .u8 0, .int .u8 0, .int .u8 0, .int .u8 0, .int .u8 0, .int .u8 0, .int .u8 0, .int .u8 0, .int .u8 0, .int .u8 0], eq := [] } := rfl
@[simp] theorem tab79 : E.tab 79 = some { key := .other, size := 1, bytes := 8, zero := .pointer none, zc := [.lit (.pointer none)], eq := [] } := rfl
end Go.Proofs.YtabmhpgbfjkkcaaDoor

namespace Go.Proofs.YtabmhpgbfjkkcaaDoor
open Go Ab
abbrev n_main_main : Nat := 0
abbrev n_gosem_cut : Nat := 1
abbrev n_gosem_cut_init : Nat := 2
abbrev n_law30_CustodyRights : Nat := 3
abbrev n_law30_CustodyApplies : Nat := 4
abbrev n_law30_CustodyReplays : Nat := 5
abbrev n_law30_CustodyTexts : Nat := 6
abbrev n_law30_CustodyStays : Nat := 7
abbrev n_law30_CustodyContinues : Nat := 8
abbrev n_law30_CustodyNames : Nat := 9
abbrev n_custody_Start : Nat := 10
abbrev n_ref30_Start : Nat := 11
abbrev n_custody_Right : Nat := 12
abbrev n_ref30_Right : Nat := 13
abbrev n_custody_Allowed : Nat := 14
abbrev n_ref30_Allowed : Nat := 15
abbrev n_law30_alive : Nat := 16
abbrev n_custody_Apply : Nat := 17
abbrev n_ref30_Apply : Nat := 18
abbrev n_custody_Replay : Nat := 19
abbrev n_ref30_Replay : Nat := 20
abbrev n_custody_Away : Nat := 21
abbrev n_ref30_Away : Nat := 22
abbrev n_custody_Text : Nat := 23
abbrev n_ref30_Text : Nat := 24
abbrev n_custody_within : Nat := 25
abbrev n_ref30_personal : Nat := 26
abbrev n_ref30_states : Nat := 27
abbrev n_custody_sent : Nat := 28
abbrev n_custody_checked : Nat := 29
abbrev n_ref30_within : Nat := 30
abbrev n_ref30_fits : Nat := 31
abbrev n_ref30_after : Nat := 32
abbrev n_strconv_Itoa : Nat := 33
abbrev n_ref11_Decimal : Nat := 34
abbrev n_internal_strconv_Itoa : Nat := 35
abbrev n_internal_strconv_FormatInt : Nat := 36
abbrev n_internal_strconv_small : Nat := 37
abbrev n_internal_strconv_numDigits : Nat := 38
abbrev n_internal_strconv_formatBase10 : Nat := 39
abbrev n_internal_strconv_formatBits : Nat := 40
abbrev n_internal_strconv_log10Pow2 : Nat := 41
abbrev n_math_bits_Len64 : Nat := 42
abbrev n_internal_strconv_bool2_int : Nat := 43
abbrev n_internal_strconv_isPowerOfTwo : Nat := 44
abbrev n_math_bits_TrailingZeros : Nat := 45
abbrev n_math_bits_TrailingZeros32 : Nat := 46
abbrev n_math_bits_TrailingZeros64 : Nat := 47
abbrev n_runtime_boundsError_Error : Nat := 48
abbrev n_runtime_boundsError_RuntimeError : Nat := 49
abbrev n_runtime_errorString_Error : Nat := 50
abbrev n_runtime_errorString_RuntimeError : Nat := 51
abbrev n_runtime_plainError_Error : Nat := 52
abbrev n_runtime_plainError_RuntimeError : Nat := 53
abbrev n_runtime_errorAddressString_Error : Nat := 54
abbrev n_runtime_errorAddressString_RuntimeError : Nat := 55
abbrev n_runtime_TypeAssertionError_Error : Nat := 56
abbrev n_runtime_TypeAssertionError_RuntimeError : Nat := 57
abbrev n_runtime_PanicNilError_Error : Nat := 58
abbrev n_runtime_PanicNilError_RuntimeError : Nat := 59
abbrev n_internal_abi_Type_Align : Nat := 60
abbrev n_internal_runtime_maps_unhashableTypeError_Error : Nat := 61
abbrev n_internal_runtime_maps_unhashableTypeError_RuntimeError : Nat := 62
abbrev n_api_Errno_Error : Nat := 63
abbrev n_internal_abi_Kind_String : Nat := 64
abbrev n_var_s_door_gosem_cut_vars_holds_initialisers_alone_see_the_manifest_s_row_cutvarsword_look_11_test_files_too : Nat := 65
abbrev n_var_s_door_internal_strconv_uint64pow10_is_laid_by_its_own_initialiser_plain_data_look_11 : Nat := 66
abbrev n_var_s_door_custody_moves_is_laid_by_its_own_initialiser_plain_data_look_11 : Nat := 67
abbrev n_var_s_door_math_bits_deBruijn32tab_is_laid_by_its_own_initialiser_plain_data_look_11 : Nat := 68
abbrev n_var_s_door_math_bits_deBruijn64tab_is_laid_by_its_own_initialiser_plain_data_look_11 : Nat := 69
abbrev n_var_s_door_the_look_of_gosem_cut_vars_went_over_the_folder_that_the_caller_named_as_the_repository_s_root_look_11 : Nat := 70
abbrev n_gosem_cut_vars : Nat := 71
abbrev t_ : Nat := 0
abbrev t_a0_p_runtime_PanicNilError : Nat := 72
abbrev t_a13_string : Nat := 51
abbrev t_a13_uint16 : Nat := 44
abbrev t_a20_uint64 : Nat := 61
abbrev t_a24_uint8 : Nat := 54
abbrev t_a32_uint8 : Nat := 67
abbrev t_a64_uint8 : Nat := 68
abbrev t_a65_uint8 : Nat := 63
abbrev t_abi_BoundsErrorCode : Nat := 6
abbrev t_abi_Kind : Nat := 77
abbrev t_abi_NameOff : Nat := 80
abbrev t_abi_TFlag : Nat := 76
abbrev t_abi_Type : Nat := 83
abbrev t_abi_TypeOff : Nat := 81
abbrev t_api_Custody : Nat := 23
abbrev t_api_Errno : Nat := 31
abbrev t_api_Move : Nat := 30
abbrev t_bool : Nat := 4
abbrev t_int : Nat := 3
abbrev t_int32 : Nat := 21
abbrev t_int64 : Nat := 2
abbrev t_maps_unhashableTypeError : Nat := 19
abbrev t_p_abi_Type : Nat := 17
abbrev t_p_runtime_PanicNilError : Nat := 16
abbrev t_p_runtime_TypeAssertionError : Nat := 15
abbrev t_p_uint8 : Nat := 79
abbrev t_runtime_PanicNilError : Nat := 74
abbrev t_runtime_TypeAssertionError : Nat := 71
abbrev t_runtime_boundsError : Nat := 8
abbrev t_runtime_errorAddressString : Nat := 14
abbrev t_runtime_errorString : Nat := 10
abbrev t_runtime_plainError : Nat := 11
abbrev t_s_api_Move : Nat := 35
abbrev t_s_int : Nat := 45
abbrev t_s_uint8 : Nat := 52
abbrev t_string : Nat := 9
abbrev t_uint : Nat := 64
abbrev t_uint16 : Nat := 43
abbrev t_uint32 : Nat := 62
abbrev t_uint64 : Nat := 55
abbrev t_uint8 : Nat := 5
abbrev t_uintptr : Nat := 12
abbrev t_unsafe_Pointer : Nat := 84
def tabZ_math_bits_deBruijn32tab : List Int := [0, 1, 28, 2, 29, 14, 24, 3, 30, 22, 20, 15, 25, 17, 4, 8, 31, 27, 13, 23, 21, 19, 16, 7, 26, 12, 18, 6, 11, 5, 10, 9]
@[simp] theorem tabZ_math_bits_deBruijn32tab_len : tabZ_math_bits_deBruijn32tab.length = 32 := rfl
def tabL0 : TabL := ⟨ "math/bits.deBruijn32tab", 2, .u8, tabZ_math_bits_deBruijn32tab⟩
def tabZ_math_bits_deBruijn64tab : List Int := [0, 1, 56, 2, 57, 49, 28, 3, 61, 58, 42, 50, 38, 29, 17, 4, 62, 47, 59, 36, 45, 43, 51, 22, 53, 39, 33, 30, 24, 18, 12, 5, 63, 55, 48, 27, 60, 41, 37, 16, 46, 35, 44, 21, 52, 32, 23, 11, 54, 26, 40, 15, 34, 20, 31, 10, 25, 14, 19, 9, 13, 8, 7, 6]
@[simp] theorem tabZ_math_bits_deBruijn64tab_len : tabZ_math_bits_deBruijn64tab.length = 64 := rfl
def tabL1 : TabL := ⟨ "math/bits.deBruijn64tab", 3, .u8, tabZ_math_bits_deBruijn64tab⟩
def tabZ_internal_strconv_uint64pow10 : List Int := [1, 10, 100, 1000, 10000, 100000, 1000000, 10000000, 100000000, 1000000000, 10000000000, 100000000000, 1000000000000, 10000000000000, 100000000000000, 1000000000000000, 10000000000000000, 100000000000000000, 1000000000000000000, 10000000000000000000]
@[simp] theorem tabZ_internal_strconv_uint64pow10_len : tabZ_internal_strconv_uint64pow10.length = 20 := rfl
def tabL2 : TabL := ⟨ "internal/strconv.uint64pow10", 1, .u64, tabZ_internal_strconv_uint64pow10⟩
def tabZ_custody_moves : List Int := [0, 32770, 41316, 42344, 6160, 8268, 8320, 8704, 16, 4112, 32784, 49152, 0]
@[simp] theorem tabZ_custody_moves_len : tabZ_custody_moves.length = 13 := rfl
def tabL3 : TabL := ⟨ "library/custody.moves", 0, .u16, tabZ_custody_moves⟩
def tabL : List TabL := [tabL0, tabL1, tabL2, tabL3]
theorem tabL_g : ∀ x ∈ tabL, Tryd.prog.globalNamed x.name = some x.g := by
  intro x hx
  simp only [tabL, List.mem_cons, List.not_mem_nil, or_false] at hx
  rcases hx with rfl | rfl | rfl | rfl <;> kernel_rfl
theorem tabL_r : ∀ x ∈ tabL, ∀ z ∈ x.zs, x.k.min ≤ z ∧ z ≤ x.k.max := by decide +kernel
instance amb : Amb := Amb.tabs Tryd.prog tabL tabL_g tabL_r
@[simp] theorem amb_tab2 : Amb.tab 2 = some (tabZ_math_bits_deBruijn32tab.map (D.int .u8)) := rfl
@[simp] theorem amb_tab3 : Amb.tab 3 = some (tabZ_math_bits_deBruijn64tab.map (D.int .u8)) := rfl
@[simp] theorem amb_tab1 : Amb.tab 1 = some (tabZ_internal_strconv_uint64pow10.map (D.int .u64)) := rfl
@[simp] theorem amb_tab0 : Amb.tab 0 = some (tabZ_custody_moves.map (D.int .u16)) := rfl
theorem amb_is2 {w : World} {S : Nat → Nat → Prop} (h : Amb.G w S) : Go.Lib.TabIs Tryd.prog w "math/bits.deBruijn32tab" .u8 [0, 1, 28, 2, 29, 14, 24, 3, 30, 22, 20, 15, 25, 17, 4, 8, 31, 27, 13, 23, 21, 19, 16, 7, 26, 12, 18, 6, 11, 5, 10, 9] := (h tabL0 (by simp [tabL])).1
theorem amb_is3 {w : World} {S : Nat → Nat → Prop} (h : Amb.G w S) : Go.Lib.TabIs Tryd.prog w "math/bits.deBruijn64tab" .u8 [0, 1, 56, 2, 57, 49, 28, 3, 61, 58, 42, 50, 38, 29, 17, 4, 62, 47, 59, 36, 45, 43, 51, 22, 53, 39, 33, 30, 24, 18, 12, 5, 63, 55, 48, 27, 60, 41, 37, 16, 46, 35, 44, 21, 52, 32, 23, 11, 54, 26, 40, 15, 34, 20, 31, 10, 25, 14, 19, 9, 13, 8, 7, 6] := (h tabL1 (by simp [tabL])).1
theorem amb_is1 {w : World} {S : Nat → Nat → Prop} (h : Amb.G w S) : Go.Lib.TabIs Tryd.prog w "internal/strconv.uint64pow10" .u64 [1, 10, 100, 1000, 10000, 100000, 1000000, 10000000, 100000000, 1000000000, 10000000000, 100000000000, 1000000000000, 10000000000000, 100000000000000, 1000000000000000, 10000000000000000, 100000000000000000, 1000000000000000000, 10000000000000000000] := (h tabL2 (by simp [tabL])).1
theorem amb_is0 {w : World} {S : Nat → Nat → Prop} (h : Amb.G w S) : Go.Lib.TabIs Tryd.prog w "library/custody.moves" .u16 [0, 32770, 41316, 42344, 6160, 8268, 8320, 8704, 16, 4112, 32784, 49152, 0] := (h tabL3 (by simp [tabL])).1
theorem mixed : E.P.follows .mixedOrders = true := by kernel_rfl
end Go.Proofs.YtabmhpgbfjkkcaaDoor

/- Custody of items: what the functions compute. -/
namespace Pl
open Go Ab
set_option linter.unusedVariables false
set_option linter.unusedSimpArgs false

structure Custody where
  st : Int
  br : Int
  who : Int
  to : Int
  deriving DecidableEq
structure Mv where
  day : Int
  item : Int
  kind : Int
  br : Int
  who : Int
  deriving DecidableEq
def encCus (c : Custody) : D := .agg [.int .i64 c.st, .int .i64 c.br, .int .i64 c.who, .int .i64 c.to]
theorem encCus_eq (c : Custody) : encCus c = .agg [.int .i64 c.st, .int .i64 c.br, .int .i64 c.who, .int .i64 c.to] := rfl
def encMove (m : Mv) : D := .agg [.int .i64 m.day, .int .i64 m.item, .int .i64 m.kind, .int .i64 m.br, .int .i64 m.who]
theorem encMove_eq (m : Mv) : encMove m = .agg [.int .i64 m.day, .int .i64 m.item, .int .i64 m.kind, .int .i64 m.br, .int .i64 m.who] := rfl
@[simp] theorem encMove_cells (m : Mv) : (encMove m).cells = [.int .i64 m.day, .int .i64 m.item, .int .i64 m.kind, .int .i64 m.br, .int .i64 m.who] := rfl
def zm : Mv := ⟨0, 0, 0, 0, 0⟩
def encMoves (l : List Mv) : D := .slice (encMove zm) (l.map encMove)
theorem encMoves_eq (l : List Mv) : encMoves l = .slice (encMove zm) (l.map encMove) := rfl
def encInts' (l : List Int) : D := .slice (.int .i64 0) (l.map (D.int .i64))
theorem encInts'_eq (l : List Int) : encInts' l = .slice (.int .i64 0) (l.map (D.int .i64)) := rfl

def wiB (n a b : Int) : Bool := decide (a ≤ n) && decide (n ≤ b)
def PersC (s : Int) : Prop := s = 4 ∨ s = 5 ∨ s = 8 ∨ s = 9 ∨ s = 10
instance (s : Int) : Decidable (PersC s) := by unfold PersC; infer_instance
def persB (s : Int) : Bool := (((s == 4 || s == 5) || s == 8) || s == 9) || s == 10
def RightC (c : Custody) : Prop :=
  (1 ≤ c.st ∧ c.st ≤ 12 ∧ 1 ≤ c.br ∧ c.br ≤ 4) ∧
  ((c.st = 6 ∧ 0 ≤ c.who ∧ c.who ≤ 9999 ∧ 1 ≤ c.to ∧ c.to ≤ 4 ∧ ¬ c.to = c.br) ∨ (PersC c.st ∧ 1 ≤ c.who ∧ c.who ≤ 9999 ∧ c.to = 0) ∨ (¬ c.st = 6 ∧ ¬ PersC c.st ∧ c.who = 0 ∧ c.to = 0))
instance (c : Custody) : Decidable (RightC c) := by unfold RightC; infer_instance
def rightB (c : Custody) : Bool := decide (RightC c)
theorem rightB_iff {c : Custody} : rightB c = true ↔ ((1 ≤ c.st ∧ c.st ≤ 12 ∧ 1 ≤ c.br ∧ c.br ≤ 4) ∧
    ((c.st = 6 ∧ 0 ≤ c.who ∧ c.who ≤ 9999 ∧ 1 ≤ c.to ∧ c.to ≤ 4 ∧ ¬ c.to = c.br) ∨ ((c.st = 4 ∨ c.st = 5 ∨ c.st = 8 ∨ c.st = 9 ∨ c.st = 10) ∧ 1 ≤ c.who ∧ c.who ≤ 9999 ∧ c.to = 0) ∨ (¬ c.st = 6 ∧ ¬ (c.st = 4 ∨ c.st = 5 ∨ c.st = 8 ∨ c.st = 9 ∨ c.st = 10) ∧ c.who = 0 ∧ c.to = 0))) := by
  unfold rightB; rw [decide_eq_true_eq]; rfl
def awayB (c : Custody) : Bool := decide (c.st = 4 ∨ c.st = 8 ∨ c.st = 7 ∨ c.st = 6 ∨ c.st = 9)
def statesL (k : Int) : List Int :=
  if k = 1 then [1] else if k = 2 then [2, 5] else if k = 3 then [3, 5] else if k = 4 then [4, 8, 9, 10] else if k = 5 ∨ k = 8 then [2, 3] else if k = 6 then [2, 3, 5]
  else if k = 7 then [6] else if k = 9 then [7] else if k = 10 then [3] else if k = 11 then [4] else if k = 12 then [4, 9] else if k = 13 then [2, 3, 5, 6, 7] else if k = 14 then [11]
  else if k = 15 then [1, 2, 3, 11, 10] else []
def allowB (s k : Int) : Bool := (statesL k).contains s
def memF (s : Int) : Unit → List Int → Bool
  | _, [] => false
  | _, x :: l => if x = s then true else memF s () l
theorem memF_eq (s : Int) : ∀ l, memF s () l = l.contains s
  | [] => rfl
  | x :: l => by
    simp only [memF, List.contains_cons, memF_eq s l]
    by_cases h : x = s
    · subst h; simp
    · have : ¬ s = x := fun e => h e.symm
      simp [h, this]
def movesL : List Int := [0, 32770, 41316, 42344, 6160, 8268, 8320, 8704, 16, 4112, 32784, 49152, 0]
def bitB (s k : Int) : Bool := bits BinOp.and IntKind.u16 ((movesL[s.toNat]?.getD 0).fdiv (2 ^ min k.toNat IntKind.u16.bits)) 1 == 1
theorem bit_all : ∀ (s : Fin 13) (k : Fin 16), (1 ≤ s.val ∧ s.val ≤ 12 ∧ 1 ≤ k.val ∧ k.val ≤ 15) → bitB (s.val : Int) (k.val : Int) = allowB (s.val : Int) (k.val : Int) := by decide +kernel
theorem states_rng : ∀ (k : Fin 16), ∀ x ∈ statesL (k.val : Int), 1 ≤ x ∧ x ≤ 12 ∧ 1 ≤ k.val := by decide +kernel
theorem states_out {k : Int} (h : ¬ (1 ≤ k ∧ k ≤ 15)) : statesL k = [] := by
  simp [statesL, show ¬ k = 1 by omega, show ¬ k = 2 by omega, show ¬ k = 3 by omega, show ¬ k = 4 by omega, show ¬ k = 5 by omega, show ¬ k = 6 by omega, show ¬ k = 7 by omega, show ¬ k = 8 by omega,
    show ¬ k = 9 by omega, show ¬ k = 10 by omega, show ¬ k = 11 by omega, show ¬ k = 12 by omega, show ¬ k = 13 by omega, show ¬ k = 14 by omega, show ¬ k = 15 by omega]
theorem states_len5 : ∀ (k : Fin 16), (statesL (k.val : Int)).length ≤ 5 := by decide +kernel
theorem states_len (k : Int) : (statesL k).length ≤ 5 := by
  by_cases hk : 1 ≤ k ∧ k ≤ 15
  · have := states_len5 ⟨k.toNat, by omega⟩
    simpa only [show ((k.toNat : Nat) : Int) = k by omega] using this
  · rw [states_out hk]; simp
theorem allow_in {s k : Int} (h : allowB s k = true) : (1 ≤ s ∧ s ≤ 12) ∧ 1 ≤ k ∧ k ≤ 15 := by
  by_cases hk : 1 ≤ k ∧ k ≤ 15
  · have hm : s ∈ statesL k := by unfold allowB at h; rwa [List.contains_iff_mem] at h
    have := states_rng ⟨k.toNat, by omega⟩ s (by simp only [show ((k.toNat : Nat) : Int) = k by omega]; exact hm)
    omega
  · unfold allowB at h
    rw [states_out hk] at h
    simp at h
theorem allow_eq (s k : Int) : allowB s k = ((wiB s 1 12 && wiB k 1 15) && bitB s k) := by
  by_cases h : (1 ≤ s ∧ s ≤ 12) ∧ 1 ≤ k ∧ k ≤ 15
  · have := bit_all ⟨s.toNat, by omega⟩ ⟨k.toNat, by omega⟩ (by simp only; omega)
    simp only [show ((s.toNat : Nat) : Int) = s by omega, show ((k.toNat : Nat) : Int) = k by omega] at this
    rw [← this]
    simp [wiB, h.1.1, h.1.2, h.2.1, h.2.2]
  · have h1 : allowB s k = false := by
      cases ha : allowB s k with
      | false => rfl
      | true => exact absurd (allow_in ha) h
    have h2 : (wiB s 1 12 && wiB k 1 15) = false := by
      rw [Bool.eq_false_iff]
      simp only [wiB, ne_eq, Bool.and_eq_true, decide_eq_true_eq]
      exact h
    rw [h1, h2]; rfl
def MoveC (m : Mv) : Prop := 0 ≤ m.day ∧ m.day ≤ 109572 ∧ 1 ≤ m.item ∧ m.item ≤ 9999 ∧ 1 ≤ m.kind ∧ m.kind ≤ 15 ∧ 1 ≤ m.br ∧ m.br ≤ 4 ∧ 0 ≤ m.who ∧ m.who ≤ 9999
instance (m : Mv) : Decidable (MoveC m) := by unfold MoveC; infer_instance
def moveB (m : Mv) : Bool := decide (MoveC m)
theorem moveB_iff {m : Mv} : moveB m = true ↔ (0 ≤ m.day ∧ m.day ≤ 109572 ∧ 1 ≤ m.item ∧ m.item ≤ 9999 ∧ 1 ≤ m.kind ∧ m.kind ≤ 15 ∧ 1 ≤ m.br ∧ m.br ≤ 4 ∧ 0 ≤ m.who ∧ m.who ≤ 9999) := by unfold moveB; rw [decide_eq_true_eq]; rfl
def c00 : Custody := ⟨0, 0, 0, 0⟩
def chkR (c : Custody) (ok : Bool) : Custody × Int := if ok = true then (c, 0) else (c00, 1)
/-- does the move have the branch and the person that the table asks for -/
def fitB (c : Custody) (m : Mv) : Bool :=
  if m.kind = 1 ∨ m.kind = 4 ∨ m.kind = 9 ∨ m.kind = 14 then m.who == 0
  else if m.kind = 7 then m.who == 0 && m.br == c.to
  else if m.kind = 6 then m.br != c.br
  else if m.kind = 3 ∨ m.kind = 5 ∨ m.kind = 10 then m.br == c.br && decide (1 ≤ m.who)
  else m.br == c.br && m.who == 0
/-- the state behind a move -/
def aftR (k : Int) : Int :=
  if k = 1 ∨ k = 4 ∨ k = 7 ∨ k = 9 ∨ k = 14 then 2 else if k = 2 then 3 else if k = 3 then 4 else if k = 5 then 5 else if k = 6 then 6 else if k = 8 then 7 else if k = 10 then 8
  else if k = 11 then 9 else if k = 12 then 10 else if k = 13 then 11 else 12
def movR (c : Custody) (m : Mv) : Custody :=
  if aftR m.kind = 2 then ⟨2, m.br, 0, 0⟩
  else if aftR m.kind = 4 ∨ aftR m.kind = 5 ∨ aftR m.kind = 8 then ⟨aftR m.kind, c.br, m.who, 0⟩
  else if aftR m.kind = 6 then ⟨6, c.br, m.who, m.br⟩
  else if aftR m.kind = 9 ∨ aftR m.kind = 10 then ⟨aftR m.kind, c.br, c.who, 0⟩
  else ⟨aftR m.kind, c.br, 0, 0⟩
def applyR (c : Custody) (m : Mv) : Custody × Int :=
  if rightB c = false ∨ moveB m = false then (c00, 1)
  else if allowB c.st m.kind = false then (c00, 12)
  else if (m.kind = 3 ∧ c.st = 5) ∧ ¬ m.who = c.who then (c00, 16)
  else if fitB c m = false then (c00, 1) else (movR c m, 0)
section
variable {c : Custody} {m : Mv}
theorem app_a (h : rightB c = false ∨ moveB m = false) : applyR c m = (c00, 1) := if_pos h
theorem app_n (h : rightB c = true ∧ moveB m = true) : ¬ (rightB c = false ∨ moveB m = false) := by simp [h.1, h.2]
theorem app_b (h : rightB c = true ∧ moveB m = true) (h2 : allowB c.st m.kind = false) : applyR c m = (c00, 12) := by unfold applyR; rw [if_neg (app_n h), if_pos h2]
theorem app_c (h : rightB c = true ∧ moveB m = true) (h2 : allowB c.st m.kind = true) (h3 : (m.kind = 3 ∧ c.st = 5) ∧ ¬ m.who = c.who) : applyR c m = (c00, 16) := by
  unfold applyR; rw [if_neg (app_n h), if_neg (by simp [h2]), if_pos h3]
theorem app_d (h : rightB c = true ∧ moveB m = true) (h2 : allowB c.st m.kind = true) (h3 : ¬ ((m.kind = 3 ∧ c.st = 5) ∧ ¬ m.who = c.who)) : applyR c m = if fitB c m = false then (c00, 1) else (movR c m, 0) := by
  unfold applyR; rw [if_neg (app_n h), if_neg (by simp [h2]), if_neg h3]
theorem app_e (h : rightB c = true ∧ moveB m = true) (h2 : allowB c.st m.kind = true) (h3 : ¬ ((m.kind = 3 ∧ c.st = 5) ∧ ¬ m.who = c.who)) (h4 : fitB c m = false) : applyR c m = (c00, 1) := by rw [app_d h h2 h3, if_pos h4]
theorem app_f (h : rightB c = true ∧ moveB m = true) (h2 : allowB c.st m.kind = true) (h3 : ¬ ((m.kind = 3 ∧ c.st = 5) ∧ ¬ m.who = c.who)) (h4 : fitB c m = true) : applyR c m = (movR c m, 0) := by rw [app_d h h2 h3, if_neg (by simp [h4])]
end
def repF (b : Int) (item : Int) : Custody × Nat → List Mv → Custody × Int × Int
  | (c, _), [] => (c, -1, 0)
  | (c, k), m :: l => if ¬ m.item = item then repF b item (c, k + 1) l else if ¬ (applyR c m).2 = 0 then (c00, (k : Int), (applyR c m).2) else repF b item ((applyR c m).1, k + 1) l
def replayR (b : Int) (l : List Mv) (item : Int) : Custody × Int × Int := if b < 1 ∨ 4 < b then (c00, -1, 1) else repF b item (⟨1, b, 0, 0⟩, 0) l
theorem rep_bad {b item : Int} {l : List Mv} (h : b < 1 ∨ 4 < b) : replayR b l item = (c00, -1, 1) := if_pos h
theorem rep_ok {b item : Int} {l : List Mv} (h : 1 ≤ b ∧ b ≤ 4) : replayR b l item = repF b item (⟨1, b, 0, 0⟩, 0) l := if_neg (by omega)
/-- the switch of the program -/
def progR (c : Custody) (m : Mv) : Custody × Int :=
  if m.kind = 1 ∨ m.kind = 4 ∨ m.kind = 9 ∨ m.kind = 14 then chkR ⟨2, m.br, m.who, 0⟩ (m.who == 0)
  else if m.kind = 7 then chkR ⟨2, m.br, m.who, 0⟩ (m.who == 0 && m.br == c.to)
  else if m.kind = 6 then chkR ⟨6, c.br, m.who, m.br⟩ (!(m.br == c.br))
  else if m.kind = 3 then chkR ⟨4, m.br, m.who, 0⟩ (m.br == c.br && !(m.who == 0))
  else if m.kind = 5 then chkR ⟨5, m.br, m.who, 0⟩ (m.br == c.br && !(m.who == 0))
  else if m.kind = 10 then chkR ⟨8, m.br, m.who, 0⟩ (m.br == c.br && !(m.who == 0))
  else if m.kind = 2 then chkR ⟨3, m.br, m.who, 0⟩ (m.br == c.br && m.who == 0)
  else if m.kind = 8 then chkR ⟨7, m.br, m.who, 0⟩ (m.br == c.br && m.who == 0)
  else if m.kind = 11 then chkR ⟨9, c.br, c.who, 0⟩ (m.br == c.br && m.who == 0)
  else if m.kind = 12 then chkR ⟨10, c.br, c.who, 0⟩ (m.br == c.br && m.who == 0)
  else if m.kind = 13 then chkR ⟨11, m.br, m.who, 0⟩ (m.br == c.br && m.who == 0)
  else if m.kind = 15 then chkR ⟨12, m.br, m.who, 0⟩ (m.br == c.br && m.who == 0)
  else chkR ⟨0, m.br, m.who, 0⟩ false
theorem progR_eq {c : Custody} {m : Mv} (h : moveB m = true) : progR c m = if fitB c m = false then (c00, 1) else (movR c m, 0) := by
  rw [moveB_iff] at h
  have hk : m.kind = 1 ∨ m.kind = 2 ∨ m.kind = 3 ∨ m.kind = 4 ∨ m.kind = 5 ∨ m.kind = 6 ∨ m.kind = 7 ∨ m.kind = 8 ∨ m.kind = 9 ∨ m.kind = 10 ∨ m.kind = 11 ∨ m.kind = 12 ∨ m.kind = 13 ∨ m.kind = 14 ∨ m.kind = 15 := by omega
  have hw : m.who = 0 ∨ (¬ m.who = 0 ∧ 1 ≤ m.who) := by omega
  rcases hw with hw | ⟨hw, hw1⟩
  · by_cases hb : m.br = c.br
    · by_cases ht : m.br = c.to
      · rcases hk with hk | hk | hk | hk | hk | hk | hk | hk | hk | hk | hk | hk | hk | hk | hk <;> simp [progR, chkR, fitB, movR, aftR, hk, hw, ← hb, ← ht]
      · rcases hk with hk | hk | hk | hk | hk | hk | hk | hk | hk | hk | hk | hk | hk | hk | hk <;> rw [hb] at ht <;> simp [progR, chkR, fitB, movR, aftR, hk, hw, hb, ht]
    · by_cases ht : m.br = c.to
      · rcases hk with hk | hk | hk | hk | hk | hk | hk | hk | hk | hk | hk | hk | hk | hk | hk <;> rw [ht] at hb <;> simp [progR, chkR, fitB, movR, aftR, hk, hw, hb, ht]
      · rcases hk with hk | hk | hk | hk | hk | hk | hk | hk | hk | hk | hk | hk | hk | hk | hk <;> simp [progR, chkR, fitB, movR, aftR, hk, hw, hb, ht]
  · by_cases hb : m.br = c.br
    · rcases hk with hk | hk | hk | hk | hk | hk | hk | hk | hk | hk | hk | hk | hk | hk | hk <;> simp [progR, chkR, fitB, movR, aftR, hk, hw, hw1, hb]
    · rcases hk with hk | hk | hk | hk | hk | hk | hk | hk | hk | hk | hk | hk | hk | hk | hk <;> simp [progR, chkR, fitB, movR, aftR, hk, hw, hw1, hb]
theorem app_p {c : Custody} {m : Mv} (h : rightB c = true ∧ moveB m = true) (h2 : allowB c.st m.kind = true) (h3 : ¬ ((m.kind = 3 ∧ c.st = 5) ∧ ¬ m.who = c.who)) : applyR c m = progR c m := by
  rw [app_d h h2 h3, progR_eq h.2]
end Pl

/- Numbers as text. -/
namespace Pl
open Go Ab
set_option linter.unusedVariables false
set_option linter.unusedSimpArgs false
theorem dig_eq {x : Int} (h0 : 0 ≤ x) (h1 : x < 10) : Ab.byteOf (D.int IntKind.u8 (IntKind.u8.wrap (IntKind.i64.wrap (48 + x)))) = UInt8.ofNat (48 + x.toNat) := by
  rw [wrap_i64 (by omega) (by omega)]
  have e : IntKind.u8.wrap (48 + x) = 48 + x := by rw [IntKind.wrap_u8]; omega
  rw [e]
  have : (48 + x).toNat = 48 + x.toNat := by omega
  simp [Ab.byteOf, this]
theorem itoa_pos {n : Int} (h : 0 ≤ n) : Go.Lib.itoa n = Go.Lib.decDigits n.toNat := by unfold Go.Lib.itoa; rw [if_neg (by omega)]
theorem itoa_len {n : Int} (h0 : 0 ≤ n) (h1 : n ≤ 9223372036854775807) : (Go.Lib.itoa n).length ≤ 21 := Go.Lib.itoa_length_le n (by omega) h1
theorem dec_step {x : Int} (h : 10 ≤ x) (s : List UInt8) :
    Go.Lib.decDigits (x.tdiv 10).toNat ++ (Ab.byteOf (D.int IntKind.u8 (IntKind.u8.wrap (IntKind.i64.wrap (48 + x.tmod 10)))) :: s) = Go.Lib.decDigits x.toNat ++ s := by
  rw [Int.tmod_eq_emod_of_nonneg (by omega), dig_eq (by omega) (by omega), Int.tdiv_eq_ediv_of_nonneg (by omega)]
  have e1 : (x / 10).toNat = x.toNat / 10 := by omega
  have e2 : (x % 10).toNat = x.toNat % 10 := by omega
  rw [e1, e2]
  conv => rhs; rw [Go.Lib.decDigits, dif_neg (by omega)]
  simp
theorem dec_last {x : Int} (h0 : 0 ≤ x) (h : x < 10) (s : List UInt8) :
    Ab.byteOf (D.int IntKind.u8 (IntKind.u8.wrap (IntKind.i64.wrap (48 + x)))) :: s = Go.Lib.decDigits x.toNat ++ s := by
  rw [dig_eq h0 h, Go.Lib.decDigits, dif_pos (by omega)]; rfl
end Pl

/- Custody: its text. -/
namespace Pl
open Go Ab
set_option linter.unusedVariables false
set_option linter.unusedSimpArgs false
def textT (c : Custody) : List UInt8 :=
  if c.st = 1 then [111, 110, 32, 111, 114, 100, 101, 114, 32, 97, 116, 32] ++ Go.Lib.itoa c.br
  else if c.st = 2 then [105, 110, 32, 112, 114, 111, 99, 101, 115, 115, 105, 110, 103, 32, 97, 116, 32] ++ Go.Lib.itoa c.br
  else if c.st = 3 then [111, 110, 32, 116, 104, 101, 32, 115, 104, 101, 108, 102, 32, 97, 116, 32] ++ Go.Lib.itoa c.br
  else if c.st = 4 then [111, 110, 32, 108, 111, 97, 110, 32, 116, 111, 32] ++ Go.Lib.itoa c.who
  else if c.st = 5 then (([114, 101, 97, 100, 121, 32, 102, 111, 114, 32] ++ Go.Lib.itoa c.who) ++ [32, 97, 116, 32]) ++ Go.Lib.itoa c.br
  else if c.st = 6 then (([111, 110, 32, 105, 116, 115, 32, 119, 97, 121, 32, 102, 114, 111, 109, 32] ++ Go.Lib.itoa c.br) ++ [32, 116, 111, 32]) ++ Go.Lib.itoa c.to
  else if c.st = 7 then [97, 116, 32, 116, 104, 101, 32, 98, 105, 110, 100, 101, 114]
  else if c.st = 8 then [108, 101, 110, 116, 32, 116, 111, 32, 112, 97, 114, 116, 110, 101, 114, 32] ++ Go.Lib.itoa c.who
  else if c.st = 9 then [99, 108, 97, 105, 109, 101, 100, 32, 114, 101, 116, 117, 114, 110, 101, 100, 32, 98, 121, 32] ++ Go.Lib.itoa c.who
  else if c.st = 10 then [108, 111, 115, 116, 32, 98, 121, 32] ++ Go.Lib.itoa c.who
  else if c.st = 11 then [109, 105, 115, 115, 105, 110, 103]
  else [119, 105, 116, 104, 100, 114, 97, 119, 110]
def textR (c : Custody) : List UInt8 := if rightB c = false then [] else textT c
theorem text_bad {c : Custody} (h : rightB c = false) : textR c = [] := if_pos h
theorem text_ok {c : Custody} (h : rightB c = true) : textR c = textT c := if_neg (by simp [h])
theorem right_rng {c : Custody} (h : rightB c = true) : (1 ≤ c.st ∧ c.st ≤ 12) ∧ (1 ≤ c.br ∧ c.br ≤ 4) ∧ (0 ≤ c.who ∧ c.who ≤ 9999) ∧ 0 ≤ c.to ∧ c.to ≤ 4 := by
  rw [rightB_iff] at h; omega
theorem right_len {c : Custody} (h : rightB c = true) : (Go.Lib.itoa c.br).length ≤ 21 ∧ (Go.Lib.itoa c.who).length ≤ 21 ∧ (Go.Lib.itoa c.to).length ≤ 21 := by
  have := right_rng h
  exact ⟨itoa_len (by omega) (by omega), itoa_len (by omega) (by omega), itoa_len (by omega) (by omega)⟩
theorem text_len (c : Custody) : (textR c).length ≤ 200 := by
  cases h : rightB c with
  | false => rw [text_bad h]; simp
  | true =>
    have hl := right_len h
    rw [text_ok h]
    unfold textT
    have one : ∀ (a b : List UInt8), a.length ≤ 100 → b.length ≤ 21 → (a ++ b).length ≤ 200 := fun a b h1 h2 => by rw [List.length_append]; omega
    have two : ∀ (a b d e : List UInt8), a.length ≤ 50 → b.length ≤ 21 → d.length ≤ 50 → e.length ≤ 21 → (((a ++ b) ++ d) ++ e).length ≤ 200 := fun a b d e h1 h2 h3 h4 => by rw [List.length_append, List.length_append, List.length_append]; omega
    have nil : ∀ a : List UInt8, a.length ≤ 100 → a.length ≤ 200 := fun a h => by omega
    by_cases e1 : c.st = 1
    · rw [if_pos e1]; exact one _ _ (by decide) hl.1
    rw [if_neg e1]
    by_cases e2 : c.st = 2
    · rw [if_pos e2]; exact one _ _ (by decide) hl.1
    rw [if_neg e2]
    by_cases e3 : c.st = 3
    · rw [if_pos e3]; exact one _ _ (by decide) hl.1
    rw [if_neg e3]
    by_cases e4 : c.st = 4
    · rw [if_pos e4]; exact one _ _ (by decide) hl.2.1
    rw [if_neg e4]
    by_cases e5 : c.st = 5
    · rw [if_pos e5]; exact two _ _ _ _ (by decide) hl.2.1 (by decide) hl.1
    rw [if_neg e5]
    by_cases e6 : c.st = 6
    · rw [if_pos e6]; exact two _ _ _ _ (by decide) hl.1 (by decide) hl.2.2
    rw [if_neg e6]
    by_cases e7 : c.st = 7
    · rw [if_pos e7]; exact nil _ (by decide)
    rw [if_neg e7]
    by_cases e8 : c.st = 8
    · rw [if_pos e8]; exact one _ _ (by decide) hl.2.1
    rw [if_neg e8]
    by_cases e9 : c.st = 9
    · rw [if_pos e9]; exact one _ _ (by decide) hl.2.1
    rw [if_neg e9]
    by_cases e10 : c.st = 10
    · rw [if_pos e10]; exact one _ _ (by decide) hl.2.1
    rw [if_neg e10]
    by_cases e11 : c.st = 11
    · rw [if_pos e11]; exact nil _ (by decide)
    rw [if_neg e11]
    exact nil _ (by decide)
theorem app_zero {c : Custody} {m : Mv} (h : ¬ (applyR c m).2 = 0) : (applyR c m).1 = c00 := by
  unfold applyR at h ⊢
  split
  · rfl
  · rename_i h1
    rw [if_neg h1] at h
    split
    · rfl
    · rename_i h2
      rw [if_neg h2] at h
      split
      · rfl
      · rename_i h3
        rw [if_neg h3] at h
        split
        · rfl
        · rename_i h4
          rw [if_neg h4] at h
          exact absurd rfl h
theorem allow_gone (k : Int) : allowB 12 k = false := by
  cases h : allowB 12 k with
  | false => rfl
  | true =>
    have := allow_in h
    have hk : ∀ i : Fin 16, allowB 12 (i.val : Int) = false := by decide +kernel
    have := hk ⟨k.toNat, by omega⟩
    rw [show ((k.toNat : Nat) : Int) = k by omega] at this
    rw [this] at h; cases h
theorem app_ok {c : Custody} {m : Mv} (h : (applyR c m).2 = 0) : rightB c = true ∧ moveB m = true ∧ allowB c.st m.kind = true ∧ fitB c m = true ∧ (applyR c m).1 = movR c m := by
  unfold applyR at h ⊢
  split at h
  · exact absurd h (by decide)
  · rename_i h1
    split at h
    · exact absurd h (by decide)
    · rename_i h2
      split at h
      · exact absurd h (by decide)
      · rename_i h3
        split at h
        · exact absurd h (by decide)
        · rename_i h4
          rw [if_neg h1, if_neg h2, if_neg h3, if_neg h4]
          have ha : rightB c = true := by cases hr : rightB c <;> simp_all
          have hb : moveB m = true := by cases hr : moveB m <;> simp_all
          exact ⟨ha, hb, by simpa using h2, by simpa using h4, rfl⟩
theorem mov_right {c : Custody} {m : Mv} (h1 : rightB c = true) (h2 : moveB m = true) (h3 : allowB c.st m.kind = true) (h4 : fitB c m = true) : rightB (movR c m) = true := by
  have hst : ∀ s k : Int, allowB s k = true → (k = 11 ∨ k = 12) → s = 4 ∨ s = 9 := by
    intro s k h hk
    unfold allowB at h
    rcases hk with rfl | rfl <;> simp [statesL] at h <;> omega
  rw [rightB_iff] at h1 ⊢
  rw [moveB_iff] at h2
  have hk : m.kind = 1 ∨ m.kind = 2 ∨ m.kind = 3 ∨ m.kind = 4 ∨ m.kind = 5 ∨ m.kind = 6 ∨ m.kind = 7 ∨ m.kind = 8 ∨ m.kind = 9 ∨ m.kind = 10 ∨ m.kind = 11 ∨ m.kind = 12 ∨ m.kind = 13 ∨ m.kind = 14 ∨ m.kind = 15 := by omega
  have hs := hst c.st m.kind h3
  rcases hk with hk | hk | hk | hk | hk | hk | hk | hk | hk | hk | hk | hk | hk | hk | hk <;> simp [fitB, hk] at h4 <;> simp [movR, aftR, hk] at hs ⊢ <;> omega
theorem app_stays {c : Custody} {m : Mv} (h : (applyR c m).2 = 0) : rightB c = true ∧ rightB (applyR c m).1 = true ∧ allowB c.st m.kind = true ∧ (¬ c.st = 12) ∧ allowB 12 m.kind = false := by
  obtain ⟨a1, a2, a3, a4, a5⟩ := app_ok h
  refine ⟨a1, by rw [a5]; exact mov_right a1 a2 a3 a4, a3, fun e => ?_, allow_gone _⟩
  rw [e, allow_gone] at a3; cases a3
theorem itoa_one {n : Int} (h0 : 0 ≤ n) (h1 : n < 10) : Go.Lib.itoa n = [UInt8.ofNat (48 + n.toNat)] := by rw [itoa_pos h0, Go.Lib.decDigits_one (by omega)]
def mvs : List Mv := [⟨0, 5, 1, 1, 0⟩, ⟨0, 5, 2, 1, 0⟩, ⟨0, 5, 3, 1, 7⟩, ⟨0, 5, 4, 3, 0⟩, ⟨0, 5, 6, 1, 0⟩]
theorem text_a : textR ⟨4, 1, 7, 0⟩ = [111, 110, 32, 108, 111, 97, 110, 32, 116, 111, 32, 55] := by
  rw [text_ok (by decide +kernel)]; simp [textT, itoa_one]
theorem text_b : textR ⟨6, 3, 0, 1⟩ = [111, 110, 32, 105, 116, 115, 32, 119, 97, 121, 32, 102, 114, 111, 109, 32, 51, 32, 116, 111, 32, 49] := by
  rw [text_ok (by decide +kernel)]; simp [textT, itoa_one]
theorem text_c : textR ⟨2, 1, 0, 0⟩ = [105, 110, 32, 112, 114, 111, 99, 101, 115, 115, 105, 110, 103, 32, 97, 116, 32, 49] := by
  rw [text_ok (by decide +kernel)]; simp [textT, itoa_one]
end Pl

set_option maxRecDepth 100000
set_option linter.unusedSimpArgs false
set_option linter.unusedVariables false
namespace Go.Proofs.YtabmhpgbfjkkcaaDoor
open Go Ab Pl
theorem custody_within (n a b : Int) : ACalls E.P 25 [.int .i64 n, .int .i64 a, .int .i64 b] (.d (.bool (wiB n a b))) := by
  refine ACalls.intro E_ok Tryd.func25 rfl rfl Tryd.ntmps25 Tryd.results25 (Nat.le_of_ble_eq_true rfl) fun hok base S0 w0 => ?_
  -- region 0
  refine AWp.rseq E_ok [0, 1, 2, 6] fun K hK => ?_
  simp
  repeat refine ⟨by first | omega | assumption | (simp only [maxLen]; omega) | (intros; omega) | decide, ?_⟩
  refine hK _ ?_
  clear hK K
  -- region 1
  refine AWp.rseq E_ok [0, 1, 2, 6] fun K hK => ?_
  simp
  repeat refine ⟨by first | omega | assumption | (simp only [maxLen]; omega) | (intros; omega) | decide, ?_⟩
  refine hK _ ?_
  clear hK K
  refine AWp.ret ?_
  repeat first | refine thenN ?_ | refine thenX ?_ | refine thenR ?_ | refine blockN ?_ | refine blockR ?_ | refine blockX ?_ | refine blockM rfl ?_
  simp [RetOk, RV, wiB]
end Go.Proofs.YtabmhpgbfjkkcaaDoor

set_option maxRecDepth 100000
set_option linter.unusedSimpArgs false
set_option linter.unusedVariables false
namespace Go.Proofs.YtabmhpgbfjkkcaaDoor
open Go Ab Pl
theorem custody_Start (b : Int) : ACalls E.P 10 [.int .i64 b] (.d (encCus ⟨1, b, 0, 0⟩)) := by
  refine ACalls.intro E_ok Tryd.func10 rfl rfl Tryd.ntmps10 Tryd.results10 (Nat.le_of_ble_eq_true rfl) fun hok base S0 w0 => ?_
  -- region 0
  refine AWp.rseq E_ok [0, 2] fun K hK => ?_
  simp
  repeat refine ⟨by first | omega | assumption | (simp only [maxLen]; omega) | (intros; omega) | decide, ?_⟩
  refine hK _ ?_
  clear hK K
  -- region 1
  refine AWp.rseq E_ok [0, 2] fun K hK => ?_
  simp
  repeat refine ⟨by first | omega | assumption | (simp only [maxLen]; omega) | (intros; omega) | decide, ?_⟩
  refine hK _ ?_
  clear hK K
  refine AWp.ret ?_
  repeat first | refine thenN ?_ | refine thenX ?_ | refine thenR ?_ | refine blockN ?_ | refine blockR ?_ | refine blockX ?_ | refine blockM rfl ?_
  simp [RetOk, RV, encCus_eq]
end Go.Proofs.YtabmhpgbfjkkcaaDoor

set_option maxRecDepth 100000
set_option linter.unusedSimpArgs false
set_option linter.unusedVariables false
namespace Go.Proofs.YtabmhpgbfjkkcaaDoor
open Go Ab Pl
theorem custody_Right (c : Custody) : ACalls E.P 12 [encCus c] (.d (.bool (rightB c))) := by
  refine ACalls.intro E_ok Tryd.func12 rfl rfl Tryd.ntmps12 Tryd.results12 (Nat.le_of_ble_eq_true rfl) fun hok base S0 w0 => ?_
  -- region 0
  refine AWp.rseq E_ok [0, 1, 2, 12, 14, 15, 29] fun K hK => ?_
  simp [encCus_eq, wiB]
  repeat refine ⟨by first | omega | assumption | (simp only [maxLen]; omega) | (intros; omega) | decide, ?_⟩
  refine hK _ ?_
  clear hK K
  refine AWp.seq ?_
  -- region 1
  refine AWp.rseq E_ok [0, 1, 2, 12, 14, 15, 29] fun K hK => ?_
  simp [encCus_eq, wiB]
  repeat refine ⟨by first | omega | assumption | (simp only [maxLen]; omega) | (intros; omega) | decide, ?_⟩
  refine meet.of (custody_within _ _ _) ?_
  simp [encCus_eq, wiB]
  repeat refine ⟨by first | omega | assumption | (simp only [maxLen]; omega) | (intros; omega) | decide, ?_⟩
  refine meet.of (custody_within _ _ _) ?_
  simp [encCus_eq, wiB]
  repeat refine ⟨by first | omega | assumption | (simp only [maxLen]; omega) | (intros; omega) | decide, ?_⟩
  refine hK _ ?_
  clear hK K
  refine AWp.cond rfl (fun h12 => ?_) (fun h12 => ?_)
  · try simp at h12
    -- region 2
    refine AWp.rseq E_ok [0, 1, 2, 12, 14, 15, 29] fun K hK => ?_
    simp [encCus_eq, wiB, h12]
    repeat refine ⟨by first | omega | assumption | (simp only [maxLen]; omega) | (intros; omega) | decide, ?_⟩
    refine hK _ ?_
    clear hK K
    refine AWp.ret ?_
    repeat first | refine thenN ?_ | refine thenX ?_ | refine thenR ?_ | refine blockN ?_ | refine blockR ?_ | refine blockX ?_ | refine blockM rfl ?_
    simp [RetOk, RV]; (try rw [Bool.eq_iff_iff]); simp [rightB, RightC, PersC]; omega
  · try simp at h12
    refine AWp.skip ?_
    repeat first | refine thenN ?_ | refine thenX ?_ | refine thenR ?_ | refine blockN ?_ | refine blockR ?_ | refine blockX ?_ | refine blockM rfl ?_
    refine AWp.seq ?_
    -- region 3
    refine AWp.rseq E_ok [0, 1, 2, 12, 14, 15, 29] fun K hK => ?_
    simp [encCus_eq, wiB, h12]
    repeat refine ⟨by first | omega | assumption | (simp only [maxLen]; omega) | (intros; omega) | decide, ?_⟩
    refine hK _ ?_
    clear hK K
    refine AWp.block ?_
    refine AWp.seq ?_
    -- region 4
    refine AWp.rseq E_ok [0, 1, 2, 12, 14, 15, 29] fun K hK => ?_
    simp [encCus_eq, wiB, h12]
    repeat refine ⟨by first | omega | assumption | (simp only [maxLen]; omega) | (intros; omega) | decide, ?_⟩
    refine hK _ ?_
    clear hK K
    refine AWp.cond rfl (fun h15 => ?_) (fun h15 => ?_)
    · try simp at h15
      refine AWp.skip ?_
      repeat first | refine thenN ?_ | refine thenX ?_ | refine thenR ?_ | refine blockN ?_ | refine blockR ?_ | refine blockX ?_ | refine blockM rfl ?_
      refine AWp.cond rfl (fun hz => ?_) (fun hz => ?_)
      · clear hz
        -- region 9
        refine AWp.rseq E_ok [0, 1, 2, 12, 14, 15, 29] fun K hK => ?_
        simp [encCus_eq, wiB, h12, h15]
        repeat refine ⟨by first | omega | assumption | (simp only [maxLen]; omega) | (intros; omega) | decide, ?_⟩
        refine meet.of (custody_within _ _ _) ?_
        simp [encCus_eq, wiB, h12, h15]
        repeat refine ⟨by first | omega | assumption | (simp only [maxLen]; omega) | (intros; omega) | decide, ?_⟩
        refine hK _ ?_
        clear hK K
        refine AWp.ret ?_
        repeat first | refine thenN ?_ | refine thenX ?_ | refine thenR ?_ | refine blockN ?_ | refine blockR ?_ | refine blockX ?_ | refine blockM rfl ?_
        simp [RetOk, RV]; (try rw [Bool.eq_iff_iff]); simp [rightB, RightC, PersC]; omega
      · exact absurd hz (by simp [h15])
    · try simp at h15
      -- region 5
      refine AWp.rseq E_ok [0, 1, 2, 12, 14, 15, 29] fun K hK => ?_
      simp [encCus_eq, wiB, h12, h15]
      repeat refine ⟨by first | omega | assumption | (simp only [maxLen]; omega) | (intros; omega) | decide, ?_⟩
      refine hK _ ?_
      clear hK K
      refine AWp.cond rfl (fun h15 => ?_) (fun h15 => ?_)
      · try simp at h15
        refine AWp.skip ?_
        repeat first | refine thenN ?_ | refine thenX ?_ | refine thenR ?_ | refine blockN ?_ | refine blockR ?_ | refine blockX ?_ | refine blockM rfl ?_
        refine AWp.cond rfl (fun hz => ?_) (fun hz => ?_)
        · clear hz
          -- region 9
          refine AWp.rseq E_ok [0, 1, 2, 12, 14, 15, 29] fun K hK => ?_
          simp [encCus_eq, wiB, h12, h15, h15]
          repeat refine ⟨by first | omega | assumption | (simp only [maxLen]; omega) | (intros; omega) | decide, ?_⟩
          refine meet.of (custody_within _ _ _) ?_
          simp [encCus_eq, wiB, h12, h15, h15]
          repeat refine ⟨by first | omega | assumption | (simp only [maxLen]; omega) | (intros; omega) | decide, ?_⟩
          refine hK _ ?_
          clear hK K
          refine AWp.ret ?_
          repeat first | refine thenN ?_ | refine thenX ?_ | refine thenR ?_ | refine blockN ?_ | refine blockR ?_ | refine blockX ?_ | refine blockM rfl ?_
          simp [RetOk, RV]; (try rw [Bool.eq_iff_iff]); simp [rightB, RightC, PersC]; omega
        · exact absurd hz (by simp [h15])
      · try simp at h15
        -- region 6
        refine AWp.rseq E_ok [0, 1, 2, 12, 14, 15, 29] fun K hK => ?_
        simp [encCus_eq, wiB, h12, h15, h15]
        repeat refine ⟨by first | omega | assumption | (simp only [maxLen]; omega) | (intros; omega) | decide, ?_⟩
        refine hK _ ?_
        clear hK K
        refine AWp.cond rfl (fun h15 => ?_) (fun h15 => ?_)
        · try simp at h15
          refine AWp.skip ?_
          repeat first | refine thenN ?_ | refine thenX ?_ | refine thenR ?_ | refine blockN ?_ | refine blockR ?_ | refine blockX ?_ | refine blockM rfl ?_
          refine AWp.cond rfl (fun hz => ?_) (fun hz => ?_)
          · clear hz
            -- region 9
            refine AWp.rseq E_ok [0, 1, 2, 12, 14, 15, 29] fun K hK => ?_
            simp [encCus_eq, wiB, h12, h15, h15, h15]
            repeat refine ⟨by first | omega | assumption | (simp only [maxLen]; omega) | (intros; omega) | decide, ?_⟩
            refine meet.of (custody_within _ _ _) ?_
            simp [encCus_eq, wiB, h12, h15, h15, h15]
            repeat refine ⟨by first | omega | assumption | (simp only [maxLen]; omega) | (intros; omega) | decide, ?_⟩
            refine hK _ ?_
            clear hK K
            refine AWp.ret ?_
            repeat first | refine thenN ?_ | refine thenX ?_ | refine thenR ?_ | refine blockN ?_ | refine blockR ?_ | refine blockX ?_ | refine blockM rfl ?_
            simp [RetOk, RV]; (try rw [Bool.eq_iff_iff]); simp [rightB, RightC, PersC]; omega
          · exact absurd hz (by simp [h15])
        · try simp at h15
          -- region 7
          refine AWp.rseq E_ok [0, 1, 2, 12, 14, 15, 29] fun K hK => ?_
          simp [encCus_eq, wiB, h12, h15, h15, h15]
          repeat refine ⟨by first | omega | assumption | (simp only [maxLen]; omega) | (intros; omega) | decide, ?_⟩
          refine hK _ ?_
          clear hK K
          refine AWp.cond rfl (fun h15 => ?_) (fun h15 => ?_)
          · try simp at h15
            refine AWp.skip ?_
            repeat first | refine thenN ?_ | refine thenX ?_ | refine thenR ?_ | refine blockN ?_ | refine blockR ?_ | refine blockX ?_ | refine blockM rfl ?_
            refine AWp.cond rfl (fun hz => ?_) (fun hz => ?_)
            · clear hz
              -- region 9
              refine AWp.rseq E_ok [0, 1, 2, 12, 14, 15, 29] fun K hK => ?_
              simp [encCus_eq, wiB, h12, h15, h15, h15, h15]
              repeat refine ⟨by first | omega | assumption | (simp only [maxLen]; omega) | (intros; omega) | decide, ?_⟩
              refine meet.of (custody_within _ _ _) ?_
              simp [encCus_eq, wiB, h12, h15, h15, h15, h15]
              repeat refine ⟨by first | omega | assumption | (simp only [maxLen]; omega) | (intros; omega) | decide, ?_⟩
              refine hK _ ?_
              clear hK K
              refine AWp.ret ?_
              repeat first | refine thenN ?_ | refine thenX ?_ | refine thenR ?_ | refine blockN ?_ | refine blockR ?_ | refine blockX ?_ | refine blockM rfl ?_
              simp [RetOk, RV]; (try rw [Bool.eq_iff_iff]); simp [rightB, RightC, PersC]; omega
            · exact absurd hz (by simp [h15])
          · try simp at h15
            -- region 8
            refine AWp.rend E_ok [0, 1, 2, 12, 14, 15, 29] fun K hK => ?_
            simp [encCus_eq, wiB, h12, h15, h15, h15, h15]
            repeat refine ⟨by first | omega | assumption | (simp only [maxLen]; omega) | (intros; omega) | decide, ?_⟩
            refine hK _ ?_
            clear hK K
            repeat first | refine thenN ?_ | refine thenX ?_ | refine thenR ?_ | refine blockN ?_ | refine blockR ?_ | refine blockX ?_ | refine blockM rfl ?_
            refine AWp.cond rfl (fun h15 => ?_) (fun h15 => ?_)
            · try simp at h15
              -- region 9
              refine AWp.rseq E_ok [0, 1, 2, 12, 14, 15, 29] fun K hK => ?_
              simp [encCus_eq, wiB, h12, h15, h15, h15, h15, h15]
              repeat refine ⟨by first | omega | assumption | (simp only [maxLen]; omega) | (intros; omega) | decide, ?_⟩
              refine meet.of (custody_within _ _ _) ?_
              simp [encCus_eq, wiB, h12, h15, h15, h15, h15, h15]
              repeat refine ⟨by first | omega | assumption | (simp only [maxLen]; omega) | (intros; omega) | decide, ?_⟩
              refine hK _ ?_
              clear hK K
              refine AWp.ret ?_
              repeat first | refine thenN ?_ | refine thenX ?_ | refine thenR ?_ | refine blockN ?_ | refine blockR ?_ | refine blockX ?_ | refine blockM rfl ?_
              simp [RetOk, RV]; (try rw [Bool.eq_iff_iff]); simp [rightB, RightC, PersC]; omega
            · try simp at h15
              -- region 10
              refine AWp.rseq E_ok [0, 1, 2, 12, 14, 15, 29] fun K hK => ?_
              simp [encCus_eq, wiB, h12, h15, h15, h15, h15, h15]
              repeat refine ⟨by first | omega | assumption | (simp only [maxLen]; omega) | (intros; omega) | decide, ?_⟩
              refine hK _ ?_
              clear hK K
              refine AWp.cond rfl (fun h29 => ?_) (fun h29 => ?_)
              · try simp at h29
                -- region 11
                refine AWp.rseq E_ok [0, 1, 2, 12, 14, 15, 29] fun K hK => ?_
                simp [encCus_eq, wiB, h12, h15, h15, h15, h15, h15, h29]
                repeat refine ⟨by first | omega | assumption | (simp only [maxLen]; omega) | (intros; omega) | decide, ?_⟩
                refine meet.of (custody_within _ _ _) ?_
                simp [encCus_eq, wiB, h12, h15, h15, h15, h15, h15, h29]
                repeat refine ⟨by first | omega | assumption | (simp only [maxLen]; omega) | (intros; omega) | decide, ?_⟩
                refine meet.of (custody_within _ _ _) ?_
                simp [encCus_eq, wiB, h12, h15, h15, h15, h15, h15, h29]
                repeat refine ⟨by first | omega | assumption | (simp only [maxLen]; omega) | (intros; omega) | decide, ?_⟩
                refine hK _ ?_
                clear hK K
                refine AWp.ret ?_
                repeat first | refine thenN ?_ | refine thenX ?_ | refine thenR ?_ | refine blockN ?_ | refine blockR ?_ | refine blockX ?_ | refine blockM rfl ?_
                simp [RetOk, RV]; (try rw [Bool.eq_iff_iff]); simp [rightB, RightC, PersC]; omega
              · try simp at h29
                refine AWp.skip ?_
                repeat first | refine thenN ?_ | refine thenX ?_ | refine thenR ?_ | refine blockN ?_ | refine blockR ?_ | refine blockX ?_ | refine blockM rfl ?_
                -- region 12
                refine AWp.rseq E_ok [0, 1, 2, 12, 14, 15, 29] fun K hK => ?_
                simp [encCus_eq, wiB, h12, h15, h15, h15, h15, h15, h29]
                repeat refine ⟨by first | omega | assumption | (simp only [maxLen]; omega) | (intros; omega) | decide, ?_⟩
                refine hK _ ?_
                clear hK K
                refine AWp.ret ?_
                repeat first | refine thenN ?_ | refine thenX ?_ | refine thenR ?_ | refine blockN ?_ | refine blockR ?_ | refine blockX ?_ | refine blockM rfl ?_
                simp [RetOk, RV]; (try rw [Bool.eq_iff_iff]); simp [rightB, RightC, PersC]; omega
end Go.Proofs.YtabmhpgbfjkkcaaDoor

set_option maxRecDepth 100000
set_option linter.unusedSimpArgs false
set_option linter.unusedVariables false
namespace Go.Proofs.YtabmhpgbfjkkcaaDoor
open Go Ab Pl
theorem moves_eq : tabZ_custody_moves = movesL := rfl

end Go.Proofs.YtabmhpgbfjkkcaaDoor

set_option maxRecDepth 100000
set_option linter.unusedSimpArgs false
set_option linter.unusedVariables false
namespace Go.Proofs.YtabmhpgbfjkkcaaDoor
open Go Ab Pl
theorem custody_Allowed (s k : Int) : ACalls E.P 14 [.int .i64 s, .int .i64 k] (.d (.bool (allowB s k))) := by
  refine ACalls.intro E_ok Tryd.func14 rfl rfl Tryd.ntmps14 Tryd.results14 (Nat.le_of_ble_eq_true rfl) fun hok base S0 w0 => ?_
  -- region 0
  refine AWp.rseq E_ok [0, 1, 4] fun K hK => ?_
  simp [wiB]
  repeat refine ⟨by first | omega | assumption | (simp only [maxLen]; omega) | (intros; omega) | decide, ?_⟩
  refine hK _ ?_
  clear hK K
  -- region 1
  refine AWp.rseq E_ok [0, 1, 4] fun K hK => ?_
  simp [wiB]
  repeat refine ⟨by first | omega | assumption | (simp only [maxLen]; omega) | (intros; omega) | decide, ?_⟩
  refine meet.of (custody_within _ _ _) ?_
  simp [wiB]
  repeat refine ⟨by first | omega | assumption | (simp only [maxLen]; omega) | (intros; omega) | decide, ?_⟩
  refine meet.of (custody_within _ _ _) ?_
  simp [wiB]
  repeat refine ⟨by first | omega | assumption | (simp only [maxLen]; omega) | (intros; omega) | decide, ?_⟩
  refine hK _ ?_
  clear hK K
  refine AWp.ret ?_
  repeat first | refine thenN ?_ | refine thenX ?_ | refine thenR ?_ | refine blockN ?_ | refine blockR ?_ | refine blockX ?_ | refine blockM rfl ?_
  rw [allow_eq]; simp [RetOk, RV, wiB, bitB, moves_eq]
end Go.Proofs.YtabmhpgbfjkkcaaDoor

set_option maxRecDepth 100000
set_option linter.unusedSimpArgs false
set_option linter.unusedVariables false
namespace Go.Proofs.YtabmhpgbfjkkcaaDoor
open Go Ab Pl
theorem custody_checked (c : Custody) (ok : Bool) : ACalls E.P 29 [encCus c, .bool ok] (.tup [encCus (chkR c ok).1, .int .i64 (chkR c ok).2]) := by
  refine ACalls.intro E_ok Tryd.func29 rfl rfl Tryd.ntmps29 Tryd.results29 (Nat.le_of_ble_eq_true rfl) fun hok base S0 w0 => ?_
  -- region 0
  refine AWp.rseq E_ok [0, 1, 2, 4, 5, 7] fun K hK => ?_
  simp [encCus_eq]
  repeat refine ⟨by first | omega | assumption | (simp only [maxLen]; omega) | (intros; omega) | decide, ?_⟩
  refine hK _ ?_
  clear hK K
  refine AWp.seq ?_
  -- region 1
  refine AWp.rseq E_ok [0, 1, 2, 4, 5, 7] fun K hK => ?_
  simp [encCus_eq]
  repeat refine ⟨by first | omega | assumption | (simp only [maxLen]; omega) | (intros; omega) | decide, ?_⟩
  refine hK _ ?_
  clear hK K
  refine AWp.cond rfl (fun h7 => ?_) (fun h7 => ?_)
  · try simp at h7
    -- region 2
    refine AWp.rseq E_ok [0, 1, 2, 4, 5, 7] fun K hK => ?_
    simp [encCus_eq, h7]
    repeat refine ⟨by first | omega | assumption | (simp only [maxLen]; omega) | (intros; omega) | decide, ?_⟩
    refine hK _ ?_
    clear hK K
    refine AWp.ret ?_
    repeat first | refine thenN ?_ | refine thenX ?_ | refine thenR ?_ | refine blockN ?_ | refine blockR ?_ | refine blockX ?_ | refine blockM rfl ?_
    simp [RetOk, RV, RVs, chkR, encCus_eq, c00, h7]
  · try simp at h7
    refine AWp.skip ?_
    repeat first | refine thenN ?_ | refine thenX ?_ | refine thenR ?_ | refine blockN ?_ | refine blockR ?_ | refine blockX ?_ | refine blockM rfl ?_
    -- region 3
    refine AWp.rseq E_ok [0, 1, 2, 4, 5, 7] fun K hK => ?_
    simp [encCus_eq, h7]
    repeat refine ⟨by first | omega | assumption | (simp only [maxLen]; omega) | (intros; omega) | decide, ?_⟩
    refine hK _ ?_
    clear hK K
    refine AWp.ret ?_
    repeat first | refine thenN ?_ | refine thenX ?_ | refine thenR ?_ | refine blockN ?_ | refine blockR ?_ | refine blockX ?_ | refine blockM rfl ?_
    simp [RetOk, RV, RVs, chkR, encCus_eq, c00, h7]
end Go.Proofs.YtabmhpgbfjkkcaaDoor

set_option maxRecDepth 100000
set_option linter.unusedSimpArgs false
set_option linter.unusedVariables false
namespace Go.Proofs.YtabmhpgbfjkkcaaDoor
open Go Ab Pl
theorem custody_sent (c : Custody) (m : Mv) : ACalls E.P 28 [encCus c, encMove m] (.tup [encCus (chkR ⟨6, c.br, m.who, m.br⟩ (!(m.br == c.br))).1, .int .i64 (chkR ⟨6, c.br, m.who, m.br⟩ (!(m.br == c.br))).2]) := by
  refine ACalls.intro E_ok Tryd.func28 rfl rfl Tryd.ntmps28 Tryd.results28 (Nat.le_of_ble_eq_true rfl) fun hok base S0 w0 => ?_
  -- region 0
  refine AWp.rseq E_ok [0, 1, 2, 3, 4, 5] fun K hK => ?_
  simp [encCus_eq, encMove_eq]
  repeat refine ⟨by first | omega | assumption | (simp only [maxLen]; omega) | (intros; omega) | decide, ?_⟩
  refine hK _ ?_
  clear hK K
  -- region 1
  refine AWp.rseq E_ok [0, 1, 2, 3, 4, 5] fun K hK => ?_
  simp [encCus_eq, encMove_eq]
  repeat refine ⟨by first | omega | assumption | (simp only [maxLen]; omega) | (intros; omega) | decide, ?_⟩
  refine meet.of (custody_checked ⟨6, c.br, m.who, m.br⟩ (!(m.br == c.br))) ?_
  simp [encCus_eq, encMove_eq]
  repeat refine ⟨by first | omega | assumption | (simp only [maxLen]; omega) | (intros; omega) | decide, ?_⟩
  refine hK _ ?_
  clear hK K
  refine AWp.ret ?_
  repeat first | refine thenN ?_ | refine thenX ?_ | refine thenR ?_ | refine blockN ?_ | refine blockR ?_ | refine blockX ?_ | refine blockM rfl ?_
  simp [RetOk, RV, RVs, encCus_eq]
end Go.Proofs.YtabmhpgbfjkkcaaDoor

set_option maxRecDepth 100000
set_option linter.unusedSimpArgs false
set_option linter.unusedVariables false
namespace Go.Proofs.YtabmhpgbfjkkcaaDoor
open Go Ab Pl
set_option maxHeartbeats 2000000 in
theorem custody_Apply (c : Custody) (m : Mv) : ACalls E.P 17 [encCus c, encMove m] (.tup [encCus (applyR c m).1, .int .i64 (applyR c m).2]) := by
  refine ACalls.intro E_ok Tryd.func17 rfl rfl Tryd.ntmps17 Tryd.results17 (Nat.le_of_ble_eq_true rfl) fun hok base S0 w0 => ?_
  -- region 0
  refine AWp.rseq E_ok [0, 1, 2, 3, 4, 5, 6, 7, 8, 9, 42, 49, 65, 76, 77, 83, 93, 100, 107, 114, 121, 127, 133, 147, 161, 167] fun K hK => ?_
  simp [encCus_eq, encMove_eq, wiB]
  repeat refine ⟨by first | omega | assumption | (simp only [maxLen]; omega) | (intros; omega) | decide, ?_⟩
  refine hK _ ?_
  clear hK K
  refine AWp.seq ?_
  -- region 1
  refine AWp.rseq E_ok [0, 1, 2, 3, 4, 5, 6, 7, 8, 9, 42, 49, 65, 76, 77, 83, 93, 100, 107, 114, 121, 127, 133, 147, 161, 167] fun K hK => ?_
  simp [encCus_eq, encMove_eq, wiB]
  repeat refine ⟨by first | omega | assumption | (simp only [maxLen]; omega) | (intros; omega) | decide, ?_⟩
  refine meet.of (custody_Right c) ?_
  simp [encCus_eq, encMove_eq, wiB]
  repeat refine ⟨by first | omega | assumption | (simp only [maxLen]; omega) | (intros; omega) | decide, ?_⟩
  refine meet.of (custody_within _ _ _) ?_
  simp [encCus_eq, encMove_eq, wiB]
  repeat refine ⟨by first | omega | assumption | (simp only [maxLen]; omega) | (intros; omega) | decide, ?_⟩
  refine meet.of (custody_within _ _ _) ?_
  simp [encCus_eq, encMove_eq, wiB]
  repeat refine ⟨by first | omega | assumption | (simp only [maxLen]; omega) | (intros; omega) | decide, ?_⟩
  refine meet.of (custody_within _ _ _) ?_
  simp [encCus_eq, encMove_eq, wiB]
  repeat refine ⟨by first | omega | assumption | (simp only [maxLen]; omega) | (intros; omega) | decide, ?_⟩
  refine meet.of (custody_within _ _ _) ?_
  simp [encCus_eq, encMove_eq, wiB]
  repeat refine ⟨by first | omega | assumption | (simp only [maxLen]; omega) | (intros; omega) | decide, ?_⟩
  refine meet.of (custody_within _ _ _) ?_
  simp [encCus_eq, encMove_eq, wiB]
  repeat refine ⟨by first | omega | assumption | (simp only [maxLen]; omega) | (intros; omega) | decide, ?_⟩
  refine hK _ ?_
  clear hK K
  refine AWp.cond rfl (fun h42 => ?_) (fun h42 => ?_)
  · try simp at h42
    have hb : rightB c = false ∨ moveB m = false := by cases hr : rightB c; exact .inl rfl; right; rw [hr] at h42; simp at h42; rw [Bool.eq_false_iff, ne_eq, moveB_iff]; omega
    -- region 2
    refine AWp.rseq E_ok [0, 1, 2, 3, 4, 5, 6, 7, 8, 9, 42, 49, 65, 76, 77, 83, 93, 100, 107, 114, 121, 127, 133, 147, 161, 167] fun K hK => ?_
    simp [encCus_eq, encMove_eq, wiB, h42]
    repeat refine ⟨by first | omega | assumption | (simp only [maxLen]; omega) | (intros; omega) | decide, ?_⟩
    refine hK _ ?_
    clear hK K
    refine AWp.ret ?_
    repeat first | refine thenN ?_ | refine thenX ?_ | refine thenR ?_ | refine blockN ?_ | refine blockR ?_ | refine blockX ?_ | refine blockM rfl ?_
    first | (rw [app_a hb]; simp [RetOk, RV, RVs, encCus_eq, c00]; done) | (rw [app_b hrm h49]; simp [RetOk, RV, RVs, encCus_eq, c00]; done) | (rw [app_c hrm h49 h65]; simp [RetOk, RV, RVs, encCus_eq, c00]; done) | (rw [app_p hrm h49 h65']; simp [RetOk, RV, RVs, progR, encCus_eq, *])
  · try simp at h42
    have hm : moveB m = true := by rw [moveB_iff]; have := h42.1.1.1.1.2; have := h42.1.1.1.2; have := h42.1.1.2; have := h42.1.2; have := h42.2; omega
    have hrm : rightB c = true ∧ moveB m = true := ⟨h42.1.1.1.1.1, hm⟩
    refine AWp.skip ?_
    repeat first | refine thenN ?_ | refine thenX ?_ | refine thenR ?_ | refine blockN ?_ | refine blockR ?_ | refine blockX ?_ | refine blockM rfl ?_
    refine AWp.seq ?_
    -- region 3
    refine AWp.rseq E_ok [0, 1, 2, 3, 4, 5, 6, 7, 8, 9, 42, 49, 65, 76, 77, 83, 93, 100, 107, 114, 121, 127, 133, 147, 161, 167] fun K hK => ?_
    simp [encCus_eq, encMove_eq, wiB, h42]
    repeat refine ⟨by first | omega | assumption | (simp only [maxLen]; omega) | (intros; omega) | decide, ?_⟩
    refine meet.of (custody_Allowed c.st m.kind) ?_
    simp [encCus_eq, encMove_eq, wiB, h42]
    repeat refine ⟨by first | omega | assumption | (simp only [maxLen]; omega) | (intros; omega) | decide, ?_⟩
    refine hK _ ?_
    clear hK K
    refine AWp.cond rfl (fun h49 => ?_) (fun h49 => ?_)
    · try simp at h49
      -- region 4
      refine AWp.rseq E_ok [0, 1, 2, 3, 4, 5, 6, 7, 8, 9, 42, 49, 65, 76, 77, 83, 93, 100, 107, 114, 121, 127, 133, 147, 161, 167] fun K hK => ?_
      simp [encCus_eq, encMove_eq, wiB, h42, h49]
      repeat refine ⟨by first | omega | assumption | (simp only [maxLen]; omega) | (intros; omega) | decide, ?_⟩
      refine hK _ ?_
      clear hK K
      refine AWp.ret ?_
      repeat first | refine thenN ?_ | refine thenX ?_ | refine thenR ?_ | refine blockN ?_ | refine blockR ?_ | refine blockX ?_ | refine blockM rfl ?_
      first | (rw [app_a hb]; simp [RetOk, RV, RVs, encCus_eq, c00]; done) | (rw [app_b hrm h49]; simp [RetOk, RV, RVs, encCus_eq, c00]; done) | (rw [app_c hrm h49 h65]; simp [RetOk, RV, RVs, encCus_eq, c00]; done) | (rw [app_p hrm h49 h65']; simp [RetOk, RV, RVs, progR, encCus_eq, *])
    · try simp at h49
      refine AWp.skip ?_
      repeat first | refine thenN ?_ | refine thenX ?_ | refine thenR ?_ | refine blockN ?_ | refine blockR ?_ | refine blockX ?_ | refine blockM rfl ?_
      refine AWp.seq ?_
      -- region 5
      refine AWp.rseq E_ok [0, 1, 2, 3, 4, 5, 6, 7, 8, 9, 42, 49, 65, 76, 77, 83, 93, 100, 107, 114, 121, 127, 133, 147, 161, 167] fun K hK => ?_
      simp [encCus_eq, encMove_eq, wiB, h42, h49]
      repeat refine ⟨by first | omega | assumption | (simp only [maxLen]; omega) | (intros; omega) | decide, ?_⟩
      refine hK _ ?_
      clear hK K
      refine AWp.cond rfl (fun h65 => ?_) (fun h65 => ?_)
      · try simp at h65
        -- region 6
        refine AWp.rseq E_ok [0, 1, 2, 3, 4, 5, 6, 7, 8, 9, 42, 49, 65, 76, 77, 83, 93, 100, 107, 114, 121, 127, 133, 147, 161, 167] fun K hK => ?_
        simp [encCus_eq, encMove_eq, wiB, h42, h49]
        repeat refine ⟨by first | omega | assumption | (simp only [maxLen]; omega) | (intros; omega) | decide, ?_⟩
        refine hK _ ?_
        clear hK K
        refine AWp.ret ?_
        repeat first | refine thenN ?_ | refine thenX ?_ | refine thenR ?_ | refine blockN ?_ | refine blockR ?_ | refine blockX ?_ | refine blockM rfl ?_
        first | (rw [app_a hb]; simp [RetOk, RV, RVs, encCus_eq, c00]; done) | (rw [app_b hrm h49]; simp [RetOk, RV, RVs, encCus_eq, c00]; done) | (rw [app_c hrm h49 h65]; simp [RetOk, RV, RVs, encCus_eq, c00]; done) | (rw [app_p hrm h49 h65']; simp [RetOk, RV, RVs, progR, encCus_eq, *])
      · try simp at h65
        have h65' : ¬ ((m.kind = 3 ∧ c.st = 5) ∧ ¬ m.who = c.who) := by rintro ⟨⟨a, b⟩, d⟩; exact d (h65 a b)
        refine AWp.skip ?_
        repeat first | refine thenN ?_ | refine thenX ?_ | refine thenR ?_ | refine blockN ?_ | refine blockR ?_ | refine blockX ?_ | refine blockM rfl ?_
        -- region 7
        refine AWp.rseqQ E_ok mixed [0, 1, 2, 3, 4, 5, 6, 7, 8, 9, 42, 49, 65, 76, 77, 83, 93, 100, 107, 114, 121, 127, 133, 147, 161, 167] (by kernel_rfl) fun K hK => ?_
        simp [encCus_eq, encMove_eq, wiB, h42, h49]
        repeat refine ⟨by first | omega | assumption | (simp only [maxLen]; omega) | (intros; omega) | decide, ?_⟩
        refine hK _ ?_
        clear hK K
        -- region 8
        refine AWp.rseq E_ok [0, 1, 2, 3, 4, 5, 6, 7, 8, 9, 42, 49, 65, 76, 77, 83, 93, 100, 107, 114, 121, 127, 133, 147, 161, 167] fun K hK => ?_
        simp [encCus_eq, encMove_eq, wiB, h42, h49]
        repeat refine ⟨by first | omega | assumption | (simp only [maxLen]; omega) | (intros; omega) | decide, ?_⟩
        refine hK _ ?_
        clear hK K
        refine AWp.seq ?_
        -- region 9
        refine AWp.rseq E_ok [0, 1, 2, 3, 4, 5, 6, 7, 8, 9, 42, 49, 65, 76, 77, 83, 93, 100, 107, 114, 121, 127, 133, 147, 161, 167] fun K hK => ?_
        simp [encCus_eq, encMove_eq, wiB, h42, h49]
        repeat refine ⟨by first | omega | assumption | (simp only [maxLen]; omega) | (intros; omega) | decide, ?_⟩
        refine hK _ ?_
        clear hK K
        refine AWp.block ?_
        refine AWp.seq ?_
        -- region 10
        refine AWp.rseq E_ok [0, 1, 2, 3, 4, 5, 6, 7, 8, 9, 42, 49, 65, 76, 77, 83, 93, 100, 107, 114, 121, 127, 133, 147, 161, 167] fun K hK => ?_
        simp [encCus_eq, encMove_eq, wiB, h42, h49]
        repeat refine ⟨by first | omega | assumption | (simp only [maxLen]; omega) | (intros; omega) | decide, ?_⟩
        refine hK _ ?_
        clear hK K
        refine AWp.cond rfl (fun h77 => ?_) (fun h77 => ?_)
        · try simp at h77
          refine AWp.skip ?_
          repeat first | refine thenN ?_ | refine thenX ?_ | refine thenR ?_ | refine blockN ?_ | refine blockR ?_ | refine blockX ?_ | refine blockM rfl ?_
          refine AWp.cond rfl (fun hz => ?_) (fun hz => ?_)
          · clear hz
            -- region 14
            refine AWp.rend E_ok [0, 1, 2, 3, 4, 5, 6, 7, 8, 9, 42, 49, 65, 76, 77, 83, 93, 100, 107, 114, 121, 127, 133, 147, 161, 167] fun K hK => ?_
            simp [encCus_eq, encMove_eq, wiB, h42, h49]
            repeat refine ⟨by first | omega | assumption | (simp only [maxLen]; omega) | (intros; omega) | decide, ?_⟩
            refine hK _ ?_
            clear hK K
            repeat first | refine thenN ?_ | refine thenX ?_ | refine thenR ?_ | refine blockN ?_ | refine blockR ?_ | refine blockX ?_ | refine blockM rfl ?_
            -- region 37
            refine AWp.rseq E_ok [0, 1, 2, 3, 4, 5, 6, 7, 8, 9, 42, 49, 65, 76, 77, 83, 93, 100, 107, 114, 121, 127, 133, 147, 161, 167] fun K hK => ?_
            simp [encCus_eq, encMove_eq, wiB, h42, h49]
            repeat refine ⟨by first | omega | assumption | (simp only [maxLen]; omega) | (intros; omega) | decide, ?_⟩
            refine meet.of (custody_checked ⟨_, m.br, m.who, 0⟩ _) ?_
            simp [encCus_eq, encMove_eq, wiB, h42, h49]
            repeat refine ⟨by first | omega | assumption | (simp only [maxLen]; omega) | (intros; omega) | decide, ?_⟩
            refine hK _ ?_
            clear hK K
            refine AWp.ret ?_
            repeat first | refine thenN ?_ | refine thenX ?_ | refine thenR ?_ | refine blockN ?_ | refine blockR ?_ | refine blockX ?_ | refine blockM rfl ?_
            first | (rw [app_a hb]; simp [RetOk, RV, RVs, encCus_eq, c00]; done) | (rw [app_b hrm h49]; simp [RetOk, RV, RVs, encCus_eq, c00]; done) | (rw [app_c hrm h49 h65]; simp [RetOk, RV, RVs, encCus_eq, c00]; done) | (rw [app_p hrm h49 h65']; simp [RetOk, RV, RVs, progR, encCus_eq, *])
          · exact absurd hz (by simp [h77])
        · try simp at h77
          -- region 11
          refine AWp.rseq E_ok [0, 1, 2, 3, 4, 5, 6, 7, 8, 9, 42, 49, 65, 76, 77, 83, 93, 100, 107, 114, 121, 127, 133, 147, 161, 167] fun K hK => ?_
          simp [encCus_eq, encMove_eq, wiB, h42, h49]
          repeat refine ⟨by first | omega | assumption | (simp only [maxLen]; omega) | (intros; omega) | decide, ?_⟩
          refine hK _ ?_
          clear hK K
          refine AWp.cond rfl (fun h77 => ?_) (fun h77 => ?_)
          · try simp at h77
            refine AWp.skip ?_
            repeat first | refine thenN ?_ | refine thenX ?_ | refine thenR ?_ | refine blockN ?_ | refine blockR ?_ | refine blockX ?_ | refine blockM rfl ?_
            refine AWp.cond rfl (fun hz => ?_) (fun hz => ?_)
            · clear hz
              -- region 14
              refine AWp.rend E_ok [0, 1, 2, 3, 4, 5, 6, 7, 8, 9, 42, 49, 65, 76, 77, 83, 93, 100, 107, 114, 121, 127, 133, 147, 161, 167] fun K hK => ?_
              simp [encCus_eq, encMove_eq, wiB, h42, h49]
              repeat refine ⟨by first | omega | assumption | (simp only [maxLen]; omega) | (intros; omega) | decide, ?_⟩
              refine hK _ ?_
              clear hK K
              repeat first | refine thenN ?_ | refine thenX ?_ | refine thenR ?_ | refine blockN ?_ | refine blockR ?_ | refine blockX ?_ | refine blockM rfl ?_
              -- region 37
              refine AWp.rseq E_ok [0, 1, 2, 3, 4, 5, 6, 7, 8, 9, 42, 49, 65, 76, 77, 83, 93, 100, 107, 114, 121, 127, 133, 147, 161, 167] fun K hK => ?_
              simp [encCus_eq, encMove_eq, wiB, h42, h49]
              repeat refine ⟨by first | omega | assumption | (simp only [maxLen]; omega) | (intros; omega) | decide, ?_⟩
              refine meet.of (custody_checked ⟨_, m.br, m.who, 0⟩ _) ?_
              simp [encCus_eq, encMove_eq, wiB, h42, h49]
              repeat refine ⟨by first | omega | assumption | (simp only [maxLen]; omega) | (intros; omega) | decide, ?_⟩
              refine hK _ ?_
              clear hK K
              refine AWp.ret ?_
              repeat first | refine thenN ?_ | refine thenX ?_ | refine thenR ?_ | refine blockN ?_ | refine blockR ?_ | refine blockX ?_ | refine blockM rfl ?_
              first | (rw [app_a hb]; simp [RetOk, RV, RVs, encCus_eq, c00]; done) | (rw [app_b hrm h49]; simp [RetOk, RV, RVs, encCus_eq, c00]; done) | (rw [app_c hrm h49 h65]; simp [RetOk, RV, RVs, encCus_eq, c00]; done) | (rw [app_p hrm h49 h65']; simp [RetOk, RV, RVs, progR, encCus_eq, *])
            · exact absurd hz (by simp [h77])
          · try simp at h77
            -- region 12
            refine AWp.rseq E_ok [0, 1, 2, 3, 4, 5, 6, 7, 8, 9, 42, 49, 65, 76, 77, 83, 93, 100, 107, 114, 121, 127, 133, 147, 161, 167] fun K hK => ?_
            simp [encCus_eq, encMove_eq, wiB, h42, h49]
            repeat refine ⟨by first | omega | assumption | (simp only [maxLen]; omega) | (intros; omega) | decide, ?_⟩
            refine hK _ ?_
            clear hK K
            refine AWp.cond rfl (fun h77 => ?_) (fun h77 => ?_)
            · try simp at h77
              refine AWp.skip ?_
              repeat first | refine thenN ?_ | refine thenX ?_ | refine thenR ?_ | refine blockN ?_ | refine blockR ?_ | refine blockX ?_ | refine blockM rfl ?_
              refine AWp.cond rfl (fun hz => ?_) (fun hz => ?_)
              · clear hz
                -- region 14
                refine AWp.rend E_ok [0, 1, 2, 3, 4, 5, 6, 7, 8, 9, 42, 49, 65, 76, 77, 83, 93, 100, 107, 114, 121, 127, 133, 147, 161, 167] fun K hK => ?_
                simp [encCus_eq, encMove_eq, wiB, h42, h49]
                repeat refine ⟨by first | omega | assumption | (simp only [maxLen]; omega) | (intros; omega) | decide, ?_⟩
                refine hK _ ?_
                clear hK K
                repeat first | refine thenN ?_ | refine thenX ?_ | refine thenR ?_ | refine blockN ?_ | refine blockR ?_ | refine blockX ?_ | refine blockM rfl ?_
                -- region 37
                refine AWp.rseq E_ok [0, 1, 2, 3, 4, 5, 6, 7, 8, 9, 42, 49, 65, 76, 77, 83, 93, 100, 107, 114, 121, 127, 133, 147, 161, 167] fun K hK => ?_
                simp [encCus_eq, encMove_eq, wiB, h42, h49]
                repeat refine ⟨by first | omega | assumption | (simp only [maxLen]; omega) | (intros; omega) | decide, ?_⟩
                refine meet.of (custody_checked ⟨_, m.br, m.who, 0⟩ _) ?_
                simp [encCus_eq, encMove_eq, wiB, h42, h49]
                repeat refine ⟨by first | omega | assumption | (simp only [maxLen]; omega) | (intros; omega) | decide, ?_⟩
                refine hK _ ?_
                clear hK K
                refine AWp.ret ?_
                repeat first | refine thenN ?_ | refine thenX ?_ | refine thenR ?_ | refine blockN ?_ | refine blockR ?_ | refine blockX ?_ | refine blockM rfl ?_
                first | (rw [app_a hb]; simp [RetOk, RV, RVs, encCus_eq, c00]; done) | (rw [app_b hrm h49]; simp [RetOk, RV, RVs, encCus_eq, c00]; done) | (rw [app_c hrm h49 h65]; simp [RetOk, RV, RVs, encCus_eq, c00]; done) | (rw [app_p hrm h49 h65']; simp [RetOk, RV, RVs, progR, encCus_eq, *])
              · exact absurd hz (by simp [h77])
            · try simp at h77
              -- region 13
              refine AWp.rend E_ok [0, 1, 2, 3, 4, 5, 6, 7, 8, 9, 42, 49, 65, 76, 77, 83, 93, 100, 107, 114, 121, 127, 133, 147, 161, 167] fun K hK => ?_
              simp [encCus_eq, encMove_eq, wiB, h42, h49]
              repeat refine ⟨by first | omega | assumption | (simp only [maxLen]; omega) | (intros; omega) | decide, ?_⟩
              refine hK _ ?_
              clear hK K
              repeat first | refine thenN ?_ | refine thenX ?_ | refine thenR ?_ | refine blockN ?_ | refine blockR ?_ | refine blockX ?_ | refine blockM rfl ?_
              refine AWp.cond rfl (fun h77 => ?_) (fun h77 => ?_)
              · try simp at h77
                -- region 14
                refine AWp.rend E_ok [0, 1, 2, 3, 4, 5, 6, 7, 8, 9, 42, 49, 65, 76, 77, 83, 93, 100, 107, 114, 121, 127, 133, 147, 161, 167] fun K hK => ?_
                simp [encCus_eq, encMove_eq, wiB, h42, h49]
                repeat refine ⟨by first | omega | assumption | (simp only [maxLen]; omega) | (intros; omega) | decide, ?_⟩
                refine hK _ ?_
                clear hK K
                repeat first | refine thenN ?_ | refine thenX ?_ | refine thenR ?_ | refine blockN ?_ | refine blockR ?_ | refine blockX ?_ | refine blockM rfl ?_
                -- region 37
                refine AWp.rseq E_ok [0, 1, 2, 3, 4, 5, 6, 7, 8, 9, 42, 49, 65, 76, 77, 83, 93, 100, 107, 114, 121, 127, 133, 147, 161, 167] fun K hK => ?_
                simp [encCus_eq, encMove_eq, wiB, h42, h49]
                repeat refine ⟨by first | omega | assumption | (simp only [maxLen]; omega) | (intros; omega) | decide, ?_⟩
                refine meet.of (custody_checked ⟨_, m.br, m.who, 0⟩ _) ?_
                simp [encCus_eq, encMove_eq, wiB, h42, h49]
                repeat refine ⟨by first | omega | assumption | (simp only [maxLen]; omega) | (intros; omega) | decide, ?_⟩
                refine hK _ ?_
                clear hK K
                refine AWp.ret ?_
                repeat first | refine thenN ?_ | refine thenX ?_ | refine thenR ?_ | refine blockN ?_ | refine blockR ?_ | refine blockX ?_ | refine blockM rfl ?_
                first | (rw [app_a hb]; simp [RetOk, RV, RVs, encCus_eq, c00]; done) | (rw [app_b hrm h49]; simp [RetOk, RV, RVs, encCus_eq, c00]; done) | (rw [app_c hrm h49 h65]; simp [RetOk, RV, RVs, encCus_eq, c00]; done) | (rw [app_p hrm h49 h65']; simp [RetOk, RV, RVs, progR, encCus_eq, *])
              · try simp at h77
                -- region 15
                refine AWp.rseq E_ok [0, 1, 2, 3, 4, 5, 6, 7, 8, 9, 42, 49, 65, 76, 77, 83, 93, 100, 107, 114, 121, 127, 133, 147, 161, 167] fun K hK => ?_
                simp [encCus_eq, encMove_eq, wiB, h42, h49]
                repeat refine ⟨by first | omega | assumption | (simp only [maxLen]; omega) | (intros; omega) | decide, ?_⟩
                refine hK _ ?_
                clear hK K
                refine AWp.cond rfl (fun h83 => ?_) (fun h83 => ?_)
                · try simp at h83
                  -- region 16
                  refine AWp.rendQ E_ok mixed [0, 1, 2, 3, 4, 5, 6, 7, 8, 9, 42, 49, 65, 76, 77, 83, 93, 100, 107, 114, 121, 127, 133, 147, 161, 167] (by kernel_rfl) fun K hK => ?_
                  simp [encCus_eq, encMove_eq, wiB, h42, h49]
                  repeat refine ⟨by first | omega | assumption | (simp only [maxLen]; omega) | (intros; omega) | decide, ?_⟩
                  refine hK _ ?_
                  clear hK K
                  repeat first | refine thenN ?_ | refine thenX ?_ | refine thenR ?_ | refine blockN ?_ | refine blockR ?_ | refine blockX ?_ | refine blockM rfl ?_
                  -- region 37
                  refine AWp.rseq E_ok [0, 1, 2, 3, 4, 5, 6, 7, 8, 9, 42, 49, 65, 76, 77, 83, 93, 100, 107, 114, 121, 127, 133, 147, 161, 167] fun K hK => ?_
                  simp [encCus_eq, encMove_eq, wiB, h42, h49]
                  repeat refine ⟨by first | omega | assumption | (simp only [maxLen]; omega) | (intros; omega) | decide, ?_⟩
                  refine meet.of (custody_checked ⟨_, m.br, m.who, 0⟩ _) ?_
                  simp [encCus_eq, encMove_eq, wiB, h42, h49]
                  repeat refine ⟨by first | omega | assumption | (simp only [maxLen]; omega) | (intros; omega) | decide, ?_⟩
                  refine hK _ ?_
                  clear hK K
                  refine AWp.ret ?_
                  repeat first | refine thenN ?_ | refine thenX ?_ | refine thenR ?_ | refine blockN ?_ | refine blockR ?_ | refine blockX ?_ | refine blockM rfl ?_
                  first | (rw [app_a hb]; simp [RetOk, RV, RVs, encCus_eq, c00]; done) | (rw [app_b hrm h49]; simp [RetOk, RV, RVs, encCus_eq, c00]; done) | (rw [app_c hrm h49 h65]; simp [RetOk, RV, RVs, encCus_eq, c00]; done) | (rw [app_p hrm h49 h65']; simp [RetOk, RV, RVs, progR, encCus_eq, *])
                · try simp at h83
                  -- region 17
                  refine AWp.rseq E_ok [0, 1, 2, 3, 4, 5, 6, 7, 8, 9, 42, 49, 65, 76, 77, 83, 93, 100, 107, 114, 121, 127, 133, 147, 161, 167] fun K hK => ?_
                  simp [encCus_eq, encMove_eq, wiB, h42, h49]
                  repeat refine ⟨by first | omega | assumption | (simp only [maxLen]; omega) | (intros; omega) | decide, ?_⟩
                  refine hK _ ?_
                  clear hK K
                  refine AWp.cond rfl (fun h93 => ?_) (fun h93 => ?_)
                  · try simp at h93
                    -- region 18
                    refine AWp.rseq E_ok [0, 1, 2, 3, 4, 5, 6, 7, 8, 9, 42, 49, 65, 76, 77, 83, 93, 100, 107, 114, 121, 127, 133, 147, 161, 167] fun K hK => ?_
                    simp [encCus_eq, encMove_eq, wiB, h42, h49]
                    repeat refine ⟨by first | omega | assumption | (simp only [maxLen]; omega) | (intros; omega) | decide, ?_⟩
                    refine meet.of (custody_sent c m) ?_
                    simp [encCus_eq, encMove_eq, wiB, h42, h49]
                    repeat refine ⟨by first | omega | assumption | (simp only [maxLen]; omega) | (intros; omega) | decide, ?_⟩
                    refine hK _ ?_
                    clear hK K
                    refine AWp.ret ?_
                    repeat first | refine thenN ?_ | refine thenX ?_ | refine thenR ?_ | refine blockN ?_ | refine blockR ?_ | refine blockX ?_ | refine blockM rfl ?_
                    first | (rw [app_a hb]; simp [RetOk, RV, RVs, encCus_eq, c00]; done) | (rw [app_b hrm h49]; simp [RetOk, RV, RVs, encCus_eq, c00]; done) | (rw [app_c hrm h49 h65]; simp [RetOk, RV, RVs, encCus_eq, c00]; done) | (rw [app_p hrm h49 h65']; simp [RetOk, RV, RVs, progR, encCus_eq, *])
                  · try simp at h93
                    -- region 19
                    refine AWp.rseq E_ok [0, 1, 2, 3, 4, 5, 6, 7, 8, 9, 42, 49, 65, 76, 77, 83, 93, 100, 107, 114, 121, 127, 133, 147, 161, 167] fun K hK => ?_
                    simp [encCus_eq, encMove_eq, wiB, h42, h49]
                    repeat refine ⟨by first | omega | assumption | (simp only [maxLen]; omega) | (intros; omega) | decide, ?_⟩
                    refine hK _ ?_
                    clear hK K
                    refine AWp.cond rfl (fun h100 => ?_) (fun h100 => ?_)
                    · try simp at h100
                      -- region 20
                      refine AWp.rend E_ok [0, 1, 2, 3, 4, 5, 6, 7, 8, 9, 42, 49, 65, 76, 77, 83, 93, 100, 107, 114, 121, 127, 133, 147, 161, 167] fun K hK => ?_
                      simp [encCus_eq, encMove_eq, wiB, h42, h49]
                      repeat refine ⟨by first | omega | assumption | (simp only [maxLen]; omega) | (intros; omega) | decide, ?_⟩
                      refine hK _ ?_
                      clear hK K
                      repeat first | refine thenN ?_ | refine thenX ?_ | refine thenR ?_ | refine blockN ?_ | refine blockR ?_ | refine blockX ?_ | refine blockM rfl ?_
                      -- region 37
                      refine AWp.rseq E_ok [0, 1, 2, 3, 4, 5, 6, 7, 8, 9, 42, 49, 65, 76, 77, 83, 93, 100, 107, 114, 121, 127, 133, 147, 161, 167] fun K hK => ?_
                      simp [encCus_eq, encMove_eq, wiB, h42, h49]
                      repeat refine ⟨by first | omega | assumption | (simp only [maxLen]; omega) | (intros; omega) | decide, ?_⟩
                      refine meet.of (custody_checked ⟨_, m.br, m.who, 0⟩ _) ?_
                      simp [encCus_eq, encMove_eq, wiB, h42, h49]
                      repeat refine ⟨by first | omega | assumption | (simp only [maxLen]; omega) | (intros; omega) | decide, ?_⟩
                      refine hK _ ?_
                      clear hK K
                      refine AWp.ret ?_
                      repeat first | refine thenN ?_ | refine thenX ?_ | refine thenR ?_ | refine blockN ?_ | refine blockR ?_ | refine blockX ?_ | refine blockM rfl ?_
                      first | (rw [app_a hb]; simp [RetOk, RV, RVs, encCus_eq, c00]; done) | (rw [app_b hrm h49]; simp [RetOk, RV, RVs, encCus_eq, c00]; done) | (rw [app_c hrm h49 h65]; simp [RetOk, RV, RVs, encCus_eq, c00]; done) | (rw [app_p hrm h49 h65']; simp [RetOk, RV, RVs, progR, encCus_eq, *])
                    · try simp at h100
                      -- region 21
                      refine AWp.rseq E_ok [0, 1, 2, 3, 4, 5, 6, 7, 8, 9, 42, 49, 65, 76, 77, 83, 93, 100, 107, 114, 121, 127, 133, 147, 161, 167] fun K hK => ?_
                      simp [encCus_eq, encMove_eq, wiB, h42, h49]
                      repeat refine ⟨by first | omega | assumption | (simp only [maxLen]; omega) | (intros; omega) | decide, ?_⟩
                      refine hK _ ?_
                      clear hK K
                      refine AWp.cond rfl (fun h107 => ?_) (fun h107 => ?_)
                      · try simp at h107
                        -- region 22
                        refine AWp.rend E_ok [0, 1, 2, 3, 4, 5, 6, 7, 8, 9, 42, 49, 65, 76, 77, 83, 93, 100, 107, 114, 121, 127, 133, 147, 161, 167] fun K hK => ?_
                        simp [encCus_eq, encMove_eq, wiB, h42, h49]
                        repeat refine ⟨by first | omega | assumption | (simp only [maxLen]; omega) | (intros; omega) | decide, ?_⟩
                        refine hK _ ?_
                        clear hK K
                        repeat first | refine thenN ?_ | refine thenX ?_ | refine thenR ?_ | refine blockN ?_ | refine blockR ?_ | refine blockX ?_ | refine blockM rfl ?_
                        -- region 37
                        refine AWp.rseq E_ok [0, 1, 2, 3, 4, 5, 6, 7, 8, 9, 42, 49, 65, 76, 77, 83, 93, 100, 107, 114, 121, 127, 133, 147, 161, 167] fun K hK => ?_
                        simp [encCus_eq, encMove_eq, wiB, h42, h49]
                        repeat refine ⟨by first | omega | assumption | (simp only [maxLen]; omega) | (intros; omega) | decide, ?_⟩
                        refine meet.of (custody_checked ⟨_, m.br, m.who, 0⟩ _) ?_
                        simp [encCus_eq, encMove_eq, wiB, h42, h49]
                        repeat refine ⟨by first | omega | assumption | (simp only [maxLen]; omega) | (intros; omega) | decide, ?_⟩
                        refine hK _ ?_
                        clear hK K
                        refine AWp.ret ?_
                        repeat first | refine thenN ?_ | refine thenX ?_ | refine thenR ?_ | refine blockN ?_ | refine blockR ?_ | refine blockX ?_ | refine blockM rfl ?_
                        first | (rw [app_a hb]; simp [RetOk, RV, RVs, encCus_eq, c00]; done) | (rw [app_b hrm h49]; simp [RetOk, RV, RVs, encCus_eq, c00]; done) | (rw [app_c hrm h49 h65]; simp [RetOk, RV, RVs, encCus_eq, c00]; done) | (rw [app_p hrm h49 h65']; simp [RetOk, RV, RVs, progR, encCus_eq, *])
                      · try simp at h107
                        -- region 23
                        refine AWp.rseq E_ok [0, 1, 2, 3, 4, 5, 6, 7, 8, 9, 42, 49, 65, 76, 77, 83, 93, 100, 107, 114, 121, 127, 133, 147, 161, 167] fun K hK => ?_
                        simp [encCus_eq, encMove_eq, wiB, h42, h49]
                        repeat refine ⟨by first | omega | assumption | (simp only [maxLen]; omega) | (intros; omega) | decide, ?_⟩
                        refine hK _ ?_
                        clear hK K
                        refine AWp.cond rfl (fun h114 => ?_) (fun h114 => ?_)
                        · try simp at h114
                          -- region 24
                          refine AWp.rend E_ok [0, 1, 2, 3, 4, 5, 6, 7, 8, 9, 42, 49, 65, 76, 77, 83, 93, 100, 107, 114, 121, 127, 133, 147, 161, 167] fun K hK => ?_
                          simp [encCus_eq, encMove_eq, wiB, h42, h49]
                          repeat refine ⟨by first | omega | assumption | (simp only [maxLen]; omega) | (intros; omega) | decide, ?_⟩
                          refine hK _ ?_
                          clear hK K
                          repeat first | refine thenN ?_ | refine thenX ?_ | refine thenR ?_ | refine blockN ?_ | refine blockR ?_ | refine blockX ?_ | refine blockM rfl ?_
                          -- region 37
                          refine AWp.rseq E_ok [0, 1, 2, 3, 4, 5, 6, 7, 8, 9, 42, 49, 65, 76, 77, 83, 93, 100, 107, 114, 121, 127, 133, 147, 161, 167] fun K hK => ?_
                          simp [encCus_eq, encMove_eq, wiB, h42, h49]
                          repeat refine ⟨by first | omega | assumption | (simp only [maxLen]; omega) | (intros; omega) | decide, ?_⟩
                          refine meet.of (custody_checked ⟨_, m.br, m.who, 0⟩ _) ?_
                          simp [encCus_eq, encMove_eq, wiB, h42, h49]
                          repeat refine ⟨by first | omega | assumption | (simp only [maxLen]; omega) | (intros; omega) | decide, ?_⟩
                          refine hK _ ?_
                          clear hK K
                          refine AWp.ret ?_
                          repeat first | refine thenN ?_ | refine thenX ?_ | refine thenR ?_ | refine blockN ?_ | refine blockR ?_ | refine blockX ?_ | refine blockM rfl ?_
                          first | (rw [app_a hb]; simp [RetOk, RV, RVs, encCus_eq, c00]; done) | (rw [app_b hrm h49]; simp [RetOk, RV, RVs, encCus_eq, c00]; done) | (rw [app_c hrm h49 h65]; simp [RetOk, RV, RVs, encCus_eq, c00]; done) | (rw [app_p hrm h49 h65']; simp [RetOk, RV, RVs, progR, encCus_eq, *])
                        · try simp at h114
                          -- region 25
                          refine AWp.rseq E_ok [0, 1, 2, 3, 4, 5, 6, 7, 8, 9, 42, 49, 65, 76, 77, 83, 93, 100, 107, 114, 121, 127, 133, 147, 161, 167] fun K hK => ?_
                          simp [encCus_eq, encMove_eq, wiB, h42, h49]
                          repeat refine ⟨by first | omega | assumption | (simp only [maxLen]; omega) | (intros; omega) | decide, ?_⟩
                          refine hK _ ?_
                          clear hK K
                          refine AWp.cond rfl (fun h121 => ?_) (fun h121 => ?_)
                          · try simp at h121
                            -- region 26
                            refine AWp.rend E_ok [0, 1, 2, 3, 4, 5, 6, 7, 8, 9, 42, 49, 65, 76, 77, 83, 93, 100, 107, 114, 121, 127, 133, 147, 161, 167] fun K hK => ?_
                            simp [encCus_eq, encMove_eq, wiB, h42, h49]
                            repeat refine ⟨by first | omega | assumption | (simp only [maxLen]; omega) | (intros; omega) | decide, ?_⟩
                            refine hK _ ?_
                            clear hK K
                            repeat first | refine thenN ?_ | refine thenX ?_ | refine thenR ?_ | refine blockN ?_ | refine blockR ?_ | refine blockX ?_ | refine blockM rfl ?_
                            -- region 37
                            refine AWp.rseq E_ok [0, 1, 2, 3, 4, 5, 6, 7, 8, 9, 42, 49, 65, 76, 77, 83, 93, 100, 107, 114, 121, 127, 133, 147, 161, 167] fun K hK => ?_
                            simp [encCus_eq, encMove_eq, wiB, h42, h49]
                            repeat refine ⟨by first | omega | assumption | (simp only [maxLen]; omega) | (intros; omega) | decide, ?_⟩
                            refine meet.of (custody_checked ⟨_, m.br, m.who, 0⟩ _) ?_
                            simp [encCus_eq, encMove_eq, wiB, h42, h49]
                            repeat refine ⟨by first | omega | assumption | (simp only [maxLen]; omega) | (intros; omega) | decide, ?_⟩
                            refine hK _ ?_
                            clear hK K
                            refine AWp.ret ?_
                            repeat first | refine thenN ?_ | refine thenX ?_ | refine thenR ?_ | refine blockN ?_ | refine blockR ?_ | refine blockX ?_ | refine blockM rfl ?_
                            first | (rw [app_a hb]; simp [RetOk, RV, RVs, encCus_eq, c00]; done) | (rw [app_b hrm h49]; simp [RetOk, RV, RVs, encCus_eq, c00]; done) | (rw [app_c hrm h49 h65]; simp [RetOk, RV, RVs, encCus_eq, c00]; done) | (rw [app_p hrm h49 h65']; simp [RetOk, RV, RVs, progR, encCus_eq, *])
                          · try simp at h121
                            -- region 27
                            refine AWp.rseq E_ok [0, 1, 2, 3, 4, 5, 6, 7, 8, 9, 42, 49, 65, 76, 77, 83, 93, 100, 107, 114, 121, 127, 133, 147, 161, 167] fun K hK => ?_
                            simp [encCus_eq, encMove_eq, wiB, h42, h49]
                            repeat refine ⟨by first | omega | assumption | (simp only [maxLen]; omega) | (intros; omega) | decide, ?_⟩
                            refine hK _ ?_
                            clear hK K
                            refine AWp.cond rfl (fun h127 => ?_) (fun h127 => ?_)
                            · try simp at h127
                              -- region 28
                              refine AWp.rend E_ok [0, 1, 2, 3, 4, 5, 6, 7, 8, 9, 42, 49, 65, 76, 77, 83, 93, 100, 107, 114, 121, 127, 133, 147, 161, 167] fun K hK => ?_
                              simp [encCus_eq, encMove_eq, wiB, h42, h49]
                              repeat refine ⟨by first | omega | assumption | (simp only [maxLen]; omega) | (intros; omega) | decide, ?_⟩
                              refine hK _ ?_
                              clear hK K
                              repeat first | refine thenN ?_ | refine thenX ?_ | refine thenR ?_ | refine blockN ?_ | refine blockR ?_ | refine blockX ?_ | refine blockM rfl ?_
                              -- region 37
                              refine AWp.rseq E_ok [0, 1, 2, 3, 4, 5, 6, 7, 8, 9, 42, 49, 65, 76, 77, 83, 93, 100, 107, 114, 121, 127, 133, 147, 161, 167] fun K hK => ?_
                              simp [encCus_eq, encMove_eq, wiB, h42, h49]
                              repeat refine ⟨by first | omega | assumption | (simp only [maxLen]; omega) | (intros; omega) | decide, ?_⟩
                              refine meet.of (custody_checked ⟨_, m.br, m.who, 0⟩ _) ?_
                              simp [encCus_eq, encMove_eq, wiB, h42, h49]
                              repeat refine ⟨by first | omega | assumption | (simp only [maxLen]; omega) | (intros; omega) | decide, ?_⟩
                              refine hK _ ?_
                              clear hK K
                              refine AWp.ret ?_
                              repeat first | refine thenN ?_ | refine thenX ?_ | refine thenR ?_ | refine blockN ?_ | refine blockR ?_ | refine blockX ?_ | refine blockM rfl ?_
                              first | (rw [app_a hb]; simp [RetOk, RV, RVs, encCus_eq, c00]; done) | (rw [app_b hrm h49]; simp [RetOk, RV, RVs, encCus_eq, c00]; done) | (rw [app_c hrm h49 h65]; simp [RetOk, RV, RVs, encCus_eq, c00]; done) | (rw [app_p hrm h49 h65']; simp [RetOk, RV, RVs, progR, encCus_eq, *])
                            · try simp at h127
                              -- region 29
                              refine AWp.rseq E_ok [0, 1, 2, 3, 4, 5, 6, 7, 8, 9, 42, 49, 65, 76, 77, 83, 93, 100, 107, 114, 121, 127, 133, 147, 161, 167] fun K hK => ?_
                              simp [encCus_eq, encMove_eq, wiB, h42, h49]
                              repeat refine ⟨by first | omega | assumption | (simp only [maxLen]; omega) | (intros; omega) | decide, ?_⟩
                              refine hK _ ?_
                              clear hK K
                              refine AWp.cond rfl (fun h133 => ?_) (fun h133 => ?_)
                              · try simp at h133
                                -- region 30
                                refine AWp.rseq E_ok [0, 1, 2, 3, 4, 5, 6, 7, 8, 9, 42, 49, 65, 76, 77, 83, 93, 100, 107, 114, 121, 127, 133, 147, 161, 167] fun K hK => ?_
                                simp [encCus_eq, encMove_eq, wiB, h42, h49]
                                repeat refine ⟨by first | omega | assumption | (simp only [maxLen]; omega) | (intros; omega) | decide, ?_⟩
                                refine meet.of (custody_checked ⟨9, c.br, c.who, 0⟩ _) ?_
                                simp [encCus_eq, encMove_eq, wiB, h42, h49]
                                repeat refine ⟨by first | omega | assumption | (simp only [maxLen]; omega) | (intros; omega) | decide, ?_⟩
                                refine hK _ ?_
                                clear hK K
                                refine AWp.ret ?_
                                repeat first | refine thenN ?_ | refine thenX ?_ | refine thenR ?_ | refine blockN ?_ | refine blockR ?_ | refine blockX ?_ | refine blockM rfl ?_
                                first | (rw [app_a hb]; simp [RetOk, RV, RVs, encCus_eq, c00]; done) | (rw [app_b hrm h49]; simp [RetOk, RV, RVs, encCus_eq, c00]; done) | (rw [app_c hrm h49 h65]; simp [RetOk, RV, RVs, encCus_eq, c00]; done) | (rw [app_p hrm h49 h65']; simp [RetOk, RV, RVs, progR, encCus_eq, *])
                              · try simp at h133
                                -- region 31
                                refine AWp.rseq E_ok [0, 1, 2, 3, 4, 5, 6, 7, 8, 9, 42, 49, 65, 76, 77, 83, 93, 100, 107, 114, 121, 127, 133, 147, 161, 167] fun K hK => ?_
                                simp [encCus_eq, encMove_eq, wiB, h42, h49]
                                repeat refine ⟨by first | omega | assumption | (simp only [maxLen]; omega) | (intros; omega) | decide, ?_⟩
                                refine hK _ ?_
                                clear hK K
                                refine AWp.cond rfl (fun h147 => ?_) (fun h147 => ?_)
                                · try simp at h147
                                  -- region 32
                                  refine AWp.rseq E_ok [0, 1, 2, 3, 4, 5, 6, 7, 8, 9, 42, 49, 65, 76, 77, 83, 93, 100, 107, 114, 121, 127, 133, 147, 161, 167] fun K hK => ?_
                                  simp [encCus_eq, encMove_eq, wiB, h42, h49]
                                  repeat refine ⟨by first | omega | assumption | (simp only [maxLen]; omega) | (intros; omega) | decide, ?_⟩
                                  refine meet.of (custody_checked ⟨10, c.br, c.who, 0⟩ _) ?_
                                  simp [encCus_eq, encMove_eq, wiB, h42, h49]
                                  repeat refine ⟨by first | omega | assumption | (simp only [maxLen]; omega) | (intros; omega) | decide, ?_⟩
                                  refine hK _ ?_
                                  clear hK K
                                  refine AWp.ret ?_
                                  repeat first | refine thenN ?_ | refine thenX ?_ | refine thenR ?_ | refine blockN ?_ | refine blockR ?_ | refine blockX ?_ | refine blockM rfl ?_
                                  first | (rw [app_a hb]; simp [RetOk, RV, RVs, encCus_eq, c00]; done) | (rw [app_b hrm h49]; simp [RetOk, RV, RVs, encCus_eq, c00]; done) | (rw [app_c hrm h49 h65]; simp [RetOk, RV, RVs, encCus_eq, c00]; done) | (rw [app_p hrm h49 h65']; simp [RetOk, RV, RVs, progR, encCus_eq, *])
                                · try simp at h147
                                  -- region 33
                                  refine AWp.rseq E_ok [0, 1, 2, 3, 4, 5, 6, 7, 8, 9, 42, 49, 65, 76, 77, 83, 93, 100, 107, 114, 121, 127, 133, 147, 161, 167] fun K hK => ?_
                                  simp [encCus_eq, encMove_eq, wiB, h42, h49]
                                  repeat refine ⟨by first | omega | assumption | (simp only [maxLen]; omega) | (intros; omega) | decide, ?_⟩
                                  refine hK _ ?_
                                  clear hK K
                                  refine AWp.cond rfl (fun h161 => ?_) (fun h161 => ?_)
                                  · try simp at h161
                                    -- region 34
                                    refine AWp.rend E_ok [0, 1, 2, 3, 4, 5, 6, 7, 8, 9, 42, 49, 65, 76, 77, 83, 93, 100, 107, 114, 121, 127, 133, 147, 161, 167] fun K hK => ?_
                                    simp [encCus_eq, encMove_eq, wiB, h42, h49]
                                    repeat refine ⟨by first | omega | assumption | (simp only [maxLen]; omega) | (intros; omega) | decide, ?_⟩
                                    refine hK _ ?_
                                    clear hK K
                                    repeat first | refine thenN ?_ | refine thenX ?_ | refine thenR ?_ | refine blockN ?_ | refine blockR ?_ | refine blockX ?_ | refine blockM rfl ?_
                                    -- region 37
                                    refine AWp.rseq E_ok [0, 1, 2, 3, 4, 5, 6, 7, 8, 9, 42, 49, 65, 76, 77, 83, 93, 100, 107, 114, 121, 127, 133, 147, 161, 167] fun K hK => ?_
                                    simp [encCus_eq, encMove_eq, wiB, h42, h49]
                                    repeat refine ⟨by first | omega | assumption | (simp only [maxLen]; omega) | (intros; omega) | decide, ?_⟩
                                    refine meet.of (custody_checked ⟨_, m.br, m.who, 0⟩ _) ?_
                                    simp [encCus_eq, encMove_eq, wiB, h42, h49]
                                    repeat refine ⟨by first | omega | assumption | (simp only [maxLen]; omega) | (intros; omega) | decide, ?_⟩
                                    refine hK _ ?_
                                    clear hK K
                                    refine AWp.ret ?_
                                    repeat first | refine thenN ?_ | refine thenX ?_ | refine thenR ?_ | refine blockN ?_ | refine blockR ?_ | refine blockX ?_ | refine blockM rfl ?_
                                    first | (rw [app_a hb]; simp [RetOk, RV, RVs, encCus_eq, c00]; done) | (rw [app_b hrm h49]; simp [RetOk, RV, RVs, encCus_eq, c00]; done) | (rw [app_c hrm h49 h65]; simp [RetOk, RV, RVs, encCus_eq, c00]; done) | (rw [app_p hrm h49 h65']; simp [RetOk, RV, RVs, progR, encCus_eq, *])
                                  · try simp at h161
                                    -- region 35
                                    refine AWp.rseq E_ok [0, 1, 2, 3, 4, 5, 6, 7, 8, 9, 42, 49, 65, 76, 77, 83, 93, 100, 107, 114, 121, 127, 133, 147, 161, 167] fun K hK => ?_
                                    simp [encCus_eq, encMove_eq, wiB, h42, h49]
                                    repeat refine ⟨by first | omega | assumption | (simp only [maxLen]; omega) | (intros; omega) | decide, ?_⟩
                                    refine hK _ ?_
                                    clear hK K
                                    refine AWp.cond rfl (fun h167 => ?_) (fun h167 => ?_)
                                    · try simp at h167
                                      -- region 36
                                      refine AWp.rend E_ok [0, 1, 2, 3, 4, 5, 6, 7, 8, 9, 42, 49, 65, 76, 77, 83, 93, 100, 107, 114, 121, 127, 133, 147, 161, 167] fun K hK => ?_
                                      simp [encCus_eq, encMove_eq, wiB, h42, h49]
                                      repeat refine ⟨by first | omega | assumption | (simp only [maxLen]; omega) | (intros; omega) | decide, ?_⟩
                                      refine hK _ ?_
                                      clear hK K
                                      repeat first | refine thenN ?_ | refine thenX ?_ | refine thenR ?_ | refine blockN ?_ | refine blockR ?_ | refine blockX ?_ | refine blockM rfl ?_
                                      -- region 37
                                      refine AWp.rseq E_ok [0, 1, 2, 3, 4, 5, 6, 7, 8, 9, 42, 49, 65, 76, 77, 83, 93, 100, 107, 114, 121, 127, 133, 147, 161, 167] fun K hK => ?_
                                      simp [encCus_eq, encMove_eq, wiB, h42, h49]
                                      repeat refine ⟨by first | omega | assumption | (simp only [maxLen]; omega) | (intros; omega) | decide, ?_⟩
                                      refine meet.of (custody_checked ⟨_, m.br, m.who, 0⟩ _) ?_
                                      simp [encCus_eq, encMove_eq, wiB, h42, h49]
                                      repeat refine ⟨by first | omega | assumption | (simp only [maxLen]; omega) | (intros; omega) | decide, ?_⟩
                                      refine hK _ ?_
                                      clear hK K
                                      refine AWp.ret ?_
                                      repeat first | refine thenN ?_ | refine thenX ?_ | refine thenR ?_ | refine blockN ?_ | refine blockR ?_ | refine blockX ?_ | refine blockM rfl ?_
                                      first | (rw [app_a hb]; simp [RetOk, RV, RVs, encCus_eq, c00]; done) | (rw [app_b hrm h49]; simp [RetOk, RV, RVs, encCus_eq, c00]; done) | (rw [app_c hrm h49 h65]; simp [RetOk, RV, RVs, encCus_eq, c00]; done) | (rw [app_p hrm h49 h65']; simp [RetOk, RV, RVs, progR, encCus_eq, *])
                                    · try simp at h167
                                      exfalso; rw [moveB_iff] at hm; omega
end Go.Proofs.YtabmhpgbfjkkcaaDoor

set_option maxRecDepth 100000
set_option linter.unusedSimpArgs false
set_option linter.unusedVariables false
namespace Go.Proofs.YtabmhpgbfjkkcaaDoor
open Go Ab Pl
theorem custody_Replay (b : Int) (l : List Mv) (item : Int) (hl : l.length ≤ 1000000) : ACalls E.P 19 [.int .i64 b, encMoves l, .int .i64 item] (.tup [encCus (replayR b l item).1, .int .i64 (replayR b l item).2.1, .int .i64 (replayR b l item).2.2]) := by
  refine ACalls.intro E_ok Tryd.func19 rfl rfl Tryd.ntmps19 Tryd.results19 (Nat.le_of_ble_eq_true rfl) fun hok base S0 w0 => ?_
  -- region 0
  refine AWp.rseq E_ok [0, 1, 2, 6, 7, 8, 9, 10, 11, 12, 13, 16, 20, 21, 22, 23, 30, 38] fun K hK => ?_
  simp [encMoves_eq, encCus_eq, encMove_eq, wiB]
  repeat refine ⟨by first | omega | assumption | (simp only [maxLen]; omega) | (intros; omega) | decide, ?_⟩
  refine hK _ ?_
  clear hK K
  refine AWp.seq ?_
  -- region 1
  refine AWp.rseq E_ok [0, 1, 2, 6, 7, 8, 9, 10, 11, 12, 13, 16, 20, 21, 22, 23, 30, 38] fun K hK => ?_
  simp [encMoves_eq, encCus_eq, encMove_eq, wiB]
  repeat refine ⟨by first | omega | assumption | (simp only [maxLen]; omega) | (intros; omega) | decide, ?_⟩
  refine meet.of (custody_within _ _ _) ?_
  simp [encMoves_eq, encCus_eq, encMove_eq, wiB]
  repeat refine ⟨by first | omega | assumption | (simp only [maxLen]; omega) | (intros; omega) | decide, ?_⟩
  refine hK _ ?_
  clear hK K
  refine AWp.cond rfl (fun h16 => ?_) (fun h16 => ?_)
  · try simp at h16
    -- region 2
    refine AWp.rseq E_ok [0, 1, 2, 6, 7, 8, 9, 10, 11, 12, 13, 16, 20, 21, 22, 23, 30, 38] fun K hK => ?_
    simp [encMoves_eq, encCus_eq, encMove_eq, wiB, h16]
    repeat refine ⟨by first | omega | assumption | (simp only [maxLen]; omega) | (intros; omega) | decide, ?_⟩
    refine hK _ ?_
    clear hK K
    refine AWp.ret ?_
    repeat first | refine thenN ?_ | refine thenX ?_ | refine thenR ?_ | refine blockN ?_ | refine blockR ?_ | refine blockX ?_ | refine blockM rfl ?_
    first | (rw [rep_bad (by omega)]; simp [RetOk, RV, RVs, encCus_eq, c00]; done) | (rw [rep_ok h16]; simp [RetOk, RV, RVs, encCus_eq, c00, ← hs])
  · try simp at h16
    refine AWp.skip ?_
    repeat first | refine thenN ?_ | refine thenX ?_ | refine thenR ?_ | refine blockN ?_ | refine blockR ?_ | refine blockX ?_ | refine blockM rfl ?_
    -- region 3
    refine AWp.rseq E_ok [0, 1, 2, 6, 7, 8, 9, 10, 11, 12, 13, 16, 20, 21, 22, 23, 30, 38] fun K hK => ?_
    simp [encMoves_eq, encCus_eq, encMove_eq, wiB, h16]
    repeat refine ⟨by first | omega | assumption | (simp only [maxLen]; omega) | (intros; omega) | decide, ?_⟩
    refine meet.of (custody_Start b) ?_
    simp [encMoves_eq, encCus_eq, encMove_eq, wiB, h16]
    repeat refine ⟨by first | omega | assumption | (simp only [maxLen]; omega) | (intros; omega) | decide, ?_⟩
    refine hK _ ?_
    clear hK K
    refine AWp.seq ?_
    -- region 4
    refine AWp.rseq E_ok [0, 1, 2, 6, 7, 8, 9, 10, 11, 12, 13, 16, 20, 21, 22, 23, 30, 38] fun K hK => ?_
    simp [encMoves_eq, encCus_eq, encMove_eq, wiB, h16]
    repeat refine ⟨by first | omega | assumption | (simp only [maxLen]; omega) | (intros; omega) | decide, ?_⟩
    refine hK _ ?_
    clear hK K
    refine AWp.block ?_
    refine AWp.range (l := l) (F := repF b item) (tot := repF b item (⟨1, b, 0, 0⟩, 0) l) (fun k y => match y with | (c, m) => m = k) (fun k y => match y with | (c, m) => [(0, T.val (D.int IntKind.i64 b)), (1, T.val ((D.agg [D.int IntKind.i64 zm.day, D.int IntKind.i64 zm.item, D.int IntKind.i64 zm.kind, D.int IntKind.i64 zm.br, D.int IntKind.i64 zm.who]).slice (List.map encMove l))), (2, T.val (D.int IntKind.i64 item)), (6, T.box [C.d (D.int IntKind.i64 0), C.d (D.int IntKind.i64 0), C.d (D.int IntKind.i64 0), C.d (D.int IntKind.i64 0)]), (9, T.box [C.d (.int .i64 c.st), C.d (.int .i64 c.br), C.d (.int .i64 c.who), C.d (.int .i64 c.to)]), (20, T.val ((D.agg [D.int IntKind.i64 zm.day, D.int IntKind.i64 zm.item, D.int IntKind.i64 zm.kind, D.int IntKind.i64 zm.br, D.int IntKind.i64 zm.who]).slice (List.map encMove l))), (21, T.val (D.int IntKind.i64 ↑l.length)), (22, T.val (.int .i64 k))]) (⟨1, b, 0, 0⟩, 0) ?_ rfl ?_ ?_
    · simp [Weak, TW, encMoves_eq, encCus_eq, encMove_eq, wiB, zm]
    · rfl
    rintro k ⟨c, m⟩ hk hs hi
    try simp only at hi
    -- region 5
    refine AWp.rseq E_ok [0, 1, 2, 6, 7, 8, 9, 10, 11, 12, 13, 16, 20, 21, 22, 23, 30, 38] fun K hK => ?_
    simp [encMoves_eq, encCus_eq, encMove_eq, wiB, h16]
    repeat refine ⟨by first | omega | assumption | (simp only [maxLen]; omega) | (intros; omega) | decide, ?_⟩
    refine hK _ ?_
    clear hK K
    refine AWp.seq ?_
    refine AWp.cond rfl (fun h23 => ?_) (fun h23 => ?_)
    · try simp at h23
      obtain ⟨x, hx, hxx, hd⟩ := at_indexG (l := l) h23
      rw [hd] at hs
      rw [hi] at hs
      refine AWp.skip ?_
      repeat first | refine thenN ?_ | refine thenX ?_ | refine thenR ?_ | refine blockN ?_ | refine blockR ?_ | refine blockX ?_ | refine blockM rfl ?_
      refine AWp.seq ?_
      refine AWp.block ?_
      -- region 6
      refine AWp.rseq E_ok [0, 1, 2, 6, 7, 8, 9, 10, 11, 12, 13, 16, 20, 21, 22, 23, 30, 38] fun K hK => ?_
      simp [encMoves_eq, encCus_eq, encMove_eq, wiB, h16, h23, hx, hxx]
      repeat refine ⟨by first | omega | assumption | (simp only [maxLen]; omega) | (intros; omega) | decide, ?_⟩
      refine hK _ ?_
      clear hK K
      refine AWp.seq ?_
      -- region 7
      refine AWp.rseq E_ok [0, 1, 2, 6, 7, 8, 9, 10, 11, 12, 13, 16, 20, 21, 22, 23, 30, 38] fun K hK => ?_
      simp [encMoves_eq, encCus_eq, encMove_eq, wiB, h16, h23, hx, hxx]
      repeat refine ⟨by first | omega | assumption | (simp only [maxLen]; omega) | (intros; omega) | decide, ?_⟩
      refine hK _ ?_
      clear hK K
      refine AWp.cond rfl (fun h30 => ?_) (fun h30 => ?_)
      · try simp at h30
        rw [repF, if_pos h30] at hs
        refine AWp.exit ?_
        repeat first | refine thenN ?_ | refine thenX ?_ | refine thenR ?_ | refine blockN ?_ | refine blockR ?_ | refine blockX ?_ | refine blockM rfl ?_
        -- region 12
        refine AWp.rend E_ok [0, 1, 2, 6, 7, 8, 9, 10, 11, 12, 13, 16, 20, 21, 22, 23, 30, 38] fun K hK => ?_
        simp [encMoves_eq, encCus_eq, encMove_eq, wiB, h16, h23, hx, hxx]
        repeat refine ⟨by first | omega | assumption | (simp only [maxLen]; omega) | (intros; omega) | decide, ?_⟩
        refine hK _ ?_
        clear hK K
        repeat first | refine thenN ?_ | refine thenX ?_ | refine thenR ?_ | refine blockN ?_ | refine blockR ?_ | refine blockX ?_ | refine blockM rfl ?_
        have hw : IntKind.i64.wrap ((k : Int) + 1) = (k : Int) + 1 := by rw [wrap_i64] <;> omega
        skip
        refine ⟨_, h23, hs, ?_, ?_⟩
        · rfl
        · simp [Weak, TW, hw, encMoves_eq, encCus_eq, encMove_eq, wiB]
      · try simp at h30
        rw [repF, if_neg (by simp [h30])] at hs
        refine AWp.skip ?_
        repeat first | refine thenN ?_ | refine thenX ?_ | refine thenR ?_ | refine blockN ?_ | refine blockR ?_ | refine blockX ?_ | refine blockM rfl ?_
        -- region 8
        refine AWp.rseq E_ok [0, 1, 2, 6, 7, 8, 9, 10, 11, 12, 13, 16, 20, 21, 22, 23, 30, 38] fun K hK => ?_
        simp [encMoves_eq, encCus_eq, encMove_eq, wiB, h16, h23, hx, hxx]
        repeat refine ⟨by first | omega | assumption | (simp only [maxLen]; omega) | (intros; omega) | decide, ?_⟩
        refine meet.of (custody_Apply c x) ?_
        simp [encMoves_eq, encCus_eq, encMove_eq, wiB, h16, h23, hx, hxx]
        repeat refine ⟨by first | omega | assumption | (simp only [maxLen]; omega) | (intros; omega) | decide, ?_⟩
        refine hK _ ?_
        clear hK K
        refine AWp.seq ?_
        -- region 9
        refine AWp.rseq E_ok [0, 1, 2, 6, 7, 8, 9, 10, 11, 12, 13, 16, 20, 21, 22, 23, 30, 38] fun K hK => ?_
        simp [encMoves_eq, encCus_eq, encMove_eq, wiB, h16, h23, hx, hxx]
        repeat refine ⟨by first | omega | assumption | (simp only [maxLen]; omega) | (intros; omega) | decide, ?_⟩
        refine hK _ ?_
        clear hK K
        refine AWp.cond rfl (fun h38 => ?_) (fun h38 => ?_)
        · try simp at h38
          rw [if_pos h38] at hs
          -- region 10
          refine AWp.rseq E_ok [0, 1, 2, 6, 7, 8, 9, 10, 11, 12, 13, 16, 20, 21, 22, 23, 30, 38] fun K hK => ?_
          simp [encMoves_eq, encCus_eq, encMove_eq, wiB, h16, h23, hx, hxx]
          repeat refine ⟨by first | omega | assumption | (simp only [maxLen]; omega) | (intros; omega) | decide, ?_⟩
          refine hK _ ?_
          clear hK K
          refine AWp.ret ?_
          repeat first | refine thenN ?_ | refine thenX ?_ | refine thenR ?_ | refine blockN ?_ | refine blockR ?_ | refine blockX ?_ | refine blockM rfl ?_
          first | (rw [rep_bad (by omega)]; simp [RetOk, RV, RVs, encCus_eq, c00]; done) | (rw [rep_ok h16]; simp [RetOk, RV, RVs, encCus_eq, c00, ← hs])
        · try simp at h38
          rw [if_neg (by simp [h38])] at hs
          refine AWp.skip ?_
          repeat first | refine thenN ?_ | refine thenX ?_ | refine thenR ?_ | refine blockN ?_ | refine blockR ?_ | refine blockX ?_ | refine blockM rfl ?_
          -- region 11
          refine AWp.rend E_ok [0, 1, 2, 6, 7, 8, 9, 10, 11, 12, 13, 16, 20, 21, 22, 23, 30, 38] fun K hK => ?_
          simp [encMoves_eq, encCus_eq, encMove_eq, wiB, h16, h23, hx, hxx]
          repeat refine ⟨by first | omega | assumption | (simp only [maxLen]; omega) | (intros; omega) | decide, ?_⟩
          refine hK _ ?_
          clear hK K
          repeat first | refine thenN ?_ | refine thenX ?_ | refine thenR ?_ | refine blockN ?_ | refine blockR ?_ | refine blockX ?_ | refine blockM rfl ?_
          -- region 12
          refine AWp.rend E_ok [0, 1, 2, 6, 7, 8, 9, 10, 11, 12, 13, 16, 20, 21, 22, 23, 30, 38] fun K hK => ?_
          simp [encMoves_eq, encCus_eq, encMove_eq, wiB, h16, h23, hx, hxx]
          repeat refine ⟨by first | omega | assumption | (simp only [maxLen]; omega) | (intros; omega) | decide, ?_⟩
          refine hK _ ?_
          clear hK K
          repeat first | refine thenN ?_ | refine thenX ?_ | refine thenR ?_ | refine blockN ?_ | refine blockR ?_ | refine blockX ?_ | refine blockM rfl ?_
          have hw : IntKind.i64.wrap ((k : Int) + 1) = (k : Int) + 1 := by rw [wrap_i64] <;> omega
          skip
          refine ⟨_, h23, hs, ?_, ?_⟩
          · rfl
          · simp [Weak, TW, hw, encMoves_eq, encCus_eq, encMove_eq, wiB]
    · try simp at h23
      obtain rfl : k = l.length := by omega
      simp [repF] at hs
      refine AWp.exit ?_
      repeat first | refine thenN ?_ | refine thenX ?_ | refine thenR ?_ | refine blockN ?_ | refine blockR ?_ | refine blockX ?_ | refine blockM rfl ?_
      -- region 13
      refine AWp.rseq E_ok [0, 1, 2, 6, 7, 8, 9, 10, 11, 12, 13, 16, 20, 21, 22, 23, 30, 38] fun K hK => ?_
      simp [encMoves_eq, encCus_eq, encMove_eq, wiB, h16, h23]
      repeat refine ⟨by first | omega | assumption | (simp only [maxLen]; omega) | (intros; omega) | decide, ?_⟩
      refine hK _ ?_
      clear hK K
      refine AWp.ret ?_
      repeat first | refine thenN ?_ | refine thenX ?_ | refine thenR ?_ | refine blockN ?_ | refine blockR ?_ | refine blockX ?_ | refine blockM rfl ?_
      first | (rw [rep_bad (by omega)]; simp [RetOk, RV, RVs, encCus_eq, c00]; done) | (rw [rep_ok h16]; simp [RetOk, RV, RVs, encCus_eq, c00, ← hs])
end Go.Proofs.YtabmhpgbfjkkcaaDoor
