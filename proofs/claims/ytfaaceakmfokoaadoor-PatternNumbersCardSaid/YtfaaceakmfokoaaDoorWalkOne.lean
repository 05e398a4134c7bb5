/-
  What the functions compute that the statement reaches: contracts, and the plain laws between them. Conditions stand at each theorem.
-/
import Derived.Test.YtfaaceakmfokoaaDoorEngTwo
import Derived.Test.YtfaaceakmfokoaaDoorChecked
import Derived.Lib.ItoaLen
import Derived.Lib.Atoi
import Derived.Lib.Repeat
set_option linter.unusedVariables false
set_option linter.unusedSimpArgs false
/- The types of this seat, as the layer reads them. -/
set_option maxRecDepth 100000
namespace Go.Proofs.YtfaaceakmfokoaaDoor
open Go Ab

abbrev ti2 : TI := { key := .int .i64, size := 1, bytes := 8, zero := .int .i64 0, zc := [.int .i64 0], eq := [] }
abbrev ti3 : TI := { key := .int .i64, size := 1, bytes := 8, zero := .int .i64 0, zc := [.int .i64 0], eq := [] }
abbrev ti4 : TI := { key := .bool, size := 1, bytes := 1, zero := .bool false, zc := [.bool false], eq := [] }
abbrev ti5 : TI := { key := .int .u8, size := 1, bytes := 1, zero := .int .u8 0, zc := [.int .u8 0], eq := [] }
abbrev ti9 : TI := { key := .string, size := 1, bytes := 16, zero := .string ⟨#[]⟩, zc := [.str []], eq := [] }
abbrev ti12 : TI := { key := .int .u64, size := 1, bytes := 8, zero := .int .u64 0, zc := [.int .u64 0], eq := [] }
abbrev ti15 : TI := { key := .other, size := 1, bytes := 8, zero := .pointer none, zc := [.lit (.pointer none)], eq := [] }
abbrev ti16 : TI := { key := .other, size := 1, bytes := 8, zero := .pointer none, zc := [.lit (.pointer none)], eq := [] }
abbrev ti17 : TI := { key := .other, size := 1, bytes := 8, zero := .pointer none, zc := [.lit (.pointer none)], eq := [] }
abbrev ti21 : TI := { key := .int .i32, size := 1, bytes := 4, zero := .int .i32 0, zc := [.int .i32 0], eq := [] }
abbrev ti22 : TI := { key := .slice 3, size := 1, bytes := 24, zero := .slice none 0 0, zc := [.slice (.int .i64 0) []], eq := [] }
abbrev ti23 : TI := { key := .struct [(0, 3), (1, 3), (2, 3), (3, 3), (4, 22), (5, 22)], size := 6, bytes := 80, zero := .agg #[.int .i64 0, .int .i64 0, .int .i64 0, .int .i64 0, .slice none 0 0, .slice none 0 0], zc := [.int .i64 0, .int .i64 0, .int .i64 0, .int .i64 0, .slice (.int .i64 0) [], .slice (.int .i64 0) []], eq := [] }
abbrev ti24 : TI := { key := .struct [(0, 3), (1, 3), (2, 3), (3, 3), (4, 22), (5, 22)], size := 6, bytes := 80, zero := .agg #[.int .i64 0, .int .i64 0, .int .i64 0, .int .i64 0, .slice none 0 0, .slice none 0 0], zc := [.int .i64 0, .int .i64 0, .int .i64 0, .int .i64 0, .slice (.int .i64 0) [], .slice (.int .i64 0) []], eq := [] }
abbrev ti27 : TI := { key := .int .i64, size := 1, bytes := 8, zero := .int .i64 0, zc := [.int .i64 0], eq := [] }
abbrev ti29 : TI := { key := .struct [(0, 3), (1, 3), (2, 3), (3, 3), (4, 3), (5, 3)], size := 6, bytes := 48, zero := .agg #[.int .i64 0, .int .i64 0, .int .i64 0, .int .i64 0, .int .i64 0, .int .i64 0], zc := [.int .i64 0, .int .i64 0, .int .i64 0, .int .i64 0, .int .i64 0, .int .i64 0], eq := [0, 0, 0, 0, 0, 0] }
abbrev ti30 : TI := { key := .struct [(0, 3), (1, 3), (2, 3), (3, 3), (4, 3), (5, 3)], size := 6, bytes := 48, zero := .agg #[.int .i64 0, .int .i64 0, .int .i64 0, .int .i64 0, .int .i64 0, .int .i64 0], zc := [.int .i64 0, .int .i64 0, .int .i64 0, .int .i64 0, .int .i64 0, .int .i64 0], eq := [0, 0, 0, 0, 0, 0] }
abbrev ti37 : TI := { key := .slice 30, size := 1, bytes := 24, zero := .slice none 0 0, zc := [.slice (.agg [.int .i64 0, .int .i64 0, .int .i64 0, .int .i64 0, .int .i64 0, .int .i64 0]) []], eq := [] }
abbrev ti67 : TI := { key := .array 24 5, size := 24, bytes := 24, zero := .agg #[.int .u8 0, .int .u8 0, .int .u8 0, .int .u8 0, .int .u8 0, .int .u8 0, .int .u8 0, .int .u8 0, .int .u8 0, .int .u8 0, .int .u8 0, .int .u8 0, .int .u8 0, .int .u8 0, .int .u8 0, .int .u8 0, .int .u8 0, .int .u8 0, .int .u8 0, .int .u8 0, .int .u8 0, .int .u8 0, .int .u8 0, .int .u8 0], zc := [.int .u8 0, .int .u8 0, .int .u8 0, .int .u8 0, .int .u8 0, .int .u8 0, .int .u8 0, .int .u8 0, .int .u8 0, .int .u8 0, .int .u8 0, .int .u8 0, .int .u8 0, .int .u8 0, .int .u8 0, .int .u8 0, .int .u8 0, .int .u8 0, .int .u8 0, .int .u8 0, .int .u8 0, .int .u8 0, .int .u8 0, .int .u8 0], eq := [] }
abbrev ti68 : TI := { key := .int .u64, size := 1, bytes := 8, zero := .int .u64 0, zc := [.int .u64 0], eq := [] }
abbrev ti71 : TI := { key := .slice 5, size := 1, bytes := 24, zero := .slice none 0 0, zc := [.slice (.int .u8 0) []], eq := [] }
abbrev ti75 : TI := { key := .array 12 3, size := 12, bytes := 96, zero := .agg #[.int .i64 0, .int .i64 0, .int .i64 0, .int .i64 0, .int .i64 0, .int .i64 0, .int .i64 0, .int .i64 0, .int .i64 0, .int .i64 0, .int .i64 0, .int .i64 0], zc := [.int .i64 0, .int .i64 0, .int .i64 0, .int .i64 0, .int .i64 0, .int .i64 0, .int .i64 0, .int .i64 0, .int .i64 0, .int .i64 0, .int .i64 0, .int .i64 0], eq := [] }
abbrev ti77 : TI := { key := .array 20 68, size := 20, bytes := 160, zero := .agg #[.int .u64 0, .int .u64 0, .int .u64 0, .int .u64 0, .int .u64 0, .int .u64 0, .int .u64 0, .int .u64 0, .int .u64 0, .int .u64 0, .int .u64 0, .int .u64 0, .int .u64 0, .int .u64 0, .int .u64 0, .int .u64 0, .int .u64 0, .int .u64 0, .int .u64 0, .int .u64 0], zc := [.int .u64 0, .int .u64 0, .int .u64 0, .int .u64 0, .int .u64 0, .int .u64 0, .int .u64 0, .int .u64 0, .int .u64 0, .int .u64 0, .int .u64 0, .int .u64 0, .int .u64 0, .int .u64 0, .int .u64 0, .int .u64 0, .int .u64 0, .int .u64 0, .int .u64 0, .int .u64 0], eq := [] }
abbrev ti78 : TI := { key := .int .u32, size := 1, bytes := 4, zero := .int .u32 0, zc := [.int .u32 0], eq := [] }
abbrev ti79 : TI := { key := .array 65 5, size := 65, bytes := 65, zero := .agg #[.int .u8 0, .int .u8 0, .int .u8 0, .int .u8 0, .int .u8 0, .int .u8 0, .int .u8 0, .int .u8 0, .int .u8 0, .int .u8 0, .int .u8 0, .int .u8 0, .int .u8 0, .int .u8 0, .int .u8 0, .int .u8 0, .int .u8 0, .int .u8 0, .int .u8 0, .int .u8 0, .int .u8 0, .int .u8 0, .int .u8 0, .int .u8 0, .int .u8 0, .int .u8 0, .int .u8 0, .int .u8 0, .int .u8 0, .int .u8 0, .int .u8 0, .int .u8 0, .int .u8 0, .int .u8 0, .int .u8 0, .int .u8 0, .int .u8 0, .int .u8 0, .int .u8 0, .int .u8 0, .int .u8 0, .int .u8 0, .int .u8 0, .int .u8 0, .int .u8 0, .int .u8 0, .int .u8 0, .int .u8 0, .int .u8 0, .int .u8 0, .int .u8 0, .int .u8 0, .int .u8 0, .int .u8 0, .int .u8 0, .int .u8 0, .int .u8 0, .int .u8 0, .int .u8 0, .int .u8 0, .int .u8 0, .int .u8 0, .int .u8 0, .int .u8 0, .int .u8 0], zc := [.int .u8 0, .int .u8 0, .int .u8 0, .int .u8 0, .int .u8 0, .int .u8 0, .int .u8 0, .int .u8 0, .int .u8 0, .int .u8 0, .int .u8 0, .int .u8 0, .int .u8 0, .int .u8 0, .int .u8 0, .int .u8 0, .int .u8 0, .int .u8 0, .int .u8 0, .int .u8 0, .int .u8 0, .int .u8 0, .int .u8 0, .int .u8 0, .int .u8 0, .int .u8 0, .int .u8 0, .int .u8 0, .int .u8 0, .int .u8 0, .int .u8 0, .int .u8 0, .int .u8 0, .int .u8 0, .int .u8 0, .int .u8 0, .int .u8 0, .int .u8 0, .int .u8 0, .int .u8 0, .int .u8 0, .int .u8 0, .int .u8 0, .int .u8 0, .int .u8 0, .int .u8 0, .int .u8 0, .int .u8 0, .int .u8 0, .int .u8 0, .int .u8 0, .int .u8 0, .int .u8 0, .int .u8 0, .int .u8 0, .int .u8 0, .int .u8 0, .int .u8 0, .int .u8 0, .int .u8 0, .int .u8 0, .int .u8 0, .int .u8 0, .int .u8 0, .int .u8 0], eq := [] }
abbrev ti80 : TI := { key := .int .u64, size := 1, bytes := 8, zero := .int .u64 0, zc := [.int .u64 0], eq := [] }
abbrev ti83 : TI := { key := .array 32 5, size := 32, bytes := 32, zero := .agg #[.int .u8 0, .int .u8 0, .int .u8 0, .int .u8 0, .int .u8 0, .int .u8 0, .int .u8 0, .int .u8 0, .int .u8 0, .int .u8 0, .int .u8 0, .int .u8 0, .int .u8 0, .int .u8 0, .int .u8 0, .int .u8 0, .int .u8 0, .int .u8 0, .int .u8 0, .int .u8 0, .int .u8 0, .int .u8 0, .int .u8 0, .int .u8 0, .int .u8 0, .int .u8 0, .int .u8 0, .int .u8 0, .int .u8 0, .int .u8 0, .int .u8 0, .int .u8 0], zc := [.int .u8 0, .int .u8 0, .int .u8 0, .int .u8 0, .int .u8 0, .int .u8 0, .int .u8 0, .int .u8 0, .int .u8 0, .int .u8 0, .int .u8 0, .int .u8 0, .int .u8 0, .int .u8 0, .int .u8 0, .int .u8 0, .int .u8 0, .int .u8 0, .int .u8 0, .int .u8 0, .int .u8 0, .int .u8 0, .int .u8 0, .int .u8 0, .int .u8 0, .int .u8 0, .int .u8 0, .int .u8 0, .int .u8 0, .int .u8 0, .int .u8 0, .int .u8 0], eq := [] }
abbrev ti84 : TI := { key := .array 64 5, size := 64, bytes := 64, zero := .agg #[.int .u8 0, .int .u8 0, .int .u8 0, .int .u8 0, .int .u8 0, .int .u8 0, .int .u8 0, .int .u8 0, .int .u8 0, .int .u8 0, .int .u8 0, .int .u8 0, .int .u8 0, .int .u8 0, .int .u8 0, .int .u8 0, .int .u8 0, .int .u8 0, .int .u8 0, .int .u8 0, .int .u8 0, .int .u8 0, .int .u8 0, .int .u8 0, .int .u8 0, .int .u8 0, .int .u8 0, .int .u8 0, .int .u8 0, .int .u8 0, .int .u8 0, .int .u8 0, .int .u8 0, .int .u8 0, .int .u8 0, .int .u8 0, .int .u8 0, .int .u8 0, .int .u8 0, .int .u8 0, .int .u8 0, .int .u8 0, .int .u8 0, .int .u8 0, .int .u8 0, .int .u8 0, .int .u8 0, .int .u8 0, .int .u8 0, .int .u8 0, .int .u8 0, .int .u8 0, .int .u8 0, .int .u8 0, .int .u8 0, .int .u8 0, .int .u8 0, .int .u8 0, .int .u8 0, .int .u8 0, .int .u8 0, .int .u8 0, .int .u8 0, .int .u8 0], zc := [.int .u8 0, .int .u8 0, .int .u8 0, .int .u8 0, .int .u8 0, .int .u8 0, .int .u8 0, .int .u8 0, .int .u8 0, .int .u8 0, .int .u8 0, .int .u8 0, .int .u8 0, .int .u8 0, .int .u8 0, .int .u8 0, .int .u8 0, .int .u8 0, .int .u8 0, .int .u8 0, .int .u8 0, .int .u8 0, .int .u8 0, .int .u8 0, .int .u8 0, .int .u8 0, .int .u8 0, .int .u8 0, .int .u8 0, .int .u8 0, .int .u8 0, .int .u8 0, .int .u8 0, .int .u8 0, .int .u8 0, .int .u8 0, .int .u8 0, .int .u8 0, .int .u8 0, .int .u8 0, .int .u8 0, .int .u8 0, .int .u8 0, .int .u8 0, .int .u8 0, .int .u8 0, .int .u8 0, .int .u8 0, .int .u8 0, .int .u8 0, .int .u8 0, .int .u8 0, .int .u8 0, .int .u8 0, .int .u8 0, .int .u8 0, .int .u8 0, .int .u8 0, .int .u8 0, .int .u8 0, .int .u8 0, .int .u8 0, .int .u8 0, .int .u8 0], eq := [] }
abbrev ti95 : TI := { key := .other, size := 1, bytes := 8, zero := .pointer none, zc := [.lit (.pointer none)], eq := [] }
def tab : TypeId → Option TI
  | 2 => some ti2
  | 3 => some ti3
  | 4 => some ti4
  | 5 => some ti5
  | 9 => some ti9
  | 12 => some ti12
  | 15 => some ti15
  | 16 => some ti16
  | 17 => some ti17
  | 21 => some ti21
  | 22 => some ti22
  | 23 => some ti23
  | 24 => some ti24
  | 27 => some ti27
  | 29 => some ti29
  | 30 => some ti30
  | 37 => some ti37
  | 67 => some ti67
  | 68 => some ti68
  | 71 => some ti71
  | 75 => some ti75
  | 77 => some ti77
  | 78 => some ti78
  | 79 => some ti79
  | 80 => some ti80
  | 83 => some ti83
  | 84 => some ti84
  | 95 => some ti95
  | _ => none
noncomputable def E : Env := { P := Tryd.prog, tab := tab }
theorem tyok2 : TyOk Tryd.prog 2 ti2 where
  key := by kernel_rfl
  info := by kernel_rfl
  zc := by kernel_rfl
  zok := by kernel_rfl
  len := by kernel_rfl
  one := fun _ => rfl
  zero_slice := fun _ h => by cases h
  eq := fun h => absurd rfl h
theorem tyok3 : TyOk Tryd.prog 3 ti3 where
  key := by kernel_rfl
  info := by kernel_rfl
  zc := by kernel_rfl
  zok := by kernel_rfl
  len := by kernel_rfl
  one := fun _ => rfl
  zero_slice := fun _ h => by cases h
  eq := fun h => absurd rfl h
theorem tyok4 : TyOk Tryd.prog 4 ti4 where
  key := by kernel_rfl
  info := by kernel_rfl
  zc := by kernel_rfl
  zok := by kernel_rfl
  len := by kernel_rfl
  one := fun _ => rfl
  zero_slice := fun _ h => by cases h
  eq := fun h => absurd rfl h
theorem tyok5 : TyOk Tryd.prog 5 ti5 where
  key := by kernel_rfl
  info := by kernel_rfl
  zc := by kernel_rfl
  zok := by kernel_rfl
  len := by kernel_rfl
  one := fun _ => rfl
  zero_slice := fun _ h => by cases h
  eq := fun h => absurd rfl h
theorem tyok9 : TyOk Tryd.prog 9 ti9 where
  key := by kernel_rfl
  info := by kernel_rfl
  zc := by kernel_rfl
  zok := by kernel_rfl
  len := by kernel_rfl
  one := fun _ => rfl
  zero_slice := fun _ h => by cases h
  eq := fun h => absurd rfl h
theorem tyok12 : TyOk Tryd.prog 12 ti12 where
  key := by kernel_rfl
  info := by kernel_rfl
  zc := by kernel_rfl
  zok := by kernel_rfl
  len := by kernel_rfl
  one := fun _ => rfl
  zero_slice := fun _ h => by cases h
  eq := fun h => absurd rfl h
theorem tyok15 : TyOk Tryd.prog 15 ti15 where
  key := by kernel_rfl
  info := by kernel_rfl
  zc := by kernel_rfl
  zok := by kernel_rfl
  len := by kernel_rfl
  one := fun _ => rfl
  zero_slice := fun _ h => by cases h
  eq := fun h => absurd rfl h
theorem tyok16 : TyOk Tryd.prog 16 ti16 where
  key := by kernel_rfl
  info := by kernel_rfl
  zc := by kernel_rfl
  zok := by kernel_rfl
  len := by kernel_rfl
  one := fun _ => rfl
  zero_slice := fun _ h => by cases h
  eq := fun h => absurd rfl h
theorem tyok17 : TyOk Tryd.prog 17 ti17 where
  key := by kernel_rfl
  info := by kernel_rfl
  zc := by kernel_rfl
  zok := by kernel_rfl
  len := by kernel_rfl
  one := fun _ => rfl
  zero_slice := fun _ h => by cases h
  eq := fun h => absurd rfl h
theorem tyok21 : TyOk Tryd.prog 21 ti21 where
  key := by kernel_rfl
  info := by kernel_rfl
  zc := by kernel_rfl
  zok := by kernel_rfl
  len := by kernel_rfl
  one := fun _ => rfl
  zero_slice := fun _ h => by cases h
  eq := fun h => absurd rfl h
theorem tyok22 : TyOk Tryd.prog 22 ti22 where
  key := by kernel_rfl
  info := by kernel_rfl
  zc := by kernel_rfl
  zok := by kernel_rfl
  len := by kernel_rfl
  one := fun _ => rfl
  zero_slice := fun _ _ => rfl
  eq := fun h => absurd rfl h
theorem tyok23 : TyOk Tryd.prog 23 ti23 where
  key := by kernel_rfl
  info := by kernel_rfl
  zc := by kernel_rfl
  zok := by kernel_rfl
  len := by kernel_rfl
  one := fun h => by cases h
  zero_slice := fun _ h => by cases h
  eq := fun h => absurd rfl h
theorem tyok24 : TyOk Tryd.prog 24 ti24 where
  key := by kernel_rfl
  info := by kernel_rfl
  zc := by kernel_rfl
  zok := by kernel_rfl
  len := by kernel_rfl
  one := fun h => by cases h
  zero_slice := fun _ h => by cases h
  eq := fun h => absurd rfl h
theorem tyok27 : TyOk Tryd.prog 27 ti27 where
  key := by kernel_rfl
  info := by kernel_rfl
  zc := by kernel_rfl
  zok := by kernel_rfl
  len := by kernel_rfl
  one := fun _ => rfl
  zero_slice := fun _ h => by cases h
  eq := fun h => absurd rfl h
theorem tyok29 : TyOk Tryd.prog 29 ti29 where
  key := by kernel_rfl
  info := by kernel_rfl
  zc := by kernel_rfl
  zok := by kernel_rfl
  len := by kernel_rfl
  one := fun h => by cases h
  zero_slice := fun _ h => by cases h
  eq := fun _ => ⟨by kernel_rfl, by kernel_rfl, by kernel_rfl⟩
theorem tyok30 : TyOk Tryd.prog 30 ti30 where
  key := by kernel_rfl
  info := by kernel_rfl
  zc := by kernel_rfl
  zok := by kernel_rfl
  len := by kernel_rfl
  one := fun h => by cases h
  zero_slice := fun _ h => by cases h
  eq := fun _ => ⟨by kernel_rfl, by kernel_rfl, by kernel_rfl⟩
theorem tyok37 : TyOk Tryd.prog 37 ti37 where
  key := by kernel_rfl
  info := by kernel_rfl
  zc := by kernel_rfl
  zok := by kernel_rfl
  len := by kernel_rfl
  one := fun _ => rfl
  zero_slice := fun _ _ => rfl
  eq := fun h => absurd rfl h
theorem tyok67 : TyOk Tryd.prog 67 ti67 where
  key := by kernel_rfl
  info := by kernel_rfl
  zc := by kernel_rfl
  zok := by kernel_rfl
  len := by kernel_rfl
  one := fun h => by cases h
  zero_slice := fun _ h => by cases h
  eq := fun h => absurd rfl h
theorem tyok68 : TyOk Tryd.prog 68 ti68 where
  key := by kernel_rfl
  info := by kernel_rfl
  zc := by kernel_rfl
  zok := by kernel_rfl
  len := by kernel_rfl
  one := fun _ => rfl
  zero_slice := fun _ h => by cases h
  eq := fun h => absurd rfl h
theorem tyok71 : TyOk Tryd.prog 71 ti71 where
  key := by kernel_rfl
  info := by kernel_rfl
  zc := by kernel_rfl
  zok := by kernel_rfl
  len := by kernel_rfl
  one := fun _ => rfl
  zero_slice := fun _ _ => rfl
  eq := fun h => absurd rfl h
theorem tyok75 : TyOk Tryd.prog 75 ti75 where
  key := by kernel_rfl
  info := by kernel_rfl
  zc := by kernel_rfl
  zok := by kernel_rfl
  len := by kernel_rfl
  one := fun h => by cases h
  zero_slice := fun _ h => by cases h
  eq := fun h => absurd rfl h
theorem tyok77 : TyOk Tryd.prog 77 ti77 where
  key := by kernel_rfl
  info := by kernel_rfl
  zc := by kernel_rfl
  zok := by kernel_rfl
  len := by kernel_rfl
  one := fun h => by cases h
  zero_slice := fun _ h => by cases h
  eq := fun h => absurd rfl h
theorem tyok78 : TyOk Tryd.prog 78 ti78 where
  key := by kernel_rfl
  info := by kernel_rfl
  zc := by kernel_rfl
  zok := by kernel_rfl
  len := by kernel_rfl
  one := fun _ => rfl
  zero_slice := fun _ h => by cases h
  eq := fun h => absurd rfl h
theorem tyok79 : TyOk Tryd.prog 79 ti79 where
  key := by kernel_rfl
  info := by kernel_rfl
  zc := by kernel_rfl
  zok := by kernel_rfl
  len := by kernel_rfl
  one := fun h => by cases h
  zero_slice := fun _ h => by cases h
  eq := fun h => absurd rfl h
theorem tyok80 : TyOk Tryd.prog 80 ti80 where
  key := by kernel_rfl
  info := by kernel_rfl
  zc := by kernel_rfl
  zok := by kernel_rfl
  len := by kernel_rfl
  one := fun _ => rfl
  zero_slice := fun _ h => by cases h
  eq := fun h => absurd rfl h
theorem tyok83 : TyOk Tryd.prog 83 ti83 where
  key := by kernel_rfl
  info := by kernel_rfl
  zc := by kernel_rfl
  zok := by kernel_rfl
  len := by kernel_rfl
  one := fun h => by cases h
  zero_slice := fun _ h => by cases h
  eq := fun h => absurd rfl h
theorem tyok84 : TyOk Tryd.prog 84 ti84 where
  key := by kernel_rfl
  info := by kernel_rfl
  zc := by kernel_rfl
  zok := by kernel_rfl
  len := by kernel_rfl
  one := fun h => by cases h
  zero_slice := fun _ h => by cases h
  eq := fun h => absurd rfl h
theorem tyok95 : TyOk Tryd.prog 95 ti95 where
  key := by kernel_rfl
  info := by kernel_rfl
  zc := by kernel_rfl
  zok := by kernel_rfl
  len := by kernel_rfl
  one := fun _ => rfl
  zero_slice := fun _ h => by cases h
  eq := fun h => absurd rfl h
theorem E_ok : E.Ok := by
  refine ⟨by kernel_rfl, fun t ti h => ?_⟩
  change tab t = some ti at h
  unfold tab at h
  split at h
  · cases h; exact tyok2
  · cases h; exact tyok3
  · cases h; exact tyok4
  · cases h; exact tyok5
  · cases h; exact tyok9
  · cases h; exact tyok12
  · cases h; exact tyok15
  · cases h; exact tyok16
  · cases h; exact tyok17
  · cases h; exact tyok21
  · cases h; exact tyok22
  · cases h; exact tyok23
  · cases h; exact tyok24
  · cases h; exact tyok27
  · cases h; exact tyok29
  · cases h; exact tyok30
  · cases h; exact tyok37
  · cases h; exact tyok67
  · cases h; exact tyok68
  · cases h; exact tyok71
  · cases h; exact tyok75
  · cases h; exact tyok77
  · cases h; exact tyok78
  · cases h; exact tyok79
  · cases h; exact tyok80
  · cases h; exact tyok83
  · cases h; exact tyok84
  · cases h; exact tyok95
  · cases h
@[simp] theorem tab2 : E.tab 2 = some { key := .int .i64, size := 1, bytes := 8, zero := .int .i64 0, zc := [.int .i64 0], eq := [] } := rfl
@[simp] theorem tab3 : E.tab 3 = some { key := .int .i64, size := 1, bytes := 8, zero := .int .i64 0, zc := [.int .i64 0], eq := [] } := rfl
@[simp] theorem tab4 : E.tab 4 = some { key := .bool, size := 1, bytes := 1, zero := .bool false, zc := [.bool false], eq := [] } := rfl
@[simp] theorem tab5 : E.tab 5 = some { key := .int .u8, size := 1, bytes := 1, zero := .int .u8 0, zc := [.int .u8 0], eq := [] } := rfl
@[simp] theorem tab9 : E.tab 9 = some { key := .string, size := 1, bytes := 16, zero := .string ⟨#[]⟩, zc := [.str []], eq := [] } := rfl
@[simp] theorem tab12 : E.tab 12 = some { key := .int .u64, size := 1, bytes := 8, zero := .int .u64 0, zc := [.int .u64 0], eq := [] } := rfl
@[simp] theorem tab15 : E.tab 15 = some { key := .other, size := 1, bytes := 8, zero := .pointer none, zc := [.lit (.pointer none)], eq := [] } := rfl
@[simp] theorem tab16 : E.tab 16 = some { key := .other, size := 1, bytes := 8, zero := .pointer none, zc := [.lit (.pointer none)], eq := [] } := rfl
@[simp] theorem tab17 : E.tab 17 = some { key := .other, size := 1, bytes := 8, zero := .pointer none, zc := [.lit (.pointer none)], eq := [] } := rfl
@[simp] theorem tab21 : E.tab 21 = some { key := .int .i32, size := 1, bytes := 4, zero := .int .i32 0, zc := [.int .i32 0], eq := [] } := rfl
@[simp] theorem tab22 : E.tab 22 = some { key := .slice 3, size := 1, bytes := 24, zero := .slice none 0 0, zc := [.slice (.int .i64 0) []], eq := [] } := rfl
@[simp] theorem tab23 : E.tab 23 = some { key := .struct [(0, 3), (1, 3), (2, 3), (3, 3), (4, 22), (5, 22)], size := 6, bytes := 80, zero := .agg #[.int .i64 0, .int .i64 0, .int .i64 0, .int .i64 0, .slice none 0 0, .slice none 0 0], zc := [.int .i64 0, .int .i64 0, .int .i64 0, .int .i64 0, .slice (.int .i64 0) [], .slice (.int .i64 0) []], eq := [] } := rfl
@[simp] theorem tab24 : E.tab 24 = some { key := .struct [(0, 3), (1, 3), (2, 3), (3, 3), (4, 22), (5, 22)], size := 6, bytes := 80, zero := .agg #[.int .i64 0, .int .i64 0, .int .i64 0, .int .i64 0, .slice none 0 0, .slice none 0 0], zc := [.int .i64 0, .int .i64 0, .int .i64 0, .int .i64 0, .slice (.int .i64 0) [], .slice (.int .i64 0) []], eq := [] } := rfl
@[simp] theorem tab27 : E.tab 27 = some { key := .int .i64, size := 1, bytes := 8, zero := .int .i64 0, zc := [.int .i64 0], eq := [] } := rfl
@[simp] theorem tab29 : E.tab 29 = some { key := .struct [(0, 3), (1, 3), (2, 3), (3, 3), (4, 3), (5, 3)], size := 6, bytes := 48, zero := .agg #[.int .i64 0, .int .i64 0, .int .i64 0, .int .i64 0, .int .i64 0, .int .i64 0], zc := [.int .i64 0, .int .i64 0, .int .i64 0, .int .i64 0, .int .i64 0, .int .i64 0], eq := [0, 0, 0, 0, 0, 0] } := rfl
@[simp] theorem tab30 : E.tab 30 = some { key := .struct [(0, 3), (1, 3), (2, 3), (3, 3), (4, 3), (5, 3)], size := 6, bytes := 48, zero := .agg #[.int .i64 0, .int .i64 0, .int .i64 0, .int .i64 0, .int .i64 0, .int .i64 0], zc := [.int .i64 0, .int .i64 0, .int .i64 0, .int .i64 0, .int .i64 0, .int .i64 0], eq := [0, 0, 0, 0, 0, 0] } := rfl
@[simp] theorem tab37 : E.tab 37 = some { key := .slice 30, size := 1, bytes := 24, zero := .slice none 0 0, zc := [.slice (.agg [.int .i64 0, .int .i64 0, .int .i64 0, .int .i64 0, .int .i64 0, .int .i64 0]) []], eq := [] } := rfl
@[simp] theorem tab67 : E.tab 67 = some { key := .array 24 5, size := 24, bytes := 24, zero := .agg #[.int .u8 0, .int .u8 0, .int .u8 0, .int .u8 0, .int .u8 0, .int .u8 0, .int .u8 0, .int .u8 0, .int .u8 0, .int .u8 0, .int .u8 0, .int .u8 0, .int .u8 0, .int .u8 0, .int .u8 0, .int .u8 0, .int .u8 0, .int .u8 0, .int .u8 0, .int .u8 0, .int .u8 0, .int .u8 0, .int .u8 0, .int .u8 0], zc := [.int .u8 0, .int .u8 0, .int .u8 0, .int .u8 0, .int .u8 0, .int .u8 0, .int .u8 0, .int .u8 0, .int .u8 0, .int .u8 0, .int .u8 0, .int .u8 0, .int .u8 0, .int .u8 0, .int .u8 0, .int .u8 0, .int .u8 0, .int .u8 0, .int .u8 0, .int .u8 0, .int .u8 0, .int .u8 0, .int .u8 0, .int .u8 0], eq := [] } := rfl
@[simp] theorem tab68 : E.tab 68 = some { key := .int .u64, size := 1, bytes := 8, zero := .int .u64 0, zc := [.int .u64 0], eq := [] } := rfl
@[simp] theorem tab71 : E.tab 71 = some { key := .slice 5, size := 1, bytes := 24, zero := .slice none 0 0, zc := [.slice (.int .u8 0) []], eq := [] } := rfl
@[simp] theorem tab75 : E.tab 75 = some { key := .array 12 3, size := 12, bytes := 96, zero := .agg #[.int .i64 0, .int .i64 0, .int .i64 0, .int .i64 0, .int .i64 0, .int .i64 0, .int .i64 0, .int .i64 0, .int .i64 0, .int .i64 0, .int .i64 0, .int .i64 0], zc := [.int .i64 0, .int .i64 0, .int .i64 0, .int .i64 0, .int .i64 0, .int .i64 0, .int .i64 0, .int .i64 0, .int .i64 0, .int .i64 0, .int .i64 0, .int .i64 0], eq := [] } := rfl
@[simp] theorem tab77 : E.tab 77 = some { key := .array 20 68, size := 20, bytes := 160, zero := .agg #[.int .u64 0, .int .u64 0, .int .u64 0, .int .u64 0, .int .u64 0, .int .u64 0, .int .u64 0, .int .u64 0, .int .u64 0, .int .u64 0, .int .u64 0, .int .u64 0, .int .u64 0, .int .u64 0, .int .u64 0, .int .u64 0, .int .u64 0, .int .u64 0, .int .u64 0, .int .u64 0], zc := [.int .u64 0, .int .u64 0, .int .u64 0, .int .u64 0, .int .u64 0, .int .u64 0, .int .u64 0, .int .u64 0, .int .u64 0, .int .u64 0, .int .u64 0, .int .u64 0, .int .u64 0, .int .u64 0, .int .u64 0, .int .u64 0, .int .u64 0, .int .u64 0, .int .u64 0, .int .u64 0], eq := [] } := rfl
@[simp] theorem tab78 : E.tab 78 = some { key := .int .u32, size := 1, bytes := 4, zero := .int .u32 0, zc := [.int .u32 0], eq := [] } := rfl
@[simp] theorem tab79 : E.tab 79 = some { key := .array 65 5, size := 65, bytes := 65, zero := .agg #[.int .u8 0, .int .u8 0, .int .u8 0, .int .u8 0, .int .u8 0, .int .u8 0, .int .u8 0, .int .u8 0, .int .u8 0, .int .u8 0, .int .u8 0, .int .u8 0, .int .u8 0, .int .u8 0, .int .u8 0, .int .u8 0, .int .u8 0, .int .u8 0, .int .u8 0, .int .u8 0, .int .u8 0, .int .u8 0, .int .u8 0, .int .u8 0, .int .u8 0, .int .u8 0, .int .u8 0, .int .u8 0, .int .u8 0, .int .u8 0, .int .u8 0, .int .u8 0, .int .u8 0, .int .u8 0, .int .u8 0, .int .u8 0, .int .u8 0, .int .u8 0, .int .u8 0, .int .u8 0, .int .u8 0, .int .u8 0, .int .u8 0, .int .u8 0, .int .u8 0, .int .u8 0, .int .u8 0, .int .u8 0, .int .u8 0, .int .u8 0, .int .u8 0, .int .u8 0, .int .u8 0, .int .u8 0, .int .u8 0, .int .u8 0, .int .u8 0, .int .u8 0, .int .u8 0, .int .u8 0, .int .u8 0, .int .u8 0, .int .u8 0, .int .u8 0, .int .u8 0], zc := [.int .u8 0, .int .u8 0, .int .u8 0, .int .u8 0, .int .u8 0, .int .u8 0, .int .u8 0, .int .u8 0, .int .u8 0, .int .u8 0, .int .u8 0, .int .u8 0, .int .u8 0, .int .u8 0, .int .u8 0, .int .u8 0, .int .u8 0, .int .u8 0, .int .u8 0, .int .u8 0, .int .u8 0, .int .u8 0, .int .u8 0, .int .u8 0, .int .u8 0, .int .u8 0, .int .u8 0, .int .u8 0, .int .u8 0, .int .u8 0, .int .u8 0, .int .u8 0, .int .u8 0, .int .u8 0, .int .u8 0, .int .u8 0, .int .u8 0, .int .u8 0, .int .u8 0, .int .u8 0, .int .u8 0, .int .u8 0, .int .u8 0, .int .u8 0, .int .u8 0, .int .u8 0, .int .u8 0, .int .u8 0, .int .u8 0, .int .u8 0, .int .u8 0, .int .u8 0, .int .u8 0, .int .u8 0, .int .u8 0, .int .u8 0, .int .u8 0, .int .u8 0, .int .u8 0, .int .u8 0, .int .u8 0, .int .u8 0, .int .u8 0, .int .u8 0, .int .u8 0], eq := [] } := rfl
@[simp] theorem tab80 : E.tab 80 = some { key := .int .u64, size := 1, bytes := 8, zero := .int .u64 0, zc := [.int .u64 0], eq := [] } := rfl
@[simp] theorem tab83 : E.tab 83 = some { key := .array 32 5, size := 32, bytes := 32, zero := .agg #[.int .u8 0, .int .u8 0, .int .u8 0, .int .u8 0, .int .u8 0, .int .u8 0, .int .u8 0, .int .u8 0, .int .u8 0, .int .u8 0, .int .u8 0, .int .u8 0, .int .u8 0, .int .u8 0, .int .u8 0, .int .u8 0, .int .u8 0, .int .u8 0, .int .u8 0, .int .u8 0, .int .u8 0, .int .u8 0, .int .u8 0, .int .u8 0, .int .u8 0, .int .u8 0, .int .u8 0, .int .u8 0, .int .u8 0, .int .u8 0, .int .u8 0, .int .u8 0], zc := [.int .u8 0, .int .u8 0, .int .u8 0, .int .u8 0, .int .u8 0, .int .u8 0, .int .u8 0, .int .u8 0, .int .u8 0, .int .u8 0, .int .u8 0, .int .u8 0, .int .u8 0, .int .u8 0, .int .u8 0, .int .u8 0, .int .u8 0, .int .u8 0, .int .u8 0, .int .u8 0, .int .u8 0, .int .u8 0, .int .u8 0, .int .u8 0, .int .u8 0, .int .u8 0, .int .u8 0, .int .u8 0, .int .u8 0, .int .u8 0, .int .u8 0, .int .u8 0], eq := [] } := rfl
@[simp] theorem tab84 : E.tab 84 = some { key := .array 64 5, size := 64, bytes := 64, zero := .agg #[.int .u8 0, .int .u8 0, .int .u8 0, .int .u8 0, .int .u8 0, .int .u8 0, .int .u8 0, .int .u8 0, .int .u8 0, .int .u8 0, .int .u8 0, .int .u8 0, .int .u8 0, .int .u8 0, .int .u8 0, .int .u8 0, .int .u8 0, .int .u8 0, .int .u8 0, .int .u8 0, .int .u8 0, .int .u8 0, .int .u8 0, .int .u8 0, .int .u8 0, .int .u8 0, .int .u8 0, .int .u8 0, .int .u8 0, .int .u8 0, .int .u8 0, .int .u8 0, .int .u8 0, .int .u8 0, .int .u8 0, .int .u8 0, .int .u8 0, .int .u8 0, .int .u8 0, .int .u8 0, .int .u8 0, .int .u8 0, .int .u8 0, .int .u8 0, .int .u8 0, .int .u8 0, .int .u8 0, .int .u8 0, .int .u8 0, .int .u8 0, .int .u8 0, .int .u8 0, .int .u8 0, .int .u8 0, .int .u8 0, .int .u8 0, .int .u8 0, .int .u8 0, .int .u8 0, .int .u8 0, .int .u8 0, .int .u8 0, .int .u8 0, .int .u8 0], zc := [.int .u8 0, .int .u8 0, .int .u8 0, .int .u8 0, .int .u8 0, .int .u8 0, .int .u8 0, .int .u8 0, .int .u8 0, .int .u8 0, .int .u8 0, .int .u8 0, .int .u8 0, .int .u8 0, .int .u8 0, .int .u8 0, .int .u8 0, .int .u8 0, .int .u8 0, .int .u8 0, .int .u8 0, .int .u8 0, .int .u8 0, .int .u8 0, .int .u8 0, .int .u8 0, .int .u8 0, .int .u8 0, .int .u8 0, .int .u8 0, .int .u8 0, .int .u8 0, .int .u8 0, .int .u8 0, .int .u8 0, .int .u8 0, .int .u8 0, .int .u8 0, .int .u8 0, .int .u8 0, .int .u8 0, .int .u8 0, .int .u8 0, .int .u8 0, .int .u8 0, .int .u8 0, .int .u8 0, .int .u8 0, .int .u8 0, .int .u8 0, .int .u8 0, .int .u8 0, .int .u8 0, .int .u8 0, .int .u8 0, .int .u8 0, .int .u8 0, .int .u8 0, .int .u8 0, .int .u8 0, .int .u8 0, .int .u8 0, .int .u8 0, .int .u8 0], eq := [] } := rfl
@[simp] theorem tab95 : E.tab 95 = some { key := .other, size := 1, bytes := 8, zero := .pointer none, zc := [.lit (.pointer none)], eq := [] } := rfl
end Go.Proofs.YtfaaceakmfokoaaDoor

namespace Go.Proofs.YtfaaceakmfokoaaDoor
open Go Ab
abbrev n_main_main : Nat := 0
abbrev n_gosem_cut : Nat := 1
abbrev n_gosem_cut_init : Nat := 2
abbrev n_law36_PatternNth : Nat := 3
abbrev n_law36_PatternLabels : Nat := 4
abbrev n_law36_PatternLists : Nat := 5
abbrev n_law36_PatternChecks : Nat := 6
abbrev n_law36_PatternNumbers : Nat := 7
abbrev n_law36_PatternAgrees : Nat := 8
abbrev n_law36_alive : Nat := 9
abbrev n_law36_short : Nat := 10
abbrev n_ref36_Right : Nat := 11
abbrev n_pattern_Nth : Nat := 12
abbrev n_ref36_Nth : Nat := 13
abbrev n_pattern_Label : Nat := 14
abbrev n_ref36_Label : Nat := 15
abbrev n_ref36_Same : Nat := 16
abbrev n_pattern_List : Nat := 17
abbrev n_ref36_List : Nat := 18
abbrev n_pattern_Until : Nat := 19
abbrev n_ref36_Until : Nat := 20
abbrev n_pattern_Right : Nat := 21
abbrev n_ref01_Ints : Nat := 22
abbrev n_ref36_months : Nat := 23
abbrev n_ref36_in : Nat := 24
abbrev n_pattern_issues : Nat := 25
abbrev n_ref36_Issues : Nat := 26
abbrev n_strconv_Itoa : Nat := 27
abbrev n_ref36_signed : Nat := 28
abbrev n_pattern_months : Nat := 29
abbrev n_slices_ContainsFunc_int_int : Nat := 30
abbrev n_pattern_Right_1 : Nat := 31
abbrev n_slices_Contains_int_int : Nat := 32
abbrev n_pattern_issues_1 : Nat := 33
abbrev n_pattern_next : Nat := 34
abbrev n_pattern_month : Nat := 35
abbrev n_ref36_following : Nat := 36
abbrev n_ref36_month : Nat := 37
abbrev n_internal_strconv_Itoa : Nat := 38
abbrev n_ref01_Digits : Nat := 39
abbrev n_slices_IndexFunc_int_int : Nat := 40
abbrev n_slices_Index_int_int : Nat := 41
abbrev n_pattern_nominal : Nat := 42
abbrev n_date_Parts : Nat := 43
abbrev n_ref36_nominal : Nat := 44
abbrev n_ref03_Parts : Nat := 45
abbrev n_internal_strconv_FormatInt : Nat := 46
abbrev n_date_Months : Nat := 47
abbrev n_date_known : Nat := 48
abbrev n_date_newYear : Nat := 49
abbrev n_date_before : Nat := 50
abbrev n_ref03_Months : Nat := 51
abbrev n_ref03_Is : Nat := 52
abbrev n_ref03_Year : Nat := 53
abbrev n_ref03_Length : Nat := 54
abbrev n_internal_strconv_small : Nat := 55
abbrev n_internal_strconv_numDigits : Nat := 56
abbrev n_internal_strconv_formatBase10 : Nat := 57
abbrev n_internal_strconv_formatBits : Nat := 58
abbrev n_date_Of : Nat := 59
abbrev n_date_Length : Nat := 60
abbrev n_date_leap : Nat := 61
abbrev n_ref03_Of : Nat := 62
abbrev n_internal_strconv_log10Pow2 : Nat := 63
abbrev n_math_bits_Len64 : Nat := 64
abbrev n_internal_strconv_bool2_int : Nat := 65
abbrev n_internal_strconv_isPowerOfTwo : Nat := 66
abbrev n_math_bits_TrailingZeros : Nat := 67
abbrev n_math_bits_TrailingZeros32 : Nat := 68
abbrev n_math_bits_TrailingZeros64 : Nat := 69
abbrev n_runtime_boundsError_Error : Nat := 70
abbrev n_runtime_boundsError_RuntimeError : Nat := 71
abbrev n_runtime_errorString_Error : Nat := 72
abbrev n_runtime_errorString_RuntimeError : Nat := 73
abbrev n_runtime_plainError_Error : Nat := 74
abbrev n_runtime_plainError_RuntimeError : Nat := 75
abbrev n_runtime_errorAddressString_Error : Nat := 76
abbrev n_runtime_errorAddressString_RuntimeError : Nat := 77
abbrev n_runtime_TypeAssertionError_Error : Nat := 78
abbrev n_runtime_TypeAssertionError_RuntimeError : Nat := 79
abbrev n_runtime_PanicNilError_Error : Nat := 80
abbrev n_runtime_PanicNilError_RuntimeError : Nat := 81
abbrev n_internal_abi_Type_Align : Nat := 82
abbrev n_internal_runtime_maps_unhashableTypeError_Error : Nat := 83
abbrev n_internal_runtime_maps_unhashableTypeError_RuntimeError : Nat := 84
abbrev n_api_Errno_Error : Nat := 85
abbrev n_internal_abi_Kind_String : Nat := 86
abbrev n_var_s_door_gosem_cut_vars_holds_initialisers_alone_see_the_manifest_s_row_cutvarsword_look_11_test_files_too : Nat := 87
abbrev n_var_s_door_internal_strconv_uint64pow10_is_laid_by_its_own_initialiser_plain_data_look_11 : Nat := 88
abbrev n_var_s_door_math_bits_deBruijn32tab_is_laid_by_its_own_initialiser_plain_data_look_11 : Nat := 89
abbrev n_var_s_door_math_bits_deBruijn64tab_is_laid_by_its_own_initialiser_plain_data_look_11 : Nat := 90
abbrev n_var_s_door_the_look_of_gosem_cut_vars_went_over_the_folder_that_the_caller_named_as_the_repository_s_root_look_11 : Nat := 91
abbrev n_gosem_cut_vars : Nat := 92
abbrev t_ : Nat := 0
abbrev t_a0_p_runtime_PanicNilError : Nat := 88
abbrev t_a12_int : Nat := 75
abbrev t_a20_uint64 : Nat := 77
abbrev t_a24_uint8 : Nat := 67
abbrev t_a32_uint8 : Nat := 83
abbrev t_a64_uint8 : Nat := 84
abbrev t_a65_uint8 : Nat := 79
abbrev t_abi_BoundsErrorCode : Nat := 6
abbrev t_abi_Kind : Nat := 93
abbrev t_abi_NameOff : Nat := 96
abbrev t_abi_TFlag : Nat := 92
abbrev t_abi_Type : Nat := 99
abbrev t_abi_TypeOff : Nat := 97
abbrev t_api_Errno : Nat := 27
abbrev t_api_Issue : Nat := 30
abbrev t_api_Pattern : Nat := 24
abbrev t_bool : Nat := 4
abbrev t_int : Nat := 3
abbrev t_int32 : Nat := 21
abbrev t_int64 : Nat := 2
abbrev t_iter_Seq_library_api_Issue : Nat := 46
abbrev t_maps_unhashableTypeError : Nat := 19
abbrev t_p_abi_Type : Nat := 17
abbrev t_p_runtime_PanicNilError : Nat := 16
abbrev t_p_runtime_TypeAssertionError : Nat := 15
abbrev t_p_uint8 : Nat := 95
abbrev t_runtime_PanicNilError : Nat := 90
abbrev t_runtime_TypeAssertionError : Nat := 87
abbrev t_runtime_boundsError : Nat := 8
abbrev t_runtime_errorAddressString : Nat := 14
abbrev t_runtime_errorString : Nat := 10
abbrev t_runtime_plainError : Nat := 11
abbrev t_s_api_Issue : Nat := 37
abbrev t_s_int : Nat := 22
abbrev t_s_uint8 : Nat := 71
abbrev t_string : Nat := 9
abbrev t_uint : Nat := 80
abbrev t_uint32 : Nat := 78
abbrev t_uint64 : Nat := 68
abbrev t_uint8 : Nat := 5
abbrev t_uintptr : Nat := 12
abbrev t_unsafe_Pointer : Nat := 100
def tabZ_math_bits_deBruijn32tab : List Int := [0, 1, 28, 2, 29, 14, 24, 3, 30, 22, 20, 15, 25, 17, 4, 8, 31, 27, 13, 23, 21, 19, 16, 7, 26, 12, 18, 6, 11, 5, 10, 9]
@[simp] theorem tabZ_math_bits_deBruijn32tab_len : tabZ_math_bits_deBruijn32tab.length = 32 := rfl
def tabL0 : TabL := ⟨ "math/bits.deBruijn32tab", 1, .u8, tabZ_math_bits_deBruijn32tab⟩
def tabZ_math_bits_deBruijn64tab : List Int := [0, 1, 56, 2, 57, 49, 28, 3, 61, 58, 42, 50, 38, 29, 17, 4, 62, 47, 59, 36, 45, 43, 51, 22, 53, 39, 33, 30, 24, 18, 12, 5, 63, 55, 48, 27, 60, 41, 37, 16, 46, 35, 44, 21, 52, 32, 23, 11, 54, 26, 40, 15, 34, 20, 31, 10, 25, 14, 19, 9, 13, 8, 7, 6]
@[simp] theorem tabZ_math_bits_deBruijn64tab_len : tabZ_math_bits_deBruijn64tab.length = 64 := rfl
def tabL1 : TabL := ⟨ "math/bits.deBruijn64tab", 2, .u8, tabZ_math_bits_deBruijn64tab⟩
def tabZ_internal_strconv_uint64pow10 : List Int := [1, 10, 100, 1000, 10000, 100000, 1000000, 10000000, 100000000, 1000000000, 10000000000, 100000000000, 1000000000000, 10000000000000, 100000000000000, 1000000000000000, 10000000000000000, 100000000000000000, 1000000000000000000, 10000000000000000000]
@[simp] theorem tabZ_internal_strconv_uint64pow10_len : tabZ_internal_strconv_uint64pow10.length = 20 := rfl
def tabL2 : TabL := ⟨ "internal/strconv.uint64pow10", 0, .u64, tabZ_internal_strconv_uint64pow10⟩
def tabL : List TabL := [tabL0, tabL1, tabL2]
theorem tabL_g : ∀ x ∈ tabL, Tryd.prog.globalNamed x.name = some x.g := by
  intro x hx
  simp only [tabL, List.mem_cons, List.not_mem_nil, or_false] at hx
  rcases hx with rfl | rfl | rfl <;> kernel_rfl
theorem tabL_r : ∀ x ∈ tabL, ∀ z ∈ x.zs, x.k.min ≤ z ∧ z ≤ x.k.max := by decide +kernel
instance amb : Amb := Amb.tabs Tryd.prog tabL tabL_g tabL_r
@[simp] theorem amb_tab1 : Amb.tab 1 = some (tabZ_math_bits_deBruijn32tab.map (D.int .u8)) := rfl
@[simp] theorem amb_tab2 : Amb.tab 2 = some (tabZ_math_bits_deBruijn64tab.map (D.int .u8)) := rfl
@[simp] theorem amb_tab0 : Amb.tab 0 = some (tabZ_internal_strconv_uint64pow10.map (D.int .u64)) := rfl
theorem amb_is1 {w : World} {S : Nat → Nat → Prop} (h : Amb.G w S) : Go.Lib.TabIs Tryd.prog w "math/bits.deBruijn32tab" .u8 [0, 1, 28, 2, 29, 14, 24, 3, 30, 22, 20, 15, 25, 17, 4, 8, 31, 27, 13, 23, 21, 19, 16, 7, 26, 12, 18, 6, 11, 5, 10, 9] := (h tabL0 (by simp [tabL])).1
theorem amb_is2 {w : World} {S : Nat → Nat → Prop} (h : Amb.G w S) : Go.Lib.TabIs Tryd.prog w "math/bits.deBruijn64tab" .u8 [0, 1, 56, 2, 57, 49, 28, 3, 61, 58, 42, 50, 38, 29, 17, 4, 62, 47, 59, 36, 45, 43, 51, 22, 53, 39, 33, 30, 24, 18, 12, 5, 63, 55, 48, 27, 60, 41, 37, 16, 46, 35, 44, 21, 52, 32, 23, 11, 54, 26, 40, 15, 34, 20, 31, 10, 25, 14, 19, 9, 13, 8, 7, 6] := (h tabL1 (by simp [tabL])).1
theorem amb_is0 {w : World} {S : Nat → Nat → Prop} (h : Amb.G w S) : Go.Lib.TabIs Tryd.prog w "internal/strconv.uint64pow10" .u64 [1, 10, 100, 1000, 10000, 100000, 1000000, 10000000, 100000000, 1000000000, 10000000000, 100000000000, 1000000000000, 10000000000000, 100000000000000, 1000000000000000, 10000000000000000, 100000000000000000, 1000000000000000000, 10000000000000000000] := (h tabL2 (by simp [tabL])).1
theorem mixed : E.P.follows .mixedOrders = true := by kernel_rfl
end Go.Proofs.YtfaaceakmfokoaaDoor

/- Dates: years, months and days. -/
namespace Pl
set_option linter.unusedVariables false
set_option linter.unusedSimpArgs false
def leapB (y : Int) : Bool := decide (y % 4 = 0 ∧ (¬ y % 100 = 0 ∨ y % 400 = 0))
theorem leap_iff {y : Int} (h : 1900 ≤ y) (h2 : y ≤ 2199) : leapB y = true ↔ (y % 4 = 0 ∧ ¬ y = 1900 ∧ ¬ y = 2100) := by
  unfold leapB; rw [decide_eq_true_iff]; omega
/-- the days ahead of a year -/
def nyD (y : Int) : Int := if y ≤ 1900 then 0 else 365 * (y - 1900) + (y - 1) / 4 - 475 - (if y ≤ 2100 then 0 else 1)
def yearD (y : Int) : Int := if leapB y = true then 366 else 365
theorem ny_step {y : Int} (h : 1900 ≤ y) (h2 : y ≤ 2199) : nyD (y + 1) = nyD y + yearD y := by
  unfold nyD yearD
  by_cases hl : leapB y = true
  · have := (leap_iff h h2).1 hl
    rw [if_pos hl]; repeat' split
    all_goals omega
  · have := mt (leap_iff h h2).2 hl
    rw [if_neg hl]; repeat' split
    all_goals omega
theorem year_pos (y : Int) : 365 ≤ yearD y ∧ yearD y ≤ 366 := by unfold yearD; split <;> omega
theorem ny_mono {y z : Int} (h : y ≤ z) : nyD y ≤ nyD z := by unfold nyD; repeat' split <;> omega
theorem ny_first : nyD 1900 = 0 := by decide
theorem ny_end : nyD 2200 = 109573 := by decide
theorem ny_rng {y : Int} (h : 1900 ≤ y) (h2 : y ≤ 2200) : 0 ≤ nyD y ∧ nyD y ≤ 109573 ∧ 365 * (y - 1900) ≤ nyD y ∧ nyD y ≤ 366 * (y - 1900) := by unfold nyD; repeat' split <;> omega
/-- the length of a month -/
def tblD (m : Int) : Int := if m = 2 then 28 else if m = 4 ∨ m = 6 ∨ m = 9 ∨ m = 11 then 30 else 31
def mlenD (y m : Int) : Int := if (y < 1900 ∨ 2199 < y) ∨ (m < 1 ∨ 12 < m) then 0 else if m = 2 ∧ leapB y = true then 29 else tblD m
/-- the days of a year ahead of a month -/
def befT (m : Int) : Int :=
  if m ≤ 1 then 0 else if m = 2 then 31 else if m = 3 then 59 else if m = 4 then 90 else if m = 5 then 120 else if m = 6 then 151 else if m = 7 then 181 else if m = 8 then 212 else if m = 9 then 243
  else if m = 10 then 273 else if m = 11 then 304 else if m = 12 then 334 else 365
def befD (y m : Int) : Int := befT m + (if 2 < m ∧ leapB y = true then 1 else 0)
theorem mlen_ok {y m : Int} (hy : 1900 ≤ y) (hy2 : y ≤ 2199) (hm : 1 ≤ m) (hm2 : m ≤ 12) : mlenD y m = if m = 2 ∧ leapB y = true then 29 else tblD m := if_neg (by omega)
theorem bef_step {y m : Int} (hy : 1900 ≤ y) (hy2 : y ≤ 2199) (hm : 1 ≤ m) (hm2 : m ≤ 12) : befD y (m + 1) = befD y m + mlenD y m := by
  rw [mlen_ok hy hy2 hm hm2]
  have hc : m = 1 ∨ m = 2 ∨ m = 3 ∨ m = 4 ∨ m = 5 ∨ m = 6 ∨ m = 7 ∨ m = 8 ∨ m = 9 ∨ m = 10 ∨ m = 11 ∨ m = 12 := by omega
  unfold befD
  cases leapB y <;> rcases hc with rfl | rfl | rfl | rfl | rfl | rfl | rfl | rfl | rfl | rfl | rfl | rfl <;> decide
theorem bef_first (y : Int) : befD y 1 = 0 := by simp [befD, befT]
theorem bef_end {y : Int} (hy : 1900 ≤ y) (hy2 : y ≤ 2199) : befD y 13 = yearD y := by
  unfold befD yearD; cases leapB y <;> decide
theorem befT_mono {m n : Int} (hn : n ≤ 13) (h1 : 1 ≤ m) (h : m ≤ n) : befT m ≤ befT n := by
  have hc : m = 1 ∨ m = 2 ∨ m = 3 ∨ m = 4 ∨ m = 5 ∨ m = 6 ∨ m = 7 ∨ m = 8 ∨ m = 9 ∨ m = 10 ∨ m = 11 ∨ m = 12 ∨ m = 13 := by omega
  have hd : n = 1 ∨ n = 2 ∨ n = 3 ∨ n = 4 ∨ n = 5 ∨ n = 6 ∨ n = 7 ∨ n = 8 ∨ n = 9 ∨ n = 10 ∨ n = 11 ∨ n = 12 ∨ n = 13 := by omega
  have key : ∀ i : Fin 13, ∀ j : Fin 13, i ≤ j → befT ((i.val : Int) + 1) ≤ befT ((j.val : Int) + 1) := by decide
  have := key ⟨(m - 1).toNat, by omega⟩ ⟨(n - 1).toNat, by omega⟩ (by rw [Fin.le_def]; simp only; omega)
  simp only at this
  rwa [show (((m - 1).toNat : Nat) : Int) + 1 = m by omega, show (((n - 1).toNat : Nat) : Int) + 1 = n by omega] at this
theorem bef_mono {y m n : Int} (hn : n ≤ 13) (h1 : 1 ≤ m) (h : m ≤ n) : befD y m ≤ befD y n := by
  have := befT_mono hn h1 h
  unfold befD
  cases leapB y
  · simpa using this
  · simp only [and_true]
    split <;> split <;> omega
theorem mlen_rng {y m : Int} (hy : 1900 ≤ y) (hy2 : y ≤ 2199) (hm : 1 ≤ m) (hm2 : m ≤ 12) : 28 ≤ mlenD y m ∧ mlenD y m ≤ 31 := by
  rw [mlen_ok hy hy2 hm hm2]; unfold tblD; repeat' split <;> omega
theorem mlen_in {y m d : Int} (h1 : 1 ≤ d) (h2 : d ≤ mlenD y m) : (1900 ≤ y ∧ y ≤ 2199) ∧ 1 ≤ m ∧ m ≤ 12 := by
  unfold mlenD at h2; split at h2 <;> omega
/-- the day of a date -/
def dayD (y m d : Int) : Int := nyD y + befD y m + d - 1
def ofR (y m d : Int) : Int × Int := if d < 1 ∨ mlenD y m < d then (0, 2) else (dayD y m d, 0)
theorem of_bad {y m d : Int} (h : d < 1 ∨ mlenD y m < d) : ofR y m d = (0, 2) := if_pos h
theorem of_ok {y m d : Int} (h1 : 1 ≤ d) (h2 : d ≤ mlenD y m) : ofR y m d = (dayD y m d, 0) := if_neg (by omega)
structure Parts where
  y : Int
  m : Int
  d : Int
def IsParts (day : Int) (p : Parts) : Prop := 1 ≤ p.d ∧ p.d ≤ mlenD p.y p.m ∧ dayD p.y p.m p.d = day
theorem parts_in {day : Int} {p : Parts} (h : IsParts day p) : (1900 ≤ p.y ∧ p.y ≤ 2199) ∧ (1 ≤ p.m ∧ p.m ≤ 12) ∧ (nyD p.y ≤ day ∧ day < nyD (p.y + 1)) ∧ (befD p.y p.m ≤ day - nyD p.y ∧ day - nyD p.y < befD p.y (p.m + 1)) ∧ (1 ≤ p.d ∧ p.d ≤ 31) ∧ 0 ≤ day ∧ day ≤ 109572 := by
  obtain ⟨h1, h2, h3⟩ := h
  obtain ⟨⟨a1, a2⟩, a3, a4⟩ := mlen_in h1 h2
  have b1 := bef_step a1 a2 a3 a4
  have b2 := bef_mono (y := p.y) (m := p.m + 1) (n := 13) (by omega) (by omega) (by omega)
  have b3 := bef_mono (y := p.y) (m := 1) (n := p.m) (by omega) (by omega) (by omega)
  rw [bef_end a1 a2] at b2
  rw [bef_first] at b3
  have b4 := ny_step a1 a2
  have b5 := ny_rng a1 (by omega)
  have b6 := ny_rng (y := p.y + 1) (by omega) (by omega)
  have b7 := mlen_rng a1 a2 a3 a4
  unfold dayD at h3
  omega
theorem parts_uniq {day : Int} {p q : Parts} (hp : IsParts day p) (hq : IsParts day q) : p = q := by
  have a := parts_in hp
  have b := parts_in hq
  have hy : p.y = q.y := by
    have c1 := fun h : p.y + 1 ≤ q.y => ny_mono h
    have c2 := fun h : q.y + 1 ≤ p.y => ny_mono h
    omega
  have hm : p.m = q.m := by
    rw [hy] at a
    have c1 := fun h : p.m + 1 ≤ q.m => bef_mono (y := q.y) (m := p.m + 1) (n := q.m) (by omega) (by omega) h
    have c2 := fun h : q.m + 1 ≤ p.m => bef_mono (y := q.y) (m := q.m + 1) (n := p.m) (by omega) (by omega) h
    omega
  have hd : p.d = q.d := by
    have e1 := hp.2.2
    have e2 := hq.2.2
    unfold dayD at e1 e2
    rw [hy, hm] at e1
    omega
  cases p; cases q; simp_all
open Classical in
noncomputable def partsP (day : Int) : Parts := if h : ∃ p, IsParts day p then h.choose else ⟨0, 0, 0⟩
theorem parts_eq {day : Int} {p : Parts} (h : IsParts day p) : partsP day = p := by
  have he : ∃ p, IsParts day p := ⟨p, h⟩
  unfold partsP
  rw [dif_pos he]
  exact parts_uniq he.choose_spec h
theorem parts_mk {day y m : Int} (hy : 1900 ≤ y) (hy2 : y ≤ 2199) (hm : 1 ≤ m) (hm2 : m ≤ 12) (h1 : befD y m ≤ day - nyD y) (h2 : day - nyD y < befD y (m + 1)) : IsParts day ⟨y, m, day - nyD y - befD y m + 1⟩ := by
  have := bef_step hy hy2 hm hm2
  refine ⟨?_, ?_, ?_⟩ <;> simp only [dayD] <;> omega
end Pl

/- Dates: from day to day, and months on. -/
namespace Pl
set_option linter.unusedVariables false
set_option linter.unusedSimpArgs false
def nextP (p : Parts) : Parts := if p.d < mlenD p.y p.m then ⟨p.y, p.m, p.d + 1⟩ else if p.m < 12 then ⟨p.y, p.m + 1, 1⟩ else ⟨p.y + 1, 1, 1⟩
theorem next_is {day : Int} {p : Parts} (h : IsParts day p) (hd : day < 109572) : IsParts (day + 1) (nextP p) := by
  obtain ⟨⟨a1, a2⟩, ⟨a3, a4⟩, ⟨a5, a6⟩, ⟨a7, a8⟩, ⟨a9, a10⟩, a11, a12⟩ := parts_in h
  obtain ⟨h1, h2, h3⟩ := h
  have b1 := bef_step a1 a2 a3 a4
  have b2 := ny_step a1 a2
  have b3 := bef_end a1 a2
  unfold dayD at h3
  unfold nextP
  by_cases c1 : p.d < mlenD p.y p.m
  · rw [if_pos c1]
    refine ⟨?_, ?_, ?_⟩ <;> simp only [dayD] <;> omega
  · rw [if_neg c1]
    by_cases c2 : p.m < 12
    · rw [if_pos c2]
      have b4 := mlen_rng a1 a2 (m := p.m + 1) (by omega) (by omega)
      refine ⟨?_, ?_, ?_⟩ <;> simp only [dayD] <;> omega
    · rw [if_neg c2]
      have e12 : p.m = 12 := by omega
      rw [e12] at b1
      rw [show (12 : Int) + 1 = 13 from rfl, b3] at b1
      rw [e12] at h3 h2 c1
      have hy : p.y ≤ 2198 := by
        apply Classical.byContradiction
        intro hn
        have : p.y = 2199 := by omega
        rw [this] at b2 b1 h3 c1 h2
        rw [show (2199 : Int) + 1 = 2200 from rfl, ny_end] at b2
        omega
      have b4 := mlen_rng (y := p.y + 1) (m := 1) (by omega) (by omega) (by omega) (by omega)
      refine ⟨?_, ?_, ?_⟩ <;> simp only [dayD, bef_first] <;> omega
theorem is_first : IsParts 0 ⟨1900, 1, 1⟩ := ⟨by decide, by decide, by decide⟩
theorem has_parts : ∀ n : Nat, n ≤ 109572 → ∃ p, IsParts (n : Int) p
  | 0, _ => ⟨_, is_first⟩
  | n + 1, h => by
    obtain ⟨p, hp⟩ := has_parts n (by omega)
    refine ⟨nextP p, ?_⟩
    have := next_is hp (by omega)
    rwa [show ((n + 1 : Nat) : Int) = (n : Int) + 1 by omega]
theorem parts_is {day : Int} (h0 : 0 ≤ day) (h1 : day ≤ 109572) : IsParts day (partsP day) := by
  obtain ⟨p, hp⟩ := has_parts day.toNat (by omega)
  rw [show (day.toNat : Int) = day by omega] at hp
  rw [parts_eq hp]
  exact hp
theorem parts_next {day : Int} (h0 : 0 ≤ day) (h1 : day < 109572) : partsP (day + 1) = nextP (partsP day) := parts_eq (next_is (parts_is h0 (by omega)) h1)
theorem parts_of {y m d : Int} (h1 : 1 ≤ d) (h2 : d ≤ mlenD y m) : partsP (dayD y m d) = ⟨y, m, d⟩ := parts_eq ⟨h1, h2, rfl⟩
def knownB (day : Int) : Bool := decide (0 ≤ day ∧ day ≤ 109572)
/-- some months on -/
noncomputable def monK (day n : Int) : Int := 12 * (partsP day).y + (partsP day).m - 1 + n
noncomputable def monthsR (day n : Int) : Int × Int :=
  if ¬ (0 ≤ day ∧ day ≤ 109572) ∨ (n < -3600 ∨ 3600 < n) then (0, 2)
  else if monK day n < 22800 ∨ 26399 < monK day n then (0, 2)
  else (dayD (monK day n / 12) (monK day n % 12 + 1) (min (partsP day).d (mlenD (monK day n / 12) (monK day n % 12 + 1))), 0)
theorem mon_in {day n : Int} (h : 0 ≤ day ∧ day ≤ 109572) (h2 : ¬ (monK day n < 22800 ∨ 26399 < monK day n)) :
    1 ≤ min (partsP day).d (mlenD (monK day n / 12) (monK day n % 12 + 1)) ∧ min (partsP day).d (mlenD (monK day n / 12) (monK day n % 12 + 1)) ≤ mlenD (monK day n / 12) (monK day n % 12 + 1) := by
  have a := parts_in (parts_is h.1 h.2)
  have b := mlen_rng (y := monK day n / 12) (m := monK day n % 12 + 1) (by omega) (by omega) (by omega) (by omega)
  omega
theorem months_a {day n : Int} (h : ¬ (0 ≤ day ∧ day ≤ 109572) ∨ (n < -3600 ∨ 3600 < n)) : monthsR day n = (0, 2) := if_pos h
theorem months_b {day n : Int} (h : (0 ≤ day ∧ day ≤ 109572) ∧ -3600 ≤ n ∧ n ≤ 3600) (h2 : monK day n < 22800 ∨ 26399 < monK day n) : monthsR day n = (0, 2) := by
  unfold monthsR; rw [if_neg (by omega), if_pos h2]
theorem months_c {day n : Int} (h : (0 ≤ day ∧ day ≤ 109572) ∧ -3600 ≤ n ∧ n ≤ 3600) (h2 : ¬ (monK day n < 22800 ∨ 26399 < monK day n)) :
    monthsR day n = ofR (monK day n / 12) (monK day n % 12 + 1) (min (partsP day).d (mlenD (monK day n / 12) (monK day n % 12 + 1))) := by
  have a := mon_in h.1 h2
  rw [of_ok a.1 a.2]
  unfold monthsR; rw [if_neg (by omega), if_neg h2]
theorem months_zero {day : Int} (h : 0 ≤ day ∧ day ≤ 109572) : monthsR day 0 = (day, 0) := by
  have a := parts_is h.1 h.2
  have b := parts_in a
  have hk : monK day 0 = 12 * (partsP day).y + (partsP day).m - 1 := by unfold monK; omega
  have e1 : monK day 0 / 12 = (partsP day).y := by omega
  have e2 : monK day 0 % 12 + 1 = (partsP day).m := by omega
  have c := months_c (n := 0) ⟨h, by omega, by omega⟩ (by omega)
  rw [e1, e2] at c
  have hm : min (partsP day).d (mlenD (partsP day).y (partsP day).m) = (partsP day).d := Int.min_eq_left a.2.1
  rw [c, hm, of_ok a.1 a.2.1, a.2.2]
theorem months_parts {day n : Int} (h : (0 ≤ day ∧ day ≤ 109572) ∧ -3600 ≤ n ∧ n ≤ 3600) (h2 : ¬ (monK day n < 22800 ∨ 26399 < monK day n)) :
    (monthsR day n).2 = 0 ∧ IsParts (monthsR day n).1 ⟨monK day n / 12, monK day n % 12 + 1, min (partsP day).d (mlenD (monK day n / 12) (monK day n % 12 + 1))⟩ := by
  have a := mon_in h.1 h2
  rw [months_c h h2, of_ok a.1 a.2]
  exact ⟨rfl, a.1, a.2, rfl⟩
end Pl

/- Numbers as text. -/
namespace Pl
open Go Ab
set_option linter.unusedVariables false
set_option linter.unusedSimpArgs false
theorem dig_eq {x : Int} (h0 : 0 ≤ x) (h1 : x < 10) : Ab.byteOf (D.int IntKind.u8 (IntKind.u8.wrap (IntKind.i64.wrap (48 + x)))) = UInt8.ofNat (48 + x.toNat) := by
  rw [wrap_i64 (by omega) (by omega)]
  have e : IntKind.u8.wrap (48 + x) = 48 + x := by rw [IntKind.wrap_u8]; omega
  rw [e]
  have : (48 + x).toNat = 48 + x.toNat := by omega
  simp [Ab.byteOf, this]
theorem itoa_pos {n : Int} (h : 0 ≤ n) : Go.Lib.itoa n = Go.Lib.decDigits n.toNat := by unfold Go.Lib.itoa; rw [if_neg (by omega)]
theorem itoa_len {n : Int} (h0 : 0 ≤ n) (h1 : n ≤ 9223372036854775807) : (Go.Lib.itoa n).length ≤ 21 := Go.Lib.itoa_length_le n (by omega) h1
theorem dec_step {x : Int} (h : 10 ≤ x) (s : List UInt8) :
    Go.Lib.decDigits (x.tdiv 10).toNat ++ (Ab.byteOf (D.int IntKind.u8 (IntKind.u8.wrap (IntKind.i64.wrap (48 + x.tmod 10)))) :: s) = Go.Lib.decDigits x.toNat ++ s := by
  rw [Int.tmod_eq_emod_of_nonneg (by omega), dig_eq (by omega) (by omega), Int.tdiv_eq_ediv_of_nonneg (by omega)]
  have e1 : (x / 10).toNat = x.toNat / 10 := by omega
  have e2 : (x % 10).toNat = x.toNat % 10 := by omega
  rw [e1, e2]
  conv => rhs; rw [Go.Lib.decDigits, dif_neg (by omega)]
  simp
theorem dec_last {x : Int} (h0 : 0 ≤ x) (h : x < 10) (s : List UInt8) :
    Ab.byteOf (D.int IntKind.u8 (IntKind.u8.wrap (IntKind.i64.wrap (48 + x)))) :: s = Go.Lib.decDigits x.toNat ++ s := by
  rw [dig_eq h0 h, Go.Lib.decDigits, dif_pos (by omega)]; rfl
end Pl

/- Dates as text. -/
namespace Pl
open Go Ab
set_option linter.unusedVariables false
set_option linter.unusedSimpArgs false
def digC (n : Int) : UInt8 := UInt8.ofNat (48 + (n % 10).toNat)
theorem digC_val (n : Int) : (digC n).toNat = 48 + (n % 10).toNat := by
  have : (n % 10).toNat < 10 := by omega
  simp [digC, UInt8.toNat_ofNat]; omega
/-- the last digits of a number -/
def digD (n : Int) : Nat → List UInt8
  | 0 => []
  | w + 1 => digD (n / 10) w ++ [digC n]
theorem digD_len : ∀ (w : Nat) (n : Int), (digD n w).length = w
  | 0, _ => rfl
  | w + 1, n => by simp [digD, digD_len w]
theorem digD_zero : ∀ w : Nat, digD 0 w = List.replicate w 48
  | 0 => rfl
  | w + 1 => by
    rw [digD, show (0 : Int) / 10 = 0 from rfl, digD_zero w, show digC 0 = 48 from rfl, ← List.replicate_succ']
theorem itoa_small {n : Int} (h0 : 0 ≤ n) (h : n < 10) : Go.Lib.itoa n = [digC n] := by
  rw [itoa_pos h0, Go.Lib.decDigits, dif_pos (by omega)]
  have : (n % 10).toNat = n.toNat := by omega
  simp [digC, this]
theorem itoa_big {n : Int} (h : 10 ≤ n) : Go.Lib.itoa n = Go.Lib.itoa (n / 10) ++ [digC n] := by
  rw [itoa_pos (by omega), itoa_pos (n := n / 10) (by omega), Go.Lib.decDigits, dif_neg (by omega)]
  have e1 : (n / 10).toNat = n.toNat / 10 := by omega
  have e2 : (n % 10).toNat = n.toNat % 10 := by omega
  rw [e1, digC, e2]
theorem pad_eq : ∀ (w : Nat) (n : Int), 0 ≤ n → n < 10 ^ (w + 1) → (Go.Lib.itoa n).length ≤ w + 1 ∧ List.replicate (w + 1 - (Go.Lib.itoa n).length) 48 ++ Go.Lib.itoa n = digD n (w + 1)
  | 0, n, h0, h => by
    rw [itoa_small h0 (by simpa using h)]
    simp [digD]
  | w + 1, n, h0, h => by
    by_cases hn : n < 10
    · rw [itoa_small h0 hn]
      refine ⟨by simp, ?_⟩
      rw [digD, show n / 10 = 0 by omega, digD_zero]
      simp
    · have h' : n / 10 < 10 ^ (w + 1) := by
        rw [Int.pow_succ] at h
        omega
      obtain ⟨a, b⟩ := pad_eq w (n / 10) (by omega) h'
      rw [itoa_big (by omega)]
      refine ⟨by simp; omega, ?_⟩
      rw [digD, ← b, List.length_append, List.length_singleton, show w + 1 + 1 - ((Go.Lib.itoa (n / 10)).length + 1) = w + 1 - (Go.Lib.itoa (n / 10)).length by omega, List.append_assoc]
def isDig (b : UInt8) : Bool := decide (48 ≤ b.toNat ∧ b.toNat ≤ 57)
def valF : Int → List UInt8 → Int
  | a, [] => a
  | a, b :: l => valF (10 * a + ((b.toNat : Int) - 48)) l
theorem valF_app : ∀ (l : List UInt8) (a : Int) (b : UInt8), valF a (l ++ [b]) = 10 * valF a l + ((b.toNat : Int) - 48)
  | [], a, b => rfl
  | x :: l, a, b => by simp only [List.cons_append, valF]; exact valF_app l _ b
theorem digC_dig (n : Int) : isDig (digC n) = true := by
  unfold isDig; rw [digC_val, decide_eq_true_iff]; omega
theorem digD_dig : ∀ (w : Nat) (n : Int), (digD n w).all isDig = true
  | 0, _ => rfl
  | w + 1, n => by simp [digD, digD_dig w, digC_dig, -List.all_eq_true]
theorem digD_val : ∀ (w : Nat) (n : Int), 0 ≤ n → n < 10 ^ w → valF 0 (digD n w) = n
  | 0, n, h0, h => by simp [digD, valF] at *; omega
  | w + 1, n, h0, h => by
    have h' : n / 10 < 10 ^ w := by
      rw [Int.pow_succ] at h
      omega
    rw [digD, valF_app, digD_val w (n / 10) (by omega) h', digC_val]
    omega
theorem dec_val : ∀ (l : List UInt8) (a : Nat), l.all isDig = true → ∃ n : Nat, Go.Lib.decFrom a l = some n ∧ (n : Int) = valF a l
  | [], a, _ => ⟨a, rfl, rfl⟩
  | b :: l, a, h => by
    simp only [List.all_cons, Bool.and_eq_true] at h
    have hb : 48 ≤ b.toNat ∧ b.toNat ≤ 57 := by simpa [isDig] using h.1
    obtain ⟨n, h1, h2⟩ := dec_val l (a * 10 + (b.toNat - 48)) h.2
    refine ⟨n, ?_, ?_⟩
    · simp only [Go.Lib.decFrom, Go.Lib.digitVal, if_pos hb]
      exact h1
    · rw [h2]
      simp only [valF]
      congr 1
      omega
theorem atoi_val {l : List UInt8} (hn : l ≠ []) (h : l.all isDig = true) : Go.Lib.atoi l = some (valF 0 l) := by
  match l, hn with
  | b :: r, _ =>
    have hb : 48 ≤ b.toNat ∧ b.toNat ≤ 57 := by
      simp only [List.all_cons, Bool.and_eq_true] at h
      simpa [isDig] using h.1
    have n1 : (b == 45) = false := by
      rw [beq_eq_false_iff_ne]; intro hh; rw [hh] at hb; exact absurd hb (by decide)
    have n2 : (b == 43) = false := by
      rw [beq_eq_false_iff_ne]; intro hh; rw [hh] at hb; exact absurd hb (by decide)
    obtain ⟨n, h1, h2⟩ := dec_val (b :: r) 0 h
    simp only [Go.Lib.atoi, n1, n2, Go.Lib.decNat, List.isEmpty_cons]
    simp only [Bool.false_eq_true, if_false]
    rw [h1]
    simp [h2]
/-- a text's number -/
def numR (s : List UInt8) : Int × Bool := if s.all isDig = true then (valF 0 s, true) else (0, false)
theorem num_ok {s : List UInt8} (h : s.all isDig = true) : numR s = (valF 0 s, true) := if_pos h
theorem num_bad {s : List UInt8} (h : ¬ s.all isDig = true) : numR s = (0, false) := if_neg h
/-- a date's text -/
noncomputable def formatR (day : Int) : List UInt8 :=
  if 0 ≤ day ∧ day ≤ 109572 then digD (partsP day).y 4 ++ [45] ++ digD (partsP day).m 2 ++ [45] ++ digD (partsP day).d 2 else []
def formB (s : List UInt8) : Prop := s.length = 10 ∧ s[4]? = some 45 ∧ s[7]? = some 45 ∧ (s.take 4).all isDig = true ∧ ((s.drop 5).take 2).all isDig = true ∧ (s.drop 8).all isDig = true
instance (s : List UInt8) : Decidable (formB s) := by unfold formB; infer_instance
def parseR (s : List UInt8) : Int × Int := if formB s then ofR (valF 0 (s.take 4)) (valF 0 ((s.drop 5).take 2)) (valF 0 (s.drop 8)) else (0, 3)
theorem parse_text {y m d : Int} (hy : 0 ≤ y ∧ y < 10000) (hm : 0 ≤ m ∧ m < 100) (hd : 0 ≤ d ∧ d < 100) : parseR (digD y 4 ++ [45] ++ digD m 2 ++ [45] ++ digD d 2) = ofR y m d := by
  have vy := digD_val 4 y hy.1 (by simpa using hy.2)
  have vm := digD_val 2 m hm.1 (by simpa using hm.2)
  have vd := digD_val 2 d hd.1 (by simpa using hd.2)
  have gy := digD_dig 4 y
  have gm := digD_dig 2 m
  have gd := digD_dig 2 d
  have ly := digD_len 4 y
  have lm := digD_len 2 m
  have ld := digD_len 2 d
  generalize digD y 4 = a at *
  generalize digD m 2 = b at *
  generalize digD d 2 = c at *
  match a, ly, b, lm, c, ld with
  | [a1, a2, a3, a4], _, [b1, b2], _, [c1, c2], _ =>
    unfold parseR
    rw [if_pos]
    · simp only [List.cons_append, List.nil_append, List.append_assoc, List.take_succ_cons, List.take_zero, List.drop_succ_cons, List.drop_zero]
      rw [vy, vm, vd]
    · refine ⟨by simp, by simp, by simp, ?_, ?_, ?_⟩
      · simpa using gy
      · simpa using gm
      · simpa using gd
theorem parse_format {day : Int} (h : 0 ≤ day ∧ day ≤ 109572) : parseR (formatR day) = (day, 0) := by
  have a := parts_is h.1 h.2
  have b := parts_in a
  unfold formatR
  rw [if_pos h, parse_text (by omega) (by omega) (by omega), of_ok a.1 a.2.1, a.2.2]
end Pl

/- Dates: what the laws ask. -/
namespace Pl
set_option linter.unusedVariables false
set_option linter.unusedSimpArgs false
theorem later_ok {day : Int} (h0 : 0 ≤ day) (h1 : day < 109572) :
    ((partsP (day + 1)).y = (partsP day).y ∧ (partsP (day + 1)).m = (partsP day).m ∧ (partsP (day + 1)).d = (partsP day).d + 1) ∨
    ((partsP (day + 1)).y = (partsP day).y ∧ (partsP (day + 1)).m = (partsP day).m + 1 ∧ (partsP (day + 1)).d = 1 ∧ (partsP day).d = mlenD (partsP day).y (partsP day).m) ∨
    ((partsP (day + 1)).y = (partsP day).y + 1 ∧ (partsP (day + 1)).m = 1 ∧ (partsP (day + 1)).d = 1 ∧ (partsP day).m = 12 ∧ (partsP day).d = 31) := by
  have a := parts_is h0 (by omega)
  have b := parts_in a
  obtain ⟨c1, c2, c3⟩ := a
  rw [parts_next h0 h1]
  generalize partsP day = p at *
  unfold nextP
  split
  · exact .inl ⟨rfl, rfl, rfl⟩
  · split
    · exact .inr (.inl ⟨rfl, rfl, rfl, by omega⟩)
    · have e : p.m = 12 := by omega
      refine .inr (.inr ⟨rfl, rfl, rfl, e, ?_⟩)
      have : mlenD p.y p.m = 31 := by
        rw [mlen_ok b.1.1 b.1.2 b.2.1.1 b.2.1.2, e]
        simp [tblD]
      omega
theorem steps_ok {day n : Int} (h : (0 ≤ day ∧ day ≤ 109572) ∧ -3600 ≤ n ∧ n ≤ 3600) (h2 : ¬ (monK day n < 22800 ∨ 26399 < monK day n)) :
    (monthsR day n).2 = 0 ∧ (0 ≤ (monthsR day n).1 ∧ (monthsR day n).1 ≤ 109572) ∧ 12 * (partsP (monthsR day n).1).y + (partsP (monthsR day n).1).m - 1 = monK day n ∧
    ((partsP (monthsR day n).1).d = (partsP day).d ∨ ((partsP (monthsR day n).1).d < (partsP day).d ∧ (partsP (monthsR day n).1).d = mlenD (partsP (monthsR day n).1).y (partsP (monthsR day n).1).m)) := by
  obtain ⟨a1, a2⟩ := months_parts h h2
  have b := parts_in a2
  rw [parts_eq a2]
  simp only at b ⊢
  refine ⟨a1, ⟨b.2.2.2.2.2.1, b.2.2.2.2.2.2⟩, by omega, by omega⟩
end Pl

/- Dates: the tables of months as the walks read them. -/
namespace Pl
open Go Ab
set_option linter.unusedVariables false
set_option linter.unusedSimpArgs false
theorem month_cases {m : Int} (h : 1 ≤ m ∧ m ≤ 12) : m = 1 ∨ m = 2 ∨ m = 3 ∨ m = 4 ∨ m = 5 ∨ m = 6 ∨ m = 7 ∨ m = 8 ∨ m = 9 ∨ m = 10 ∨ m = 11 ∨ m = 12 := by omega
theorem tbl_row {m : Int} (h : 1 ≤ m ∧ m ≤ 12) : (([D.int IntKind.i64 31, D.int IntKind.i64 28, D.int IntKind.i64 31, D.int IntKind.i64 30, D.int IntKind.i64 31, D.int IntKind.i64 30, D.int IntKind.i64 31, D.int IntKind.i64 31, D.int IntKind.i64 30, D.int IntKind.i64 31, D.int IntKind.i64 30, D.int IntKind.i64 31][m.toNat - 1]?.getD (D.int IntKind.i64 0)).cells[0]?.getD (D.int IntKind.i64 0)) = D.int IntKind.i64 (tblD m) := by
  rcases month_cases h with rfl | rfl | rfl | rfl | rfl | rfl | rfl | rfl | rfl | rfl | rfl | rfl <;> rfl
theorem tbl_arr {m : Int} (h : 1 ≤ m ∧ m ≤ 12) : ([D.int IntKind.i64 31, D.int IntKind.i64 28, D.int IntKind.i64 31, D.int IntKind.i64 30, D.int IntKind.i64 31, D.int IntKind.i64 30, D.int IntKind.i64 31, D.int IntKind.i64 31, D.int IntKind.i64 30, D.int IntKind.i64 31, D.int IntKind.i64 30, D.int IntKind.i64 31][m.toNat - 1]?.getD (D.int IntKind.i64 0)) = D.int IntKind.i64 (tblD m) := by
  rcases month_cases h with rfl | rfl | rfl | rfl | rfl | rfl | rfl | rfl | rfl | rfl | rfl | rfl <;> rfl
theorem bef_arr {m : Int} (h : 1 ≤ m ∧ m ≤ 12) : ([D.int IntKind.i64 0, D.int IntKind.i64 31, D.int IntKind.i64 59, D.int IntKind.i64 90, D.int IntKind.i64 120, D.int IntKind.i64 151, D.int IntKind.i64 181, D.int IntKind.i64 212, D.int IntKind.i64 243, D.int IntKind.i64 273, D.int IntKind.i64 304, D.int IntKind.i64 334][m.toNat - 1]?.getD (D.int IntKind.i64 0)) = D.int IntKind.i64 (befT m) := by
  rcases month_cases h with rfl | rfl | rfl | rfl | rfl | rfl | rfl | rfl | rfl | rfl | rfl | rfl <;> rfl
theorem befT_rng (m : Int) : 0 ≤ befT m ∧ befT m ≤ 365 := by unfold befT; repeat' split <;> omega
theorem mlen_out {y m : Int} (h : (y < 1900 ∨ 2199 < y) ∨ (m < 1 ∨ 12 < m)) : mlenD y m = 0 := if_pos h
theorem mlen_29 {y m : Int} (hy : 1900 ≤ y) (hy2 : y ≤ 2199) (h : m = 2) (hl : leapB y = true) : mlenD y m = 29 := by subst h; rw [mlen_ok hy hy2 (by omega) (by omega), if_pos ⟨rfl, hl⟩]
theorem mlen_tbl {y m : Int} (hy : 1900 ≤ y) (hy2 : y ≤ 2199) (hm : 1 ≤ m) (hm2 : m ≤ 12) (h : ¬ (m = 2 ∧ leapB y = true)) : mlenD y m = tblD m := by rw [mlen_ok hy hy2 hm hm2, if_neg h]
/-- the parts of a day, or the error -/
noncomputable def partsR (day : Int) : Int × Int × Int × Int := if 0 ≤ day ∧ day ≤ 109572 then ((partsP day).y, (partsP day).m, (partsP day).d, 0) else (0, 0, 0, 2)
theorem partsR_ok {day : Int} (h : 0 ≤ day ∧ day ≤ 109572) : partsR day = ((partsP day).y, (partsP day).m, (partsP day).d, 0) := if_pos h
theorem partsR_bad {day : Int} (h : ¬ (0 ≤ day ∧ day ≤ 109572)) : partsR day = (0, 0, 0, 2) := if_neg h
theorem partsR_known {day : Int} (h : (partsR day).2.2.2 = 0) : 0 ≤ day ∧ day ≤ 109572 := by
  apply Classical.byContradiction
  intro hh
  rw [partsR_bad hh] at h
  exact absurd h (by decide)
theorem partsR_unknown {day : Int} (h : ¬ (partsR day).2.2.2 = 0) : ¬ (0 ≤ day ∧ day ≤ 109572) := fun hh => by
  rw [partsR_ok hh] at h
  exact h rfl
theorem repeat_eq : ∀ c : Nat, Go.Lib.repeatL [48] c = List.replicate c 48
  | 0 => rfl
  | c + 1 => by simp [Go.Lib.repeatL, repeat_eq c, List.replicate_succ]
theorem pad_rep (w : Nat) (n : Int) (h0 : 0 ≤ n) (h1 : n < 10 ^ (w + 1)) : (Go.Lib.itoa n).length ≤ w + 1 ∧ Go.Lib.repeatL [48] (w + 1 - (Go.Lib.itoa n).length) ++ Go.Lib.itoa n = digD n (w + 1) := by
  rw [repeat_eq]
  exact pad_eq w n h0 h1
theorem format_bad {day : Int} (h : ¬ (0 ≤ day ∧ day ≤ 109572)) : formatR day = [] := if_neg h
theorem format_ok {day : Int} (h : 0 ≤ day ∧ day ≤ 109572) : formatR day = digD (partsP day).y 4 ++ [45] ++ digD (partsP day).m 2 ++ [45] ++ digD (partsP day).d 2 := if_pos h
theorem map_byte : ∀ l : List UInt8, l.map (fun x => Ab.byteOf (D.int IntKind.u8 (x.toNat : Int))) = l
  | [] => rfl
  | x :: l => by rw [List.map_cons, map_byte l]; simp [Ab.byteOf]
theorem digC_int {x : Int} (h : 0 ≤ x) : IntKind.u8.wrap (IntKind.i64.wrap (48 + x.tmod 10)) = ((digC x).toNat : Int) := by
  rw [Int.tmod_eq_emod_of_nonneg h, wrap_i64 (by omega) (by omega), digC_val]
  have : IntKind.u8.wrap (48 + x % 10) = 48 + x % 10 := by rw [IntKind.wrap_u8]; omega
  omega
def digitsF : Unit → List UInt8 → Bool
  | _, [] => true
  | _, b :: l => if isDig b = true then digitsF () l else false
theorem digits_eq : ∀ l : List UInt8, digitsF () l = l.all isDig
  | [] => rfl
  | b :: l => by
    rw [digitsF, List.all_cons, digits_eq l]
    cases isDig b <;> simp
end Pl

/- Dates: reading a text. -/
namespace Pl
set_option linter.unusedVariables false
theorem num_snd (s : List UInt8) : (numR s).2 = true ↔ s.all isDig = true := by
  unfold numR; split <;> simp_all
theorem num_fst {s : List UInt8} (h : (numR s).2 = true) : (numR s).1 = valF 0 s := by rw [num_ok ((num_snd s).1 h)]
theorem at_some {s : List UInt8} {i : Nat} (hi : i < s.length) (h : (s[i]?.getD 0).toNat = 45) : s[i]? = some 45 := by
  rw [List.getElem?_eq_getElem hi] at h ⊢
  simp only [Option.getD_some] at h
  have : s[i] = 45 := UInt8.toNat_inj.1 h
  rw [this]
theorem at_none {s : List UInt8} {i : Nat} (h : ¬ (s[i]?.getD 0).toNat = 45) : ¬ s[i]? = some 45 := fun hh => h (by rw [hh]; rfl)
theorem parse_bad {s : List UInt8} (h : ¬ formB s) : parseR s = (0, 3) := if_neg h
theorem parse_good {s : List UInt8} (h : s.length = 10) (h4 : (s[4]?.getD 0).toNat = 45) (h7 : (s[7]?.getD 0).toNat = 45) (a : (numR (List.take 4 s)).2 = true) (b : (numR (List.drop 5 (List.take 7 s))).2 = true) (c : (numR (List.drop 8 s)).2 = true) :
    parseR s = ofR (numR (List.take 4 s)).1 (numR (List.drop 5 (List.take 7 s))).1 (numR (List.drop 8 s)).1 := by
  have e : List.drop 5 (List.take 7 s) = (s.drop 5).take 2 := by rw [List.drop_take]
  rw [num_fst a, num_fst b, num_fst c]
  rw [e] at b ⊢
  exact if_pos ⟨h, at_some (by omega) h4, at_some (by omega) h7, (num_snd _).1 a, (num_snd _).1 b, (num_snd _).1 c⟩
theorem parse_nonum {s : List UInt8} (h : ¬ (((numR (List.take 4 s)).2 = true ∧ (numR (List.drop 5 (List.take 7 s))).2 = true) ∧ (numR (List.drop 8 s)).2 = true)) : parseR s = (0, 3) := by
  refine parse_bad fun hh => h ?_
  have e : List.drop 5 (List.take 7 s) = (s.drop 5).take 2 := by rw [List.drop_take]
  rw [e]
  exact ⟨⟨(num_snd _).2 hh.2.2.2.1, (num_snd _).2 hh.2.2.2.2.1⟩, (num_snd _).2 hh.2.2.2.2.2⟩
theorem parse_nodash {s : List UInt8} (h : ¬ (s.length = 10 ∧ (s[4]?.getD 0).toNat = 45 ∧ (s[7]?.getD 0).toNat = 45)) : parseR s = (0, 3) := by
  refine parse_bad fun hh => h ⟨hh.1, ?_, ?_⟩
  · rw [hh.2.1]; rfl
  · rw [hh.2.2.1]; rfl
theorem take_ne {s : List UInt8} (h : s.length = 10) : List.take 4 s ≠ [] ∧ List.drop 5 (List.take 7 s) ≠ [] ∧ List.drop 8 s ≠ [] := by
  have key : ∀ l : List UInt8, 0 < l.length → l ≠ [] := fun l hl hh => by rw [hh] at hl; exact absurd hl (by decide)
  exact ⟨key _ (by rw [List.length_take]; omega), key _ (by rw [List.length_drop, List.length_take]; omega), key _ (by rw [List.length_drop]; omega)⟩
end Pl

/- Dates: the document's reading of a text, sign by sign. -/
namespace Pl
set_option linter.unusedVariables false
set_option linter.unusedSimpArgs false
def chN (s : List UInt8) (j : Nat) : Nat := (s[j]?.getD 0).toNat
def okC (s : List UInt8) (j : Nat) : Prop := if j = 4 ∨ j = 7 then chN s j = 45 else 48 ≤ chN s j ∧ chN s j ≤ 57
def stP (s : List UInt8) : Nat → Nat × Int × Int × Int
  | 0 => (0, 0, 0, 0)
  | i + 1 =>
    let p := stP s i
    if i = 4 ∨ i = 7 then (p.1 + 1, p.2)
    else if p.1 = 0 then (0, 10 * p.2.1 + ((chN s i : Int) - 48), p.2.2)
    else if p.1 = 1 then (1, p.2.1, 10 * p.2.2.1 + ((chN s i : Int) - 48), p.2.2.2)
    else (p.1, p.2.1, p.2.2.1, 10 * p.2.2.2 + ((chN s i : Int) - 48))
theorem stP_zero (s : List UInt8) : stP s 0 = (0, 0, 0, 0) := rfl
theorem stP_at (s : List UInt8) {i : Nat} (h : i ≤ 10) : (stP s i).1 ≤ 2 := by
  have : i = 0 ∨ i = 1 ∨ i = 2 ∨ i = 3 ∨ i = 4 ∨ i = 5 ∨ i = 6 ∨ i = 7 ∨ i = 8 ∨ i = 9 ∨ i = 10 := by omega
  rcases this with rfl | rfl | rfl | rfl | rfl | rfl | rfl | rfl | rfl | rfl | rfl <;> simp [stP]
theorem stP_dash (s : List UInt8) {i : Nat} (h : i = 4 ∨ i = 7) : stP s (i + 1) = ((stP s i).1 + 1, (stP s i).2) := by
  rw [stP]; rw [if_pos h]
theorem stP_0 (s : List UInt8) {i : Nat} (h : ¬ (i = 4 ∨ i = 7)) (ha : (stP s i).1 = 0) : stP s (i + 1) = (0, 10 * (stP s i).2.1 + ((chN s i : Int) - 48), (stP s i).2.2) := by
  rw [stP]; rw [if_neg h, if_pos ha]
theorem stP_1 (s : List UInt8) {i : Nat} (h : ¬ (i = 4 ∨ i = 7)) (ha : (stP s i).1 = 1) : stP s (i + 1) = (1, (stP s i).2.1, 10 * (stP s i).2.2.1 + ((chN s i : Int) - 48), (stP s i).2.2.2) := by
  rw [stP]; rw [if_neg h, if_neg (by omega), if_pos ha]
theorem stP_2 (s : List UInt8) {i : Nat} (h : ¬ (i = 4 ∨ i = 7)) (ha : (stP s i).1 = 2) : stP s (i + 1) = (2, (stP s i).2.1, (stP s i).2.2.1, 10 * (stP s i).2.2.2 + ((chN s i : Int) - 48)) := by
  rw [stP]; rw [if_neg h, if_neg (by omega), if_neg (by omega), ha]
theorem stP_rng (s : List UInt8) : ∀ {i : Nat}, i ≤ 10 → (∀ j, j < i → okC s j) →
    (0 ≤ (stP s i).2.1 ∧ (stP s i).2.1 < 10 ^ i) ∧ (0 ≤ (stP s i).2.2.1 ∧ (stP s i).2.2.1 < 10 ^ i) ∧ (0 ≤ (stP s i).2.2.2 ∧ (stP s i).2.2.2 < 10 ^ i)
  | 0, _, _ => by simp [stP]
  | i + 1, hi, h => by
    obtain ⟨a, b, c⟩ := stP_rng s (i := i) (by omega) (fun j hj => h j (by omega))
    have e : (10 : Int) ^ (i + 1) = 10 * 10 ^ i := by rw [Int.pow_succ]; omega
    have p0 : (0 : Int) < 10 ^ i := by exact Int.pow_pos (by decide)
    rw [e]
    by_cases hd : i = 4 ∨ i = 7
    · rw [stP_dash s hd]; simp only; omega
    · have hc := h i (by omega)
      unfold okC at hc; rw [if_neg hd] at hc
      have ha := stP_at s (i := i) (by omega)
      rcases (show (stP s i).1 = 0 ∨ (stP s i).1 = 1 ∨ (stP s i).1 = 2 by omega) with h0 | h0 | h0
      · rw [stP_0 s hd h0]; simp only; omega
      · rw [stP_1 s hd h0]; simp only; omega
      · rw [stP_2 s hd h0]; simp only; omega
theorem ten_pow {i : Nat} (h : i ≤ 10) : (10 : Int) ^ i ≤ 10000000000 := by
  have : i = 0 ∨ i = 1 ∨ i = 2 ∨ i = 3 ∨ i = 4 ∨ i = 5 ∨ i = 6 ∨ i = 7 ∨ i = 8 ∨ i = 9 ∨ i = 10 := by omega
  rcases this with rfl | rfl | rfl | rfl | rfl | rfl | rfl | rfl | rfl | rfl | rfl <;> decide
theorem stP_small (s : List UInt8) {i : Nat} (hi : i ≤ 10) (h : ∀ j, j < i → okC s j) :
    (0 ≤ (stP s i).2.1 ∧ (stP s i).2.1 < 10000000000) ∧ (0 ≤ (stP s i).2.2.1 ∧ (stP s i).2.2.1 < 10000000000) ∧ (0 ≤ (stP s i).2.2.2 ∧ (stP s i).2.2.2 < 10000000000) := by
  have := stP_rng s hi h
  have t := ten_pow hi
  omega
theorem ok_next {s : List UInt8} {i : Nat} (h : ∀ j, j < i → okC s j) (hc : okC s i) : ∀ j, j < i + 1 → okC s j := fun j hj => by
  rcases (show j < i ∨ j = i by omega) with hh | hh
  · exact h j hh
  · rw [hh]; exact hc
theorem isDig_ch {c : UInt8} (h : 48 ≤ c.toNat ∧ c.toNat ≤ 57) : isDig c = true := by simpa [isDig] using h
theorem ch_isDig {c : UInt8} (h : isDig c = true) : 48 ≤ c.toNat ∧ c.toNat ≤ 57 := by simpa [isDig] using h
theorem ten_list {s : List UInt8} (h : s.length = 10) : ∃ a b c d e f g i j k, s = [a, b, c, d, e, f, g, i, j, k] := by
  match s, h with
  | [a, b, c, d, e, f, g, i, j, k], _ => exact ⟨a, b, c, d, e, f, g, i, j, k, rfl⟩
theorem parse_all {s : List UInt8} (hl : s.length = 10) (h : ∀ j, j < 10 → okC s j) : parseR s = ofR (stP s 10).2.1 (stP s 10).2.2.1 (stP s 10).2.2.2 := by
  obtain ⟨a, b, c, d, e, f, g, i, j, k, rfl⟩ := ten_list hl
  have o0 := h 0 (by omega); have o1 := h 1 (by omega); have o2 := h 2 (by omega); have o3 := h 3 (by omega); have o4 := h 4 (by omega)
  have o5 := h 5 (by omega); have o6 := h 6 (by omega); have o7 := h 7 (by omega); have o8 := h 8 (by omega); have o9 := h 9 (by omega)
  simp [okC, chN] at o0 o1 o2 o3 o4 o5 o6 o7 o8 o9
  have e4 : e = 45 := UInt8.toNat_inj.1 o4
  have e7 : i = 45 := UInt8.toNat_inj.1 o7
  have i0 := isDig_ch o0; have i1 := isDig_ch o1; have i2 := isDig_ch o2; have i3 := isDig_ch o3
  have i5 := isDig_ch o5; have i6 := isDig_ch o6; have i8 := isDig_ch o8; have i9 := isDig_ch o9
  unfold parseR
  rw [if_pos (by simp [formB, e4, e7, i0, i1, i2, i3, i5, i6, i8, i9])]
  simp [valF, stP, chN]
theorem parse_sign {s : List UInt8} {i : Nat} (hl : s.length = 10) (hi : i < 10) (h : ¬ okC s i) : parseR s = (0, 3) := by
  refine parse_bad fun hb => h ?_
  obtain ⟨a, b, c, d, e, f, g, w, j, k, rfl⟩ := ten_list hl
  simp [formB] at hb
  obtain ⟨h4, h7, ⟨i0, i1, i2, i3⟩, ⟨i5, i6⟩, i8, i9⟩ := hb
  have d0 := ch_isDig i0; have d1 := ch_isDig i1; have d2 := ch_isDig i2; have d3 := ch_isDig i3
  have d5 := ch_isDig i5; have d6 := ch_isDig i6; have d8 := ch_isDig i8; have d9 := ch_isDig i9
  have : i = 0 ∨ i = 1 ∨ i = 2 ∨ i = 3 ∨ i = 4 ∨ i = 5 ∨ i = 6 ∨ i = 7 ∨ i = 8 ∨ i = 9 := by omega
  rcases this with rfl | rfl | rfl | rfl | rfl | rfl | rfl | rfl | rfl | rfl <;> simp [okC, chN, h4, h7, d0, d1, d2, d3, d5, d6, d8, d9]
theorem of_rng (y m d : Int) : (0 ≤ (ofR y m d).1 ∧ (ofR y m d).1 ≤ 200000) ∧ (0 ≤ (ofR y m d).2 ∧ (ofR y m d).2 ≤ 2) := by
  by_cases h : d < 1 ∨ mlenD y m < d
  · rw [of_bad h]; decide
  · have hin := mlen_in (y := y) (m := m) (d := d) (by omega) (by omega)
    have ml := mlen_rng hin.1.1 hin.1.2 hin.2.1 hin.2.2
    have nr := ny_rng hin.1.1 (by omega)
    have b1 := bef_mono (y := y) (m := 1) (n := m) (by omega) (by omega) hin.2.1
    have b2 := bef_mono (y := y) (m := m) (n := 13) (by omega) hin.2.1 (by omega)
    rw [bef_first] at b1
    rw [bef_end hin.1.1 hin.1.2] at b2
    have yp := year_pos y
    rw [of_ok (by omega) (by omega)]
    simp only [dayD]
    omega
theorem of_r1 (y m d : Int) : (-9223372036854775808 ≤ (ofR y m d).1) = True := eq_true (by have := of_rng y m d; omega)
theorem of_r2 (y m d : Int) : ((ofR y m d).1 ≤ 9223372036854775807) = True := eq_true (by have := of_rng y m d; omega)
theorem of_r3 (y m d : Int) : (-9223372036854775808 ≤ (ofR y m d).2) = True := eq_true (by have := of_rng y m d; omega)
theorem of_r4 (y m d : Int) : ((ofR y m d).2 ≤ 9223372036854775807) = True := eq_true (by have := of_rng y m d; omega)
open Go Ab
/-- the number that is being read -/
def curP (s : List UInt8) (i : Nat) : Int := if (stP s i).1 = 0 then (stP s i).2.1 else if (stP s i).1 = 1 then (stP s i).2.2.1 else (stP s i).2.2.2
theorem cur_rng (s : List UInt8) {i : Nat} (hi : i ≤ 10) (h : ∀ j, j < i → okC s j) : 0 ≤ curP s i ∧ curP s i < 10000000000 := by
  have := stP_small s hi h
  unfold curP
  split
  · omega
  · split <;> omega
theorem cur_get (s : List UInt8) {i : Nat} (hi : i ≤ 10) : [D.int IntKind.i64 (stP s i).2.1, D.int IntKind.i64 (stP s i).2.2.1, D.int IntKind.i64 (stP s i).2.2.2][(stP s i).1]?.getD (D.int IntKind.i64 0) = D.int IntKind.i64 (curP s i) := by
  have ha := stP_at s hi
  unfold curP
  rcases (show (stP s i).1 = 0 ∨ (stP s i).1 = 1 ∨ (stP s i).1 = 2 by omega) with h0 | h0 | h0 <;> simp [h0]
theorem cur_set (s : List UInt8) {i : Nat} (hi : i ≤ 10) (hd : ¬ (i = 4 ∨ i = 7)) (v : Int) (hv : v = 10 * curP s i + ((chN s i : Int) - 48)) :
    ([D.int IntKind.i64 (stP s i).2.1, D.int IntKind.i64 (stP s i).2.2.1, D.int IntKind.i64 (stP s i).2.2.2].set (stP s i).1 (D.int IntKind.i64 v)) = [D.int IntKind.i64 (stP s (i + 1)).2.1, D.int IntKind.i64 (stP s (i + 1)).2.2.1, D.int IntKind.i64 (stP s (i + 1)).2.2.2] ∧ (stP s (i + 1)).1 = (stP s i).1 := by
  have ha := stP_at s hi
  subst hv
  unfold curP
  rcases (show (stP s i).1 = 0 ∨ (stP s i).1 = 1 ∨ (stP s i).1 = 2 by omega) with h0 | h0 | h0
  · rw [stP_0 s hd h0, if_pos h0, h0]; exact ⟨rfl, rfl⟩
  · rw [stP_1 s hd h0, if_neg (by omega), if_pos h0, h0]; exact ⟨rfl, rfl⟩
  · rw [stP_2 s hd h0, if_neg (by omega), if_neg (by omega), h0]; exact ⟨rfl, rfl⟩
end Pl

namespace Pl
open Go Ab
structure Charge where
  id : Int
  patron : Int
  item : Int
  day : Int
  kind : Int
  amount : Int
  paid : Int
  deriving Inhabited, DecidableEq
structure Cal where
  week : Int
  closed : List Int
structure Rule where
  r0 : Int
  r1 : Int
  r2 : Int
  r3 : Int
  r4 : Int
  fine : Int
  grace : Int
  maxFine : Int
  r8 : Int
  r9 : Int
  r10 : Int
  r11 : Int
  r12 : Int
def encCharge (c : Charge) : D := .agg [.int .i64 c.id, .int .i64 c.patron, .int .i64 c.item, .int .i64 c.day, .int .i64 c.kind, .int .i64 c.amount, .int .i64 c.paid]
def z0 : Charge := ⟨0, 0, 0, 0, 0, 0, 0⟩
def encCharges (l : List Charge) : D := .slice (encCharge z0) (l.map encCharge)
def encInts (l : List Int) : D := .slice (.int .i64 0) (l.map (D.int .i64))
def encCal (c : Cal) : D := .agg [.int .i64 c.week, encInts c.closed]
def encRule (r : Rule) : D := .agg [.int .i64 r.r0, .int .i64 r.r1, .int .i64 r.r2, .int .i64 r.r3, .int .i64 r.r4, .int .i64 r.fine, .int .i64 r.grace, .int .i64 r.maxFine, .int .i64 r.r8, .int .i64 r.r9, .int .i64 r.r10, .int .i64 r.r11, .int .i64 r.r12]
@[simp] theorem encCharge_cells (c : Charge) : (encCharge c).cells = [.int .i64 c.id, .int .i64 c.patron, .int .i64 c.item, .int .i64 c.day, .int .i64 c.kind, .int .i64 c.amount, .int .i64 c.paid] := rfl
theorem encCharge_eq (c : Charge) : encCharge c = .agg [.int .i64 c.id, .int .i64 c.patron, .int .i64 c.item, .int .i64 c.day, .int .i64 c.kind, .int .i64 c.amount, .int .i64 c.paid] := rfl
theorem encCharges_eq (l : List Charge) : encCharges l = .slice (encCharge z0) (l.map encCharge) := rfl
theorem encInts_eq (l : List Int) : encInts l = .slice (.int .i64 0) (l.map (D.int .i64)) := rfl
theorem encCal_eq (c : Cal) : encCal c = .agg [.int .i64 c.week, encInts c.closed] := rfl
theorem encRule_eq (r : Rule) : encRule r = .agg [.int .i64 r.r0, .int .i64 r.r1, .int .i64 r.r2, .int .i64 r.r3, .int .i64 r.r4, .int .i64 r.fine, .int .i64 r.grace, .int .i64 r.maxFine, .int .i64 r.r8, .int .i64 r.r9, .int .i64 r.r10, .int .i64 r.r11, .int .i64 r.r12] := rfl
def isDay (n : Int) : Bool := decide (0 ≤ n) && decide (n ≤ 109572)
def isID (n : Int) : Bool := decide (1 ≤ n) && decide (n ≤ 9999)
def wday (n : Int) : Int := if isDay n then n.tmod 7 else -1
def ruleOk (r : Rule) : Bool := decide (0 ≤ r.fine) && decide (r.fine ≤ 1000) && decide (0 ≤ r.grace) && decide (r.grace ≤ 30) && decide (0 ≤ r.maxFine) && decide (r.maxFine ≤ 100000000)
def owedF (p : Int) : Int → List Charge → Int
  | s, [] => s
  | s, c :: l => owedF p (if c.patron = p then IntKind.i64.wrap (s + IntKind.i64.wrap (c.amount - c.paid)) else s) l
def payStep (p r : Int) (c : Charge) : Int := if IntKind.i64.wrap (c.amount - c.paid) < r then IntKind.i64.wrap (c.amount - c.paid) else r
def payF (p : Int) : Int × List Charge → List Charge → Int × List Charge
  | (r, o), [] => (r, o)
  | (r, o), c :: l =>
    if c.patron = p then
      if IntKind.i64.wrap (c.paid + payStep p r c) < c.amount then payF p (IntKind.i64.wrap (r - payStep p r c), o ++ [{ c with paid := IntKind.i64.wrap (c.paid + payStep p r c) }]) l
      else payF p (IntKind.i64.wrap (r - payStep p r c), o) l
    else if c.paid < c.amount then payF p (r, o ++ [c]) l else payF p (r, o) l
def payR (l : List Charge) (p a : Int) : RetT :=
  if a < 1 ∨ 100000000 < a then .tup [encCharges [], .int .i64 0, .int .i64 1]
  else .tup [encCharges (payF p (a, []) l).2, .int .i64 (payF p (a, []) l).1, .int .i64 0]
theorem payR_bad {l : List Charge} {p a : Int} (h : a < 1 ∨ 100000000 < a) : payR l p a = .tup [encCharges [], .int .i64 0, .int .i64 1] := if_pos h
theorem payR_good {l : List Charge} {p a : Int} (h : 1 ≤ a ∧ a ≤ 100000000) : payR l p a = .tup [encCharges (payF p (a, []) l).2, .int .i64 (payF p (a, []) l).1, .int .i64 0] := if_neg (by omega)
def idxG (p : Int → Bool) : Unit → List Int → Int := fun _ _ => 0
def owedG (p : Int) : Int → List Charge → Int
  | s, [] => s
  | s, c :: l => owedG p (if c.patron = p then IntKind.i64.wrap (IntKind.i64.wrap (s + c.amount) - c.paid) else s) l
theorem owedG_eq (p : Int) : ∀ (l : List Charge) (s : Int), owedG p s l = owedF p s l
  | [], s => rfl
  | c :: l, s => by
    have e : IntKind.i64.wrap (IntKind.i64.wrap (s + c.amount) - c.paid) = IntKind.i64.wrap (s + IntKind.i64.wrap (c.amount - c.paid)) := by
      simp only [IntKind.wrap_i64]; omega
    rw [owedG, owedF, e]
    exact owedG_eq p l _
def idxF (p : Int → Bool) : Int → List Int → Int
  | _, [] => -1
  | i, x :: l => if p x then i else idxF p (i + 1) l
theorem idxF_any (p : Int → Bool) : ∀ (l : List Int) (i : Int), 0 ≤ i → decide (0 ≤ idxF p i l) = l.any p
  | [], i, _ => by simp [idxF]
  | x :: l, i, hi => by
    by_cases hp : p x = true
    · simp [idxF, hp, hi]
    · have hp' : p x = false := by simpa using hp
      simp only [idxF, List.any_cons, hp', Bool.false_eq_true, if_false, Bool.false_or]
      exact idxF_any p l (i + 1) (by omega)
def chkC (c : Charge) : Int :=
  if c.id < 1 ∨ 99999 < c.id ∨ c.patron < 1 ∨ 9999 < c.patron ∨ c.item < 1 ∨ 9999 < c.item ∨ isDay c.day = false then 2
  else if c.kind < 1 ∨ 3 < c.kind then 1
  else if c.amount < 1 ∨ 100000000 < c.amount ∨ c.paid < 0 ∨ c.amount ≤ c.paid then 2 else 0
section
variable {x : Charge}
theorem chk2a (h : (((((x.id < 1 ∨ 99999 < x.id) ∨ x.patron < 1) ∨ 9999 < x.patron) ∨ x.item < 1) ∨ 9999 < x.item) ∨ isDay x.day = false) : chkC x = 2 := if_pos (by simpa only [or_assoc] using h)
theorem chkn (h : (((((1 ≤ x.id ∧ x.id ≤ 99999) ∧ 1 ≤ x.patron) ∧ x.patron ≤ 9999) ∧ 1 ≤ x.item) ∧ x.item ≤ 9999) ∧ isDay x.day = true) : ¬ (x.id < 1 ∨ 99999 < x.id ∨ x.patron < 1 ∨ 9999 < x.patron ∨ x.item < 1 ∨ 9999 < x.item ∨ isDay x.day = false) := by
  obtain ⟨h1, h2⟩ := h
  rw [h2]
  simp
  omega
theorem chk1 (h : (((((1 ≤ x.id ∧ x.id ≤ 99999) ∧ 1 ≤ x.patron) ∧ x.patron ≤ 9999) ∧ 1 ≤ x.item) ∧ x.item ≤ 9999) ∧ isDay x.day = true) (h2 : x.kind < 1 ∨ 3 < x.kind) : chkC x = 1 := by
  unfold chkC; rw [if_neg (chkn h), if_pos h2]
theorem chk2b (h : (((((1 ≤ x.id ∧ x.id ≤ 99999) ∧ 1 ≤ x.patron) ∧ x.patron ≤ 9999) ∧ 1 ≤ x.item) ∧ x.item ≤ 9999) ∧ isDay x.day = true) (h2 : 1 ≤ x.kind ∧ x.kind ≤ 3) (h3 : ((x.amount < 1 ∨ 100000000 < x.amount) ∨ x.paid < 0) ∨ x.amount ≤ x.paid) : chkC x = 2 := by
  unfold chkC; rw [if_neg (chkn h), if_neg (by omega), if_pos (by omega)]
theorem chk0 (h : (((((1 ≤ x.id ∧ x.id ≤ 99999) ∧ 1 ≤ x.patron) ∧ x.patron ≤ 9999) ∧ 1 ≤ x.item) ∧ x.item ≤ 9999) ∧ isDay x.day = true) (h2 : 1 ≤ x.kind ∧ x.kind ≤ 3) (h3 : ((1 ≤ x.amount ∧ x.amount ≤ 100000000) ∧ 0 ≤ x.paid) ∧ x.paid < x.amount) : chkC x = 0 := by
  unfold chkC; rw [if_neg (chkn h), if_neg (by omega), if_neg (by omega)]
end
def lowId : Option Int → Int → Bool
  | none, _ => false
  | some p, i => decide (i ≤ p)
def rightF : Option Int → List Charge → Int
  | _, [] => 0
  | pr, c :: l => if lowId pr c.id = true then 7 else if chkC c ≠ 0 then chkC c else rightF (some c.id) l
def rightR (l : List Charge) : Int := if 128 < l.length then 13 else rightF none l
theorem rightR_ok {l : List Charge} (h : (l.length : Int) ≤ 128) : rightR l = rightF none l := if_neg (by omega)
theorem rightR_full {l : List Charge} (h : 128 < (l.length : Int)) : rightR l = 13 := if_pos (by omega)
def sameF : List Charge → List Charge → Bool := fun r l => decide (l = r)
section
variable {x : Charge}
theorem isID_t {n : Int} : isID n = true ↔ 1 ≤ n ∧ n ≤ 9999 := by simp [isID]
theorem isID_f {n : Int} : isID n = false ↔ n < 1 ∨ 9999 < n := by simp [isID]; omega
theorem chk2c (h : (((x.id < 1 ∨ 99999 < x.id) ∨ isID x.patron = false) ∨ isID x.item = false) ∨ isDay x.day = false) : chkC x = 2 := if_pos (by simp only [isID_f] at h; simpa only [or_assoc] using h)
theorem chkcv (h : (((1 ≤ x.id ∧ x.id ≤ 99999) ∧ isID x.patron = true) ∧ isID x.item = true) ∧ isDay x.day = true) : (((((1 ≤ x.id ∧ x.id ≤ 99999) ∧ 1 ≤ x.patron) ∧ x.patron ≤ 9999) ∧ 1 ≤ x.item) ∧ x.item ≤ 9999) ∧ isDay x.day = true := by
  simp only [isID_t] at h; simpa only [and_assoc] using h
theorem chk1c (h : (((1 ≤ x.id ∧ x.id ≤ 99999) ∧ isID x.patron = true) ∧ isID x.item = true) ∧ isDay x.day = true) (h2 : x.kind < 1 ∨ 3 < x.kind) : chkC x = 1 := chk1 (chkcv h) h2
theorem chk2d (h : (((1 ≤ x.id ∧ x.id ≤ 99999) ∧ isID x.patron = true) ∧ isID x.item = true) ∧ isDay x.day = true) (h2 : 1 ≤ x.kind ∧ x.kind ≤ 3) (h3 : ((x.amount < 1 ∨ 100000000 < x.amount) ∨ x.paid < 0) ∨ x.amount ≤ x.paid) : chkC x = 2 := chk2b (chkcv h) h2 h3
theorem chk0c (h : (((1 ≤ x.id ∧ x.id ≤ 99999) ∧ isID x.patron = true) ∧ isID x.item = true) ∧ isDay x.day = true) (h2 : 1 ≤ x.kind ∧ x.kind ≤ 3) (h3 : ((1 ≤ x.amount ∧ x.amount ≤ 100000000) ∧ 0 ≤ x.paid) ∧ x.paid < x.amount) : chkC x = 0 := chk0 (chkcv h) h2 h3
end
def remF (p : Charge → Bool) : List Charge × Int × Int → List Charge → List Charge × Int × Int
  | (o, q, n), [] => (o, q, n)
  | (o, q, n), c :: l => if p c = true then remF p (o, IntKind.i64.wrap (q + c.paid), IntKind.i64.wrap (n + 1)) l else remF p (o ++ [c], q, n) l
def remR (l : List Charge) (p : Charge → Bool) : RetT := .tup [encCharges (remF p ([], 0, 0) l).1, .int .i64 (remF p ([], 0, 0) l).2.1, .int .i64 (remF p ([], 0, 0) l).2.2]
def refP (p i k : Int) (c : Charge) : Bool := (c.patron == p && c.item == i) && (k == 0 || c.kind == k)
def waiveR (l : List Charge) (i : Int) : RetT :=
  if (remF (fun c => c.id == i) ([], 0, 0) l).2.2 = 0 then .tup [encCharges [], .int .i64 0, .int .i64 9]
  else .tup [encCharges (remF (fun c => c.id == i) ([], 0, 0) l).1, .int .i64 (remF (fun c => c.id == i) ([], 0, 0) l).2.1, .int .i64 0]
theorem waiveR_none {l : List Charge} {i : Int} (h : (remF (fun c => c.id == i) ([], 0, 0) l).2.2 = 0) : waiveR l i = .tup [encCharges [], .int .i64 0, .int .i64 9] := if_pos h
theorem waiveR_some {l : List Charge} {i : Int} (h : ¬ (remF (fun c => c.id == i) ([], 0, 0) l).2.2 = 0) : waiveR l i = .tup [encCharges (remF (fun c => c.id == i) ([], 0, 0) l).1, .int .i64 (remF (fun c => c.id == i) ([], 0, 0) l).2.1, .int .i64 0] := if_neg h
def refundR (l : List Charge) (p i k : Int) : RetT := .tup [encCharges (remF (refP p i k) ([], 0, 0) l).1, .int .i64 (remF (refP p i k) ([], 0, 0) l).2.1]
def wvF (i : Int) : List Charge × Int → List Charge → List Charge × Int
  | (o, q), [] => (o, q)
  | (o, q), c :: l => if c.id = i then wvF i (o, c.paid) l else wvF i (o ++ [c], q) l
def wvR (l : List Charge) (i : Int) : RetT :=
  if (wvF i ([], -1) l).2 < 0 then .tup [encCharges [], .int .i64 0, .int .i64 9] else .tup [encCharges (wvF i ([], -1) l).1, .int .i64 (wvF i ([], -1) l).2, .int .i64 0]
theorem wvR_none {l : List Charge} {i : Int} (h : (wvF i ([], -1) l).2 < 0) : wvR l i = .tup [encCharges [], .int .i64 0, .int .i64 9] := if_pos h
theorem wvR_some {l : List Charge} {i : Int} (h : 0 ≤ (wvF i ([], -1) l).2) : wvR l i = .tup [encCharges (wvF i ([], -1) l).1, .int .i64 (wvF i ([], -1) l).2, .int .i64 0] := if_neg (by omega)
def rfF (p i k : Int) : List Charge × Int → List Charge → List Charge × Int
  | (o, q), [] => (o, q)
  | (o, q), c :: l => if refP p i k c = true then rfF p i k (o, IntKind.i64.wrap (q + c.paid)) l else rfF p i k (o ++ [c], q) l
def rfR (l : List Charge) (p i k : Int) : RetT := .tup [encCharges (rfF p i k ([], 0) l).1, .int .i64 (rfF p i k ([], 0) l).2]
def ascF : Option Int → List Int → Int
  | _, [] => 0
  | pr, x :: l => if lowId pr x = true then 7 else ascF (some x) l
def calR (c : Cal) : Int := if c.week < 0 ∨ 127 ≤ c.week then 1 else if 64 < (c.closed.length : Int) then 13 else if c.closed.any (fun n => !isDay n) = true then 2 else ascF none c.closed
theorem cal_len {c : Cal} (h : D.Ok (encCal c)) : c.closed.length ≤ 9223372036854775807 := by
  have := (Ok_slice (Ok_agg h (encInts c.closed) (by simp))).1
  simpa using this
section
variable {c : Cal}
theorem cal1 (h : c.week < 0 ∨ 127 ≤ c.week) : calR c = 1 := if_pos h
theorem cal13 (h : 0 ≤ c.week ∧ c.week < 127) (h2 : 64 < (c.closed.length : Int)) : calR c = 13 := by unfold calR; rw [if_neg (by omega), if_pos h2]
theorem cal2 (h : 0 ≤ c.week ∧ c.week < 127) (h2 : (c.closed.length : Int) ≤ 64) (h3 : ∃ x ∈ c.closed, isDay x = false) : calR c = 2 := by
  unfold calR; rw [if_neg (by omega), if_neg (by omega), if_pos (by simpa using h3)]
theorem calA (h : 0 ≤ c.week ∧ c.week < 127) (h2 : (c.closed.length : Int) ≤ 64) (h3 : ∀ x ∈ c.closed, isDay x = true) : calR c = ascF none c.closed := by
  unfold calR; rw [if_neg (by omega), if_neg (by omega), if_neg (by simpa using h3)]
end
def fst7 (w : Int) : Int := (IntKind.i64.wrap (IntKind.i64.wrap (w - wday 0) + 7)).tmod 7
def upToW (d w : Int) : Int := if d < fst7 w then 0 else IntKind.i64.wrap (IntKind.i64.wrap ((IntKind.i64.wrap (d - fst7 w)).tdiv 7) + 1)
theorem upToW_lt {d w : Int} (h : d < fst7 w) : upToW d w = 0 := if_pos h
theorem upToW_ge {d w : Int} (h : fst7 w ≤ d) : upToW d w = IntKind.i64.wrap (IntKind.i64.wrap ((IntKind.i64.wrap (d - fst7 w)).tdiv 7) + 1) := if_neg (by omega)
def wkB (w : Int) (i : Nat) : Bool := bits BinOp.and IntKind.i64 (w.fdiv (2 ^ min i IntKind.i64.bits)) 1 == 0
def weekL (w : Int) : List D := [.bool (wkB w 0), .bool (wkB w 1), .bool (wkB w 2), .bool (wkB w 3), .bool (wkB w 4), .bool (wkB w 5), .bool (wkB w 6)]
@[simp] theorem weekL_length (w : Int) : (weekL w).length = 7 := rfl
@[simp] theorem weekL_getD (w : Int) (i : Nat) : (weekL w)[i]?.getD (D.bool false) = D.bool (decide (i < 7) && wkB w i) := by
  by_cases h : i < 7
  · have : i = 0 ∨ i = 1 ∨ i = 2 ∨ i = 3 ∨ i = 4 ∨ i = 5 ∨ i = 6 := by omega
    rcases this with rfl | rfl | rfl | rfl | rfl | rfl | rfl <;> simp [weekL]
  · rw [List.getElem?_eq_none (by simp; omega)]
    simp [h]
@[simp] theorem weekL_ld (w : Int) : List.take 7 (List.map (C.dat ∘ C.d) (weekL w)) = weekL w := rfl
def cnt7 (w lo hi : Int) : Nat → Int
  | 0 => 0
  | k + 1 => if wkB w k = true then IntKind.i64.wrap (cnt7 w lo hi k + IntKind.i64.wrap (upToW hi k - upToW (IntKind.i64.wrap (lo - 1)) k)) else cnt7 w lo hi k
@[simp] theorem cnt7_zero {w lo hi : Int} : cnt7 w lo hi 0 = 0 := rfl
theorem wday_rng {d : Int} (h0 : 0 ≤ d) (h1 : d ≤ 109572) : 0 ≤ wday d ∧ wday d < 7 := by
  have e : wday d = d % 7 := by
    unfold wday isDay
    rw [if_pos (by simp [h0, h1]), Int.tmod_eq_emod_of_nonneg h0]
  rw [e]; omega
def cntIn (w lo hi d : Int) : Bool := (decide (lo ≤ d) && decide (d ≤ hi)) && (decide (wday d < 7) && wkB w (wday d).toNat)
def cntG (w lo hi : Int) : Int → List Int → Int
  | n, [] => n
  | n, d :: l => if cntIn w lo hi d = true then cntG w lo hi (IntKind.i64.wrap (n - 1)) l else cntG w lo hi n l
def countR (c : Cal) (f t : Int) : Int :=
  if (if 109572 < t then 109572 else t) < (if f < 0 then 0 else f) then 0
  else cntG c.week (if f < 0 then 0 else f) (if 109572 < t then 109572 else t) (cnt7 c.week (if f < 0 then 0 else f) (if 109572 < t then 109572 else t) 7) c.closed
theorem countR_ge {c : Cal} {f t lo hi : Int} (h1 : (if f < 0 then 0 else f) = lo) (h2 : (if 109572 < t then 109572 else t) = hi) (h : lo ≤ hi) : countR c f t = cntG c.week lo hi (cnt7 c.week lo hi 7) c.closed := by
  unfold countR; rw [h1, h2, if_neg (by omega)]
def lateR (r : Rule) (c : Cal) (d b : Int) : Int :=
  if (¬ calR c = 0 ∨ isDay d = false) ∨ isDay b = false then 0
  else if countR c (IntKind.i64.wrap (d + 1)) b ≤ r.grace then 0
  else if r.maxFine < IntKind.i64.wrap (countR c (IntKind.i64.wrap (d + 1)) b * r.fine) then r.maxFine else IntKind.i64.wrap (countR c (IntKind.i64.wrap (d + 1)) b * r.fine)
section
variable {r : Rule} {c : Cal} {d b : Int}
theorem lateR_bad (h : (¬ calR c = 0 ∨ isDay d = false) ∨ isDay b = false) : lateR r c d b = 0 := if_pos h
theorem lateN (h : (calR c = 0 ∧ isDay d = true) ∧ isDay b = true) : ¬ ((¬ calR c = 0 ∨ isDay d = false) ∨ isDay b = false) := by simp [h.1.1, h.1.2, h.2]
theorem lateR_gr (h : (calR c = 0 ∧ isDay d = true) ∧ isDay b = true) (h2 : countR c (IntKind.i64.wrap (d + 1)) b ≤ r.grace) : lateR r c d b = 0 := by
  unfold lateR; rw [if_neg (lateN h), if_pos h2]
theorem lateR_ok (h : (calR c = 0 ∧ isDay d = true) ∧ isDay b = true) (h2 : r.grace < countR c (IntKind.i64.wrap (d + 1)) b) :
    lateR r c d b = if r.maxFine < IntKind.i64.wrap (countR c (IntKind.i64.wrap (d + 1)) b * r.fine) then r.maxFine else IntKind.i64.wrap (countR c (IntKind.i64.wrap (d + 1)) b * r.fine) := by
  unfold lateR; rw [if_neg (lateN h), if_neg (by omega)]
end
def r0 : Rule := ⟨0, 0, 0, 0, 0, 20, 1, 100, 0, 0, 0, 0, 0⟩
def c0 : Cal := ⟨0, []⟩
def l0 : List Charge := [⟨1, 5, 3, 9, 1, 300, 100⟩, ⟨2, 5, 4, 9, 3, 50, 0⟩]
def payO (l : List Charge) (p a : Int) : List Charge := if a < 1 ∨ 100000000 < a then [] else (payF p (a, []) l).2
def payX (l : List Charge) (p a : Int) : Int := if a < 1 ∨ 100000000 < a then 0 else (payF p (a, []) l).1
def payE (_ : List Charge) (_ a : Int) : Int := if a < 1 ∨ 100000000 < a then 1 else 0
theorem payR_tup (l : List Charge) (p a : Int) : payR l p a = .tup [encCharges (payO l p a), .int .i64 (payX l p a), .int .i64 (payE l p a)] := by
  unfold payR payO payX payE
  split <;> rfl
theorem rightF_cons {pr : Option Int} {c : Charge} {l : List Charge} (h : rightF pr (c :: l) = 0) : lowId pr c.id = false ∧ chkC c = 0 ∧ rightF (some c.id) l = 0 := by
  simp only [rightF] at h
  split at h
  · exact absurd h (by decide)
  · rename_i h1
    split at h
    · rename_i h2; exact absurd h h2
    · rename_i h2
      exact ⟨by simpa using h1, by simpa using h2, h⟩
theorem rightF_gt : ∀ (l : List Charge) (m : Int), rightF (some m) l = 0 → ∀ c ∈ l, m < c.id
  | [], _, _, c, hc => by simp at hc
  | x :: l, m, h, c, hc => by
    obtain ⟨h1, _, h3⟩ := rightF_cons h
    have hx : m < x.id := by simpa [lowId] using h1
    rcases List.mem_cons.1 hc with rfl | hc
    · exact hx
    · have := rightF_gt l x.id h3 c hc; omega
theorem chk0_facts {x : Charge} (h : chkC x = 0) : 1 ≤ x.id ∧ x.id ≤ 99999 ∧ 1 ≤ x.amount ∧ x.amount ≤ 100000000 ∧ 0 ≤ x.paid ∧ x.paid < x.amount := by
  unfold chkC at h
  split at h
  · exact absurd h (by decide)
  · split at h
    · exact absurd h (by decide)
    · split at h
      · exact absurd h (by decide)
      · rename_i h1 h2 h3
        have : ¬ (x.id < 1 ∨ 99999 < x.id) := fun hh => h1 (by rcases hh with hh | hh <;> simp [hh])
        omega
theorem rem_none {i : Int} : ∀ (l : List Charge) (o : List Charge) (q n : Int), (∀ c ∈ l, c.id ≠ i) → remF (fun c => c.id == i) (o, q, n) l = (o ++ l, q, n)
  | [], o, q, n, _ => by simp [remF]
  | c :: l, o, q, n, h => by
    have hc : ¬ (c.id = i) := h c (by simp)
    simp only [remF, beq_iff_eq, hc, if_false]
    rw [rem_none l _ q n (fun c' h' => h c' (by simp [h']))]; simp
theorem wv_none {i : Int} : ∀ (l : List Charge) (o : List Charge) (q : Int), (∀ c ∈ l, c.id ≠ i) → wvF i (o, q) l = (o ++ l, q)
  | [], o, q, _ => by simp [wvF]
  | c :: l, o, q, h => by
    have hc : ¬ (c.id = i) := h c (by simp)
    simp only [wvF, hc, if_false]
    rw [wv_none l _ q (fun c' h' => h c' (by simp [h']))]; simp
theorem rem_wv {i : Int} : ∀ (l : List Charge) (pr : Option Int) (o : List Charge), rightF pr l = 0 →
    (∃ x, remF (fun c => c.id == i) (o, 0, 0) l = (x, 0, 0) ∧ wvF i (o, -1) l = (x, -1)) ∨ ∃ x pd, 0 ≤ pd ∧ remF (fun c => c.id == i) (o, 0, 0) l = (x, pd, 1) ∧ wvF i (o, -1) l = (x, pd)
  | [], _, o, _ => .inl ⟨o, by simp [remF], by simp [wvF]⟩
  | c :: l, pr, o, h => by
    obtain ⟨_, h2, h3⟩ := rightF_cons h
    have hf := chk0_facts h2
    by_cases hc : c.id = i
    · right
      have hno : ∀ c' ∈ l, c'.id ≠ i := fun c' hc' => by have := rightF_gt l c.id h3 c' hc'; omega
      have e1 : IntKind.i64.wrap (0 + c.paid) = c.paid := by rw [wrap_i64] <;> omega
      have e2 : IntKind.i64.wrap (0 + 1) = 1 := by rw [wrap_i64] <;> omega
      refine ⟨o ++ l, c.paid, hf.2.2.2.2.1, ?_, ?_⟩
      · simp only [remF, beq_iff_eq, hc, if_true, e1, e2]
        exact rem_none l o _ _ hno
      · simp only [wvF, hc, if_true]
        exact wv_none l o _ hno
    · simp only [remF, wvF, beq_iff_eq, hc, if_false]
      exact rem_wv l (some c.id) (o ++ [c]) h3
theorem wvR_eq {l : List Charge} {i : Int} (h : rightR l = 0) : wvR l i = waiveR l i := by
  have h' : rightF none l = 0 := by
    unfold rightR at h
    split at h
    · exact absurd h (by decide)
    · exact h
  rcases rem_wv (i := i) l none [] h' with ⟨x, h1, h2⟩ | ⟨x, pd, h0, h1, h2⟩
  · unfold wvR waiveR; rw [h1, h2]; simp
  · unfold wvR waiveR; rw [h1, h2]; simp; omega
def wO (l : List Charge) (i : Int) : List Charge := if (remF (fun c => c.id == i) ([], 0, 0) l).2.2 = 0 then [] else (remF (fun c => c.id == i) ([], 0, 0) l).1
def wX (l : List Charge) (i : Int) : Int := if (remF (fun c => c.id == i) ([], 0, 0) l).2.2 = 0 then 0 else (remF (fun c => c.id == i) ([], 0, 0) l).2.1
def wE (l : List Charge) (i : Int) : Int := if (remF (fun c => c.id == i) ([], 0, 0) l).2.2 = 0 then 9 else 0
theorem waiveR_tup (l : List Charge) (i : Int) : waiveR l i = .tup [encCharges (wO l i), .int .i64 (wX l i), .int .i64 (wE l i)] := by
  unfold waiveR wO wX wE; split <;> rfl
theorem rf_rem {p i k : Int} : ∀ (l : List Charge) (o : List Charge) (q n : Int), (rfF p i k (o, q) l).1 = (remF (refP p i k) (o, q, n) l).1 ∧ (rfF p i k (o, q) l).2 = (remF (refP p i k) (o, q, n) l).2.1
  | [], o, q, n => ⟨rfl, rfl⟩
  | c :: l, o, q, n => by
    simp only [rfF, remF]
    split
    · exact rf_rem l o _ _
    · exact rf_rem l _ q n
def addR (l : List Charge) (c : Charge) : RetT := if rightR (l ++ [c]) = 0 then .tup [encCharges (l ++ [c]), .int .i64 0] else .tup [encCharges [], .int .i64 (rightR (l ++ [c]))]
theorem addR_bad {l : List Charge} {c : Charge} (h : ¬ rightR (l ++ [c]) = 0) : addR l c = .tup [encCharges [], .int .i64 (rightR (l ++ [c]))] := if_neg h
theorem addR_ok {l : List Charge} {c : Charge} (h : rightR (l ++ [c]) = 0) : addR l c = .tup [encCharges (l ++ [c]), .int .i64 0] := if_pos h
def copyF (o l : List Charge) : List Charge := o ++ l
def addO (l : List Charge) (c : Charge) : List Charge := if rightR (l ++ [c]) = 0 then l ++ [c] else []
theorem addR_tup (l : List Charge) (c : Charge) : addR l c = .tup [encCharges (addO l c), .int .i64 (rightR (l ++ [c]))] := by
  unfold addR addO
  split
  · rename_i h; rw [h]
  · rfl
def hv : Nat → Int → Int
  | 0, w => w
  | k + 1, w => IntKind.i64.wrap ((hv k w).tdiv 2)
@[simp] theorem hv_zero {w : Int} : hv 0 w = w := rfl
def anyF (d : Int) : Unit → List Int → Bool
  | _, [] => true
  | _, x :: l => if x = d then false else anyF d () l
def openR (c : Cal) (d : Int) : Bool := if d < 0 ∨ 109572 < d then false else if (hv (wday d).toNat c.week).tmod 2 = 1 then false else anyF d () c.closed
section
variable {c : Cal} {d : Int}
theorem openR_out (h : d < 0 ∨ 109572 < d) : openR c d = false := if_pos h
theorem openR_week (h : 0 ≤ d ∧ d ≤ 109572) (h2 : (hv (wday d).toNat c.week).tmod 2 = 1) : openR c d = false := by unfold openR; rw [if_neg (by omega), if_pos h2]
theorem openR_in (h : 0 ≤ d ∧ d ≤ 109572) (h2 : ¬ (hv (wday d).toNat c.week).tmod 2 = 1) : openR c d = anyF d () c.closed := by unfold openR; rw [if_neg (by omega), if_neg h2]
end
def cntN (c : Cal) : Nat → Int → Int → Int
  | 0, _, n => n
  | k + 1, d, n => cntN c k (d + 1) (if openR c d = true then IntKind.i64.wrap (n + 1) else n)
def countD (c : Cal) (f t : Int) : Int := cntN c ((if 109572 < t then 109572 else t) + 1 - (if f < 0 then 0 else f)).toNat (if f < 0 then 0 else f) 0
theorem countD_eq {c : Cal} {f t lo hi : Int} (h1 : (if f < 0 then 0 else f) = lo) (h2 : (if 109572 < t then 109572 else t) = hi) : countD c f t = cntN c (hi + 1 - lo).toNat lo 0 := by
  unfold countD; rw [h1, h2]
def badF : Unit → List Int → Bool
  | _, [] => false
  | _, x :: l => if isDay x = false then true else badF () l
theorem badF_any : ∀ l : List Int, badF () l = l.any (fun n => !isDay n)
  | [] => rfl
  | x :: l => by
    simp only [badF, List.any_cons, badF_any l]
    cases h : isDay x <;> simp
theorem asc_tail : ∀ l : List Int, ascF none l = ascF l.head? l.tail
  | [] => rfl
  | x :: l => by simp [ascF, lowId]
theorem cal2b {c : Cal} (h : 0 ≤ c.week ∧ c.week < 127) (h2 : (c.closed.length : Int) ≤ 64) (h3 : badF () c.closed = true) : calR c = 2 := by
  rw [badF_any] at h3
  unfold calR; rw [if_neg (by omega), if_neg (by omega), if_pos h3]
theorem calAb {c : Cal} (h : 0 ≤ c.week ∧ c.week < 127) (h2 : (c.closed.length : Int) ≤ 64) (h3 : badF () c.closed = false) : calR c = ascF c.closed.head? c.closed.tail := by
  rw [badF_any] at h3
  unfold calR; rw [if_neg (by omega), if_neg (by omega), if_neg (by simp [h3]), asc_tail]
end Pl

/- Patterns of serials: the issues of a pattern. -/
namespace Pl
open Go Ab
set_option linter.unusedVariables false
set_option linter.unusedSimpArgs false
structure Pat where
  start : Int
  every : Int
  per : Int
  first : Int
  skip : List Int
  dbl : List Int
structure Iss where
  vol : Int
  num : Int
  last : Int
  day : Int
  st : Int
  item : Int
deriving DecidableEq
def encPat (p : Pat) : D := .agg [.int .i64 p.start, .int .i64 p.every, .int .i64 p.per, .int .i64 p.first, encInts p.skip, encInts p.dbl]
theorem encPat_eq (p : Pat) : encPat p = .agg [.int .i64 p.start, .int .i64 p.every, .int .i64 p.per, .int .i64 p.first, encInts p.skip, encInts p.dbl] := rfl
def encIss (x : Iss) : D := .agg [.int .i64 x.vol, .int .i64 x.num, .int .i64 x.last, .int .i64 x.day, .int .i64 x.st, .int .i64 x.item]
theorem encIss_eq (x : Iss) : encIss x = .agg [.int .i64 x.vol, .int .i64 x.num, .int .i64 x.last, .int .i64 x.day, .int .i64 x.st, .int .i64 x.item] := rfl
def zIss : Iss := ⟨0, 0, 0, 0, 0, 0⟩
def encIsss (l : List Iss) : D := .slice (encIss zIss) (l.map encIss)
theorem encIsss_eq (l : List Iss) : encIsss l = .slice (encIss zIss) (l.map encIss) := rfl
/-- what a valid pattern's numbers are -/
def PatOk (p : Pat) : Prop := (0 ≤ p.start ∧ p.start ≤ 109572) ∧ (1 ≤ p.every ∧ p.every ≤ 4) ∧ (1 ≤ p.per ∧ p.per ≤ 366) ∧ (1 ≤ p.first ∧ p.first ≤ 9999)
/-- the first index at which a number lies -/
def idxE (v : Int) : Int → List Int → Int
  | i, [] => -1
  | i, x :: l => if v = x then i else idxE v (i + 1) l
theorem idxE_has (v : Int) : ∀ (l : List Int) (i : Int), 0 ≤ i → decide (0 ≤ idxE v i l) = l.contains v
  | [], i, _ => by simp [idxE]
  | x :: l, i, hi => by
    by_cases hp : v = x
    · subst hp; simp [idxE, hi]
    · have hp' : ¬ (v == x) = true := by simpa using hp
      simp only [idxE, if_neg hp, List.contains_cons, hp', Bool.false_or]
      exact idxE_has v l (i + 1) (by omega)
def hasF (v : Int) : Unit → List Int → Bool
  | _, [] => false
  | _, x :: l => if x = v then true else hasF v () l
theorem hasF_eq (v : Int) : ∀ l : List Int, hasF v () l = l.contains v
  | [] => by simp [hasF]
  | x :: l => by
    by_cases hp : x = v
    · subst hp; simp [hasF]
    · have hp' : (v == x) = false := by rw [beq_eq_false_iff_ne]; exact fun h => hp h.symm
      simp only [hasF, if_neg hp, List.contains_cons, hp', Bool.false_or]
      exact hasF_eq v l
noncomputable def monthD (d : Int) : Int := (partsR d).2.1
theorem monthD_of {d : Int} (h : 0 ≤ d ∧ d ≤ 109572) : monthD d = (partsP d).m := by unfold monthD; rw [partsR_ok h]
theorem monthD_rng {d : Int} (h : 0 ≤ d ∧ d ≤ 109572) : 1 ≤ monthD d ∧ monthD d ≤ 12 := by
  rw [monthD_of h]; exact (parts_in (parts_is h.1 h.2)).2.1
theorem monthD_any (d : Int) : 0 ≤ monthD d ∧ monthD d ≤ 12 := by
  by_cases h : 0 ≤ d ∧ d ≤ 109572
  · have := monthD_rng h; omega
  · unfold monthD; rw [partsR_bad h]; decide
theorem monthD_1 (d : Int) : (-9223372036854775808 ≤ monthD d) = True := eq_true (by have := monthD_any d; omega)
theorem monthD_2 (d : Int) : (monthD d ≤ 9223372036854775807) = True := eq_true (by have := monthD_any d; omega)
def stepP (p : Pat) : Int := if p.every = 3 then 3 else if p.every = 4 then 12 else 1
/-- the k-th nominal day and whether it is one -/
noncomputable def nomR (p : Pat) (k : Int) : Int × Bool :=
  if p.every = 1 then (p.start + 7 * k, decide (0 ≤ p.start + 7 * k ∧ p.start + 7 * k ≤ 109572))
  else ((monthsR p.start (stepP p * k)).1, decide ((monthsR p.start (stepP p * k)).2 = 0))
noncomputable def nomO (p : Pat) (k : Int) : Option Int := if (nomR p k).2 = true then some (nomR p k).1 else none
theorem months_far {day n : Int} (h : 3600 < n) : monthsR day n = (0, 2) := months_a (.inr (.inr h))
theorem months_rng {day n : Int} (h : (monthsR day n).2 = 0) : 0 ≤ (monthsR day n).1 ∧ (monthsR day n).1 ≤ 109572 := by
  by_cases ha : ¬ (0 ≤ day ∧ day ≤ 109572) ∨ (n < -3600 ∨ 3600 < n)
  · rw [months_a ha] at h; exact absurd h (by decide)
  · by_cases hb : monK day n < 22800 ∨ 26399 < monK day n
    · rw [months_b (by omega) hb] at h; exact absurd h (by decide)
    · have := (months_parts (day := day) (n := n) (by omega) hb).2
      exact (parts_in this).2.2.2.2.2
theorem nom_rng {p : Pat} {k d : Int} (h : nomO p k = some d) : 0 ≤ d ∧ d ≤ 109572 := by
  unfold nomO nomR at h
  by_cases he : p.every = 1
  · rw [if_pos he] at h
    split at h
    · rename_i hh
      cases h
      simpa using hh
    · cases h
  · rw [if_neg he] at h
    split at h
    · rename_i hh
      cases h
      exact months_rng (by simpa using hh)
    · cases h
theorem nom_far {p : Pat} (hp : PatOk p) {k : Int} (h : 16000 ≤ k) : nomO p k = none := by
  obtain ⟨hs, he, _⟩ := hp
  unfold nomO nomR
  by_cases h1 : p.every = 1
  · rw [if_pos h1, if_neg (by simp; omega)]
  · rw [if_neg h1]
    have : monthsR p.start (stepP p * k) = (0, 2) := months_far (by unfold stepP; split; omega; split <;> omega)
    rw [this]; simp
theorem nom_no {p : Pat} {k : Int} (h : (nomR p k).2 = false) : nomO p k = none := by unfold nomO; rw [if_neg (by rw [h]; decide)]
theorem nom_yes {p : Pat} {k : Int} (h : (nomR p k).2 = true) : nomO p k = some (nomR p k).1 := by unfold nomO; rw [if_pos h]
theorem nom_lt {p : Pat} (hp : PatOk p) {k d : Int} (h : nomO p k = some d) : k < 16000 := by
  apply Classical.byContradiction
  intro hh
  rw [nom_far hp (by omega)] at h
  cases h
theorem nom_w1 {p : Pat} {k : Int} (h : p.every = 1) (hk : 0 ≤ p.start + 7 * k ∧ p.start + 7 * k ≤ 109572) : nomO p k = some (p.start + 7 * k) := by
  unfold nomO nomR; rw [if_pos h, if_pos (by simpa using hk)]
theorem nom_w0 {p : Pat} {k : Int} (h : p.every = 1) (hk : ¬ (0 ≤ p.start + 7 * k ∧ p.start + 7 * k ≤ 109572)) : nomO p k = none := by
  unfold nomO nomR; rw [if_pos h, if_neg (by simpa using hk)]
theorem nom_m1 {p : Pat} {k : Int} (h : ¬ p.every = 1) (hk : (monthsR p.start (stepP p * k)).2 = 0) : nomO p k = some (monthsR p.start (stepP p * k)).1 := by
  unfold nomO nomR; rw [if_neg h, if_pos (by simpa using hk)]
theorem nom_m0 {p : Pat} {k : Int} (h : ¬ p.every = 1) (hk : ¬ (monthsR p.start (stepP p * k)).2 = 0) : nomO p k = none := by
  unfold nomO nomR; rw [if_neg h, if_neg (by simpa using hk)]
/-- from k on, the first nominal day that is not left out, and where it lies -/
noncomputable def scanF (p : Pat) : Nat → Int → Option Int × Int
  | 0, k => (none, k)
  | f + 1, k =>
    match nomO p k with
    | none => (none, k)
    | some d => if p.skip.contains (monthD d) = true then scanF p f (k + 1) else (some d, k)
noncomputable def scan (p : Pat) (k : Int) : Option Int × Int := scanF p (16001 - k).toNat k
theorem scan_none {p : Pat} {k : Int} (hk : k ≤ 16000) (h : nomO p k = none) : scan p k = (none, k) := by
  unfold scan
  rw [show (16001 - k).toNat = (16000 - k).toNat + 1 by omega, scanF, h]
theorem scan_some {p : Pat} {k d : Int} (hk : k ≤ 16000) (h : nomO p k = some d) (hs : p.skip.contains (monthD d) = false) : scan p k = (some d, k) := by
  unfold scan
  rw [show (16001 - k).toNat = (16000 - k).toNat + 1 by omega, scanF, h]
  exact if_neg (by rw [hs]; decide)
theorem scan_skip {p : Pat} {k d : Int} (hk : k ≤ 16000) (h : nomO p k = some d) (hs : p.skip.contains (monthD d) = true) : scan p k = scan p (k + 1) := by
  unfold scan
  rw [show (16001 - k).toNat = (16001 - (k + 1)).toNat + 1 by omega, scanF, h]
  exact if_pos hs
end Pl

/- Patterns of serials: the list of issues. -/
namespace Pl
open Go Ab
set_option linter.unusedVariables false
set_option linter.unusedSimpArgs false
/-- behind a number: the volume and number of the next issue -/
def volN (p : Pat) (vol num : Int) : Int := if p.per < num then vol + 1 else vol
def numN (p : Pat) (num : Int) : Int := if p.per < num then 1 else num
/-- is an issue a double one? -/
noncomputable def dblB (p : Pat) (num day : Int) (s : Option Int × Int) : Bool := p.dbl.contains (monthD day) && decide (num < p.per) && s.1.isSome
noncomputable def issF (p : Pat) : Nat → Int → Int → Option Int × Int → List Iss
  | 0, _, _, _ => []
  | f + 1, vol, num, s =>
    match s with
    | (none, _) => []
    | (some day, k) =>
      if vol ≤ 9999 then
        if dblB p num day (scan p (k + 1)) = true then
          ⟨vol, num, num + 1, day, 1, 0⟩ :: issF p f (volN p vol (num + 2)) (numN p (num + 2)) (scan p ((scan p (k + 1)).2 + 1))
        else ⟨vol, num, 0, day, 1, 0⟩ :: issF p f (volN p vol (num + 1)) (numN p (num + 1)) (scan p (k + 1))
      else []
noncomputable def allI (p : Pat) : List Iss := issF p 5000 p.first 1 (scan p 0)
theorem issF_none (p : Pat) (f : Nat) (vol num k : Int) : issF p f vol num (none, k) = [] := by cases f <;> rfl
theorem issF_vol (p : Pat) (f : Nat) (vol num : Int) (s : Option Int × Int) (h : ¬ vol ≤ 9999) : issF p f vol num s = [] := by
  match f, s with
  | 0, _ => rfl
  | f + 1, (none, k) => rfl
  | f + 1, (some d, k) => exact if_neg h
theorem issF_dbl (p : Pat) (f : Nat) (vol num day k : Int) (h : vol ≤ 9999) (hd : dblB p num day (scan p (k + 1)) = true) :
    issF p (f + 1) vol num (some day, k) = ⟨vol, num, num + 1, day, 1, 0⟩ :: issF p f (volN p vol (num + 2)) (numN p (num + 2)) (scan p ((scan p (k + 1)).2 + 1)) := by
  show (if vol ≤ 9999 then _ else _) = _
  rw [if_pos h, if_pos hd]
theorem issF_one (p : Pat) (f : Nat) (vol num day k : Int) (h : vol ≤ 9999) (hd : dblB p num day (scan p (k + 1)) = false) :
    issF p (f + 1) vol num (some day, k) = ⟨vol, num, 0, day, 1, 0⟩ :: issF p f (volN p vol (num + 1)) (numN p (num + 1)) (scan p (k + 1)) := by
  show (if vol ≤ 9999 then _ else _) = _
  rw [if_pos h, if_neg (by rw [hd]; decide)]
/-- where the scan stands -/
theorem scan_fst {p : Pat} (hp : PatOk p) : ∀ (f : Nat) {k : Int}, (16001 - k).toNat = f → 0 ≤ k → k ≤ 16000 → (∀ d, (scan p k).1 = some d → (0 ≤ d ∧ d ≤ 109572) ∧ k ≤ (scan p k).2 ∧ (scan p k).2 < 16000)
  | 0, k, hf, h0, h1 => by omega
  | f + 1, k, hf, h0, h1 => by
    intro d hd
    cases hn : nomO p k with
    | none => rw [scan_none h1 hn] at hd; cases hd
    | some e =>
      have hlt := nom_lt hp hn
      cases hs : p.skip.contains (monthD e) with
      | false =>
        rw [scan_some h1 hn hs] at hd ⊢
        cases hd
        exact ⟨nom_rng hn, by simp, by simpa using hlt⟩
      | true =>
        rw [scan_skip h1 hn hs] at hd ⊢
        have := scan_fst hp f (k := k + 1) (by omega) (by omega) (by omega) d hd
        omega
theorem scan_at {p : Pat} (hp : PatOk p) {k d : Int} (h0 : 0 ≤ k) (h1 : k ≤ 16000) (h : (scan p k).1 = some d) : (0 ≤ d ∧ d ≤ 109572) ∧ k ≤ (scan p k).2 ∧ (scan p k).2 < 16000 := scan_fst hp _ rfl h0 h1 d h
end Pl

/- Patterns of serials: what the three callers of the iterator hand back. -/
namespace Pl
open Go Ab
set_option linter.unusedVariables false
set_option linter.unusedSimpArgs false
/-- the issue with an index, or the error -/
noncomputable def nthR (p : Pat) (n : Int) : Iss × Int := if n < 0 then (zIss, 2) else match (allI p)[n.toNat]? with | some x => (x, 0) | none => (zIss, 2)
/-- how many issues appear up to a day -/
noncomputable def untilR (p : Pat) (day : Int) : Int := (((allI p).takeWhile fun x => decide (x.day ≤ day)).length : Int)
/-- some issues from an index on -/
noncomputable def listR (p : Pat) (fr n : Int) : List Iss :=
  if n < 1 then [] else if fr < 0 then (allI p).take (n + fr).toNat else ((allI p).drop fr.toNat).take n.toNat
theorem issF_len (p : Pat) : ∀ (f : Nat) (vol num : Int) (s : Option Int × Int), (issF p f vol num s).length ≤ f
  | 0, _, _, _ => by simp [issF]
  | f + 1, vol, num, (none, k) => by rw [issF_none]; simp
  | f + 1, vol, num, (some d, k) => by
    by_cases hv : vol ≤ 9999
    · cases hd : dblB p num d (scan p (k + 1)) with
      | true => rw [issF_dbl p f vol num d k hv hd]; simp only [List.length_cons]; have := issF_len p f (volN p vol (num + 2)) (numN p (num + 2)) (scan p ((scan p (k + 1)).2 + 1)); omega
      | false => rw [issF_one p f vol num d k hv hd]; simp only [List.length_cons]; have := issF_len p f (volN p vol (num + 1)) (numN p (num + 1)) (scan p (k + 1)); omega
    · rw [issF_vol p _ _ _ _ hv]; simp
theorem allI_len (p : Pat) : (allI p).length ≤ 5000 := issF_len _ _ _ _ _
theorem nth_hit {p : Pat} {pre : List Iss} {x : Iss} (h : pre ++ [x] <+: allI p) : nthR p (pre.length : Int) = (x, 0) := by
  obtain ⟨t, ht⟩ := h
  unfold nthR
  rw [if_neg (by omega), ← ht]
  simp
theorem nth_miss {p : Pat} {n : Int} (h : ¬ (0 ≤ n ∧ n < (allI p).length)) : nthR p n = (zIss, 2) := by
  unfold nthR
  by_cases h0 : n < 0
  · rw [if_pos h0]
  · rw [if_neg h0, List.getElem?_eq_none (by omega)]
theorem takeWhile_all {α : Type} {p : α → Bool} : ∀ {l : List α}, (∀ x ∈ l, p x = true) → l.takeWhile p = l
  | [], _ => rfl
  | x :: l, h => by rw [List.takeWhile_cons, if_pos (h x (by simp)), takeWhile_all fun y hy => h y (by simp [hy])]
theorem until_all {p : Pat} {day : Int} (h : ∀ x ∈ allI p, x.day ≤ day) : untilR p day = ((allI p).length : Int) := by
  unfold untilR
  rw [takeWhile_all (fun x hx => by simpa using h x hx)]
theorem until_cut {p : Pat} {day : Int} {pre : List Iss} {x : Iss} (hp : pre ++ [x] <+: allI p) (h : ∀ y ∈ pre, y.day ≤ day) (hx : day < x.day) : untilR p day = (pre.length : Int) := by
  obtain ⟨t, ht⟩ := hp
  unfold untilR
  rw [← ht, List.append_assoc, List.takeWhile_append_of_pos (fun y hy => by simpa using h y hy)]
  simp [hx]
theorem list_all {p : Pat} {F : Nat} {C : Int} (h : F < (allI p).length → ((allI p).length : Int) - F ≤ C) : ((allI p).drop F).take C.toNat = (allI p).drop F := by
  rw [List.take_of_length_le]
  rw [List.length_drop]
  by_cases hF : F < (allI p).length
  · have := h hF; omega
  · omega
theorem list_cut {p : Pat} {F : Nat} {C : Int} {pre : List Iss} {x : Iss} (hp : pre ++ [x] <+: allI p) (h : F < pre.length → (pre.length : Int) - F ≤ C) (h1 : F ≤ pre.length) (h2 : C ≤ (pre.length : Int) - F) :
    ((allI p).drop F).take C.toNat = pre.drop F := by
  obtain ⟨t, ht⟩ := hp
  have hc : C.toNat = (pre.drop F).length := by
    rw [List.length_drop]
    by_cases hF : F < pre.length
    · have := h hF; omega
    · omega
  rw [← ht, List.append_assoc, List.drop_append_of_le_length h1, hc, List.take_left]
end Pl

/- Patterns of serials: what issues are. -/
namespace Pl
open Go Ab
set_option linter.unusedVariables false
set_option linter.unusedSimpArgs false
def IssRng (x : Iss) : Prop := (1 ≤ x.vol ∧ x.vol ≤ 9999) ∧ (1 ≤ x.num ∧ x.num ≤ 366) ∧ (0 ≤ x.last ∧ x.last ≤ 367) ∧ (0 ≤ x.day ∧ x.day ≤ 109572) ∧ x.st = 1 ∧ x.item = 0
theorem volN_rng {p : Pat} {vol num : Int} (h : 1 ≤ vol ∧ vol ≤ 9999) : 1 ≤ volN p vol num ∧ volN p vol num ≤ 10000 := by unfold volN; split <;> omega
theorem numN_rng {p : Pat} {num : Int} (h : 1 ≤ num) (hp : 1 ≤ p.per) : 1 ≤ numN p num ∧ numN p num ≤ p.per := by unfold numN; split <;> omega
theorem dblB_num {p : Pat} {num day : Int} {s : Option Int × Int} (h : dblB p num day s = true) : num < p.per := by
  unfold dblB at h; simp at h; omega
theorem issF_all {p : Pat} (hp : PatOk p) : ∀ (f : Nat) (vol num : Int) (s : Option Int × Int), 1 ≤ vol → (1 ≤ num ∧ num ≤ p.per) → (∀ d, s.1 = some d → (0 ≤ d ∧ d ≤ 109572) ∧ 0 ≤ s.2 ∧ s.2 < 16000) → ∀ x ∈ issF p f vol num s, IssRng x
  | 0, _, _, _, _, _, _, x, hx => by simp [issF] at hx
  | f + 1, vol, num, (none, k), _, _, _, x, hx => by rw [issF_none] at hx; simp at hx
  | f + 1, vol, num, (some d, k), hv, hn, hs, x, hx => by
    obtain ⟨hd, hk0, hk1⟩ := hs d rfl
    have hper := hp.2.2.1
    by_cases hv2 : vol ≤ 9999
    · cases hb : dblB p num d (scan p (k + 1)) with
      | true =>
        rw [issF_dbl p f vol num d k hv2 hb] at hx
        have hnp := dblB_num hb
        have hso : (scan p (k + 1)).1.isSome = true := by unfold dblB at hb; simp at hb; exact hb.2
        obtain ⟨d2, hd2⟩ := Option.isSome_iff_exists.1 hso
        have a := scan_at hp (k := k + 1) (by omega) (by simp only at hk1; omega) hd2
        rcases List.mem_cons.1 hx with rfl | hx
        · exact ⟨⟨hv, hv2⟩, ⟨hn.1, by show num ≤ 366; omega⟩, ⟨by show 0 ≤ num + 1; omega, by show num + 1 ≤ 367; omega⟩, hd, rfl, rfl⟩
        · exact issF_all hp f _ _ _ (volN_rng ⟨hv, hv2⟩).1 (numN_rng (by omega) hper.1) (fun d3 h3 => by have := scan_at hp (k := (scan p (k + 1)).2 + 1) (by omega) (by omega) h3; omega) x hx
      | false =>
        rw [issF_one p f vol num d k hv2 hb] at hx
        rcases List.mem_cons.1 hx with rfl | hx
        · exact ⟨⟨hv, hv2⟩, ⟨hn.1, by show num ≤ 366; omega⟩, ⟨by show (0 : Int) ≤ 0; omega, by show (0 : Int) ≤ 367; omega⟩, hd, rfl, rfl⟩
        · exact issF_all hp f _ _ _ (volN_rng ⟨hv, hv2⟩).1 (numN_rng (by omega) hper.1) (fun d3 h3 => by have := scan_at hp (k := k + 1) (by omega) (by simp only at hk1; omega) h3; omega) x hx
    · rw [issF_vol p _ _ _ _ hv2] at hx; simp at hx
theorem allI_rng {p : Pat} (hp : PatOk p) {x : Iss} (hx : x ∈ allI p) : IssRng x := by
  have hf := hp.2.2.2
  have hper := hp.2.2.1
  exact issF_all hp 5000 p.first 1 (scan p 0) hf.1 (by omega) (fun d h => by have := scan_at hp (k := 0) (by omega) (by omega) h; omega) x hx
/-- an issue's numbers are small -/
def IssSm (x : Iss) : Prop := (0 ≤ x.vol ∧ x.vol ≤ 200000) ∧ (0 ≤ x.num ∧ x.num ≤ 200000) ∧ (0 ≤ x.last ∧ x.last ≤ 200000) ∧ (0 ≤ x.day ∧ x.day ≤ 200000) ∧ (0 ≤ x.st ∧ x.st ≤ 200000) ∧ (0 ≤ x.item ∧ x.item ≤ 200000)
theorem IssRng.sm {x : Iss} (h : IssRng x) : IssSm x := by unfold IssRng at h; unfold IssSm; omega
theorem nth_sm {p : Pat} (hp : PatOk p) (n : Int) : IssSm (nthR p n).1 ∧ (0 ≤ (nthR p n).2 ∧ (nthR p n).2 ≤ 2) := by
  have z : IssSm zIss := by simp [IssSm, zIss]
  unfold nthR
  by_cases h0 : n < 0
  · rw [if_pos h0]; exact ⟨z, by simp⟩
  · rw [if_neg h0]
    cases hh : (allI p)[n.toNat]? with
    | none => exact ⟨z, by simp⟩
    | some x => exact ⟨(allI_rng hp (List.mem_of_getElem? hh)).sm, by simp⟩
theorem until_rng (p : Pat) (day : Int) : 0 ≤ untilR p day ∧ untilR p day ≤ 5000 := by
  unfold untilR
  have h := (List.takeWhile_prefix (fun x : Iss => decide (x.day ≤ day)) (l := allI p)).length_le
  have := allI_len p
  omega
end Pl

/- Patterns of serials: what Right asks. -/
namespace Pl
open Go Ab
set_option linter.unusedVariables false
set_option linter.unusedSimpArgs false
def badMo : Unit → List Int → Bool
  | _, [] => false
  | _, m :: l => if m < 1 ∨ 12 < m then true else badMo () l
def twMo : List Int → Bool
  | a :: b :: r => if b ≤ a then true else twMo (b :: r)
  | _ => false
def monR (l : List Int) : Int := if badMo () l = true then 2 else if twMo l = true then 7 else 0
theorem mon_bad {l : List Int} (h : badMo () l = true) : monR l = 2 := if_pos h
theorem mon_tw {l : List Int} (h : badMo () l = false) (h2 : twMo l = true) : monR l = 7 := by unfold monR; rw [if_neg (by rw [h]; decide), if_pos h2]
theorem mon_ok {l : List Int} (h : badMo () l = false) (h2 : twMo l = false) : monR l = 0 := by unfold monR; rw [if_neg (by rw [h]; decide), if_neg (by rw [h2]; decide)]
theorem tw_step {l : List Int} {j : Nat} {y x : Int} (hy : l[j]? = some y) (hx : l[j + 1]? = some x) : twMo (l.drop j) = if x ≤ y then true else twMo (l.drop (j + 1)) := by
  obtain ⟨h1, e1⟩ := List.getElem?_eq_some_iff.1 hy
  obtain ⟨h2, e2⟩ := List.getElem?_eq_some_iff.1 hx
  rw [List.drop_eq_getElem_cons h1, List.drop_eq_getElem_cons h2, e1, e2]
  rfl
theorem tw_end {l : List Int} {i : Nat} (h : l.length ≤ i) : twMo (l.drop (i - 1)) = false := by
  have hl : (l.drop (i - 1)).length ≤ 1 := by rw [List.length_drop]; omega
  match hd : l.drop (i - 1), hl with
  | [], _ => rfl
  | [a], _ => rfl
  | a :: b :: r, hl => simp at hl
theorem monR_rng (l : List Int) : 0 ≤ monR l ∧ monR l ≤ 7 := by unfold monR; split; omega; split <;> omega
/-- the error of a pattern -/
def patR (p : Pat) : Int :=
  if ((p.start < 0 ∨ 109572 < p.start) ∨ (p.per < 1 ∨ 366 < p.per)) ∨ (p.first < 1 ∨ 9999 < p.first) then 2
  else if p.every < 1 ∨ 4 < p.every then 1
  else if ¬ monR p.skip = 0 then monR p.skip
  else if ¬ monR p.dbl = 0 then monR p.dbl
  else if (p.skip.length = 12 ∨ (0 < p.skip.length ∧ 3 ≤ p.every)) ∨ (0 < p.dbl.length ∧ ¬ p.every = 2) then 1
  else if (p.dbl.any fun m => p.skip.contains m) = true then 1 else 0
def anyMo (s : List Int) : Unit → List Int → Bool
  | _, [] => false
  | _, m :: l => if s.contains m = true then true else anyMo s () l
theorem anyMo_eq (s : List Int) : ∀ l : List Int, anyMo s () l = l.any fun m => s.contains m
  | [] => rfl
  | m :: l => by
    rw [anyMo, List.any_cons, anyMo_eq s l]
    cases s.contains m <;> simp
def shortP (p : Pat) : Bool := decide (p.skip.length ≤ 20) && decide (p.dbl.length ≤ 20)
theorem patR_rng (p : Pat) : 0 ≤ patR p ∧ patR p ≤ 7 := by
  have h1 := monR_rng p.skip
  have h2 := monR_rng p.dbl
  unfold patR
  repeat' split
  all_goals omega
theorem patR_1 (p : Pat) : (-9223372036854775808 ≤ patR p) = True := eq_true (by have := patR_rng p; omega)
theorem patR_2 (p : Pat) : (patR p ≤ 9223372036854775807) = True := eq_true (by have := patR_rng p; omega)
theorem patR_ok {p : Pat} (h : patR p = 0) : PatOk p := by
  unfold patR at h
  split at h
  · omega
  · split at h
    · omega
    · unfold PatOk; omega
end Pl

/- Patterns of serials: labels. -/
namespace Pl
open Go Ab
set_option linter.unusedVariables false
set_option linter.unusedSimpArgs false
theorem itoa_sign {n : Int} (h : n < 0) : Go.Lib.itoa n = 45 :: Go.Lib.itoa (-n) := by
  unfold Go.Lib.itoa
  rw [if_pos h, if_neg (by omega), show n.natAbs = (-n).toNat by omega]
theorem digC_mod (n : Int) : digC (n % 10) = digC n := by unfold digC; rw [show n % 10 % 10 = n % 10 by omega]
/-- what is left of a number, and its digits so far -/
def DigI (n x : Int) (o : List UInt8) : Prop := (0 ≤ x ∧ x ≤ n) ∧ ((o = [] ∧ x = n) ∨ (¬ o = [] ∧ (if x = 0 then [] else Go.Lib.itoa x) ++ o = Go.Lib.itoa n))
theorem DigI.start {n : Int} (h : 0 ≤ n) : DigI n n [] := ⟨⟨h, Int.le_refl _⟩, .inl ⟨rfl, rfl⟩⟩
theorem DigI.step {n x : Int} {o : List UInt8} (h : DigI n x o) (hc : 0 < x ∨ o = []) : DigI n (x / 10) (digC x :: o) := by
  obtain ⟨⟨h0, h1⟩, h⟩ := h
  refine ⟨⟨by omega, by omega⟩, .inr ⟨by simp, ?_⟩⟩
  have key : (if x / 10 = 0 then [] else Go.Lib.itoa (x / 10)) ++ [digC x] = Go.Lib.itoa x := by
    by_cases hx : x < 10
    · rw [if_pos (by omega), itoa_small h0 hx]; rfl
    · rw [if_neg (by omega), itoa_big (n := x) (by omega)]
  have e : (if x / 10 = 0 then [] else Go.Lib.itoa (x / 10)) ++ digC x :: o = Go.Lib.itoa x ++ o := by rw [← key]; simp
  rw [e]
  rcases h with ⟨ho, hx⟩ | ⟨ho, hx⟩
  · rw [ho, hx]; simp
  · have : ¬ x = 0 := by rcases hc with hc | hc <;> first | omega | exact absurd hc ho
    rw [if_neg this] at hx
    exact hx
theorem DigI.done {n x : Int} {o : List UInt8} (h : DigI n x o) (hx : x ≤ 0) (ho : ¬ o = []) : o = Go.Lib.itoa n := by
  obtain ⟨⟨h0, h1⟩, h⟩ := h
  rcases h with ⟨h, _⟩ | ⟨_, h⟩
  · exact absurd h ho
  · rw [if_pos (by omega)] at h; exact h
theorem DigI.len {n x : Int} {o : List UInt8} (h : DigI n x o) (hn : n ≤ 9223372036854775807) : o.length ≤ 21 := by
  obtain ⟨⟨h0, h1⟩, h⟩ := h
  have := Go.Lib.itoa_length_le n (by omega) hn
  rcases h with ⟨h, _⟩ | ⟨_, h⟩
  · rw [h]; simp
  · rw [← h, List.length_append] at this; omega
theorem dig_cut {x : Int} (h : 0 ≤ x) : List.drop (x % 10).toNat (List.take ((x % 10).toNat + 1) [48, 49, 50, 51, 52, 53, 54, 55, 56, 57]) = [digC x] := by
  rw [← digC_mod x]
  have : x % 10 = 0 ∨ x % 10 = 1 ∨ x % 10 = 2 ∨ x % 10 = 3 ∨ x % 10 = 4 ∨ x % 10 = 5 ∨ x % 10 = 6 ∨ x % 10 = 7 ∨ x % 10 = 8 ∨ x % 10 = 9 := by omega
  rcases this with h | h | h | h | h | h | h | h | h | h <;> rw [h] <;> rfl
theorem dig_cut2 {x : Int} (h : 0 ≤ x) : List.drop (x % 10).toNat (48 :: List.take (x % 10).toNat [49, 50, 51, 52, 53, 54, 55, 56, 57]) = [digC x] := dig_cut h
theorem tdiv_neg10 (n : Int) (h : n < 0) : n.tdiv 10 = -((-n) / 10) := by
  rw [← Int.tdiv_eq_ediv_of_nonneg (show 0 ≤ -n by omega), Int.neg_tdiv, Int.neg_neg]
theorem tmod_neg10 (n : Int) (h : n < 0) : n.tmod 10 = -((-n) % 10) := by
  rw [← Int.tmod_eq_emod_of_nonneg (show 0 ≤ -n by omega), Int.neg_tmod, Int.neg_neg]
theorem sign_one {n : Int} (h : n < 0) (hq : -(n.tdiv 10) = 0) : 45 :: Go.Lib.itoa (-(n.tmod 10)) = Go.Lib.itoa n := by
  rw [itoa_sign h]
  have e1 := tdiv_neg10 n h
  have e2 := tmod_neg10 n h
  have e : n.tmod 10 = n := by omega
  rw [e]
theorem sign_two {n : Int} (h : n < 0) (hq : ¬ -(n.tdiv 10) = 0) : 45 :: (Go.Lib.itoa (-(n.tdiv 10)) ++ Go.Lib.itoa (-(n.tmod 10))) = Go.Lib.itoa n := by
  have e1 := tdiv_neg10 n h
  have e2 := tmod_neg10 n h
  rw [itoa_sign h, itoa_big (n := -n) (by omega)]
  rw [show -(n.tdiv 10) = -n / 10 by omega, show -(n.tmod 10) = -n % 10 by omega, itoa_small (n := -n % 10) (by omega) (by omega), digC_mod]
def labelR (x : Iss) : List UInt8 := [118, 46] ++ Go.Lib.itoa x.vol ++ [32, 110, 111, 46] ++ Go.Lib.itoa x.num ++ (if x.last = 0 then [] else 45 :: Go.Lib.itoa x.last)
theorem lab_len {x : Iss} (h1 : -9223372036854775808 ≤ x.vol ∧ x.vol ≤ 9223372036854775807) (h2 : -9223372036854775808 ≤ x.num ∧ x.num ≤ 9223372036854775807) (h3 : -9223372036854775808 ≤ x.last ∧ x.last ≤ 9223372036854775807) : (labelR x).length ≤ maxLen := by
  have a := Go.Lib.itoa_length_le x.vol h1.1 h1.2
  have b := Go.Lib.itoa_length_le x.num h2.1 h2.2
  have c := Go.Lib.itoa_length_le x.last h3.1 h3.2
  unfold labelR
  simp only [List.length_append, maxLen]
  split
  · simp; omega
  · simp; omega
end Pl

/- Patterns of serials: the chapter's examples. -/
namespace Pl
open Go Ab
set_option linter.unusedVariables false
set_option linter.unusedSimpArgs false
set_option maxRecDepth 100000
def wP : Pat := ⟨46340, 1, 52, 3, [], []⟩
def mP : Pat := ⟨46385, 2, 12, 1, [1], [7]⟩
theorem wP_ok : PatOk wP := by unfold PatOk wP; decide
theorem mP_ok : PatOk mP := by unfold PatOk mP; decide
def vn (p : Pat) : Nat → Int → Int → Int × Int
  | 0, v, n => (v, n)
  | i + 1, v, n => vn p i (volN p v (n + 1)) (numN p (n + 1))
theorem week_scan {p : Pat} (he : p.every = 1) (hs : p.skip = []) {k : Int} (hk : k ≤ 16000) (h0 : 0 ≤ p.start + 7 * k) (h1 : p.start + 7 * k ≤ 109572) : scan p k = (some (p.start + 7 * k), k) :=
  scan_some hk (nom_w1 he ⟨h0, h1⟩) (by rw [hs]; rfl)
theorem week_at {p : Pat} (he : p.every = 1) (hs : p.skip = []) (hd : p.dbl = []) : ∀ (i f : Nat) (vol num k : Int), i < f → 0 ≤ k → 0 ≤ p.start → p.start + 7 * (k + i) ≤ 109572 → k + i ≤ 16000 → vol + i ≤ 9999 →
    (issF p f vol num (scan p k))[i]? = some ⟨(vn p i vol num).1, (vn p i vol num).2, 0, p.start + 7 * (k + i), 1, 0⟩
  | i, 0, vol, num, k, hf, _, _, _, _, _ => by omega
  | 0, f + 1, vol, num, k, hf, hk, h0, h1, h2, h3 => by
    rw [week_scan he hs (k := k) (by omega) (by omega) (by omega), issF_one p f vol num _ k (by omega) (by unfold dblB; rw [hd]; rfl)]
    simp [vn]
  | i + 1, f + 1, vol, num, k, hf, hk, h0, h1, h2, h3 => by
    rw [week_scan he hs (k := k) (by omega) (by omega) (by omega), issF_one p f vol num _ k (by omega) (by unfold dblB; rw [hd]; rfl)]
    rw [List.getElem?_cons_succ, week_at he hs hd i f _ _ (k + 1) (by omega) (by omega) h0 (by omega) (by omega) (by unfold volN; split <;> omega)]
    simp only [vn]
    congr 2
    omega
theorem w_nth (i : Nat) (hi : i ≤ 100) : nthR wP (i : Int) = (⟨(vn wP i 3 1).1, (vn wP i 3 1).2, 0, 46340 + 7 * (i : Int), 1, 0⟩, 0) := by
  have h := week_at (p := wP) rfl rfl rfl i 5000 3 1 0 (by omega) (by omega) (by decide) (by simp only [wP]; omega) (by omega) (by omega)
  unfold nthR
  rw [if_neg (by omega)]
  have e : (allI wP)[(i : Int).toNat]? = some ⟨(vn wP i 3 1).1, (vn wP i 3 1).2, 0, 46340 + 7 * (i : Int), 1, 0⟩ := by
    show (issF wP 5000 3 1 (scan wP 0))[i]? = _
    rw [h]
    simp only [wP]
    congr 2
    omega
  rw [e]
theorem w_nth0 : nthR wP 0 = (⟨3, 1, 0, 46340, 1, 0⟩, 0) := by rw [show (0 : Int) = ((0 : Nat) : Int) from rfl, w_nth 0 (by omega)]; rfl
theorem w_nth52 : nthR wP 52 = (⟨4, 1, 0, 46704, 1, 0⟩, 0) := by rw [show (52 : Int) = ((52 : Nat) : Int) from rfl, w_nth 52 (by omega)]; decide
theorem mon_ex {day n y m d : Int} (hp : partsP day = ⟨y, m, d⟩) (h : (0 ≤ day ∧ day ≤ 109572) ∧ -3600 ≤ n ∧ n ≤ 3600) (h2 : ¬ (12 * y + m - 1 + n < 22800 ∨ 26399 < 12 * y + m - 1 + n)) :
    monthsR day n = ofR ((12 * y + m - 1 + n) / 12) ((12 * y + m - 1 + n) % 12 + 1) (min d (mlenD ((12 * y + m - 1 + n) / 12) ((12 * y + m - 1 + n) % 12 + 1))) := by
  have hk : monK day n = 12 * y + m - 1 + n := by unfold monK; rw [hp]
  rw [months_c h (by rw [hk]; exact h2), hk, hp]
theorem mP_parts : partsP 46385 = ⟨2026, 12, 31⟩ := by
  have := parts_of (y := 2026) (m := 12) (d := 31) (by decide) (by decide)
  rw [show dayD 2026 12 31 = 46385 by decide] at this
  exact this
theorem m_nom (k : Int) (v : Int) (h0 : 0 ≤ k) (h1 : k ≤ 100) (hv : ofR ((12 * 2026 + 12 - 1 + k) / 12) ((12 * 2026 + 12 - 1 + k) % 12 + 1) (min 31 (mlenD ((12 * 2026 + 12 - 1 + k) / 12) ((12 * 2026 + 12 - 1 + k) % 12 + 1))) = (v, 0)) : nomO mP k = some v := by
  have hs : stepP mP = 1 := rfl
  have hm : monthsR 46385 (1 * k) = (v, 0) := by rw [mon_ex mP_parts (by omega) (by omega), Int.one_mul, hv]
  have h := nom_m1 (p := mP) (k := k) (by decide) (by rw [hs]; show (monthsR 46385 (1 * k)).2 = 0; rw [hm])
  rw [h, hs]
  show some (monthsR 46385 (1 * k)).1 = _
  rw [hm]
theorem m_month {d y m e : Int} (h : dayD y m e = d) (h1 : 1 ≤ e) (h2 : e ≤ mlenD y m) (hd : 0 ≤ d ∧ d ≤ 109572) : monthD d = m := by
  rw [monthD_of hd, ← h, parts_of h1 h2]
theorem mo12 : monthD 46385 = 12 := m_month (y := 2026) (m := 12) (e := 31) (by decide) (by decide) (by decide) (by decide)
theorem mo1 : monthD 46416 = 1 := m_month (y := 2027) (m := 1) (e := 31) (by decide) (by decide) (by decide) (by decide)
theorem mo2 : monthD 46444 = 2 := m_month (y := 2027) (m := 2) (e := 28) (by decide) (by decide) (by decide) (by decide)
theorem mo3 : monthD 46475 = 3 := m_month (y := 2027) (m := 3) (e := 31) (by decide) (by decide) (by decide) (by decide)
theorem mo4 : monthD 46505 = 4 := m_month (y := 2027) (m := 4) (e := 30) (by decide) (by decide) (by decide) (by decide)
theorem mo5 : monthD 46536 = 5 := m_month (y := 2027) (m := 5) (e := 31) (by decide) (by decide) (by decide) (by decide)
theorem mo6 : monthD 46566 = 6 := m_month (y := 2027) (m := 6) (e := 30) (by decide) (by decide) (by decide) (by decide)
theorem mo7 : monthD 46597 = 7 := m_month (y := 2027) (m := 7) (e := 31) (by decide) (by decide) (by decide) (by decide)
theorem mo8 : monthD 46628 = 8 := m_month (y := 2027) (m := 8) (e := 31) (by decide) (by decide) (by decide) (by decide)
theorem mo9 : monthD 46658 = 9 := m_month (y := 2027) (m := 9) (e := 30) (by decide) (by decide) (by decide) (by decide)
theorem mo10 : monthD 46689 = 10 := m_month (y := 2027) (m := 10) (e := 31) (by decide) (by decide) (by decide) (by decide)
theorem sc0 : scan mP 0 = (some 46385, 0) := scan_some (by decide) (m_nom 0 46385 (by decide) (by decide) (by decide)) (by rw [mo12]; decide)
theorem sc2 : scan mP 2 = (some 46444, 2) := scan_some (by decide) (m_nom 2 46444 (by decide) (by decide) (by decide)) (by rw [mo2]; decide)
theorem sc1 : scan mP 1 = (some 46444, 2) := by rw [scan_skip (by decide) (m_nom 1 46416 (by decide) (by decide) (by decide)) (by rw [mo1]; decide)]; exact sc2
theorem sc3 : scan mP 3 = (some 46475, 3) := scan_some (by decide) (m_nom 3 46475 (by decide) (by decide) (by decide)) (by rw [mo3]; decide)
theorem sc4 : scan mP 4 = (some 46505, 4) := scan_some (by decide) (m_nom 4 46505 (by decide) (by decide) (by decide)) (by rw [mo4]; decide)
theorem sc5 : scan mP 5 = (some 46536, 5) := scan_some (by decide) (m_nom 5 46536 (by decide) (by decide) (by decide)) (by rw [mo5]; decide)
theorem sc6 : scan mP 6 = (some 46566, 6) := scan_some (by decide) (m_nom 6 46566 (by decide) (by decide) (by decide)) (by rw [mo6]; decide)
theorem sc7 : scan mP 7 = (some 46597, 7) := scan_some (by decide) (m_nom 7 46597 (by decide) (by decide) (by decide)) (by rw [mo7]; decide)
theorem sc8 : scan mP 8 = (some 46628, 8) := scan_some (by decide) (m_nom 8 46628 (by decide) (by decide) (by decide)) (by rw [mo8]; decide)
theorem sc9 : scan mP 9 = (some 46658, 9) := scan_some (by decide) (m_nom 9 46658 (by decide) (by decide) (by decide)) (by rw [mo9]; decide)
theorem sc10 : scan mP 10 = (some 46689, 10) := scan_some (by decide) (m_nom 10 46689 (by decide) (by decide) (by decide)) (by rw [mo10]; decide)
theorem one_m (f : Nat) (num d k : Int) (s : Option Int × Int) (hsc : scan mP (k + 1) = s) (hm : mP.dbl.contains (monthD d) = false) (hn : num + 1 ≤ 12) : issF mP (f + 1) 1 num (some d, k) = ⟨1, num, 0, d, 1, 0⟩ :: issF mP f 1 (num + 1) s := by
  rw [issF_one mP f 1 num d k (by decide) (by unfold dblB; rw [hm]; rfl), hsc]
  rw [show volN mP 1 (num + 1) = 1 from if_neg (by show ¬ (12 : Int) < num + 1; omega), show numN mP (num + 1) = num + 1 from if_neg (by show ¬ (12 : Int) < num + 1; omega)]
theorem m_list : ∃ t, allI mP = ⟨1, 1, 0, 46385, 1, 0⟩ :: ⟨1, 2, 0, 46444, 1, 0⟩ :: ⟨1, 3, 0, 46475, 1, 0⟩ :: ⟨1, 4, 0, 46505, 1, 0⟩ :: ⟨1, 5, 0, 46536, 1, 0⟩ :: ⟨1, 6, 0, 46566, 1, 0⟩ :: ⟨1, 7, 8, 46597, 1, 0⟩ :: ⟨1, 9, 0, 46658, 1, 0⟩ :: t := by
  have e : allI mP = issF mP 5000 1 1 (some 46385, 0) := by unfold allI; rw [sc0]; rfl
  refine ⟨issF mP 4992 1 10 (some 46689, 10), ?_⟩
  rw [e, one_m 4999 1 _ 0 _ sc1 (by rw [mo12]; decide) (by decide), one_m 4998 (1 + 1) _ 2 _ sc3 (by rw [mo2]; decide) (by decide), one_m 4997 (1 + 1 + 1) _ 3 _ sc4 (by rw [mo3]; decide) (by decide), one_m 4996 (1 + 1 + 1 + 1) _ 4 _ sc5 (by rw [mo4]; decide) (by decide),
    one_m 4995 (1 + 1 + 1 + 1 + 1) _ 5 _ sc6 (by rw [mo5]; decide) (by decide), one_m 4994 (1 + 1 + 1 + 1 + 1 + 1) _ 6 _ sc7 (by rw [mo6]; decide) (by decide)]
  rw [issF_dbl mP 4993 1 _ 46597 7 (by decide) (by unfold dblB; rw [mo7, show (7 : Int) + 1 = 8 from rfl, sc8]; decide)]
  rw [show (7 : Int) + 1 = 8 from rfl, sc8, show ((some (46628 : Int), (8 : Int)) : Option Int × Int).2 + 1 = 9 from rfl, sc9]
  rw [show volN mP 1 (1 + 1 + 1 + 1 + 1 + 1 + 1 + 2) = 1 from by decide, show numN mP (1 + 1 + 1 + 1 + 1 + 1 + 1 + 2) = 9 from by decide]
  rw [one_m 4992 9 _ 9 _ sc10 (by rw [mo9]; decide) (by decide)]
  rfl
theorem m_nth1 : nthR mP 1 = (⟨1, 2, 0, 46444, 1, 0⟩, 0) := by obtain ⟨t, h⟩ := m_list; unfold nthR; rw [h]; rfl
theorem m_nth6 : nthR mP 6 = (⟨1, 7, 8, 46597, 1, 0⟩, 0) := by obtain ⟨t, h⟩ := m_list; unfold nthR; rw [h]; rfl
theorem m_nth7 : nthR mP 7 = (⟨1, 9, 0, 46658, 1, 0⟩, 0) := by obtain ⟨t, h⟩ := m_list; unfold nthR; rw [h]; rfl
theorem lab78 : labelR ⟨1, 7, 8, 46597, 1, 0⟩ = [118, 46, 49, 32, 110, 111, 46, 55, 45, 56] := by
  unfold labelR
  simp only
  rw [itoa_small (n := 1) (by decide) (by decide), itoa_small (n := 7) (by decide) (by decide), itoa_small (n := 8) (by decide) (by decide)]
  rfl
end Pl

/- Patterns of serials: the document's list of issues. -/
namespace Pl
open Go Ab
set_option linter.unusedVariables false
set_option linter.unusedSimpArgs false
noncomputable def issR (p : Pat) (most unt : Int) : List Iss := ((allI p).take (min most 5000).toNat).takeWhile fun x => decide (x.day ≤ unt)
def IssI (p : Pat) (most unt : Int) (pre : List Iss) (f : Nat) (vol num : Int) (s : Option Int × Int) : Prop :=
  allI p = pre ++ issF p f vol num s ∧ pre.length + f = 5000 ∧ (∀ x ∈ pre, x.day ≤ unt) ∧ (pre.length : Int) ≤ max 0 (min most 5000) ∧ (1 ≤ vol ∧ vol ≤ 10000) ∧ (1 ≤ num ∧ num ≤ p.per) ∧ (∀ d, s.1 = some d → (0 ≤ d ∧ d ≤ 109572) ∧ 0 ≤ s.2 ∧ s.2 < 16000)
theorem issI_start {p : Pat} (hp : PatOk p) (most unt : Int) : IssI p most unt [] 5000 p.first 1 (scan p 0) := by
  have a := hp.2.2.1; have b := hp.2.2.2
  exact ⟨rfl, rfl, by simp, by simp; omega, by omega, by omega, fun d h => by have := scan_at hp (k := 0) (by omega) (by omega) h; omega⟩
theorem issI_one {p : Pat} (hp : PatOk p) {most unt : Int} {pre : List Iss} {f : Nat} {vol num d k : Int} (h : IssI p most unt pre f vol num (some d, k)) (h1 : (pre.length : Int) < min most 5000) (h2 : d ≤ unt) (h3 : vol ≤ 9999) (hd : dblB p num d (scan p (k + 1)) = false) :
    IssI p most unt (pre ++ [⟨vol, num, 0, d, 1, 0⟩]) (f - 1) (volN p vol (num + 1)) (numN p (num + 1)) (scan p (k + 1)) ∧ 1 ≤ f := by
  obtain ⟨e, hl, ha, hm, hv, hn, hs⟩ := h
  obtain ⟨hd0, hk0, hk1⟩ := hs d rfl
  simp only at hk0 hk1
  obtain ⟨g, rfl⟩ : ∃ g, f = g + 1 := ⟨f - 1, by omega⟩
  rw [issF_one p g vol num d k h3 hd] at e
  refine ⟨⟨by rw [e]; simp, by simp; omega, fun x hx => ?_, by simp; omega, volN_rng ⟨hv.1, h3⟩, numN_rng (by omega) hp.2.2.1.1, fun d2 h => by have := scan_at hp (k := k + 1) (by omega) (by omega) h; omega⟩, by omega⟩
  rcases List.mem_append.1 hx with hx | hx
  · exact ha x hx
  · simp at hx; subst hx; exact h2
theorem issI_dbl {p : Pat} (hp : PatOk p) {most unt : Int} {pre : List Iss} {f : Nat} {vol num d k : Int} (h : IssI p most unt pre f vol num (some d, k)) (h1 : (pre.length : Int) < min most 5000) (h2 : d ≤ unt) (h3 : vol ≤ 9999) (hd : dblB p num d (scan p (k + 1)) = true) :
    IssI p most unt (pre ++ [⟨vol, num, num + 1, d, 1, 0⟩]) (f - 1) (volN p vol (num + 2)) (numN p (num + 2)) (scan p ((scan p (k + 1)).2 + 1)) ∧ 1 ≤ f := by
  obtain ⟨e, hl, ha, hm, hv, hn, hs⟩ := h
  obtain ⟨hd0, hk0, hk1⟩ := hs d rfl
  simp only at hk0 hk1
  obtain ⟨g, rfl⟩ : ∃ g, f = g + 1 := ⟨f - 1, by omega⟩
  rw [issF_dbl p g vol num d k h3 hd] at e
  have hso : (scan p (k + 1)).1.isSome = true := by unfold dblB at hd; simp at hd; exact hd.2
  obtain ⟨d2, hd2⟩ := Option.isSome_iff_exists.1 hso
  have a := scan_at hp (k := k + 1) (by omega) (by omega) hd2
  refine ⟨⟨by rw [e]; simp, by simp; omega, fun x hx => ?_, by simp; omega, volN_rng ⟨hv.1, h3⟩, numN_rng (by omega) hp.2.2.1.1, fun d2 h => by have := scan_at hp (k := (scan p (k + 1)).2 + 1) (by omega) (by omega) h; omega⟩, by omega⟩
  rcases List.mem_append.1 hx with hx | hx
  · exact ha x hx
  · simp at hx; subst hx; exact h2
theorem pre_take {p : Pat} {pre r : List Iss} (e : allI p = pre ++ r) {n : Nat} (h : pre.length ≤ n) : (allI p).take n = pre ++ r.take (n - pre.length) := by
  rw [e, List.take_append]; congr 1; exact List.take_of_length_le h
theorem issI_done {p : Pat} {most unt : Int} {pre : List Iss} {f : Nat} {vol num : Int} {s : Option Int × Int} (h : IssI p most unt pre f vol num s)
    (hx : ¬ ((((pre.length : Int) < min most 5000 ∧ 0 ≤ s.1.getD (-1)) ∧ s.1.getD (-1) ≤ unt) ∧ vol ≤ 9999)) : issR p most unt = pre := by
  obtain ⟨e, hl, ha, hm, hv, hn, hs⟩ := h
  have hpl : pre.length ≤ (min most 5000).toNat := by omega
  unfold issR
  rw [pre_take e hpl, List.takeWhile_append_of_pos (fun x hx => by simpa using ha x hx)]
  have key : ((issF p f vol num s).take ((min most 5000).toNat - pre.length)).takeWhile (fun x => decide (x.day ≤ unt)) = [] := by
    by_cases c1 : (pre.length : Int) < min most 5000
    · match s, hs with
      | (none, k), _ => rw [issF_none]; simp
      | (some d, k), hs =>
        by_cases c2 : vol ≤ 9999
        · have hd := hs d rfl
          have c3 : ¬ d ≤ unt := fun h3 => hx ⟨⟨⟨c1, by show 0 ≤ d; omega⟩, h3⟩, c2⟩
          obtain ⟨g, rfl⟩ : ∃ g, f = g + 1 := ⟨f - 1, by omega⟩
          obtain ⟨m, hm2⟩ : ∃ m, (min most 5000).toNat - pre.length = m + 1 := ⟨(min most 5000).toNat - pre.length - 1, by omega⟩
          rw [hm2]
          cases hb : dblB p num d (scan p (k + 1)) with
          | true => rw [issF_dbl p g vol num d k c2 hb, List.take_succ_cons, List.takeWhile_cons, if_neg (by simpa using c3)]
          | false => rw [issF_one p g vol num d k c2 hb, List.take_succ_cons, List.takeWhile_cons, if_neg (by simpa using c3)]
        · rw [issF_vol p _ _ _ _ c2]; simp
    · rw [show (min most 5000).toNat - pre.length = 0 by omega]; simp
  rw [key, List.append_nil]
theorem scan_neg {p : Pat} (hp : PatOk p) {k : Int} (h0 : 0 ≤ k) (h1 : k ≤ 16000) : (0 ≤ (scan p k).1.getD (-1)) ↔ (scan p k).1.isSome = true := by
  cases h : (scan p k).1 with
  | none => simp
  | some d => have := scan_at hp h0 h1 h; simp; omega
theorem dbl_iff {p : Pat} (hp : PatOk p) {num d k : Int} (h0 : 0 ≤ k) (h1 : k ≤ 16000) : dblB p num d (scan p k) = true ↔ (p.dbl.contains (monthD d) = true ∧ 0 ≤ (scan p k).1.getD (-1)) ∧ num < p.per := by
  rw [scan_neg hp h0 h1]; unfold dblB; simp only [Bool.and_eq_true, decide_eq_true_eq]
  constructor
  · rintro ⟨⟨a, b⟩, c⟩; exact ⟨⟨a, c⟩, b⟩
  · rintro ⟨⟨a, c⟩, b⟩; exact ⟨⟨a, b⟩, c⟩
end Pl

/- Patterns of serials: the document's n-th issue. -/
namespace Pl
open Go Ab
set_option linter.unusedVariables false
set_option linter.unusedSimpArgs false
theorem nth_out {p : Pat} {n : Int} (hp : PatOk p) (h : n < 0 ∨ 4999 < n) : nthR p n = (zIss, 2) := nth_miss (by have := allI_len p; omega)
theorem allI_day {p : Pat} (hp : PatOk p) : ∀ x ∈ allI p, x.day ≤ 109572 := fun x hx => (allI_rng hp hx).2.2.2.1.2
/-- up to the last day: all of them -/
theorem iss_nth {p : Pat} {n : Int} (hp : PatOk p) (h : 0 ≤ n ∧ n ≤ 4999) : issR p (n + 1) 109572 = (allI p).take (n.toNat + 1) := by
  unfold issR
  rw [takeWhile_all (fun x hx => by simpa using allI_day hp x (List.mem_of_mem_take hx)), show (min (n + 1) 5000).toNat = n.toNat + 1 by omega]
theorem nth_short {p : Pat} {n : Int} (h : 0 ≤ n) (hl : ((allI p).take (n.toNat + 1)).length ≤ n.toNat) : nthR p n = (zIss, 2) := nth_miss (by rw [List.length_take] at hl; omega)
theorem nth_get {p : Pat} {n : Int} (h : 0 ≤ n) (hl : n.toNat < ((allI p).take (n.toNat + 1)).length) : ∃ x, ((allI p).take (n.toNat + 1))[n.toNat]? = some x ∧ nthR p n = (x, 0) := by
  rw [List.length_take] at hl
  obtain ⟨x, hx⟩ : ∃ x, (allI p)[n.toNat]? = some x := ⟨_, List.getElem?_eq_getElem (by omega)⟩
  refine ⟨x, by rw [List.getElem?_take, if_pos (by omega), hx], ?_⟩
  unfold nthR
  rw [if_neg (by omega), hx]
theorem nth_get2 {p : Pat} {n : Int} (h : 0 ≤ n) (hl : n < (allI p).length) : ∃ x, (allI p)[n.toNat]? = some x ∧ nthR p n = (x, 0) := by
  obtain ⟨x, hx⟩ : ∃ x, (allI p)[n.toNat]? = some x := ⟨_, List.getElem?_eq_getElem (by omega)⟩
  refine ⟨x, hx, ?_⟩
  unfold nthR
  rw [if_neg (by omega), hx]
theorem nth_1 {p : Pat} (hp : PatOk p) (n : Int) : (-9223372036854775808 ≤ (nthR p n).1.vol ∧ (nthR p n).1.vol ≤ 9223372036854775807) = True := eq_true (by have := (nth_sm hp n).1; unfold IssSm at this; omega)
end Pl

/- Patterns of serials: the document's lists. -/
namespace Pl
open Go Ab
set_option linter.unusedVariables false
set_option linter.unusedSimpArgs false
theorem iss_all {p : Pat} (hp : PatOk p) : issR p 5000 109572 = allI p := by
  unfold issR
  rw [takeWhile_all (fun x hx => by simpa using allI_day hp x (List.mem_of_mem_take hx)), show (min (5000 : Int) 5000).toNat = 5000 by decide]
  exact List.take_of_length_le (allI_len p)
theorem iss_until {p : Pat} (hp : PatOk p) (day : Int) : ((issR p 5000 (min day 109572)).length : Int) = untilR p day := by
  have e : (allI p).take (min (5000 : Int) 5000).toNat = allI p := List.take_of_length_le (by have := allI_len p; omega)
  have key : ∀ l : List Iss, (∀ x ∈ l, x.day ≤ 109572) → l.takeWhile (fun x => decide (x.day ≤ min day 109572)) = l.takeWhile fun x => decide (x.day ≤ day) := by
    intro l
    induction l with
    | nil => intro _; rfl
    | cons x l ih =>
      intro h
      have hx := h x (by simp)
      rw [List.takeWhile_cons, List.takeWhile_cons, ih fun y hy => h y (by simp [hy]), show decide (x.day ≤ min day 109572) = decide (x.day ≤ day) from decide_eq_decide.2 (by omega)]
  unfold issR untilR
  rw [e, key _ (allI_day hp)]
def lsF (fr n : Int) : Int × List Iss → List Iss → List Iss
  | (_, o), [] => o
  | (i, o), x :: l => lsF fr n (i + 1, if fr ≤ i ∧ i - fr < n then o ++ [x] else o) l
theorem lsF_in (fr n : Int) : ∀ (l : List Iss) (i : Int) (o : List Iss), fr ≤ i → lsF fr n (i, o) l = o ++ l.take (n - (i - fr)).toNat
  | [], i, o, _ => by simp [lsF]
  | x :: l, i, o, h => by
    rw [lsF, lsF_in fr n l (i + 1) _ (by omega)]
    by_cases hc : i - fr < n
    · rw [if_pos ⟨h, hc⟩, show (n - (i - fr)).toNat = (n - (i + 1 - fr)).toNat + 1 by omega, List.take_succ_cons]; simp
    · rw [if_neg (by omega), show (n - (i + 1 - fr)).toNat = 0 by omega, show (n - (i - fr)).toNat = 0 by omega]; simp
theorem lsF_all (fr n : Int) : ∀ (l : List Iss) (i : Int) (o : List Iss), i ≤ fr → lsF fr n (i, o) l = o ++ (l.drop (fr - i).toNat).take n.toNat
  | [], i, o, _ => by simp [lsF]
  | x :: l, i, o, h => by
    by_cases he : i = fr
    · subst he
      rw [lsF_in i n (x :: l) i o (Int.le_refl _)]
      simp
    · rw [lsF, if_neg (by omega), lsF_all fr n l (i + 1) o (by omega), show (fr - i).toNat = (fr - (i + 1)).toNat + 1 by omega, List.drop_succ_cons]
def frR (fr : Int) : Int := if fr < 0 then 0 else fr
def nR (fr n : Int) : Int := if fr < 0 then n + fr else n
theorem list_ls {p : Pat} {fr n : Int} (h : ¬ n < 1) : lsF (frR fr) (nR fr n) (0, []) (allI p) = listR p fr n := by
  rw [lsF_all _ _ _ _ _ (by unfold frR; split <;> omega)]
  unfold listR frR nR
  rw [if_neg h]
  split
  · simp
  · simp
def samF : List Iss → List Iss → Bool
  | _, [] => true
  | [], _ :: _ => false
  | y :: b, x :: a => if x = y then samF b a else false
theorem samF_eq : ∀ (a b : List Iss), a.length = b.length → samF b a = decide (a = b)
  | [], [], _ => by simp [samF]
  | x :: a, y :: b, h => by
    rw [samF, samF_eq a b (by simpa using h)]
    by_cases hxy : x = y
    · subst hxy; simp
    · simp [hxy]
theorem iss_eq (x y : Iss) : x = y ↔ ((((x.vol = y.vol ∧ x.num = y.num) ∧ x.last = y.last) ∧ x.day = y.day) ∧ x.st = y.st) ∧ x.item = y.item := by
  cases x; cases y; simp [and_assoc]
theorem list_len (p : Pat) (fr n : Int) : (listR p fr n).length ≤ 5000 := by
  have := allI_len p
  unfold listR
  split
  · simp
  · split
    · rw [List.length_take]; omega
    · rw [List.length_take, List.length_drop]; omega
end Pl
