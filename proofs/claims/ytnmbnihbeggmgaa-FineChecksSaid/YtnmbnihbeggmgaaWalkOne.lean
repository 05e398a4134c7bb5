/-
  What the functions compute that the statement reaches: contracts, and the plain laws between them. Conditions stand at each theorem.
-/
import Derived.Test.YtnmbnihbeggmgaaEngTwo
import Derived.Test.YtnmbnihbeggmgaaChecked
set_option linter.unusedVariables false
set_option linter.unusedSimpArgs false
/- The types of this seat, as the layer reads them. -/
set_option maxRecDepth 100000
namespace Go.Proofs.Ytnmbnihbeggmgaa
open Go Ab

abbrev ti2 : TI := { key := .int .i64, size := 1, bytes := 8, zero := .int .i64 0, zc := [.int .i64 0], eq := [] }
abbrev ti3 : TI := { key := .int .i64, size := 1, bytes := 8, zero := .int .i64 0, zc := [.int .i64 0], eq := [] }
abbrev ti4 : TI := { key := .bool, size := 1, bytes := 1, zero := .bool false, zc := [.bool false], eq := [] }
abbrev ti5 : TI := { key := .int .u8, size := 1, bytes := 1, zero := .int .u8 0, zc := [.int .u8 0], eq := [] }
abbrev ti9 : TI := { key := .string, size := 1, bytes := 16, zero := .string ⟨#[]⟩, zc := [.str []], eq := [] }
abbrev ti12 : TI := { key := .int .u64, size := 1, bytes := 8, zero := .int .u64 0, zc := [.int .u64 0], eq := [] }
abbrev ti15 : TI := { key := .other, size := 1, bytes := 8, zero := .pointer none, zc := [.lit (.pointer none)], eq := [] }
abbrev ti16 : TI := { key := .other, size := 1, bytes := 8, zero := .pointer none, zc := [.lit (.pointer none)], eq := [] }
abbrev ti17 : TI := { key := .other, size := 1, bytes := 8, zero := .pointer none, zc := [.lit (.pointer none)], eq := [] }
abbrev ti21 : TI := { key := .int .i32, size := 1, bytes := 4, zero := .int .i32 0, zc := [.int .i32 0], eq := [] }
abbrev ti22 : TI := { key := .struct [(0, 3), (1, 3), (2, 3), (3, 3), (4, 3), (5, 3), (6, 3), (7, 3), (8, 3), (9, 3), (10, 3), (11, 3), (12, 3)], size := 13, bytes := 104, zero := .agg #[.int .i64 0, .int .i64 0, .int .i64 0, .int .i64 0, .int .i64 0, .int .i64 0, .int .i64 0, .int .i64 0, .int .i64 0, .int .i64 0, .int .i64 0, .int .i64 0, .int .i64 0], zc := [.int .i64 0, .int .i64 0, .int .i64 0, .int .i64 0, .int .i64 0, .int .i64 0, .int .i64 0, .int .i64 0, .int .i64 0, .int .i64 0, .int .i64 0, .int .i64 0, .int .i64 0], eq := [0, 0, 0, 0, 0, 0, 0, 0, 0, 0, 0, 0, 0] }
abbrev ti23 : TI := { key := .struct [(0, 3), (1, 3), (2, 3), (3, 3), (4, 3), (5, 3), (6, 3), (7, 3), (8, 3), (9, 3), (10, 3), (11, 3), (12, 3)], size := 13, bytes := 104, zero := .agg #[.int .i64 0, .int .i64 0, .int .i64 0, .int .i64 0, .int .i64 0, .int .i64 0, .int .i64 0, .int .i64 0, .int .i64 0, .int .i64 0, .int .i64 0, .int .i64 0, .int .i64 0], zc := [.int .i64 0, .int .i64 0, .int .i64 0, .int .i64 0, .int .i64 0, .int .i64 0, .int .i64 0, .int .i64 0, .int .i64 0, .int .i64 0, .int .i64 0, .int .i64 0, .int .i64 0], eq := [0, 0, 0, 0, 0, 0, 0, 0, 0, 0, 0, 0, 0] }
abbrev ti24 : TI := { key := .slice 3, size := 1, bytes := 24, zero := .slice none 0 0, zc := [.slice (.int .i64 0) []], eq := [] }
abbrev ti25 : TI := { key := .struct [(0, 3), (1, 24)], size := 2, bytes := 32, zero := .agg #[.int .i64 0, .slice none 0 0], zc := [.int .i64 0, .slice (.int .i64 0) []], eq := [] }
abbrev ti26 : TI := { key := .struct [(0, 3), (1, 24)], size := 2, bytes := 32, zero := .agg #[.int .i64 0, .slice none 0 0], zc := [.int .i64 0, .slice (.int .i64 0) []], eq := [] }
abbrev ti31 : TI := { key := .slice 44, size := 1, bytes := 24, zero := .slice none 0 0, zc := [.slice (.agg [.int .i64 0, .int .i64 0, .int .i64 0, .int .i64 0, .int .i64 0, .int .i64 0, .int .i64 0]) []], eq := [] }
abbrev ti32 : TI := { key := .int .i64, size := 1, bytes := 8, zero := .int .i64 0, zc := [.int .i64 0], eq := [] }
abbrev ti43 : TI := { key := .struct [(0, 3), (1, 3), (2, 3), (3, 3), (4, 3), (5, 3), (6, 3)], size := 7, bytes := 56, zero := .agg #[.int .i64 0, .int .i64 0, .int .i64 0, .int .i64 0, .int .i64 0, .int .i64 0, .int .i64 0], zc := [.int .i64 0, .int .i64 0, .int .i64 0, .int .i64 0, .int .i64 0, .int .i64 0, .int .i64 0], eq := [0, 0, 0, 0, 0, 0, 0] }
abbrev ti44 : TI := { key := .struct [(0, 3), (1, 3), (2, 3), (3, 3), (4, 3), (5, 3), (6, 3)], size := 7, bytes := 56, zero := .agg #[.int .i64 0, .int .i64 0, .int .i64 0, .int .i64 0, .int .i64 0, .int .i64 0, .int .i64 0], zc := [.int .i64 0, .int .i64 0, .int .i64 0, .int .i64 0, .int .i64 0, .int .i64 0, .int .i64 0], eq := [0, 0, 0, 0, 0, 0, 0] }
abbrev ti45 : TI := { key := .array 2 3, size := 2, bytes := 16, zero := .agg #[.int .i64 0, .int .i64 0], zc := [.int .i64 0, .int .i64 0], eq := [] }
abbrev ti58 : TI := { key := .array 7 4, size := 7, bytes := 7, zero := .agg #[.bool false, .bool false, .bool false, .bool false, .bool false, .bool false, .bool false], zc := [.bool false, .bool false, .bool false, .bool false, .bool false, .bool false, .bool false], eq := [] }
abbrev ti71 : TI := { key := .int .u32, size := 1, bytes := 4, zero := .int .u32 0, zc := [.int .u32 0], eq := [] }
abbrev ti75 : TI := { key := .other, size := 1, bytes := 8, zero := .pointer none, zc := [.lit (.pointer none)], eq := [] }
def tab : TypeId → Option TI
  | 2 => some ti2
  | 3 => some ti3
  | 4 => some ti4
  | 5 => some ti5
  | 9 => some ti9
  | 12 => some ti12
  | 15 => some ti15
  | 16 => some ti16
  | 17 => some ti17
  | 21 => some ti21
  | 22 => some ti22
  | 23 => some ti23
  | 24 => some ti24
  | 25 => some ti25
  | 26 => some ti26
  | 31 => some ti31
  | 32 => some ti32
  | 43 => some ti43
  | 44 => some ti44
  | 45 => some ti45
  | 58 => some ti58
  | 71 => some ti71
  | 75 => some ti75
  | _ => none
noncomputable def E : Env := { P := Try.prog, tab := tab }
theorem tyok2 : TyOk Try.prog 2 ti2 where
  key := by kernel_rfl
  info := by kernel_rfl
  zc := by kernel_rfl
  zok := by kernel_rfl
  len := by kernel_rfl
  one := fun _ => rfl
  zero_slice := fun _ h => by cases h
  eq := fun h => absurd rfl h
theorem tyok3 : TyOk Try.prog 3 ti3 where
  key := by kernel_rfl
  info := by kernel_rfl
  zc := by kernel_rfl
  zok := by kernel_rfl
  len := by kernel_rfl
  one := fun _ => rfl
  zero_slice := fun _ h => by cases h
  eq := fun h => absurd rfl h
theorem tyok4 : TyOk Try.prog 4 ti4 where
  key := by kernel_rfl
  info := by kernel_rfl
  zc := by kernel_rfl
  zok := by kernel_rfl
  len := by kernel_rfl
  one := fun _ => rfl
  zero_slice := fun _ h => by cases h
  eq := fun h => absurd rfl h
theorem tyok5 : TyOk Try.prog 5 ti5 where
  key := by kernel_rfl
  info := by kernel_rfl
  zc := by kernel_rfl
  zok := by kernel_rfl
  len := by kernel_rfl
  one := fun _ => rfl
  zero_slice := fun _ h => by cases h
  eq := fun h => absurd rfl h
theorem tyok9 : TyOk Try.prog 9 ti9 where
  key := by kernel_rfl
  info := by kernel_rfl
  zc := by kernel_rfl
  zok := by kernel_rfl
  len := by kernel_rfl
  one := fun _ => rfl
  zero_slice := fun _ h => by cases h
  eq := fun h => absurd rfl h
theorem tyok12 : TyOk Try.prog 12 ti12 where
  key := by kernel_rfl
  info := by kernel_rfl
  zc := by kernel_rfl
  zok := by kernel_rfl
  len := by kernel_rfl
  one := fun _ => rfl
  zero_slice := fun _ h => by cases h
  eq := fun h => absurd rfl h
theorem tyok15 : TyOk Try.prog 15 ti15 where
  key := by kernel_rfl
  info := by kernel_rfl
  zc := by kernel_rfl
  zok := by kernel_rfl
  len := by kernel_rfl
  one := fun _ => rfl
  zero_slice := fun _ h => by cases h
  eq := fun h => absurd rfl h
theorem tyok16 : TyOk Try.prog 16 ti16 where
  key := by kernel_rfl
  info := by kernel_rfl
  zc := by kernel_rfl
  zok := by kernel_rfl
  len := by kernel_rfl
  one := fun _ => rfl
  zero_slice := fun _ h => by cases h
  eq := fun h => absurd rfl h
theorem tyok17 : TyOk Try.prog 17 ti17 where
  key := by kernel_rfl
  info := by kernel_rfl
  zc := by kernel_rfl
  zok := by kernel_rfl
  len := by kernel_rfl
  one := fun _ => rfl
  zero_slice := fun _ h => by cases h
  eq := fun h => absurd rfl h
theorem tyok21 : TyOk Try.prog 21 ti21 where
  key := by kernel_rfl
  info := by kernel_rfl
  zc := by kernel_rfl
  zok := by kernel_rfl
  len := by kernel_rfl
  one := fun _ => rfl
  zero_slice := fun _ h => by cases h
  eq := fun h => absurd rfl h
theorem tyok22 : TyOk Try.prog 22 ti22 where
  key := by kernel_rfl
  info := by kernel_rfl
  zc := by kernel_rfl
  zok := by kernel_rfl
  len := by kernel_rfl
  one := fun h => by cases h
  zero_slice := fun _ h => by cases h
  eq := fun _ => ⟨by kernel_rfl, by kernel_rfl, by kernel_rfl⟩
theorem tyok23 : TyOk Try.prog 23 ti23 where
  key := by kernel_rfl
  info := by kernel_rfl
  zc := by kernel_rfl
  zok := by kernel_rfl
  len := by kernel_rfl
  one := fun h => by cases h
  zero_slice := fun _ h => by cases h
  eq := fun _ => ⟨by kernel_rfl, by kernel_rfl, by kernel_rfl⟩
theorem tyok24 : TyOk Try.prog 24 ti24 where
  key := by kernel_rfl
  info := by kernel_rfl
  zc := by kernel_rfl
  zok := by kernel_rfl
  len := by kernel_rfl
  one := fun _ => rfl
  zero_slice := fun _ _ => rfl
  eq := fun h => absurd rfl h
theorem tyok25 : TyOk Try.prog 25 ti25 where
  key := by kernel_rfl
  info := by kernel_rfl
  zc := by kernel_rfl
  zok := by kernel_rfl
  len := by kernel_rfl
  one := fun h => by cases h
  zero_slice := fun _ h => by cases h
  eq := fun h => absurd rfl h
theorem tyok26 : TyOk Try.prog 26 ti26 where
  key := by kernel_rfl
  info := by kernel_rfl
  zc := by kernel_rfl
  zok := by kernel_rfl
  len := by kernel_rfl
  one := fun h => by cases h
  zero_slice := fun _ h => by cases h
  eq := fun h => absurd rfl h
theorem tyok31 : TyOk Try.prog 31 ti31 where
  key := by kernel_rfl
  info := by kernel_rfl
  zc := by kernel_rfl
  zok := by kernel_rfl
  len := by kernel_rfl
  one := fun _ => rfl
  zero_slice := fun _ _ => rfl
  eq := fun h => absurd rfl h
theorem tyok32 : TyOk Try.prog 32 ti32 where
  key := by kernel_rfl
  info := by kernel_rfl
  zc := by kernel_rfl
  zok := by kernel_rfl
  len := by kernel_rfl
  one := fun _ => rfl
  zero_slice := fun _ h => by cases h
  eq := fun h => absurd rfl h
theorem tyok43 : TyOk Try.prog 43 ti43 where
  key := by kernel_rfl
  info := by kernel_rfl
  zc := by kernel_rfl
  zok := by kernel_rfl
  len := by kernel_rfl
  one := fun h => by cases h
  zero_slice := fun _ h => by cases h
  eq := fun _ => ⟨by kernel_rfl, by kernel_rfl, by kernel_rfl⟩
theorem tyok44 : TyOk Try.prog 44 ti44 where
  key := by kernel_rfl
  info := by kernel_rfl
  zc := by kernel_rfl
  zok := by kernel_rfl
  len := by kernel_rfl
  one := fun h => by cases h
  zero_slice := fun _ h => by cases h
  eq := fun _ => ⟨by kernel_rfl, by kernel_rfl, by kernel_rfl⟩
theorem tyok45 : TyOk Try.prog 45 ti45 where
  key := by kernel_rfl
  info := by kernel_rfl
  zc := by kernel_rfl
  zok := by kernel_rfl
  len := by kernel_rfl
  one := fun h => by cases h
  zero_slice := fun _ h => by cases h
  eq := fun h => absurd rfl h
theorem tyok58 : TyOk Try.prog 58 ti58 where
  key := by kernel_rfl
  info := by kernel_rfl
  zc := by kernel_rfl
  zok := by kernel_rfl
  len := by kernel_rfl
  one := fun h => by cases h
  zero_slice := fun _ h => by cases h
  eq := fun h => absurd rfl h
theorem tyok71 : TyOk Try.prog 71 ti71 where
  key := by kernel_rfl
  info := by kernel_rfl
  zc := by kernel_rfl
  zok := by kernel_rfl
  len := by kernel_rfl
  one := fun _ => rfl
  zero_slice := fun _ h => by cases h
  eq := fun h => absurd rfl h
theorem tyok75 : TyOk Try.prog 75 ti75 where
  key := by kernel_rfl
  info := by kernel_rfl
  zc := by kernel_rfl
  zok := by kernel_rfl
  len := by kernel_rfl
  one := fun _ => rfl
  zero_slice := fun _ h => by cases h
  eq := fun h => absurd rfl h
theorem E_ok : E.Ok := by
  refine ⟨by kernel_rfl, fun t ti h => ?_⟩
  change tab t = some ti at h
  unfold tab at h
  split at h
  · cases h; exact tyok2
  · cases h; exact tyok3
  · cases h; exact tyok4
  · cases h; exact tyok5
  · cases h; exact tyok9
  · cases h; exact tyok12
  · cases h; exact tyok15
  · cases h; exact tyok16
  · cases h; exact tyok17
  · cases h; exact tyok21
  · cases h; exact tyok22
  · cases h; exact tyok23
  · cases h; exact tyok24
  · cases h; exact tyok25
  · cases h; exact tyok26
  · cases h; exact tyok31
  · cases h; exact tyok32
  · cases h; exact tyok43
  · cases h; exact tyok44
  · cases h; exact tyok45
  · cases h; exact tyok58
  · cases h; exact tyok71
  · cases h; exact tyok75
  · cases h
@[simp] theorem tab2 : E.tab 2 = some { key := .int .i64, size := 1, bytes := 8, zero := .int .i64 0, zc := [.int .i64 0], eq := [] } := rfl
@[simp] theorem tab3 : E.tab 3 = some { key := .int .i64, size := 1, bytes := 8, zero := .int .i64 0, zc := [.int .i64 0], eq := [] } := rfl
@[simp] theorem tab4 : E.tab 4 = some { key := .bool, size := 1, bytes := 1, zero := .bool false, zc := [.bool false], eq := [] } := rfl
@[simp] theorem tab5 : E.tab 5 = some { key := .int .u8, size := 1, bytes := 1, zero := .int .u8 0, zc := [.int .u8 0], eq := [] } := rfl
@[simp] theorem tab9 : E.tab 9 = some { key := .string, size := 1, bytes := 16, zero := .string ⟨#[]⟩, zc := [.str []], eq := [] } := rfl
@[simp] theorem tab12 : E.tab 12 = some { key := .int .u64, size := 1, bytes := 8, zero := .int .u64 0, zc := [.int .u64 0], eq := [] } := rfl
@[simp] theorem tab15 : E.tab 15 = some { key := .other, size := 1, bytes := 8, zero := .pointer none, zc := [.lit (.pointer none)], eq := [] } := rfl
@[simp] theorem tab16 : E.tab 16 = some { key := .other, size := 1, bytes := 8, zero := .pointer none, zc := [.lit (.pointer none)], eq := [] } := rfl
@[simp] theorem tab17 : E.tab 17 = some { key := .other, size := 1, bytes := 8, zero := .pointer none, zc := [.lit (.pointer none)], eq := [] } := rfl
@[simp] theorem tab21 : E.tab 21 = some { key := .int .i32, size := 1, bytes := 4, zero := .int .i32 0, zc := [.int .i32 0], eq := [] } := rfl
@[simp] theorem tab22 : E.tab 22 = some { key := .struct [(0, 3), (1, 3), (2, 3), (3, 3), (4, 3), (5, 3), (6, 3), (7, 3), (8, 3), (9, 3), (10, 3), (11, 3), (12, 3)], size := 13, bytes := 104, zero := .agg #[.int .i64 0, .int .i64 0, .int .i64 0, .int .i64 0, .int .i64 0, .int .i64 0, .int .i64 0, .int .i64 0, .int .i64 0, .int .i64 0, .int .i64 0, .int .i64 0, .int .i64 0], zc := [.int .i64 0, .int .i64 0, .int .i64 0, .int .i64 0, .int .i64 0, .int .i64 0, .int .i64 0, .int .i64 0, .int .i64 0, .int .i64 0, .int .i64 0, .int .i64 0, .int .i64 0], eq := [0, 0, 0, 0, 0, 0, 0, 0, 0, 0, 0, 0, 0] } := rfl
@[simp] theorem tab23 : E.tab 23 = some { key := .struct [(0, 3), (1, 3), (2, 3), (3, 3), (4, 3), (5, 3), (6, 3), (7, 3), (8, 3), (9, 3), (10, 3), (11, 3), (12, 3)], size := 13, bytes := 104, zero := .agg #[.int .i64 0, .int .i64 0, .int .i64 0, .int .i64 0, .int .i64 0, .int .i64 0, .int .i64 0, .int .i64 0, .int .i64 0, .int .i64 0, .int .i64 0, .int .i64 0, .int .i64 0], zc := [.int .i64 0, .int .i64 0, .int .i64 0, .int .i64 0, .int .i64 0, .int .i64 0, .int .i64 0, .int .i64 0, .int .i64 0, .int .i64 0, .int .i64 0, .int .i64 0, .int .i64 0], eq := [0, 0, 0, 0, 0, 0, 0, 0, 0, 0, 0, 0, 0] } := rfl
@[simp] theorem tab24 : E.tab 24 = some { key := .slice 3, size := 1, bytes := 24, zero := .slice none 0 0, zc := [.slice (.int .i64 0) []], eq := [] } := rfl
@[simp] theorem tab25 : E.tab 25 = some { key := .struct [(0, 3), (1, 24)], size := 2, bytes := 32, zero := .agg #[.int .i64 0, .slice none 0 0], zc := [.int .i64 0, .slice (.int .i64 0) []], eq := [] } := rfl
@[simp] theorem tab26 : E.tab 26 = some { key := .struct [(0, 3), (1, 24)], size := 2, bytes := 32, zero := .agg #[.int .i64 0, .slice none 0 0], zc := [.int .i64 0, .slice (.int .i64 0) []], eq := [] } := rfl
@[simp] theorem tab31 : E.tab 31 = some { key := .slice 44, size := 1, bytes := 24, zero := .slice none 0 0, zc := [.slice (.agg [.int .i64 0, .int .i64 0, .int .i64 0, .int .i64 0, .int .i64 0, .int .i64 0, .int .i64 0]) []], eq := [] } := rfl
@[simp] theorem tab32 : E.tab 32 = some { key := .int .i64, size := 1, bytes := 8, zero := .int .i64 0, zc := [.int .i64 0], eq := [] } := rfl
@[simp] theorem tab43 : E.tab 43 = some { key := .struct [(0, 3), (1, 3), (2, 3), (3, 3), (4, 3), (5, 3), (6, 3)], size := 7, bytes := 56, zero := .agg #[.int .i64 0, .int .i64 0, .int .i64 0, .int .i64 0, .int .i64 0, .int .i64 0, .int .i64 0], zc := [.int .i64 0, .int .i64 0, .int .i64 0, .int .i64 0, .int .i64 0, .int .i64 0, .int .i64 0], eq := [0, 0, 0, 0, 0, 0, 0] } := rfl
@[simp] theorem tab44 : E.tab 44 = some { key := .struct [(0, 3), (1, 3), (2, 3), (3, 3), (4, 3), (5, 3), (6, 3)], size := 7, bytes := 56, zero := .agg #[.int .i64 0, .int .i64 0, .int .i64 0, .int .i64 0, .int .i64 0, .int .i64 0, .int .i64 0], zc := [.int .i64 0, .int .i64 0, .int .i64 0, .int .i64 0, .int .i64 0, .int .i64 0, .int .i64 0], eq := [0, 0, 0, 0, 0, 0, 0] } := rfl
@[simp] theorem tab45 : E.tab 45 = some { key := .array 2 3, size := 2, bytes := 16, zero := .agg #[.int .i64 0, .int .i64 0], zc := [.int .i64 0, .int .i64 0], eq := [] } := rfl
@[simp] theorem tab58 : E.tab 58 = some { key := .array 7 4, size := 7, bytes := 7, zero := .agg #[.bool false, .bool false, .bool false, .bool false, .bool false, .bool false, .bool false], zc := [.bool false, .bool false, .bool false, .bool false, .bool false, .bool false, .bool false], eq := [] } := rfl
@[simp] theorem tab71 : E.tab 71 = some { key := .int .u32, size := 1, bytes := 4, zero := .int .u32 0, zc := [.int .u32 0], eq := [] } := rfl
@[simp] theorem tab75 : E.tab 75 = some { key := .other, size := 1, bytes := 8, zero := .pointer none, zc := [.lit (.pointer none)], eq := [] } := rfl
end Go.Proofs.Ytnmbnihbeggmgaa

namespace Go.Proofs.Ytnmbnihbeggmgaa
open Go Ab
structure Charge where
  id : Int
  patron : Int
  item : Int
  day : Int
  kind : Int
  amount : Int
  paid : Int
  deriving Inhabited, DecidableEq

structure Cal where
  week : Int
  closed : List Int

structure Rule where
  r0 : Int
  r1 : Int
  r2 : Int
  r3 : Int
  r4 : Int
  fine : Int
  grace : Int
  maxFine : Int
  r8 : Int
  r9 : Int
  r10 : Int
  r11 : Int
  r12 : Int

def encCharge (c : Charge) : D := .agg [.int .i64 c.id, .int .i64 c.patron, .int .i64 c.item, .int .i64 c.day, .int .i64 c.kind, .int .i64 c.amount, .int .i64 c.paid]
def z0 : Charge := ⟨0, 0, 0, 0, 0, 0, 0⟩
def encCharges (l : List Charge) : D := .slice (encCharge z0) (l.map encCharge)
def encInts (l : List Int) : D := .slice (.int .i64 0) (l.map (D.int .i64))
def encCal (c : Cal) : D := .agg [.int .i64 c.week, encInts c.closed]
def encRule (r : Rule) : D := .agg [.int .i64 r.r0, .int .i64 r.r1, .int .i64 r.r2, .int .i64 r.r3, .int .i64 r.r4, .int .i64 r.fine, .int .i64 r.grace, .int .i64 r.maxFine, .int .i64 r.r8, .int .i64 r.r9, .int .i64 r.r10, .int .i64 r.r11, .int .i64 r.r12]
@[simp] theorem encCharge_cells (c : Charge) : (encCharge c).cells = [.int .i64 c.id, .int .i64 c.patron, .int .i64 c.item, .int .i64 c.day, .int .i64 c.kind, .int .i64 c.amount, .int .i64 c.paid] := rfl
theorem encCharge_eq (c : Charge) : encCharge c = .agg [.int .i64 c.id, .int .i64 c.patron, .int .i64 c.item, .int .i64 c.day, .int .i64 c.kind, .int .i64 c.amount, .int .i64 c.paid] := rfl
theorem encCharges_eq (l : List Charge) : encCharges l = .slice (encCharge z0) (l.map encCharge) := rfl
theorem encInts_eq (l : List Int) : encInts l = .slice (.int .i64 0) (l.map (D.int .i64)) := rfl
theorem encCal_eq (c : Cal) : encCal c = .agg [.int .i64 c.week, encInts c.closed] := rfl
theorem encRule_eq (r : Rule) : encRule r = .agg [.int .i64 r.r0, .int .i64 r.r1, .int .i64 r.r2, .int .i64 r.r3, .int .i64 r.r4, .int .i64 r.fine, .int .i64 r.grace, .int .i64 r.maxFine, .int .i64 r.r8, .int .i64 r.r9, .int .i64 r.r10, .int .i64 r.r11, .int .i64 r.r12] := rfl

def isDay (n : Int) : Bool := decide (0 ≤ n) && decide (n ≤ 109572)
def isID (n : Int) : Bool := decide (1 ≤ n) && decide (n ≤ 9999)
def wday (n : Int) : Int := if isDay n then n.tmod 7 else -1
def ruleOk (r : Rule) : Bool := decide (0 ≤ r.fine) && decide (r.fine ≤ 1000) && decide (0 ≤ r.grace) && decide (r.grace ≤ 30) && decide (0 ≤ r.maxFine) && decide (r.maxFine ≤ 100000000)
theorem mixed : E.P.follows .mixedOrders = true := by kernel_rfl
end Go.Proofs.Ytnmbnihbeggmgaa

namespace Go.Proofs.Ytnmbnihbeggmgaa
open Go Ab
def owedF (p : Int) : Int → List Charge → Int
  | s, [] => s
  | s, c :: l => owedF p (if c.patron = p then IntKind.i64.wrap (s + IntKind.i64.wrap (c.amount - c.paid)) else s) l

def payStep (p r : Int) (c : Charge) : Int := if IntKind.i64.wrap (c.amount - c.paid) < r then IntKind.i64.wrap (c.amount - c.paid) else r
def payF (p : Int) : Int × List Charge → List Charge → Int × List Charge
  | (r, o), [] => (r, o)
  | (r, o), c :: l =>
    if c.patron = p then
      if IntKind.i64.wrap (c.paid + payStep p r c) < c.amount then payF p (IntKind.i64.wrap (r - payStep p r c), o ++ [{ c with paid := IntKind.i64.wrap (c.paid + payStep p r c) }]) l
      else payF p (IntKind.i64.wrap (r - payStep p r c), o) l
    else if c.paid < c.amount then payF p (r, o ++ [c]) l else payF p (r, o) l
def payR (l : List Charge) (p a : Int) : RetT :=
  if a < 1 ∨ 100000000 < a then .tup [encCharges [], .int .i64 0, .int .i64 1]
  else .tup [encCharges (payF p (a, []) l).2, .int .i64 (payF p (a, []) l).1, .int .i64 0]
theorem payR_bad {l : List Charge} {p a : Int} (h : a < 1 ∨ 100000000 < a) : payR l p a = .tup [encCharges [], .int .i64 0, .int .i64 1] := if_pos h
theorem payR_good {l : List Charge} {p a : Int} (h : 1 ≤ a ∧ a ≤ 100000000) : payR l p a = .tup [encCharges (payF p (a, []) l).2, .int .i64 (payF p (a, []) l).1, .int .i64 0] := if_neg (by omega)
def idxG (p : Int → Bool) : Unit → List Int → Int := fun _ _ => 0
end Go.Proofs.Ytnmbnihbeggmgaa

namespace Go.Proofs.Ytnmbnihbeggmgaa
open Go Ab
def owedG (p : Int) : Int → List Charge → Int
  | s, [] => s
  | s, c :: l => owedG p (if c.patron = p then IntKind.i64.wrap (IntKind.i64.wrap (s + c.amount) - c.paid) else s) l
theorem owedG_eq (p : Int) : ∀ (l : List Charge) (s : Int), owedG p s l = owedF p s l
  | [], s => rfl
  | c :: l, s => by
    have e : IntKind.i64.wrap (IntKind.i64.wrap (s + c.amount) - c.paid) = IntKind.i64.wrap (s + IntKind.i64.wrap (c.amount - c.paid)) := by
      simp only [IntKind.wrap_i64]; omega
    rw [owedG, owedF, e]
    exact owedG_eq p l _
def idxF (p : Int → Bool) : Int → List Int → Int
  | _, [] => -1
  | i, x :: l => if p x then i else idxF p (i + 1) l
theorem idxF_any (p : Int → Bool) : ∀ (l : List Int) (i : Int), 0 ≤ i → decide (0 ≤ idxF p i l) = l.any p
  | [], i, _ => by simp [idxF]
  | x :: l, i, hi => by
    by_cases hp : p x = true
    · simp [idxF, hp, hi]
    · have hp' : p x = false := by simpa using hp
      simp only [idxF, List.any_cons, hp', Bool.false_eq_true, if_false, Bool.false_or]
      exact idxF_any p l (i + 1) (by omega)
end Go.Proofs.Ytnmbnihbeggmgaa

namespace Go.Proofs.Ytnmbnihbeggmgaa
open Go Ab
def chkC (c : Charge) : Int :=
  if c.id < 1 ∨ 99999 < c.id ∨ c.patron < 1 ∨ 9999 < c.patron ∨ c.item < 1 ∨ 9999 < c.item ∨ isDay c.day = false then 2
  else if c.kind < 1 ∨ 3 < c.kind then 1
  else if c.amount < 1 ∨ 100000000 < c.amount ∨ c.paid < 0 ∨ c.amount ≤ c.paid then 2 else 0
section
variable {x : Charge}
theorem chk2a (h : (((((x.id < 1 ∨ 99999 < x.id) ∨ x.patron < 1) ∨ 9999 < x.patron) ∨ x.item < 1) ∨ 9999 < x.item) ∨ isDay x.day = false) : chkC x = 2 := if_pos (by simpa only [or_assoc] using h)
theorem chkn (h : (((((1 ≤ x.id ∧ x.id ≤ 99999) ∧ 1 ≤ x.patron) ∧ x.patron ≤ 9999) ∧ 1 ≤ x.item) ∧ x.item ≤ 9999) ∧ isDay x.day = true) : ¬ (x.id < 1 ∨ 99999 < x.id ∨ x.patron < 1 ∨ 9999 < x.patron ∨ x.item < 1 ∨ 9999 < x.item ∨ isDay x.day = false) := by
  obtain ⟨h1, h2⟩ := h
  rw [h2]
  simp
  omega
theorem chk1 (h : (((((1 ≤ x.id ∧ x.id ≤ 99999) ∧ 1 ≤ x.patron) ∧ x.patron ≤ 9999) ∧ 1 ≤ x.item) ∧ x.item ≤ 9999) ∧ isDay x.day = true) (h2 : x.kind < 1 ∨ 3 < x.kind) : chkC x = 1 := by
  unfold chkC; rw [if_neg (chkn h), if_pos h2]
theorem chk2b (h : (((((1 ≤ x.id ∧ x.id ≤ 99999) ∧ 1 ≤ x.patron) ∧ x.patron ≤ 9999) ∧ 1 ≤ x.item) ∧ x.item ≤ 9999) ∧ isDay x.day = true) (h2 : 1 ≤ x.kind ∧ x.kind ≤ 3) (h3 : ((x.amount < 1 ∨ 100000000 < x.amount) ∨ x.paid < 0) ∨ x.amount ≤ x.paid) : chkC x = 2 := by
  unfold chkC; rw [if_neg (chkn h), if_neg (by omega), if_pos (by omega)]
theorem chk0 (h : (((((1 ≤ x.id ∧ x.id ≤ 99999) ∧ 1 ≤ x.patron) ∧ x.patron ≤ 9999) ∧ 1 ≤ x.item) ∧ x.item ≤ 9999) ∧ isDay x.day = true) (h2 : 1 ≤ x.kind ∧ x.kind ≤ 3) (h3 : ((1 ≤ x.amount ∧ x.amount ≤ 100000000) ∧ 0 ≤ x.paid) ∧ x.paid < x.amount) : chkC x = 0 := by
  unfold chkC; rw [if_neg (chkn h), if_neg (by omega), if_neg (by omega)]
end
def lowId : Option Int → Int → Bool
  | none, _ => false
  | some p, i => decide (i ≤ p)
def rightF : Option Int → List Charge → Int
  | _, [] => 0
  | pr, c :: l => if lowId pr c.id = true then 7 else if chkC c ≠ 0 then chkC c else rightF (some c.id) l
def rightR (l : List Charge) : Int := if 128 < l.length then 13 else rightF none l
theorem rightR_ok {l : List Charge} (h : (l.length : Int) ≤ 128) : rightR l = rightF none l := if_neg (by omega)
theorem rightR_full {l : List Charge} (h : 128 < (l.length : Int)) : rightR l = 13 := if_pos (by omega)
def sameF : List Charge → List Charge → Bool := fun r l => decide (l = r)
end Go.Proofs.Ytnmbnihbeggmgaa

namespace Go.Proofs.Ytnmbnihbeggmgaa
open Go Ab
section
variable {x : Charge}
theorem isID_t {n : Int} : isID n = true ↔ 1 ≤ n ∧ n ≤ 9999 := by simp [isID]
theorem isID_f {n : Int} : isID n = false ↔ n < 1 ∨ 9999 < n := by simp [isID]; omega
theorem chk2c (h : (((x.id < 1 ∨ 99999 < x.id) ∨ isID x.patron = false) ∨ isID x.item = false) ∨ isDay x.day = false) : chkC x = 2 := if_pos (by simp only [isID_f] at h; simpa only [or_assoc] using h)
theorem chkcv (h : (((1 ≤ x.id ∧ x.id ≤ 99999) ∧ isID x.patron = true) ∧ isID x.item = true) ∧ isDay x.day = true) : (((((1 ≤ x.id ∧ x.id ≤ 99999) ∧ 1 ≤ x.patron) ∧ x.patron ≤ 9999) ∧ 1 ≤ x.item) ∧ x.item ≤ 9999) ∧ isDay x.day = true := by
  simp only [isID_t] at h; simpa only [and_assoc] using h
theorem chk1c (h : (((1 ≤ x.id ∧ x.id ≤ 99999) ∧ isID x.patron = true) ∧ isID x.item = true) ∧ isDay x.day = true) (h2 : x.kind < 1 ∨ 3 < x.kind) : chkC x = 1 := chk1 (chkcv h) h2
theorem chk2d (h : (((1 ≤ x.id ∧ x.id ≤ 99999) ∧ isID x.patron = true) ∧ isID x.item = true) ∧ isDay x.day = true) (h2 : 1 ≤ x.kind ∧ x.kind ≤ 3) (h3 : ((x.amount < 1 ∨ 100000000 < x.amount) ∨ x.paid < 0) ∨ x.amount ≤ x.paid) : chkC x = 2 := chk2b (chkcv h) h2 h3
theorem chk0c (h : (((1 ≤ x.id ∧ x.id ≤ 99999) ∧ isID x.patron = true) ∧ isID x.item = true) ∧ isDay x.day = true) (h2 : 1 ≤ x.kind ∧ x.kind ≤ 3) (h3 : ((1 ≤ x.amount ∧ x.amount ≤ 100000000) ∧ 0 ≤ x.paid) ∧ x.paid < x.amount) : chkC x = 0 := chk0 (chkcv h) h2 h3
end
def remF (p : Charge → Bool) : List Charge × Int × Int → List Charge → List Charge × Int × Int
  | (o, q, n), [] => (o, q, n)
  | (o, q, n), c :: l => if p c = true then remF p (o, IntKind.i64.wrap (q + c.paid), IntKind.i64.wrap (n + 1)) l else remF p (o ++ [c], q, n) l
def remR (l : List Charge) (p : Charge → Bool) : RetT := .tup [encCharges (remF p ([], 0, 0) l).1, .int .i64 (remF p ([], 0, 0) l).2.1, .int .i64 (remF p ([], 0, 0) l).2.2]
def refP (p i k : Int) (c : Charge) : Bool := (c.patron == p && c.item == i) && (k == 0 || c.kind == k)
def waiveR (l : List Charge) (i : Int) : RetT :=
  if (remF (fun c => c.id == i) ([], 0, 0) l).2.2 = 0 then .tup [encCharges [], .int .i64 0, .int .i64 9]
  else .tup [encCharges (remF (fun c => c.id == i) ([], 0, 0) l).1, .int .i64 (remF (fun c => c.id == i) ([], 0, 0) l).2.1, .int .i64 0]
theorem waiveR_none {l : List Charge} {i : Int} (h : (remF (fun c => c.id == i) ([], 0, 0) l).2.2 = 0) : waiveR l i = .tup [encCharges [], .int .i64 0, .int .i64 9] := if_pos h
theorem waiveR_some {l : List Charge} {i : Int} (h : ¬ (remF (fun c => c.id == i) ([], 0, 0) l).2.2 = 0) : waiveR l i = .tup [encCharges (remF (fun c => c.id == i) ([], 0, 0) l).1, .int .i64 (remF (fun c => c.id == i) ([], 0, 0) l).2.1, .int .i64 0] := if_neg h
def refundR (l : List Charge) (p i k : Int) : RetT := .tup [encCharges (remF (refP p i k) ([], 0, 0) l).1, .int .i64 (remF (refP p i k) ([], 0, 0) l).2.1]
def wvF (i : Int) : List Charge × Int → List Charge → List Charge × Int
  | (o, q), [] => (o, q)
  | (o, q), c :: l => if c.id = i then wvF i (o, c.paid) l else wvF i (o ++ [c], q) l
def wvR (l : List Charge) (i : Int) : RetT :=
  if (wvF i ([], -1) l).2 < 0 then .tup [encCharges [], .int .i64 0, .int .i64 9] else .tup [encCharges (wvF i ([], -1) l).1, .int .i64 (wvF i ([], -1) l).2, .int .i64 0]
theorem wvR_none {l : List Charge} {i : Int} (h : (wvF i ([], -1) l).2 < 0) : wvR l i = .tup [encCharges [], .int .i64 0, .int .i64 9] := if_pos h
theorem wvR_some {l : List Charge} {i : Int} (h : 0 ≤ (wvF i ([], -1) l).2) : wvR l i = .tup [encCharges (wvF i ([], -1) l).1, .int .i64 (wvF i ([], -1) l).2, .int .i64 0] := if_neg (by omega)
def rfF (p i k : Int) : List Charge × Int → List Charge → List Charge × Int
  | (o, q), [] => (o, q)
  | (o, q), c :: l => if refP p i k c = true then rfF p i k (o, IntKind.i64.wrap (q + c.paid)) l else rfF p i k (o ++ [c], q) l
def rfR (l : List Charge) (p i k : Int) : RetT := .tup [encCharges (rfF p i k ([], 0) l).1, .int .i64 (rfF p i k ([], 0) l).2]
end Go.Proofs.Ytnmbnihbeggmgaa

namespace Go.Proofs.Ytnmbnihbeggmgaa
open Go Ab
def ascF : Option Int → List Int → Int
  | _, [] => 0
  | pr, x :: l => if lowId pr x = true then 7 else ascF (some x) l
def calR (c : Cal) : Int := if c.week < 0 ∨ 127 ≤ c.week then 1 else if 64 < (c.closed.length : Int) then 13 else if c.closed.any (fun n => !isDay n) = true then 2 else ascF none c.closed
theorem cal_len {c : Cal} (h : D.Ok (encCal c)) : c.closed.length ≤ 9223372036854775807 := by
  have := (Ok_slice (Ok_agg h (encInts c.closed) (by simp))).1
  simpa using this
section
variable {c : Cal}
theorem cal1 (h : c.week < 0 ∨ 127 ≤ c.week) : calR c = 1 := if_pos h
theorem cal13 (h : 0 ≤ c.week ∧ c.week < 127) (h2 : 64 < (c.closed.length : Int)) : calR c = 13 := by unfold calR; rw [if_neg (by omega), if_pos h2]
theorem cal2 (h : 0 ≤ c.week ∧ c.week < 127) (h2 : (c.closed.length : Int) ≤ 64) (h3 : ∃ x ∈ c.closed, isDay x = false) : calR c = 2 := by
  unfold calR; rw [if_neg (by omega), if_neg (by omega), if_pos (by simpa using h3)]
theorem calA (h : 0 ≤ c.week ∧ c.week < 127) (h2 : (c.closed.length : Int) ≤ 64) (h3 : ∀ x ∈ c.closed, isDay x = true) : calR c = ascF none c.closed := by
  unfold calR; rw [if_neg (by omega), if_neg (by omega), if_neg (by simpa using h3)]
end
def fst7 (w : Int) : Int := (IntKind.i64.wrap (IntKind.i64.wrap (w - wday 0) + 7)).tmod 7
def upToW (d w : Int) : Int := if d < fst7 w then 0 else IntKind.i64.wrap (IntKind.i64.wrap ((IntKind.i64.wrap (d - fst7 w)).tdiv 7) + 1)
theorem upToW_lt {d w : Int} (h : d < fst7 w) : upToW d w = 0 := if_pos h
theorem upToW_ge {d w : Int} (h : fst7 w ≤ d) : upToW d w = IntKind.i64.wrap (IntKind.i64.wrap ((IntKind.i64.wrap (d - fst7 w)).tdiv 7) + 1) := if_neg (by omega)
def wkB (w : Int) (i : Nat) : Bool := bits BinOp.and IntKind.i64 (w.fdiv (2 ^ min i IntKind.i64.bits)) 1 == 0
def weekL (w : Int) : List D := [.bool (wkB w 0), .bool (wkB w 1), .bool (wkB w 2), .bool (wkB w 3), .bool (wkB w 4), .bool (wkB w 5), .bool (wkB w 6)]
end Go.Proofs.Ytnmbnihbeggmgaa

namespace Go.Proofs.Ytnmbnihbeggmgaa
open Go Ab
@[simp] theorem weekL_length (w : Int) : (weekL w).length = 7 := rfl
@[simp] theorem weekL_getD (w : Int) (i : Nat) : (weekL w)[i]?.getD (D.bool false) = D.bool (decide (i < 7) && wkB w i) := by
  by_cases h : i < 7
  · have : i = 0 ∨ i = 1 ∨ i = 2 ∨ i = 3 ∨ i = 4 ∨ i = 5 ∨ i = 6 := by omega
    rcases this with rfl | rfl | rfl | rfl | rfl | rfl | rfl <;> simp [weekL]
  · rw [List.getElem?_eq_none (by simp; omega)]
    simp [h]
@[simp] theorem weekL_ld (w : Int) : List.take 7 (List.map (C.dat ∘ C.d) (weekL w)) = weekL w := rfl
def cnt7 (w lo hi : Int) : Nat → Int
  | 0 => 0
  | k + 1 => if wkB w k = true then IntKind.i64.wrap (cnt7 w lo hi k + IntKind.i64.wrap (upToW hi k - upToW (IntKind.i64.wrap (lo - 1)) k)) else cnt7 w lo hi k
@[simp] theorem cnt7_zero {w lo hi : Int} : cnt7 w lo hi 0 = 0 := rfl
theorem wday_rng {d : Int} (h0 : 0 ≤ d) (h1 : d ≤ 109572) : 0 ≤ wday d ∧ wday d < 7 := by
  have e : wday d = d % 7 := by
    unfold wday isDay
    rw [if_pos (by simp [h0, h1]), Int.tmod_eq_emod_of_nonneg h0]
  rw [e]; omega
def cntIn (w lo hi d : Int) : Bool := (decide (lo ≤ d) && decide (d ≤ hi)) && (decide (wday d < 7) && wkB w (wday d).toNat)
def cntG (w lo hi : Int) : Int → List Int → Int
  | n, [] => n
  | n, d :: l => if cntIn w lo hi d = true then cntG w lo hi (IntKind.i64.wrap (n - 1)) l else cntG w lo hi n l
def countR (c : Cal) (f t : Int) : Int :=
  if (if 109572 < t then 109572 else t) < (if f < 0 then 0 else f) then 0
  else cntG c.week (if f < 0 then 0 else f) (if 109572 < t then 109572 else t) (cnt7 c.week (if f < 0 then 0 else f) (if 109572 < t then 109572 else t) 7) c.closed
theorem countR_ge {c : Cal} {f t lo hi : Int} (h1 : (if f < 0 then 0 else f) = lo) (h2 : (if 109572 < t then 109572 else t) = hi) (h : lo ≤ hi) : countR c f t = cntG c.week lo hi (cnt7 c.week lo hi 7) c.closed := by
  unfold countR; rw [h1, h2, if_neg (by omega)]
end Go.Proofs.Ytnmbnihbeggmgaa

namespace Go.Proofs.Ytnmbnihbeggmgaa
open Go Ab
def lateR (r : Rule) (c : Cal) (d b : Int) : Int :=
  if (¬ calR c = 0 ∨ isDay d = false) ∨ isDay b = false then 0
  else if countR c (IntKind.i64.wrap (d + 1)) b ≤ r.grace then 0
  else if r.maxFine < IntKind.i64.wrap (countR c (IntKind.i64.wrap (d + 1)) b * r.fine) then r.maxFine else IntKind.i64.wrap (countR c (IntKind.i64.wrap (d + 1)) b * r.fine)
section
variable {r : Rule} {c : Cal} {d b : Int}
theorem lateR_bad (h : (¬ calR c = 0 ∨ isDay d = false) ∨ isDay b = false) : lateR r c d b = 0 := if_pos h
theorem lateN (h : (calR c = 0 ∧ isDay d = true) ∧ isDay b = true) : ¬ ((¬ calR c = 0 ∨ isDay d = false) ∨ isDay b = false) := by simp [h.1.1, h.1.2, h.2]
theorem lateR_gr (h : (calR c = 0 ∧ isDay d = true) ∧ isDay b = true) (h2 : countR c (IntKind.i64.wrap (d + 1)) b ≤ r.grace) : lateR r c d b = 0 := by
  unfold lateR; rw [if_neg (lateN h), if_pos h2]
theorem lateR_ok (h : (calR c = 0 ∧ isDay d = true) ∧ isDay b = true) (h2 : r.grace < countR c (IntKind.i64.wrap (d + 1)) b) :
    lateR r c d b = if r.maxFine < IntKind.i64.wrap (countR c (IntKind.i64.wrap (d + 1)) b * r.fine) then r.maxFine else IntKind.i64.wrap (countR c (IntKind.i64.wrap (d + 1)) b * r.fine) := by
  unfold lateR; rw [if_neg (lateN h), if_neg (by omega)]
end
def r0 : Rule := ⟨0, 0, 0, 0, 0, 20, 1, 100, 0, 0, 0, 0, 0⟩
def c0 : Cal := ⟨0, []⟩
def l0 : List Charge := [⟨1, 5, 3, 9, 1, 300, 100⟩, ⟨2, 5, 4, 9, 3, 50, 0⟩]
end Go.Proofs.Ytnmbnihbeggmgaa

set_option maxRecDepth 100000
set_option linter.unusedSimpArgs false
namespace Go.Proofs.Ytnmbnihbeggmgaa
open Go Ab
theorem f28 (n : Int) : ACalls E.P 28 [.int .i64 n] (.d (.bool (isDay n))) := by
  refine ACalls.intro E_ok Try.func28 rfl rfl Try.ntmps28 Try.results28 (Nat.le_of_ble_eq_true rfl) fun hok base S0 w0 => ?_
  -- region 0
  refine AWp.rseq E_ok [0, 2] fun K hK => ?_
  simp
  repeat refine ⟨by first | omega | (simp only [maxLen]; omega), ?_⟩
  refine hK _ ?_
  clear hK K
  -- region 1
  refine AWp.rseq E_ok [0, 2] fun K hK => ?_
  simp
  repeat refine ⟨by first | omega | (simp only [maxLen]; omega), ?_⟩
  refine hK _ ?_
  clear hK K
  refine AWp.ret ?_
  repeat first | refine thenN ?_ | refine thenX ?_ | refine thenR ?_ | refine blockN ?_ | refine blockR ?_ | refine blockX ?_ | refine blockM rfl ?_
  simp [RetOk, RV, isDay]

theorem f30 (n : Int) : ACalls E.P 30 [.int .i64 n] (.d (.bool (isDay n))) := by
  refine ACalls.intro E_ok Try.func30 rfl rfl Try.ntmps30 Try.results30 (Nat.le_of_ble_eq_true rfl) fun hok base S0 w0 => ?_
  -- region 0
  refine AWp.rseq E_ok [0, 2] fun K hK => ?_
  simp
  repeat refine ⟨by first | omega | (simp only [maxLen]; omega), ?_⟩
  refine hK _ ?_
  clear hK K
  -- region 1
  refine AWp.rseq E_ok [0, 2] fun K hK => ?_
  simp
  repeat refine ⟨by first | omega | (simp only [maxLen]; omega), ?_⟩
  refine hK _ ?_
  clear hK K
  refine AWp.ret ?_
  repeat first | refine thenN ?_ | refine thenX ?_ | refine thenR ?_ | refine blockN ?_ | refine blockR ?_ | refine blockX ?_ | refine blockM rfl ?_
  simp [RetOk, RV, isDay]

theorem f38 (n : Int) : ACalls E.P 38 [.int .i64 n] (.d (.bool (isDay n))) := by
  refine ACalls.intro E_ok Try.func38 rfl rfl Try.ntmps38 Try.results38 (Nat.le_of_ble_eq_true rfl) fun hok base S0 w0 => ?_
  -- region 0
  refine AWp.rseq E_ok [0, 2] fun K hK => ?_
  simp
  repeat refine ⟨by first | omega | (simp only [maxLen]; omega), ?_⟩
  refine hK _ ?_
  clear hK K
  -- region 1
  refine AWp.rseq E_ok [0, 2] fun K hK => ?_
  simp
  repeat refine ⟨by first | omega | (simp only [maxLen]; omega), ?_⟩
  refine hK _ ?_
  clear hK K
  refine AWp.ret ?_
  repeat first | refine thenN ?_ | refine thenX ?_ | refine thenR ?_ | refine blockN ?_ | refine blockR ?_ | refine blockX ?_ | refine blockM rfl ?_
  simp [RetOk, RV, isDay]

theorem f45 (n : Int) : ACalls E.P 45 [.int .i64 n] (.d (.bool (isDay n))) := by
  refine ACalls.intro E_ok Try.func45 rfl rfl Try.ntmps45 Try.results45 (Nat.le_of_ble_eq_true rfl) fun hok base S0 w0 => ?_
  -- region 0
  refine AWp.rseq E_ok [0, 2] fun K hK => ?_
  simp
  repeat refine ⟨by first | omega | (simp only [maxLen]; omega), ?_⟩
  refine hK _ ?_
  clear hK K
  -- region 1
  refine AWp.rseq E_ok [0, 2] fun K hK => ?_
  simp
  repeat refine ⟨by first | omega | (simp only [maxLen]; omega), ?_⟩
  refine hK _ ?_
  clear hK K
  refine AWp.ret ?_
  repeat first | refine thenN ?_ | refine thenX ?_ | refine thenR ?_ | refine blockN ?_ | refine blockR ?_ | refine blockX ?_ | refine blockM rfl ?_
  simp [RetOk, RV, isDay]

theorem f47 (n : Int) : ACalls E.P 47 [.int .i64 n] (.d (.bool (isDay n))) := by
  refine ACalls.intro E_ok Try.func47 rfl rfl Try.ntmps47 Try.results47 (Nat.le_of_ble_eq_true rfl) fun hok base S0 w0 => ?_
  -- region 0
  refine AWp.rseq E_ok [0, 2] fun K hK => ?_
  simp
  repeat refine ⟨by first | omega | (simp only [maxLen]; omega), ?_⟩
  refine hK _ ?_
  clear hK K
  -- region 1
  refine AWp.rseq E_ok [0, 2] fun K hK => ?_
  simp
  repeat refine ⟨by first | omega | (simp only [maxLen]; omega), ?_⟩
  refine hK _ ?_
  clear hK K
  refine AWp.ret ?_
  repeat first | refine thenN ?_ | refine thenX ?_ | refine thenR ?_ | refine blockN ?_ | refine blockR ?_ | refine blockX ?_ | refine blockM rfl ?_
  simp [RetOk, RV, isDay]

theorem f43 (n : Int) : ACalls E.P 43 [.int .i64 n] (.d (.bool (isID n))) := by
  refine ACalls.intro E_ok Try.func43 rfl rfl Try.ntmps43 Try.results43 (Nat.le_of_ble_eq_true rfl) fun hok base S0 w0 => ?_
  -- region 0
  refine AWp.rseq E_ok [0, 2] fun K hK => ?_
  simp
  repeat refine ⟨by first | omega | (simp only [maxLen]; omega), ?_⟩
  refine hK _ ?_
  clear hK K
  -- region 1
  refine AWp.rseq E_ok [0, 2] fun K hK => ?_
  simp
  repeat refine ⟨by first | omega | (simp only [maxLen]; omega), ?_⟩
  refine hK _ ?_
  clear hK K
  refine AWp.ret ?_
  repeat first | refine thenN ?_ | refine thenX ?_ | refine thenR ?_ | refine blockN ?_ | refine blockR ?_ | refine blockX ?_ | refine blockM rfl ?_
  simp [RetOk, RV, isID]

theorem f37 (n : Int) : ACalls E.P 37 [.int .i64 n] (.d (.bool (!isDay n))) := by
  refine ACalls.intro E_ok Try.func37 rfl rfl Try.ntmps37 Try.results37 (Nat.le_of_ble_eq_true rfl) fun hok base S0 w0 => ?_
  -- region 0
  refine AWp.rseq E_ok [0, 2] fun K hK => ?_
  simp
  repeat refine ⟨by first | omega | (simp only [maxLen]; omega), ?_⟩
  refine hK _ ?_
  clear hK K
  -- region 1
  refine AWp.rseq E_ok [0, 2] fun K hK => ?_
  simp
  refine meet.of (f38 _) ?_
  simp
  repeat refine ⟨by first | omega | (simp only [maxLen]; omega), ?_⟩
  refine hK _ ?_
  clear hK K
  refine AWp.ret ?_
  repeat first | refine thenN ?_ | refine thenX ?_ | refine thenR ?_ | refine blockN ?_ | refine blockR ?_ | refine blockX ?_ | refine blockM rfl ?_
  simp [RetOk, RV]

theorem f41 (n : Int) : ACalls E.P 41 [.int .i64 n] (.d (.int .i64 (wday n))) := by
  refine ACalls.intro E_ok Try.func41 rfl rfl Try.ntmps41 Try.results41 (Nat.le_of_ble_eq_true rfl) fun hok base S0 w0 => ?_
  -- region 0
  refine AWp.rseq E_ok [0, 2, 5] fun K hK => ?_
  simp
  repeat refine ⟨by first | omega | (simp only [maxLen]; omega), ?_⟩
  refine hK _ ?_
  clear hK K
  refine AWp.seq ?_
  -- region 1
  refine AWp.rseq E_ok [0, 2, 5] fun K hK => ?_
  simp
  refine meet.of (f45 _) ?_
  simp
  repeat refine ⟨by first | omega | (simp only [maxLen]; omega), ?_⟩
  refine hK _ ?_
  clear hK K
  refine AWp.cond rfl (fun h5 => ?_) (fun h5 => ?_)
  · simp at h5
    -- region 2
    refine AWp.rseq E_ok [0, 2, 5] fun K hK => ?_
    simp [h5]
    repeat refine ⟨by first | omega | (simp only [maxLen]; omega), ?_⟩
    refine hK _ ?_
    clear hK K
    refine AWp.ret ?_
    repeat first | refine thenN ?_ | refine thenX ?_ | refine thenR ?_ | refine blockN ?_ | refine blockR ?_ | refine blockX ?_ | refine blockM rfl ?_
    simp [RetOk, RV, wday, h5]
  · simp at h5
    refine AWp.skip ?_
    repeat first | refine thenN ?_ | refine thenX ?_ | refine thenR ?_ | refine blockN ?_ | refine blockR ?_ | refine blockX ?_ | refine blockM rfl ?_
    -- region 3
    refine AWp.rseq E_ok [0, 2, 5] fun K hK => ?_
    simp [h5]
    repeat refine ⟨by first | omega | (simp only [maxLen]; omega), ?_⟩
    refine hK _ ?_
    clear hK K
    refine AWp.ret ?_
    repeat first | refine thenN ?_ | refine thenX ?_ | refine thenR ?_ | refine blockN ?_ | refine blockR ?_ | refine blockX ?_ | refine blockM rfl ?_
    simp [RetOk, RV, wday, h5]

theorem f46 (n : Int) : ACalls E.P 46 [.int .i64 n] (.d (.int .i64 (wday n))) := by
  refine ACalls.intro E_ok Try.func46 rfl rfl Try.ntmps46 Try.results46 (Nat.le_of_ble_eq_true rfl) fun hok base S0 w0 => ?_
  -- region 0
  refine AWp.rseq E_ok [0, 2, 5] fun K hK => ?_
  simp
  repeat refine ⟨by first | omega | (simp only [maxLen]; omega), ?_⟩
  refine hK _ ?_
  clear hK K
  refine AWp.seq ?_
  -- region 1
  refine AWp.rseq E_ok [0, 2, 5] fun K hK => ?_
  simp
  refine meet.of (f47 _) ?_
  simp
  repeat refine ⟨by first | omega | (simp only [maxLen]; omega), ?_⟩
  refine hK _ ?_
  clear hK K
  refine AWp.cond rfl (fun h5 => ?_) (fun h5 => ?_)
  · simp at h5
    -- region 2
    refine AWp.rseq E_ok [0, 2, 5] fun K hK => ?_
    simp [h5]
    repeat refine ⟨by first | omega | (simp only [maxLen]; omega), ?_⟩
    refine hK _ ?_
    clear hK K
    refine AWp.ret ?_
    repeat first | refine thenN ?_ | refine thenX ?_ | refine thenR ?_ | refine blockN ?_ | refine blockR ?_ | refine blockX ?_ | refine blockM rfl ?_
    simp [RetOk, RV, wday, h5]
  · simp at h5
    refine AWp.skip ?_
    repeat first | refine thenN ?_ | refine thenX ?_ | refine thenR ?_ | refine blockN ?_ | refine blockR ?_ | refine blockX ?_ | refine blockM rfl ?_
    -- region 3
    refine AWp.rseq E_ok [0, 2, 5] fun K hK => ?_
    simp [h5]
    repeat refine ⟨by first | omega | (simp only [maxLen]; omega), ?_⟩
    refine hK _ ?_
    clear hK K
    refine AWp.ret ?_
    repeat first | refine thenN ?_ | refine thenX ?_ | refine thenR ?_ | refine blockN ?_ | refine blockR ?_ | refine blockX ?_ | refine blockM rfl ?_
    simp [RetOk, RV, wday, h5]

theorem f10 (r : Rule) : ACalls E.P 10 [encRule r] (.d (.bool (ruleOk r))) := by
  refine ACalls.intro E_ok Try.func10 rfl rfl Try.ntmps10 Try.results10 (Nat.le_of_ble_eq_true rfl) fun hok base S0 w0 => ?_
  -- region 0
  refine AWp.rseq E_ok [0, 1, 2] fun K hK => ?_
  simp [encRule_eq]
  repeat refine ⟨by first | omega | (simp only [maxLen]; omega), ?_⟩
  refine hK _ ?_
  clear hK K
  -- region 1
  refine AWp.rseq E_ok [0, 1, 2] fun K hK => ?_
  simp [encRule_eq]
  repeat refine ⟨by first | omega | (simp only [maxLen]; omega), ?_⟩
  refine hK _ ?_
  clear hK K
  refine AWp.ret ?_
  repeat first | refine thenN ?_ | refine thenX ?_ | refine thenR ?_ | refine blockN ?_ | refine blockR ?_ | refine blockX ?_ | refine blockM rfl ?_
  simp [RetOk, RV, ruleOk]

end Go.Proofs.Ytnmbnihbeggmgaa

set_option maxRecDepth 100000
set_option linter.unusedSimpArgs false
namespace Go.Proofs.Ytnmbnihbeggmgaa
open Go Ab
theorem f35 (c : Charge) : ACalls E.P 35 [encCharge c] (.d (.int .i64 (chkC c))) := by
  refine ACalls.intro E_ok Try.func35 rfl rfl Try.ntmps35 Try.results35 (Nat.le_of_ble_eq_true rfl) fun hok base S0 w0 => ?_
  -- region 0
  refine AWp.rseq E_ok [0, 1, 2, 3, 4, 33, 42] fun K hK => ?_
  simp [encCharge_eq]
  repeat refine ⟨by first | omega | (simp only [maxLen]; omega), ?_⟩
  refine hK _ ?_
  clear hK K
  -- region 1
  refine AWp.rseq E_ok [0, 1, 2, 3, 4, 33, 42] fun K hK => ?_
  simp [encCharge_eq]
  repeat refine ⟨by first | omega | (simp only [maxLen]; omega), ?_⟩
  refine hK _ ?_
  clear hK K
  refine AWp.seq ?_
  refine AWp.block ?_
  -- region 2
  refine AWp.rseq E_ok [0, 1, 2, 3, 4, 33, 42] fun K hK => ?_
  simp [encCharge_eq]
  refine meet.of (f43 _) ?_
  simp [encCharge_eq]
  refine meet.of (f43 _) ?_
  simp [encCharge_eq]
  refine meet.of (f28 _) ?_
  simp [encCharge_eq]
  repeat refine ⟨by first | omega | (simp only [maxLen]; omega), ?_⟩
  refine hK _ ?_
  clear hK K
  refine AWp.cond rfl (fun h4 => ?_) (fun h4 => ?_)
  · simp at h4
    have hc := chk2c h4
    -- region 3
    refine AWp.rseq E_ok [0, 1, 2, 3, 4, 33, 42] fun K hK => ?_
    simp [encCharge_eq, h4]
    repeat refine ⟨by first | omega | (simp only [maxLen]; omega), ?_⟩
    refine hK _ ?_
    clear hK K
    refine AWp.ret ?_
    repeat first | refine thenN ?_ | refine thenX ?_ | refine thenR ?_ | refine blockN ?_ | refine blockR ?_ | refine blockX ?_ | refine blockM rfl ?_
    simp [RetOk, RV, hc]
  · simp at h4
    -- region 4
    refine AWp.rseq E_ok [0, 1, 2, 3, 4, 33, 42] fun K hK => ?_
    simp [encCharge_eq, h4]
    repeat refine ⟨by first | omega | (simp only [maxLen]; omega), ?_⟩
    refine hK _ ?_
    clear hK K
    refine AWp.cond rfl (fun h33 => ?_) (fun h33 => ?_)
    · simp at h33
      have hc := chk1c h4 h33
      -- region 5
      refine AWp.rseq E_ok [0, 1, 2, 3, 4, 33, 42] fun K hK => ?_
      simp [encCharge_eq, h4, h33]
      repeat refine ⟨by first | omega | (simp only [maxLen]; omega), ?_⟩
      refine hK _ ?_
      clear hK K
      refine AWp.ret ?_
      repeat first | refine thenN ?_ | refine thenX ?_ | refine thenR ?_ | refine blockN ?_ | refine blockR ?_ | refine blockX ?_ | refine blockM rfl ?_
      simp [RetOk, RV, hc]
    · simp at h33
      -- region 6
      refine AWp.rseq E_ok [0, 1, 2, 3, 4, 33, 42] fun K hK => ?_
      simp [encCharge_eq, h4, h33]
      repeat refine ⟨by first | omega | (simp only [maxLen]; omega), ?_⟩
      refine hK _ ?_
      clear hK K
      refine AWp.cond rfl (fun h42 => ?_) (fun h42 => ?_)
      · simp at h42
        have hc := chk2d h4 h33 h42
        -- region 7
        refine AWp.rseq E_ok [0, 1, 2, 3, 4, 33, 42] fun K hK => ?_
        simp [encCharge_eq, h4, h33, h42]
        repeat refine ⟨by first | omega | (simp only [maxLen]; omega), ?_⟩
        refine hK _ ?_
        clear hK K
        refine AWp.ret ?_
        repeat first | refine thenN ?_ | refine thenX ?_ | refine thenR ?_ | refine blockN ?_ | refine blockR ?_ | refine blockX ?_ | refine blockM rfl ?_
        simp [RetOk, RV, hc]
      · simp at h42
        have hc := chk0c h4 h33 h42
        refine AWp.skip ?_
        repeat first | refine thenN ?_ | refine thenX ?_ | refine thenR ?_ | refine blockN ?_ | refine blockR ?_ | refine blockX ?_ | refine blockM rfl ?_
        -- region 8
        refine AWp.rseq E_ok [0, 1, 2, 3, 4, 33, 42] fun K hK => ?_
        simp [encCharge_eq, h4, h33, h42]
        repeat refine ⟨by first | omega | (simp only [maxLen]; omega), ?_⟩
        refine hK _ ?_
        clear hK K
        refine AWp.ret ?_
        repeat first | refine thenN ?_ | refine thenX ?_ | refine thenR ?_ | refine blockN ?_ | refine blockR ?_ | refine blockX ?_ | refine blockM rfl ?_
        simp [RetOk, RV, hc]

end Go.Proofs.Ytnmbnihbeggmgaa

set_option maxRecDepth 100000
set_option linter.unusedSimpArgs false
namespace Go.Proofs.Ytnmbnihbeggmgaa
open Go Ab
theorem f44 (l : List Int) (f : Nat) (caps : List D) (p : Int → Bool) (hp : ∀ n, ACalls E.P f (.int .i64 n :: caps) (.d (.bool (p n)))) : ACalls E.P 44 [encInts l, .fn f caps] (.d (.int .i64 (idxF p 0 l))) := by
  refine ACalls.intro E_ok Try.func44 rfl rfl Try.ntmps44 Try.results44 (Nat.le_of_ble_eq_true rfl) fun hok base S0 w0 => ?_
  have hl : l.length ≤ 9223372036854775807 := by have := (Ok_slice (hok (encInts l) (by simp))).1; simpa using this
  -- region 0
  refine AWp.rseq E_ok [0, 1, 4, 5, 7, 8, 9, 16] fun K hK => ?_
  simp [encInts_eq]
  repeat refine ⟨by first | omega | (simp only [maxLen]; omega), ?_⟩
  refine hK _ ?_
  clear hK K
  refine AWp.seq ?_
  -- region 1
  refine AWp.rseq E_ok [0, 1, 4, 5, 7, 8, 9, 16] fun K hK => ?_
  simp [encInts_eq]
  repeat refine ⟨by first | omega | (simp only [maxLen]; omega), ?_⟩
  refine hK _ ?_
  clear hK K
  refine AWp.block ?_
  refine AWp.range (l := l) (F := idxF p) (tot := idxF p 0 l) (fun k y => match y with | i => i = (k : Int)) (fun k y => match y with | i => [(0, T.val (encInts l)), (1, T.val (.fn f caps)), (7, T.val (.int .i64 l.length)), (8, T.val (.int .i64 k))]) (0) ?_ rfl ?_ ?_
  · simp [Weak, TW, encInts_eq]
  · first | exact trivial | (simp; omega) | simp
  rintro k i hk hs hi
  try simp only at hi
  -- region 2
  refine AWp.rseq E_ok [0, 1, 4, 5, 7, 8, 9, 16] fun K hK => ?_
  simp [encInts_eq]
  repeat refine ⟨by first | omega | (simp only [maxLen]; omega), ?_⟩
  refine hK _ ?_
  clear hK K
  refine AWp.seq ?_
  refine AWp.cond rfl (fun h9 => ?_) (fun h9 => ?_)
  · try simp at h9
    obtain ⟨x, hx, hx2, hd⟩ := at_indexG (l := l) h9
    rw [hd] at hs
    refine AWp.skip ?_
    repeat first | refine thenN ?_ | refine thenX ?_ | refine thenR ?_ | refine blockN ?_ | refine blockR ?_ | refine blockX ?_ | refine blockM rfl ?_
    refine AWp.seq ?_
    refine AWp.block ?_
    -- region 3
    refine AWp.rseq E_ok [0, 1, 4, 5, 7, 8, 9, 16] fun K hK => ?_
    simp [encInts_eq, h9, hx, hx2]
    repeat refine ⟨by first | omega | (simp only [maxLen]; omega), ?_⟩
    refine hK _ ?_
    clear hK K
    -- region 4
    refine AWp.rseq E_ok [0, 1, 4, 5, 7, 8, 9, 16] fun K hK => ?_
    simp [encInts_eq, h9, hx, hx2]
    refine meet.of (hp x) ?_
    simp [encInts_eq, h9, hx, hx2]
    repeat refine ⟨by first | omega | (simp only [maxLen]; omega), ?_⟩
    refine hK _ ?_
    clear hK K
    refine AWp.cond rfl (fun h16 => ?_) (fun h16 => ?_)
    · try simp at h16
      -- region 5
      refine AWp.rseq E_ok [0, 1, 4, 5, 7, 8, 9, 16] fun K hK => ?_
      simp [encInts_eq, h9, hx, hx2, h16]
      repeat refine ⟨by first | omega | (simp only [maxLen]; omega), ?_⟩
      refine hK _ ?_
      clear hK K
      refine AWp.ret ?_
      repeat first | refine thenN ?_ | refine thenX ?_ | refine thenR ?_ | refine blockN ?_ | refine blockR ?_ | refine blockX ?_ | refine blockM rfl ?_
      simp [idxF, h16] at hs
      first | (simp [RetOk, RV, ← hs]; done) | (simp [RetOk, RV, ← hs, hi])
    · try simp at h16
      refine AWp.skip ?_
      repeat first | refine thenN ?_ | refine thenX ?_ | refine thenR ?_ | refine blockN ?_ | refine blockR ?_ | refine blockX ?_ | refine blockM rfl ?_
      -- region 6
      refine AWp.rend E_ok [0, 1, 4, 5, 7, 8, 9, 16] fun K hK => ?_
      simp [encInts_eq, h9, hx, hx2, h16]
      repeat refine ⟨by first | omega | (simp only [maxLen]; omega), ?_⟩
      refine hK _ ?_
      clear hK K
      repeat first | refine thenN ?_ | refine thenX ?_ | refine thenR ?_ | refine blockN ?_ | refine blockR ?_ | refine blockX ?_ | refine blockM rfl ?_
      have hw : IntKind.i64.wrap ((k : Int) + 1) = (k : Int) + 1 := by rw [wrap_i64] <;> omega
      simp [idxF, h16] at hs
      refine ⟨_, h9, hs, ?_, ?_⟩
      · first | exact trivial | (simp; omega) | simp
      · simp [Weak, TW, hw, encInts_eq]
  · try simp at h9
    obtain rfl : k = l.length := by omega
    simp [idxF] at hs
    refine AWp.exit ?_
    repeat first | refine thenN ?_ | refine thenX ?_ | refine thenR ?_ | refine blockN ?_ | refine blockR ?_ | refine blockX ?_ | refine blockM rfl ?_
    -- region 7
    refine AWp.rseq E_ok [0, 1, 4, 5, 7, 8, 9, 16] fun K hK => ?_
    simp [encInts_eq, h9]
    repeat refine ⟨by first | omega | (simp only [maxLen]; omega), ?_⟩
    refine hK _ ?_
    clear hK K
    refine AWp.ret ?_
    repeat first | refine thenN ?_ | refine thenX ?_ | refine thenR ?_ | refine blockN ?_ | refine blockR ?_ | refine blockX ?_ | refine blockM rfl ?_
    first | (simp [RetOk, RV, ← hs]; done) | (simp [RetOk, RV, ← hs, hi])

theorem f36 (l : List Int) (f : Nat) (caps : List D) (p : Int → Bool) (hp : ∀ n, ACalls E.P f (.int .i64 n :: caps) (.d (.bool (p n)))) : ACalls E.P 36 [encInts l, .fn f caps] (.d (.bool (l.any p))) := by
  refine ACalls.intro E_ok Try.func36 rfl rfl Try.ntmps36 Try.results36 (Nat.le_of_ble_eq_true rfl) fun hok base S0 w0 => ?_
  -- region 0
  refine AWp.rseq E_ok [0, 1, 4] fun K hK => ?_
  simp [encInts_eq]
  repeat refine ⟨by first | omega | (simp only [maxLen]; omega), ?_⟩
  refine hK _ ?_
  clear hK K
  -- region 1
  refine AWp.rseq E_ok [0, 1, 4] fun K hK => ?_
  simp [encInts_eq]
  refine meet.of (f44 _ _ _ _ hp) ?_
  simp [encInts_eq]
  repeat refine ⟨by first | omega | (simp only [maxLen]; omega), ?_⟩
  refine hK _ ?_
  clear hK K
  refine AWp.ret ?_
  repeat first | refine thenN ?_ | refine thenX ?_ | refine thenR ?_ | refine blockN ?_ | refine blockR ?_ | refine blockX ?_ | refine blockM rfl ?_
  simp [RetOk, RV, idxF_any]

end Go.Proofs.Ytnmbnihbeggmgaa

set_option maxRecDepth 100000
set_option linter.unusedSimpArgs false
namespace Go.Proofs.Ytnmbnihbeggmgaa
open Go Ab
theorem f27 (c : Cal) : ACalls E.P 27 [encCal c] (.d (.int .i64 (calR c))) := by
  refine ACalls.intro E_ok Try.func27 rfl rfl Try.ntmps27 Try.results27 (Nat.le_of_ble_eq_true rfl) fun hok base S0 w0 => ?_
  have hl : c.closed.length ≤ 9223372036854775807 := cal_len (hok (encCal c) (by simp))
  -- region 0
  refine AWp.rseq E_ok [0, 1, 2, 3, 4, 5, 14, 19, 24, 25, 26, 27, 42] fun K hK => ?_
  simp [encCal_eq, encInts_eq]
  repeat refine ⟨by first | omega | (simp only [maxLen]; omega), ?_⟩
  refine hK _ ?_
  clear hK K
  refine AWp.seq ?_
  refine AWp.block ?_
  -- region 1
  refine AWp.rseq E_ok [0, 1, 2, 3, 4, 5, 14, 19, 24, 25, 26, 27, 42] fun K hK => ?_
  simp [encCal_eq, encInts_eq]
  repeat refine ⟨by first | omega | (simp only [maxLen]; omega), ?_⟩
  refine hK _ ?_
  clear hK K
  refine AWp.cond rfl (fun h5 => ?_) (fun h5 => ?_)
  · try simp at h5
    -- region 2
    refine AWp.rseq E_ok [0, 1, 2, 3, 4, 5, 14, 19, 24, 25, 26, 27, 42] fun K hK => ?_
    simp [encCal_eq, encInts_eq, h5]
    repeat refine ⟨by first | omega | (simp only [maxLen]; omega), ?_⟩
    refine hK _ ?_
    clear hK K
    refine AWp.ret ?_
    repeat first | refine thenN ?_ | refine thenX ?_ | refine thenR ?_ | refine blockN ?_ | refine blockR ?_ | refine blockX ?_ | refine blockM rfl ?_
    first | (rw [cal1 h5]; simp [RetOk, RV]; done) | (rw [cal13 h5 h14]; simp [RetOk, RV]; done) | (rw [cal2 h5 h14 h19]; simp [RetOk, RV]; done) | (rw [calA h5 h14 h19]; simp [RetOk, RV, ← hs])
  · try simp at h5
    -- region 3
    refine AWp.rseq E_ok [0, 1, 2, 3, 4, 5, 14, 19, 24, 25, 26, 27, 42] fun K hK => ?_
    simp [encCal_eq, encInts_eq, h5]
    repeat refine ⟨by first | omega | (simp only [maxLen]; omega), ?_⟩
    refine hK _ ?_
    clear hK K
    refine AWp.cond rfl (fun h14 => ?_) (fun h14 => ?_)
    · try simp at h14
      -- region 4
      refine AWp.rseq E_ok [0, 1, 2, 3, 4, 5, 14, 19, 24, 25, 26, 27, 42] fun K hK => ?_
      simp [encCal_eq, encInts_eq, h5, h14]
      repeat refine ⟨by first | omega | (simp only [maxLen]; omega), ?_⟩
      refine hK _ ?_
      clear hK K
      refine AWp.ret ?_
      repeat first | refine thenN ?_ | refine thenX ?_ | refine thenR ?_ | refine blockN ?_ | refine blockR ?_ | refine blockX ?_ | refine blockM rfl ?_
      first | (rw [cal1 h5]; simp [RetOk, RV]; done) | (rw [cal13 h5 h14]; simp [RetOk, RV]; done) | (rw [cal2 h5 h14 h19]; simp [RetOk, RV]; done) | (rw [calA h5 h14 h19]; simp [RetOk, RV, ← hs])
    · try simp at h14
      -- region 5
      refine AWp.rseq E_ok [0, 1, 2, 3, 4, 5, 14, 19, 24, 25, 26, 27, 42] fun K hK => ?_
      simp [encCal_eq, encInts_eq, h5, h14]
      refine meet.of (f36 c.closed 37 [] (fun n => !isDay n) (fun n => f37 n)) ?_
      simp [encCal_eq, encInts_eq, h5, h14]
      repeat refine ⟨by first | omega | (simp only [maxLen]; omega), ?_⟩
      refine hK _ ?_
      clear hK K
      refine AWp.cond rfl (fun h19 => ?_) (fun h19 => ?_)
      · try simp at h19
        -- region 6
        refine AWp.rseq E_ok [0, 1, 2, 3, 4, 5, 14, 19, 24, 25, 26, 27, 42] fun K hK => ?_
        simp [encCal_eq, encInts_eq, h5, h14, h19]
        repeat refine ⟨by first | omega | (simp only [maxLen]; omega), ?_⟩
        refine hK _ ?_
        clear hK K
        refine AWp.ret ?_
        repeat first | refine thenN ?_ | refine thenX ?_ | refine thenR ?_ | refine blockN ?_ | refine blockR ?_ | refine blockX ?_ | refine blockM rfl ?_
        first | (rw [cal1 h5]; simp [RetOk, RV]; done) | (rw [cal13 h5 h14]; simp [RetOk, RV]; done) | (rw [cal2 h5 h14 h19]; simp [RetOk, RV]; done) | (rw [calA h5 h14 h19]; simp [RetOk, RV, ← hs])
      · try simp at h19
        refine AWp.skip ?_
        repeat first | refine thenN ?_ | refine thenX ?_ | refine thenR ?_ | refine blockN ?_ | refine blockR ?_ | refine blockX ?_ | refine blockM rfl ?_
        refine AWp.seq ?_
        -- region 7
        refine AWp.rseq E_ok [0, 1, 2, 3, 4, 5, 14, 19, 24, 25, 26, 27, 42] fun K hK => ?_
        simp [encCal_eq, encInts_eq, h5, h14, h19]
        repeat refine ⟨by first | omega | (simp only [maxLen]; omega), ?_⟩
        refine hK _ ?_
        clear hK K
        refine AWp.block ?_
        refine AWp.range (l := c.closed) (F := ascF) (tot := ascF none c.closed) (fun k y => match y with | pr => pr = if k = 0 then none else c.closed[k-1]?) (fun k y => match y with | pr => [(0, T.val (encCal c)), (1, T.box [C.d (.int .i64 c.week), C.d (encInts c.closed)]), (24, T.val (encInts c.closed)), (25, T.val (.int .i64 c.closed.length)), (26, T.val (.int .i64 k))]) (none) ?_ rfl ?_ ?_
        · simp [Weak, TW, encCal_eq, encInts_eq]
        · first | rfl | (simp [hx])
        rintro k pr hk hs hi
        try simp only at hi
        -- region 8
        refine AWp.rseq E_ok [0, 1, 2, 3, 4, 5, 14, 19, 24, 25, 26, 27, 42] fun K hK => ?_
        simp [encCal_eq, encInts_eq, h5, h14, h19]
        repeat refine ⟨by first | omega | (simp only [maxLen]; omega), ?_⟩
        refine hK _ ?_
        clear hK K
        refine AWp.seq ?_
        refine AWp.cond rfl (fun h27 => ?_) (fun h27 => ?_)
        · try simp at h27
          obtain ⟨x, hx, hx2, hd⟩ := at_indexG (l := c.closed) h27
          rw [hd] at hs
          refine AWp.skip ?_
          repeat first | refine thenN ?_ | refine thenX ?_ | refine thenR ?_ | refine blockN ?_ | refine blockR ?_ | refine blockX ?_ | refine blockM rfl ?_
          refine AWp.seq ?_
          refine AWp.block ?_
          -- region 9
          refine AWp.rseq E_ok [0, 1, 2, 3, 4, 5, 14, 19, 24, 25, 26, 27, 42] fun K hK => ?_
          simp [encCal_eq, encInts_eq, h5, h14, h19, h27, hx, hx2]
          repeat refine ⟨by first | omega | (simp only [maxLen]; omega), ?_⟩
          refine hK _ ?_
          clear hK K
          rcases Nat.eq_zero_or_pos k with hk0 | hk0
          · skip
            have hpr : pr = none := by simpa [hk0] using hi
            have hk1 : ¬ (0 < k) := by omega
            have hlo : lowId pr x = false := by rw [hpr]; rfl
            -- region 10
            refine AWp.rseq E_ok [0, 1, 2, 3, 4, 5, 14, 19, 24, 25, 26, 27, 42] fun K hK => ?_
            simp [encCal_eq, encInts_eq, h5, h14, h19, h27, hx, hx2, hk1]
            repeat refine ⟨by first | omega | (simp only [maxLen]; omega), ?_⟩
            refine hK _ ?_
            clear hK K
            refine AWp.cond rfl (fun h42 => ?_) (fun h42 => ?_)
            · exact absurd h42 (by simp)
            · try simp at h42
              have hlo : lowId pr x = false := by rw [hpr]; first | rfl | simpa [lowId] using h42
              refine AWp.skip ?_
              repeat first | refine thenN ?_ | refine thenX ?_ | refine thenR ?_ | refine blockN ?_ | refine blockR ?_ | refine blockX ?_ | refine blockM rfl ?_
              -- region 12
              refine AWp.rend E_ok [0, 1, 2, 3, 4, 5, 14, 19, 24, 25, 26, 27, 42] fun K hK => ?_
              simp [encCal_eq, encInts_eq, h5, h14, h19, h27, hx, hx2, hk1, h42]
              repeat refine ⟨by first | omega | (simp only [maxLen]; omega), ?_⟩
              refine hK _ ?_
              clear hK K
              repeat first | refine thenN ?_ | refine thenX ?_ | refine thenR ?_ | refine blockN ?_ | refine blockR ?_ | refine blockX ?_ | refine blockM rfl ?_
              have hw : IntKind.i64.wrap ((k : Int) + 1) = (k : Int) + 1 := by rw [wrap_i64] <;> omega
              simp [ascF, hlo] at hs
              refine ⟨_, h27, hs, ?_, ?_⟩
              · first | rfl | (simp [hx])
              · simp [Weak, TW, hw, encCal_eq, encInts_eq]
          · skip
            obtain ⟨j, hkj⟩ : ∃ j, k = j + 1 := ⟨k - 1, by omega⟩
            obtain ⟨y, hy1, hy2, _⟩ := at_indexG (l := c.closed) (k := j) (by omega)
            have hj0 : IntKind.i64.wrap ((k : Int) - 1) = (j : Int) := by rw [wrap_i64] <;> omega
            have hj1 : j < c.closed.length := by omega
            have hpr : pr = some y := by simpa [hkj, hy1] using hi
            -- region 10
            refine AWp.rseq E_ok [0, 1, 2, 3, 4, 5, 14, 19, 24, 25, 26, 27, 42] fun K hK => ?_
            simp [encCal_eq, encInts_eq, h5, h14, h19, h27, hx, hx2, hk0, hj0, hy1, hy2, hj1]
            repeat refine ⟨by first | omega | (simp only [maxLen]; omega), ?_⟩
            refine hK _ ?_
            clear hK K
            refine AWp.cond rfl (fun h42 => ?_) (fun h42 => ?_)
            · try simp at h42
              have hlo : lowId pr x = true := by rw [hpr]; simpa [lowId] using h42
              -- region 11
              refine AWp.rseq E_ok [0, 1, 2, 3, 4, 5, 14, 19, 24, 25, 26, 27, 42] fun K hK => ?_
              simp [encCal_eq, encInts_eq, h5, h14, h19, h27, hx, hx2, hk0, hj0, hy1, hy2, hj1, h42]
              repeat refine ⟨by first | omega | (simp only [maxLen]; omega), ?_⟩
              refine hK _ ?_
              clear hK K
              refine AWp.ret ?_
              repeat first | refine thenN ?_ | refine thenX ?_ | refine thenR ?_ | refine blockN ?_ | refine blockR ?_ | refine blockX ?_ | refine blockM rfl ?_
              first | simp [ascF, hlo] at hs | simp [ascF] at hs
              first | (rw [cal1 h5]; simp [RetOk, RV]; done) | (rw [cal13 h5 h14]; simp [RetOk, RV]; done) | (rw [cal2 h5 h14 h19]; simp [RetOk, RV]; done) | (rw [calA h5 h14 h19]; simp [RetOk, RV, ← hs])
            · try simp at h42
              have hlo : lowId pr x = false := by rw [hpr]; first | rfl | simpa [lowId] using h42
              refine AWp.skip ?_
              repeat first | refine thenN ?_ | refine thenX ?_ | refine thenR ?_ | refine blockN ?_ | refine blockR ?_ | refine blockX ?_ | refine blockM rfl ?_
              -- region 12
              refine AWp.rend E_ok [0, 1, 2, 3, 4, 5, 14, 19, 24, 25, 26, 27, 42] fun K hK => ?_
              simp [encCal_eq, encInts_eq, h5, h14, h19, h27, hx, hx2, hk0, hj0, hy1, hy2, hj1, h42]
              repeat refine ⟨by first | omega | (simp only [maxLen]; omega), ?_⟩
              refine hK _ ?_
              clear hK K
              repeat first | refine thenN ?_ | refine thenX ?_ | refine thenR ?_ | refine blockN ?_ | refine blockR ?_ | refine blockX ?_ | refine blockM rfl ?_
              have hw : IntKind.i64.wrap ((k : Int) + 1) = (k : Int) + 1 := by rw [wrap_i64] <;> omega
              simp [ascF, hlo] at hs
              refine ⟨_, h27, hs, ?_, ?_⟩
              · first | rfl | (simp [hx])
              · simp [Weak, TW, hw, encCal_eq, encInts_eq]
        · try simp at h27
          obtain rfl : k = c.closed.length := by omega
          simp [ascF] at hs
          refine AWp.exit ?_
          repeat first | refine thenN ?_ | refine thenX ?_ | refine thenR ?_ | refine blockN ?_ | refine blockR ?_ | refine blockX ?_ | refine blockM rfl ?_
          -- region 13
          refine AWp.rseq E_ok [0, 1, 2, 3, 4, 5, 14, 19, 24, 25, 26, 27, 42] fun K hK => ?_
          simp [encCal_eq, encInts_eq, h5, h14, h19, h27]
          repeat refine ⟨by first | omega | (simp only [maxLen]; omega), ?_⟩
          refine hK _ ?_
          clear hK K
          refine AWp.ret ?_
          repeat first | refine thenN ?_ | refine thenX ?_ | refine thenR ?_ | refine blockN ?_ | refine blockR ?_ | refine blockX ?_ | refine blockM rfl ?_
          first | (rw [cal1 h5]; simp [RetOk, RV]; done) | (rw [cal13 h5 h14]; simp [RetOk, RV]; done) | (rw [cal2 h5 h14 h19]; simp [RetOk, RV]; done) | (rw [calA h5 h14 h19]; simp [RetOk, RV, ← hs])

end Go.Proofs.Ytnmbnihbeggmgaa

set_option maxRecDepth 100000
set_option linter.unusedSimpArgs false
namespace Go.Proofs.Ytnmbnihbeggmgaa
open Go Ab
theorem f40 (d w : Int) : ACalls E.P 40 [.int .i64 d, .int .i64 w] (.d (.int .i64 (upToW d w))) := by
  refine ACalls.intro E_ok Try.func40 rfl rfl Try.ntmps40 Try.results40 (Nat.le_of_ble_eq_true rfl) fun hok base S0 w0 => ?_
  -- region 0
  refine AWp.rseq E_ok [0, 1, 4, 5, 13] fun K hK => ?_
  simp
  repeat refine ⟨by first | omega | (simp only [maxLen]; omega), ?_⟩
  refine hK _ ?_
  clear hK K
  -- region 1
  refine AWp.rseq E_ok [0, 1, 4, 5, 13] fun K hK => ?_
  simp
  refine meet.of (f41 0) ?_
  simp
  repeat refine ⟨by first | omega | (simp only [maxLen]; omega), ?_⟩
  refine hK _ ?_
  clear hK K
  refine AWp.seq ?_
  -- region 2
  refine AWp.rseq E_ok [0, 1, 4, 5, 13] fun K hK => ?_
  simp
  repeat refine ⟨by first | omega | (simp only [maxLen]; omega), ?_⟩
  refine hK _ ?_
  clear hK K
  refine AWp.cond rfl (fun h13 => ?_) (fun h13 => ?_)
  · try simp at h13
    -- region 3
    refine AWp.rseq E_ok [0, 1, 4, 5, 13] fun K hK => ?_
    simp [h13]
    repeat refine ⟨by first | omega | (simp only [maxLen]; omega), ?_⟩
    refine hK _ ?_
    clear hK K
    refine AWp.ret ?_
    repeat first | refine thenN ?_ | refine thenX ?_ | refine thenR ?_ | refine blockN ?_ | refine blockR ?_ | refine blockX ?_ | refine blockM rfl ?_
    first | (rw [upToW_lt h13]; simp [RetOk, RV]; done) | (rw [upToW_ge h13]; simp [RetOk, RV, fst7])
  · try simp at h13
    refine AWp.skip ?_
    repeat first | refine thenN ?_ | refine thenX ?_ | refine thenR ?_ | refine blockN ?_ | refine blockR ?_ | refine blockX ?_ | refine blockM rfl ?_
    -- region 4
    refine AWp.rseq E_ok [0, 1, 4, 5, 13] fun K hK => ?_
    simp [h13]
    repeat refine ⟨by first | omega | (simp only [maxLen]; omega), ?_⟩
    refine hK _ ?_
    clear hK K
    refine AWp.ret ?_
    repeat first | refine thenN ?_ | refine thenX ?_ | refine thenR ?_ | refine blockN ?_ | refine blockR ?_ | refine blockX ?_ | refine blockM rfl ?_
    first | (rw [upToW_lt h13]; simp [RetOk, RV]; done) | (rw [upToW_ge h13]; simp [RetOk, RV, fst7])

end Go.Proofs.Ytnmbnihbeggmgaa

set_option maxRecDepth 100000
set_option linter.unusedSimpArgs false
namespace Go.Proofs.Ytnmbnihbeggmgaa
open Go Ab
theorem f39 (c : Cal) : ACalls E.P 39 [encCal c] (.d (.agg (weekL c.week))) := by
  refine ACalls.intro E_ok Try.func39 rfl rfl Try.ntmps39 Try.results39 (Nat.le_of_ble_eq_true rfl) fun hok base S0 w0 => ?_
  -- region 0
  refine AWp.rseq E_ok [0, 1, 2, 3, 4, 5, 6] fun K hK => ?_
  simp [encCal_eq, encInts_eq]
  repeat refine ⟨by first | omega | (simp only [maxLen]; omega), ?_⟩
  refine hK _ ?_
  clear hK K
  -- region 1
  refine AWp.rseq E_ok [0, 1, 2, 3, 4, 5, 6] fun K hK => ?_
  simp [encCal_eq, encInts_eq]
  repeat refine ⟨by first | omega | (simp only [maxLen]; omega), ?_⟩
  refine hK _ ?_
  clear hK K
  refine AWp.seq ?_
  -- region 2
  refine AWp.rseq E_ok [0, 1, 2, 3, 4, 5, 6] fun K hK => ?_
  simp [encCal_eq, encInts_eq]
  repeat refine ⟨by first | omega | (simp only [maxLen]; omega), ?_⟩
  refine hK _ ?_
  clear hK K
  refine AWp.block ?_
  refine AWp.loop (ι := { k : Nat // k ≤ 7 }) (fun x => match x with | ⟨k, hk⟩ => [(0, T.val (encCal c)), (1, T.box [C.d (.int .i64 c.week), C.d (encInts c.closed)]), (2, T.box [C.d (.bool false), C.d (.bool false), C.d (.bool false), C.d (.bool false), C.d (.bool false), C.d (.bool false), C.d (.bool false)]), (3, T.box [C.d (.bool (decide (0 < k) && wkB c.week 0)), C.d (.bool (decide (1 < k) && wkB c.week 1)), C.d (.bool (decide (2 < k) && wkB c.week 2)), C.d (.bool (decide (3 < k) && wkB c.week 3)), C.d (.bool (decide (4 < k) && wkB c.week 4)), C.d (.bool (decide (5 < k) && wkB c.week 5)), C.d (.bool (decide (6 < k) && wkB c.week 6))]), (5, T.val (.int .i64 k))]) (fun x => match x with | ⟨k, hk⟩ => 7 - k) ⟨0, by omega⟩ ?_ ?_
  · simp [Weak, TW, encCal_eq, encInts_eq]
  rintro ⟨k, hk⟩
  simp only
  -- region 3
  refine AWp.rseq E_ok [0, 1, 2, 3, 4, 5, 6] fun K hK => ?_
  simp [encCal_eq, encInts_eq]
  repeat refine ⟨by first | omega | (simp only [maxLen]; omega), ?_⟩
  refine hK _ ?_
  clear hK K
  refine AWp.seq ?_
  refine AWp.cond rfl (fun h6 => ?_) (fun h6 => ?_)
  · try simp at h6
    refine AWp.skip ?_
    repeat first | refine thenN ?_ | refine thenX ?_ | refine thenR ?_ | refine blockN ?_ | refine blockR ?_ | refine blockX ?_ | refine blockM rfl ?_
    refine AWp.seq ?_
    refine AWp.block ?_
    -- region 4
    refine AWp.rseq E_ok [0, 1, 2, 3, 4, 5, 6] fun K hK => ?_
    simp [encCal_eq, encInts_eq, h6]
    repeat refine ⟨by first | omega | (simp only [maxLen]; omega), ?_⟩
    refine hK _ ?_
    clear hK K
    -- region 5
    refine AWp.rend E_ok [0, 1, 2, 3, 4, 5, 6] fun K hK => ?_
    simp [encCal_eq, encInts_eq, h6]
    repeat refine ⟨by first | omega | (simp only [maxLen]; omega), ?_⟩
    refine hK _ ?_
    clear hK K
    repeat first | refine thenN ?_ | refine thenX ?_ | refine thenR ?_ | refine blockN ?_ | refine blockR ?_ | refine blockX ?_ | refine blockM rfl ?_
    -- region 6
    refine AWp.rend E_ok [0, 1, 2, 3, 4, 5, 6] fun K hK => ?_
    simp [encCal_eq, encInts_eq, h6]
    repeat refine ⟨by first | omega | (simp only [maxLen]; omega), ?_⟩
    refine hK _ ?_
    clear hK K
    repeat first | refine thenN ?_ | refine thenX ?_ | refine thenR ?_ | refine blockN ?_ | refine blockR ?_ | refine blockX ?_ | refine blockM rfl ?_
    have hw : IntKind.i64.wrap ((k : Int) + 1) = (k : Int) + 1 := by rw [wrap_i64] <;> omega
    have hk7 : k = 0 ∨ k = 1 ∨ k = 2 ∨ k = 3 ∨ k = 4 ∨ k = 5 ∨ k = 6 := by omega
    refine ⟨⟨k + 1, by omega⟩, ?_, by simp only; omega⟩
    rcases hk7 with rfl | rfl | rfl | rfl | rfl | rfl | rfl <;> simp at hw <;> simp [Weak, TW, encCal_eq, encInts_eq, wkB, hw]
  · try simp at h6
    obtain rfl : k = 7 := by omega
    refine AWp.exit ?_
    repeat first | refine thenN ?_ | refine thenX ?_ | refine thenR ?_ | refine blockN ?_ | refine blockR ?_ | refine blockX ?_ | refine blockM rfl ?_
    -- region 7
    refine AWp.rseq E_ok [0, 1, 2, 3, 4, 5, 6] fun K hK => ?_
    simp [encCal_eq, encInts_eq, h6]
    repeat refine ⟨by first | omega | (simp only [maxLen]; omega), ?_⟩
    refine hK _ ?_
    clear hK K
    refine AWp.ret ?_
    repeat first | refine thenN ?_ | refine thenX ?_ | refine thenR ?_ | refine blockN ?_ | refine blockR ?_ | refine blockX ?_ | refine blockM rfl ?_
    simp [RetOk, RV, weekL]

end Go.Proofs.Ytnmbnihbeggmgaa

set_option maxRecDepth 100000
set_option linter.unusedSimpArgs false
namespace Go.Proofs.Ytnmbnihbeggmgaa
open Go Ab
theorem f29 (c : Cal) (f t : Int) (hcl : c.closed.length ≤ 1000000) : ACalls E.P 29 [encCal c, .int .i64 f, .int .i64 t] (.d (.int .i64 (countR c f t))) := by
  refine ACalls.intro E_ok Try.func29 rfl rfl Try.ntmps29 Try.results29 (Nat.le_of_ble_eq_true rfl) fun hok base S0 w0 => ?_
  -- region 0
  refine AWp.rseq E_ok [0, 1, 2, 3, 6, 7, 8, 9, 10, 12, 19, 22, 23, 24, 27, 40, 41, 42, 43, 59] fun K hK => ?_
  simp [encCal_eq, encInts_eq]
  repeat refine ⟨by first | omega | (simp only [maxLen]; omega), ?_⟩
  refine hK _ ?_
  clear hK K
  -- region 1
  refine AWp.rseq E_ok [0, 1, 2, 3, 6, 7, 8, 9, 10, 12, 19, 22, 23, 24, 27, 40, 41, 42, 43, 59] fun K hK => ?_
  simp [encCal_eq, encInts_eq]
  repeat refine ⟨by first | omega | (simp only [maxLen]; omega), ?_⟩
  refine hK _ ?_
  clear hK K
  generalize hlo : (if f < 0 then 0 else f) = lo
  generalize hhi : (if 109572 < t then 109572 else t) = hi'
  have hlo0 : 0 ≤ lo := by rw [← hlo]; split <;> omega
  have hhi0 : hi' ≤ 109572 := by rw [← hhi]; split <;> omega
  refine AWp.seq ?_
  -- region 2
  refine AWp.rseq E_ok [0, 1, 2, 3, 6, 7, 8, 9, 10, 12, 19, 22, 23, 24, 27, 40, 41, 42, 43, 59] fun K hK => ?_
  simp [encCal_eq, encInts_eq]
  repeat refine ⟨by first | omega | (simp only [maxLen]; omega), ?_⟩
  refine hK _ ?_
  clear hK K
  refine AWp.cond rfl (fun h19 => ?_) (fun h19 => ?_)
  · try simp at h19
    -- region 3
    refine AWp.rseq E_ok [0, 1, 2, 3, 6, 7, 8, 9, 10, 12, 19, 22, 23, 24, 27, 40, 41, 42, 43, 59] fun K hK => ?_
    simp [encCal_eq, encInts_eq]
    repeat refine ⟨by first | omega | (simp only [maxLen]; omega), ?_⟩
    refine hK _ ?_
    clear hK K
    refine AWp.ret ?_
    repeat first | refine thenN ?_ | refine thenX ?_ | refine thenR ?_ | refine blockN ?_ | refine blockR ?_ | refine blockX ?_ | refine blockM rfl ?_
    first | (simp [RetOk, RV, countR, hlo, hhi, h19]; done) | (rw [countR_ge hlo hhi h19]; simp [RetOk, RV, ← hs])
  · try simp at h19
    refine AWp.skip ?_
    repeat first | refine thenN ?_ | refine thenX ?_ | refine thenR ?_ | refine blockN ?_ | refine blockR ?_ | refine blockX ?_ | refine blockM rfl ?_
    -- region 4
    refine AWp.rseq E_ok [0, 1, 2, 3, 6, 7, 8, 9, 10, 12, 19, 22, 23, 24, 27, 40, 41, 42, 43, 59] fun K hK => ?_
    simp [encCal_eq, encInts_eq]
    refine meet.of (f39 c) ?_
    simp [encCal_eq, encInts_eq]
    repeat refine ⟨by first | omega | (simp only [maxLen]; omega), ?_⟩
    refine hK _ ?_
    clear hK K
    -- region 5
    refine AWp.rseq E_ok [0, 1, 2, 3, 6, 7, 8, 9, 10, 12, 19, 22, 23, 24, 27, 40, 41, 42, 43, 59] fun K hK => ?_
    simp [encCal_eq, encInts_eq]
    repeat refine ⟨by first | omega | (simp only [maxLen]; omega), ?_⟩
    refine hK _ ?_
    clear hK K
    refine AWp.seq ?_
    -- region 6
    refine AWp.rseq E_ok [0, 1, 2, 3, 6, 7, 8, 9, 10, 12, 19, 22, 23, 24, 27, 40, 41, 42, 43, 59] fun K hK => ?_
    simp [encCal_eq, encInts_eq]
    repeat refine ⟨by first | omega | (simp only [maxLen]; omega), ?_⟩
    refine hK _ ?_
    clear hK K
    refine AWp.block ?_
    refine AWp.loop (ι := { k : Nat // k ≤ 7 }) (fun x => match x with | ⟨k, hk⟩ => [(0, T.val (encCal c)), (1, T.val (.int .i64 lo)), (2, T.val (.int .i64 hi')), (3, T.box [C.d (.int .i64 c.week), C.d (encInts c.closed)]), (7, T.box ((weekL c.week).map C.d)), (8, T.val (.int .i64 (cnt7 c.week lo hi' k))), (22, T.val (.agg (weekL c.week))), (23, T.val (.int .i64 k))]) (fun x => match x with | ⟨k, hk⟩ => 7 - k) ⟨0, by omega⟩ ?_ ?_
    · simp [Weak, TW, encCal_eq, encInts_eq]
    rintro ⟨k, hk⟩
    simp only
    -- region 7
    refine AWp.rseq E_ok [0, 1, 2, 3, 6, 7, 8, 9, 10, 12, 19, 22, 23, 24, 27, 40, 41, 42, 43, 59] fun K hK => ?_
    simp [encCal_eq, encInts_eq]
    repeat refine ⟨by first | omega | (simp only [maxLen]; omega), ?_⟩
    refine hK _ ?_
    clear hK K
    refine AWp.seq ?_
    refine AWp.cond rfl (fun h24 => ?_) (fun h24 => ?_)
    · try simp at h24
      have hk7 : k < 7 := by omega
      refine AWp.skip ?_
      repeat first | refine thenN ?_ | refine thenX ?_ | refine thenR ?_ | refine blockN ?_ | refine blockR ?_ | refine blockX ?_ | refine blockM rfl ?_
      refine AWp.seq ?_
      refine AWp.block ?_
      -- region 8
      refine AWp.rseq E_ok [0, 1, 2, 3, 6, 7, 8, 9, 10, 12, 19, 22, 23, 24, 27, 40, 41, 42, 43, 59] fun K hK => ?_
      simp [encCal_eq, encInts_eq, h24, hk7]
      repeat refine ⟨by first | omega | (simp only [maxLen]; omega), ?_⟩
      refine hK _ ?_
      clear hK K
      -- region 9
      refine AWp.rseq E_ok [0, 1, 2, 3, 6, 7, 8, 9, 10, 12, 19, 22, 23, 24, 27, 40, 41, 42, 43, 59] fun K hK => ?_
      simp [encCal_eq, encInts_eq, h24, hk7]
      repeat refine ⟨by first | omega | (simp only [maxLen]; omega), ?_⟩
      refine hK _ ?_
      clear hK K
      refine AWp.cond rfl (fun h27 => ?_) (fun h27 => ?_)
      · try simp at h27
        -- region 10
        refine AWp.rend E_ok [0, 1, 2, 3, 6, 7, 8, 9, 10, 12, 19, 22, 23, 24, 27, 40, 41, 42, 43, 59] fun K hK => ?_
        simp [encCal_eq, encInts_eq, h24, hk7, h27]
        refine meet.of (f40 _ _) ?_
        simp [encCal_eq, encInts_eq, h24, hk7, h27]
        refine meet.of (f40 _ _) ?_
        simp [encCal_eq, encInts_eq, h24, hk7, h27]
        repeat refine ⟨by first | omega | (simp only [maxLen]; omega), ?_⟩
        refine hK _ ?_
        clear hK K
        repeat first | refine thenN ?_ | refine thenX ?_ | refine thenR ?_ | refine blockN ?_ | refine blockR ?_ | refine blockX ?_ | refine blockM rfl ?_
        -- region 11
        refine AWp.rend E_ok [0, 1, 2, 3, 6, 7, 8, 9, 10, 12, 19, 22, 23, 24, 27, 40, 41, 42, 43, 59] fun K hK => ?_
        simp [encCal_eq, encInts_eq, h24, hk7, h27]
        repeat refine ⟨by first | omega | (simp only [maxLen]; omega), ?_⟩
        refine hK _ ?_
        clear hK K
        repeat first | refine thenN ?_ | refine thenX ?_ | refine thenR ?_ | refine blockN ?_ | refine blockR ?_ | refine blockX ?_ | refine blockM rfl ?_
        have hw : IntKind.i64.wrap ((k : Int) + 1) = (k : Int) + 1 := by rw [wrap_i64] <;> omega
        try simp [hk7] at h27
        refine ⟨⟨k + 1, by omega⟩, ?_, by simp only; omega⟩
        simp [Weak, TW, encCal_eq, encInts_eq, cnt7, hw, h27]
      · try simp at h27
        refine AWp.skip ?_
        repeat first | refine thenN ?_ | refine thenX ?_ | refine thenR ?_ | refine blockN ?_ | refine blockR ?_ | refine blockX ?_ | refine blockM rfl ?_
        -- region 11
        refine AWp.rend E_ok [0, 1, 2, 3, 6, 7, 8, 9, 10, 12, 19, 22, 23, 24, 27, 40, 41, 42, 43, 59] fun K hK => ?_
        simp [encCal_eq, encInts_eq, h24, hk7, h27]
        repeat refine ⟨by first | omega | (simp only [maxLen]; omega), ?_⟩
        refine hK _ ?_
        clear hK K
        repeat first | refine thenN ?_ | refine thenX ?_ | refine thenR ?_ | refine blockN ?_ | refine blockR ?_ | refine blockX ?_ | refine blockM rfl ?_
        have hw : IntKind.i64.wrap ((k : Int) + 1) = (k : Int) + 1 := by rw [wrap_i64] <;> omega
        try simp [hk7] at h27
        refine ⟨⟨k + 1, by omega⟩, ?_, by simp only; omega⟩
        simp [Weak, TW, encCal_eq, encInts_eq, cnt7, hw, h27]
    · try simp at h24
      obtain rfl : k = 7 := by omega
      refine AWp.exit ?_
      repeat first | refine thenN ?_ | refine thenX ?_ | refine thenR ?_ | refine blockN ?_ | refine blockR ?_ | refine blockX ?_ | refine blockM rfl ?_
      refine AWp.seq ?_
      -- region 12
      refine AWp.rseq E_ok [0, 1, 2, 3, 6, 7, 8, 9, 10, 12, 19, 22, 23, 24, 27, 40, 41, 42, 43, 59] fun K hK => ?_
      simp [encCal_eq, encInts_eq, h24]
      repeat refine ⟨by first | omega | (simp only [maxLen]; omega), ?_⟩
      refine hK _ ?_
      clear hK K
      refine AWp.block ?_
      refine AWp.range (l := c.closed) (F := cntG c.week lo hi') (tot := cntG c.week lo hi' (cnt7 c.week lo hi' 7) c.closed) (fun k y => match y with | n => True) (fun k y => match y with | n => [(1, T.val (.int .i64 lo)), (2, T.val (.int .i64 hi')), (3, T.box [C.d (.int .i64 c.week), C.d (encInts c.closed)]), (7, T.box ((weekL c.week).map C.d)), (8, T.val (.int .i64 n)), (40, T.val (encInts c.closed)), (41, T.val (.int .i64 c.closed.length)), (42, T.val (.int .i64 k))]) (cnt7 c.week lo hi' 7) ?_ rfl ?_ ?_
      · simp [Weak, TW, encCal_eq, encInts_eq]
      · first | exact trivial | (simp; omega) | simp
      rintro k n hk hs hi
      try simp only at hi
      -- region 13
      refine AWp.rseq E_ok [0, 1, 2, 3, 6, 7, 8, 9, 10, 12, 19, 22, 23, 24, 27, 40, 41, 42, 43, 59] fun K hK => ?_
      simp [encCal_eq, encInts_eq, h24]
      repeat refine ⟨by first | omega | (simp only [maxLen]; omega), ?_⟩
      refine hK _ ?_
      clear hK K
      refine AWp.seq ?_
      refine AWp.cond rfl (fun h43 => ?_) (fun h43 => ?_)
      · try simp at h43
        obtain ⟨x, hx, hx2, hd⟩ := at_indexG (l := c.closed) h43
        rw [hd] at hs
        refine AWp.skip ?_
        repeat first | refine thenN ?_ | refine thenX ?_ | refine thenR ?_ | refine blockN ?_ | refine blockR ?_ | refine blockX ?_ | refine blockM rfl ?_
        refine AWp.seq ?_
        refine AWp.block ?_
        -- region 14
        refine AWp.rseq E_ok [0, 1, 2, 3, 6, 7, 8, 9, 10, 12, 19, 22, 23, 24, 27, 40, 41, 42, 43, 59] fun K hK => ?_
        simp [encCal_eq, encInts_eq, h24, h43, hx, hx2]
        repeat refine ⟨by first | omega | (simp only [maxLen]; omega), ?_⟩
        refine hK _ ?_
        clear hK K
        -- region 15
        refine AWp.rseq E_ok [0, 1, 2, 3, 6, 7, 8, 9, 10, 12, 19, 22, 23, 24, 27, 40, 41, 42, 43, 59] fun K hK => ?_
        simp [encCal_eq, encInts_eq, h24, h43, hx, hx2]
        refine meet.of (f41 _) ?_
        simp [encCal_eq, encInts_eq, h24, h43, hx, hx2]
        refine ⟨fun h1 h2 => wday_rng (by omega) (by omega), fun h1 h2 => (wday_rng (by omega) (by omega)).2, ?_⟩
        repeat refine ⟨by first | omega | (simp only [maxLen]; omega), ?_⟩
        refine hK _ ?_
        clear hK K
        refine AWp.cond rfl (fun h59 => ?_) (fun h59 => ?_)
        · try simp at h59
          have hc : cntIn c.week lo hi' x = true := by simpa [cntIn] using h59
          -- region 16
          refine AWp.rend E_ok [0, 1, 2, 3, 6, 7, 8, 9, 10, 12, 19, 22, 23, 24, 27, 40, 41, 42, 43, 59] fun K hK => ?_
          simp [encCal_eq, encInts_eq, h24, h43, hx, hx2, h59]
          repeat refine ⟨by first | omega | (simp only [maxLen]; omega), ?_⟩
          refine hK _ ?_
          clear hK K
          repeat first | refine thenN ?_ | refine thenX ?_ | refine thenR ?_ | refine blockN ?_ | refine blockR ?_ | refine blockX ?_ | refine blockM rfl ?_
          -- region 17
          refine AWp.rend E_ok [0, 1, 2, 3, 6, 7, 8, 9, 10, 12, 19, 22, 23, 24, 27, 40, 41, 42, 43, 59] fun K hK => ?_
          simp [encCal_eq, encInts_eq, h24, h43, hx, hx2, h59]
          repeat refine ⟨by first | omega | (simp only [maxLen]; omega), ?_⟩
          refine hK _ ?_
          clear hK K
          repeat first | refine thenN ?_ | refine thenX ?_ | refine thenR ?_ | refine blockN ?_ | refine blockR ?_ | refine blockX ?_ | refine blockM rfl ?_
          have hw : IntKind.i64.wrap ((k : Int) + 1) = (k : Int) + 1 := by rw [wrap_i64] <;> omega
          simp [cntG, hc] at hs
          refine ⟨_, h43, hs, ?_, ?_⟩
          · first | exact trivial | (simp; omega) | simp
          · simp [Weak, TW, hw, encCal_eq, encInts_eq]
        · try simp at h59
          have hc : cntIn c.week lo hi' x = false := by simpa [cntIn] using h59
          refine AWp.skip ?_
          repeat first | refine thenN ?_ | refine thenX ?_ | refine thenR ?_ | refine blockN ?_ | refine blockR ?_ | refine blockX ?_ | refine blockM rfl ?_
          -- region 17
          refine AWp.rend E_ok [0, 1, 2, 3, 6, 7, 8, 9, 10, 12, 19, 22, 23, 24, 27, 40, 41, 42, 43, 59] fun K hK => ?_
          simp [encCal_eq, encInts_eq, h24, h43, hx, hx2, h59]
          repeat refine ⟨by first | omega | (simp only [maxLen]; omega), ?_⟩
          refine hK _ ?_
          clear hK K
          repeat first | refine thenN ?_ | refine thenX ?_ | refine thenR ?_ | refine blockN ?_ | refine blockR ?_ | refine blockX ?_ | refine blockM rfl ?_
          have hw : IntKind.i64.wrap ((k : Int) + 1) = (k : Int) + 1 := by rw [wrap_i64] <;> omega
          simp [cntG, hc] at hs
          refine ⟨_, h43, hs, ?_, ?_⟩
          · first | exact trivial | (simp; omega) | simp
          · simp [Weak, TW, hw, encCal_eq, encInts_eq]
      · try simp at h43
        obtain rfl : k = c.closed.length := by omega
        simp [cntG] at hs
        refine AWp.exit ?_
        repeat first | refine thenN ?_ | refine thenX ?_ | refine thenR ?_ | refine blockN ?_ | refine blockR ?_ | refine blockX ?_ | refine blockM rfl ?_
        -- region 18
        refine AWp.rseq E_ok [0, 1, 2, 3, 6, 7, 8, 9, 10, 12, 19, 22, 23, 24, 27, 40, 41, 42, 43, 59] fun K hK => ?_
        simp [encCal_eq, encInts_eq, h24, h43]
        repeat refine ⟨by first | omega | (simp only [maxLen]; omega), ?_⟩
        refine hK _ ?_
        clear hK K
        refine AWp.ret ?_
        repeat first | refine thenN ?_ | refine thenX ?_ | refine thenR ?_ | refine blockN ?_ | refine blockR ?_ | refine blockX ?_ | refine blockM rfl ?_
        first | (simp [RetOk, RV, countR, hlo, hhi, h19]; done) | (rw [countR_ge hlo hhi h19]; simp [RetOk, RV, ← hs])

end Go.Proofs.Ytnmbnihbeggmgaa

set_option maxRecDepth 100000
set_option linter.unusedSimpArgs false
namespace Go.Proofs.Ytnmbnihbeggmgaa
open Go Ab
theorem f11 (r : Rule) (c : Cal) (d b : Int) (hcl : c.closed.length ≤ 1000000) : ACalls E.P 11 [encRule r, encCal c, .int .i64 d, .int .i64 b] (.d (.int .i64 (lateR r c d b))) := by
  refine ACalls.intro E_ok Try.func11 rfl rfl Try.ntmps11 Try.results11 (Nat.le_of_ble_eq_true rfl) fun hok base S0 w0 => ?_
  -- region 0
  refine AWp.rseq E_ok [0, 1, 2, 3, 4, 5, 8, 9, 22, 31] fun K hK => ?_
  simp [encCal_eq, encRule_eq, encInts_eq]
  repeat refine ⟨by first | omega | (simp only [maxLen]; omega), ?_⟩
  refine hK _ ?_
  clear hK K
  refine AWp.seq ?_
  -- region 1
  refine AWp.rseq E_ok [0, 1, 2, 3, 4, 5, 8, 9, 22, 31] fun K hK => ?_
  simp [encCal_eq, encRule_eq, encInts_eq]
  refine meet.of (f27 c) ?_
  simp [encCal_eq, encRule_eq, encInts_eq]
  refine meet.of (f28 _) ?_
  simp [encCal_eq, encRule_eq, encInts_eq]
  refine meet.of (f28 _) ?_
  simp [encCal_eq, encRule_eq, encInts_eq]
  repeat refine ⟨by first | omega | (simp only [maxLen]; omega), ?_⟩
  refine hK _ ?_
  clear hK K
  refine AWp.cond rfl (fun h22 => ?_) (fun h22 => ?_)
  · try simp at h22
    -- region 2
    refine AWp.rseq E_ok [0, 1, 2, 3, 4, 5, 8, 9, 22, 31] fun K hK => ?_
    simp [encCal_eq, encRule_eq, encInts_eq, h22]
    repeat refine ⟨by first | omega | (simp only [maxLen]; omega), ?_⟩
    refine hK _ ?_
    clear hK K
    refine AWp.ret ?_
    repeat first | refine thenN ?_ | refine thenX ?_ | refine thenR ?_ | refine blockN ?_ | refine blockR ?_ | refine blockX ?_ | refine blockM rfl ?_
    first | (rw [lateR_bad h22]; simp [RetOk, RV]; done) | (rw [lateR_gr h22 h31]; simp [RetOk, RV]; done) | (rw [lateR_ok h22 h31]; simp [RetOk, RV])
  · try simp at h22
    refine AWp.skip ?_
    repeat first | refine thenN ?_ | refine thenX ?_ | refine thenR ?_ | refine blockN ?_ | refine blockR ?_ | refine blockX ?_ | refine blockM rfl ?_
    -- region 3
    refine AWp.rseq E_ok [0, 1, 2, 3, 4, 5, 8, 9, 22, 31] fun K hK => ?_
    simp [encCal_eq, encRule_eq, encInts_eq, h22]
    refine meet.of (f29 c _ _ (by omega)) ?_
    simp [encCal_eq, encRule_eq, encInts_eq, h22]
    repeat refine ⟨by first | omega | (simp only [maxLen]; omega), ?_⟩
    refine hK _ ?_
    clear hK K
    refine AWp.seq ?_
    -- region 4
    refine AWp.rseq E_ok [0, 1, 2, 3, 4, 5, 8, 9, 22, 31] fun K hK => ?_
    simp [encCal_eq, encRule_eq, encInts_eq, h22]
    repeat refine ⟨by first | omega | (simp only [maxLen]; omega), ?_⟩
    refine hK _ ?_
    clear hK K
    refine AWp.cond rfl (fun h31 => ?_) (fun h31 => ?_)
    · try simp at h31
      -- region 5
      refine AWp.rseq E_ok [0, 1, 2, 3, 4, 5, 8, 9, 22, 31] fun K hK => ?_
      simp [encCal_eq, encRule_eq, encInts_eq, h22, h31]
      repeat refine ⟨by first | omega | (simp only [maxLen]; omega), ?_⟩
      refine hK _ ?_
      clear hK K
      refine AWp.ret ?_
      repeat first | refine thenN ?_ | refine thenX ?_ | refine thenR ?_ | refine blockN ?_ | refine blockR ?_ | refine blockX ?_ | refine blockM rfl ?_
      first | (rw [lateR_bad h22]; simp [RetOk, RV]; done) | (rw [lateR_gr h22 h31]; simp [RetOk, RV]; done) | (rw [lateR_ok h22 h31]; simp [RetOk, RV])
    · try simp at h31
      refine AWp.skip ?_
      repeat first | refine thenN ?_ | refine thenX ?_ | refine thenR ?_ | refine blockN ?_ | refine blockR ?_ | refine blockX ?_ | refine blockM rfl ?_
      -- region 6
      refine AWp.rseq E_ok [0, 1, 2, 3, 4, 5, 8, 9, 22, 31] fun K hK => ?_
      simp [encCal_eq, encRule_eq, encInts_eq, h22, h31]
      repeat refine ⟨by first | omega | (simp only [maxLen]; omega), ?_⟩
      refine hK _ ?_
      clear hK K
      refine AWp.ret ?_
      repeat first | refine thenN ?_ | refine thenX ?_ | refine thenR ?_ | refine blockN ?_ | refine blockR ?_ | refine blockX ?_ | refine blockM rfl ?_
      first | (rw [lateR_bad h22]; simp [RetOk, RV]; done) | (rw [lateR_gr h22 h31]; simp [RetOk, RV]; done) | (rw [lateR_ok h22 h31]; simp [RetOk, RV])

end Go.Proofs.Ytnmbnihbeggmgaa

set_option maxRecDepth 100000
set_option linter.unusedSimpArgs false
namespace Go.Proofs.Ytnmbnihbeggmgaa
open Go Ab
theorem f16 (l : List Charge) (p : Int) : ACalls E.P 16 [encCharges l, .int .i64 p] (.d (.int .i64 (owedF p 0 l))) := by
  refine ACalls.intro E_ok Try.func16 rfl rfl Try.ntmps16 Try.results16 (Nat.le_of_ble_eq_true rfl) fun hok base S0 w0 => ?_
  have hl : l.length ≤ 9223372036854775807 := by have := (Ok_slice (hok (encCharges l) (by simp))).1; simpa using this
  -- region 0
  refine AWp.rseq E_ok [0, 1, 4, 5, 7, 8, 9, 10, 11, 17] fun K hK => ?_
  simp [encCharges_eq]
  repeat refine ⟨by first | omega | (simp only [maxLen]; omega), ?_⟩
  refine hK _ ?_
  clear hK K
  -- region 1
  refine AWp.rseq E_ok [0, 1, 4, 5, 7, 8, 9, 10, 11, 17] fun K hK => ?_
  simp [encCharges_eq]
  repeat refine ⟨by first | omega | (simp only [maxLen]; omega), ?_⟩
  refine hK _ ?_
  clear hK K
  refine AWp.seq ?_
  -- region 2
  refine AWp.rseq E_ok [0, 1, 4, 5, 7, 8, 9, 10, 11, 17] fun K hK => ?_
  simp [encCharges_eq]
  repeat refine ⟨by first | omega | (simp only [maxLen]; omega), ?_⟩
  refine hK _ ?_
  clear hK K
  refine AWp.block ?_
  refine AWp.range (l := l) (F := owedF p) (tot := owedF p 0 l) (fun k y => match y with | s => True) (fun k y => match y with | s => [(0, T.val (encCharges l)), (1, T.val (.int .i64 p)), (5, T.val (.int .i64 s)), (8, T.val (encCharges l)), (9, T.val (.int .i64 l.length)), (10, T.val (.int .i64 k))]) (0) ?_ rfl ?_ ?_
  · simp [Weak, TW, encCharges_eq]
  · first | exact trivial | (simp; omega) | simp
  rintro k s hk hs hi
  try simp only at hi
  -- region 3
  refine AWp.rseq E_ok [0, 1, 4, 5, 7, 8, 9, 10, 11, 17] fun K hK => ?_
  simp [encCharges_eq]
  repeat refine ⟨by first | omega | (simp only [maxLen]; omega), ?_⟩
  refine hK _ ?_
  clear hK K
  refine AWp.seq ?_
  refine AWp.cond rfl (fun h11 => ?_) (fun h11 => ?_)
  · try simp at h11
    obtain ⟨x, hx, hx2, hd⟩ := at_indexG (l := l) h11
    rw [hd] at hs
    refine AWp.skip ?_
    repeat first | refine thenN ?_ | refine thenX ?_ | refine thenR ?_ | refine blockN ?_ | refine blockR ?_ | refine blockX ?_ | refine blockM rfl ?_
    refine AWp.seq ?_
    refine AWp.block ?_
    -- region 4
    refine AWp.rseq E_ok [0, 1, 4, 5, 7, 8, 9, 10, 11, 17] fun K hK => ?_
    simp [encCharges_eq, h11, hx, hx2]
    repeat refine ⟨by first | omega | (simp only [maxLen]; omega), ?_⟩
    refine hK _ ?_
    clear hK K
    -- region 5
    refine AWp.rseq E_ok [0, 1, 4, 5, 7, 8, 9, 10, 11, 17] fun K hK => ?_
    simp [encCharges_eq, h11, hx, hx2]
    repeat refine ⟨by first | omega | (simp only [maxLen]; omega), ?_⟩
    refine hK _ ?_
    clear hK K
    refine AWp.cond rfl (fun h17 => ?_) (fun h17 => ?_)
    · try simp at h17
      -- region 6
      refine AWp.rend E_ok [0, 1, 4, 5, 7, 8, 9, 10, 11, 17] fun K hK => ?_
      simp [encCharges_eq, h11, hx, hx2, h17]
      repeat refine ⟨by first | omega | (simp only [maxLen]; omega), ?_⟩
      refine hK _ ?_
      clear hK K
      repeat first | refine thenN ?_ | refine thenX ?_ | refine thenR ?_ | refine blockN ?_ | refine blockR ?_ | refine blockX ?_ | refine blockM rfl ?_
      -- region 7
      refine AWp.rend E_ok [0, 1, 4, 5, 7, 8, 9, 10, 11, 17] fun K hK => ?_
      simp [encCharges_eq, h11, hx, hx2, h17]
      repeat refine ⟨by first | omega | (simp only [maxLen]; omega), ?_⟩
      refine hK _ ?_
      clear hK K
      repeat first | refine thenN ?_ | refine thenX ?_ | refine thenR ?_ | refine blockN ?_ | refine blockR ?_ | refine blockX ?_ | refine blockM rfl ?_
      have hw : IntKind.i64.wrap ((k : Int) + 1) = (k : Int) + 1 := by rw [wrap_i64] <;> omega
      simp [owedF, h17] at hs
      refine ⟨_, h11, hs, ?_, ?_⟩
      · first | exact trivial | (simp; omega) | simp
      · simp [Weak, TW, hw, encCharges_eq]
    · try simp at h17
      refine AWp.skip ?_
      repeat first | refine thenN ?_ | refine thenX ?_ | refine thenR ?_ | refine blockN ?_ | refine blockR ?_ | refine blockX ?_ | refine blockM rfl ?_
      -- region 7
      refine AWp.rend E_ok [0, 1, 4, 5, 7, 8, 9, 10, 11, 17] fun K hK => ?_
      simp [encCharges_eq, h11, hx, hx2, h17]
      repeat refine ⟨by first | omega | (simp only [maxLen]; omega), ?_⟩
      refine hK _ ?_
      clear hK K
      repeat first | refine thenN ?_ | refine thenX ?_ | refine thenR ?_ | refine blockN ?_ | refine blockR ?_ | refine blockX ?_ | refine blockM rfl ?_
      have hw : IntKind.i64.wrap ((k : Int) + 1) = (k : Int) + 1 := by rw [wrap_i64] <;> omega
      simp [owedF, h17] at hs
      refine ⟨_, h11, hs, ?_, ?_⟩
      · first | exact trivial | (simp; omega) | simp
      · simp [Weak, TW, hw, encCharges_eq]
  · try simp at h11
    obtain rfl : k = l.length := by omega
    simp [owedF] at hs
    refine AWp.exit ?_
    repeat first | refine thenN ?_ | refine thenX ?_ | refine thenR ?_ | refine blockN ?_ | refine blockR ?_ | refine blockX ?_ | refine blockM rfl ?_
    -- region 8
    refine AWp.rseq E_ok [0, 1, 4, 5, 7, 8, 9, 10, 11, 17] fun K hK => ?_
    simp [encCharges_eq, h11]
    repeat refine ⟨by first | omega | (simp only [maxLen]; omega), ?_⟩
    refine hK _ ?_
    clear hK K
    refine AWp.ret ?_
    repeat first | refine thenN ?_ | refine thenX ?_ | refine thenR ?_ | refine blockN ?_ | refine blockR ?_ | refine blockX ?_ | refine blockM rfl ?_
    simp [RetOk, RV, hs]

end Go.Proofs.Ytnmbnihbeggmgaa

set_option maxRecDepth 100000
set_option linter.unusedSimpArgs false
namespace Go.Proofs.Ytnmbnihbeggmgaa
open Go Ab
theorem f14 (l : List Charge) (p a : Int) (hl : l.length ≤ 1000000) : ACalls E.P 14 [encCharges l, .int .i64 p, .int .i64 a] (payR l p a) := by
  refine ACalls.intro E_ok Try.func14 rfl rfl Try.ntmps14 Try.results14 (Nat.le_of_ble_eq_true rfl) fun hok base S0 w0 => ?_
  -- region 0
  refine AWp.rseq E_ok [0, 1, 2, 6, 7, 8, 9, 10, 12, 13, 19, 21, 22, 23, 24, 30, 50] fun K hK => ?_
  simp [encCharges_eq]
  repeat refine ⟨by first | omega | (simp only [maxLen]; omega), ?_⟩
  refine hK _ ?_
  clear hK K
  refine AWp.seq ?_
  -- region 1
  refine AWp.rseq E_ok [0, 1, 2, 6, 7, 8, 9, 10, 12, 13, 19, 21, 22, 23, 24, 30, 50] fun K hK => ?_
  simp [encCharges_eq]
  repeat refine ⟨by first | omega | (simp only [maxLen]; omega), ?_⟩
  refine hK _ ?_
  clear hK K
  refine AWp.cond rfl (fun h19 => ?_) (fun h19 => ?_)
  · try simp at h19
    -- region 2
    refine AWp.rseq E_ok [0, 1, 2, 6, 7, 8, 9, 10, 12, 13, 19, 21, 22, 23, 24, 30, 50] fun K hK => ?_
    simp [encCharges_eq, h19]
    repeat refine ⟨by first | omega | (simp only [maxLen]; omega), ?_⟩
    refine hK _ ?_
    clear hK K
    refine AWp.ret ?_
    repeat first | refine thenN ?_ | refine thenX ?_ | refine thenR ?_ | refine blockN ?_ | refine blockR ?_ | refine blockX ?_ | refine blockM rfl ?_
    first | (rw [payR_bad h19]; simp [RetOk, RV, RVs, encCharges_eq]; done) | (rw [payR_good h19]; simp [RetOk, RV, RVs, ← hs, encCharges_eq])
  · try simp at h19
    refine AWp.skip ?_
    repeat first | refine thenN ?_ | refine thenX ?_ | refine thenR ?_ | refine blockN ?_ | refine blockR ?_ | refine blockX ?_ | refine blockM rfl ?_
    -- region 3
    refine AWp.rseq E_ok [0, 1, 2, 6, 7, 8, 9, 10, 12, 13, 19, 21, 22, 23, 24, 30, 50] fun K hK => ?_
    simp [encCharges_eq, h19]
    repeat refine ⟨by first | omega | (simp only [maxLen]; omega), ?_⟩
    refine hK _ ?_
    clear hK K
    -- region 4
    refine AWp.rseq E_ok [0, 1, 2, 6, 7, 8, 9, 10, 12, 13, 19, 21, 22, 23, 24, 30, 50] fun K hK => ?_
    simp [encCharges_eq, h19]
    repeat refine ⟨by first | omega | (simp only [maxLen]; omega), ?_⟩
    refine hK _ ?_
    clear hK K
    refine AWp.seq ?_
    -- region 5
    refine AWp.rseq E_ok [0, 1, 2, 6, 7, 8, 9, 10, 12, 13, 19, 21, 22, 23, 24, 30, 50] fun K hK => ?_
    simp [encCharges_eq, h19]
    repeat refine ⟨by first | omega | (simp only [maxLen]; omega), ?_⟩
    refine hK _ ?_
    clear hK K
    refine AWp.block ?_
    refine AWp.range (l := l) (F := payF p) (tot := payF p (a, []) l) (fun k y => match y with | (r, o) => o.length ≤ k) (fun k y => match y with | (r, o) => [(0, T.val (encCharges l)), (1, T.val (.int .i64 p)), (9, T.own true (encCharge z0) (o.map encCharge)), (10, T.val (.int .i64 r)), (21, T.val (encCharges l)), (22, T.val (.int .i64 l.length)), (23, T.val (.int .i64 k))]) (a, []) ?_ rfl ?_ ?_
    · simp [Weak, TW, encCharges_eq]
    · first | exact trivial | (simp; omega) | simp
    rintro k ⟨r, o⟩ hk hs hi
    try simp only at hi
    -- region 6
    refine AWp.rseq E_ok [0, 1, 2, 6, 7, 8, 9, 10, 12, 13, 19, 21, 22, 23, 24, 30, 50] fun K hK => ?_
    simp [encCharges_eq, h19]
    repeat refine ⟨by first | omega | (simp only [maxLen]; omega), ?_⟩
    refine hK _ ?_
    clear hK K
    refine AWp.seq ?_
    refine AWp.cond rfl (fun h24 => ?_) (fun h24 => ?_)
    · try simp at h24
      obtain ⟨x, hx, hx2, hd⟩ := at_indexG (l := l) h24
      rw [hd] at hs
      refine AWp.skip ?_
      repeat first | refine thenN ?_ | refine thenX ?_ | refine thenR ?_ | refine blockN ?_ | refine blockR ?_ | refine blockX ?_ | refine blockM rfl ?_
      refine AWp.seq ?_
      refine AWp.block ?_
      -- region 7
      refine AWp.rseq E_ok [0, 1, 2, 6, 7, 8, 9, 10, 12, 13, 19, 21, 22, 23, 24, 30, 50] fun K hK => ?_
      simp [encCharges_eq, h19, h24, hx, hx2]
      repeat refine ⟨by first | omega | (simp only [maxLen]; omega), ?_⟩
      refine hK _ ?_
      clear hK K
      refine AWp.seq ?_
      -- region 8
      refine AWp.rseq E_ok [0, 1, 2, 6, 7, 8, 9, 10, 12, 13, 19, 21, 22, 23, 24, 30, 50] fun K hK => ?_
      simp [encCharges_eq, h19, h24, hx, hx2]
      repeat refine ⟨by first | omega | (simp only [maxLen]; omega), ?_⟩
      refine hK _ ?_
      clear hK K
      refine AWp.cond rfl (fun h30 => ?_) (fun h30 => ?_)
      · try simp at h30
        try rw [← Int.not_lt] at h30
        -- region 9
        refine AWp.rseq E_ok [0, 1, 2, 6, 7, 8, 9, 10, 12, 13, 19, 21, 22, 23, 24, 30, 50] fun K hK => ?_
        simp [encCharges_eq, h19, h24, hx, hx2, h30]
        repeat refine ⟨by first | omega | (simp only [maxLen]; omega), ?_⟩
        refine hK _ ?_
        clear hK K
        -- region 10
        refine AWp.rseq E_ok [0, 1, 2, 6, 7, 8, 9, 10, 12, 13, 19, 21, 22, 23, 24, 30, 50] fun K hK => ?_
        simp [encCharges_eq, h19, h24, hx, hx2, h30]
        repeat refine ⟨by first | omega | (simp only [maxLen]; omega), ?_⟩
        refine hK _ ?_
        clear hK K
        -- region 11
        refine AWp.rend E_ok [0, 1, 2, 6, 7, 8, 9, 10, 12, 13, 19, 21, 22, 23, 24, 30, 50] fun K hK => ?_
        simp [encCharges_eq, h19, h24, hx, hx2, h30]
        repeat refine ⟨by first | omega | (simp only [maxLen]; omega), ?_⟩
        refine hK _ ?_
        clear hK K
        repeat first | refine thenN ?_ | refine thenX ?_ | refine thenR ?_ | refine blockN ?_ | refine blockR ?_ | refine blockX ?_ | refine blockM rfl ?_
        -- region 12
        refine AWp.rseq E_ok [0, 1, 2, 6, 7, 8, 9, 10, 12, 13, 19, 21, 22, 23, 24, 30, 50] fun K hK => ?_
        simp [encCharges_eq, h19, h24, hx, hx2, h30]
        repeat refine ⟨by first | omega | (simp only [maxLen]; omega), ?_⟩
        refine hK _ ?_
        clear hK K
        refine AWp.cond rfl (fun h50 => ?_) (fun h50 => ?_)
        · try simp at h50
          try rw [← Int.not_lt] at h50
          -- region 13
          refine AWp.rend E_ok [0, 1, 2, 6, 7, 8, 9, 10, 12, 13, 19, 21, 22, 23, 24, 30, 50] fun K hK => ?_
          simp [encCharges_eq, h19, h24, hx, hx2, h30, h50]
          repeat refine ⟨by first | omega | (simp only [maxLen]; omega), ?_⟩
          refine hK _ ?_
          clear hK K
          repeat first | refine thenN ?_ | refine thenX ?_ | refine thenR ?_ | refine blockN ?_ | refine blockR ?_ | refine blockX ?_ | refine blockM rfl ?_
          -- region 14
          refine AWp.rend E_ok [0, 1, 2, 6, 7, 8, 9, 10, 12, 13, 19, 21, 22, 23, 24, 30, 50] fun K hK => ?_
          simp [encCharges_eq, h19, h24, hx, hx2, h30, h50]
          repeat refine ⟨by first | omega | (simp only [maxLen]; omega), ?_⟩
          refine hK _ ?_
          clear hK K
          repeat first | refine thenN ?_ | refine thenX ?_ | refine thenR ?_ | refine blockN ?_ | refine blockR ?_ | refine blockX ?_ | refine blockM rfl ?_
          have hw : IntKind.i64.wrap ((k : Int) + 1) = (k : Int) + 1 := by rw [wrap_i64] <;> omega
          simp [payF, h19, h30, h50, payStep, encCharge] at hs
          refine ⟨_, h24, hs, ?_, ?_⟩
          · first | exact trivial | (simp; omega) | simp
          · simp [Weak, TW, hw, encCharges_eq, payStep, encCharge]
        · try simp at h50
          try rw [← Int.not_lt] at h50
          refine AWp.skip ?_
          repeat first | refine thenN ?_ | refine thenX ?_ | refine thenR ?_ | refine blockN ?_ | refine blockR ?_ | refine blockX ?_ | refine blockM rfl ?_
          -- region 14
          refine AWp.rend E_ok [0, 1, 2, 6, 7, 8, 9, 10, 12, 13, 19, 21, 22, 23, 24, 30, 50] fun K hK => ?_
          simp [encCharges_eq, h19, h24, hx, hx2, h30, h50]
          repeat refine ⟨by first | omega | (simp only [maxLen]; omega), ?_⟩
          refine hK _ ?_
          clear hK K
          repeat first | refine thenN ?_ | refine thenX ?_ | refine thenR ?_ | refine blockN ?_ | refine blockR ?_ | refine blockX ?_ | refine blockM rfl ?_
          have hw : IntKind.i64.wrap ((k : Int) + 1) = (k : Int) + 1 := by rw [wrap_i64] <;> omega
          simp [payF, h19, h30, h50, payStep, encCharge] at hs
          refine ⟨_, h24, hs, ?_, ?_⟩
          · first | exact trivial | (simp; omega) | simp
          · simp [Weak, TW, hw, encCharges_eq, payStep, encCharge]
      · try simp at h30
        try rw [← Int.not_lt] at h30
        refine AWp.skip ?_
        repeat first | refine thenN ?_ | refine thenX ?_ | refine thenR ?_ | refine blockN ?_ | refine blockR ?_ | refine blockX ?_ | refine blockM rfl ?_
        -- region 12
        refine AWp.rseq E_ok [0, 1, 2, 6, 7, 8, 9, 10, 12, 13, 19, 21, 22, 23, 24, 30, 50] fun K hK => ?_
        simp [encCharges_eq, h19, h24, hx, hx2, h30]
        repeat refine ⟨by first | omega | (simp only [maxLen]; omega), ?_⟩
        refine hK _ ?_
        clear hK K
        refine AWp.cond rfl (fun h50 => ?_) (fun h50 => ?_)
        · try simp at h50
          try rw [← Int.not_lt] at h50
          -- region 13
          refine AWp.rend E_ok [0, 1, 2, 6, 7, 8, 9, 10, 12, 13, 19, 21, 22, 23, 24, 30, 50] fun K hK => ?_
          simp [encCharges_eq, h19, h24, hx, hx2, h30, h50]
          repeat refine ⟨by first | omega | (simp only [maxLen]; omega), ?_⟩
          refine hK _ ?_
          clear hK K
          repeat first | refine thenN ?_ | refine thenX ?_ | refine thenR ?_ | refine blockN ?_ | refine blockR ?_ | refine blockX ?_ | refine blockM rfl ?_
          -- region 14
          refine AWp.rend E_ok [0, 1, 2, 6, 7, 8, 9, 10, 12, 13, 19, 21, 22, 23, 24, 30, 50] fun K hK => ?_
          simp [encCharges_eq, h19, h24, hx, hx2, h30, h50]
          repeat refine ⟨by first | omega | (simp only [maxLen]; omega), ?_⟩
          refine hK _ ?_
          clear hK K
          repeat first | refine thenN ?_ | refine thenX ?_ | refine thenR ?_ | refine blockN ?_ | refine blockR ?_ | refine blockX ?_ | refine blockM rfl ?_
          have hw : IntKind.i64.wrap ((k : Int) + 1) = (k : Int) + 1 := by rw [wrap_i64] <;> omega
          simp [payF, h19, h30, h50, payStep, encCharge] at hs
          refine ⟨_, h24, hs, ?_, ?_⟩
          · first | exact trivial | (simp; omega) | simp
          · simp [Weak, TW, hw, encCharges_eq, payStep, encCharge]
        · try simp at h50
          try rw [← Int.not_lt] at h50
          refine AWp.skip ?_
          repeat first | refine thenN ?_ | refine thenX ?_ | refine thenR ?_ | refine blockN ?_ | refine blockR ?_ | refine blockX ?_ | refine blockM rfl ?_
          -- region 14
          refine AWp.rend E_ok [0, 1, 2, 6, 7, 8, 9, 10, 12, 13, 19, 21, 22, 23, 24, 30, 50] fun K hK => ?_
          simp [encCharges_eq, h19, h24, hx, hx2, h30, h50]
          repeat refine ⟨by first | omega | (simp only [maxLen]; omega), ?_⟩
          refine hK _ ?_
          clear hK K
          repeat first | refine thenN ?_ | refine thenX ?_ | refine thenR ?_ | refine blockN ?_ | refine blockR ?_ | refine blockX ?_ | refine blockM rfl ?_
          have hw : IntKind.i64.wrap ((k : Int) + 1) = (k : Int) + 1 := by rw [wrap_i64] <;> omega
          simp [payF, h19, h30, h50, payStep, encCharge] at hs
          refine ⟨_, h24, hs, ?_, ?_⟩
          · first | exact trivial | (simp; omega) | simp
          · simp [Weak, TW, hw, encCharges_eq, payStep, encCharge]
    · try simp at h24
      obtain rfl : k = l.length := by omega
      simp [payF] at hs
      refine AWp.exit ?_
      repeat first | refine thenN ?_ | refine thenX ?_ | refine thenR ?_ | refine blockN ?_ | refine blockR ?_ | refine blockX ?_ | refine blockM rfl ?_
      -- region 15
      refine AWp.rseq E_ok [0, 1, 2, 6, 7, 8, 9, 10, 12, 13, 19, 21, 22, 23, 24, 30, 50] fun K hK => ?_
      simp [encCharges_eq, h19, h24]
      repeat refine ⟨by first | omega | (simp only [maxLen]; omega), ?_⟩
      refine hK _ ?_
      clear hK K
      refine AWp.ret ?_
      repeat first | refine thenN ?_ | refine thenX ?_ | refine thenR ?_ | refine blockN ?_ | refine blockR ?_ | refine blockX ?_ | refine blockM rfl ?_
      first | (rw [payR_bad h19]; simp [RetOk, RV, RVs, encCharges_eq]; done) | (rw [payR_good h19]; simp [RetOk, RV, RVs, ← hs, encCharges_eq])

end Go.Proofs.Ytnmbnihbeggmgaa

set_option maxRecDepth 100000
set_option linter.unusedSimpArgs false
namespace Go.Proofs.Ytnmbnihbeggmgaa
open Go Ab
theorem f32 (l : List Charge) (f : Nat) (caps : List D) (p : Charge → Bool) (hp : ∀ c, ACalls E.P f (encCharge c :: caps) (.d (.bool (p c)))) (hl : l.length ≤ 1000000) : ACalls E.P 32 [encCharges l, .fn f caps] (remR l p) := by
  refine ACalls.intro E_ok Try.func32 rfl rfl Try.ntmps32 Try.results32 (Nat.le_of_ble_eq_true rfl) fun hok base S0 w0 => ?_
  -- region 0
  refine AWp.rseq E_ok [0, 1, 4, 5, 6, 8, 9, 10, 11, 12, 17] fun K hK => ?_
  simp [encCharges_eq]
  repeat refine ⟨by first | omega | (simp only [maxLen]; omega), ?_⟩
  refine hK _ ?_
  clear hK K
  refine AWp.seq ?_
  -- region 1
  refine AWp.rseq E_ok [0, 1, 4, 5, 6, 8, 9, 10, 11, 12, 17] fun K hK => ?_
  simp [encCharges_eq]
  repeat refine ⟨by first | omega | (simp only [maxLen]; omega), ?_⟩
  refine hK _ ?_
  clear hK K
  refine AWp.block ?_
  refine AWp.range (l := l) (F := remF p) (tot := remF p ([], 0, 0) l) (fun k y => match y with | (o, q, n) => o.length ≤ k) (fun k y => match y with | (o, q, n) => [(0, T.val (encCharges l)), (1, T.val (.fn f caps)), (4, T.own true (encCharge z0) (o.map encCharge)), (5, T.val (.int .i64 q)), (6, T.val (.int .i64 n)), (9, T.val (encCharges l)), (10, T.val (.int .i64 l.length)), (11, T.val (.int .i64 k))]) ([], 0, 0) ?_ rfl ?_ ?_
  · simp [Weak, TW, encCharges_eq]
  · first | exact trivial | (simp; omega) | simp
  rintro k ⟨o, q, n⟩ hk hs hi
  try simp only at hi
  -- region 2
  refine AWp.rseq E_ok [0, 1, 4, 5, 6, 8, 9, 10, 11, 12, 17] fun K hK => ?_
  simp [encCharges_eq]
  repeat refine ⟨by first | omega | (simp only [maxLen]; omega), ?_⟩
  refine hK _ ?_
  clear hK K
  refine AWp.seq ?_
  refine AWp.cond rfl (fun h12 => ?_) (fun h12 => ?_)
  · try simp at h12
    obtain ⟨x, hx, hx2, hd⟩ := at_indexG (l := l) h12
    rw [hd] at hs
    refine AWp.skip ?_
    repeat first | refine thenN ?_ | refine thenX ?_ | refine thenR ?_ | refine blockN ?_ | refine blockR ?_ | refine blockX ?_ | refine blockM rfl ?_
    refine AWp.seq ?_
    refine AWp.block ?_
    -- region 3
    refine AWp.rseq E_ok [0, 1, 4, 5, 6, 8, 9, 10, 11, 12, 17] fun K hK => ?_
    simp [encCharges_eq, h12, hx, hx2]
    repeat refine ⟨by first | omega | (simp only [maxLen]; omega), ?_⟩
    refine hK _ ?_
    clear hK K
    -- region 4
    refine AWp.rseq E_ok [0, 1, 4, 5, 6, 8, 9, 10, 11, 12, 17] fun K hK => ?_
    simp [encCharges_eq, h12, hx, hx2]
    refine meet.of (hp x) ?_
    simp [encCharges_eq, h12, hx, hx2]
    repeat refine ⟨by first | omega | (simp only [maxLen]; omega), ?_⟩
    refine hK _ ?_
    clear hK K
    refine AWp.cond rfl (fun h17 => ?_) (fun h17 => ?_)
    · try simp at h17
      -- region 5
      refine AWp.rseq E_ok [0, 1, 4, 5, 6, 8, 9, 10, 11, 12, 17] fun K hK => ?_
      simp [encCharges_eq, h12, hx, hx2, h17]
      repeat refine ⟨by first | omega | (simp only [maxLen]; omega), ?_⟩
      refine hK _ ?_
      clear hK K
      -- region 6
      refine AWp.rend E_ok [0, 1, 4, 5, 6, 8, 9, 10, 11, 12, 17] fun K hK => ?_
      simp [encCharges_eq, h12, hx, hx2, h17]
      repeat refine ⟨by first | omega | (simp only [maxLen]; omega), ?_⟩
      refine hK _ ?_
      clear hK K
      repeat first | refine thenN ?_ | refine thenX ?_ | refine thenR ?_ | refine blockN ?_ | refine blockR ?_ | refine blockX ?_ | refine blockM rfl ?_
      -- region 8
      refine AWp.rend E_ok [0, 1, 4, 5, 6, 8, 9, 10, 11, 12, 17] fun K hK => ?_
      simp [encCharges_eq, h12, hx, hx2, h17]
      repeat refine ⟨by first | omega | (simp only [maxLen]; omega), ?_⟩
      refine hK _ ?_
      clear hK K
      repeat first | refine thenN ?_ | refine thenX ?_ | refine thenR ?_ | refine blockN ?_ | refine blockR ?_ | refine blockX ?_ | refine blockM rfl ?_
      have hw : IntKind.i64.wrap ((k : Int) + 1) = (k : Int) + 1 := by rw [wrap_i64] <;> omega
      simp [remF, h17, encCharge] at hs
      refine ⟨_, h12, hs, ?_, ?_⟩
      · first | exact trivial | (simp; omega) | simp
      · simp [Weak, TW, hw, encCharges_eq, encCharge]
    · try simp at h17
      -- region 7
      refine AWp.rend E_ok [0, 1, 4, 5, 6, 8, 9, 10, 11, 12, 17] fun K hK => ?_
      simp [encCharges_eq, h12, hx, hx2, h17]
      repeat refine ⟨by first | omega | (simp only [maxLen]; omega), ?_⟩
      refine hK _ ?_
      clear hK K
      repeat first | refine thenN ?_ | refine thenX ?_ | refine thenR ?_ | refine blockN ?_ | refine blockR ?_ | refine blockX ?_ | refine blockM rfl ?_
      -- region 8
      refine AWp.rend E_ok [0, 1, 4, 5, 6, 8, 9, 10, 11, 12, 17] fun K hK => ?_
      simp [encCharges_eq, h12, hx, hx2, h17]
      repeat refine ⟨by first | omega | (simp only [maxLen]; omega), ?_⟩
      refine hK _ ?_
      clear hK K
      repeat first | refine thenN ?_ | refine thenX ?_ | refine thenR ?_ | refine blockN ?_ | refine blockR ?_ | refine blockX ?_ | refine blockM rfl ?_
      have hw : IntKind.i64.wrap ((k : Int) + 1) = (k : Int) + 1 := by rw [wrap_i64] <;> omega
      simp [remF, h17, encCharge] at hs
      refine ⟨_, h12, hs, ?_, ?_⟩
      · first | exact trivial | (simp; omega) | simp
      · simp [Weak, TW, hw, encCharges_eq, encCharge]
  · try simp at h12
    obtain rfl : k = l.length := by omega
    simp [remF] at hs
    refine AWp.exit ?_
    repeat first | refine thenN ?_ | refine thenX ?_ | refine thenR ?_ | refine blockN ?_ | refine blockR ?_ | refine blockX ?_ | refine blockM rfl ?_
    -- region 9
    refine AWp.rseq E_ok [0, 1, 4, 5, 6, 8, 9, 10, 11, 12, 17] fun K hK => ?_
    simp [encCharges_eq, h12]
    repeat refine ⟨by first | omega | (simp only [maxLen]; omega), ?_⟩
    refine hK _ ?_
    clear hK K
    refine AWp.ret ?_
    repeat first | refine thenN ?_ | refine thenX ?_ | refine thenR ?_ | refine blockN ?_ | refine blockR ?_ | refine blockX ?_ | refine blockM rfl ?_
    simp [RetOk, RV, RVs, remR, ← hs, encCharges_eq]

end Go.Proofs.Ytnmbnihbeggmgaa

set_option maxRecDepth 100000
set_option linter.unusedSimpArgs false
namespace Go.Proofs.Ytnmbnihbeggmgaa
open Go Ab
theorem f33 (c : Charge) (i : Int) : ACalls E.P 33 [encCharge c, .ref [.int .i64 i]] (.d (.bool (c.id == i))) := by
  refine ACalls.intro E_ok Try.func33 rfl rfl Try.ntmps33 Try.results33 (Nat.le_of_ble_eq_true rfl) fun hok base S0 w0 => ?_
  -- region 0
  refine AWp.rseq E_ok [0, 1, 2, 3] fun K hK => ?_
  simp [encCharge_eq]
  repeat refine ⟨by first | omega | (simp only [maxLen]; omega), ?_⟩
  refine hK _ ?_
  clear hK K
  -- region 1
  refine AWp.rseq E_ok [0, 1, 2, 3] fun K hK => ?_
  simp [encCharge_eq]
  repeat refine ⟨by first | omega | (simp only [maxLen]; omega), ?_⟩
  refine hK _ ?_
  clear hK K
  refine AWp.ret ?_
  repeat first | refine thenN ?_ | refine thenX ?_ | refine thenR ?_ | refine blockN ?_ | refine blockR ?_ | refine blockX ?_ | refine blockM rfl ?_
  simp [RetOk, RV]

theorem f34 (c : Charge) (p i k : Int) : ACalls E.P 34 [encCharge c, .ref [.int .i64 p], .ref [.int .i64 i], .ref [.int .i64 k]] (.d (.bool (refP p i k c))) := by
  refine ACalls.intro E_ok Try.func34 rfl rfl Try.ntmps34 Try.results34 (Nat.le_of_ble_eq_true rfl) fun hok base S0 w0 => ?_
  -- region 0
  refine AWp.rseq E_ok [0, 1, 2, 3, 4, 5] fun K hK => ?_
  simp [encCharge_eq]
  repeat refine ⟨by first | omega | (simp only [maxLen]; omega), ?_⟩
  refine hK _ ?_
  clear hK K
  -- region 1
  refine AWp.rseq E_ok [0, 1, 2, 3, 4, 5] fun K hK => ?_
  simp [encCharge_eq]
  repeat refine ⟨by first | omega | (simp only [maxLen]; omega), ?_⟩
  refine hK _ ?_
  clear hK K
  refine AWp.ret ?_
  repeat first | refine thenN ?_ | refine thenX ?_ | refine thenR ?_ | refine blockN ?_ | refine blockR ?_ | refine blockX ?_ | refine blockM rfl ?_
  simp [RetOk, RV, refP]

theorem f19 (l : List Charge) (i : Int) (hl : l.length ≤ 1000000) : ACalls E.P 19 [encCharges l, .int .i64 i] (waiveR l i) := by
  refine ACalls.intro E_ok Try.func19 rfl rfl Try.ntmps19 Try.results19 (Nat.le_of_ble_eq_true rfl) fun hok base S0 w0 => ?_
  -- region 0
  refine AWp.rseq E_ok [0, 1, 3, 4, 5, 6, 7, 8, 9, 18] fun K hK => ?_
  simp [encCharges_eq, remR]
  repeat refine ⟨by first | omega | (simp only [maxLen]; omega), ?_⟩
  refine hK _ ?_
  clear hK K
  -- region 1
  refine AWp.rseq E_ok [0, 1, 3, 4, 5, 6, 7, 8, 9, 18] fun K hK => ?_
  simp [encCharges_eq, remR]
  refine meet.of (f32 l 33 [.ref [.int .i64 i]] (fun c => c.id == i) (fun c => f33 c i) hl) ?_
  simp [encCharges_eq, remR]
  repeat refine ⟨by first | omega | (simp only [maxLen]; omega), ?_⟩
  refine hK _ ?_
  clear hK K
  refine AWp.seq ?_
  -- region 2
  refine AWp.rseq E_ok [0, 1, 3, 4, 5, 6, 7, 8, 9, 18] fun K hK => ?_
  simp [encCharges_eq, remR]
  repeat refine ⟨by first | omega | (simp only [maxLen]; omega), ?_⟩
  refine hK _ ?_
  clear hK K
  refine AWp.cond rfl (fun h18 => ?_) (fun h18 => ?_)
  · try simp at h18
    -- region 3
    refine AWp.rseq E_ok [0, 1, 3, 4, 5, 6, 7, 8, 9, 18] fun K hK => ?_
    simp [encCharges_eq, remR, h18]
    repeat refine ⟨by first | omega | (simp only [maxLen]; omega), ?_⟩
    refine hK _ ?_
    clear hK K
    refine AWp.ret ?_
    repeat first | refine thenN ?_ | refine thenX ?_ | refine thenR ?_ | refine blockN ?_ | refine blockR ?_ | refine blockX ?_ | refine blockM rfl ?_
    first | (rw [waiveR_none h18]; simp [RetOk, RV, RVs, encCharges_eq]; done) | (rw [waiveR_some h18]; simp [RetOk, RV, RVs, encCharges_eq])
  · try simp at h18
    refine AWp.skip ?_
    repeat first | refine thenN ?_ | refine thenX ?_ | refine thenR ?_ | refine blockN ?_ | refine blockR ?_ | refine blockX ?_ | refine blockM rfl ?_
    -- region 4
    refine AWp.rseq E_ok [0, 1, 3, 4, 5, 6, 7, 8, 9, 18] fun K hK => ?_
    simp [encCharges_eq, remR, h18]
    repeat refine ⟨by first | omega | (simp only [maxLen]; omega), ?_⟩
    refine hK _ ?_
    clear hK K
    refine AWp.ret ?_
    repeat first | refine thenN ?_ | refine thenX ?_ | refine thenR ?_ | refine blockN ?_ | refine blockR ?_ | refine blockX ?_ | refine blockM rfl ?_
    first | (rw [waiveR_none h18]; simp [RetOk, RV, RVs, encCharges_eq]; done) | (rw [waiveR_some h18]; simp [RetOk, RV, RVs, encCharges_eq])

theorem f21 (l : List Charge) (p i k : Int) (hl : l.length ≤ 1000000) : ACalls E.P 21 [encCharges l, .int .i64 p, .int .i64 i, .int .i64 k] (refundR l p i k) := by
  refine ACalls.intro E_ok Try.func21 rfl rfl Try.ntmps21 Try.results21 (Nat.le_of_ble_eq_true rfl) fun hok base S0 w0 => ?_
  -- region 0
  refine AWp.rseq E_ok [0, 1, 2, 3, 5, 6, 7, 8, 9, 10, 11] fun K hK => ?_
  simp [encCharges_eq, remR]
  repeat refine ⟨by first | omega | (simp only [maxLen]; omega), ?_⟩
  refine hK _ ?_
  clear hK K
  -- region 1
  refine AWp.rseq E_ok [0, 1, 2, 3, 5, 6, 7, 8, 9, 10, 11] fun K hK => ?_
  simp [encCharges_eq, remR]
  refine meet.of (f32 l 34 [.ref [.int .i64 p], .ref [.int .i64 i], .ref [.int .i64 k]] (refP p i k) (fun c => f34 c p i k) hl) ?_
  simp [encCharges_eq, remR]
  repeat refine ⟨by first | omega | (simp only [maxLen]; omega), ?_⟩
  refine hK _ ?_
  clear hK K
  -- region 2
  refine AWp.rseq E_ok [0, 1, 2, 3, 5, 6, 7, 8, 9, 10, 11] fun K hK => ?_
  simp [encCharges_eq, remR]
  repeat refine ⟨by first | omega | (simp only [maxLen]; omega), ?_⟩
  refine hK _ ?_
  clear hK K
  refine AWp.ret ?_
  repeat first | refine thenN ?_ | refine thenX ?_ | refine thenR ?_ | refine blockN ?_ | refine blockR ?_ | refine blockX ?_ | refine blockM rfl ?_
  simp [RetOk, RV, RVs, refundR, encCharges_eq]

end Go.Proofs.Ytnmbnihbeggmgaa
