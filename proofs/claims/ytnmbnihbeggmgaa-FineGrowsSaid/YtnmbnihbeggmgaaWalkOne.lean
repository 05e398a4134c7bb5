/-
  What the functions compute that the statement reaches: contracts, and the plain laws between them. Conditions stand at each theorem.
-/
import Derived.Test.YtnmbnihbeggmgaaEngTwo
import Derived.Test.YtnmbnihbeggmgaaChecked
set_option linter.unusedVariables false
set_option linter.unusedSimpArgs false
/- The types of this seat, as the layer reads them. -/
set_option maxRecDepth 100000
namespace Go.Proofs.Ytnmbnihbeggmgaa
open Go Ab

abbrev ti2 : TI := { key := .int .i64, size := 1, bytes := 8, zero := .int .i64 0, zc := [.int .i64 0], eq := [] }
abbrev ti3 : TI := { key := .int .i64, size := 1, bytes := 8, zero := .int .i64 0, zc := [.int .i64 0], eq := [] }
abbrev ti4 : TI := { key := .bool, size := 1, bytes := 1, zero := .bool false, zc := [.bool false], eq := [] }
abbrev ti5 : TI := { key := .int .u8, size := 1, bytes := 1, zero := .int .u8 0, zc := [.int .u8 0], eq := [] }
abbrev ti9 : TI := { key := .string, size := 1, bytes := 16, zero := .string ⟨#[]⟩, zc := [.str []], eq := [] }
abbrev ti12 : TI := { key := .int .u64, size := 1, bytes := 8, zero := .int .u64 0, zc := [.int .u64 0], eq := [] }
abbrev ti15 : TI := { key := .other, size := 1, bytes := 8, zero := .pointer none, zc := [.lit (.pointer none)], eq := [] }
abbrev ti16 : TI := { key := .other, size := 1, bytes := 8, zero := .pointer none, zc := [.lit (.pointer none)], eq := [] }
abbrev ti17 : TI := { key := .other, size := 1, bytes := 8, zero := .pointer none, zc := [.lit (.pointer none)], eq := [] }
abbrev ti21 : TI := { key := .int .i32, size := 1, bytes := 4, zero := .int .i32 0, zc := [.int .i32 0], eq := [] }
abbrev ti22 : TI := { key := .struct [(0, 3), (1, 3), (2, 3), (3, 3), (4, 3), (5, 3), (6, 3), (7, 3), (8, 3), (9, 3), (10, 3), (11, 3), (12, 3)], size := 13, bytes := 104, zero := .agg #[.int .i64 0, .int .i64 0, .int .i64 0, .int .i64 0, .int .i64 0, .int .i64 0, .int .i64 0, .int .i64 0, .int .i64 0, .int .i64 0, .int .i64 0, .int .i64 0, .int .i64 0], zc := [.int .i64 0, .int .i64 0, .int .i64 0, .int .i64 0, .int .i64 0, .int .i64 0, .int .i64 0, .int .i64 0, .int .i64 0, .int .i64 0, .int .i64 0, .int .i64 0, .int .i64 0], eq := [0, 0, 0, 0, 0, 0, 0, 0, 0, 0, 0, 0, 0] }
abbrev ti23 : TI := { key := .struct [(0, 3), (1, 3), (2, 3), (3, 3), (4, 3), (5, 3), (6, 3), (7, 3), (8, 3), (9, 3), (10, 3), (11, 3), (12, 3)], size := 13, bytes := 104, zero := .agg #[.int .i64 0, .int .i64 0, .int .i64 0, .int .i64 0, .int .i64 0, .int .i64 0, .int .i64 0, .int .i64 0, .int .i64 0, .int .i64 0, .int .i64 0, .int .i64 0, .int .i64 0], zc := [.int .i64 0, .int .i64 0, .int .i64 0, .int .i64 0, .int .i64 0, .int .i64 0, .int .i64 0, .int .i64 0, .int .i64 0, .int .i64 0, .int .i64 0, .int .i64 0, .int .i64 0], eq := [0, 0, 0, 0, 0, 0, 0, 0, 0, 0, 0, 0, 0] }
abbrev ti24 : TI := { key := .slice 3, size := 1, bytes := 24, zero := .slice none 0 0, zc := [.slice (.int .i64 0) []], eq := [] }
abbrev ti25 : TI := { key := .struct [(0, 3), (1, 24)], size := 2, bytes := 32, zero := .agg #[.int .i64 0, .slice none 0 0], zc := [.int .i64 0, .slice (.int .i64 0) []], eq := [] }
abbrev ti26 : TI := { key := .struct [(0, 3), (1, 24)], size := 2, bytes := 32, zero := .agg #[.int .i64 0, .slice none 0 0], zc := [.int .i64 0, .slice (.int .i64 0) []], eq := [] }
abbrev ti31 : TI := { key := .slice 44, size := 1, bytes := 24, zero := .slice none 0 0, zc := [.slice (.agg [.int .i64 0, .int .i64 0, .int .i64 0, .int .i64 0, .int .i64 0, .int .i64 0, .int .i64 0]) []], eq := [] }
abbrev ti32 : TI := { key := .int .i64, size := 1, bytes := 8, zero := .int .i64 0, zc := [.int .i64 0], eq := [] }
abbrev ti43 : TI := { key := .struct [(0, 3), (1, 3), (2, 3), (3, 3), (4, 3), (5, 3), (6, 3)], size := 7, bytes := 56, zero := .agg #[.int .i64 0, .int .i64 0, .int .i64 0, .int .i64 0, .int .i64 0, .int .i64 0, .int .i64 0], zc := [.int .i64 0, .int .i64 0, .int .i64 0, .int .i64 0, .int .i64 0, .int .i64 0, .int .i64 0], eq := [0, 0, 0, 0, 0, 0, 0] }
abbrev ti44 : TI := { key := .struct [(0, 3), (1, 3), (2, 3), (3, 3), (4, 3), (5, 3), (6, 3)], size := 7, bytes := 56, zero := .agg #[.int .i64 0, .int .i64 0, .int .i64 0, .int .i64 0, .int .i64 0, .int .i64 0, .int .i64 0], zc := [.int .i64 0, .int .i64 0, .int .i64 0, .int .i64 0, .int .i64 0, .int .i64 0, .int .i64 0], eq := [0, 0, 0, 0, 0, 0, 0] }
abbrev ti45 : TI := { key := .array 2 3, size := 2, bytes := 16, zero := .agg #[.int .i64 0, .int .i64 0], zc := [.int .i64 0, .int .i64 0], eq := [] }
abbrev ti58 : TI := { key := .array 7 4, size := 7, bytes := 7, zero := .agg #[.bool false, .bool false, .bool false, .bool false, .bool false, .bool false, .bool false], zc := [.bool false, .bool false, .bool false, .bool false, .bool false, .bool false, .bool false], eq := [] }
abbrev ti71 : TI := { key := .int .u32, size := 1, bytes := 4, zero := .int .u32 0, zc := [.int .u32 0], eq := [] }
abbrev ti75 : TI := { key := .other, size := 1, bytes := 8, zero := .pointer none, zc := [.lit (.pointer none)], eq := [] }
def tab : TypeId → Option TI
  | 2 => some ti2
  | 3 => some ti3
  | 4 => some ti4
  | 5 => some ti5
  | 9 => some ti9
  | 12 => some ti12
  | 15 => some ti15
  | 16 => some ti16
  | 17 => some ti17
  | 21 => some ti21
  | 22 => some ti22
  | 23 => some ti23
  | 24 => some ti24
  | 25 => some ti25
  | 26 => some ti26
  | 31 => some ti31
  | 32 => some ti32
  | 43 => some ti43
  | 44 => some ti44
  | 45 => some ti45
  | 58 => some ti58
  | 71 => some ti71
  | 75 => some ti75
  | _ => none
noncomputable def E : Env := { P := Try.prog, tab := tab }
theorem tyok2 : TyOk Try.prog 2 ti2 where
  key := by kernel_rfl
  info := by kernel_rfl
  zc := by kernel_rfl
  zok := by kernel_rfl
  len := by kernel_rfl
  one := fun _ => rfl
  zero_slice := fun _ h => by cases h
  eq := fun h => absurd rfl h
theorem tyok3 : TyOk Try.prog 3 ti3 where
  key := by kernel_rfl
  info := by kernel_rfl
  zc := by kernel_rfl
  zok := by kernel_rfl
  len := by kernel_rfl
  one := fun _ => rfl
  zero_slice := fun _ h => by cases h
  eq := fun h => absurd rfl h
theorem tyok4 : TyOk Try.prog 4 ti4 where
  key := by kernel_rfl
  info := by kernel_rfl
  zc := by kernel_rfl
  zok := by kernel_rfl
  len := by kernel_rfl
  one := fun _ => rfl
  zero_slice := fun _ h => by cases h
  eq := fun h => absurd rfl h
theorem tyok5 : TyOk Try.prog 5 ti5 where
  key := by kernel_rfl
  info := by kernel_rfl
  zc := by kernel_rfl
  zok := by kernel_rfl
  len := by kernel_rfl
  one := fun _ => rfl
  zero_slice := fun _ h => by cases h
  eq := fun h => absurd rfl h
theorem tyok9 : TyOk Try.prog 9 ti9 where
  key := by kernel_rfl
  info := by kernel_rfl
  zc := by kernel_rfl
  zok := by kernel_rfl
  len := by kernel_rfl
  one := fun _ => rfl
  zero_slice := fun _ h => by cases h
  eq := fun h => absurd rfl h
theorem tyok12 : TyOk Try.prog 12 ti12 where
  key := by kernel_rfl
  info := by kernel_rfl
  zc := by kernel_rfl
  zok := by kernel_rfl
  len := by kernel_rfl
  one := fun _ => rfl
  zero_slice := fun _ h => by cases h
  eq := fun h => absurd rfl h
theorem tyok15 : TyOk Try.prog 15 ti15 where
  key := by kernel_rfl
  info := by kernel_rfl
  zc := by kernel_rfl
  zok := by kernel_rfl
  len := by kernel_rfl
  one := fun _ => rfl
  zero_slice := fun _ h => by cases h
  eq := fun h => absurd rfl h
theorem tyok16 : TyOk Try.prog 16 ti16 where
  key := by kernel_rfl
  info := by kernel_rfl
  zc := by kernel_rfl
  zok := by kernel_rfl
  len := by kernel_rfl
  one := fun _ => rfl
  zero_slice := fun _ h => by cases h
  eq := fun h => absurd rfl h
theorem tyok17 : TyOk Try.prog 17 ti17 where
  key := by kernel_rfl
  info := by kernel_rfl
  zc := by kernel_rfl
  zok := by kernel_rfl
  len := by kernel_rfl
  one := fun _ => rfl
  zero_slice := fun _ h => by cases h
  eq := fun h => absurd rfl h
theorem tyok21 : TyOk Try.prog 21 ti21 where
  key := by kernel_rfl
  info := by kernel_rfl
  zc := by kernel_rfl
  zok := by kernel_rfl
  len := by kernel_rfl
  one := fun _ => rfl
  zero_slice := fun _ h => by cases h
  eq := fun h => absurd rfl h
theorem tyok22 : TyOk Try.prog 22 ti22 where
  key := by kernel_rfl
  info := by kernel_rfl
  zc := by kernel_rfl
  zok := by kernel_rfl
  len := by kernel_rfl
  one := fun h => by cases h
  zero_slice := fun _ h => by cases h
  eq := fun _ => ⟨by kernel_rfl, by kernel_rfl, by kernel_rfl⟩
theorem tyok23 : TyOk Try.prog 23 ti23 where
  key := by kernel_rfl
  info := by kernel_rfl
  zc := by kernel_rfl
  zok := by kernel_rfl
  len := by kernel_rfl
  one := fun h => by cases h
  zero_slice := fun _ h => by cases h
  eq := fun _ => ⟨by kernel_rfl, by kernel_rfl, by kernel_rfl⟩
theorem tyok24 : TyOk Try.prog 24 ti24 where
  key := by kernel_rfl
  info := by kernel_rfl
  zc := by kernel_rfl
  zok := by kernel_rfl
  len := by kernel_rfl
  one := fun _ => rfl
  zero_slice := fun _ _ => rfl
  eq := fun h => absurd rfl h
theorem tyok25 : TyOk Try.prog 25 ti25 where
  key := by kernel_rfl
  info := by kernel_rfl
  zc := by kernel_rfl
  zok := by kernel_rfl
  len := by kernel_rfl
  one := fun h => by cases h
  zero_slice := fun _ h => by cases h
  eq := fun h => absurd rfl h
theorem tyok26 : TyOk Try.prog 26 ti26 where
  key := by kernel_rfl
  info := by kernel_rfl
  zc := by kernel_rfl
  zok := by kernel_rfl
  len := by kernel_rfl
  one := fun h => by cases h
  zero_slice := fun _ h => by cases h
  eq := fun h => absurd rfl h
theorem tyok31 : TyOk Try.prog 31 ti31 where
  key := by kernel_rfl
  info := by kernel_rfl
  zc := by kernel_rfl
  zok := by kernel_rfl
  len := by kernel_rfl
  one := fun _ => rfl
  zero_slice := fun _ _ => rfl
  eq := fun h => absurd rfl h
theorem tyok32 : TyOk Try.prog 32 ti32 where
  key := by kernel_rfl
  info := by kernel_rfl
  zc := by kernel_rfl
  zok := by kernel_rfl
  len := by kernel_rfl
  one := fun _ => rfl
  zero_slice := fun _ h => by cases h
  eq := fun h => absurd rfl h
theorem tyok43 : TyOk Try.prog 43 ti43 where
  key := by kernel_rfl
  info := by kernel_rfl
  zc := by kernel_rfl
  zok := by kernel_rfl
  len := by kernel_rfl
  one := fun h => by cases h
  zero_slice := fun _ h => by cases h
  eq := fun _ => ⟨by kernel_rfl, by kernel_rfl, by kernel_rfl⟩
theorem tyok44 : TyOk Try.prog 44 ti44 where
  key := by kernel_rfl
  info := by kernel_rfl
  zc := by kernel_rfl
  zok := by kernel_rfl
  len := by kernel_rfl
  one := fun h => by cases h
  zero_slice := fun _ h => by cases h
  eq := fun _ => ⟨by kernel_rfl, by kernel_rfl, by kernel_rfl⟩
theorem tyok45 : TyOk Try.prog 45 ti45 where
  key := by kernel_rfl
  info := by kernel_rfl
  zc := by kernel_rfl
  zok := by kernel_rfl
  len := by kernel_rfl
  one := fun h => by cases h
  zero_slice := fun _ h => by cases h
  eq := fun h => absurd rfl h
theorem tyok58 : TyOk Try.prog 58 ti58 where
  key := by kernel_rfl
  info := by kernel_rfl
  zc := by kernel_rfl
  zok := by kernel_rfl
  len := by kernel_rfl
  one := fun h => by cases h
  zero_slice := fun _ h => by cases h
  eq := fun h => absurd rfl h
theorem tyok71 : TyOk Try.prog 71 ti71 where
  key := by kernel_rfl
  info := by kernel_rfl
  zc := by kernel_rfl
  zok := by kernel_rfl
  len := by kernel_rfl
  one := fun _ => rfl
  zero_slice := fun _ h => by cases h
  eq := fun h => absurd rfl h
theorem tyok75 : TyOk Try.prog 75 ti75 where
  key := by kernel_rfl
  info := by kernel_rfl
  zc := by kernel_rfl
  zok := by kernel_rfl
  len := by kernel_rfl
  one := fun _ => rfl
  zero_slice := fun _ h => by cases h
  eq := fun h => absurd rfl h
theorem E_ok : E.Ok := by
  refine ⟨by kernel_rfl, fun t ti h => ?_⟩
  change tab t = some ti at h
  unfold tab at h
  split at h
  · cases h; exact tyok2
  · cases h; exact tyok3
  · cases h; exact tyok4
  · cases h; exact tyok5
  · cases h; exact tyok9
  · cases h; exact tyok12
  · cases h; exact tyok15
  · cases h; exact tyok16
  · cases h; exact tyok17
  · cases h; exact tyok21
  · cases h; exact tyok22
  · cases h; exact tyok23
  · cases h; exact tyok24
  · cases h; exact tyok25
  · cases h; exact tyok26
  · cases h; exact tyok31
  · cases h; exact tyok32
  · cases h; exact tyok43
  · cases h; exact tyok44
  · cases h; exact tyok45
  · cases h; exact tyok58
  · cases h; exact tyok71
  · cases h; exact tyok75
  · cases h
@[simp] theorem tab2 : E.tab 2 = some { key := .int .i64, size := 1, bytes := 8, zero := .int .i64 0, zc := [.int .i64 0], eq := [] } := rfl
@[simp] theorem tab3 : E.tab 3 = some { key := .int .i64, size := 1, bytes := 8, zero := .int .i64 0, zc := [.int .i64 0], eq := [] } := rfl
@[simp] theorem tab4 : E.tab 4 = some { key := .bool, size := 1, bytes := 1, zero := .bool false, zc := [.bool false], eq := [] } := rfl
@[simp] theorem tab5 : E.tab 5 = some { key := .int .u8, size := 1, bytes := 1, zero := .int .u8 0, zc := [.int .u8 0], eq := [] } := rfl
@[simp] theorem tab9 : E.tab 9 = some { key := .string, size := 1, bytes := 16, zero := .string ⟨#[]⟩, zc := [.str []], eq := [] } := rfl
@[simp] theorem tab12 : E.tab 12 = some { key := .int .u64, size := 1, bytes := 8, zero := .int .u64 0, zc := [.int .u64 0], eq := [] } := rfl
@[simp] theorem tab15 : E.tab 15 = some { key := .other, size := 1, bytes := 8, zero := .pointer none, zc := [.lit (.pointer none)], eq := [] } := rfl
@[simp] theorem tab16 : E.tab 16 = some { key := .other, size := 1, bytes := 8, zero := .pointer none, zc := [.lit (.pointer none)], eq := [] } := rfl
@[simp] theorem tab17 : E.tab 17 = some { key := .other, size := 1, bytes := 8, zero := .pointer none, zc := [.lit (.pointer none)], eq := [] } := rfl
@[simp] theorem tab21 : E.tab 21 = some { key := .int .i32, size := 1, bytes := 4, zero := .int .i32 0, zc := [.int .i32 0], eq := [] } := rfl
@[simp] theorem tab22 : E.tab 22 = some { key := .struct [(0, 3), (1, 3), (2, 3), (3, 3), (4, 3), (5, 3), (6, 3), (7, 3), (8, 3), (9, 3), (10, 3), (11, 3), (12, 3)], size := 13, bytes := 104, zero := .agg #[.int .i64 0, .int .i64 0, .int .i64 0, .int .i64 0, .int .i64 0, .int .i64 0, .int .i64 0, .int .i64 0, .int .i64 0, .int .i64 0, .int .i64 0, .int .i64 0, .int .i64 0], zc := [.int .i64 0, .int .i64 0, .int .i64 0, .int .i64 0, .int .i64 0, .int .i64 0, .int .i64 0, .int .i64 0, .int .i64 0, .int .i64 0, .int .i64 0, .int .i64 0, .int .i64 0], eq := [0, 0, 0, 0, 0, 0, 0, 0, 0, 0, 0, 0, 0] } := rfl
@[simp] theorem tab23 : E.tab 23 = some { key := .struct [(0, 3), (1, 3), (2, 3), (3, 3), (4, 3), (5, 3), (6, 3), (7, 3), (8, 3), (9, 3), (10, 3), (11, 3), (12, 3)], size := 13, bytes := 104, zero := .agg #[.int .i64 0, .int .i64 0, .int .i64 0, .int .i64 0, .int .i64 0, .int .i64 0, .int .i64 0, .int .i64 0, .int .i64 0, .int .i64 0, .int .i64 0, .int .i64 0, .int .i64 0], zc := [.int .i64 0, .int .i64 0, .int .i64 0, .int .i64 0, .int .i64 0, .int .i64 0, .int .i64 0, .int .i64 0, .int .i64 0, .int .i64 0, .int .i64 0, .int .i64 0, .int .i64 0], eq := [0, 0, 0, 0, 0, 0, 0, 0, 0, 0, 0, 0, 0] } := rfl
@[simp] theorem tab24 : E.tab 24 = some { key := .slice 3, size := 1, bytes := 24, zero := .slice none 0 0, zc := [.slice (.int .i64 0) []], eq := [] } := rfl
@[simp] theorem tab25 : E.tab 25 = some { key := .struct [(0, 3), (1, 24)], size := 2, bytes := 32, zero := .agg #[.int .i64 0, .slice none 0 0], zc := [.int .i64 0, .slice (.int .i64 0) []], eq := [] } := rfl
@[simp] theorem tab26 : E.tab 26 = some { key := .struct [(0, 3), (1, 24)], size := 2, bytes := 32, zero := .agg #[.int .i64 0, .slice none 0 0], zc := [.int .i64 0, .slice (.int .i64 0) []], eq := [] } := rfl
@[simp] theorem tab31 : E.tab 31 = some { key := .slice 44, size := 1, bytes := 24, zero := .slice none 0 0, zc := [.slice (.agg [.int .i64 0, .int .i64 0, .int .i64 0, .int .i64 0, .int .i64 0, .int .i64 0, .int .i64 0]) []], eq := [] } := rfl
@[simp] theorem tab32 : E.tab 32 = some { key := .int .i64, size := 1, bytes := 8, zero := .int .i64 0, zc := [.int .i64 0], eq := [] } := rfl
@[simp] theorem tab43 : E.tab 43 = some { key := .struct [(0, 3), (1, 3), (2, 3), (3, 3), (4, 3), (5, 3), (6, 3)], size := 7, bytes := 56, zero := .agg #[.int .i64 0, .int .i64 0, .int .i64 0, .int .i64 0, .int .i64 0, .int .i64 0, .int .i64 0], zc := [.int .i64 0, .int .i64 0, .int .i64 0, .int .i64 0, .int .i64 0, .int .i64 0, .int .i64 0], eq := [0, 0, 0, 0, 0, 0, 0] } := rfl
@[simp] theorem tab44 : E.tab 44 = some { key := .struct [(0, 3), (1, 3), (2, 3), (3, 3), (4, 3), (5, 3), (6, 3)], size := 7, bytes := 56, zero := .agg #[.int .i64 0, .int .i64 0, .int .i64 0, .int .i64 0, .int .i64 0, .int .i64 0, .int .i64 0], zc := [.int .i64 0, .int .i64 0, .int .i64 0, .int .i64 0, .int .i64 0, .int .i64 0, .int .i64 0], eq := [0, 0, 0, 0, 0, 0, 0] } := rfl
@[simp] theorem tab45 : E.tab 45 = some { key := .array 2 3, size := 2, bytes := 16, zero := .agg #[.int .i64 0, .int .i64 0], zc := [.int .i64 0, .int .i64 0], eq := [] } := rfl
@[simp] theorem tab58 : E.tab 58 = some { key := .array 7 4, size := 7, bytes := 7, zero := .agg #[.bool false, .bool false, .bool false, .bool false, .bool false, .bool false, .bool false], zc := [.bool false, .bool false, .bool false, .bool false, .bool false, .bool false, .bool false], eq := [] } := rfl
@[simp] theorem tab71 : E.tab 71 = some { key := .int .u32, size := 1, bytes := 4, zero := .int .u32 0, zc := [.int .u32 0], eq := [] } := rfl
@[simp] theorem tab75 : E.tab 75 = some { key := .other, size := 1, bytes := 8, zero := .pointer none, zc := [.lit (.pointer none)], eq := [] } := rfl
end Go.Proofs.Ytnmbnihbeggmgaa

namespace Go.Proofs.Ytnmbnihbeggmgaa
open Go Ab
abbrev n_main_main : Nat := 0
abbrev n_gosem_cut : Nat := 1
abbrev n_gosem_cut_init : Nat := 2
abbrev n_law29_FineLate : Nat := 3
abbrev n_law29_FinePays : Nat := 4
abbrev n_law29_FineDrops : Nat := 5
abbrev n_law29_FineBalances : Nat := 6
abbrev n_law29_FineGrows : Nat := 7
abbrev n_law29_FineChecks : Nat := 8
abbrev n_law29_alive : Nat := 9
abbrev n_law29_rule : Nat := 10
abbrev n_fine_Late : Nat := 11
abbrev n_ref29_Late : Nat := 12
abbrev n_ref29_Right : Nat := 13
abbrev n_fine_Pay : Nat := 14
abbrev n_ref29_Pay : Nat := 15
abbrev n_fine_Owed : Nat := 16
abbrev n_ref29_Owed : Nat := 17
abbrev n_ref29_Same : Nat := 18
abbrev n_fine_Waive : Nat := 19
abbrev n_ref29_Waive : Nat := 20
abbrev n_fine_Refund : Nat := 21
abbrev n_ref29_Refund : Nat := 22
abbrev n_fine_Right : Nat := 23
abbrev n_ref26_Right : Nat := 24
abbrev n_fine_Add : Nat := 25
abbrev n_ref29_Add : Nat := 26
abbrev n_calendar_Right : Nat := 27
abbrev n_fine_isDay : Nat := 28
abbrev n_calendar_Count : Nat := 29
abbrev n_ref29_day : Nat := 30
abbrev n_ref26_Count : Nat := 31
abbrev n_fine_remove : Nat := 32
abbrev n_fine_Waive_1 : Nat := 33
abbrev n_fine_Refund_1 : Nat := 34
abbrev n_fine_check : Nat := 35
abbrev n_slices_ContainsFunc_int_int : Nat := 36
abbrev n_calendar_Right_1 : Nat := 37
abbrev n_calendar_isDay : Nat := 38
abbrev n_calendar_week : Nat := 39
abbrev n_calendar_upTo : Nat := 40
abbrev n_date_Weekday : Nat := 41
abbrev n_ref26_Open : Nat := 42
abbrev n_fine_check_1 : Nat := 43
abbrev n_slices_IndexFunc_int_int : Nat := 44
abbrev n_date_known : Nat := 45
abbrev n_ref03_Weekday : Nat := 46
abbrev n_ref03_Is : Nat := 47
abbrev n_runtime_boundsError_Error : Nat := 48
abbrev n_runtime_boundsError_RuntimeError : Nat := 49
abbrev n_runtime_errorString_Error : Nat := 50
abbrev n_runtime_errorString_RuntimeError : Nat := 51
abbrev n_runtime_plainError_Error : Nat := 52
abbrev n_runtime_plainError_RuntimeError : Nat := 53
abbrev n_runtime_errorAddressString_Error : Nat := 54
abbrev n_runtime_errorAddressString_RuntimeError : Nat := 55
abbrev n_runtime_TypeAssertionError_Error : Nat := 56
abbrev n_runtime_TypeAssertionError_RuntimeError : Nat := 57
abbrev n_runtime_PanicNilError_Error : Nat := 58
abbrev n_runtime_PanicNilError_RuntimeError : Nat := 59
abbrev n_internal_abi_Type_Align : Nat := 60
abbrev n_internal_runtime_maps_unhashableTypeError_Error : Nat := 61
abbrev n_internal_runtime_maps_unhashableTypeError_RuntimeError : Nat := 62
abbrev n_api_Errno_Error : Nat := 63
abbrev n_internal_abi_Kind_String : Nat := 64
abbrev t_ : Nat := 0
abbrev t_a0_p_runtime_PanicNilError : Nat := 67
abbrev t_a2_int : Nat := 45
abbrev t_a7_bool : Nat := 58
abbrev t_abi_BoundsErrorCode : Nat := 6
abbrev t_abi_Kind : Nat := 73
abbrev t_abi_NameOff : Nat := 76
abbrev t_abi_TFlag : Nat := 72
abbrev t_abi_Type : Nat := 79
abbrev t_abi_TypeOff : Nat := 77
abbrev t_api_Calendar : Nat := 26
abbrev t_api_Charge : Nat := 44
abbrev t_api_Errno : Nat := 32
abbrev t_api_Rule : Nat := 23
abbrev t_bool : Nat := 4
abbrev t_int : Nat := 3
abbrev t_int32 : Nat := 21
abbrev t_int64 : Nat := 2
abbrev t_maps_unhashableTypeError : Nat := 19
abbrev t_p_abi_Type : Nat := 17
abbrev t_p_runtime_PanicNilError : Nat := 16
abbrev t_p_runtime_TypeAssertionError : Nat := 15
abbrev t_p_uint8 : Nat := 75
abbrev t_runtime_PanicNilError : Nat := 69
abbrev t_runtime_TypeAssertionError : Nat := 66
abbrev t_runtime_boundsError : Nat := 8
abbrev t_runtime_errorAddressString : Nat := 14
abbrev t_runtime_errorString : Nat := 10
abbrev t_runtime_plainError : Nat := 11
abbrev t_s_api_Charge : Nat := 31
abbrev t_s_int : Nat := 24
abbrev t_string : Nat := 9
abbrev t_uint32 : Nat := 71
abbrev t_uint8 : Nat := 5
abbrev t_uintptr : Nat := 12
abbrev t_unsafe_Pointer : Nat := 80
theorem mixed : E.P.follows .mixedOrders = true := by kernel_rfl
end Go.Proofs.Ytnmbnihbeggmgaa

namespace Lib
open Go Ab
structure Charge where
  id : Int
  patron : Int
  item : Int
  day : Int
  kind : Int
  amount : Int
  paid : Int
  deriving Inhabited, DecidableEq
structure Cal where
  week : Int
  closed : List Int
structure Rule where
  r0 : Int
  r1 : Int
  r2 : Int
  r3 : Int
  r4 : Int
  fine : Int
  grace : Int
  maxFine : Int
  r8 : Int
  r9 : Int
  r10 : Int
  r11 : Int
  r12 : Int
def encCharge (c : Charge) : D := .agg [.int .i64 c.id, .int .i64 c.patron, .int .i64 c.item, .int .i64 c.day, .int .i64 c.kind, .int .i64 c.amount, .int .i64 c.paid]
def z0 : Charge := ⟨0, 0, 0, 0, 0, 0, 0⟩
def encCharges (l : List Charge) : D := .slice (encCharge z0) (l.map encCharge)
def encInts (l : List Int) : D := .slice (.int .i64 0) (l.map (D.int .i64))
def encCal (c : Cal) : D := .agg [.int .i64 c.week, encInts c.closed]
def encRule (r : Rule) : D := .agg [.int .i64 r.r0, .int .i64 r.r1, .int .i64 r.r2, .int .i64 r.r3, .int .i64 r.r4, .int .i64 r.fine, .int .i64 r.grace, .int .i64 r.maxFine, .int .i64 r.r8, .int .i64 r.r9, .int .i64 r.r10, .int .i64 r.r11, .int .i64 r.r12]
@[simp] theorem encCharge_cells (c : Charge) : (encCharge c).cells = [.int .i64 c.id, .int .i64 c.patron, .int .i64 c.item, .int .i64 c.day, .int .i64 c.kind, .int .i64 c.amount, .int .i64 c.paid] := rfl
theorem encCharge_eq (c : Charge) : encCharge c = .agg [.int .i64 c.id, .int .i64 c.patron, .int .i64 c.item, .int .i64 c.day, .int .i64 c.kind, .int .i64 c.amount, .int .i64 c.paid] := rfl
theorem encCharges_eq (l : List Charge) : encCharges l = .slice (encCharge z0) (l.map encCharge) := rfl
theorem encInts_eq (l : List Int) : encInts l = .slice (.int .i64 0) (l.map (D.int .i64)) := rfl
theorem encCal_eq (c : Cal) : encCal c = .agg [.int .i64 c.week, encInts c.closed] := rfl
theorem encRule_eq (r : Rule) : encRule r = .agg [.int .i64 r.r0, .int .i64 r.r1, .int .i64 r.r2, .int .i64 r.r3, .int .i64 r.r4, .int .i64 r.fine, .int .i64 r.grace, .int .i64 r.maxFine, .int .i64 r.r8, .int .i64 r.r9, .int .i64 r.r10, .int .i64 r.r11, .int .i64 r.r12] := rfl
def isDay (n : Int) : Bool := decide (0 ≤ n) && decide (n ≤ 109572)
def isID (n : Int) : Bool := decide (1 ≤ n) && decide (n ≤ 9999)
def wday (n : Int) : Int := if isDay n then n.tmod 7 else -1
def ruleOk (r : Rule) : Bool := decide (0 ≤ r.fine) && decide (r.fine ≤ 1000) && decide (0 ≤ r.grace) && decide (r.grace ≤ 30) && decide (0 ≤ r.maxFine) && decide (r.maxFine ≤ 100000000)
def owedF (p : Int) : Int → List Charge → Int
  | s, [] => s
  | s, c :: l => owedF p (if c.patron = p then IntKind.i64.wrap (s + IntKind.i64.wrap (c.amount - c.paid)) else s) l
def payStep (p r : Int) (c : Charge) : Int := if IntKind.i64.wrap (c.amount - c.paid) < r then IntKind.i64.wrap (c.amount - c.paid) else r
def payF (p : Int) : Int × List Charge → List Charge → Int × List Charge
  | (r, o), [] => (r, o)
  | (r, o), c :: l =>
    if c.patron = p then
      if IntKind.i64.wrap (c.paid + payStep p r c) < c.amount then payF p (IntKind.i64.wrap (r - payStep p r c), o ++ [{ c with paid := IntKind.i64.wrap (c.paid + payStep p r c) }]) l
      else payF p (IntKind.i64.wrap (r - payStep p r c), o) l
    else if c.paid < c.amount then payF p (r, o ++ [c]) l else payF p (r, o) l
def payR (l : List Charge) (p a : Int) : RetT :=
  if a < 1 ∨ 100000000 < a then .tup [encCharges [], .int .i64 0, .int .i64 1]
  else .tup [encCharges (payF p (a, []) l).2, .int .i64 (payF p (a, []) l).1, .int .i64 0]
theorem payR_bad {l : List Charge} {p a : Int} (h : a < 1 ∨ 100000000 < a) : payR l p a = .tup [encCharges [], .int .i64 0, .int .i64 1] := if_pos h
theorem payR_good {l : List Charge} {p a : Int} (h : 1 ≤ a ∧ a ≤ 100000000) : payR l p a = .tup [encCharges (payF p (a, []) l).2, .int .i64 (payF p (a, []) l).1, .int .i64 0] := if_neg (by omega)
def idxG (p : Int → Bool) : Unit → List Int → Int := fun _ _ => 0
def owedG (p : Int) : Int → List Charge → Int
  | s, [] => s
  | s, c :: l => owedG p (if c.patron = p then IntKind.i64.wrap (IntKind.i64.wrap (s + c.amount) - c.paid) else s) l
theorem owedG_eq (p : Int) : ∀ (l : List Charge) (s : Int), owedG p s l = owedF p s l
  | [], s => rfl
  | c :: l, s => by
    have e : IntKind.i64.wrap (IntKind.i64.wrap (s + c.amount) - c.paid) = IntKind.i64.wrap (s + IntKind.i64.wrap (c.amount - c.paid)) := by
      simp only [IntKind.wrap_i64]; omega
    rw [owedG, owedF, e]
    exact owedG_eq p l _
def idxF (p : Int → Bool) : Int → List Int → Int
  | _, [] => -1
  | i, x :: l => if p x then i else idxF p (i + 1) l
theorem idxF_any (p : Int → Bool) : ∀ (l : List Int) (i : Int), 0 ≤ i → decide (0 ≤ idxF p i l) = l.any p
  | [], i, _ => by simp [idxF]
  | x :: l, i, hi => by
    by_cases hp : p x = true
    · simp [idxF, hp, hi]
    · have hp' : p x = false := by simpa using hp
      simp only [idxF, List.any_cons, hp', Bool.false_eq_true, if_false, Bool.false_or]
      exact idxF_any p l (i + 1) (by omega)
def chkC (c : Charge) : Int :=
  if c.id < 1 ∨ 99999 < c.id ∨ c.patron < 1 ∨ 9999 < c.patron ∨ c.item < 1 ∨ 9999 < c.item ∨ isDay c.day = false then 2
  else if c.kind < 1 ∨ 3 < c.kind then 1
  else if c.amount < 1 ∨ 100000000 < c.amount ∨ c.paid < 0 ∨ c.amount ≤ c.paid then 2 else 0
section
variable {x : Charge}
theorem chk2a (h : (((((x.id < 1 ∨ 99999 < x.id) ∨ x.patron < 1) ∨ 9999 < x.patron) ∨ x.item < 1) ∨ 9999 < x.item) ∨ isDay x.day = false) : chkC x = 2 := if_pos (by simpa only [or_assoc] using h)
theorem chkn (h : (((((1 ≤ x.id ∧ x.id ≤ 99999) ∧ 1 ≤ x.patron) ∧ x.patron ≤ 9999) ∧ 1 ≤ x.item) ∧ x.item ≤ 9999) ∧ isDay x.day = true) : ¬ (x.id < 1 ∨ 99999 < x.id ∨ x.patron < 1 ∨ 9999 < x.patron ∨ x.item < 1 ∨ 9999 < x.item ∨ isDay x.day = false) := by
  obtain ⟨h1, h2⟩ := h
  rw [h2]
  simp
  omega
theorem chk1 (h : (((((1 ≤ x.id ∧ x.id ≤ 99999) ∧ 1 ≤ x.patron) ∧ x.patron ≤ 9999) ∧ 1 ≤ x.item) ∧ x.item ≤ 9999) ∧ isDay x.day = true) (h2 : x.kind < 1 ∨ 3 < x.kind) : chkC x = 1 := by
  unfold chkC; rw [if_neg (chkn h), if_pos h2]
theorem chk2b (h : (((((1 ≤ x.id ∧ x.id ≤ 99999) ∧ 1 ≤ x.patron) ∧ x.patron ≤ 9999) ∧ 1 ≤ x.item) ∧ x.item ≤ 9999) ∧ isDay x.day = true) (h2 : 1 ≤ x.kind ∧ x.kind ≤ 3) (h3 : ((x.amount < 1 ∨ 100000000 < x.amount) ∨ x.paid < 0) ∨ x.amount ≤ x.paid) : chkC x = 2 := by
  unfold chkC; rw [if_neg (chkn h), if_neg (by omega), if_pos (by omega)]
theorem chk0 (h : (((((1 ≤ x.id ∧ x.id ≤ 99999) ∧ 1 ≤ x.patron) ∧ x.patron ≤ 9999) ∧ 1 ≤ x.item) ∧ x.item ≤ 9999) ∧ isDay x.day = true) (h2 : 1 ≤ x.kind ∧ x.kind ≤ 3) (h3 : ((1 ≤ x.amount ∧ x.amount ≤ 100000000) ∧ 0 ≤ x.paid) ∧ x.paid < x.amount) : chkC x = 0 := by
  unfold chkC; rw [if_neg (chkn h), if_neg (by omega), if_neg (by omega)]
end
def lowId : Option Int → Int → Bool
  | none, _ => false
  | some p, i => decide (i ≤ p)
def rightF : Option Int → List Charge → Int
  | _, [] => 0
  | pr, c :: l => if lowId pr c.id = true then 7 else if chkC c ≠ 0 then chkC c else rightF (some c.id) l
def rightR (l : List Charge) : Int := if 128 < l.length then 13 else rightF none l
theorem rightR_ok {l : List Charge} (h : (l.length : Int) ≤ 128) : rightR l = rightF none l := if_neg (by omega)
theorem rightR_full {l : List Charge} (h : 128 < (l.length : Int)) : rightR l = 13 := if_pos (by omega)
def sameF : List Charge → List Charge → Bool := fun r l => decide (l = r)
section
variable {x : Charge}
theorem isID_t {n : Int} : isID n = true ↔ 1 ≤ n ∧ n ≤ 9999 := by simp [isID]
theorem isID_f {n : Int} : isID n = false ↔ n < 1 ∨ 9999 < n := by simp [isID]; omega
theorem chk2c (h : (((x.id < 1 ∨ 99999 < x.id) ∨ isID x.patron = false) ∨ isID x.item = false) ∨ isDay x.day = false) : chkC x = 2 := if_pos (by simp only [isID_f] at h; simpa only [or_assoc] using h)
theorem chkcv (h : (((1 ≤ x.id ∧ x.id ≤ 99999) ∧ isID x.patron = true) ∧ isID x.item = true) ∧ isDay x.day = true) : (((((1 ≤ x.id ∧ x.id ≤ 99999) ∧ 1 ≤ x.patron) ∧ x.patron ≤ 9999) ∧ 1 ≤ x.item) ∧ x.item ≤ 9999) ∧ isDay x.day = true := by
  simp only [isID_t] at h; simpa only [and_assoc] using h
theorem chk1c (h : (((1 ≤ x.id ∧ x.id ≤ 99999) ∧ isID x.patron = true) ∧ isID x.item = true) ∧ isDay x.day = true) (h2 : x.kind < 1 ∨ 3 < x.kind) : chkC x = 1 := chk1 (chkcv h) h2
theorem chk2d (h : (((1 ≤ x.id ∧ x.id ≤ 99999) ∧ isID x.patron = true) ∧ isID x.item = true) ∧ isDay x.day = true) (h2 : 1 ≤ x.kind ∧ x.kind ≤ 3) (h3 : ((x.amount < 1 ∨ 100000000 < x.amount) ∨ x.paid < 0) ∨ x.amount ≤ x.paid) : chkC x = 2 := chk2b (chkcv h) h2 h3
theorem chk0c (h : (((1 ≤ x.id ∧ x.id ≤ 99999) ∧ isID x.patron = true) ∧ isID x.item = true) ∧ isDay x.day = true) (h2 : 1 ≤ x.kind ∧ x.kind ≤ 3) (h3 : ((1 ≤ x.amount ∧ x.amount ≤ 100000000) ∧ 0 ≤ x.paid) ∧ x.paid < x.amount) : chkC x = 0 := chk0 (chkcv h) h2 h3
end
def remF (p : Charge → Bool) : List Charge × Int × Int → List Charge → List Charge × Int × Int
  | (o, q, n), [] => (o, q, n)
  | (o, q, n), c :: l => if p c = true then remF p (o, IntKind.i64.wrap (q + c.paid), IntKind.i64.wrap (n + 1)) l else remF p (o ++ [c], q, n) l
def remR (l : List Charge) (p : Charge → Bool) : RetT := .tup [encCharges (remF p ([], 0, 0) l).1, .int .i64 (remF p ([], 0, 0) l).2.1, .int .i64 (remF p ([], 0, 0) l).2.2]
def refP (p i k : Int) (c : Charge) : Bool := (c.patron == p && c.item == i) && (k == 0 || c.kind == k)
def waiveR (l : List Charge) (i : Int) : RetT :=
  if (remF (fun c => c.id == i) ([], 0, 0) l).2.2 = 0 then .tup [encCharges [], .int .i64 0, .int .i64 9]
  else .tup [encCharges (remF (fun c => c.id == i) ([], 0, 0) l).1, .int .i64 (remF (fun c => c.id == i) ([], 0, 0) l).2.1, .int .i64 0]
theorem waiveR_none {l : List Charge} {i : Int} (h : (remF (fun c => c.id == i) ([], 0, 0) l).2.2 = 0) : waiveR l i = .tup [encCharges [], .int .i64 0, .int .i64 9] := if_pos h
theorem waiveR_some {l : List Charge} {i : Int} (h : ¬ (remF (fun c => c.id == i) ([], 0, 0) l).2.2 = 0) : waiveR l i = .tup [encCharges (remF (fun c => c.id == i) ([], 0, 0) l).1, .int .i64 (remF (fun c => c.id == i) ([], 0, 0) l).2.1, .int .i64 0] := if_neg h
def refundR (l : List Charge) (p i k : Int) : RetT := .tup [encCharges (remF (refP p i k) ([], 0, 0) l).1, .int .i64 (remF (refP p i k) ([], 0, 0) l).2.1]
def wvF (i : Int) : List Charge × Int → List Charge → List Charge × Int
  | (o, q), [] => (o, q)
  | (o, q), c :: l => if c.id = i then wvF i (o, c.paid) l else wvF i (o ++ [c], q) l
def wvR (l : List Charge) (i : Int) : RetT :=
  if (wvF i ([], -1) l).2 < 0 then .tup [encCharges [], .int .i64 0, .int .i64 9] else .tup [encCharges (wvF i ([], -1) l).1, .int .i64 (wvF i ([], -1) l).2, .int .i64 0]
theorem wvR_none {l : List Charge} {i : Int} (h : (wvF i ([], -1) l).2 < 0) : wvR l i = .tup [encCharges [], .int .i64 0, .int .i64 9] := if_pos h
theorem wvR_some {l : List Charge} {i : Int} (h : 0 ≤ (wvF i ([], -1) l).2) : wvR l i = .tup [encCharges (wvF i ([], -1) l).1, .int .i64 (wvF i ([], -1) l).2, .int .i64 0] := if_neg (by omega)
def rfF (p i k : Int) : List Charge × Int → List Charge → List Charge × Int
  | (o, q), [] => (o, q)
  | (o, q), c :: l => if refP p i k c = true then rfF p i k (o, IntKind.i64.wrap (q + c.paid)) l else rfF p i k (o ++ [c], q) l
def rfR (l : List Charge) (p i k : Int) : RetT := .tup [encCharges (rfF p i k ([], 0) l).1, .int .i64 (rfF p i k ([], 0) l).2]
def ascF : Option Int → List Int → Int
  | _, [] => 0
  | pr, x :: l => if lowId pr x = true then 7 else ascF (some x) l
def calR (c : Cal) : Int := if c.week < 0 ∨ 127 ≤ c.week then 1 else if 64 < (c.closed.length : Int) then 13 else if c.closed.any (fun n => !isDay n) = true then 2 else ascF none c.closed
theorem cal_len {c : Cal} (h : D.Ok (encCal c)) : c.closed.length ≤ 9223372036854775807 := by
  have := (Ok_slice (Ok_agg h (encInts c.closed) (by simp))).1
  simpa using this
section
variable {c : Cal}
theorem cal1 (h : c.week < 0 ∨ 127 ≤ c.week) : calR c = 1 := if_pos h
theorem cal13 (h : 0 ≤ c.week ∧ c.week < 127) (h2 : 64 < (c.closed.length : Int)) : calR c = 13 := by unfold calR; rw [if_neg (by omega), if_pos h2]
theorem cal2 (h : 0 ≤ c.week ∧ c.week < 127) (h2 : (c.closed.length : Int) ≤ 64) (h3 : ∃ x ∈ c.closed, isDay x = false) : calR c = 2 := by
  unfold calR; rw [if_neg (by omega), if_neg (by omega), if_pos (by simpa using h3)]
theorem calA (h : 0 ≤ c.week ∧ c.week < 127) (h2 : (c.closed.length : Int) ≤ 64) (h3 : ∀ x ∈ c.closed, isDay x = true) : calR c = ascF none c.closed := by
  unfold calR; rw [if_neg (by omega), if_neg (by omega), if_neg (by simpa using h3)]
end
def fst7 (w : Int) : Int := (IntKind.i64.wrap (IntKind.i64.wrap (w - wday 0) + 7)).tmod 7
def upToW (d w : Int) : Int := if d < fst7 w then 0 else IntKind.i64.wrap (IntKind.i64.wrap ((IntKind.i64.wrap (d - fst7 w)).tdiv 7) + 1)
theorem upToW_lt {d w : Int} (h : d < fst7 w) : upToW d w = 0 := if_pos h
theorem upToW_ge {d w : Int} (h : fst7 w ≤ d) : upToW d w = IntKind.i64.wrap (IntKind.i64.wrap ((IntKind.i64.wrap (d - fst7 w)).tdiv 7) + 1) := if_neg (by omega)
def wkB (w : Int) (i : Nat) : Bool := bits BinOp.and IntKind.i64 (w.fdiv (2 ^ min i IntKind.i64.bits)) 1 == 0
def weekL (w : Int) : List D := [.bool (wkB w 0), .bool (wkB w 1), .bool (wkB w 2), .bool (wkB w 3), .bool (wkB w 4), .bool (wkB w 5), .bool (wkB w 6)]
@[simp] theorem weekL_length (w : Int) : (weekL w).length = 7 := rfl
@[simp] theorem weekL_getD (w : Int) (i : Nat) : (weekL w)[i]?.getD (D.bool false) = D.bool (decide (i < 7) && wkB w i) := by
  by_cases h : i < 7
  · have : i = 0 ∨ i = 1 ∨ i = 2 ∨ i = 3 ∨ i = 4 ∨ i = 5 ∨ i = 6 := by omega
    rcases this with rfl | rfl | rfl | rfl | rfl | rfl | rfl <;> simp [weekL]
  · rw [List.getElem?_eq_none (by simp; omega)]
    simp [h]
@[simp] theorem weekL_ld (w : Int) : List.take 7 (List.map (C.dat ∘ C.d) (weekL w)) = weekL w := rfl
def cnt7 (w lo hi : Int) : Nat → Int
  | 0 => 0
  | k + 1 => if wkB w k = true then IntKind.i64.wrap (cnt7 w lo hi k + IntKind.i64.wrap (upToW hi k - upToW (IntKind.i64.wrap (lo - 1)) k)) else cnt7 w lo hi k
@[simp] theorem cnt7_zero {w lo hi : Int} : cnt7 w lo hi 0 = 0 := rfl
theorem wday_rng {d : Int} (h0 : 0 ≤ d) (h1 : d ≤ 109572) : 0 ≤ wday d ∧ wday d < 7 := by
  have e : wday d = d % 7 := by
    unfold wday isDay
    rw [if_pos (by simp [h0, h1]), Int.tmod_eq_emod_of_nonneg h0]
  rw [e]; omega
def cntIn (w lo hi d : Int) : Bool := (decide (lo ≤ d) && decide (d ≤ hi)) && (decide (wday d < 7) && wkB w (wday d).toNat)
def cntG (w lo hi : Int) : Int → List Int → Int
  | n, [] => n
  | n, d :: l => if cntIn w lo hi d = true then cntG w lo hi (IntKind.i64.wrap (n - 1)) l else cntG w lo hi n l
def countR (c : Cal) (f t : Int) : Int :=
  if (if 109572 < t then 109572 else t) < (if f < 0 then 0 else f) then 0
  else cntG c.week (if f < 0 then 0 else f) (if 109572 < t then 109572 else t) (cnt7 c.week (if f < 0 then 0 else f) (if 109572 < t then 109572 else t) 7) c.closed
theorem countR_ge {c : Cal} {f t lo hi : Int} (h1 : (if f < 0 then 0 else f) = lo) (h2 : (if 109572 < t then 109572 else t) = hi) (h : lo ≤ hi) : countR c f t = cntG c.week lo hi (cnt7 c.week lo hi 7) c.closed := by
  unfold countR; rw [h1, h2, if_neg (by omega)]
def lateR (r : Rule) (c : Cal) (d b : Int) : Int :=
  if (¬ calR c = 0 ∨ isDay d = false) ∨ isDay b = false then 0
  else if countR c (IntKind.i64.wrap (d + 1)) b ≤ r.grace then 0
  else if r.maxFine < IntKind.i64.wrap (countR c (IntKind.i64.wrap (d + 1)) b * r.fine) then r.maxFine else IntKind.i64.wrap (countR c (IntKind.i64.wrap (d + 1)) b * r.fine)
section
variable {r : Rule} {c : Cal} {d b : Int}
theorem lateR_bad (h : (¬ calR c = 0 ∨ isDay d = false) ∨ isDay b = false) : lateR r c d b = 0 := if_pos h
theorem lateN (h : (calR c = 0 ∧ isDay d = true) ∧ isDay b = true) : ¬ ((¬ calR c = 0 ∨ isDay d = false) ∨ isDay b = false) := by simp [h.1.1, h.1.2, h.2]
theorem lateR_gr (h : (calR c = 0 ∧ isDay d = true) ∧ isDay b = true) (h2 : countR c (IntKind.i64.wrap (d + 1)) b ≤ r.grace) : lateR r c d b = 0 := by
  unfold lateR; rw [if_neg (lateN h), if_pos h2]
theorem lateR_ok (h : (calR c = 0 ∧ isDay d = true) ∧ isDay b = true) (h2 : r.grace < countR c (IntKind.i64.wrap (d + 1)) b) :
    lateR r c d b = if r.maxFine < IntKind.i64.wrap (countR c (IntKind.i64.wrap (d + 1)) b * r.fine) then r.maxFine else IntKind.i64.wrap (countR c (IntKind.i64.wrap (d + 1)) b * r.fine) := by
  unfold lateR; rw [if_neg (lateN h), if_neg (by omega)]
end
def r0 : Rule := ⟨0, 0, 0, 0, 0, 20, 1, 100, 0, 0, 0, 0, 0⟩
def c0 : Cal := ⟨0, []⟩
def l0 : List Charge := [⟨1, 5, 3, 9, 1, 300, 100⟩, ⟨2, 5, 4, 9, 3, 50, 0⟩]
def payO (l : List Charge) (p a : Int) : List Charge := if a < 1 ∨ 100000000 < a then [] else (payF p (a, []) l).2
def payX (l : List Charge) (p a : Int) : Int := if a < 1 ∨ 100000000 < a then 0 else (payF p (a, []) l).1
def payE (_ : List Charge) (_ a : Int) : Int := if a < 1 ∨ 100000000 < a then 1 else 0
theorem payR_tup (l : List Charge) (p a : Int) : payR l p a = .tup [encCharges (payO l p a), .int .i64 (payX l p a), .int .i64 (payE l p a)] := by
  unfold payR payO payX payE
  split <;> rfl
theorem rightF_cons {pr : Option Int} {c : Charge} {l : List Charge} (h : rightF pr (c :: l) = 0) : lowId pr c.id = false ∧ chkC c = 0 ∧ rightF (some c.id) l = 0 := by
  simp only [rightF] at h
  split at h
  · exact absurd h (by decide)
  · rename_i h1
    split at h
    · rename_i h2; exact absurd h h2
    · rename_i h2
      exact ⟨by simpa using h1, by simpa using h2, h⟩
theorem rightF_gt : ∀ (l : List Charge) (m : Int), rightF (some m) l = 0 → ∀ c ∈ l, m < c.id
  | [], _, _, c, hc => by simp at hc
  | x :: l, m, h, c, hc => by
    obtain ⟨h1, _, h3⟩ := rightF_cons h
    have hx : m < x.id := by simpa [lowId] using h1
    rcases List.mem_cons.1 hc with rfl | hc
    · exact hx
    · have := rightF_gt l x.id h3 c hc; omega
theorem chk0_facts {x : Charge} (h : chkC x = 0) : 1 ≤ x.id ∧ x.id ≤ 99999 ∧ 1 ≤ x.amount ∧ x.amount ≤ 100000000 ∧ 0 ≤ x.paid ∧ x.paid < x.amount := by
  unfold chkC at h
  split at h
  · exact absurd h (by decide)
  · split at h
    · exact absurd h (by decide)
    · split at h
      · exact absurd h (by decide)
      · rename_i h1 h2 h3
        have : ¬ (x.id < 1 ∨ 99999 < x.id) := fun hh => h1 (by rcases hh with hh | hh <;> simp [hh])
        omega
theorem rem_none {i : Int} : ∀ (l : List Charge) (o : List Charge) (q n : Int), (∀ c ∈ l, c.id ≠ i) → remF (fun c => c.id == i) (o, q, n) l = (o ++ l, q, n)
  | [], o, q, n, _ => by simp [remF]
  | c :: l, o, q, n, h => by
    have hc : ¬ (c.id = i) := h c (by simp)
    simp only [remF, beq_iff_eq, hc, if_false]
    rw [rem_none l _ q n (fun c' h' => h c' (by simp [h']))]; simp
theorem wv_none {i : Int} : ∀ (l : List Charge) (o : List Charge) (q : Int), (∀ c ∈ l, c.id ≠ i) → wvF i (o, q) l = (o ++ l, q)
  | [], o, q, _ => by simp [wvF]
  | c :: l, o, q, h => by
    have hc : ¬ (c.id = i) := h c (by simp)
    simp only [wvF, hc, if_false]
    rw [wv_none l _ q (fun c' h' => h c' (by simp [h']))]; simp
theorem rem_wv {i : Int} : ∀ (l : List Charge) (pr : Option Int) (o : List Charge), rightF pr l = 0 →
    (∃ x, remF (fun c => c.id == i) (o, 0, 0) l = (x, 0, 0) ∧ wvF i (o, -1) l = (x, -1)) ∨ ∃ x pd, 0 ≤ pd ∧ remF (fun c => c.id == i) (o, 0, 0) l = (x, pd, 1) ∧ wvF i (o, -1) l = (x, pd)
  | [], _, o, _ => .inl ⟨o, by simp [remF], by simp [wvF]⟩
  | c :: l, pr, o, h => by
    obtain ⟨_, h2, h3⟩ := rightF_cons h
    have hf := chk0_facts h2
    by_cases hc : c.id = i
    · right
      have hno : ∀ c' ∈ l, c'.id ≠ i := fun c' hc' => by have := rightF_gt l c.id h3 c' hc'; omega
      have e1 : IntKind.i64.wrap (0 + c.paid) = c.paid := by rw [wrap_i64] <;> omega
      have e2 : IntKind.i64.wrap (0 + 1) = 1 := by rw [wrap_i64] <;> omega
      refine ⟨o ++ l, c.paid, hf.2.2.2.2.1, ?_, ?_⟩
      · simp only [remF, beq_iff_eq, hc, if_true, e1, e2]
        exact rem_none l o _ _ hno
      · simp only [wvF, hc, if_true]
        exact wv_none l o _ hno
    · simp only [remF, wvF, beq_iff_eq, hc, if_false]
      exact rem_wv l (some c.id) (o ++ [c]) h3
theorem wvR_eq {l : List Charge} {i : Int} (h : rightR l = 0) : wvR l i = waiveR l i := by
  have h' : rightF none l = 0 := by
    unfold rightR at h
    split at h
    · exact absurd h (by decide)
    · exact h
  rcases rem_wv (i := i) l none [] h' with ⟨x, h1, h2⟩ | ⟨x, pd, h0, h1, h2⟩
  · unfold wvR waiveR; rw [h1, h2]; simp
  · unfold wvR waiveR; rw [h1, h2]; simp; omega
def wO (l : List Charge) (i : Int) : List Charge := if (remF (fun c => c.id == i) ([], 0, 0) l).2.2 = 0 then [] else (remF (fun c => c.id == i) ([], 0, 0) l).1
def wX (l : List Charge) (i : Int) : Int := if (remF (fun c => c.id == i) ([], 0, 0) l).2.2 = 0 then 0 else (remF (fun c => c.id == i) ([], 0, 0) l).2.1
def wE (l : List Charge) (i : Int) : Int := if (remF (fun c => c.id == i) ([], 0, 0) l).2.2 = 0 then 9 else 0
theorem waiveR_tup (l : List Charge) (i : Int) : waiveR l i = .tup [encCharges (wO l i), .int .i64 (wX l i), .int .i64 (wE l i)] := by
  unfold waiveR wO wX wE; split <;> rfl
theorem rf_rem {p i k : Int} : ∀ (l : List Charge) (o : List Charge) (q n : Int), (rfF p i k (o, q) l).1 = (remF (refP p i k) (o, q, n) l).1 ∧ (rfF p i k (o, q) l).2 = (remF (refP p i k) (o, q, n) l).2.1
  | [], o, q, n => ⟨rfl, rfl⟩
  | c :: l, o, q, n => by
    simp only [rfF, remF]
    split
    · exact rf_rem l o _ _
    · exact rf_rem l _ q n
def addR (l : List Charge) (c : Charge) : RetT := if rightR (l ++ [c]) = 0 then .tup [encCharges (l ++ [c]), .int .i64 0] else .tup [encCharges [], .int .i64 (rightR (l ++ [c]))]
theorem addR_bad {l : List Charge} {c : Charge} (h : ¬ rightR (l ++ [c]) = 0) : addR l c = .tup [encCharges [], .int .i64 (rightR (l ++ [c]))] := if_neg h
theorem addR_ok {l : List Charge} {c : Charge} (h : rightR (l ++ [c]) = 0) : addR l c = .tup [encCharges (l ++ [c]), .int .i64 0] := if_pos h
def copyF (o l : List Charge) : List Charge := o ++ l
def addO (l : List Charge) (c : Charge) : List Charge := if rightR (l ++ [c]) = 0 then l ++ [c] else []
theorem addR_tup (l : List Charge) (c : Charge) : addR l c = .tup [encCharges (addO l c), .int .i64 (rightR (l ++ [c]))] := by
  unfold addR addO
  split
  · rename_i h; rw [h]
  · rfl
def hv : Nat → Int → Int
  | 0, w => w
  | k + 1, w => IntKind.i64.wrap ((hv k w).tdiv 2)
@[simp] theorem hv_zero {w : Int} : hv 0 w = w := rfl
def anyF (d : Int) : Unit → List Int → Bool
  | _, [] => true
  | _, x :: l => if x = d then false else anyF d () l
def openR (c : Cal) (d : Int) : Bool := if d < 0 ∨ 109572 < d then false else if (hv (wday d).toNat c.week).tmod 2 = 1 then false else anyF d () c.closed
section
variable {c : Cal} {d : Int}
theorem openR_out (h : d < 0 ∨ 109572 < d) : openR c d = false := if_pos h
theorem openR_week (h : 0 ≤ d ∧ d ≤ 109572) (h2 : (hv (wday d).toNat c.week).tmod 2 = 1) : openR c d = false := by unfold openR; rw [if_neg (by omega), if_pos h2]
theorem openR_in (h : 0 ≤ d ∧ d ≤ 109572) (h2 : ¬ (hv (wday d).toNat c.week).tmod 2 = 1) : openR c d = anyF d () c.closed := by unfold openR; rw [if_neg (by omega), if_neg h2]
end
def cntN (c : Cal) : Nat → Int → Int → Int
  | 0, _, n => n
  | k + 1, d, n => cntN c k (d + 1) (if openR c d = true then IntKind.i64.wrap (n + 1) else n)
def countD (c : Cal) (f t : Int) : Int := cntN c ((if 109572 < t then 109572 else t) + 1 - (if f < 0 then 0 else f)).toNat (if f < 0 then 0 else f) 0
theorem countD_eq {c : Cal} {f t lo hi : Int} (h1 : (if f < 0 then 0 else f) = lo) (h2 : (if 109572 < t then 109572 else t) = hi) : countD c f t = cntN c (hi + 1 - lo).toNat lo 0 := by
  unfold countD; rw [h1, h2]
def badF : Unit → List Int → Bool
  | _, [] => false
  | _, x :: l => if isDay x = false then true else badF () l
theorem badF_any : ∀ l : List Int, badF () l = l.any (fun n => !isDay n)
  | [] => rfl
  | x :: l => by
    simp only [badF, List.any_cons, badF_any l]
    cases h : isDay x <;> simp
theorem asc_tail : ∀ l : List Int, ascF none l = ascF l.head? l.tail
  | [] => rfl
  | x :: l => by simp [ascF, lowId]
theorem cal2b {c : Cal} (h : 0 ≤ c.week ∧ c.week < 127) (h2 : (c.closed.length : Int) ≤ 64) (h3 : badF () c.closed = true) : calR c = 2 := by
  rw [badF_any] at h3
  unfold calR; rw [if_neg (by omega), if_neg (by omega), if_pos h3]
theorem calAb {c : Cal} (h : 0 ≤ c.week ∧ c.week < 127) (h2 : (c.closed.length : Int) ≤ 64) (h3 : badF () c.closed = false) : calR c = ascF c.closed.head? c.closed.tail := by
  rw [badF_any] at h3
  unfold calR; rw [if_neg (by omega), if_neg (by omega), if_neg (by simp [h3]), asc_tail]
end Lib

/- Calendars: the count by weeks is the count by days. No conditions beyond those at each theorem. -/
namespace Lib
open Go Ab
set_option linter.unusedVariables false
set_option linter.unusedSimpArgs false

def b2i (b : Bool) : Int := if b = true then 1 else 0
theorem b2i_rng (b : Bool) : 0 ≤ b2i b ∧ b2i b ≤ 1 := by cases b <;> simp [b2i]
/-- how many days of [d, d+k) satisfy p -/
def cdays (p : Int → Bool) (d : Int) : Nat → Int
  | 0 => 0
  | k + 1 => cdays p d k + b2i (p (d + k))
theorem cdays_rng (p : Int → Bool) (d : Int) : ∀ k : Nat, 0 ≤ cdays p d k ∧ cdays p d k ≤ k
  | 0 => by simp [cdays]
  | k + 1 => by have := cdays_rng p d k; have := b2i_rng (p (d + k)); simp only [cdays]; omega
theorem cdays_cons (p : Int → Bool) (d : Int) : ∀ k : Nat, cdays p d (k + 1) = b2i (p d) + cdays p (d + 1) k
  | 0 => by simp [cdays]
  | k + 1 => by
    have h := cdays_cons p d k
    rw [cdays, h]
    simp only [cdays]
    have e : d + ((k + 1 : Nat) : Int) = d + 1 + (k : Int) := by omega
    rw [e]; omega
theorem cdays_add (p : Int → Bool) (d : Int) (m : Nat) : ∀ k : Nat, cdays p d (m + k) = cdays p d m + cdays p (d + m) k
  | 0 => by simp [cdays]
  | k + 1 => by
    rw [← Nat.add_assoc]; simp only [cdays]; rw [cdays_add p d m k]
    have e : d + ((m + k : Nat) : Int) = d + m + (k : Int) := by omega
    rw [e]; omega
theorem cdays_congr {p q : Int → Bool} {d : Int} : ∀ k : Nat, (∀ i : Nat, i < k → p (d + i) = q (d + i)) → cdays p d k = cdays q d k
  | 0, _ => rfl
  | k + 1, h => by simp only [cdays]; rw [cdays_congr k (fun i hi => h i (by omega)), h k (by omega)]

theorem cntN_eq (c : Cal) : ∀ (k : Nat) (d n : Int), 0 ≤ n → n + k ≤ 1000000 → cntN c k d n = n + cdays (openR c) d k
  | 0, d, n, _, _ => by simp [cntN, cdays]
  | k + 1, d, n, h0, h1 => by
    rw [cntN, cdays_cons]
    have e : IntKind.i64.wrap (n + 1) = n + 1 := wrap_i64 (by omega) (by omega)
    by_cases ho : openR c d = true
    · rw [if_pos ho, e, cntN_eq c k _ _ (by omega) (by omega)]; simp [b2i, ho]; omega
    · rw [if_neg ho, cntN_eq c k _ _ (by omega) (by omega)]; simp [b2i, ho]

def lo0 (f : Int) : Int := if f < 0 then 0 else f
def hi0 (t : Int) : Int := if 109572 < t then 109572 else t
theorem lo0_rng (f : Int) : 0 ≤ lo0 f ∧ f ≤ lo0 f := by unfold lo0; split <;> omega
theorem hi0_rng (t : Int) : hi0 t ≤ 109572 ∧ hi0 t ≤ t := by unfold hi0; split <;> omega
/-- the open days from f to t -/
def cnt (c : Cal) (f t : Int) : Int := cdays (openR c) (lo0 f) (hi0 t + 1 - lo0 f).toNat
theorem countD_cnt (c : Cal) (f t : Int) : countD c f t = cnt c f t := by
  have h1 := lo0_rng f; have h2 := hi0_rng t
  have e : countD c f t = cntN c (hi0 t + 1 - lo0 f).toNat (lo0 f) 0 := rfl
  rw [e, cntN_eq c _ _ _ (by omega) (by omega), Int.zero_add]; rfl

theorem wk_hv : ∀ (n : Fin 127) (k : Fin 7), wkB (n.val : Int) k.val = !(decide ((hv k.val (n.val : Int)).tmod 2 = 1)) := by decide +kernel
theorem wkB_eq {w : Int} (h0 : 0 ≤ w) (h1 : w < 127) {k : Nat} (hk : k < 7) : wkB w k = !(decide ((hv k w).tmod 2 = 1)) := by
  have := wk_hv ⟨w.toNat, by omega⟩ ⟨k, hk⟩
  have e : ((w.toNat : Nat) : Int) = w := Int.toNat_of_nonneg h0
  simpa only [e] using this
theorem wday_eq {d : Int} (h0 : 0 ≤ d) (h1 : d ≤ 109572) : wday d = d % 7 := by
  unfold wday isDay
  rw [if_pos (by simp [h0, h1]), Int.tmod_eq_emod_of_nonneg h0]
theorem anyF_eq (d : Int) : ∀ l : List Int, anyF d () l = !(decide (d ∈ l))
  | [] => by simp [anyF]
  | x :: l => by
    by_cases h : x = d
    · subst h; simp [anyF]
    · have h' : ¬ d = x := fun e => h e.symm
      simp [anyF, h, h', anyF_eq d l]
/-- the day of the week is open -/
def wkO (c : Cal) (d : Int) : Bool := wkB c.week (d % 7).toNat
theorem calR_facts {c : Cal} (h : calR c = 0) : 0 ≤ c.week ∧ c.week < 127 ∧ c.closed.length ≤ 64 ∧ (∀ x ∈ c.closed, 0 ≤ x ∧ x ≤ 109572) ∧ ascF none c.closed = 0 := by
  unfold calR at h
  split at h
  · exact absurd h (by decide)
  · split at h
    · exact absurd h (by decide)
    · split at h
      · exact absurd h (by decide)
      · rename_i h1 h2 h3
        refine ⟨by omega, by omega, by omega, fun x hx => ?_, h⟩
        simp only [List.any_eq_true, not_exists, not_and] at h3
        have := h3 x hx
        simp [isDay] at this
        exact this
theorem openR_eq {c : Cal} (h : calR c = 0) {d : Int} (h0 : 0 ≤ d) (h1 : d ≤ 109572) : openR c d = (wkO c d && !(decide (d ∈ c.closed))) := by
  obtain ⟨a1, a2, _⟩ := calR_facts h
  unfold openR
  rw [if_neg (by omega), wday_eq h0 h1, anyF_eq]
  unfold wkO
  rw [wkB_eq a1 a2 (by omega)]
  by_cases hh : (hv (d % 7).toNat c.week).tmod 2 = 1
  · simp [hh]
  · simp [hh]
theorem openR_day {c : Cal} {d : Int} (h : openR c d = true) : 0 ≤ d ∧ d ≤ 109572 := by
  unfold openR at h
  split at h
  · cases h
  · omega
/-- ascending lists have no member twice -/
theorem ascF_gt : ∀ (l : List Int) (m : Int), ascF (some m) l = 0 → ∀ x ∈ l, m < x
  | [], _, _, x, hx => by simp at hx
  | y :: l, m, h, x, hx => by
    simp only [ascF] at h
    split at h
    · exact absurd h (by decide)
    · rename_i h1
      have hy : m < y := by simpa [lowId] using h1
      rcases List.mem_cons.1 hx with rfl | hx
      · exact hy
      · have := ascF_gt l y h x hx; omega
theorem ascF_nodup : ∀ (l : List Int) (p : Option Int), ascF p l = 0 → l.Nodup
  | [], _, _ => List.nodup_nil
  | y :: l, p, h => by
    simp only [ascF] at h
    split at h
    · exact absurd h (by decide)
    · refine List.nodup_cons.2 ⟨fun hy => ?_, ascF_nodup l _ h⟩
      have := ascF_gt l y h y hy; omega

/-- days from 0 to a day with a weekday, without wrapping -/
def upz (d k : Int) : Int := if d < k then 0 else (d - k) / 7 + 1
theorem fst7_eq {k : Int} (h0 : 0 ≤ k) (h1 : k < 7) : fst7 k = k := by
  have e0 : wday 0 = 0 := by decide
  unfold fst7
  rw [e0]
  rw [wrap_i64 (n := k - 0) (by omega) (by omega), wrap_i64 (by omega) (by omega), Int.tmod_eq_emod_of_nonneg (by omega)]
  omega
theorem upToW_eq {d k : Int} (h0 : 0 ≤ k) (h1 : k < 7) (hd : -1 ≤ d) (hd2 : d ≤ 109572) : upToW d k = upz d k := by
  unfold upToW upz
  rw [fst7_eq h0 h1]
  by_cases h : d < k
  · rw [if_pos h, if_pos h]
  · rw [if_neg h, if_neg h]
    rw [wrap_i64 (n := d - k) (by omega) (by omega), Int.tdiv_eq_ediv_of_nonneg (by omega), wrap_i64 (n := (d - k) / 7) (by omega) (by omega), wrap_i64 (by omega) (by omega)]
theorem upz_step {d k : Int} (h0 : 0 ≤ k) (h1 : k < 7) (hd : -1 ≤ d) : upz (d + 1) k = upz d k + (if (d + 1) % 7 = k then 1 else 0) := by
  unfold upz
  split <;> split <;> split <;> omega
/-- the count of weekdays below k, without wrapping -/
def c7 (w lo hi : Int) : Nat → Int
  | 0 => 0
  | k + 1 => c7 w lo hi k + b2i (wkB w k) * (upz hi k - upz (lo - 1) k)
theorem upz_rng {lo hi k : Int} (h0 : 0 ≤ k) (h1 : k < 7) (hl : -1 ≤ lo) (hh : lo ≤ hi) : upz lo k ≤ upz hi k ∧ upz hi k - upz lo k ≤ hi - lo := by
  unfold upz; split <;> split <;> omega
theorem c7_rng {w lo hi : Int} (hl : 0 ≤ lo) (hh : lo - 1 ≤ hi) : ∀ k : Nat, k ≤ 7 → 0 ≤ c7 w lo hi k ∧ c7 w lo hi k ≤ k * (hi + 1 - lo)
  | 0, _ => by simp [c7]
  | k + 1, hk => by
    have := c7_rng (w := w) hl hh k (by omega)
    have := upz_rng (lo := lo - 1) (hi := hi) (k := k) (by omega) (by omega) (by omega) hh
    have e : ((k + 1 : Nat) : Int) * (hi + 1 - lo) = k * (hi + 1 - lo) + (hi + 1 - lo) := by
      rw [Int.natCast_add, Int.add_mul]; simp
    simp only [c7]
    rw [e]
    unfold b2i
    split <;> omega
theorem cnt7_eq {w lo hi : Int} (hl : 0 ≤ lo) (hh : lo - 1 ≤ hi) (hh2 : hi ≤ 109572) : ∀ k : Nat, k ≤ 7 → cnt7 w lo hi k = c7 w lo hi k
  | 0, _ => rfl
  | k + 1, hk => by
    have hr := c7_rng (w := w) hl hh k (by omega)
    have hu := upz_rng (lo := lo - 1) (hi := hi) (k := k) (by omega) (by omega) (by omega) hh
    have hm : (k : Int) * (hi + 1 - lo) ≤ 7 * (hi + 1 - lo) := Int.mul_le_mul_of_nonneg_right (by omega) (by omega)
    simp only [cnt7, c7]
    rw [cnt7_eq hl hh hh2 k (by omega), wrap_i64 (n := lo - 1) (by omega) (by omega), upToW_eq (by omega) (by omega) (by omega) hh2, upToW_eq (by omega) (by omega) (by omega) (by omega)]
    unfold b2i
    split
    · rw [wrap_i64 (n := upz hi k - upz (lo - 1) k) (by omega) (by omega), wrap_i64 (by omega) (by omega)]; omega
    · omega
theorem c7_step {w lo hi : Int} (hh : -1 ≤ hi) : ∀ k : Nat, k ≤ 7 → c7 w lo (hi + 1) k = c7 w lo hi k + (if (hi + 1) % 7 < k then b2i (wkB w ((hi + 1) % 7).toNat) else 0)
  | 0, _ => by
    simp only [c7]
    rw [if_neg (by omega)]; rfl
  | k + 1, hk => by
    simp only [c7]
    rw [c7_step hh k (by omega), upz_step (by omega) (by omega) hh]
    by_cases he : (hi + 1) % 7 = (k : Int)
    · rw [he, if_pos rfl, if_neg (by omega), if_pos (by omega)]
      have : ((k : Int)).toNat = k := by omega
      rw [this]
      unfold b2i; split <;> omega
    · rw [if_neg he]
      by_cases h2 : (hi + 1) % 7 < (k : Int)
      · rw [if_pos h2, if_pos (by omega)]; simp; omega
      · rw [if_neg h2, if_neg (by omega)]; simp
/-- closed days between lo and hi that would be open -/
def ccl (w lo hi : Int) : List Int → Int
  | [] => 0
  | d :: l => b2i (decide (lo ≤ d) && decide (d ≤ hi) && wkB w (d % 7).toNat) + ccl w lo hi l
theorem ccl_rng (w lo hi : Int) : ∀ l : List Int, 0 ≤ ccl w lo hi l ∧ ccl w lo hi l ≤ l.length
  | [] => by simp [ccl]
  | d :: l => by
    have := ccl_rng w lo hi l; have := b2i_rng (decide (lo ≤ d) && decide (d ≤ hi) && wkB w (d % 7).toNat)
    simp only [ccl, List.length_cons]; omega
theorem cntG_eq {w lo hi : Int} : ∀ (l : List Int) (n : Int), (∀ x ∈ l, 0 ≤ x ∧ x ≤ 109572) → -1000000 + l.length ≤ n → n ≤ 1000000 → cntG w lo hi n l = n - ccl w lo hi l
  | [], n, _, _, _ => by simp [cntG, ccl]
  | d :: l, n, hd, h1, h2 => by
    have hx := hd d (by simp)
    have hl : ∀ x ∈ l, 0 ≤ x ∧ x ≤ 109572 := fun x h => hd x (by simp [h])
    have e : cntIn w lo hi d = (decide (lo ≤ d) && decide (d ≤ hi) && wkB w (d % 7).toNat) := by
      unfold cntIn
      rw [wday_eq hx.1 hx.2]
      have : d % 7 < 7 := by omega
      simp [this]
    simp only [List.length_cons] at h1
    simp only [cntG, ccl]
    rw [e]
    split
    · rename_i h
      rw [wrap_i64 (by omega) (by omega), cntG_eq l _ hl (by omega) (by omega), h]
      simp [b2i]; omega
    · rename_i h
      rw [cntG_eq l _ hl (by omega) (by omega)]
      simp only [Bool.not_eq_true] at h
      rw [h]; simp [b2i]
theorem ccl_step {w lo hi : Int} (hl : lo ≤ hi + 1) : ∀ l : List Int, l.Nodup → ccl w lo (hi + 1) l = ccl w lo hi l + (if hi + 1 ∈ l then b2i (wkB w ((hi + 1) % 7).toNat) else 0)
  | [], _ => by simp [ccl]
  | d :: l, hn => by
    obtain ⟨h1, h2⟩ := List.nodup_cons.1 hn
    simp only [ccl]
    rw [ccl_step hl l h2]
    by_cases hd : hi + 1 = d
    · subst hd
      rw [if_neg h1, if_pos (by simp)]
      have a1 : decide (lo ≤ hi + 1) = true := by simp [hl]
      have a2 : decide (hi + 1 ≤ hi) = false := by simp; omega
      simp [a1, a2, b2i]; omega
    · have a : decide (d ≤ hi + 1) = decide (d ≤ hi) := by
        by_cases hh : d ≤ hi
        · simp [hh]; omega
        · simp [hh]; omega
      rw [a]
      have : (hi + 1 ∈ d :: l) ↔ (hi + 1 ∈ l) := by simp [hd]
      simp only [this]; omega
theorem ccl_zero {w lo hi : Int} (h : hi < lo) : ∀ l : List Int, ccl w lo hi l = 0
  | [] => rfl
  | d :: l => by
    simp only [ccl]
    rw [ccl_zero h l]
    have : (decide (lo ≤ d) && decide (d ≤ hi)) = false := by
      by_cases hh : lo ≤ d
      · have : ¬ d ≤ hi := by omega
        simp [this]
      · simp [hh]
    simp [this, b2i]
theorem c7_zero {w lo : Int} : ∀ k : Nat, c7 w lo (lo - 1) k = 0
  | 0 => rfl
  | k + 1 => by simp only [c7]; rw [c7_zero k]; simp
/-- THE COUNT by weeks is the count by days. -/
theorem weeks {c : Cal} (h : calR c = 0) {lo : Int} (hl : 0 ≤ lo) : ∀ k : Nat, lo + k ≤ 109573 → c7 c.week lo (lo + k - 1) 7 - ccl c.week lo (lo + k - 1) c.closed = cdays (openR c) lo k
  | 0, _ => by
    have e : lo + ((0 : Nat) : Int) - 1 = lo - 1 := by omega
    rw [e, c7_zero, ccl_zero (by omega)]; rfl
  | k + 1, hk => by
    have ih := weeks h hl k (by omega)
    have e : lo + ((k + 1 : Nat) : Int) - 1 = (lo + k - 1) + 1 := by omega
    obtain ⟨a1, a2, a3, a4, a5⟩ := calR_facts h
    rw [e, c7_step (by omega) 7 (Nat.le_refl _), ccl_step (by omega) _ (ascF_nodup _ _ a5), if_pos (by omega)]
    simp only [cdays]
    rw [← ih]
    have e2 : lo + (k : Int) - 1 + 1 = lo + k := by omega
    rw [e2, openR_eq h (by omega) (by omega)]
    unfold wkO
    by_cases hm : lo + (k : Int) ∈ c.closed
    · simp [hm, b2i]; omega
    · simp [hm]; omega
theorem countR_cnt {c : Cal} (h : calR c = 0) (f t : Int) : countR c f t = cnt c f t := by
  have h1 := lo0_rng f; have h2 := hi0_rng t
  obtain ⟨a1, a2, a3, a4, a5⟩ := calR_facts h
  have e : countR c f t = if hi0 t < lo0 f then 0 else cntG c.week (lo0 f) (hi0 t) (cnt7 c.week (lo0 f) (hi0 t) 7) c.closed := rfl
  rw [e]
  unfold cnt
  split
  · have : (hi0 t + 1 - lo0 f).toNat = 0 := by omega
    rw [this]; rfl
  · have hr := c7_rng (w := c.week) (lo := lo0 f) (hi := hi0 t) (by omega) (by omega) 7 (Nat.le_refl _)
    rw [cnt7_eq (by omega) (by omega) (by omega) 7 (Nat.le_refl _), cntG_eq _ _ a4 (by omega) (by omega)]
    have := weeks h (lo := lo0 f) h1.1 (hi0 t + 1 - lo0 f).toNat (by omega)
    rw [← this]
    have e2 : lo0 f + ((hi0 t + 1 - lo0 f).toNat : Int) - 1 = hi0 t := by omega
    rw [e2]
theorem countR_countD {c : Cal} (h : calR c = 0) (f t : Int) : countR c f t = countD c f t := by rw [countR_cnt h, countD_cnt]
def lateD (r : Rule) (c : Cal) (d b : Int) : Int :=
  if (¬ calR c = 0 ∨ isDay d = false) ∨ isDay b = false then 0
  else if countD c (IntKind.i64.wrap (d + 1)) b ≤ r.grace then 0
  else if r.maxFine < IntKind.i64.wrap (countD c (IntKind.i64.wrap (d + 1)) b * r.fine) then r.maxFine else IntKind.i64.wrap (countD c (IntKind.i64.wrap (d + 1)) b * r.fine)
section
variable {r : Rule} {c : Cal} {d b : Int}
theorem lateD_bad (h : (¬ calR c = 0 ∨ isDay d = false) ∨ isDay b = false) : lateD r c d b = 0 := if_pos h
theorem lateD_gr (h : (calR c = 0 ∧ isDay d = true) ∧ isDay b = true) (h2 : countD c (IntKind.i64.wrap (d + 1)) b ≤ r.grace) : lateD r c d b = 0 := by
  unfold lateD; rw [if_neg (lateN h), if_pos h2]
theorem lateD_ok (h : (calR c = 0 ∧ isDay d = true) ∧ isDay b = true) (h2 : r.grace < countD c (IntKind.i64.wrap (d + 1)) b) :
    lateD r c d b = if r.maxFine < IntKind.i64.wrap (countD c (IntKind.i64.wrap (d + 1)) b * r.fine) then r.maxFine else IntKind.i64.wrap (countD c (IntKind.i64.wrap (d + 1)) b * r.fine) := by
  unfold lateD; rw [if_neg (lateN h), if_neg (by omega)]
end
theorem lateD_eq (r : Rule) (c : Cal) (d b : Int) : lateD r c d b = lateR r c d b := by
  unfold lateD lateR
  by_cases h : calR c = 0
  · rw [countR_countD h]
  · simp [h]
theorem wrap_rng64 (n : Int) : -9223372036854775808 ≤ IntKind.i64.wrap n ∧ IntKind.i64.wrap n ≤ 9223372036854775807 := by rw [IntKind.wrap_i64]; omega
theorem lateR_rng {r : Rule} {c : Cal} {d b : Int} (h : -9223372036854775808 ≤ r.maxFine ∧ r.maxFine ≤ 9223372036854775807) : -9223372036854775808 ≤ lateR r c d b ∧ lateR r c d b ≤ 9223372036854775807 := by
  have := wrap_rng64 (countR c (IntKind.i64.wrap (d + 1)) b * r.fine)
  unfold lateR
  split
  · omega
  · split
    · omega
    · split <;> omega
end Lib

/- Charges: what payments and waivers do to what is owed. -/
namespace Lib
open Go Ab
set_option linter.unusedVariables false
set_option linter.unusedSimpArgs false

theorem chk0_facts2 {x : Charge} (h : chkC x = 0) : (1 ≤ x.id ∧ x.id ≤ 99999) ∧ 1 ≤ x.amount ∧ x.amount ≤ 100000000 ∧ 0 ≤ x.paid ∧ x.paid < x.amount := by
  have := chk0_facts h; omega
theorem chkC_paid {x : Charge} {q : Int} (h : chkC x = 0) (h0 : 0 ≤ q) (h1 : q < x.amount) : chkC { x with paid := q } = 0 := by
  have hf := chk0_facts h
  unfold chkC at h ⊢
  by_cases a : x.id < 1 ∨ 99999 < x.id ∨ x.patron < 1 ∨ 9999 < x.patron ∨ x.item < 1 ∨ 9999 < x.item ∨ isDay x.day = false
  · rw [if_pos a] at h; exact absurd h (by decide)
  · rw [if_neg a] at h ⊢
    by_cases b : x.kind < 1 ∨ 3 < x.kind
    · rw [if_pos b] at h; exact absurd h (by decide)
    · rw [if_neg b, if_neg (by simp only; omega)]
/-- what a patron owes, without wrapping -/
def osum (p : Int) : List Charge → Int
  | [] => 0
  | c :: l => (if c.patron = p then c.amount - c.paid else 0) + osum p l
theorem osum_rng (p : Int) : ∀ (l : List Charge) (pr : Option Int), rightF pr l = 0 → 0 ≤ osum p l ∧ osum p l ≤ 100000000 * l.length
  | [], _, _ => by simp [osum]
  | c :: l, pr, h => by
    obtain ⟨h1, h2, h3⟩ := rightF_cons h
    have := osum_rng p l _ h3
    have := chk0_facts h2
    simp only [osum, List.length_cons]
    split <;> omega
theorem owedF_sum (p : Int) : ∀ (l : List Charge) (pr : Option Int) (s : Int), rightF pr l = 0 → 0 ≤ s → s + 100000000 * l.length ≤ 1000000000000000 → owedF p s l = s + osum p l
  | [], _, s, _, _, _ => by simp [owedF, osum]
  | c :: l, pr, s, h, h0, hb => by
    obtain ⟨h1, h2, h3⟩ := rightF_cons h
    have := chk0_facts h2
    simp only [owedF, osum]
    simp only [List.length_cons] at hb
    rw [wrap_i64 (n := c.amount - c.paid) (by omega) (by omega), wrap_i64 (by omega) (by omega)]
    split
    · rw [owedF_sum p l _ _ h3 (by omega) (by omega)]; omega
    · rw [owedF_sum p l _ _ h3 (by omega) (by omega)]; omega
theorem rightR_F {l : List Charge} (h : rightR l = 0) : rightF none l = 0 ∧ l.length ≤ 128 := by
  unfold rightR at h
  split at h
  · exact absurd h (by decide)
  · exact ⟨h, by omega⟩
theorem rightF_R {l : List Charge} (h : rightF none l = 0) (hl : l.length ≤ 128) : rightR l = 0 := by
  unfold rightR; rw [if_neg (by omega)]; exact h
theorem owed_sum {p : Int} {l : List Charge} (h : rightR l = 0) : owedF p 0 l = osum p l := by
  obtain ⟨h1, h2⟩ := rightR_F h
  rw [owedF_sum p l none 0 h1 (by omega) (by omega)]; omega
theorem rightF_weak {pr : Option Int} {m : Int} : ∀ {l : List Charge}, lowId pr m = false → rightF (some m) l = 0 → rightF pr l = 0
  | [], _, _ => rfl
  | c :: l, hm, h => by
    obtain ⟨h1, h2, h3⟩ := rightF_cons h
    have : lowId pr c.id = false := by
      cases pr with
      | none => rfl
      | some q => simp [lowId] at hm h1 ⊢; omega
    simp [rightF, this, h2, h3]

/-- a payment, without wrapping -/
def payZ (p : Int) : Int → List Charge → Int × List Charge
  | r, [] => (r, [])
  | r, c :: l =>
    if c.patron = p then
      if c.amount - c.paid ≤ r then payZ p (r - (c.amount - c.paid)) l
      else ((payZ p 0 l).1, { c with paid := c.paid + r } :: (payZ p 0 l).2)
    else ((payZ p r l).1, c :: (payZ p r l).2)
theorem payF_Z (p : Int) : ∀ (l : List Charge) (pr : Option Int) (r : Int) (o : List Charge), rightF pr l = 0 → 0 ≤ r → r ≤ 1000000000 → payF p (r, o) l = ((payZ p r l).1, o ++ (payZ p r l).2)
  | [], _, r, o, _, _, _ => by simp [payF, payZ]
  | c :: l, pr, r, o, h, h0, h1 => by
    obtain ⟨_, h2, h3⟩ := rightF_cons h
    have hf := chk0_facts h2
    have w : IntKind.i64.wrap (c.amount - c.paid) = c.amount - c.paid := wrap_i64 (by omega) (by omega)
    simp only [payF, payZ, payStep, w]
    by_cases hp : c.patron = p
    · simp only [hp, if_true]
      by_cases hr : c.amount - c.paid ≤ r
      · simp only [hr, if_true]
        have e : (if c.amount - c.paid < r then c.amount - c.paid else r) = c.amount - c.paid := by split <;> omega
        rw [e, wrap_i64 (n := c.paid + (c.amount - c.paid)) (by omega) (by omega), if_neg (by omega), wrap_i64 (by omega) (by omega)]
        exact payF_Z p l _ _ _ h3 (by omega) (by omega)
      · simp only [hr, if_false]
        have e : (if c.amount - c.paid < r then c.amount - c.paid else r) = r := by split <;> omega
        rw [e, wrap_i64 (n := c.paid + r) (by omega) (by omega), if_pos (by omega), wrap_i64 (by omega) (by omega), Int.sub_self]
        rw [payF_Z p l _ _ _ h3 (by omega) (by omega)]; simp
    · simp only [hp, if_false]
      rw [if_pos hf.2.2.2.2.2, payF_Z p l _ _ _ h3 h0 h1]; simp
theorem payZ_spec (p : Int) : ∀ (l : List Charge) (pr : Option Int) (r : Int), rightF pr l = 0 → 0 ≤ r →
    0 ≤ (payZ p r l).1 ∧ (payZ p r l).1 ≤ r ∧ rightF pr (payZ p r l).2 = 0 ∧ osum p (payZ p r l).2 = osum p l - (r - (payZ p r l).1) ∧ (0 < (payZ p r l).1 → osum p (payZ p r l).2 = 0) ∧
    (∀ x, x ≠ p → osum x (payZ p r l).2 = osum x l) ∧ (payZ p r l).2.length ≤ l.length
  | [], _, r, _, h0 => by simp [payZ, osum, rightF, h0]
  | c :: l, pr, r, h, h0 => by
    obtain ⟨h1, h2, h3⟩ := rightF_cons h
    have hf := chk0_facts h2
    simp only [payZ]
    by_cases hp : c.patron = p
    · simp only [if_pos hp]
      by_cases hr : c.amount - c.paid ≤ r
      · simp only [if_pos hr]
        obtain ⟨i1, i2, i3, i4, i5, i6, i7⟩ := payZ_spec p l _ (r - (c.amount - c.paid)) h3 (by omega)
        refine ⟨i1, by omega, rightF_weak h1 i3, ?_, i5, fun x hx => ?_, by simp; omega⟩
        · simp only [osum, hp, if_true]; omega
        · rw [i6 x hx]; simp only [osum]; rw [if_neg (by omega)]; omega
      · simp only [if_neg hr]
        obtain ⟨i1, i2, i3, i4, i5, i6, i7⟩ := payZ_spec p l _ 0 h3 (by omega)
        refine ⟨i1, by omega, ?_, ?_, fun hh => by omega, fun x hx => ?_, by simp; omega⟩
        · simp only [rightF]
          rw [h1, chkC_paid h2 (by omega) (by omega)]
          simpa using i3
        · simp only [osum, hp, if_true]; omega
        · simp only [osum]
          rw [i6 x hx, if_neg (by omega), if_neg (by omega)]
    · simp only [if_neg hp]
      obtain ⟨i1, i2, i3, i4, i5, i6, i7⟩ := payZ_spec p l _ r h3 h0
      refine ⟨i1, i2, ?_, ?_, fun hh => ?_, fun x hx => ?_, by simp; omega⟩
      · simp only [rightF]; rw [h1, h2]; simpa using i3
      · simp only [osum, hp, if_false]; omega
      · simp only [osum, hp, if_false]; have := i5 hh; omega
      · simp only [osum]; rw [i6 x hx]
theorem payZ_two (p : Int) : ∀ (l : List Charge) (pr : Option Int) (a b : Int), rightF pr l = 0 → 0 ≤ a → 0 ≤ b → (payZ p a l).1 = 0 → payZ p (a + b) l = payZ p b (payZ p a l).2
  | [], _, a, b, _, _, _, h => by
    have : a = 0 := h
    subst this; simp [payZ]
  | c :: l, pr, a, b, h, h0, hb, hz => by
    obtain ⟨h1, h2, h3⟩ := rightF_cons h
    have hf := chk0_facts h2
    simp only [payZ] at hz ⊢
    by_cases hp : c.patron = p
    · simp only [if_pos hp] at hz ⊢
      by_cases hr : c.amount - c.paid ≤ a
      · simp only [if_pos hr] at hz ⊢
        rw [if_pos (by omega), ← payZ_two p l _ _ b h3 (by omega) hb hz]
        congr 1; omega
      · simp only [if_neg hr] at hz ⊢
        have i0 := fun b => payZ_two p l (some c.id) 0 b
        by_cases hr2 : c.amount - c.paid ≤ a + b
        · simp only [if_pos hr2]
          simp only [payZ]
          rw [if_pos hp, if_pos (by omega)]
          rw [← i0 (b - (c.amount - (c.paid + a))) h3 (by omega) (by omega) hz]
          congr 1; omega
        · simp only [if_neg hr2]
          simp only [payZ]
          rw [if_pos hp, if_neg (by omega), ← i0 0 h3 (by omega) (by omega) hz]
          simp
          omega
    · simp only [if_neg hp] at hz ⊢
      simp only [payZ]
      rw [if_neg hp, payZ_two p l _ a b h3 h0 hb hz]

/-- what a payment brings about -/
theorem pay_facts {l : List Charge} {p a : Int} (hr : rightR l = 0) (h1 : 1 ≤ a) (h2 : a ≤ 100000000) :
    payE l p a = 0 ∧ payX l p a = (payZ p a l).1 ∧ payO l p a = (payZ p a l).2 := by
  obtain ⟨hF, _⟩ := rightR_F hr
  have e := payF_Z p l none a [] hF (by omega) (by omega)
  unfold payE payX payO
  rw [if_neg (by omega), if_neg (by omega), if_neg (by omega), e]
  simp
theorem pay_facts2 {l : List Charge} {p a : Int} (hr : rightR l = 0) (h1 : 1 ≤ a) (h2 : a ≤ 100000000) :
    rightR (payO l p a) = 0 ∧ 0 ≤ payX l p a ∧ payX l p a ≤ a ∧ owedF p 0 (payO l p a) = owedF p 0 l - (a - payX l p a) ∧ (0 < payX l p a → owedF p 0 (payO l p a) = 0) ∧
    (∀ x, x ≠ p → owedF x 0 (payO l p a) = owedF x 0 l) ∧ 0 ≤ owedF p 0 l ∧ owedF p 0 l ≤ 12800000000 := by
  obtain ⟨hF, hl⟩ := rightR_F hr
  obtain ⟨_, e2, e3⟩ := pay_facts (p := p) hr h1 h2
  obtain ⟨i1, i2, i3, i4, i5, i6, i7⟩ := payZ_spec p l none a hF (by omega)
  have hr2 : rightR (payO l p a) = 0 := by rw [e3]; exact rightF_R i3 (by omega)
  have hb := osum_rng p l none hF
  rw [owed_sum hr2, owed_sum hr, e2, e3]
  refine ⟨e3 ▸ hr2, i1, i2, i4, i5, fun x hx => ?_, hb.1, by omega⟩
  rw [owed_sum (e3 ▸ hr2), owed_sum hr]; exact i6 x hx

/-- what is open of the charge with a number, and whose it is -/
def opF (i : Int) : Int × Int → List Charge → Int × Int
  | (o, w), [] => (o, w)
  | (o, w), c :: l => if c.id = i then opF i (IntKind.i64.wrap (c.amount - c.paid), c.patron) l else opF i (o, w) l
theorem opF_none {i : Int} : ∀ (l : List Charge) (s : Int × Int), (∀ c ∈ l, c.id ≠ i) → opF i s l = s
  | [], (o, w), _ => rfl
  | c :: l, (o, w), h => by
    have hc : ¬ c.id = i := h c (by simp)
    simp only [opF, hc, if_false]
    exact opF_none l _ (fun c' h' => h c' (by simp [h']))
theorem osum_app (p : Int) : ∀ (a b : List Charge), osum p (a ++ b) = osum p a + osum p b
  | [], b => by simp [osum]
  | c :: a, b => by simp only [List.cons_append, osum]; rw [osum_app p a b]; omega
theorem waive_spec {i : Int} : ∀ (l : List Charge) (pr : Option Int) (o : List Charge), rightF pr l = 0 →
    (remF (fun c => c.id == i) (o, 0, 0) l = (o ++ l, 0, 0)) ∨
    ∃ q pd, remF (fun c => c.id == i) (o, 0, 0) l = (o ++ q, pd, 1) ∧ rightF pr q = 0 ∧ q.length + 1 = l.length ∧ osum (opF i (0, 0) l).2 q = osum (opF i (0, 0) l).2 l - (opF i (0, 0) l).1 ∧ 0 ≤ (opF i (0, 0) l).1 ∧ (opF i (0, 0) l).1 ≤ 100000000
  | [], _, o, _ => .inl (by simp [remF])
  | c :: l, pr, o, h => by
    obtain ⟨h1, h2, h3⟩ := rightF_cons h
    have hf := chk0_facts h2
    by_cases hc : c.id = i
    · right
      have hno : ∀ c' ∈ l, c'.id ≠ i := fun c' hc' => by have := rightF_gt l c.id h3 c' hc'; omega
      have e1 : IntKind.i64.wrap (0 + c.paid) = c.paid := by rw [wrap_i64] <;> omega
      have e2 : IntKind.i64.wrap (0 + 1) = 1 := by rw [wrap_i64] <;> omega
      have e3 : IntKind.i64.wrap (c.amount - c.paid) = c.amount - c.paid := by rw [wrap_i64] <;> omega
      refine ⟨l, c.paid, ?_, rightF_weak h1 h3, by simp, ?_⟩
      · simp only [remF, beq_iff_eq, hc, if_true, e1, e2]
        exact rem_none l o _ _ hno
      · simp only [opF, hc, if_true, e3]
        rw [opF_none l _ hno]
        simp only [osum, if_true]
        omega
    · rcases waive_spec l _ (o ++ [c]) h3 with hh | ⟨q, pd, k1, k2, k3, k4, k5⟩
      · left
        simp only [remF, beq_iff_eq, hc, if_false]
        rw [hh]; simp
      · right
        refine ⟨c :: q, pd, ?_, ?_, by simp; omega, ?_⟩
        · simp only [remF, beq_iff_eq, hc, if_false]
          rw [k1]; simp
        · simp only [rightF]; rw [h1, h2]; simpa using k2
        · simp only [opF, hc, if_false, osum]
          exact ⟨by omega, k5⟩
theorem waive_facts {l : List Charge} {i : Int} (hr : rightR l = 0) :
    (wE l i = 9 ∧ wX l i = 0) ∨ (wE l i = 0 ∧ rightR (wO l i) = 0 ∧ (wO l i).length + 1 = l.length ∧ owedF (opF i (0, 0) l).2 0 (wO l i) = IntKind.i64.wrap (owedF (opF i (0, 0) l).2 0 l - (opF i (0, 0) l).1)) := by
  obtain ⟨hF, hl⟩ := rightR_F hr
  unfold wE wX wO
  rcases waive_spec (i := i) l none [] hF with hh | ⟨q, pd, k1, k2, k3, k4, k5, k6⟩
  · left; rw [hh]; simp
  · right
    rw [k1]
    have hq : rightR q = 0 := rightF_R k2 (by omega)
    refine ⟨by simp, by simpa using hq, by simpa using k3, ?_⟩
    simp only [List.nil_append, Int.reduceEq, if_false]
    have hb := osum_rng (opF i (0, 0) l).2 l none hF
    rw [owed_sum hq, owed_sum hr, k4, wrap_i64 (by omega) (by omega)]
end Lib

/- Calendars: searching for open days. -/
namespace Lib
open Go Ab
set_option linter.unusedVariables false
set_option linter.unusedSimpArgs false

theorem asc_lt : ∀ (l : List Int) (p : Option Int), ascF p l = 0 → ∀ (i j : Nat) (x y : Int), i < j → l[i]? = some x → l[j]? = some y → x < y
  | [], _, _, i, j, x, y, _, hx, _ => by simp at hx
  | z :: l, p, h, i, j, x, y, hij, hx, hy => by
    simp only [ascF] at h
    split at h
    · exact absurd h (by decide)
    · match i, j, hij, hx, hy with
      | 0, j + 1, _, hx, hy =>
        simp at hx hy; subst hx
        exact ascF_gt l _ h y (List.mem_of_getElem? hy)
      | i + 1, j + 1, hij, hx, hy => exact asc_lt l _ h i j x y (by omega) (by simpa using hx) (by simpa using hy)
/-- where a binary search ends -/
def bsI (l : List Int) (d : Int) : Nat := (l.takeWhile (fun x => decide (x < d))).length
theorem bsI_eq (d : Int) : ∀ (l : List Int) (i : Nat), i ≤ l.length → (∀ k x, k < i → l[k]? = some x → x < d) → (∀ k x, i ≤ k → l[k]? = some x → d ≤ x) → bsI l d = i
  | [], i, hi, _, _ => by simp at hi; subst hi; rfl
  | z :: l, 0, _, _, h2 => by
    have := h2 0 z (Nat.le_refl _) rfl
    unfold bsI
    rw [List.takeWhile_cons_of_neg (by simp; omega)]; rfl
  | z :: l, i + 1, hi, h1, h2 => by
    have := h1 0 z (by omega) rfl
    have ih := bsI_eq d l i (by simpa using hi) (fun k x hk hx => h1 (k + 1) x (by omega) (by simpa using hx)) (fun k x hk hx => h2 (k + 1) x (by omega) (by simpa using hx))
    unfold bsI at ih ⊢
    rw [List.takeWhile_cons_of_pos (by simpa using this), List.length_cons, ih]
theorem bs_mem {d : Int} {l : List Int} {i : Nat} (h1 : ∀ k x, k < i → l[k]? = some x → x < d) (h2 : ∀ k x, i ≤ k → l[k]? = some x → d ≤ x) (hs : ascF none l = 0) : d ∈ l ↔ l[i]? = some d := by
  constructor
  · intro hm
    obtain ⟨k, hk⟩ := List.getElem?_of_mem hm
    by_cases a : k < i
    · have := h1 k d a hk; omega
    · by_cases b : k = i
      · rw [← b]; exact hk
      · have hik : i < k := by omega
        have hlt : i < l.length := by have := (List.getElem?_eq_some_iff.1 hk).1; omega
        have hx := List.getElem?_eq_getElem hlt
        have := asc_lt l none hs i k _ d hik hx hk
        have := h2 i _ (Nat.le_refl _) hx
        omega
  · intro h; exact List.mem_of_getElem? h

def nextN (c : Cal) : Nat → Int → Int × Int
  | 0, _ => (0, 2)
  | k + 1, d => if openR c d = true then (d, 0) else nextN c k (d + 1)
def nextR (c : Cal) (d : Int) : Int × Int := nextN c (109573 - lo0 d).toNat (lo0 d)
def beforeN (c : Cal) : Nat → Int → Int × Int
  | 0, _ => (0, 2)
  | k + 1, d => if openR c d = true then (d, 0) else beforeN c k (d - 1)
def beforeR (c : Cal) (d : Int) : Int × Int := beforeN c (hi0 d + 1).toNat (hi0 d)
def laterN (c : Cal) : Nat → Int → Int × Int
  | 0, d => (d, 0)
  | k + 1, d => if ¬ (nextR c (d + 1)).2 = 0 then (0, (nextR c (d + 1)).2) else laterN c k (nextR c (d + 1)).1
def laterR (c : Cal) (d n : Int) : Int × Int :=
  if n < 0 ∨ 1000 < n then (0, 1) else if d < 0 ∨ 109572 < d then (0, 2) else if n = 0 then nextR c d else laterN c n.toNat d
theorem nextN_spec (c : Cal) : ∀ (k : Nat) (d : Int), 0 ≤ d → d + k = 109573 →
    ((nextN c k d).2 = 0 ∧ d ≤ (nextN c k d).1 ∧ (nextN c k d).1 ≤ 109572 ∧ openR c (nextN c k d).1 = true ∧ ∀ x, d ≤ x → x < (nextN c k d).1 → openR c x = false) ∨
    (nextN c k d = (0, 2) ∧ ∀ x, d ≤ x → openR c x = false)
  | 0, d, h0, h1 => .inr ⟨rfl, fun x hx => by
      cases ho : openR c x with
      | false => rfl
      | true => have := openR_day ho; omega⟩
  | k + 1, d, h0, h1 => by
    simp only [nextN]
    by_cases ho : openR c d = true
    · left
      rw [if_pos ho]
      exact ⟨rfl, Int.le_refl _, by simp only; omega, ho, fun x h1 h2 => by simp only at h2; omega⟩
    · have ho' : openR c d = false := by simpa using ho
      rw [if_neg ho]
      rcases nextN_spec c k (d + 1) (by omega) (by omega) with ⟨a1, a2, a3, a4, a5⟩ | ⟨a1, a2⟩
      · left
        refine ⟨a1, by omega, a3, a4, fun x h1 h2 => ?_⟩
        by_cases hx : x = d
        · subst hx; exact ho'
        · exact a5 x (by omega) h2
      · right
        refine ⟨a1, fun x hx => ?_⟩
        by_cases hx : x = d
        · subst hx; exact ho'
        · exact a2 x (by omega)
theorem nextR_spec (c : Cal) (d : Int) (hd : d ≤ 109573) :
    ((nextR c d).2 = 0 ∧ lo0 d ≤ (nextR c d).1 ∧ (nextR c d).1 ≤ 109572 ∧ openR c (nextR c d).1 = true ∧ ∀ x, lo0 d ≤ x → x < (nextR c d).1 → openR c x = false) ∨
    (nextR c d = (0, 2) ∧ ∀ x, lo0 d ≤ x → openR c x = false) := by
  have := lo0_rng d
  have h : lo0 d ≤ 109573 := by unfold lo0; split <;> omega
  exact nextN_spec c _ _ this.1 (by omega)
theorem nextR_rng (c : Cal) (d : Int) : 0 ≤ (nextR c d).1 ∧ (nextR c d).1 ≤ 109572 ∧ 0 ≤ (nextR c d).2 ∧ (nextR c d).2 ≤ 2 := by
  by_cases hd : d ≤ 109573
  · have := lo0_rng d
    rcases nextR_spec c d hd with ⟨a1, a2, a3, _⟩ | ⟨a1, _⟩
    · omega
    · rw [a1]; simp
  · have : nextR c d = (0, 2) := by
      unfold nextR lo0
      rw [if_neg (by omega)]
      have : (109573 - d).toNat = 0 := by omega
      rw [this]; rfl
    rw [this]; simp
theorem beforeN_spec (c : Cal) : ∀ (k : Nat) (d : Int), d + 1 = k → d ≤ 109572 →
    ((beforeN c k d).2 = 0 ∧ (beforeN c k d).1 ≤ d ∧ 0 ≤ (beforeN c k d).1 ∧ openR c (beforeN c k d).1 = true ∧ ∀ x, x ≤ d → (beforeN c k d).1 < x → openR c x = false) ∨
    (beforeN c k d = (0, 2) ∧ ∀ x, x ≤ d → openR c x = false)
  | 0, d, h0, h1 => .inr ⟨rfl, fun x hx => by
      cases ho : openR c x with
      | false => rfl
      | true => have := openR_day ho; omega⟩
  | k + 1, d, h0, h1 => by
    simp only [beforeN]
    by_cases ho : openR c d = true
    · left
      rw [if_pos ho]
      exact ⟨rfl, Int.le_refl _, by simp only; omega, ho, fun x h1 h2 => by simp only at h2; omega⟩
    · have ho' : openR c d = false := by simpa using ho
      rw [if_neg ho]
      rcases beforeN_spec c k (d - 1) (by omega) (by omega) with ⟨a1, a2, a3, a4, a5⟩ | ⟨a1, a2⟩
      · left
        refine ⟨a1, by omega, a3, a4, fun x h1 h2 => ?_⟩
        by_cases hx : x = d
        · subst hx; exact ho'
        · exact a5 x (by omega) h2
      · right
        refine ⟨a1, fun x hx => ?_⟩
        by_cases hx : x = d
        · subst hx; exact ho'
        · exact a2 x (by omega)
theorem beforeR_spec (c : Cal) (d : Int) (hd : -1 ≤ d) :
    ((beforeR c d).2 = 0 ∧ (beforeR c d).1 ≤ hi0 d ∧ 0 ≤ (beforeR c d).1 ∧ openR c (beforeR c d).1 = true ∧ ∀ x, x ≤ hi0 d → (beforeR c d).1 < x → openR c x = false) ∨
    (beforeR c d = (0, 2) ∧ ∀ x, x ≤ hi0 d → openR c x = false) := by
  have := hi0_rng d
  have h : -1 ≤ hi0 d := by unfold hi0; split <;> omega
  exact beforeN_spec c _ _ (by omega) this.1
theorem beforeR_rng (c : Cal) (d : Int) : 0 ≤ (beforeR c d).1 ∧ (beforeR c d).1 ≤ 109572 ∧ 0 ≤ (beforeR c d).2 ∧ (beforeR c d).2 ≤ 2 := by
  by_cases hd : -1 ≤ d
  · have := hi0_rng d
    rcases beforeR_spec c d hd with ⟨a1, a2, a3, _⟩ | ⟨a1, _⟩
    · omega
    · rw [a1]; simp
  · have : beforeR c d = (0, 2) := by
      unfold beforeR hi0
      rw [if_neg (by omega)]
      have : (d + 1).toNat = 0 := by omega
      rw [this]; rfl
    rw [this]; simp
section
variable {c : Cal} {d n : Int}
theorem laterR_arg (h : n < 0 ∨ 1000 < n) : laterR c d n = (0, 1) := if_pos h
theorem laterR_day (h : 0 ≤ n ∧ n ≤ 1000) (h2 : d < 0 ∨ 109572 < d) : laterR c d n = (0, 2) := by unfold laterR; rw [if_neg (by omega), if_pos h2]
theorem laterR_zero (h2 : 0 ≤ d ∧ d ≤ 109572) : laterR c d 0 = nextR c d := by unfold laterR; rw [if_neg (by omega), if_neg (by omega), if_pos rfl]
theorem laterR_go (h : 0 ≤ n ∧ n ≤ 1000) (h2 : 0 ≤ d ∧ d ≤ 109572) (h3 : ¬ n = 0) : laterR c d n = laterN c n.toNat d := by unfold laterR; rw [if_neg (by omega), if_neg (by omega), if_neg h3]
end
theorem openR_eq2 {c : Cal} (h : calR c = 0) {d : Int} (h0 : 0 ≤ d) (h1 : d ≤ 109572) : openR c d = (!(decide (d ∈ c.closed)) && wkB c.week (wday d).toNat) := by
  rw [openR_eq h h0 h1, wday_eq h0 h1, Bool.and_comm]; rfl
theorem cal_asc {c : Cal} (h : calR c = 0) : ascF none c.closed = 0 := (calR_facts h).2.2.2.2
theorem cal_len64 {c : Cal} (h : calR c = 0) : c.closed.length ≤ 64 := (calR_facts h).2.2.1
theorem half_eq {i j : Nat} (h : i + j ≤ 4000000000000) : IntKind.i64.wrap ((IntKind.u64.wrap (IntKind.i64.wrap ((i : Int) + (j : Int)))).fdiv (2 ^ min 1 IntKind.u64.bits)) = (((i + j) / 2 : Nat) : Int) := by
  have e1 : IntKind.i64.wrap ((i : Int) + (j : Int)) = (i : Int) + (j : Int) := wrap_i64 (by omega) (by omega)
  have e2 : IntKind.u64.wrap ((i : Int) + (j : Int)) = (i : Int) + (j : Int) := by rw [IntKind.wrap_u64]; omega
  have e3 : (2 : Int) ^ min 1 IntKind.u64.bits = 2 := by decide
  rw [e1, e2, e3, Int.fdiv_eq_ediv_of_nonneg _ (by omega), wrap_i64 (by omega) (by omega)]
  omega
theorem bs_end {l : List Int} {d : Int} {i : Nat} (ha : ascF none l = 0) (hi : i ≤ l.length) (h1 : ∀ k y, k < i → l[k]? = some y → y < d) (h2 : ∀ k y, i ≤ k → l[k]? = some y → d ≤ y) :
    (i : Int) = (bsI l d : Int) ∧ (decide (i < l.length) && l[i]?.getD 0 == d) = decide (d ∈ l) := by
  refine ⟨by rw [bsI_eq d l i hi h1 h2], ?_⟩
  have hm := bs_mem h1 h2 ha
  by_cases hlt : i < l.length
  · have hx := List.getElem?_eq_getElem hlt
    rw [hx] at hm ⊢
    by_cases he : l[i] = d
    · simp [hlt, he, hm]
    · simp [hlt, he, hm]
  · have hx : l[i]? = none := List.getElem?_eq_none (by omega)
    rw [hx] at hm
    simp [hlt, hm]
end Lib

/- Calendars: what is counted between what is found. -/
namespace Lib
open Go Ab
set_option linter.unusedVariables false
set_option linter.unusedSimpArgs false

theorem cdays_none {p : Int → Bool} {d : Int} : ∀ k : Nat, (∀ i : Nat, i < k → p (d + i) = false) → cdays p d k = 0
  | 0, _ => rfl
  | k + 1, h => by
    simp only [cdays]
    rw [cdays_none k (fun i hi => h i (by omega)), h k (by omega)]; rfl
theorem cnt_eq (c : Cal) {f t : Int} (h0 : 0 ≤ f) (h1 : t ≤ 109572) : cnt c f t = cdays (openR c) f (t + 1 - f).toNat := by
  unfold cnt lo0 hi0
  rw [if_neg (by omega), if_neg (by omega)]
theorem cnt_none {c : Cal} {f t : Int} (h : ∀ x, f ≤ x → x ≤ t → openR c x = false) : cnt c f t = 0 := by
  have a := lo0_rng f; have b := hi0_rng t
  unfold cnt
  refine cdays_none _ (fun i hi => h _ (by omega) (by omega))
theorem cnt_rng (c : Cal) (f t : Int) : 0 ≤ cnt c f t ∧ cnt c f t ≤ 109573 := by
  have a := lo0_rng f; have b := hi0_rng t
  have := cdays_rng (openR c) (lo0 f) (hi0 t + 1 - lo0 f).toNat
  unfold cnt; omega
theorem cnt_add (c : Cal) {f m t : Int} (h0 : 0 ≤ f) (h1 : f ≤ m + 1) (h2 : m ≤ t) : cnt c f m + cnt c (m + 1) t = cnt c f t := by
  by_cases hm : m ≤ 109571
  · have b := hi0_rng t
    have hb : m ≤ hi0 t := by unfold hi0; split <;> omega
    have e1 : cnt c (m + 1) t = cdays (openR c) (m + 1) (hi0 t + 1 - (m + 1)).toNat := by unfold cnt lo0; rw [if_neg (by omega)]
    have e2 : cnt c f t = cdays (openR c) f (hi0 t + 1 - f).toNat := by unfold cnt lo0; rw [if_neg (by omega)]
    rw [e1, e2, cnt_eq c h0 (by omega)]
    have e3 : (hi0 t + 1 - f).toNat = (m + 1 - f).toNat + (hi0 t + 1 - (m + 1)).toNat := by omega
    have e4 : f + ((m + 1 - f).toNat : Int) = m + 1 := by omega
    rw [e3, cdays_add, e4]
  · have e : ∀ x : Int, 109572 ≤ x → hi0 x = 109572 := fun x hx => by unfold hi0; split <;> omega
    have e1 : cnt c (m + 1) t = 0 := cnt_none (fun x hx _ => by
      cases ho : openR c x with
      | false => rfl
      | true => have := openR_day ho; omega)
    rw [e1]
    unfold cnt
    rw [e m (by omega), e t (by omega)]; omega
theorem cnt_one {c : Cal} {d : Int} (h : openR c d = true) : cnt c d d = 1 := by
  have := openR_day h
  rw [cnt_eq c this.1 this.2]
  have e : (d + 1 - d).toNat = 1 := by omega
  rw [e]; simp [cdays, h, b2i]
theorem cnt_last {c : Cal} {f t : Int} (h0 : 0 ≤ f) (h1 : f ≤ t) (ho : openR c t = true) (hn : ∀ x, f ≤ x → x < t → openR c x = false) : cnt c f t = 1 := by
  have := cnt_add c (f := f) (m := t - 1) (t := t) h0 (by omega) (by omega)
  rw [← this, cnt_none (fun x a b => hn x a (by omega))]
  have e : t - 1 + 1 = t := by omega
  rw [e, cnt_one ho]; rfl
theorem cnt_first {c : Cal} {f t : Int} (h1 : f ≤ t) (ho : openR c f = true) (hn : ∀ x, f < x → x ≤ t → openR c x = false) : cnt c f t = 1 := by
  have hd := openR_day ho
  have := cnt_add c (f := f) (m := f) (t := t) hd.1 (by omega) (by omega)
  rw [← this, cnt_one ho, cnt_none (fun x a b => hn x (by omega) b)]; rfl

theorem lo0_pos {d : Int} (h : 0 ≤ d) : lo0 d = d := by unfold lo0; rw [if_neg (by omega)]
theorem hi0_pos {d : Int} (h : d ≤ 109572) : hi0 d = d := by unfold hi0; rw [if_neg (by omega)]
theorem near_open {c : Cal} {d : Int} (ho : openR c d = true) : nextR c d = (d, 0) ∧ beforeR c d = (d, 0) := by
  have hd := openR_day ho
  constructor
  · have e : (109573 - lo0 d).toNat = (109572 - d).toNat + 1 := by rw [lo0_pos hd.1]; omega
    unfold nextR; rw [e, lo0_pos hd.1, nextN, if_pos ho]
  · have e : (hi0 d + 1).toNat = d.toNat + 1 := by rw [hi0_pos hd.2]; omega
    unfold beforeR; rw [e, hi0_pos hd.2, beforeN, if_pos ho]
theorem near_next {c : Cal} {d : Int} (h0 : 0 ≤ d) (h1 : d ≤ 109572) (ho : openR c d = false) :
    ((nextR c d).2 = 0 ∧ d < (nextR c d).1 ∧ openR c (nextR c d).1 = true ∧ cnt c d (nextR c d).1 = 1) ∨ ((nextR c d).2 = 2 ∧ cnt c d 109572 = 0) := by
  rcases nextR_spec c d (by omega) with ⟨a1, a2, a3, a4, a5⟩ | ⟨a1, a2⟩
  · left
    rw [lo0_pos h0] at a2 a5
    have hne : (nextR c d).1 ≠ d := fun e => by rw [e, ho] at a4; cases a4
    exact ⟨a1, by omega, a4, cnt_last h0 a2 a4 a5⟩
  · right
    rw [a1]
    rw [lo0_pos h0] at a2
    exact ⟨rfl, cnt_none (fun x hx _ => a2 x hx)⟩
theorem near_before {c : Cal} {d : Int} (h0 : 0 ≤ d) (h1 : d ≤ 109572) (ho : openR c d = false) :
    ((beforeR c d).2 = 0 ∧ (beforeR c d).1 < d ∧ openR c (beforeR c d).1 = true ∧ cnt c (beforeR c d).1 d = 1) ∨ ((beforeR c d).2 = 2 ∧ cnt c 0 d = 0) := by
  rcases beforeR_spec c d (by omega) with ⟨a1, a2, a3, a4, a5⟩ | ⟨a1, a2⟩
  · left
    rw [hi0_pos h1] at a2 a5
    have hne : (beforeR c d).1 ≠ d := fun e => by rw [e, ho] at a4; cases a4
    exact ⟨a1, by omega, a4, cnt_first a2 a4 (fun x a b => a5 x b a)⟩
  · right
    rw [a1]
    rw [hi0_pos h1] at a2
    exact ⟨rfl, cnt_none (fun x _ hx => a2 x hx)⟩
theorem laterN_spec {c : Cal} : ∀ (k : Nat) (x : Int), 0 ≤ x → x ≤ 109572 → (laterN c k x).2 = 0 →
    x + k ≤ (laterN c k x).1 ∧ (laterN c k x).1 ≤ 109572 ∧ (0 < k → openR c (laterN c k x).1 = true) ∧ cnt c (x + 1) (laterN c k x).1 = k
  | 0, x, h0, h1, _ => by
    refine ⟨by simp [laterN], h1, fun h => by omega, ?_⟩
    rw [cnt_none (fun y a b => by simp only [laterN] at b; omega)]; rfl
  | k + 1, x, h0, h1, h => by
    simp only [laterN] at h ⊢
    by_cases hz : (nextR c (x + 1)).2 = 0
    · rw [if_neg (by simpa using hz)] at h ⊢
      rcases nextR_spec c (x + 1) (by omega) with ⟨a1, a2, a3, a4, a5⟩ | ⟨a1, _⟩
      · rw [lo0_pos (by omega)] at a2 a5
        obtain ⟨i1, i2, i3, i4⟩ := laterN_spec k _ (by omega) a3 h
        refine ⟨by omega, i2, fun _ => ?_, ?_⟩
        · by_cases hk : 0 < k
          · exact i3 hk
          · have : k = 0 := by omega
            subst this; exact a4
        · rw [← cnt_add c (f := x + 1) (m := (nextR c (x + 1)).1) (by omega) (by omega) (by omega), i4, cnt_last (by omega) a2 a4 a5]; omega
      · rw [a1] at hz; exact absurd hz (by decide)
    · rw [if_pos hz] at h
      exact absurd h hz
theorem later_spec {c : Cal} {d n : Int} (h0 : 0 ≤ d) (h1 : d ≤ 109572) (hn : 0 < n) (hn2 : n ≤ 1000) (h : (laterR c d n).2 = 0) :
    d < (laterR c d n).1 ∧ openR c (laterR c d n).1 = true ∧ cnt c (d + 1) (laterR c d n).1 = n := by
  rw [laterR_go (by omega) (by omega) (by omega)] at h ⊢
  obtain ⟨a1, a2, a3, a4⟩ := laterN_spec n.toNat d h0 h1 h
  exact ⟨by omega, a3 (by omega), by rw [a4]; omega⟩
theorem laterN_rng (c : Cal) : ∀ (k : Nat) (x : Int), 0 ≤ x → x ≤ 109572 → 0 ≤ (laterN c k x).1 ∧ (laterN c k x).1 ≤ 109572 ∧ 0 ≤ (laterN c k x).2 ∧ (laterN c k x).2 ≤ 2
  | 0, x, h0, h1 => by simp [laterN]; omega
  | k + 1, x, h0, h1 => by
    have := nextR_rng c (x + 1)
    simp only [laterN]
    split
    · simp only; omega
    · exact laterN_rng c k _ this.1 this.2.1
theorem laterR_rng (c : Cal) (d n : Int) : 0 ≤ (laterR c d n).1 ∧ (laterR c d n).1 ≤ 109572 ∧ 0 ≤ (laterR c d n).2 ∧ (laterR c d n).2 ≤ 2 := by
  unfold laterR
  split
  · simp
  · split
    · simp
    · split
      · exact nextR_rng c d
      · exact laterN_rng c _ d (by omega) (by omega)
theorem ascF_rng : ∀ (l : List Int) (p : Option Int), 0 ≤ ascF p l ∧ ascF p l ≤ 7
  | [], _ => by simp [ascF]
  | x :: l, p => by
    simp only [ascF]
    split
    · omega
    · exact ascF_rng l _
theorem calR_rng (c : Cal) : 0 ≤ calR c ∧ calR c ≤ 13 := by
  have := ascF_rng c.closed none
  unfold calR
  split
  · omega
  · split
    · omega
    · split
      · omega
      · omega
def c1 : Cal := ⟨96, [46342]⟩
end Lib

/- Fines that grow with the days, and payments in two parts. -/
namespace Lib
open Go Ab
set_option linter.unusedVariables false
set_option linter.unusedSimpArgs false
def encA2 (p : Int × Int) : D := .agg [.int .i64 p.1, .int .i64 p.2]
theorem encA2_eq (p : Int × Int) : encA2 p = .agg [.int .i64 p.1, .int .i64 p.2] := rfl
theorem cnt_mono (c : Cal) {f t u : Int} (h0 : 0 ≤ f) (h1 : f ≤ t + 1) (h2 : t ≤ u) : cnt c f t ≤ cnt c f u := by
  have := cnt_add c h0 h1 h2
  have := cnt_rng c (t + 1) u
  omega
theorem cnt_le (c : Cal) {f t : Int} (h0 : 0 ≤ f) (h1 : t ≤ 109572) : cnt c f t ≤ (t + 1 - f).toNat := by
  rw [cnt_eq c h0 h1]; exact (cdays_rng _ _ _).2
theorem late_val {r : Rule} {c : Cal} {d b : Int} (hr : ruleOk r = true) (hc : calR c = 0) (h0 : 0 ≤ d) (h1 : d ≤ b) (h2 : b ≤ 109572) (h3 : b ≤ d + 1000) :
    lateR r c d b = if cnt c (d + 1) b ≤ r.grace then 0 else if r.maxFine < cnt c (d + 1) b * r.fine then r.maxFine else cnt c (d + 1) b * r.fine := by
  simp only [ruleOk, Bool.and_eq_true, decide_eq_true_eq] at hr
  have e1 : IntKind.i64.wrap (d + 1) = d + 1 := wrap_i64 (by omega) (by omega)
  have hn := cnt_rng c (d + 1) b
  have hn2 := cnt_le c (f := d + 1) (t := b) (by omega) h2
  have hm : cnt c (d + 1) b * r.fine ≤ 1000 * 1000 := Int.mul_le_mul (by omega) (by omega) (by omega) (by omega)
  have hm0 : 0 ≤ cnt c (d + 1) b * r.fine := Int.mul_nonneg (by omega) (by omega)
  unfold lateR
  rw [if_neg (by simp [hc, isDay]; omega), e1, countR_cnt hc, wrap_i64 (by omega) (by omega)]
theorem late_grows {r : Rule} {c : Cal} {d a b : Int} (hr : ruleOk r = true) (hc : calR c = 0) (h0 : 0 ≤ d) (h1 : d ≤ a) (h2 : a ≤ b) (h3 : b ≤ 109572) (h4 : b ≤ d + 1000) :
    0 ≤ lateR r c d a ∧ lateR r c d a ≤ lateR r c d b ∧ lateR r c d b ≤ r.maxFine := by
  have v1 := late_val hr hc h0 h1 (by omega) (by omega)
  have v2 := late_val hr hc h0 (Int.le_trans h1 h2) h3 h4
  have hm := cnt_mono c (f := d + 1) (t := a) (u := b) (by omega) (by omega) h2
  simp only [ruleOk, Bool.and_eq_true, decide_eq_true_eq] at hr
  have hn := cnt_rng c (d + 1) a
  have p1 : 0 ≤ cnt c (d + 1) a * r.fine := Int.mul_nonneg (by omega) (by omega)
  have p2 : cnt c (d + 1) a * r.fine ≤ cnt c (d + 1) b * r.fine := Int.mul_le_mul_of_nonneg_right hm (by omega)
  rw [v1, v2]
  split <;> split <;> (try split) <;> (try split) <;> omega
theorem pay_facts3 {l : List Charge} {p a : Int} (hr : rightR l = 0) (h1 : 1 ≤ a) (h2 : a ≤ 100000000) : payE l p a = 0 := (pay_facts hr h1 h2).1
theorem pay_len {l : List Charge} {p a : Int} (hr : rightR l = 0) (h1 : 1 ≤ a) (h2 : a ≤ 100000000) : (payO l p a).length ≤ l.length := by
  obtain ⟨hF, _⟩ := rightR_F hr
  rw [(pay_facts (p := p) hr h1 h2).2.2]
  exact (payZ_spec p l none a hF (by omega)).2.2.2.2.2.2
theorem pay_two {l : List Charge} {p a b : Int} (hr : rightR l = 0) (h1 : 1 ≤ a) (h2 : a ≤ 1000000) (h3 : 1 ≤ b) (h4 : b ≤ 1000000) (hx : payX l p a ≤ 0) :
    payO (payO l p a) p b = payO l p (a + b) ∧ payX (payO l p a) p b = payX l p (a + b) := by
  obtain ⟨hF, _⟩ := rightR_F hr
  obtain ⟨_, e2, e3⟩ := pay_facts (p := p) hr h1 (by omega)
  obtain ⟨g1, g2, _⟩ := pay_facts2 (p := p) hr h1 (by omega)
  obtain ⟨_, k2, k3⟩ := pay_facts (p := p) g1 h3 (by omega)
  obtain ⟨_, m2, m3⟩ := pay_facts (p := p) (a := a + b) hr (by omega) (by omega)
  have hz : (payZ p a l).1 = 0 := by omega
  have ht := payZ_two p l none a b hF (by omega) (by omega) hz
  rw [k2, k3, m2, m3, ht, e3]
  exact ⟨rfl, rfl⟩
end Lib

set_option maxRecDepth 100000
set_option linter.unusedSimpArgs false
set_option linter.unusedVariables false
namespace Go.Proofs.Ytnmbnihbeggmgaa
open Go Ab Lib
theorem slices_IndexFunc_int_int (l : List Int) (f : Nat) (caps : List D) (p : Int → Bool) (hp : ∀ n, ACalls E.P f (.int .i64 n :: caps) (.d (.bool (p n)))) : ACalls E.P 44 [encInts l, .fn f caps] (.d (.int .i64 (idxF p 0 l))) := by
  refine ACalls.intro E_ok Try.func44 rfl rfl Try.ntmps44 Try.results44 (Nat.le_of_ble_eq_true rfl) fun hok base S0 w0 => ?_
  have hl : l.length ≤ 9223372036854775807 := by have := (Ok_slice (hok (encInts l) (by simp))).1; simpa using this
  -- region 0
  refine AWp.rseq E_ok [0, 1, 4, 5, 7, 8, 9, 16] fun K hK => ?_
  simp [encInts_eq]
  repeat refine ⟨by first | omega | assumption | decide | (simp only [maxLen]; omega) | (intros; omega), ?_⟩
  refine hK _ ?_
  clear hK K
  refine AWp.seq ?_
  -- region 1
  refine AWp.rseq E_ok [0, 1, 4, 5, 7, 8, 9, 16] fun K hK => ?_
  simp [encInts_eq]
  repeat refine ⟨by first | omega | assumption | decide | (simp only [maxLen]; omega) | (intros; omega), ?_⟩
  refine hK _ ?_
  clear hK K
  refine AWp.block ?_
  refine AWp.range (l := l) (F := idxF p) (tot := idxF p 0 l) (fun k y => match y with | i => i = (k : Int)) (fun k y => match y with | i => [(0, T.val (encInts l)), (1, T.val (.fn f caps)), (7, T.val (.int .i64 l.length)), (8, T.val (.int .i64 k))]) (0) ?_ rfl ?_ ?_
  · simp [Weak, TW, encInts_eq]
  · first | exact trivial | (simp; omega) | simp
  rintro k i hk hs hi
  try simp only at hi
  -- region 2
  refine AWp.rseq E_ok [0, 1, 4, 5, 7, 8, 9, 16] fun K hK => ?_
  simp [encInts_eq]
  repeat refine ⟨by first | omega | assumption | decide | (simp only [maxLen]; omega) | (intros; omega), ?_⟩
  refine hK _ ?_
  clear hK K
  refine AWp.seq ?_
  refine AWp.cond rfl (fun h9 => ?_) (fun h9 => ?_)
  · try simp at h9
    obtain ⟨x, hx, hxx, hd⟩ := at_indexG (l := l) h9
    rw [hd] at hs
    refine AWp.skip ?_
    repeat first | refine thenN ?_ | refine thenX ?_ | refine thenR ?_ | refine blockN ?_ | refine blockR ?_ | refine blockX ?_ | refine blockM rfl ?_
    refine AWp.seq ?_
    refine AWp.block ?_
    -- region 3
    refine AWp.rseq E_ok [0, 1, 4, 5, 7, 8, 9, 16] fun K hK => ?_
    simp [encInts_eq, h9, hx, hxx]
    repeat refine ⟨by first | omega | assumption | decide | (simp only [maxLen]; omega) | (intros; omega), ?_⟩
    refine hK _ ?_
    clear hK K
    -- region 4
    refine AWp.rseq E_ok [0, 1, 4, 5, 7, 8, 9, 16] fun K hK => ?_
    simp [encInts_eq, h9, hx, hxx]
    repeat refine ⟨by first | omega | assumption | decide | (simp only [maxLen]; omega) | (intros; omega), ?_⟩
    refine meet.of (hp x) ?_
    simp [encInts_eq, h9, hx, hxx]
    repeat refine ⟨by first | omega | assumption | decide | (simp only [maxLen]; omega) | (intros; omega), ?_⟩
    refine hK _ ?_
    clear hK K
    refine AWp.cond rfl (fun h16 => ?_) (fun h16 => ?_)
    · try simp at h16
      -- region 5
      refine AWp.rseq E_ok [0, 1, 4, 5, 7, 8, 9, 16] fun K hK => ?_
      simp [encInts_eq, h9, hx, hxx, h16]
      repeat refine ⟨by first | omega | assumption | decide | (simp only [maxLen]; omega) | (intros; omega), ?_⟩
      refine hK _ ?_
      clear hK K
      refine AWp.ret ?_
      repeat first | refine thenN ?_ | refine thenX ?_ | refine thenR ?_ | refine blockN ?_ | refine blockR ?_ | refine blockX ?_ | refine blockM rfl ?_
      simp [idxF, h16] at hs
      first | (simp [RetOk, RV, ← hs]; done) | (simp [RetOk, RV, ← hs, hi])
    · try simp at h16
      refine AWp.skip ?_
      repeat first | refine thenN ?_ | refine thenX ?_ | refine thenR ?_ | refine blockN ?_ | refine blockR ?_ | refine blockX ?_ | refine blockM rfl ?_
      -- region 6
      refine AWp.rend E_ok [0, 1, 4, 5, 7, 8, 9, 16] fun K hK => ?_
      simp [encInts_eq, h9, hx, hxx, h16]
      repeat refine ⟨by first | omega | assumption | decide | (simp only [maxLen]; omega) | (intros; omega), ?_⟩
      refine hK _ ?_
      clear hK K
      repeat first | refine thenN ?_ | refine thenX ?_ | refine thenR ?_ | refine blockN ?_ | refine blockR ?_ | refine blockX ?_ | refine blockM rfl ?_
      have hw : IntKind.i64.wrap ((k : Int) + 1) = (k : Int) + 1 := by rw [wrap_i64] <;> omega
      simp [idxF, h16] at hs
      refine ⟨_, h9, hs, ?_, ?_⟩
      · first | exact trivial | (simp; omega) | simp
      · simp [Weak, TW, hw, encInts_eq]
  · try simp at h9
    obtain rfl : k = l.length := by omega
    simp [idxF] at hs
    refine AWp.exit ?_
    repeat first | refine thenN ?_ | refine thenX ?_ | refine thenR ?_ | refine blockN ?_ | refine blockR ?_ | refine blockX ?_ | refine blockM rfl ?_
    -- region 7
    refine AWp.rseq E_ok [0, 1, 4, 5, 7, 8, 9, 16] fun K hK => ?_
    simp [encInts_eq, h9]
    repeat refine ⟨by first | omega | assumption | decide | (simp only [maxLen]; omega) | (intros; omega), ?_⟩
    refine hK _ ?_
    clear hK K
    refine AWp.ret ?_
    repeat first | refine thenN ?_ | refine thenX ?_ | refine thenR ?_ | refine blockN ?_ | refine blockR ?_ | refine blockX ?_ | refine blockM rfl ?_
    first | (simp [RetOk, RV, ← hs]; done) | (simp [RetOk, RV, ← hs, hi])
end Go.Proofs.Ytnmbnihbeggmgaa

set_option maxRecDepth 100000
set_option linter.unusedSimpArgs false
set_option linter.unusedVariables false
namespace Go.Proofs.Ytnmbnihbeggmgaa
open Go Ab Lib
theorem slices_ContainsFunc_int_int (l : List Int) (f : Nat) (caps : List D) (p : Int → Bool) (hp : ∀ n, ACalls E.P f (.int .i64 n :: caps) (.d (.bool (p n)))) : ACalls E.P 36 [encInts l, .fn f caps] (.d (.bool (l.any p))) := by
  refine ACalls.intro E_ok Try.func36 rfl rfl Try.ntmps36 Try.results36 (Nat.le_of_ble_eq_true rfl) fun hok base S0 w0 => ?_
  -- region 0
  refine AWp.rseq E_ok [0, 1, 4] fun K hK => ?_
  simp [encInts_eq]
  repeat refine ⟨by first | omega | assumption | decide | (simp only [maxLen]; omega) | (intros; omega), ?_⟩
  refine hK _ ?_
  clear hK K
  -- region 1
  refine AWp.rseq E_ok [0, 1, 4] fun K hK => ?_
  simp [encInts_eq]
  repeat refine ⟨by first | omega | assumption | decide | (simp only [maxLen]; omega) | (intros; omega), ?_⟩
  refine meet.of (slices_IndexFunc_int_int _ _ _ _ hp) ?_
  simp [encInts_eq]
  repeat refine ⟨by first | omega | assumption | decide | (simp only [maxLen]; omega) | (intros; omega), ?_⟩
  refine hK _ ?_
  clear hK K
  refine AWp.ret ?_
  repeat first | refine thenN ?_ | refine thenX ?_ | refine thenR ?_ | refine blockN ?_ | refine blockR ?_ | refine blockX ?_ | refine blockM rfl ?_
  simp [RetOk, RV, idxF_any]
end Go.Proofs.Ytnmbnihbeggmgaa

set_option maxRecDepth 100000
set_option linter.unusedSimpArgs false
set_option linter.unusedVariables false
namespace Go.Proofs.Ytnmbnihbeggmgaa
open Go Ab Lib
theorem calendar_isDay (n : Int) : ACalls E.P 38 [.int .i64 n] (.d (.bool (isDay n))) := by
  refine ACalls.intro E_ok Try.func38 rfl rfl Try.ntmps38 Try.results38 (Nat.le_of_ble_eq_true rfl) fun hok base S0 w0 => ?_
  -- region 0
  refine AWp.rseq E_ok [0, 2] fun K hK => ?_
  simp
  repeat refine ⟨by first | omega | assumption | decide | (simp only [maxLen]; omega) | (intros; omega), ?_⟩
  refine hK _ ?_
  clear hK K
  -- region 1
  refine AWp.rseq E_ok [0, 2] fun K hK => ?_
  simp
  repeat refine ⟨by first | omega | assumption | decide | (simp only [maxLen]; omega) | (intros; omega), ?_⟩
  refine hK _ ?_
  clear hK K
  refine AWp.ret ?_
  repeat first | refine thenN ?_ | refine thenX ?_ | refine thenR ?_ | refine blockN ?_ | refine blockR ?_ | refine blockX ?_ | refine blockM rfl ?_
  simp [RetOk, RV, isDay]
end Go.Proofs.Ytnmbnihbeggmgaa

set_option maxRecDepth 100000
set_option linter.unusedSimpArgs false
set_option linter.unusedVariables false
namespace Go.Proofs.Ytnmbnihbeggmgaa
open Go Ab Lib
theorem calendar_Right_1 (n : Int) : ACalls E.P 37 [.int .i64 n] (.d (.bool (!isDay n))) := by
  refine ACalls.intro E_ok Try.func37 rfl rfl Try.ntmps37 Try.results37 (Nat.le_of_ble_eq_true rfl) fun hok base S0 w0 => ?_
  -- region 0
  refine AWp.rseq E_ok [0, 2] fun K hK => ?_
  simp
  repeat refine ⟨by first | omega | assumption | decide | (simp only [maxLen]; omega) | (intros; omega), ?_⟩
  refine hK _ ?_
  clear hK K
  -- region 1
  refine AWp.rseq E_ok [0, 2] fun K hK => ?_
  simp
  repeat refine ⟨by first | omega | assumption | decide | (simp only [maxLen]; omega) | (intros; omega), ?_⟩
  refine meet.of (calendar_isDay _) ?_
  simp
  repeat refine ⟨by first | omega | assumption | decide | (simp only [maxLen]; omega) | (intros; omega), ?_⟩
  refine hK _ ?_
  clear hK K
  refine AWp.ret ?_
  repeat first | refine thenN ?_ | refine thenX ?_ | refine thenR ?_ | refine blockN ?_ | refine blockR ?_ | refine blockX ?_ | refine blockM rfl ?_
  simp [RetOk, RV]
end Go.Proofs.Ytnmbnihbeggmgaa

set_option maxRecDepth 100000
set_option linter.unusedSimpArgs false
set_option linter.unusedVariables false
namespace Go.Proofs.Ytnmbnihbeggmgaa
open Go Ab Lib
theorem calendar_Right (c : Cal) : ACalls E.P 27 [encCal c] (.d (.int .i64 (calR c))) := by
  refine ACalls.intro E_ok Try.func27 rfl rfl Try.ntmps27 Try.results27 (Nat.le_of_ble_eq_true rfl) fun hok base S0 w0 => ?_
  have hl : c.closed.length ≤ 9223372036854775807 := cal_len (hok (encCal c) (by simp))
  -- region 0
  refine AWp.rseq E_ok [0, 1, 2, 3, 4, 5, 14, 19, 24, 25, 26, 27, 42] fun K hK => ?_
  simp [encCal_eq, encInts_eq]
  repeat refine ⟨by first | omega | assumption | decide | (simp only [maxLen]; omega) | (intros; omega), ?_⟩
  refine hK _ ?_
  clear hK K
  refine AWp.seq ?_
  refine AWp.block ?_
  -- region 1
  refine AWp.rseq E_ok [0, 1, 2, 3, 4, 5, 14, 19, 24, 25, 26, 27, 42] fun K hK => ?_
  simp [encCal_eq, encInts_eq]
  repeat refine ⟨by first | omega | assumption | decide | (simp only [maxLen]; omega) | (intros; omega), ?_⟩
  refine hK _ ?_
  clear hK K
  refine AWp.cond rfl (fun h5 => ?_) (fun h5 => ?_)
  · try simp at h5
    -- region 2
    refine AWp.rseq E_ok [0, 1, 2, 3, 4, 5, 14, 19, 24, 25, 26, 27, 42] fun K hK => ?_
    simp [encCal_eq, encInts_eq, h5]
    repeat refine ⟨by first | omega | assumption | decide | (simp only [maxLen]; omega) | (intros; omega), ?_⟩
    refine hK _ ?_
    clear hK K
    refine AWp.ret ?_
    repeat first | refine thenN ?_ | refine thenX ?_ | refine thenR ?_ | refine blockN ?_ | refine blockR ?_ | refine blockX ?_ | refine blockM rfl ?_
    first | (rw [cal1 h5]; simp [RetOk, RV]; done) | (rw [cal13 h5 h14]; simp [RetOk, RV]; done) | (rw [cal2 h5 h14 h19]; simp [RetOk, RV]; done) | (rw [calA h5 h14 h19]; simp [RetOk, RV, ← hs])
  · try simp at h5
    -- region 3
    refine AWp.rseq E_ok [0, 1, 2, 3, 4, 5, 14, 19, 24, 25, 26, 27, 42] fun K hK => ?_
    simp [encCal_eq, encInts_eq, h5]
    repeat refine ⟨by first | omega | assumption | decide | (simp only [maxLen]; omega) | (intros; omega), ?_⟩
    refine hK _ ?_
    clear hK K
    refine AWp.cond rfl (fun h14 => ?_) (fun h14 => ?_)
    · try simp at h14
      -- region 4
      refine AWp.rseq E_ok [0, 1, 2, 3, 4, 5, 14, 19, 24, 25, 26, 27, 42] fun K hK => ?_
      simp [encCal_eq, encInts_eq, h5, h14]
      repeat refine ⟨by first | omega | assumption | decide | (simp only [maxLen]; omega) | (intros; omega), ?_⟩
      refine hK _ ?_
      clear hK K
      refine AWp.ret ?_
      repeat first | refine thenN ?_ | refine thenX ?_ | refine thenR ?_ | refine blockN ?_ | refine blockR ?_ | refine blockX ?_ | refine blockM rfl ?_
      first | (rw [cal1 h5]; simp [RetOk, RV]; done) | (rw [cal13 h5 h14]; simp [RetOk, RV]; done) | (rw [cal2 h5 h14 h19]; simp [RetOk, RV]; done) | (rw [calA h5 h14 h19]; simp [RetOk, RV, ← hs])
    · try simp at h14
      -- region 5
      refine AWp.rseq E_ok [0, 1, 2, 3, 4, 5, 14, 19, 24, 25, 26, 27, 42] fun K hK => ?_
      simp [encCal_eq, encInts_eq, h5, h14]
      repeat refine ⟨by first | omega | assumption | decide | (simp only [maxLen]; omega) | (intros; omega), ?_⟩
      refine meet.of (slices_ContainsFunc_int_int c.closed 37 [] (fun n => !isDay n) (fun n => calendar_Right_1 n)) ?_
      simp [encCal_eq, encInts_eq, h5, h14]
      repeat refine ⟨by first | omega | assumption | decide | (simp only [maxLen]; omega) | (intros; omega), ?_⟩
      refine hK _ ?_
      clear hK K
      refine AWp.cond rfl (fun h19 => ?_) (fun h19 => ?_)
      · try simp at h19
        -- region 6
        refine AWp.rseq E_ok [0, 1, 2, 3, 4, 5, 14, 19, 24, 25, 26, 27, 42] fun K hK => ?_
        simp [encCal_eq, encInts_eq, h5, h14, h19]
        repeat refine ⟨by first | omega | assumption | decide | (simp only [maxLen]; omega) | (intros; omega), ?_⟩
        refine hK _ ?_
        clear hK K
        refine AWp.ret ?_
        repeat first | refine thenN ?_ | refine thenX ?_ | refine thenR ?_ | refine blockN ?_ | refine blockR ?_ | refine blockX ?_ | refine blockM rfl ?_
        first | (rw [cal1 h5]; simp [RetOk, RV]; done) | (rw [cal13 h5 h14]; simp [RetOk, RV]; done) | (rw [cal2 h5 h14 h19]; simp [RetOk, RV]; done) | (rw [calA h5 h14 h19]; simp [RetOk, RV, ← hs])
      · try simp at h19
        refine AWp.skip ?_
        repeat first | refine thenN ?_ | refine thenX ?_ | refine thenR ?_ | refine blockN ?_ | refine blockR ?_ | refine blockX ?_ | refine blockM rfl ?_
        refine AWp.seq ?_
        -- region 7
        refine AWp.rseq E_ok [0, 1, 2, 3, 4, 5, 14, 19, 24, 25, 26, 27, 42] fun K hK => ?_
        simp [encCal_eq, encInts_eq, h5, h14, h19]
        repeat refine ⟨by first | omega | assumption | decide | (simp only [maxLen]; omega) | (intros; omega), ?_⟩
        refine hK _ ?_
        clear hK K
        refine AWp.block ?_
        refine AWp.range (l := c.closed) (F := ascF) (tot := ascF none c.closed) (fun k y => match y with | pr => pr = if k = 0 then none else c.closed[k-1]?) (fun k y => match y with | pr => [(0, T.val (encCal c)), (1, T.box [C.d (.int .i64 c.week), C.d (encInts c.closed)]), (24, T.val (encInts c.closed)), (25, T.val (.int .i64 c.closed.length)), (26, T.val (.int .i64 k))]) (none) ?_ rfl ?_ ?_
        · simp [Weak, TW, encCal_eq, encInts_eq]
        · first | rfl | (simp [hx])
        rintro k pr hk hs hi
        try simp only at hi
        -- region 8
        refine AWp.rseq E_ok [0, 1, 2, 3, 4, 5, 14, 19, 24, 25, 26, 27, 42] fun K hK => ?_
        simp [encCal_eq, encInts_eq, h5, h14, h19]
        repeat refine ⟨by first | omega | assumption | decide | (simp only [maxLen]; omega) | (intros; omega), ?_⟩
        refine hK _ ?_
        clear hK K
        refine AWp.seq ?_
        refine AWp.cond rfl (fun h27 => ?_) (fun h27 => ?_)
        · try simp at h27
          obtain ⟨x, hx, hxx, hd⟩ := at_indexG (l := c.closed) h27
          rw [hd] at hs
          refine AWp.skip ?_
          repeat first | refine thenN ?_ | refine thenX ?_ | refine thenR ?_ | refine blockN ?_ | refine blockR ?_ | refine blockX ?_ | refine blockM rfl ?_
          refine AWp.seq ?_
          refine AWp.block ?_
          -- region 9
          refine AWp.rseq E_ok [0, 1, 2, 3, 4, 5, 14, 19, 24, 25, 26, 27, 42] fun K hK => ?_
          simp [encCal_eq, encInts_eq, h5, h14, h19, h27, hx, hxx]
          repeat refine ⟨by first | omega | assumption | decide | (simp only [maxLen]; omega) | (intros; omega), ?_⟩
          refine hK _ ?_
          clear hK K
          rcases Nat.eq_zero_or_pos k with hk0 | hk0
          · skip
            have hpr : pr = none := by simpa [hk0] using hi
            have hk1 : ¬ (0 < k) := by omega
            have hlo : lowId pr x = false := by rw [hpr]; rfl
            -- region 10
            refine AWp.rseq E_ok [0, 1, 2, 3, 4, 5, 14, 19, 24, 25, 26, 27, 42] fun K hK => ?_
            simp [encCal_eq, encInts_eq, h5, h14, h19, h27, hx, hxx, hk1]
            repeat refine ⟨by first | omega | assumption | decide | (simp only [maxLen]; omega) | (intros; omega), ?_⟩
            refine hK _ ?_
            clear hK K
            refine AWp.cond rfl (fun h42 => ?_) (fun h42 => ?_)
            · exact absurd h42 (by simp)
            · try simp at h42
              have hlo : lowId pr x = false := by rw [hpr]; first | rfl | simpa [lowId] using h42
              refine AWp.skip ?_
              repeat first | refine thenN ?_ | refine thenX ?_ | refine thenR ?_ | refine blockN ?_ | refine blockR ?_ | refine blockX ?_ | refine blockM rfl ?_
              -- region 12
              refine AWp.rend E_ok [0, 1, 2, 3, 4, 5, 14, 19, 24, 25, 26, 27, 42] fun K hK => ?_
              simp [encCal_eq, encInts_eq, h5, h14, h19, h27, hx, hxx, hk1, h42]
              repeat refine ⟨by first | omega | assumption | decide | (simp only [maxLen]; omega) | (intros; omega), ?_⟩
              refine hK _ ?_
              clear hK K
              repeat first | refine thenN ?_ | refine thenX ?_ | refine thenR ?_ | refine blockN ?_ | refine blockR ?_ | refine blockX ?_ | refine blockM rfl ?_
              have hw : IntKind.i64.wrap ((k : Int) + 1) = (k : Int) + 1 := by rw [wrap_i64] <;> omega
              simp [ascF, hlo] at hs
              refine ⟨_, h27, hs, ?_, ?_⟩
              · first | rfl | (simp [hx])
              · simp [Weak, TW, hw, encCal_eq, encInts_eq]
          · skip
            obtain ⟨j, hkj⟩ : ∃ j, k = j + 1 := ⟨k - 1, by omega⟩
            obtain ⟨y, hy1, hy2, _⟩ := at_indexG (l := c.closed) (k := j) (by omega)
            have hj0 : IntKind.i64.wrap ((k : Int) - 1) = (j : Int) := by rw [wrap_i64] <;> omega
            have hj1 : j < c.closed.length := by omega
            have hpr : pr = some y := by simpa [hkj, hy1] using hi
            -- region 10
            refine AWp.rseq E_ok [0, 1, 2, 3, 4, 5, 14, 19, 24, 25, 26, 27, 42] fun K hK => ?_
            simp [encCal_eq, encInts_eq, h5, h14, h19, h27, hx, hxx, hk0, hj0, hy1, hy2, hj1]
            repeat refine ⟨by first | omega | assumption | decide | (simp only [maxLen]; omega) | (intros; omega), ?_⟩
            refine hK _ ?_
            clear hK K
            refine AWp.cond rfl (fun h42 => ?_) (fun h42 => ?_)
            · try simp at h42
              have hlo : lowId pr x = true := by rw [hpr]; simpa [lowId] using h42
              -- region 11
              refine AWp.rseq E_ok [0, 1, 2, 3, 4, 5, 14, 19, 24, 25, 26, 27, 42] fun K hK => ?_
              simp [encCal_eq, encInts_eq, h5, h14, h19, h27, hx, hxx, hk0, hj0, hy1, hy2, hj1, h42]
              repeat refine ⟨by first | omega | assumption | decide | (simp only [maxLen]; omega) | (intros; omega), ?_⟩
              refine hK _ ?_
              clear hK K
              refine AWp.ret ?_
              repeat first | refine thenN ?_ | refine thenX ?_ | refine thenR ?_ | refine blockN ?_ | refine blockR ?_ | refine blockX ?_ | refine blockM rfl ?_
              first | simp [ascF, hlo] at hs | simp [ascF] at hs
              first | (rw [cal1 h5]; simp [RetOk, RV]; done) | (rw [cal13 h5 h14]; simp [RetOk, RV]; done) | (rw [cal2 h5 h14 h19]; simp [RetOk, RV]; done) | (rw [calA h5 h14 h19]; simp [RetOk, RV, ← hs])
            · try simp at h42
              have hlo : lowId pr x = false := by rw [hpr]; first | rfl | simpa [lowId] using h42
              refine AWp.skip ?_
              repeat first | refine thenN ?_ | refine thenX ?_ | refine thenR ?_ | refine blockN ?_ | refine blockR ?_ | refine blockX ?_ | refine blockM rfl ?_
              -- region 12
              refine AWp.rend E_ok [0, 1, 2, 3, 4, 5, 14, 19, 24, 25, 26, 27, 42] fun K hK => ?_
              simp [encCal_eq, encInts_eq, h5, h14, h19, h27, hx, hxx, hk0, hj0, hy1, hy2, hj1, h42]
              repeat refine ⟨by first | omega | assumption | decide | (simp only [maxLen]; omega) | (intros; omega), ?_⟩
              refine hK _ ?_
              clear hK K
              repeat first | refine thenN ?_ | refine thenX ?_ | refine thenR ?_ | refine blockN ?_ | refine blockR ?_ | refine blockX ?_ | refine blockM rfl ?_
              have hw : IntKind.i64.wrap ((k : Int) + 1) = (k : Int) + 1 := by rw [wrap_i64] <;> omega
              simp [ascF, hlo] at hs
              refine ⟨_, h27, hs, ?_, ?_⟩
              · first | rfl | (simp [hx])
              · simp [Weak, TW, hw, encCal_eq, encInts_eq]
        · try simp at h27
          obtain rfl : k = c.closed.length := by omega
          simp [ascF] at hs
          refine AWp.exit ?_
          repeat first | refine thenN ?_ | refine thenX ?_ | refine thenR ?_ | refine blockN ?_ | refine blockR ?_ | refine blockX ?_ | refine blockM rfl ?_
          -- region 13
          refine AWp.rseq E_ok [0, 1, 2, 3, 4, 5, 14, 19, 24, 25, 26, 27, 42] fun K hK => ?_
          simp [encCal_eq, encInts_eq, h5, h14, h19, h27]
          repeat refine ⟨by first | omega | assumption | decide | (simp only [maxLen]; omega) | (intros; omega), ?_⟩
          refine hK _ ?_
          clear hK K
          refine AWp.ret ?_
          repeat first | refine thenN ?_ | refine thenX ?_ | refine thenR ?_ | refine blockN ?_ | refine blockR ?_ | refine blockX ?_ | refine blockM rfl ?_
          first | (rw [cal1 h5]; simp [RetOk, RV]; done) | (rw [cal13 h5 h14]; simp [RetOk, RV]; done) | (rw [cal2 h5 h14 h19]; simp [RetOk, RV]; done) | (rw [calA h5 h14 h19]; simp [RetOk, RV, ← hs])
end Go.Proofs.Ytnmbnihbeggmgaa

set_option maxRecDepth 100000
set_option linter.unusedSimpArgs false
set_option linter.unusedVariables false
namespace Go.Proofs.Ytnmbnihbeggmgaa
open Go Ab Lib
theorem fine_isDay (n : Int) : ACalls E.P 28 [.int .i64 n] (.d (.bool (isDay n))) := by
  refine ACalls.intro E_ok Try.func28 rfl rfl Try.ntmps28 Try.results28 (Nat.le_of_ble_eq_true rfl) fun hok base S0 w0 => ?_
  -- region 0
  refine AWp.rseq E_ok [0, 2] fun K hK => ?_
  simp
  repeat refine ⟨by first | omega | assumption | decide | (simp only [maxLen]; omega) | (intros; omega), ?_⟩
  refine hK _ ?_
  clear hK K
  -- region 1
  refine AWp.rseq E_ok [0, 2] fun K hK => ?_
  simp
  repeat refine ⟨by first | omega | assumption | decide | (simp only [maxLen]; omega) | (intros; omega), ?_⟩
  refine hK _ ?_
  clear hK K
  refine AWp.ret ?_
  repeat first | refine thenN ?_ | refine thenX ?_ | refine thenR ?_ | refine blockN ?_ | refine blockR ?_ | refine blockX ?_ | refine blockM rfl ?_
  simp [RetOk, RV, isDay]
end Go.Proofs.Ytnmbnihbeggmgaa

set_option maxRecDepth 100000
set_option linter.unusedSimpArgs false
set_option linter.unusedVariables false
namespace Go.Proofs.Ytnmbnihbeggmgaa
open Go Ab Lib
theorem calendar_week (c : Cal) : ACalls E.P 39 [encCal c] (.d (.agg (weekL c.week))) := by
  refine ACalls.intro E_ok Try.func39 rfl rfl Try.ntmps39 Try.results39 (Nat.le_of_ble_eq_true rfl) fun hok base S0 w0 => ?_
  -- region 0
  refine AWp.rseq E_ok [0, 1, 2, 3, 4, 5, 6] fun K hK => ?_
  simp [encCal_eq, encInts_eq]
  repeat refine ⟨by first | omega | assumption | decide | (simp only [maxLen]; omega) | (intros; omega), ?_⟩
  refine hK _ ?_
  clear hK K
  -- region 1
  refine AWp.rseq E_ok [0, 1, 2, 3, 4, 5, 6] fun K hK => ?_
  simp [encCal_eq, encInts_eq]
  repeat refine ⟨by first | omega | assumption | decide | (simp only [maxLen]; omega) | (intros; omega), ?_⟩
  refine hK _ ?_
  clear hK K
  refine AWp.seq ?_
  -- region 2
  refine AWp.rseq E_ok [0, 1, 2, 3, 4, 5, 6] fun K hK => ?_
  simp [encCal_eq, encInts_eq]
  repeat refine ⟨by first | omega | assumption | decide | (simp only [maxLen]; omega) | (intros; omega), ?_⟩
  refine hK _ ?_
  clear hK K
  refine AWp.block ?_
  refine AWp.loop (ι := { k : Nat // k ≤ 7 }) (fun x => match x with | ⟨k, hk⟩ => [(0, T.val (encCal c)), (1, T.box [C.d (.int .i64 c.week), C.d (encInts c.closed)]), (2, T.box [C.d (.bool false), C.d (.bool false), C.d (.bool false), C.d (.bool false), C.d (.bool false), C.d (.bool false), C.d (.bool false)]), (3, T.box [C.d (.bool (decide (0 < k) && wkB c.week 0)), C.d (.bool (decide (1 < k) && wkB c.week 1)), C.d (.bool (decide (2 < k) && wkB c.week 2)), C.d (.bool (decide (3 < k) && wkB c.week 3)), C.d (.bool (decide (4 < k) && wkB c.week 4)), C.d (.bool (decide (5 < k) && wkB c.week 5)), C.d (.bool (decide (6 < k) && wkB c.week 6))]), (5, T.val (.int .i64 k))]) (fun x => match x with | ⟨k, hk⟩ => 7 - k) ⟨0, by omega⟩ ?_ ?_
  · simp [Weak, TW, encCal_eq, encInts_eq]
  rintro ⟨k, hk⟩
  simp only
  try simp only at hk
  -- region 3
  refine AWp.rseq E_ok [0, 1, 2, 3, 4, 5, 6] fun K hK => ?_
  simp [encCal_eq, encInts_eq]
  repeat refine ⟨by first | omega | assumption | decide | (simp only [maxLen]; omega) | (intros; omega), ?_⟩
  refine hK _ ?_
  clear hK K
  refine AWp.seq ?_
  refine AWp.cond rfl (fun h6 => ?_) (fun h6 => ?_)
  · try simp at h6
    refine AWp.skip ?_
    repeat first | refine thenN ?_ | refine thenX ?_ | refine thenR ?_ | refine blockN ?_ | refine blockR ?_ | refine blockX ?_ | refine blockM rfl ?_
    refine AWp.seq ?_
    refine AWp.block ?_
    -- region 4
    refine AWp.rseq E_ok [0, 1, 2, 3, 4, 5, 6] fun K hK => ?_
    simp [encCal_eq, encInts_eq, h6]
    repeat refine ⟨by first | omega | assumption | decide | (simp only [maxLen]; omega) | (intros; omega), ?_⟩
    refine hK _ ?_
    clear hK K
    -- region 5
    refine AWp.rend E_ok [0, 1, 2, 3, 4, 5, 6] fun K hK => ?_
    simp [encCal_eq, encInts_eq, h6]
    repeat refine ⟨by first | omega | assumption | decide | (simp only [maxLen]; omega) | (intros; omega), ?_⟩
    refine hK _ ?_
    clear hK K
    repeat first | refine thenN ?_ | refine thenX ?_ | refine thenR ?_ | refine blockN ?_ | refine blockR ?_ | refine blockX ?_ | refine blockM rfl ?_
    -- region 6
    refine AWp.rend E_ok [0, 1, 2, 3, 4, 5, 6] fun K hK => ?_
    simp [encCal_eq, encInts_eq, h6]
    repeat refine ⟨by first | omega | assumption | decide | (simp only [maxLen]; omega) | (intros; omega), ?_⟩
    refine hK _ ?_
    clear hK K
    repeat first | refine thenN ?_ | refine thenX ?_ | refine thenR ?_ | refine blockN ?_ | refine blockR ?_ | refine blockX ?_ | refine blockM rfl ?_
    have hw : IntKind.i64.wrap ((k : Int) + 1) = (k : Int) + 1 := by rw [wrap_i64] <;> omega
    have hk7 : k = 0 ∨ k = 1 ∨ k = 2 ∨ k = 3 ∨ k = 4 ∨ k = 5 ∨ k = 6 := by omega
    refine ⟨⟨k + 1, by omega⟩, ?_, by simp only; omega⟩
    rcases hk7 with rfl | rfl | rfl | rfl | rfl | rfl | rfl <;> simp at hw <;> simp [Weak, TW, encCal_eq, encInts_eq, wkB, hw]
  · try simp at h6
    obtain rfl : k = 7 := by omega
    refine AWp.exit ?_
    repeat first | refine thenN ?_ | refine thenX ?_ | refine thenR ?_ | refine blockN ?_ | refine blockR ?_ | refine blockX ?_ | refine blockM rfl ?_
    -- region 7
    refine AWp.rseq E_ok [0, 1, 2, 3, 4, 5, 6] fun K hK => ?_
    simp [encCal_eq, encInts_eq, h6]
    repeat refine ⟨by first | omega | assumption | decide | (simp only [maxLen]; omega) | (intros; omega), ?_⟩
    refine hK _ ?_
    clear hK K
    refine AWp.ret ?_
    repeat first | refine thenN ?_ | refine thenX ?_ | refine thenR ?_ | refine blockN ?_ | refine blockR ?_ | refine blockX ?_ | refine blockM rfl ?_
    simp [RetOk, RV, weekL]
end Go.Proofs.Ytnmbnihbeggmgaa

set_option maxRecDepth 100000
set_option linter.unusedSimpArgs false
set_option linter.unusedVariables false
namespace Go.Proofs.Ytnmbnihbeggmgaa
open Go Ab Lib
theorem date_known (n : Int) : ACalls E.P 45 [.int .i64 n] (.d (.bool (isDay n))) := by
  refine ACalls.intro E_ok Try.func45 rfl rfl Try.ntmps45 Try.results45 (Nat.le_of_ble_eq_true rfl) fun hok base S0 w0 => ?_
  -- region 0
  refine AWp.rseq E_ok [0, 2] fun K hK => ?_
  simp
  repeat refine ⟨by first | omega | assumption | decide | (simp only [maxLen]; omega) | (intros; omega), ?_⟩
  refine hK _ ?_
  clear hK K
  -- region 1
  refine AWp.rseq E_ok [0, 2] fun K hK => ?_
  simp
  repeat refine ⟨by first | omega | assumption | decide | (simp only [maxLen]; omega) | (intros; omega), ?_⟩
  refine hK _ ?_
  clear hK K
  refine AWp.ret ?_
  repeat first | refine thenN ?_ | refine thenX ?_ | refine thenR ?_ | refine blockN ?_ | refine blockR ?_ | refine blockX ?_ | refine blockM rfl ?_
  simp [RetOk, RV, isDay]
end Go.Proofs.Ytnmbnihbeggmgaa

set_option maxRecDepth 100000
set_option linter.unusedSimpArgs false
set_option linter.unusedVariables false
namespace Go.Proofs.Ytnmbnihbeggmgaa
open Go Ab Lib
theorem date_Weekday (n : Int) : ACalls E.P 41 [.int .i64 n] (.d (.int .i64 (wday n))) := by
  refine ACalls.intro E_ok Try.func41 rfl rfl Try.ntmps41 Try.results41 (Nat.le_of_ble_eq_true rfl) fun hok base S0 w0 => ?_
  -- region 0
  refine AWp.rseq E_ok [0, 2, 5] fun K hK => ?_
  simp
  repeat refine ⟨by first | omega | assumption | decide | (simp only [maxLen]; omega) | (intros; omega), ?_⟩
  refine hK _ ?_
  clear hK K
  refine AWp.seq ?_
  -- region 1
  refine AWp.rseq E_ok [0, 2, 5] fun K hK => ?_
  simp
  repeat refine ⟨by first | omega | assumption | decide | (simp only [maxLen]; omega) | (intros; omega), ?_⟩
  refine meet.of (date_known _) ?_
  simp
  repeat refine ⟨by first | omega | assumption | decide | (simp only [maxLen]; omega) | (intros; omega), ?_⟩
  refine hK _ ?_
  clear hK K
  refine AWp.cond rfl (fun h5 => ?_) (fun h5 => ?_)
  · try simp at h5
    -- region 2
    refine AWp.rseq E_ok [0, 2, 5] fun K hK => ?_
    simp [h5]
    repeat refine ⟨by first | omega | assumption | decide | (simp only [maxLen]; omega) | (intros; omega), ?_⟩
    refine hK _ ?_
    clear hK K
    refine AWp.ret ?_
    repeat first | refine thenN ?_ | refine thenX ?_ | refine thenR ?_ | refine blockN ?_ | refine blockR ?_ | refine blockX ?_ | refine blockM rfl ?_
    simp [RetOk, RV, wday, h5]
  · try simp at h5
    refine AWp.skip ?_
    repeat first | refine thenN ?_ | refine thenX ?_ | refine thenR ?_ | refine blockN ?_ | refine blockR ?_ | refine blockX ?_ | refine blockM rfl ?_
    -- region 3
    refine AWp.rseq E_ok [0, 2, 5] fun K hK => ?_
    simp [h5]
    repeat refine ⟨by first | omega | assumption | decide | (simp only [maxLen]; omega) | (intros; omega), ?_⟩
    refine hK _ ?_
    clear hK K
    refine AWp.ret ?_
    repeat first | refine thenN ?_ | refine thenX ?_ | refine thenR ?_ | refine blockN ?_ | refine blockR ?_ | refine blockX ?_ | refine blockM rfl ?_
    simp [RetOk, RV, wday, h5]
end Go.Proofs.Ytnmbnihbeggmgaa

set_option maxRecDepth 100000
set_option linter.unusedSimpArgs false
set_option linter.unusedVariables false
namespace Go.Proofs.Ytnmbnihbeggmgaa
open Go Ab Lib
theorem calendar_upTo (d w : Int) : ACalls E.P 40 [.int .i64 d, .int .i64 w] (.d (.int .i64 (upToW d w))) := by
  refine ACalls.intro E_ok Try.func40 rfl rfl Try.ntmps40 Try.results40 (Nat.le_of_ble_eq_true rfl) fun hok base S0 w0 => ?_
  -- region 0
  refine AWp.rseq E_ok [0, 1, 4, 5, 13] fun K hK => ?_
  simp
  repeat refine ⟨by first | omega | assumption | decide | (simp only [maxLen]; omega) | (intros; omega), ?_⟩
  refine hK _ ?_
  clear hK K
  -- region 1
  refine AWp.rseq E_ok [0, 1, 4, 5, 13] fun K hK => ?_
  simp
  repeat refine ⟨by first | omega | assumption | decide | (simp only [maxLen]; omega) | (intros; omega), ?_⟩
  refine meet.of (date_Weekday 0) ?_
  simp
  repeat refine ⟨by first | omega | assumption | decide | (simp only [maxLen]; omega) | (intros; omega), ?_⟩
  refine hK _ ?_
  clear hK K
  refine AWp.seq ?_
  -- region 2
  refine AWp.rseq E_ok [0, 1, 4, 5, 13] fun K hK => ?_
  simp
  repeat refine ⟨by first | omega | assumption | decide | (simp only [maxLen]; omega) | (intros; omega), ?_⟩
  refine hK _ ?_
  clear hK K
  refine AWp.cond rfl (fun h13 => ?_) (fun h13 => ?_)
  · try simp at h13
    -- region 3
    refine AWp.rseq E_ok [0, 1, 4, 5, 13] fun K hK => ?_
    simp [h13]
    repeat refine ⟨by first | omega | assumption | decide | (simp only [maxLen]; omega) | (intros; omega), ?_⟩
    refine hK _ ?_
    clear hK K
    refine AWp.ret ?_
    repeat first | refine thenN ?_ | refine thenX ?_ | refine thenR ?_ | refine blockN ?_ | refine blockR ?_ | refine blockX ?_ | refine blockM rfl ?_
    first | (rw [upToW_lt h13]; simp [RetOk, RV]; done) | (rw [upToW_ge h13]; simp [RetOk, RV, fst7])
  · try simp at h13
    refine AWp.skip ?_
    repeat first | refine thenN ?_ | refine thenX ?_ | refine thenR ?_ | refine blockN ?_ | refine blockR ?_ | refine blockX ?_ | refine blockM rfl ?_
    -- region 4
    refine AWp.rseq E_ok [0, 1, 4, 5, 13] fun K hK => ?_
    simp [h13]
    repeat refine ⟨by first | omega | assumption | decide | (simp only [maxLen]; omega) | (intros; omega), ?_⟩
    refine hK _ ?_
    clear hK K
    refine AWp.ret ?_
    repeat first | refine thenN ?_ | refine thenX ?_ | refine thenR ?_ | refine blockN ?_ | refine blockR ?_ | refine blockX ?_ | refine blockM rfl ?_
    first | (rw [upToW_lt h13]; simp [RetOk, RV]; done) | (rw [upToW_ge h13]; simp [RetOk, RV, fst7])
end Go.Proofs.Ytnmbnihbeggmgaa

set_option maxRecDepth 100000
set_option linter.unusedSimpArgs false
set_option linter.unusedVariables false
namespace Go.Proofs.Ytnmbnihbeggmgaa
open Go Ab Lib
theorem calendar_Count (c : Cal) (f t : Int) (hcl : c.closed.length ≤ 1000000) : ACalls E.P 29 [encCal c, .int .i64 f, .int .i64 t] (.d (.int .i64 (countR c f t))) := by
  refine ACalls.intro E_ok Try.func29 rfl rfl Try.ntmps29 Try.results29 (Nat.le_of_ble_eq_true rfl) fun hok base S0 w0 => ?_
  -- region 0
  refine AWp.rseq E_ok [0, 1, 2, 3, 6, 7, 8, 9, 10, 12, 19, 22, 23, 24, 27, 40, 41, 42, 43, 59] fun K hK => ?_
  simp [encCal_eq, encInts_eq]
  repeat refine ⟨by first | omega | assumption | decide | (simp only [maxLen]; omega) | (intros; omega), ?_⟩
  refine hK _ ?_
  clear hK K
  -- region 1
  refine AWp.rseq E_ok [0, 1, 2, 3, 6, 7, 8, 9, 10, 12, 19, 22, 23, 24, 27, 40, 41, 42, 43, 59] fun K hK => ?_
  simp [encCal_eq, encInts_eq]
  repeat refine ⟨by first | omega | assumption | decide | (simp only [maxLen]; omega) | (intros; omega), ?_⟩
  refine hK _ ?_
  clear hK K
  generalize hlo : (if f < 0 then 0 else f) = lo
  generalize hhi : (if 109572 < t then 109572 else t) = hi'
  have hlo0 : 0 ≤ lo := by rw [← hlo]; split <;> omega
  have hhi0 : hi' ≤ 109572 := by rw [← hhi]; split <;> omega
  refine AWp.seq ?_
  -- region 2
  refine AWp.rseq E_ok [0, 1, 2, 3, 6, 7, 8, 9, 10, 12, 19, 22, 23, 24, 27, 40, 41, 42, 43, 59] fun K hK => ?_
  simp [encCal_eq, encInts_eq]
  repeat refine ⟨by first | omega | assumption | decide | (simp only [maxLen]; omega) | (intros; omega), ?_⟩
  refine hK _ ?_
  clear hK K
  refine AWp.cond rfl (fun h19 => ?_) (fun h19 => ?_)
  · try simp at h19
    -- region 3
    refine AWp.rseq E_ok [0, 1, 2, 3, 6, 7, 8, 9, 10, 12, 19, 22, 23, 24, 27, 40, 41, 42, 43, 59] fun K hK => ?_
    simp [encCal_eq, encInts_eq]
    repeat refine ⟨by first | omega | assumption | decide | (simp only [maxLen]; omega) | (intros; omega), ?_⟩
    refine hK _ ?_
    clear hK K
    refine AWp.ret ?_
    repeat first | refine thenN ?_ | refine thenX ?_ | refine thenR ?_ | refine blockN ?_ | refine blockR ?_ | refine blockX ?_ | refine blockM rfl ?_
    first | (simp [RetOk, RV, countR, hlo, hhi, h19]; done) | (rw [countR_ge hlo hhi h19]; simp [RetOk, RV, ← hs])
  · try simp at h19
    refine AWp.skip ?_
    repeat first | refine thenN ?_ | refine thenX ?_ | refine thenR ?_ | refine blockN ?_ | refine blockR ?_ | refine blockX ?_ | refine blockM rfl ?_
    -- region 4
    refine AWp.rseq E_ok [0, 1, 2, 3, 6, 7, 8, 9, 10, 12, 19, 22, 23, 24, 27, 40, 41, 42, 43, 59] fun K hK => ?_
    simp [encCal_eq, encInts_eq]
    repeat refine ⟨by first | omega | assumption | decide | (simp only [maxLen]; omega) | (intros; omega), ?_⟩
    refine meet.of (calendar_week c) ?_
    simp [encCal_eq, encInts_eq]
    repeat refine ⟨by first | omega | assumption | decide | (simp only [maxLen]; omega) | (intros; omega), ?_⟩
    refine hK _ ?_
    clear hK K
    -- region 5
    refine AWp.rseq E_ok [0, 1, 2, 3, 6, 7, 8, 9, 10, 12, 19, 22, 23, 24, 27, 40, 41, 42, 43, 59] fun K hK => ?_
    simp [encCal_eq, encInts_eq]
    repeat refine ⟨by first | omega | assumption | decide | (simp only [maxLen]; omega) | (intros; omega), ?_⟩
    refine hK _ ?_
    clear hK K
    refine AWp.seq ?_
    -- region 6
    refine AWp.rseq E_ok [0, 1, 2, 3, 6, 7, 8, 9, 10, 12, 19, 22, 23, 24, 27, 40, 41, 42, 43, 59] fun K hK => ?_
    simp [encCal_eq, encInts_eq]
    repeat refine ⟨by first | omega | assumption | decide | (simp only [maxLen]; omega) | (intros; omega), ?_⟩
    refine hK _ ?_
    clear hK K
    refine AWp.block ?_
    refine AWp.loop (ι := { k : Nat // k ≤ 7 }) (fun x => match x with | ⟨k, hk⟩ => [(0, T.val (encCal c)), (1, T.val (.int .i64 lo)), (2, T.val (.int .i64 hi')), (3, T.box [C.d (.int .i64 c.week), C.d (encInts c.closed)]), (7, T.box ((weekL c.week).map C.d)), (8, T.val (.int .i64 (cnt7 c.week lo hi' k))), (22, T.val (.agg (weekL c.week))), (23, T.val (.int .i64 k))]) (fun x => match x with | ⟨k, hk⟩ => 7 - k) ⟨0, by omega⟩ ?_ ?_
    · simp [Weak, TW, encCal_eq, encInts_eq]
    rintro ⟨k, hk⟩
    simp only
    try simp only at hk
    -- region 7
    refine AWp.rseq E_ok [0, 1, 2, 3, 6, 7, 8, 9, 10, 12, 19, 22, 23, 24, 27, 40, 41, 42, 43, 59] fun K hK => ?_
    simp [encCal_eq, encInts_eq]
    repeat refine ⟨by first | omega | assumption | decide | (simp only [maxLen]; omega) | (intros; omega), ?_⟩
    refine hK _ ?_
    clear hK K
    refine AWp.seq ?_
    refine AWp.cond rfl (fun h24 => ?_) (fun h24 => ?_)
    · try simp at h24
      have hk7 : k < 7 := by omega
      refine AWp.skip ?_
      repeat first | refine thenN ?_ | refine thenX ?_ | refine thenR ?_ | refine blockN ?_ | refine blockR ?_ | refine blockX ?_ | refine blockM rfl ?_
      refine AWp.seq ?_
      refine AWp.block ?_
      -- region 8
      refine AWp.rseq E_ok [0, 1, 2, 3, 6, 7, 8, 9, 10, 12, 19, 22, 23, 24, 27, 40, 41, 42, 43, 59] fun K hK => ?_
      simp [encCal_eq, encInts_eq, h24, hk7]
      repeat refine ⟨by first | omega | assumption | decide | (simp only [maxLen]; omega) | (intros; omega), ?_⟩
      refine hK _ ?_
      clear hK K
      -- region 9
      refine AWp.rseq E_ok [0, 1, 2, 3, 6, 7, 8, 9, 10, 12, 19, 22, 23, 24, 27, 40, 41, 42, 43, 59] fun K hK => ?_
      simp [encCal_eq, encInts_eq, h24, hk7]
      repeat refine ⟨by first | omega | assumption | decide | (simp only [maxLen]; omega) | (intros; omega), ?_⟩
      refine hK _ ?_
      clear hK K
      refine AWp.cond rfl (fun h27 => ?_) (fun h27 => ?_)
      · try simp at h27
        -- region 10
        refine AWp.rend E_ok [0, 1, 2, 3, 6, 7, 8, 9, 10, 12, 19, 22, 23, 24, 27, 40, 41, 42, 43, 59] fun K hK => ?_
        simp [encCal_eq, encInts_eq, h24, hk7, h27]
        repeat refine ⟨by first | omega | assumption | decide | (simp only [maxLen]; omega) | (intros; omega), ?_⟩
        refine meet.of (calendar_upTo _ _) ?_
        simp [encCal_eq, encInts_eq, h24, hk7, h27]
        repeat refine ⟨by first | omega | assumption | decide | (simp only [maxLen]; omega) | (intros; omega), ?_⟩
        refine meet.of (calendar_upTo _ _) ?_
        simp [encCal_eq, encInts_eq, h24, hk7, h27]
        repeat refine ⟨by first | omega | assumption | decide | (simp only [maxLen]; omega) | (intros; omega), ?_⟩
        refine hK _ ?_
        clear hK K
        repeat first | refine thenN ?_ | refine thenX ?_ | refine thenR ?_ | refine blockN ?_ | refine blockR ?_ | refine blockX ?_ | refine blockM rfl ?_
        -- region 11
        refine AWp.rend E_ok [0, 1, 2, 3, 6, 7, 8, 9, 10, 12, 19, 22, 23, 24, 27, 40, 41, 42, 43, 59] fun K hK => ?_
        simp [encCal_eq, encInts_eq, h24, hk7, h27]
        repeat refine ⟨by first | omega | assumption | decide | (simp only [maxLen]; omega) | (intros; omega), ?_⟩
        refine hK _ ?_
        clear hK K
        repeat first | refine thenN ?_ | refine thenX ?_ | refine thenR ?_ | refine blockN ?_ | refine blockR ?_ | refine blockX ?_ | refine blockM rfl ?_
        have hw : IntKind.i64.wrap ((k : Int) + 1) = (k : Int) + 1 := by rw [wrap_i64] <;> omega
        try simp [hk7] at h27
        refine ⟨⟨k + 1, by omega⟩, ?_, by simp only; omega⟩
        simp [Weak, TW, encCal_eq, encInts_eq, cnt7, hw, h27]
      · try simp at h27
        refine AWp.skip ?_
        repeat first | refine thenN ?_ | refine thenX ?_ | refine thenR ?_ | refine blockN ?_ | refine blockR ?_ | refine blockX ?_ | refine blockM rfl ?_
        -- region 11
        refine AWp.rend E_ok [0, 1, 2, 3, 6, 7, 8, 9, 10, 12, 19, 22, 23, 24, 27, 40, 41, 42, 43, 59] fun K hK => ?_
        simp [encCal_eq, encInts_eq, h24, hk7, h27]
        repeat refine ⟨by first | omega | assumption | decide | (simp only [maxLen]; omega) | (intros; omega), ?_⟩
        refine hK _ ?_
        clear hK K
        repeat first | refine thenN ?_ | refine thenX ?_ | refine thenR ?_ | refine blockN ?_ | refine blockR ?_ | refine blockX ?_ | refine blockM rfl ?_
        have hw : IntKind.i64.wrap ((k : Int) + 1) = (k : Int) + 1 := by rw [wrap_i64] <;> omega
        try simp [hk7] at h27
        refine ⟨⟨k + 1, by omega⟩, ?_, by simp only; omega⟩
        simp [Weak, TW, encCal_eq, encInts_eq, cnt7, hw, h27]
    · try simp at h24
      obtain rfl : k = 7 := by omega
      refine AWp.exit ?_
      repeat first | refine thenN ?_ | refine thenX ?_ | refine thenR ?_ | refine blockN ?_ | refine blockR ?_ | refine blockX ?_ | refine blockM rfl ?_
      refine AWp.seq ?_
      -- region 12
      refine AWp.rseq E_ok [0, 1, 2, 3, 6, 7, 8, 9, 10, 12, 19, 22, 23, 24, 27, 40, 41, 42, 43, 59] fun K hK => ?_
      simp [encCal_eq, encInts_eq, h24]
      repeat refine ⟨by first | omega | assumption | decide | (simp only [maxLen]; omega) | (intros; omega), ?_⟩
      refine hK _ ?_
      clear hK K
      refine AWp.block ?_
      refine AWp.range (l := c.closed) (F := cntG c.week lo hi') (tot := cntG c.week lo hi' (cnt7 c.week lo hi' 7) c.closed) (fun k y => match y with | n => True) (fun k y => match y with | n => [(1, T.val (.int .i64 lo)), (2, T.val (.int .i64 hi')), (3, T.box [C.d (.int .i64 c.week), C.d (encInts c.closed)]), (7, T.box ((weekL c.week).map C.d)), (8, T.val (.int .i64 n)), (40, T.val (encInts c.closed)), (41, T.val (.int .i64 c.closed.length)), (42, T.val (.int .i64 k))]) (cnt7 c.week lo hi' 7) ?_ rfl ?_ ?_
      · simp [Weak, TW, encCal_eq, encInts_eq]
      · first | exact trivial | (simp; omega) | simp
      rintro k n hk hs hi
      try simp only at hi
      -- region 13
      refine AWp.rseq E_ok [0, 1, 2, 3, 6, 7, 8, 9, 10, 12, 19, 22, 23, 24, 27, 40, 41, 42, 43, 59] fun K hK => ?_
      simp [encCal_eq, encInts_eq, h24]
      repeat refine ⟨by first | omega | assumption | decide | (simp only [maxLen]; omega) | (intros; omega), ?_⟩
      refine hK _ ?_
      clear hK K
      refine AWp.seq ?_
      refine AWp.cond rfl (fun h43 => ?_) (fun h43 => ?_)
      · try simp at h43
        obtain ⟨x, hx, hxx, hd⟩ := at_indexG (l := c.closed) h43
        rw [hd] at hs
        refine AWp.skip ?_
        repeat first | refine thenN ?_ | refine thenX ?_ | refine thenR ?_ | refine blockN ?_ | refine blockR ?_ | refine blockX ?_ | refine blockM rfl ?_
        refine AWp.seq ?_
        refine AWp.block ?_
        -- region 14
        refine AWp.rseq E_ok [0, 1, 2, 3, 6, 7, 8, 9, 10, 12, 19, 22, 23, 24, 27, 40, 41, 42, 43, 59] fun K hK => ?_
        simp [encCal_eq, encInts_eq, h24, h43, hx, hxx]
        repeat refine ⟨by first | omega | assumption | decide | (simp only [maxLen]; omega) | (intros; omega), ?_⟩
        refine hK _ ?_
        clear hK K
        -- region 15
        refine AWp.rseq E_ok [0, 1, 2, 3, 6, 7, 8, 9, 10, 12, 19, 22, 23, 24, 27, 40, 41, 42, 43, 59] fun K hK => ?_
        simp [encCal_eq, encInts_eq, h24, h43, hx, hxx]
        repeat refine ⟨by first | omega | assumption | decide | (simp only [maxLen]; omega) | (intros; omega), ?_⟩
        refine meet.of (date_Weekday _) ?_
        simp [encCal_eq, encInts_eq, h24, h43, hx, hxx]
        refine ⟨fun h1 h2 => wday_rng (by omega) (by omega), fun h1 h2 => (wday_rng (by omega) (by omega)).2, ?_⟩
        repeat refine ⟨by first | omega | assumption | decide | (simp only [maxLen]; omega) | (intros; omega), ?_⟩
        refine hK _ ?_
        clear hK K
        refine AWp.cond rfl (fun h59 => ?_) (fun h59 => ?_)
        · try simp at h59
          have hc : cntIn c.week lo hi' x = true := by simpa [cntIn] using h59
          -- region 16
          refine AWp.rend E_ok [0, 1, 2, 3, 6, 7, 8, 9, 10, 12, 19, 22, 23, 24, 27, 40, 41, 42, 43, 59] fun K hK => ?_
          simp [encCal_eq, encInts_eq, h24, h43, hx, hxx, h59]
          repeat refine ⟨by first | omega | assumption | decide | (simp only [maxLen]; omega) | (intros; omega), ?_⟩
          refine hK _ ?_
          clear hK K
          repeat first | refine thenN ?_ | refine thenX ?_ | refine thenR ?_ | refine blockN ?_ | refine blockR ?_ | refine blockX ?_ | refine blockM rfl ?_
          -- region 17
          refine AWp.rend E_ok [0, 1, 2, 3, 6, 7, 8, 9, 10, 12, 19, 22, 23, 24, 27, 40, 41, 42, 43, 59] fun K hK => ?_
          simp [encCal_eq, encInts_eq, h24, h43, hx, hxx, h59]
          repeat refine ⟨by first | omega | assumption | decide | (simp only [maxLen]; omega) | (intros; omega), ?_⟩
          refine hK _ ?_
          clear hK K
          repeat first | refine thenN ?_ | refine thenX ?_ | refine thenR ?_ | refine blockN ?_ | refine blockR ?_ | refine blockX ?_ | refine blockM rfl ?_
          have hw : IntKind.i64.wrap ((k : Int) + 1) = (k : Int) + 1 := by rw [wrap_i64] <;> omega
          simp [cntG, hc] at hs
          refine ⟨_, h43, hs, ?_, ?_⟩
          · first | exact trivial | (simp; omega) | simp
          · simp [Weak, TW, hw, encCal_eq, encInts_eq]
        · try simp at h59
          have hc : cntIn c.week lo hi' x = false := by simpa [cntIn] using h59
          refine AWp.skip ?_
          repeat first | refine thenN ?_ | refine thenX ?_ | refine thenR ?_ | refine blockN ?_ | refine blockR ?_ | refine blockX ?_ | refine blockM rfl ?_
          -- region 17
          refine AWp.rend E_ok [0, 1, 2, 3, 6, 7, 8, 9, 10, 12, 19, 22, 23, 24, 27, 40, 41, 42, 43, 59] fun K hK => ?_
          simp [encCal_eq, encInts_eq, h24, h43, hx, hxx, h59]
          repeat refine ⟨by first | omega | assumption | decide | (simp only [maxLen]; omega) | (intros; omega), ?_⟩
          refine hK _ ?_
          clear hK K
          repeat first | refine thenN ?_ | refine thenX ?_ | refine thenR ?_ | refine blockN ?_ | refine blockR ?_ | refine blockX ?_ | refine blockM rfl ?_
          have hw : IntKind.i64.wrap ((k : Int) + 1) = (k : Int) + 1 := by rw [wrap_i64] <;> omega
          simp [cntG, hc] at hs
          refine ⟨_, h43, hs, ?_, ?_⟩
          · first | exact trivial | (simp; omega) | simp
          · simp [Weak, TW, hw, encCal_eq, encInts_eq]
      · try simp at h43
        obtain rfl : k = c.closed.length := by omega
        simp [cntG] at hs
        refine AWp.exit ?_
        repeat first | refine thenN ?_ | refine thenX ?_ | refine thenR ?_ | refine blockN ?_ | refine blockR ?_ | refine blockX ?_ | refine blockM rfl ?_
        -- region 18
        refine AWp.rseq E_ok [0, 1, 2, 3, 6, 7, 8, 9, 10, 12, 19, 22, 23, 24, 27, 40, 41, 42, 43, 59] fun K hK => ?_
        simp [encCal_eq, encInts_eq, h24, h43]
        repeat refine ⟨by first | omega | assumption | decide | (simp only [maxLen]; omega) | (intros; omega), ?_⟩
        refine hK _ ?_
        clear hK K
        refine AWp.ret ?_
        repeat first | refine thenN ?_ | refine thenX ?_ | refine thenR ?_ | refine blockN ?_ | refine blockR ?_ | refine blockX ?_ | refine blockM rfl ?_
        first | (simp [RetOk, RV, countR, hlo, hhi, h19]; done) | (rw [countR_ge hlo hhi h19]; simp [RetOk, RV, ← hs])
end Go.Proofs.Ytnmbnihbeggmgaa

set_option maxRecDepth 100000
set_option linter.unusedSimpArgs false
set_option linter.unusedVariables false
namespace Go.Proofs.Ytnmbnihbeggmgaa
open Go Ab Lib
theorem fine_Late (r : Rule) (c : Cal) (d b : Int) (hcl : c.closed.length ≤ 1000000) : ACalls E.P 11 [encRule r, encCal c, .int .i64 d, .int .i64 b] (.d (.int .i64 (lateR r c d b))) := by
  refine ACalls.intro E_ok Try.func11 rfl rfl Try.ntmps11 Try.results11 (Nat.le_of_ble_eq_true rfl) fun hok base S0 w0 => ?_
  -- region 0
  refine AWp.rseq E_ok [0, 1, 2, 3, 4, 5, 8, 9, 22, 31] fun K hK => ?_
  simp [encCal_eq, encRule_eq, encInts_eq]
  repeat refine ⟨by first | omega | assumption | decide | (simp only [maxLen]; omega) | (intros; omega), ?_⟩
  refine hK _ ?_
  clear hK K
  refine AWp.seq ?_
  -- region 1
  refine AWp.rseq E_ok [0, 1, 2, 3, 4, 5, 8, 9, 22, 31] fun K hK => ?_
  simp [encCal_eq, encRule_eq, encInts_eq]
  repeat refine ⟨by first | omega | assumption | decide | (simp only [maxLen]; omega) | (intros; omega), ?_⟩
  refine meet.of (calendar_Right c) ?_
  simp [encCal_eq, encRule_eq, encInts_eq]
  repeat refine ⟨by first | omega | assumption | decide | (simp only [maxLen]; omega) | (intros; omega), ?_⟩
  refine meet.of (fine_isDay _) ?_
  simp [encCal_eq, encRule_eq, encInts_eq]
  repeat refine ⟨by first | omega | assumption | decide | (simp only [maxLen]; omega) | (intros; omega), ?_⟩
  refine meet.of (fine_isDay _) ?_
  simp [encCal_eq, encRule_eq, encInts_eq]
  repeat refine ⟨by first | omega | assumption | decide | (simp only [maxLen]; omega) | (intros; omega), ?_⟩
  refine hK _ ?_
  clear hK K
  refine AWp.cond rfl (fun h22 => ?_) (fun h22 => ?_)
  · try simp at h22
    -- region 2
    refine AWp.rseq E_ok [0, 1, 2, 3, 4, 5, 8, 9, 22, 31] fun K hK => ?_
    simp [encCal_eq, encRule_eq, encInts_eq, h22]
    repeat refine ⟨by first | omega | assumption | decide | (simp only [maxLen]; omega) | (intros; omega), ?_⟩
    refine hK _ ?_
    clear hK K
    refine AWp.ret ?_
    repeat first | refine thenN ?_ | refine thenX ?_ | refine thenR ?_ | refine blockN ?_ | refine blockR ?_ | refine blockX ?_ | refine blockM rfl ?_
    first | (rw [lateR_bad h22]; simp [RetOk, RV]; done) | (rw [lateR_gr h22 h31]; simp [RetOk, RV]; done) | (rw [lateR_ok h22 h31]; simp [RetOk, RV])
  · try simp at h22
    refine AWp.skip ?_
    repeat first | refine thenN ?_ | refine thenX ?_ | refine thenR ?_ | refine blockN ?_ | refine blockR ?_ | refine blockX ?_ | refine blockM rfl ?_
    -- region 3
    refine AWp.rseq E_ok [0, 1, 2, 3, 4, 5, 8, 9, 22, 31] fun K hK => ?_
    simp [encCal_eq, encRule_eq, encInts_eq, h22]
    repeat refine ⟨by first | omega | assumption | decide | (simp only [maxLen]; omega) | (intros; omega), ?_⟩
    refine meet.of (calendar_Count c _ _ (by omega)) ?_
    simp [encCal_eq, encRule_eq, encInts_eq, h22]
    repeat refine ⟨by first | omega | assumption | decide | (simp only [maxLen]; omega) | (intros; omega), ?_⟩
    refine hK _ ?_
    clear hK K
    refine AWp.seq ?_
    -- region 4
    refine AWp.rseq E_ok [0, 1, 2, 3, 4, 5, 8, 9, 22, 31] fun K hK => ?_
    simp [encCal_eq, encRule_eq, encInts_eq, h22]
    repeat refine ⟨by first | omega | assumption | decide | (simp only [maxLen]; omega) | (intros; omega), ?_⟩
    refine hK _ ?_
    clear hK K
    refine AWp.cond rfl (fun h31 => ?_) (fun h31 => ?_)
    · try simp at h31
      -- region 5
      refine AWp.rseq E_ok [0, 1, 2, 3, 4, 5, 8, 9, 22, 31] fun K hK => ?_
      simp [encCal_eq, encRule_eq, encInts_eq, h22, h31]
      repeat refine ⟨by first | omega | assumption | decide | (simp only [maxLen]; omega) | (intros; omega), ?_⟩
      refine hK _ ?_
      clear hK K
      refine AWp.ret ?_
      repeat first | refine thenN ?_ | refine thenX ?_ | refine thenR ?_ | refine blockN ?_ | refine blockR ?_ | refine blockX ?_ | refine blockM rfl ?_
      first | (rw [lateR_bad h22]; simp [RetOk, RV]; done) | (rw [lateR_gr h22 h31]; simp [RetOk, RV]; done) | (rw [lateR_ok h22 h31]; simp [RetOk, RV])
    · try simp at h31
      refine AWp.skip ?_
      repeat first | refine thenN ?_ | refine thenX ?_ | refine thenR ?_ | refine blockN ?_ | refine blockR ?_ | refine blockX ?_ | refine blockM rfl ?_
      -- region 6
      refine AWp.rseq E_ok [0, 1, 2, 3, 4, 5, 8, 9, 22, 31] fun K hK => ?_
      simp [encCal_eq, encRule_eq, encInts_eq, h22, h31]
      repeat refine ⟨by first | omega | assumption | decide | (simp only [maxLen]; omega) | (intros; omega), ?_⟩
      refine hK _ ?_
      clear hK K
      refine AWp.ret ?_
      repeat first | refine thenN ?_ | refine thenX ?_ | refine thenR ?_ | refine blockN ?_ | refine blockR ?_ | refine blockX ?_ | refine blockM rfl ?_
      first | (rw [lateR_bad h22]; simp [RetOk, RV]; done) | (rw [lateR_gr h22 h31]; simp [RetOk, RV]; done) | (rw [lateR_ok h22 h31]; simp [RetOk, RV])
end Go.Proofs.Ytnmbnihbeggmgaa
