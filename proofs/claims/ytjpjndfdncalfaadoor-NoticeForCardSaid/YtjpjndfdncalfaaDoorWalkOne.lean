/-
  What the functions compute that the statement reaches: contracts, and the plain laws between them. Conditions stand at each theorem.
-/
import Derived.Test.YtjpjndfdncalfaaDoorEngThree
import Derived.Test.YtjpjndfdncalfaaDoorChecked
set_option linter.unusedVariables false
set_option linter.unusedSimpArgs false
/- The types of this seat, as the layer reads them. -/
set_option maxRecDepth 100000
namespace Go.Proofs.YtjpjndfdncalfaaDoor
open Go Ab

abbrev ti2 : TI := { key := .int .i64, size := 1, bytes := 8, zero := .int .i64 0, zc := [.int .i64 0], eq := [] }
abbrev ti3 : TI := { key := .int .i64, size := 1, bytes := 8, zero := .int .i64 0, zc := [.int .i64 0], eq := [] }
abbrev ti4 : TI := { key := .bool, size := 1, bytes := 1, zero := .bool false, zc := [.bool false], eq := [] }
abbrev ti5 : TI := { key := .int .u8, size := 1, bytes := 1, zero := .int .u8 0, zc := [.int .u8 0], eq := [] }
abbrev ti9 : TI := { key := .string, size := 1, bytes := 16, zero := .string ⟨#[]⟩, zc := [.str []], eq := [] }
abbrev ti12 : TI := { key := .int .u64, size := 1, bytes := 8, zero := .int .u64 0, zc := [.int .u64 0], eq := [] }
abbrev ti15 : TI := { key := .other, size := 1, bytes := 8, zero := .pointer none, zc := [.lit (.pointer none)], eq := [] }
abbrev ti16 : TI := { key := .other, size := 1, bytes := 8, zero := .pointer none, zc := [.lit (.pointer none)], eq := [] }
abbrev ti17 : TI := { key := .other, size := 1, bytes := 8, zero := .pointer none, zc := [.lit (.pointer none)], eq := [] }
abbrev ti21 : TI := { key := .int .i32, size := 1, bytes := 4, zero := .int .i32 0, zc := [.int .i32 0], eq := [] }
abbrev ti22 : TI := { key := .slice 136, size := 1, bytes := 24, zero := .slice none 0 0, zc := [.slice (.agg [.int .i64 0, .int .i64 0, .int .i64 0, .int .i64 0, .int .i64 0, .str [], .int .i64 0, .int .i64 0, .int .i64 0, .int .i64 0]) []], eq := [] }
abbrev ti23 : TI := { key := .slice 64, size := 1, bytes := 24, zero := .slice none 0 0, zc := [.slice (.agg [.int .i64 0, .int .i64 0, .int .i64 0, .int .i64 0, .bool false, .str []]) []], eq := [] }
abbrev ti24 : TI := { key := .slice 47, size := 1, bytes := 24, zero := .slice none 0 0, zc := [.slice (.agg [.int .i64 0, .int .i64 0, .int .i64 0, .int .i64 0, .int .i64 0, .bool false]) []], eq := [] }
abbrev ti25 : TI := { key := .slice 49, size := 1, bytes := 24, zero := .slice none 0 0, zc := [.slice (.agg [.int .i64 0, .int .i64 0, .int .i64 0, .int .i64 0, .int .i64 0, .int .i64 0, .int .i64 0, .int .i64 0, .int .i64 0, .int .i64 0, .int .i64 0]) []], eq := [] }
abbrev ti26 : TI := { key := .slice 138, size := 1, bytes := 24, zero := .slice none 0 0, zc := [.slice (.agg [.int .i64 0, .int .i64 0, .int .i64 0, .int .i64 0, .int .i64 0, .int .i64 0, .int .i64 0]) []], eq := [] }
abbrev ti27 : TI := { key := .slice 140, size := 1, bytes := 24, zero := .slice none 0 0, zc := [.slice (.agg [.int .i64 0, .int .i64 0, .int .i64 0, .int .i64 0, .int .i64 0, .int .i64 0, .int .i64 0, .int .i64 0, .int .i64 0, .int .i64 0, .int .i64 0, .int .i64 0, .int .i64 0]) []], eq := [] }
abbrev ti28 : TI := { key := .slice 3, size := 1, bytes := 24, zero := .slice none 0 0, zc := [.slice (.int .i64 0) []], eq := [] }
abbrev ti29 : TI := { key := .struct [(0, 3), (1, 28)], size := 2, bytes := 32, zero := .agg #[.int .i64 0, .slice none 0 0], zc := [.int .i64 0, .slice (.int .i64 0) []], eq := [] }
abbrev ti30 : TI := { key := .struct [(0, 3), (1, 28)], size := 2, bytes := 32, zero := .agg #[.int .i64 0, .slice none 0 0], zc := [.int .i64 0, .slice (.int .i64 0) []], eq := [] }
abbrev ti31 : TI := { key := .array 4 30, size := 8, bytes := 128, zero := .agg #[.int .i64 0, .slice none 0 0, .int .i64 0, .slice none 0 0, .int .i64 0, .slice none 0 0, .int .i64 0, .slice none 0 0], zc := [.int .i64 0, .slice (.int .i64 0) [], .int .i64 0, .slice (.int .i64 0) [], .int .i64 0, .slice (.int .i64 0) [], .int .i64 0, .slice (.int .i64 0) []], eq := [] }
abbrev ti32 : TI := { key := .slice 142, size := 1, bytes := 24, zero := .slice none 0 0, zc := [.slice (.agg [.int .i64 0, .int .i64 0, .int .i64 0, .int .i64 0, .int .i64 0]) []], eq := [] }
abbrev ti33 : TI := { key := .struct [(0, 3), (1, 22), (2, 23), (3, 24), (4, 25), (5, 26), (6, 27), (7, 31), (15, 32), (16, 3), (17, 3), (18, 4)], size := 19, bytes := 328, zero := .agg #[.int .i64 0, .slice none 0 0, .slice none 0 0, .slice none 0 0, .slice none 0 0, .slice none 0 0, .slice none 0 0, .int .i64 0, .slice none 0 0, .int .i64 0, .slice none 0 0, .int .i64 0, .slice none 0 0, .int .i64 0, .slice none 0 0, .slice none 0 0, .int .i64 0, .int .i64 0, .bool false], zc := [.int .i64 0, .slice (.agg [.int .i64 0, .int .i64 0, .int .i64 0, .int .i64 0, .int .i64 0, .str [], .int .i64 0, .int .i64 0, .int .i64 0, .int .i64 0]) [], .slice (.agg [.int .i64 0, .int .i64 0, .int .i64 0, .int .i64 0, .bool false, .str []]) [], .slice (.agg [.int .i64 0, .int .i64 0, .int .i64 0, .int .i64 0, .int .i64 0, .bool false]) [], .slice (.agg [.int .i64 0, .int .i64 0, .int .i64 0, .int .i64 0, .int .i64 0, .int .i64 0, .int .i64 0, .int .i64 0, .int .i64 0, .int .i64 0, .int .i64 0]) [], .slice (.agg [.int .i64 0, .int .i64 0, .int .i64 0, .int .i64 0, .int .i64 0, .int .i64 0, .int .i64 0]) [], .slice (.agg [.int .i64 0, .int .i64 0, .int .i64 0, .int .i64 0, .int .i64 0, .int .i64 0, .int .i64 0, .int .i64 0, .int .i64 0, .int .i64 0, .int .i64 0, .int .i64 0, .int .i64 0]) [], .int .i64 0, .slice (.int .i64 0) [], .int .i64 0, .slice (.int .i64 0) [], .int .i64 0, .slice (.int .i64 0) [], .int .i64 0, .slice (.int .i64 0) [], .slice (.agg [.int .i64 0, .int .i64 0, .int .i64 0, .int .i64 0, .int .i64 0]) [], .int .i64 0, .int .i64 0, .bool false], eq := [] }
abbrev ti34 : TI := { key := .struct [(0, 3), (1, 22), (2, 23), (3, 24), (4, 25), (5, 26), (6, 27), (7, 31), (15, 32), (16, 3), (17, 3), (18, 4)], size := 19, bytes := 328, zero := .agg #[.int .i64 0, .slice none 0 0, .slice none 0 0, .slice none 0 0, .slice none 0 0, .slice none 0 0, .slice none 0 0, .int .i64 0, .slice none 0 0, .int .i64 0, .slice none 0 0, .int .i64 0, .slice none 0 0, .int .i64 0, .slice none 0 0, .slice none 0 0, .int .i64 0, .int .i64 0, .bool false], zc := [.int .i64 0, .slice (.agg [.int .i64 0, .int .i64 0, .int .i64 0, .int .i64 0, .int .i64 0, .str [], .int .i64 0, .int .i64 0, .int .i64 0, .int .i64 0]) [], .slice (.agg [.int .i64 0, .int .i64 0, .int .i64 0, .int .i64 0, .bool false, .str []]) [], .slice (.agg [.int .i64 0, .int .i64 0, .int .i64 0, .int .i64 0, .int .i64 0, .bool false]) [], .slice (.agg [.int .i64 0, .int .i64 0, .int .i64 0, .int .i64 0, .int .i64 0, .int .i64 0, .int .i64 0, .int .i64 0, .int .i64 0, .int .i64 0, .int .i64 0]) [], .slice (.agg [.int .i64 0, .int .i64 0, .int .i64 0, .int .i64 0, .int .i64 0, .int .i64 0, .int .i64 0]) [], .slice (.agg [.int .i64 0, .int .i64 0, .int .i64 0, .int .i64 0, .int .i64 0, .int .i64 0, .int .i64 0, .int .i64 0, .int .i64 0, .int .i64 0, .int .i64 0, .int .i64 0, .int .i64 0]) [], .int .i64 0, .slice (.int .i64 0) [], .int .i64 0, .slice (.int .i64 0) [], .int .i64 0, .slice (.int .i64 0) [], .int .i64 0, .slice (.int .i64 0) [], .slice (.agg [.int .i64 0, .int .i64 0, .int .i64 0, .int .i64 0, .int .i64 0]) [], .int .i64 0, .int .i64 0, .bool false], eq := [] }
abbrev ti38 : TI := { key := .slice 42, size := 1, bytes := 24, zero := .slice none 0 0, zc := [.slice (.agg [.int .i64 0, .int .i64 0, .int .i64 0, .int .i64 0]) []], eq := [] }
abbrev ti41 : TI := { key := .struct [(0, 3), (1, 3), (2, 3), (3, 3)], size := 4, bytes := 32, zero := .agg #[.int .i64 0, .int .i64 0, .int .i64 0, .int .i64 0], zc := [.int .i64 0, .int .i64 0, .int .i64 0, .int .i64 0], eq := [0, 0, 0, 0] }
abbrev ti42 : TI := { key := .struct [(0, 3), (1, 3), (2, 3), (3, 3)], size := 4, bytes := 32, zero := .agg #[.int .i64 0, .int .i64 0, .int .i64 0, .int .i64 0], zc := [.int .i64 0, .int .i64 0, .int .i64 0, .int .i64 0], eq := [0, 0, 0, 0] }
abbrev ti46 : TI := { key := .struct [(0, 3), (1, 3), (2, 3), (3, 3), (4, 3), (5, 4)], size := 6, bytes := 48, zero := .agg #[.int .i64 0, .int .i64 0, .int .i64 0, .int .i64 0, .int .i64 0, .bool false], zc := [.int .i64 0, .int .i64 0, .int .i64 0, .int .i64 0, .int .i64 0, .bool false], eq := [0, 0, 0, 0, 0, 1] }
abbrev ti47 : TI := { key := .struct [(0, 3), (1, 3), (2, 3), (3, 3), (4, 3), (5, 4)], size := 6, bytes := 48, zero := .agg #[.int .i64 0, .int .i64 0, .int .i64 0, .int .i64 0, .int .i64 0, .bool false], zc := [.int .i64 0, .int .i64 0, .int .i64 0, .int .i64 0, .int .i64 0, .bool false], eq := [0, 0, 0, 0, 0, 1] }
abbrev ti48 : TI := { key := .struct [(0, 3), (1, 3), (2, 3), (3, 3), (4, 3), (5, 3), (6, 3), (7, 3), (8, 3), (9, 3), (10, 3)], size := 11, bytes := 88, zero := .agg #[.int .i64 0, .int .i64 0, .int .i64 0, .int .i64 0, .int .i64 0, .int .i64 0, .int .i64 0, .int .i64 0, .int .i64 0, .int .i64 0, .int .i64 0], zc := [.int .i64 0, .int .i64 0, .int .i64 0, .int .i64 0, .int .i64 0, .int .i64 0, .int .i64 0, .int .i64 0, .int .i64 0, .int .i64 0, .int .i64 0], eq := [0, 0, 0, 0, 0, 0, 0, 0, 0, 0, 0] }
abbrev ti49 : TI := { key := .struct [(0, 3), (1, 3), (2, 3), (3, 3), (4, 3), (5, 3), (6, 3), (7, 3), (8, 3), (9, 3), (10, 3)], size := 11, bytes := 88, zero := .agg #[.int .i64 0, .int .i64 0, .int .i64 0, .int .i64 0, .int .i64 0, .int .i64 0, .int .i64 0, .int .i64 0, .int .i64 0, .int .i64 0, .int .i64 0], zc := [.int .i64 0, .int .i64 0, .int .i64 0, .int .i64 0, .int .i64 0, .int .i64 0, .int .i64 0, .int .i64 0, .int .i64 0, .int .i64 0, .int .i64 0], eq := [0, 0, 0, 0, 0, 0, 0, 0, 0, 0, 0] }
abbrev ti50 : TI := { key := .array 5 3, size := 5, bytes := 40, zero := .agg #[.int .i64 0, .int .i64 0, .int .i64 0, .int .i64 0, .int .i64 0], zc := [.int .i64 0, .int .i64 0, .int .i64 0, .int .i64 0, .int .i64 0], eq := [0, 0, 0, 0, 0] }
abbrev ti63 : TI := { key := .struct [(0, 3), (1, 3), (2, 3), (3, 3), (4, 4), (5, 9)], size := 6, bytes := 56, zero := .agg #[.int .i64 0, .int .i64 0, .int .i64 0, .int .i64 0, .bool false, .string ⟨#[]⟩], zc := [.int .i64 0, .int .i64 0, .int .i64 0, .int .i64 0, .bool false, .str []], eq := [0, 0, 0, 0, 1, 2] }
abbrev ti64 : TI := { key := .struct [(0, 3), (1, 3), (2, 3), (3, 3), (4, 4), (5, 9)], size := 6, bytes := 56, zero := .agg #[.int .i64 0, .int .i64 0, .int .i64 0, .int .i64 0, .bool false, .string ⟨#[]⟩], zc := [.int .i64 0, .int .i64 0, .int .i64 0, .int .i64 0, .bool false, .str []], eq := [0, 0, 0, 0, 1, 2] }
abbrev ti74 : TI := { key := .int .i64, size := 1, bytes := 8, zero := .int .i64 0, zc := [.int .i64 0], eq := [] }
abbrev ti78 : TI := { key := .slice 5, size := 1, bytes := 24, zero := .slice none 0 0, zc := [.slice (.int .u8 0) []], eq := [] }
abbrev ti85 : TI := { key := .int .u64, size := 1, bytes := 8, zero := .int .u64 0, zc := [.int .u64 0], eq := [] }
abbrev ti86 : TI := { key := .array 24 5, size := 24, bytes := 24, zero := .agg #[.int .u8 0, .int .u8 0, .int .u8 0, .int .u8 0, .int .u8 0, .int .u8 0, .int .u8 0, .int .u8 0, .int .u8 0, .int .u8 0, .int .u8 0, .int .u8 0, .int .u8 0, .int .u8 0, .int .u8 0, .int .u8 0, .int .u8 0, .int .u8 0, .int .u8 0, .int .u8 0, .int .u8 0, .int .u8 0, .int .u8 0, .int .u8 0], zc := [.int .u8 0, .int .u8 0, .int .u8 0, .int .u8 0, .int .u8 0, .int .u8 0, .int .u8 0, .int .u8 0, .int .u8 0, .int .u8 0, .int .u8 0, .int .u8 0, .int .u8 0, .int .u8 0, .int .u8 0, .int .u8 0, .int .u8 0, .int .u8 0, .int .u8 0, .int .u8 0, .int .u8 0, .int .u8 0, .int .u8 0, .int .u8 0], eq := [] }
abbrev ti87 : TI := { key := .int .u64, size := 1, bytes := 8, zero := .int .u64 0, zc := [.int .u64 0], eq := [] }
abbrev ti92 : TI := { key := .array 12 3, size := 12, bytes := 96, zero := .agg #[.int .i64 0, .int .i64 0, .int .i64 0, .int .i64 0, .int .i64 0, .int .i64 0, .int .i64 0, .int .i64 0, .int .i64 0, .int .i64 0, .int .i64 0, .int .i64 0], zc := [.int .i64 0, .int .i64 0, .int .i64 0, .int .i64 0, .int .i64 0, .int .i64 0, .int .i64 0, .int .i64 0, .int .i64 0, .int .i64 0, .int .i64 0, .int .i64 0], eq := [0, 0, 0, 0, 0, 0, 0, 0, 0, 0, 0, 0] }
abbrev ti96 : TI := { key := .other, size := 1, bytes := 8, zero := .pointer none, zc := [.lit (.pointer none)], eq := [] }
abbrev ti97 : TI := { key := .struct [(0, 96), (1, 78)], size := 2, bytes := 32, zero := .agg #[.pointer none, .slice none 0 0], zc := [.lit (.pointer none), .slice (.int .u8 0) []], eq := [] }
abbrev ti98 : TI := { key := .struct [(0, 96), (1, 78)], size := 2, bytes := 32, zero := .agg #[.pointer none, .slice none 0 0], zc := [.lit (.pointer none), .slice (.int .u8 0) []], eq := [] }
abbrev ti106 : TI := { key := .array 20 87, size := 20, bytes := 160, zero := .agg #[.int .u64 0, .int .u64 0, .int .u64 0, .int .u64 0, .int .u64 0, .int .u64 0, .int .u64 0, .int .u64 0, .int .u64 0, .int .u64 0, .int .u64 0, .int .u64 0, .int .u64 0, .int .u64 0, .int .u64 0, .int .u64 0, .int .u64 0, .int .u64 0, .int .u64 0, .int .u64 0], zc := [.int .u64 0, .int .u64 0, .int .u64 0, .int .u64 0, .int .u64 0, .int .u64 0, .int .u64 0, .int .u64 0, .int .u64 0, .int .u64 0, .int .u64 0, .int .u64 0, .int .u64 0, .int .u64 0, .int .u64 0, .int .u64 0, .int .u64 0, .int .u64 0, .int .u64 0, .int .u64 0], eq := [] }
abbrev ti107 : TI := { key := .int .u32, size := 1, bytes := 4, zero := .int .u32 0, zc := [.int .u32 0], eq := [] }
abbrev ti108 : TI := { key := .array 65 5, size := 65, bytes := 65, zero := .agg #[.int .u8 0, .int .u8 0, .int .u8 0, .int .u8 0, .int .u8 0, .int .u8 0, .int .u8 0, .int .u8 0, .int .u8 0, .int .u8 0, .int .u8 0, .int .u8 0, .int .u8 0, .int .u8 0, .int .u8 0, .int .u8 0, .int .u8 0, .int .u8 0, .int .u8 0, .int .u8 0, .int .u8 0, .int .u8 0, .int .u8 0, .int .u8 0, .int .u8 0, .int .u8 0, .int .u8 0, .int .u8 0, .int .u8 0, .int .u8 0, .int .u8 0, .int .u8 0, .int .u8 0, .int .u8 0, .int .u8 0, .int .u8 0, .int .u8 0, .int .u8 0, .int .u8 0, .int .u8 0, .int .u8 0, .int .u8 0, .int .u8 0, .int .u8 0, .int .u8 0, .int .u8 0, .int .u8 0, .int .u8 0, .int .u8 0, .int .u8 0, .int .u8 0, .int .u8 0, .int .u8 0, .int .u8 0, .int .u8 0, .int .u8 0, .int .u8 0, .int .u8 0, .int .u8 0, .int .u8 0, .int .u8 0, .int .u8 0, .int .u8 0, .int .u8 0, .int .u8 0], zc := [.int .u8 0, .int .u8 0, .int .u8 0, .int .u8 0, .int .u8 0, .int .u8 0, .int .u8 0, .int .u8 0, .int .u8 0, .int .u8 0, .int .u8 0, .int .u8 0, .int .u8 0, .int .u8 0, .int .u8 0, .int .u8 0, .int .u8 0, .int .u8 0, .int .u8 0, .int .u8 0, .int .u8 0, .int .u8 0, .int .u8 0, .int .u8 0, .int .u8 0, .int .u8 0, .int .u8 0, .int .u8 0, .int .u8 0, .int .u8 0, .int .u8 0, .int .u8 0, .int .u8 0, .int .u8 0, .int .u8 0, .int .u8 0, .int .u8 0, .int .u8 0, .int .u8 0, .int .u8 0, .int .u8 0, .int .u8 0, .int .u8 0, .int .u8 0, .int .u8 0, .int .u8 0, .int .u8 0, .int .u8 0, .int .u8 0, .int .u8 0, .int .u8 0, .int .u8 0, .int .u8 0, .int .u8 0, .int .u8 0, .int .u8 0, .int .u8 0, .int .u8 0, .int .u8 0, .int .u8 0, .int .u8 0, .int .u8 0, .int .u8 0, .int .u8 0, .int .u8 0], eq := [] }
abbrev ti114 : TI := { key := .other, size := 1, bytes := 8, zero := .pointer none, zc := [.lit (.pointer none)], eq := [] }
abbrev ti119 : TI := { key := .array 32 5, size := 32, bytes := 32, zero := .agg #[.int .u8 0, .int .u8 0, .int .u8 0, .int .u8 0, .int .u8 0, .int .u8 0, .int .u8 0, .int .u8 0, .int .u8 0, .int .u8 0, .int .u8 0, .int .u8 0, .int .u8 0, .int .u8 0, .int .u8 0, .int .u8 0, .int .u8 0, .int .u8 0, .int .u8 0, .int .u8 0, .int .u8 0, .int .u8 0, .int .u8 0, .int .u8 0, .int .u8 0, .int .u8 0, .int .u8 0, .int .u8 0, .int .u8 0, .int .u8 0, .int .u8 0, .int .u8 0], zc := [.int .u8 0, .int .u8 0, .int .u8 0, .int .u8 0, .int .u8 0, .int .u8 0, .int .u8 0, .int .u8 0, .int .u8 0, .int .u8 0, .int .u8 0, .int .u8 0, .int .u8 0, .int .u8 0, .int .u8 0, .int .u8 0, .int .u8 0, .int .u8 0, .int .u8 0, .int .u8 0, .int .u8 0, .int .u8 0, .int .u8 0, .int .u8 0, .int .u8 0, .int .u8 0, .int .u8 0, .int .u8 0, .int .u8 0, .int .u8 0, .int .u8 0, .int .u8 0], eq := [] }
abbrev ti120 : TI := { key := .array 64 5, size := 64, bytes := 64, zero := .agg #[.int .u8 0, .int .u8 0, .int .u8 0, .int .u8 0, .int .u8 0, .int .u8 0, .int .u8 0, .int .u8 0, .int .u8 0, .int .u8 0, .int .u8 0, .int .u8 0, .int .u8 0, .int .u8 0, .int .u8 0, .int .u8 0, .int .u8 0, .int .u8 0, .int .u8 0, .int .u8 0, .int .u8 0, .int .u8 0, .int .u8 0, .int .u8 0, .int .u8 0, .int .u8 0, .int .u8 0, .int .u8 0, .int .u8 0, .int .u8 0, .int .u8 0, .int .u8 0, .int .u8 0, .int .u8 0, .int .u8 0, .int .u8 0, .int .u8 0, .int .u8 0, .int .u8 0, .int .u8 0, .int .u8 0, .int .u8 0, .int .u8 0, .int .u8 0, .int .u8 0, .int .u8 0, .int .u8 0, .int .u8 0, .int .u8 0, .int .u8 0, .int .u8 0, .int .u8 0, .int .u8 0, .int .u8 0, .int .u8 0, .int .u8 0, .int .u8 0, .int .u8 0, .int .u8 0, .int .u8 0, .int .u8 0, .int .u8 0, .int .u8 0, .int .u8 0], zc := [.int .u8 0, .int .u8 0, .int .u8 0, .int .u8 0, .int .u8 0, .int .u8 0, .int .u8 0, .int .u8 0, .int .u8 0, .int .u8 0, .int .u8 0, .int .u8 0, .int .u8 0, .int .u8 0, .int .u8 0, .int .u8 0, .int .u8 0, .int .u8 0, .int .u8 0, .int .u8 0, .int .u8 0, .int .u8 0, .int .u8 0, .int .u8 0, .int .u8 0, .int .u8 0, .int .u8 0, .int .u8 0, .int .u8 0, .int .u8 0, .int .u8 0, .int .u8 0, .int .u8 0, .int .u8 0, .int .u8 0, .int .u8 0, .int .u8 0, .int .u8 0, .int .u8 0, .int .u8 0, .int .u8 0, .int .u8 0, .int .u8 0, .int .u8 0, .int .u8 0, .int .u8 0, .int .u8 0, .int .u8 0, .int .u8 0, .int .u8 0, .int .u8 0, .int .u8 0, .int .u8 0, .int .u8 0, .int .u8 0, .int .u8 0, .int .u8 0, .int .u8 0, .int .u8 0, .int .u8 0, .int .u8 0, .int .u8 0, .int .u8 0, .int .u8 0], eq := [] }
abbrev ti133 : TI := { key := .struct [(0, 3), (1, 3), (2, 3), (3, 3)], size := 4, bytes := 32, zero := .agg #[.int .i64 0, .int .i64 0, .int .i64 0, .int .i64 0], zc := [.int .i64 0, .int .i64 0, .int .i64 0, .int .i64 0], eq := [0, 0, 0, 0] }
abbrev ti134 : TI := { key := .struct [(0, 3), (1, 3), (2, 3), (3, 3)], size := 4, bytes := 32, zero := .agg #[.int .i64 0, .int .i64 0, .int .i64 0, .int .i64 0], zc := [.int .i64 0, .int .i64 0, .int .i64 0, .int .i64 0], eq := [0, 0, 0, 0] }
abbrev ti135 : TI := { key := .struct [(0, 3), (1, 3), (2, 3), (3, 3), (4, 3), (5, 9), (6, 134)], size := 10, bytes := 88, zero := .agg #[.int .i64 0, .int .i64 0, .int .i64 0, .int .i64 0, .int .i64 0, .string ⟨#[]⟩, .int .i64 0, .int .i64 0, .int .i64 0, .int .i64 0], zc := [.int .i64 0, .int .i64 0, .int .i64 0, .int .i64 0, .int .i64 0, .str [], .int .i64 0, .int .i64 0, .int .i64 0, .int .i64 0], eq := [] }
abbrev ti136 : TI := { key := .struct [(0, 3), (1, 3), (2, 3), (3, 3), (4, 3), (5, 9), (6, 134)], size := 10, bytes := 88, zero := .agg #[.int .i64 0, .int .i64 0, .int .i64 0, .int .i64 0, .int .i64 0, .string ⟨#[]⟩, .int .i64 0, .int .i64 0, .int .i64 0, .int .i64 0], zc := [.int .i64 0, .int .i64 0, .int .i64 0, .int .i64 0, .int .i64 0, .str [], .int .i64 0, .int .i64 0, .int .i64 0, .int .i64 0], eq := [] }
abbrev ti137 : TI := { key := .struct [(0, 3), (1, 3), (2, 3), (3, 3), (4, 3), (5, 3), (6, 3)], size := 7, bytes := 56, zero := .agg #[.int .i64 0, .int .i64 0, .int .i64 0, .int .i64 0, .int .i64 0, .int .i64 0, .int .i64 0], zc := [.int .i64 0, .int .i64 0, .int .i64 0, .int .i64 0, .int .i64 0, .int .i64 0, .int .i64 0], eq := [0, 0, 0, 0, 0, 0, 0] }
abbrev ti138 : TI := { key := .struct [(0, 3), (1, 3), (2, 3), (3, 3), (4, 3), (5, 3), (6, 3)], size := 7, bytes := 56, zero := .agg #[.int .i64 0, .int .i64 0, .int .i64 0, .int .i64 0, .int .i64 0, .int .i64 0, .int .i64 0], zc := [.int .i64 0, .int .i64 0, .int .i64 0, .int .i64 0, .int .i64 0, .int .i64 0, .int .i64 0], eq := [0, 0, 0, 0, 0, 0, 0] }
abbrev ti139 : TI := { key := .struct [(0, 3), (1, 3), (2, 3), (3, 3), (4, 3), (5, 3), (6, 3), (7, 3), (8, 3), (9, 3), (10, 3), (11, 3), (12, 3)], size := 13, bytes := 104, zero := .agg #[.int .i64 0, .int .i64 0, .int .i64 0, .int .i64 0, .int .i64 0, .int .i64 0, .int .i64 0, .int .i64 0, .int .i64 0, .int .i64 0, .int .i64 0, .int .i64 0, .int .i64 0], zc := [.int .i64 0, .int .i64 0, .int .i64 0, .int .i64 0, .int .i64 0, .int .i64 0, .int .i64 0, .int .i64 0, .int .i64 0, .int .i64 0, .int .i64 0, .int .i64 0, .int .i64 0], eq := [0, 0, 0, 0, 0, 0, 0, 0, 0, 0, 0, 0, 0] }
abbrev ti140 : TI := { key := .struct [(0, 3), (1, 3), (2, 3), (3, 3), (4, 3), (5, 3), (6, 3), (7, 3), (8, 3), (9, 3), (10, 3), (11, 3), (12, 3)], size := 13, bytes := 104, zero := .agg #[.int .i64 0, .int .i64 0, .int .i64 0, .int .i64 0, .int .i64 0, .int .i64 0, .int .i64 0, .int .i64 0, .int .i64 0, .int .i64 0, .int .i64 0, .int .i64 0, .int .i64 0], zc := [.int .i64 0, .int .i64 0, .int .i64 0, .int .i64 0, .int .i64 0, .int .i64 0, .int .i64 0, .int .i64 0, .int .i64 0, .int .i64 0, .int .i64 0, .int .i64 0, .int .i64 0], eq := [0, 0, 0, 0, 0, 0, 0, 0, 0, 0, 0, 0, 0] }
abbrev ti141 : TI := { key := .struct [(0, 3), (1, 3), (2, 3), (3, 3), (4, 3)], size := 5, bytes := 40, zero := .agg #[.int .i64 0, .int .i64 0, .int .i64 0, .int .i64 0, .int .i64 0], zc := [.int .i64 0, .int .i64 0, .int .i64 0, .int .i64 0, .int .i64 0], eq := [0, 0, 0, 0, 0] }
abbrev ti142 : TI := { key := .struct [(0, 3), (1, 3), (2, 3), (3, 3), (4, 3)], size := 5, bytes := 40, zero := .agg #[.int .i64 0, .int .i64 0, .int .i64 0, .int .i64 0, .int .i64 0], zc := [.int .i64 0, .int .i64 0, .int .i64 0, .int .i64 0, .int .i64 0], eq := [0, 0, 0, 0, 0] }
def tab : TypeId → Option TI
  | 2 => some ti2
  | 3 => some ti3
  | 4 => some ti4
  | 5 => some ti5
  | 9 => some ti9
  | 12 => some ti12
  | 15 => some ti15
  | 16 => some ti16
  | 17 => some ti17
  | 21 => some ti21
  | 22 => some ti22
  | 23 => some ti23
  | 24 => some ti24
  | 25 => some ti25
  | 26 => some ti26
  | 27 => some ti27
  | 28 => some ti28
  | 29 => some ti29
  | 30 => some ti30
  | 31 => some ti31
  | 32 => some ti32
  | 33 => some ti33
  | 34 => some ti34
  | 38 => some ti38
  | 41 => some ti41
  | 42 => some ti42
  | 46 => some ti46
  | 47 => some ti47
  | 48 => some ti48
  | 49 => some ti49
  | 50 => some ti50
  | 63 => some ti63
  | 64 => some ti64
  | 74 => some ti74
  | 78 => some ti78
  | 85 => some ti85
  | 86 => some ti86
  | 87 => some ti87
  | 92 => some ti92
  | 96 => some ti96
  | 97 => some ti97
  | 98 => some ti98
  | 106 => some ti106
  | 107 => some ti107
  | 108 => some ti108
  | 114 => some ti114
  | 119 => some ti119
  | 120 => some ti120
  | 133 => some ti133
  | 134 => some ti134
  | 135 => some ti135
  | 136 => some ti136
  | 137 => some ti137
  | 138 => some ti138
  | 139 => some ti139
  | 140 => some ti140
  | 141 => some ti141
  | 142 => some ti142
  | _ => none
noncomputable def E : Env := { P := Tryd.prog, tab := tab }
theorem tyok2 : TyOk Tryd.prog 2 ti2 where
  key := by kernel_rfl
  info := by kernel_rfl
  zc := by kernel_rfl
  zok := by kernel_rfl
  len := by kernel_rfl
  one := fun _ => rfl
  zero_slice := fun _ h => by cases h
  eq := fun h => absurd rfl h
  eqA := fun h => absurd rfl h
theorem tyok3 : TyOk Tryd.prog 3 ti3 where
  key := by kernel_rfl
  info := by kernel_rfl
  zc := by kernel_rfl
  zok := by kernel_rfl
  len := by kernel_rfl
  one := fun _ => rfl
  zero_slice := fun _ h => by cases h
  eq := fun h => absurd rfl h
  eqA := fun h => absurd rfl h
theorem tyok4 : TyOk Tryd.prog 4 ti4 where
  key := by kernel_rfl
  info := by kernel_rfl
  zc := by kernel_rfl
  zok := by kernel_rfl
  len := by kernel_rfl
  one := fun _ => rfl
  zero_slice := fun _ h => by cases h
  eq := fun h => absurd rfl h
  eqA := fun h => absurd rfl h
theorem tyok5 : TyOk Tryd.prog 5 ti5 where
  key := by kernel_rfl
  info := by kernel_rfl
  zc := by kernel_rfl
  zok := by kernel_rfl
  len := by kernel_rfl
  one := fun _ => rfl
  zero_slice := fun _ h => by cases h
  eq := fun h => absurd rfl h
  eqA := fun h => absurd rfl h
theorem tyok9 : TyOk Tryd.prog 9 ti9 where
  key := by kernel_rfl
  info := by kernel_rfl
  zc := by kernel_rfl
  zok := by kernel_rfl
  len := by kernel_rfl
  one := fun _ => rfl
  zero_slice := fun _ h => by cases h
  eq := fun h => absurd rfl h
  eqA := fun h => absurd rfl h
theorem tyok12 : TyOk Tryd.prog 12 ti12 where
  key := by kernel_rfl
  info := by kernel_rfl
  zc := by kernel_rfl
  zok := by kernel_rfl
  len := by kernel_rfl
  one := fun _ => rfl
  zero_slice := fun _ h => by cases h
  eq := fun h => absurd rfl h
  eqA := fun h => absurd rfl h
theorem tyok15 : TyOk Tryd.prog 15 ti15 where
  key := by kernel_rfl
  info := by kernel_rfl
  zc := by kernel_rfl
  zok := by kernel_rfl
  len := by kernel_rfl
  one := fun _ => rfl
  zero_slice := fun _ h => by cases h
  eq := fun h => absurd rfl h
  eqA := fun h => absurd rfl h
theorem tyok16 : TyOk Tryd.prog 16 ti16 where
  key := by kernel_rfl
  info := by kernel_rfl
  zc := by kernel_rfl
  zok := by kernel_rfl
  len := by kernel_rfl
  one := fun _ => rfl
  zero_slice := fun _ h => by cases h
  eq := fun h => absurd rfl h
  eqA := fun h => absurd rfl h
theorem tyok17 : TyOk Tryd.prog 17 ti17 where
  key := by kernel_rfl
  info := by kernel_rfl
  zc := by kernel_rfl
  zok := by kernel_rfl
  len := by kernel_rfl
  one := fun _ => rfl
  zero_slice := fun _ h => by cases h
  eq := fun h => absurd rfl h
  eqA := fun h => absurd rfl h
theorem tyok21 : TyOk Tryd.prog 21 ti21 where
  key := by kernel_rfl
  info := by kernel_rfl
  zc := by kernel_rfl
  zok := by kernel_rfl
  len := by kernel_rfl
  one := fun _ => rfl
  zero_slice := fun _ h => by cases h
  eq := fun h => absurd rfl h
  eqA := fun h => absurd rfl h
theorem tyok22 : TyOk Tryd.prog 22 ti22 where
  key := by kernel_rfl
  info := by kernel_rfl
  zc := by kernel_rfl
  zok := by kernel_rfl
  len := by kernel_rfl
  one := fun _ => rfl
  zero_slice := fun _ _ => rfl
  eq := fun h => absurd rfl h
  eqA := fun h => absurd rfl h
theorem tyok23 : TyOk Tryd.prog 23 ti23 where
  key := by kernel_rfl
  info := by kernel_rfl
  zc := by kernel_rfl
  zok := by kernel_rfl
  len := by kernel_rfl
  one := fun _ => rfl
  zero_slice := fun _ _ => rfl
  eq := fun h => absurd rfl h
  eqA := fun h => absurd rfl h
theorem tyok24 : TyOk Tryd.prog 24 ti24 where
  key := by kernel_rfl
  info := by kernel_rfl
  zc := by kernel_rfl
  zok := by kernel_rfl
  len := by kernel_rfl
  one := fun _ => rfl
  zero_slice := fun _ _ => rfl
  eq := fun h => absurd rfl h
  eqA := fun h => absurd rfl h
theorem tyok25 : TyOk Tryd.prog 25 ti25 where
  key := by kernel_rfl
  info := by kernel_rfl
  zc := by kernel_rfl
  zok := by kernel_rfl
  len := by kernel_rfl
  one := fun _ => rfl
  zero_slice := fun _ _ => rfl
  eq := fun h => absurd rfl h
  eqA := fun h => absurd rfl h
theorem tyok26 : TyOk Tryd.prog 26 ti26 where
  key := by kernel_rfl
  info := by kernel_rfl
  zc := by kernel_rfl
  zok := by kernel_rfl
  len := by kernel_rfl
  one := fun _ => rfl
  zero_slice := fun _ _ => rfl
  eq := fun h => absurd rfl h
  eqA := fun h => absurd rfl h
theorem tyok27 : TyOk Tryd.prog 27 ti27 where
  key := by kernel_rfl
  info := by kernel_rfl
  zc := by kernel_rfl
  zok := by kernel_rfl
  len := by kernel_rfl
  one := fun _ => rfl
  zero_slice := fun _ _ => rfl
  eq := fun h => absurd rfl h
  eqA := fun h => absurd rfl h
theorem tyok28 : TyOk Tryd.prog 28 ti28 where
  key := by kernel_rfl
  info := by kernel_rfl
  zc := by kernel_rfl
  zok := by kernel_rfl
  len := by kernel_rfl
  one := fun _ => rfl
  zero_slice := fun _ _ => rfl
  eq := fun h => absurd rfl h
  eqA := fun h => absurd rfl h
theorem tyok29 : TyOk Tryd.prog 29 ti29 where
  key := by kernel_rfl
  info := by kernel_rfl
  zc := by kernel_rfl
  zok := by kernel_rfl
  len := by kernel_rfl
  one := fun h => by cases h
  zero_slice := fun _ h => by cases h
  eq := fun h => absurd rfl h
  eqA := fun h => absurd rfl h
theorem tyok30 : TyOk Tryd.prog 30 ti30 where
  key := by kernel_rfl
  info := by kernel_rfl
  zc := by kernel_rfl
  zok := by kernel_rfl
  len := by kernel_rfl
  one := fun h => by cases h
  zero_slice := fun _ h => by cases h
  eq := fun h => absurd rfl h
  eqA := fun h => absurd rfl h
theorem tyok31 : TyOk Tryd.prog 31 ti31 where
  key := by kernel_rfl
  info := by kernel_rfl
  zc := by kernel_rfl
  zok := by kernel_rfl
  len := by kernel_rfl
  one := fun h => by cases h
  zero_slice := fun _ h => by cases h
  eq := fun h => absurd rfl h
  eqA := fun h => absurd rfl h
theorem tyok32 : TyOk Tryd.prog 32 ti32 where
  key := by kernel_rfl
  info := by kernel_rfl
  zc := by kernel_rfl
  zok := by kernel_rfl
  len := by kernel_rfl
  one := fun _ => rfl
  zero_slice := fun _ _ => rfl
  eq := fun h => absurd rfl h
  eqA := fun h => absurd rfl h
theorem tyok33 : TyOk Tryd.prog 33 ti33 where
  key := by kernel_rfl
  info := by kernel_rfl
  zc := by kernel_rfl
  zok := by kernel_rfl
  len := by kernel_rfl
  one := fun h => by cases h
  zero_slice := fun _ h => by cases h
  eq := fun h => absurd rfl h
  eqA := fun h => absurd rfl h
theorem tyok34 : TyOk Tryd.prog 34 ti34 where
  key := by kernel_rfl
  info := by kernel_rfl
  zc := by kernel_rfl
  zok := by kernel_rfl
  len := by kernel_rfl
  one := fun h => by cases h
  zero_slice := fun _ h => by cases h
  eq := fun h => absurd rfl h
  eqA := fun h => absurd rfl h
theorem tyok38 : TyOk Tryd.prog 38 ti38 where
  key := by kernel_rfl
  info := by kernel_rfl
  zc := by kernel_rfl
  zok := by kernel_rfl
  len := by kernel_rfl
  one := fun _ => rfl
  zero_slice := fun _ _ => rfl
  eq := fun h => absurd rfl h
  eqA := fun h => absurd rfl h
theorem tyok41 : TyOk Tryd.prog 41 ti41 where
  key := by kernel_rfl
  info := by kernel_rfl
  zc := by kernel_rfl
  zok := by kernel_rfl
  len := by kernel_rfl
  one := fun h => by cases h
  zero_slice := fun _ h => by cases h
  eq := fun _ _ _ => ⟨by kernel_rfl, by kernel_rfl, by kernel_rfl⟩
  eqA := fun _ _ _ h => by cases h
theorem tyok42 : TyOk Tryd.prog 42 ti42 where
  key := by kernel_rfl
  info := by kernel_rfl
  zc := by kernel_rfl
  zok := by kernel_rfl
  len := by kernel_rfl
  one := fun h => by cases h
  zero_slice := fun _ h => by cases h
  eq := fun _ _ _ => ⟨by kernel_rfl, by kernel_rfl, by kernel_rfl⟩
  eqA := fun _ _ _ h => by cases h
theorem tyok46 : TyOk Tryd.prog 46 ti46 where
  key := by kernel_rfl
  info := by kernel_rfl
  zc := by kernel_rfl
  zok := by kernel_rfl
  len := by kernel_rfl
  one := fun h => by cases h
  zero_slice := fun _ h => by cases h
  eq := fun _ _ _ => ⟨by kernel_rfl, by kernel_rfl, by kernel_rfl⟩
  eqA := fun _ _ _ h => by cases h
theorem tyok47 : TyOk Tryd.prog 47 ti47 where
  key := by kernel_rfl
  info := by kernel_rfl
  zc := by kernel_rfl
  zok := by kernel_rfl
  len := by kernel_rfl
  one := fun h => by cases h
  zero_slice := fun _ h => by cases h
  eq := fun _ _ _ => ⟨by kernel_rfl, by kernel_rfl, by kernel_rfl⟩
  eqA := fun _ _ _ h => by cases h
theorem tyok48 : TyOk Tryd.prog 48 ti48 where
  key := by kernel_rfl
  info := by kernel_rfl
  zc := by kernel_rfl
  zok := by kernel_rfl
  len := by kernel_rfl
  one := fun h => by cases h
  zero_slice := fun _ h => by cases h
  eq := fun _ _ _ => ⟨by kernel_rfl, by kernel_rfl, by kernel_rfl⟩
  eqA := fun _ _ _ h => by cases h
theorem tyok49 : TyOk Tryd.prog 49 ti49 where
  key := by kernel_rfl
  info := by kernel_rfl
  zc := by kernel_rfl
  zok := by kernel_rfl
  len := by kernel_rfl
  one := fun h => by cases h
  zero_slice := fun _ h => by cases h
  eq := fun _ _ _ => ⟨by kernel_rfl, by kernel_rfl, by kernel_rfl⟩
  eqA := fun _ _ _ h => by cases h
theorem tyok50 : TyOk Tryd.prog 50 ti50 where
  key := by kernel_rfl
  info := by kernel_rfl
  zc := by kernel_rfl
  zok := by kernel_rfl
  len := by kernel_rfl
  one := fun h => by cases h
  zero_slice := fun _ h => by cases h
  eq := fun _ _ h => by cases h
  eqA := fun _ _ _ h => by cases h; exact ⟨by kernel_rfl, by kernel_rfl, by kernel_rfl, by kernel_rfl⟩
theorem tyok63 : TyOk Tryd.prog 63 ti63 where
  key := by kernel_rfl
  info := by kernel_rfl
  zc := by kernel_rfl
  zok := by kernel_rfl
  len := by kernel_rfl
  one := fun h => by cases h
  zero_slice := fun _ h => by cases h
  eq := fun _ _ _ => ⟨by kernel_rfl, by kernel_rfl, by kernel_rfl⟩
  eqA := fun _ _ _ h => by cases h
theorem tyok64 : TyOk Tryd.prog 64 ti64 where
  key := by kernel_rfl
  info := by kernel_rfl
  zc := by kernel_rfl
  zok := by kernel_rfl
  len := by kernel_rfl
  one := fun h => by cases h
  zero_slice := fun _ h => by cases h
  eq := fun _ _ _ => ⟨by kernel_rfl, by kernel_rfl, by kernel_rfl⟩
  eqA := fun _ _ _ h => by cases h
theorem tyok74 : TyOk Tryd.prog 74 ti74 where
  key := by kernel_rfl
  info := by kernel_rfl
  zc := by kernel_rfl
  zok := by kernel_rfl
  len := by kernel_rfl
  one := fun _ => rfl
  zero_slice := fun _ h => by cases h
  eq := fun h => absurd rfl h
  eqA := fun h => absurd rfl h
theorem tyok78 : TyOk Tryd.prog 78 ti78 where
  key := by kernel_rfl
  info := by kernel_rfl
  zc := by kernel_rfl
  zok := by kernel_rfl
  len := by kernel_rfl
  one := fun _ => rfl
  zero_slice := fun _ _ => rfl
  eq := fun h => absurd rfl h
  eqA := fun h => absurd rfl h
theorem tyok85 : TyOk Tryd.prog 85 ti85 where
  key := by kernel_rfl
  info := by kernel_rfl
  zc := by kernel_rfl
  zok := by kernel_rfl
  len := by kernel_rfl
  one := fun _ => rfl
  zero_slice := fun _ h => by cases h
  eq := fun h => absurd rfl h
  eqA := fun h => absurd rfl h
theorem tyok86 : TyOk Tryd.prog 86 ti86 where
  key := by kernel_rfl
  info := by kernel_rfl
  zc := by kernel_rfl
  zok := by kernel_rfl
  len := by kernel_rfl
  one := fun h => by cases h
  zero_slice := fun _ h => by cases h
  eq := fun h => absurd rfl h
  eqA := fun h => absurd rfl h
theorem tyok87 : TyOk Tryd.prog 87 ti87 where
  key := by kernel_rfl
  info := by kernel_rfl
  zc := by kernel_rfl
  zok := by kernel_rfl
  len := by kernel_rfl
  one := fun _ => rfl
  zero_slice := fun _ h => by cases h
  eq := fun h => absurd rfl h
  eqA := fun h => absurd rfl h
theorem tyok92 : TyOk Tryd.prog 92 ti92 where
  key := by kernel_rfl
  info := by kernel_rfl
  zc := by kernel_rfl
  zok := by kernel_rfl
  len := by kernel_rfl
  one := fun h => by cases h
  zero_slice := fun _ h => by cases h
  eq := fun _ _ h => by cases h
  eqA := fun _ _ _ h => by cases h; exact ⟨by kernel_rfl, by kernel_rfl, by kernel_rfl, by kernel_rfl⟩
theorem tyok96 : TyOk Tryd.prog 96 ti96 where
  key := by kernel_rfl
  info := by kernel_rfl
  zc := by kernel_rfl
  zok := by kernel_rfl
  len := by kernel_rfl
  one := fun _ => rfl
  zero_slice := fun _ h => by cases h
  eq := fun h => absurd rfl h
  eqA := fun h => absurd rfl h
theorem tyok97 : TyOk Tryd.prog 97 ti97 where
  key := by kernel_rfl
  info := by kernel_rfl
  zc := by kernel_rfl
  zok := by kernel_rfl
  len := by kernel_rfl
  one := fun h => by cases h
  zero_slice := fun _ h => by cases h
  eq := fun h => absurd rfl h
  eqA := fun h => absurd rfl h
theorem tyok98 : TyOk Tryd.prog 98 ti98 where
  key := by kernel_rfl
  info := by kernel_rfl
  zc := by kernel_rfl
  zok := by kernel_rfl
  len := by kernel_rfl
  one := fun h => by cases h
  zero_slice := fun _ h => by cases h
  eq := fun h => absurd rfl h
  eqA := fun h => absurd rfl h
theorem tyok106 : TyOk Tryd.prog 106 ti106 where
  key := by kernel_rfl
  info := by kernel_rfl
  zc := by kernel_rfl
  zok := by kernel_rfl
  len := by kernel_rfl
  one := fun h => by cases h
  zero_slice := fun _ h => by cases h
  eq := fun h => absurd rfl h
  eqA := fun h => absurd rfl h
theorem tyok107 : TyOk Tryd.prog 107 ti107 where
  key := by kernel_rfl
  info := by kernel_rfl
  zc := by kernel_rfl
  zok := by kernel_rfl
  len := by kernel_rfl
  one := fun _ => rfl
  zero_slice := fun _ h => by cases h
  eq := fun h => absurd rfl h
  eqA := fun h => absurd rfl h
theorem tyok108 : TyOk Tryd.prog 108 ti108 where
  key := by kernel_rfl
  info := by kernel_rfl
  zc := by kernel_rfl
  zok := by kernel_rfl
  len := by kernel_rfl
  one := fun h => by cases h
  zero_slice := fun _ h => by cases h
  eq := fun h => absurd rfl h
  eqA := fun h => absurd rfl h
theorem tyok114 : TyOk Tryd.prog 114 ti114 where
  key := by kernel_rfl
  info := by kernel_rfl
  zc := by kernel_rfl
  zok := by kernel_rfl
  len := by kernel_rfl
  one := fun _ => rfl
  zero_slice := fun _ h => by cases h
  eq := fun h => absurd rfl h
  eqA := fun h => absurd rfl h
theorem tyok119 : TyOk Tryd.prog 119 ti119 where
  key := by kernel_rfl
  info := by kernel_rfl
  zc := by kernel_rfl
  zok := by kernel_rfl
  len := by kernel_rfl
  one := fun h => by cases h
  zero_slice := fun _ h => by cases h
  eq := fun h => absurd rfl h
  eqA := fun h => absurd rfl h
theorem tyok120 : TyOk Tryd.prog 120 ti120 where
  key := by kernel_rfl
  info := by kernel_rfl
  zc := by kernel_rfl
  zok := by kernel_rfl
  len := by kernel_rfl
  one := fun h => by cases h
  zero_slice := fun _ h => by cases h
  eq := fun h => absurd rfl h
  eqA := fun h => absurd rfl h
theorem tyok133 : TyOk Tryd.prog 133 ti133 where
  key := by kernel_rfl
  info := by kernel_rfl
  zc := by kernel_rfl
  zok := by kernel_rfl
  len := by kernel_rfl
  one := fun h => by cases h
  zero_slice := fun _ h => by cases h
  eq := fun _ _ _ => ⟨by kernel_rfl, by kernel_rfl, by kernel_rfl⟩
  eqA := fun _ _ _ h => by cases h
theorem tyok134 : TyOk Tryd.prog 134 ti134 where
  key := by kernel_rfl
  info := by kernel_rfl
  zc := by kernel_rfl
  zok := by kernel_rfl
  len := by kernel_rfl
  one := fun h => by cases h
  zero_slice := fun _ h => by cases h
  eq := fun _ _ _ => ⟨by kernel_rfl, by kernel_rfl, by kernel_rfl⟩
  eqA := fun _ _ _ h => by cases h
theorem tyok135 : TyOk Tryd.prog 135 ti135 where
  key := by kernel_rfl
  info := by kernel_rfl
  zc := by kernel_rfl
  zok := by kernel_rfl
  len := by kernel_rfl
  one := fun h => by cases h
  zero_slice := fun _ h => by cases h
  eq := fun h => absurd rfl h
  eqA := fun h => absurd rfl h
theorem tyok136 : TyOk Tryd.prog 136 ti136 where
  key := by kernel_rfl
  info := by kernel_rfl
  zc := by kernel_rfl
  zok := by kernel_rfl
  len := by kernel_rfl
  one := fun h => by cases h
  zero_slice := fun _ h => by cases h
  eq := fun h => absurd rfl h
  eqA := fun h => absurd rfl h
theorem tyok137 : TyOk Tryd.prog 137 ti137 where
  key := by kernel_rfl
  info := by kernel_rfl
  zc := by kernel_rfl
  zok := by kernel_rfl
  len := by kernel_rfl
  one := fun h => by cases h
  zero_slice := fun _ h => by cases h
  eq := fun _ _ _ => ⟨by kernel_rfl, by kernel_rfl, by kernel_rfl⟩
  eqA := fun _ _ _ h => by cases h
theorem tyok138 : TyOk Tryd.prog 138 ti138 where
  key := by kernel_rfl
  info := by kernel_rfl
  zc := by kernel_rfl
  zok := by kernel_rfl
  len := by kernel_rfl
  one := fun h => by cases h
  zero_slice := fun _ h => by cases h
  eq := fun _ _ _ => ⟨by kernel_rfl, by kernel_rfl, by kernel_rfl⟩
  eqA := fun _ _ _ h => by cases h
theorem tyok139 : TyOk Tryd.prog 139 ti139 where
  key := by kernel_rfl
  info := by kernel_rfl
  zc := by kernel_rfl
  zok := by kernel_rfl
  len := by kernel_rfl
  one := fun h => by cases h
  zero_slice := fun _ h => by cases h
  eq := fun _ _ _ => ⟨by kernel_rfl, by kernel_rfl, by kernel_rfl⟩
  eqA := fun _ _ _ h => by cases h
theorem tyok140 : TyOk Tryd.prog 140 ti140 where
  key := by kernel_rfl
  info := by kernel_rfl
  zc := by kernel_rfl
  zok := by kernel_rfl
  len := by kernel_rfl
  one := fun h => by cases h
  zero_slice := fun _ h => by cases h
  eq := fun _ _ _ => ⟨by kernel_rfl, by kernel_rfl, by kernel_rfl⟩
  eqA := fun _ _ _ h => by cases h
theorem tyok141 : TyOk Tryd.prog 141 ti141 where
  key := by kernel_rfl
  info := by kernel_rfl
  zc := by kernel_rfl
  zok := by kernel_rfl
  len := by kernel_rfl
  one := fun h => by cases h
  zero_slice := fun _ h => by cases h
  eq := fun _ _ _ => ⟨by kernel_rfl, by kernel_rfl, by kernel_rfl⟩
  eqA := fun _ _ _ h => by cases h
theorem tyok142 : TyOk Tryd.prog 142 ti142 where
  key := by kernel_rfl
  info := by kernel_rfl
  zc := by kernel_rfl
  zok := by kernel_rfl
  len := by kernel_rfl
  one := fun h => by cases h
  zero_slice := fun _ h => by cases h
  eq := fun _ _ _ => ⟨by kernel_rfl, by kernel_rfl, by kernel_rfl⟩
  eqA := fun _ _ _ h => by cases h
theorem E_ok : E.Ok := by
  refine ⟨by kernel_rfl, fun t ti h => ?_⟩
  change tab t = some ti at h
  unfold tab at h
  split at h
  · cases h; exact tyok2
  · cases h; exact tyok3
  · cases h; exact tyok4
  · cases h; exact tyok5
  · cases h; exact tyok9
  · cases h; exact tyok12
  · cases h; exact tyok15
  · cases h; exact tyok16
  · cases h; exact tyok17
  · cases h; exact tyok21
  · cases h; exact tyok22
  · cases h; exact tyok23
  · cases h; exact tyok24
  · cases h; exact tyok25
  · cases h; exact tyok26
  · cases h; exact tyok27
  · cases h; exact tyok28
  · cases h; exact tyok29
  · cases h; exact tyok30
  · cases h; exact tyok31
  · cases h; exact tyok32
  · cases h; exact tyok33
  · cases h; exact tyok34
  · cases h; exact tyok38
  · cases h; exact tyok41
  · cases h; exact tyok42
  · cases h; exact tyok46
  · cases h; exact tyok47
  · cases h; exact tyok48
  · cases h; exact tyok49
  · cases h; exact tyok50
  · cases h; exact tyok63
  · cases h; exact tyok64
  · cases h; exact tyok74
  · cases h; exact tyok78
  · cases h; exact tyok85
  · cases h; exact tyok86
  · cases h; exact tyok87
  · cases h; exact tyok92
  · cases h; exact tyok96
  · cases h; exact tyok97
  · cases h; exact tyok98
  · cases h; exact tyok106
  · cases h; exact tyok107
  · cases h; exact tyok108
  · cases h; exact tyok114
  · cases h; exact tyok119
  · cases h; exact tyok120
  · cases h; exact tyok133
  · cases h; exact tyok134
  · cases h; exact tyok135
  · cases h; exact tyok136
  · cases h; exact tyok137
  · cases h; exact tyok138
  · cases h; exact tyok139
  · cases h; exact tyok140
  · cases h; exact tyok141
  · cases h; exact tyok142
  · cases h
@[simp] theorem tab2 : E.tab 2 = some { key := .int .i64, size := 1, bytes := 8, zero := .int .i64 0, zc := [.int .i64 0], eq := [] } := rfl
@[simp] theorem tab3 : E.tab 3 = some { key := .int .i64, size := 1, bytes := 8, zero := .int .i64 0, zc := [.int .i64 0], eq := [] } := rfl
@[simp] theorem tab4 : E.tab 4 = some { key := .bool, size := 1, bytes := 1, zero := .bool false, zc := [.bool false], eq := [] } := rfl
@[simp] theorem tab5 : E.tab 5 = some { key := .int .u8, size := 1, bytes := 1, zero := .int .u8 0, zc := [.int .u8 0], eq := [] } := rfl
@[simp] theorem tab9 : E.tab 9 = some { key := .string, size := 1, bytes := 16, zero := .string ⟨#[]⟩, zc := [.str []], eq := [] } := rfl
@[simp] theorem tab12 : E.tab 12 = some { key := .int .u64, size := 1, bytes := 8, zero := .int .u64 0, zc := [.int .u64 0], eq := [] } := rfl
@[simp] theorem tab15 : E.tab 15 = some { key := .other, size := 1, bytes := 8, zero := .pointer none, zc := [.lit (.pointer none)], eq := [] } := rfl
@[simp] theorem tab16 : E.tab 16 = some { key := .other, size := 1, bytes := 8, zero := .pointer none, zc := [.lit (.pointer none)], eq := [] } := rfl
@[simp] theorem tab17 : E.tab 17 = some { key := .other, size := 1, bytes := 8, zero := .pointer none, zc := [.lit (.pointer none)], eq := [] } := rfl
@[simp] theorem tab21 : E.tab 21 = some { key := .int .i32, size := 1, bytes := 4, zero := .int .i32 0, zc := [.int .i32 0], eq := [] } := rfl
@[simp] theorem tab22 : E.tab 22 = some { key := .slice 136, size := 1, bytes := 24, zero := .slice none 0 0, zc := [.slice (.agg [.int .i64 0, .int .i64 0, .int .i64 0, .int .i64 0, .int .i64 0, .str [], .int .i64 0, .int .i64 0, .int .i64 0, .int .i64 0]) []], eq := [] } := rfl
@[simp] theorem tab23 : E.tab 23 = some { key := .slice 64, size := 1, bytes := 24, zero := .slice none 0 0, zc := [.slice (.agg [.int .i64 0, .int .i64 0, .int .i64 0, .int .i64 0, .bool false, .str []]) []], eq := [] } := rfl
@[simp] theorem tab24 : E.tab 24 = some { key := .slice 47, size := 1, bytes := 24, zero := .slice none 0 0, zc := [.slice (.agg [.int .i64 0, .int .i64 0, .int .i64 0, .int .i64 0, .int .i64 0, .bool false]) []], eq := [] } := rfl
@[simp] theorem tab25 : E.tab 25 = some { key := .slice 49, size := 1, bytes := 24, zero := .slice none 0 0, zc := [.slice (.agg [.int .i64 0, .int .i64 0, .int .i64 0, .int .i64 0, .int .i64 0, .int .i64 0, .int .i64 0, .int .i64 0, .int .i64 0, .int .i64 0, .int .i64 0]) []], eq := [] } := rfl
@[simp] theorem tab26 : E.tab 26 = some { key := .slice 138, size := 1, bytes := 24, zero := .slice none 0 0, zc := [.slice (.agg [.int .i64 0, .int .i64 0, .int .i64 0, .int .i64 0, .int .i64 0, .int .i64 0, .int .i64 0]) []], eq := [] } := rfl
@[simp] theorem tab27 : E.tab 27 = some { key := .slice 140, size := 1, bytes := 24, zero := .slice none 0 0, zc := [.slice (.agg [.int .i64 0, .int .i64 0, .int .i64 0, .int .i64 0, .int .i64 0, .int .i64 0, .int .i64 0, .int .i64 0, .int .i64 0, .int .i64 0, .int .i64 0, .int .i64 0, .int .i64 0]) []], eq := [] } := rfl
@[simp] theorem tab28 : E.tab 28 = some { key := .slice 3, size := 1, bytes := 24, zero := .slice none 0 0, zc := [.slice (.int .i64 0) []], eq := [] } := rfl
@[simp] theorem tab29 : E.tab 29 = some { key := .struct [(0, 3), (1, 28)], size := 2, bytes := 32, zero := .agg #[.int .i64 0, .slice none 0 0], zc := [.int .i64 0, .slice (.int .i64 0) []], eq := [] } := rfl
@[simp] theorem tab30 : E.tab 30 = some { key := .struct [(0, 3), (1, 28)], size := 2, bytes := 32, zero := .agg #[.int .i64 0, .slice none 0 0], zc := [.int .i64 0, .slice (.int .i64 0) []], eq := [] } := rfl
@[simp] theorem tab31 : E.tab 31 = some { key := .array 4 30, size := 8, bytes := 128, zero := .agg #[.int .i64 0, .slice none 0 0, .int .i64 0, .slice none 0 0, .int .i64 0, .slice none 0 0, .int .i64 0, .slice none 0 0], zc := [.int .i64 0, .slice (.int .i64 0) [], .int .i64 0, .slice (.int .i64 0) [], .int .i64 0, .slice (.int .i64 0) [], .int .i64 0, .slice (.int .i64 0) []], eq := [] } := rfl
@[simp] theorem tab32 : E.tab 32 = some { key := .slice 142, size := 1, bytes := 24, zero := .slice none 0 0, zc := [.slice (.agg [.int .i64 0, .int .i64 0, .int .i64 0, .int .i64 0, .int .i64 0]) []], eq := [] } := rfl
@[simp] theorem tab33 : E.tab 33 = some { key := .struct [(0, 3), (1, 22), (2, 23), (3, 24), (4, 25), (5, 26), (6, 27), (7, 31), (15, 32), (16, 3), (17, 3), (18, 4)], size := 19, bytes := 328, zero := .agg #[.int .i64 0, .slice none 0 0, .slice none 0 0, .slice none 0 0, .slice none 0 0, .slice none 0 0, .slice none 0 0, .int .i64 0, .slice none 0 0, .int .i64 0, .slice none 0 0, .int .i64 0, .slice none 0 0, .int .i64 0, .slice none 0 0, .slice none 0 0, .int .i64 0, .int .i64 0, .bool false], zc := [.int .i64 0, .slice (.agg [.int .i64 0, .int .i64 0, .int .i64 0, .int .i64 0, .int .i64 0, .str [], .int .i64 0, .int .i64 0, .int .i64 0, .int .i64 0]) [], .slice (.agg [.int .i64 0, .int .i64 0, .int .i64 0, .int .i64 0, .bool false, .str []]) [], .slice (.agg [.int .i64 0, .int .i64 0, .int .i64 0, .int .i64 0, .int .i64 0, .bool false]) [], .slice (.agg [.int .i64 0, .int .i64 0, .int .i64 0, .int .i64 0, .int .i64 0, .int .i64 0, .int .i64 0, .int .i64 0, .int .i64 0, .int .i64 0, .int .i64 0]) [], .slice (.agg [.int .i64 0, .int .i64 0, .int .i64 0, .int .i64 0, .int .i64 0, .int .i64 0, .int .i64 0]) [], .slice (.agg [.int .i64 0, .int .i64 0, .int .i64 0, .int .i64 0, .int .i64 0, .int .i64 0, .int .i64 0, .int .i64 0, .int .i64 0, .int .i64 0, .int .i64 0, .int .i64 0, .int .i64 0]) [], .int .i64 0, .slice (.int .i64 0) [], .int .i64 0, .slice (.int .i64 0) [], .int .i64 0, .slice (.int .i64 0) [], .int .i64 0, .slice (.int .i64 0) [], .slice (.agg [.int .i64 0, .int .i64 0, .int .i64 0, .int .i64 0, .int .i64 0]) [], .int .i64 0, .int .i64 0, .bool false], eq := [] } := rfl
@[simp] theorem tab34 : E.tab 34 = some { key := .struct [(0, 3), (1, 22), (2, 23), (3, 24), (4, 25), (5, 26), (6, 27), (7, 31), (15, 32), (16, 3), (17, 3), (18, 4)], size := 19, bytes := 328, zero := .agg #[.int .i64 0, .slice none 0 0, .slice none 0 0, .slice none 0 0, .slice none 0 0, .slice none 0 0, .slice none 0 0, .int .i64 0, .slice none 0 0, .int .i64 0, .slice none 0 0, .int .i64 0, .slice none 0 0, .int .i64 0, .slice none 0 0, .slice none 0 0, .int .i64 0, .int .i64 0, .bool false], zc := [.int .i64 0, .slice (.agg [.int .i64 0, .int .i64 0, .int .i64 0, .int .i64 0, .int .i64 0, .str [], .int .i64 0, .int .i64 0, .int .i64 0, .int .i64 0]) [], .slice (.agg [.int .i64 0, .int .i64 0, .int .i64 0, .int .i64 0, .bool false, .str []]) [], .slice (.agg [.int .i64 0, .int .i64 0, .int .i64 0, .int .i64 0, .int .i64 0, .bool false]) [], .slice (.agg [.int .i64 0, .int .i64 0, .int .i64 0, .int .i64 0, .int .i64 0, .int .i64 0, .int .i64 0, .int .i64 0, .int .i64 0, .int .i64 0, .int .i64 0]) [], .slice (.agg [.int .i64 0, .int .i64 0, .int .i64 0, .int .i64 0, .int .i64 0, .int .i64 0, .int .i64 0]) [], .slice (.agg [.int .i64 0, .int .i64 0, .int .i64 0, .int .i64 0, .int .i64 0, .int .i64 0, .int .i64 0, .int .i64 0, .int .i64 0, .int .i64 0, .int .i64 0, .int .i64 0, .int .i64 0]) [], .int .i64 0, .slice (.int .i64 0) [], .int .i64 0, .slice (.int .i64 0) [], .int .i64 0, .slice (.int .i64 0) [], .int .i64 0, .slice (.int .i64 0) [], .slice (.agg [.int .i64 0, .int .i64 0, .int .i64 0, .int .i64 0, .int .i64 0]) [], .int .i64 0, .int .i64 0, .bool false], eq := [] } := rfl
@[simp] theorem tab38 : E.tab 38 = some { key := .slice 42, size := 1, bytes := 24, zero := .slice none 0 0, zc := [.slice (.agg [.int .i64 0, .int .i64 0, .int .i64 0, .int .i64 0]) []], eq := [] } := rfl
@[simp] theorem tab41 : E.tab 41 = some { key := .struct [(0, 3), (1, 3), (2, 3), (3, 3)], size := 4, bytes := 32, zero := .agg #[.int .i64 0, .int .i64 0, .int .i64 0, .int .i64 0], zc := [.int .i64 0, .int .i64 0, .int .i64 0, .int .i64 0], eq := [0, 0, 0, 0] } := rfl
@[simp] theorem tab42 : E.tab 42 = some { key := .struct [(0, 3), (1, 3), (2, 3), (3, 3)], size := 4, bytes := 32, zero := .agg #[.int .i64 0, .int .i64 0, .int .i64 0, .int .i64 0], zc := [.int .i64 0, .int .i64 0, .int .i64 0, .int .i64 0], eq := [0, 0, 0, 0] } := rfl
@[simp] theorem tab46 : E.tab 46 = some { key := .struct [(0, 3), (1, 3), (2, 3), (3, 3), (4, 3), (5, 4)], size := 6, bytes := 48, zero := .agg #[.int .i64 0, .int .i64 0, .int .i64 0, .int .i64 0, .int .i64 0, .bool false], zc := [.int .i64 0, .int .i64 0, .int .i64 0, .int .i64 0, .int .i64 0, .bool false], eq := [0, 0, 0, 0, 0, 1] } := rfl
@[simp] theorem tab47 : E.tab 47 = some { key := .struct [(0, 3), (1, 3), (2, 3), (3, 3), (4, 3), (5, 4)], size := 6, bytes := 48, zero := .agg #[.int .i64 0, .int .i64 0, .int .i64 0, .int .i64 0, .int .i64 0, .bool false], zc := [.int .i64 0, .int .i64 0, .int .i64 0, .int .i64 0, .int .i64 0, .bool false], eq := [0, 0, 0, 0, 0, 1] } := rfl
@[simp] theorem tab48 : E.tab 48 = some { key := .struct [(0, 3), (1, 3), (2, 3), (3, 3), (4, 3), (5, 3), (6, 3), (7, 3), (8, 3), (9, 3), (10, 3)], size := 11, bytes := 88, zero := .agg #[.int .i64 0, .int .i64 0, .int .i64 0, .int .i64 0, .int .i64 0, .int .i64 0, .int .i64 0, .int .i64 0, .int .i64 0, .int .i64 0, .int .i64 0], zc := [.int .i64 0, .int .i64 0, .int .i64 0, .int .i64 0, .int .i64 0, .int .i64 0, .int .i64 0, .int .i64 0, .int .i64 0, .int .i64 0, .int .i64 0], eq := [0, 0, 0, 0, 0, 0, 0, 0, 0, 0, 0] } := rfl
@[simp] theorem tab49 : E.tab 49 = some { key := .struct [(0, 3), (1, 3), (2, 3), (3, 3), (4, 3), (5, 3), (6, 3), (7, 3), (8, 3), (9, 3), (10, 3)], size := 11, bytes := 88, zero := .agg #[.int .i64 0, .int .i64 0, .int .i64 0, .int .i64 0, .int .i64 0, .int .i64 0, .int .i64 0, .int .i64 0, .int .i64 0, .int .i64 0, .int .i64 0], zc := [.int .i64 0, .int .i64 0, .int .i64 0, .int .i64 0, .int .i64 0, .int .i64 0, .int .i64 0, .int .i64 0, .int .i64 0, .int .i64 0, .int .i64 0], eq := [0, 0, 0, 0, 0, 0, 0, 0, 0, 0, 0] } := rfl
@[simp] theorem tab50 : E.tab 50 = some { key := .array 5 3, size := 5, bytes := 40, zero := .agg #[.int .i64 0, .int .i64 0, .int .i64 0, .int .i64 0, .int .i64 0], zc := [.int .i64 0, .int .i64 0, .int .i64 0, .int .i64 0, .int .i64 0], eq := [0, 0, 0, 0, 0] } := rfl
@[simp] theorem tab63 : E.tab 63 = some { key := .struct [(0, 3), (1, 3), (2, 3), (3, 3), (4, 4), (5, 9)], size := 6, bytes := 56, zero := .agg #[.int .i64 0, .int .i64 0, .int .i64 0, .int .i64 0, .bool false, .string ⟨#[]⟩], zc := [.int .i64 0, .int .i64 0, .int .i64 0, .int .i64 0, .bool false, .str []], eq := [0, 0, 0, 0, 1, 2] } := rfl
@[simp] theorem tab64 : E.tab 64 = some { key := .struct [(0, 3), (1, 3), (2, 3), (3, 3), (4, 4), (5, 9)], size := 6, bytes := 56, zero := .agg #[.int .i64 0, .int .i64 0, .int .i64 0, .int .i64 0, .bool false, .string ⟨#[]⟩], zc := [.int .i64 0, .int .i64 0, .int .i64 0, .int .i64 0, .bool false, .str []], eq := [0, 0, 0, 0, 1, 2] } := rfl
@[simp] theorem tab74 : E.tab 74 = some { key := .int .i64, size := 1, bytes := 8, zero := .int .i64 0, zc := [.int .i64 0], eq := [] } := rfl
@[simp] theorem tab78 : E.tab 78 = some { key := .slice 5, size := 1, bytes := 24, zero := .slice none 0 0, zc := [.slice (.int .u8 0) []], eq := [] } := rfl
@[simp] theorem tab85 : E.tab 85 = some { key := .int .u64, size := 1, bytes := 8, zero := .int .u64 0, zc := [.int .u64 0], eq := [] } := rfl
@[simp] theorem tab86 : E.tab 86 = some { key := .array 24 5, size := 24, bytes := 24, zero := .agg #[.int .u8 0, .int .u8 0, .int .u8 0, .int .u8 0, .int .u8 0, .int .u8 0, .int .u8 0, .int .u8 0, .int .u8 0, .int .u8 0, .int .u8 0, .int .u8 0, .int .u8 0, .int .u8 0, .int .u8 0, .int .u8 0, .int .u8 0, .int .u8 0, .int .u8 0, .int .u8 0, .int .u8 0, .int .u8 0, .int .u8 0, .int .u8 0], zc := [.int .u8 0, .int .u8 0, .int .u8 0, .int .u8 0, .int .u8 0, .int .u8 0, .int .u8 0, .int .u8 0, .int .u8 0, .int .u8 0, .int .u8 0, .int .u8 0, .int .u8 0, .int .u8 0, .int .u8 0, .int .u8 0, .int .u8 0, .int .u8 0, .int .u8 0, .int .u8 0, .int .u8 0, .int .u8 0, .int .u8 0, .int .u8 0], eq := [] } := rfl
@[simp] theorem tab87 : E.tab 87 = some { key := .int .u64, size := 1, bytes := 8, zero := .int .u64 0, zc := [.int .u64 0], eq := [] } := rfl
@[simp] theorem tab92 : E.tab 92 = some { key := .array 12 3, size := 12, bytes := 96, zero := .agg #[.int .i64 0, .int .i64 0, .int .i64 0, .int .i64 0, .int .i64 0, .int .i64 0, .int .i64 0, .int .i64 0, .int .i64 0, .int .i64 0, .int .i64 0, .int .i64 0], zc := [.int .i64 0, .int .i64 0, .int .i64 0, .int .i64 0, .int .i64 0, .int .i64 0, .int .i64 0, .int .i64 0, .int .i64 0, .int .i64 0, .int .i64 0, .int .i64 0], eq := [0, 0, 0, 0, 0, 0, 0, 0, 0, 0, 0, 0] } := rfl
@[simp] theorem tab96 : E.tab 96 = some { key := .other, size := 1, bytes := 8, zero := .pointer none, zc := [.lit (.pointer none)], eq := [] } := rfl
@[simp] theorem tab97 : E.tab 97 = some { key := .struct [(0, 96), (1, 78)], size := 2, bytes := 32, zero := .agg #[.pointer none, .slice none 0 0], zc := [.lit (.pointer none), .slice (.int .u8 0) []], eq := [] } := rfl
@[simp] theorem tab98 : E.tab 98 = some { key := .struct [(0, 96), (1, 78)], size := 2, bytes := 32, zero := .agg #[.pointer none, .slice none 0 0], zc := [.lit (.pointer none), .slice (.int .u8 0) []], eq := [] } := rfl
@[simp] theorem tab106 : E.tab 106 = some { key := .array 20 87, size := 20, bytes := 160, zero := .agg #[.int .u64 0, .int .u64 0, .int .u64 0, .int .u64 0, .int .u64 0, .int .u64 0, .int .u64 0, .int .u64 0, .int .u64 0, .int .u64 0, .int .u64 0, .int .u64 0, .int .u64 0, .int .u64 0, .int .u64 0, .int .u64 0, .int .u64 0, .int .u64 0, .int .u64 0, .int .u64 0], zc := [.int .u64 0, .int .u64 0, .int .u64 0, .int .u64 0, .int .u64 0, .int .u64 0, .int .u64 0, .int .u64 0, .int .u64 0, .int .u64 0, .int .u64 0, .int .u64 0, .int .u64 0, .int .u64 0, .int .u64 0, .int .u64 0, .int .u64 0, .int .u64 0, .int .u64 0, .int .u64 0], eq := [] } := rfl
@[simp] theorem tab107 : E.tab 107 = some { key := .int .u32, size := 1, bytes := 4, zero := .int .u32 0, zc := [.int .u32 0], eq := [] } := rfl
@[simp] theorem tab108 : E.tab 108 = some { key := .array 65 5, size := 65, bytes := 65, zero := .agg #[.int .u8 0, .int .u8 0, .int .u8 0, .int .u8 0, .int .u8 0, .int .u8 0, .int .u8 0, .int .u8 0, .int .u8 0, .int .u8 0, .int .u8 0, .int .u8 0, .int .u8 0, .int .u8 0, .int .u8 0, .int .u8 0, .int .u8 0, .int .u8 0, .int .u8 0, .int .u8 0, .int .u8 0, .int .u8 0, .int .u8 0, .int .u8 0, .int .u8 0, .int .u8 0, .int .u8 0, .int .u8 0, .int .u8 0, .int .u8 0, .int .u8 0, .int .u8 0, .int .u8 0, .int .u8 0, .int .u8 0, .int .u8 0, .int .u8 0, .int .u8 0, .int .u8 0, .int .u8 0, .int .u8 0, .int .u8 0, .int .u8 0, .int .u8 0, .int .u8 0, .int .u8 0, .int .u8 0, .int .u8 0, .int .u8 0, .int .u8 0, .int .u8 0, .int .u8 0, .int .u8 0, .int .u8 0, .int .u8 0, .int .u8 0, .int .u8 0, .int .u8 0, .int .u8 0, .int .u8 0, .int .u8 0, .int .u8 0, .int .u8 0, .int .u8 0, .int .u8 0], zc := [.int .u8 0, .int .u8 0, .int .u8 0, .int .u8 0, .int .u8 0, .int .u8 0, .int .u8 0, .int .u8 0, .int .u8 0, .int .u8 0, .int .u8 0, .int .u8 0, .int .u8 0, .int .u8 0, .int .u8 0, .int .u8 0, .int .u8 0, .int .u8 0, .int .u8 0, .int .u8 0, .int .u8 0, .int .u8 0, .int .u8 0, .int .u8 0, .int .u8 0, .int .u8 0, .int .u8 0, .int .u8 0, .int .u8 0, .int .u8 0, .int .u8 0, .int .u8 0, .int .u8 0, .int .u8 0, .int .u8 0, .int .u8 0, .int .u8 0, .int .u8 0, .int .u8 0, .int .u8 0, .int .u8 0, .int .u8 0, .int .u8 0, .int .u8 0, .int .u8 0, .int .u8 0, .int .u8 0, .int .u8 0, .int .u8 0, .int .u8 0, .int .u8 0, .int .u8 0, .int .u8 0, .int .u8 0, .int .u8 0, .int .u8 0, .int .u8 0, .int .u8 0, .int .u8 0, .int .u8 0, .int .u8 0, .int .u8 0, .int .u8 0, .int .u8 0, .int .u8 0], eq := [] } := rfl
@[simp] theorem tab114 : E.tab 114 = some { key := .other, size := 1, bytes := 8, zero := .pointer none, zc := [.lit (.pointer none)], eq := [] } := rfl
@[simp] theorem tab119 : E.tab 119 = some { key := .array 32 5, size := 32, bytes := 32, zero := .agg #[.int .u8 0, .int .u8 0, .int .u8 0, .int .u8 0, .int .u8 0, .int .u8 0, .int .u8 0, .int .u8 0, .int .u8 0, .int .u8 0, .int .u8 0, .int .u8 0, .int .u8 0, .int .u8 0, .int .u8 0, .int .u8 0, .int .u8 0, .int .u8 0, .int .u8 0, .int .u8 0, .int .u8 0, .int .u8 0, .int .u8 0, .int .u8 0, .int .u8 0, .int .u8 0, .int .u8 0, .int .u8 0, .int .u8 0, .int .u8 0, .int .u8 0, .int .u8 0], zc := [.int .u8 0, .int .u8 0, .int .u8 0, .int .u8 0, .int .u8 0, .int .u8 0, .int .u8 0, .int .u8 0, .int .u8 0, .int .u8 0, .int .u8 0, .int .u8 0, .int .u8 0, .int .u8 0, .int .u8 0, .int .u8 0, .int .u8 0, .int .u8 0, .int .u8 0, .int .u8 0, .int .u8 0, .int .u8 0, .int .u8 0, .int .u8 0, .int .u8 0, .int .u8 0, .int .u8 0, .int .u8 0, .int .u8 0, .int .u8 0, .int .u8 0, .int .u8 0], eq := [] } := rfl
@[simp] theorem tab120 : E.tab 120 = some { key := .array 64 5, size := 64, bytes := 64, zero := .agg #[.int .u8 0, .int .u8 0, .int .u8 0, .int .u8 0, .int .u8 0, .int .u8 0, .int .u8 0, .int .u8 0, .int .u8 0, .int .u8 0, .int .u8 0, .int .u8 0, .int .u8 0, .int .u8 0, .int .u8 0, .int .u8 0, .int .u8 0, .int .u8 0, .int .u8 0, .int .u8 0, .int .u8 0, .int .u8 0, .int .u8 0, .int .u8 0, .int .u8 0, .int .u8 0, .int .u8 0, .int .u8 0, .int .u8 0, .int .u8 0, .int .u8 0, .int .u8 0, .int .u8 0, .int .u8 0, .int .u8 0, .int .u8 0, .int .u8 0, .int .u8 0, .int .u8 0, .int .u8 0, .int .u8 0, .int .u8 0, .int .u8 0, .int .u8 0, .int .u8 0, .int .u8 0, .int .u8 0, .int .u8 0, .int .u8 0, .int .u8 0, .int .u8 0, .int .u8 0, .int .u8 0, .int .u8 0, .int .u8 0, .int .u8 0, .int .u8 0, .int .u8 0, .int .u8 0, .int .u8 0, .int .u8 0, .int .u8 0, .int .u8 0, .int .u8 0], zc := [.int .u8 0, .int .u8 0, .int .u8 0, .int .u8 0, .int .u8 0, .int .u8 0, .int .u8 0, .int .u8 0, .int .u8 0, .int .u8 0, .int .u8 0, .int .u8 0, .int .u8 0, .int .u8 0, .int .u8 0, .int .u8 0, .int .u8 0, .int .u8 0, .int .u8 0, .int .u8 0, .int .u8 0, .int .u8 0, .int .u8 0, .int .u8 0, .int .u8 0, .int .u8 0, .int .u8 0, .int .u8 0, .int .u8 0, .int .u8 0, .int .u8 0, .int .u8 0, .int .u8 0, .int .u8 0, .int .u8 0, .int .u8 0, .int .u8 0, .int .u8 0, .int .u8 0, .int .u8 0, .int .u8 0, .int .u8 0, .int .u8 0, .int .u8 0, .int .u8 0, .int .u8 0, .int .u8 0, .int .u8 0, .int .u8 0, .int .u8 0, .int .u8 0, .int .u8 0, .int .u8 0, .int .u8 0, .int .u8 0, .int .u8 0, .int .u8 0, .int .u8 0, .int .u8 0, .int .u8 0, .int .u8 0, .int .u8 0, .int .u8 0, .int .u8 0], eq := [] } := rfl
@[simp] theorem tab133 : E.tab 133 = some { key := .struct [(0, 3), (1, 3), (2, 3), (3, 3)], size := 4, bytes := 32, zero := .agg #[.int .i64 0, .int .i64 0, .int .i64 0, .int .i64 0], zc := [.int .i64 0, .int .i64 0, .int .i64 0, .int .i64 0], eq := [0, 0, 0, 0] } := rfl
@[simp] theorem tab134 : E.tab 134 = some { key := .struct [(0, 3), (1, 3), (2, 3), (3, 3)], size := 4, bytes := 32, zero := .agg #[.int .i64 0, .int .i64 0, .int .i64 0, .int .i64 0], zc := [.int .i64 0, .int .i64 0, .int .i64 0, .int .i64 0], eq := [0, 0, 0, 0] } := rfl
@[simp] theorem tab135 : E.tab 135 = some { key := .struct [(0, 3), (1, 3), (2, 3), (3, 3), (4, 3), (5, 9), (6, 134)], size := 10, bytes := 88, zero := .agg #[.int .i64 0, .int .i64 0, .int .i64 0, .int .i64 0, .int .i64 0, .string ⟨#[]⟩, .int .i64 0, .int .i64 0, .int .i64 0, .int .i64 0], zc := [.int .i64 0, .int .i64 0, .int .i64 0, .int .i64 0, .int .i64 0, .str [], .int .i64 0, .int .i64 0, .int .i64 0, .int .i64 0], eq := [] } := rfl
@[simp] theorem tab136 : E.tab 136 = some { key := .struct [(0, 3), (1, 3), (2, 3), (3, 3), (4, 3), (5, 9), (6, 134)], size := 10, bytes := 88, zero := .agg #[.int .i64 0, .int .i64 0, .int .i64 0, .int .i64 0, .int .i64 0, .string ⟨#[]⟩, .int .i64 0, .int .i64 0, .int .i64 0, .int .i64 0], zc := [.int .i64 0, .int .i64 0, .int .i64 0, .int .i64 0, .int .i64 0, .str [], .int .i64 0, .int .i64 0, .int .i64 0, .int .i64 0], eq := [] } := rfl
@[simp] theorem tab137 : E.tab 137 = some { key := .struct [(0, 3), (1, 3), (2, 3), (3, 3), (4, 3), (5, 3), (6, 3)], size := 7, bytes := 56, zero := .agg #[.int .i64 0, .int .i64 0, .int .i64 0, .int .i64 0, .int .i64 0, .int .i64 0, .int .i64 0], zc := [.int .i64 0, .int .i64 0, .int .i64 0, .int .i64 0, .int .i64 0, .int .i64 0, .int .i64 0], eq := [0, 0, 0, 0, 0, 0, 0] } := rfl
@[simp] theorem tab138 : E.tab 138 = some { key := .struct [(0, 3), (1, 3), (2, 3), (3, 3), (4, 3), (5, 3), (6, 3)], size := 7, bytes := 56, zero := .agg #[.int .i64 0, .int .i64 0, .int .i64 0, .int .i64 0, .int .i64 0, .int .i64 0, .int .i64 0], zc := [.int .i64 0, .int .i64 0, .int .i64 0, .int .i64 0, .int .i64 0, .int .i64 0, .int .i64 0], eq := [0, 0, 0, 0, 0, 0, 0] } := rfl
@[simp] theorem tab139 : E.tab 139 = some { key := .struct [(0, 3), (1, 3), (2, 3), (3, 3), (4, 3), (5, 3), (6, 3), (7, 3), (8, 3), (9, 3), (10, 3), (11, 3), (12, 3)], size := 13, bytes := 104, zero := .agg #[.int .i64 0, .int .i64 0, .int .i64 0, .int .i64 0, .int .i64 0, .int .i64 0, .int .i64 0, .int .i64 0, .int .i64 0, .int .i64 0, .int .i64 0, .int .i64 0, .int .i64 0], zc := [.int .i64 0, .int .i64 0, .int .i64 0, .int .i64 0, .int .i64 0, .int .i64 0, .int .i64 0, .int .i64 0, .int .i64 0, .int .i64 0, .int .i64 0, .int .i64 0, .int .i64 0], eq := [0, 0, 0, 0, 0, 0, 0, 0, 0, 0, 0, 0, 0] } := rfl
@[simp] theorem tab140 : E.tab 140 = some { key := .struct [(0, 3), (1, 3), (2, 3), (3, 3), (4, 3), (5, 3), (6, 3), (7, 3), (8, 3), (9, 3), (10, 3), (11, 3), (12, 3)], size := 13, bytes := 104, zero := .agg #[.int .i64 0, .int .i64 0, .int .i64 0, .int .i64 0, .int .i64 0, .int .i64 0, .int .i64 0, .int .i64 0, .int .i64 0, .int .i64 0, .int .i64 0, .int .i64 0, .int .i64 0], zc := [.int .i64 0, .int .i64 0, .int .i64 0, .int .i64 0, .int .i64 0, .int .i64 0, .int .i64 0, .int .i64 0, .int .i64 0, .int .i64 0, .int .i64 0, .int .i64 0, .int .i64 0], eq := [0, 0, 0, 0, 0, 0, 0, 0, 0, 0, 0, 0, 0] } := rfl
@[simp] theorem tab141 : E.tab 141 = some { key := .struct [(0, 3), (1, 3), (2, 3), (3, 3), (4, 3)], size := 5, bytes := 40, zero := .agg #[.int .i64 0, .int .i64 0, .int .i64 0, .int .i64 0, .int .i64 0], zc := [.int .i64 0, .int .i64 0, .int .i64 0, .int .i64 0, .int .i64 0], eq := [0, 0, 0, 0, 0] } := rfl
@[simp] theorem tab142 : E.tab 142 = some { key := .struct [(0, 3), (1, 3), (2, 3), (3, 3), (4, 3)], size := 5, bytes := 40, zero := .agg #[.int .i64 0, .int .i64 0, .int .i64 0, .int .i64 0, .int .i64 0], zc := [.int .i64 0, .int .i64 0, .int .i64 0, .int .i64 0, .int .i64 0], eq := [0, 0, 0, 0, 0] } := rfl
end Go.Proofs.YtjpjndfdncalfaaDoor

namespace Go.Proofs.YtjpjndfdncalfaaDoor
open Go Ab
abbrev n_main_main : Nat := 0
abbrev n_gosem_cut : Nat := 1
abbrev n_gosem_cut_init : Nat := 2
abbrev n_law35_NoticeDue : Nat := 3
abbrev n_law35_NoticeTexts : Nat := 4
abbrev n_law35_NoticeSorted : Nat := 5
abbrev n_law35_NoticeAll : Nat := 6
abbrev n_law35_NoticeFor : Nat := 7
abbrev n_law35_NoticeMore : Nat := 8
abbrev n_law35_alive : Nat := 9
abbrev n_ref35_Right : Nat := 10
abbrev n_ref35_Same : Nat := 11
abbrev n_notice_Due : Nat := 12
abbrev n_ref35_Due : Nat := 13
abbrev n_ref28_Small : Nat := 14
abbrev n_notice_Text : Nat := 15
abbrev n_ref35_Text : Nat := 16
abbrev n_notice_Count : Nat := 17
abbrev n_notice_For : Nat := 18
abbrev n_ref35_For : Nat := 19
abbrev n_ref35_Count : Nat := 20
abbrev n_ref03_Is : Nat := 21
abbrev n_notice_loan : Nat := 22
abbrev n_slices_SortStableFunc_api_Notice_api_Notice : Nat := 23
abbrev n_notice_Due_1 : Nat := 24
abbrev n_cmp_Or_int : Nat := 25
abbrev n_cmp_Compare_int : Nat := 26
abbrev n_ref35_Put : Nat := 27
abbrev n_ref35_notice : Nat := 28
abbrev n_notice_name : Nat := 29
abbrev n_strconv_Itoa : Nat := 30
abbrev n_date_Format : Nat := 31
abbrev n_ref35_Number : Nat := 32
abbrev n_ref28_Get : Nat := 33
abbrev n_ref03_Format : Nat := 34
abbrev n_notice_loan_1 : Nat := 35
abbrev n_slices_stableCmpFunc_api_Notice : Nat := 36
abbrev n_cmp_isNaN_int : Nat := 37
abbrev n_ref35_Before : Nat := 38
abbrev n_slices_IndexFunc_api_Patron_api_Patron : Nat := 39
abbrev n_notice_name_1 : Nat := 40
abbrev n_internal_strconv_Itoa : Nat := 41
abbrev n_date_Parts : Nat := 42
abbrev n_date_padded : Nat := 43
abbrev n_ref28_At : Nat := 44
abbrev n_ref03_Parts : Nat := 45
abbrev n_ref03_Digits : Nat := 46
abbrev n_slices_insertionSortCmpFunc_api_Notice : Nat := 47
abbrev n_slices_symMergeCmpFunc_api_Notice : Nat := 48
abbrev n_internal_strconv_FormatInt : Nat := 49
abbrev n_date_known : Nat := 50
abbrev n_date_newYear : Nat := 51
abbrev n_date_before : Nat := 52
abbrev n_strings_Repeat : Nat := 53
abbrev n_ref03_Year : Nat := 54
abbrev n_ref03_Length : Nat := 55
abbrev n_slices_rotateCmpFunc_api_Notice : Nat := 56
abbrev n_internal_strconv_small : Nat := 57
abbrev n_internal_strconv_numDigits : Nat := 58
abbrev n_internal_strconv_formatBase10 : Nat := 59
abbrev n_internal_strconv_formatBits : Nat := 60
abbrev n_date_leap : Nat := 61
abbrev n_math_bits_Mul : Nat := 62
abbrev n_strings_HasPrefix : Nat := 63
abbrev n_strings_Builder_Grow : Nat := 64
abbrev n_strings_Builder_WriteString : Nat := 65
abbrev n_strings_Builder_Len : Nat := 66
abbrev n_strings_Builder_String : Nat := 67
abbrev n_slices_swapRangeCmpFunc_api_Notice : Nat := 68
abbrev n_internal_strconv_log10Pow2 : Nat := 69
abbrev n_math_bits_Len64 : Nat := 70
abbrev n_internal_strconv_bool2_int : Nat := 71
abbrev n_internal_strconv_isPowerOfTwo : Nat := 72
abbrev n_math_bits_TrailingZeros : Nat := 73
abbrev n_math_bits_Mul32 : Nat := 74
abbrev n_math_bits_Mul64 : Nat := 75
abbrev n_internal_stringslite_HasPrefix : Nat := 76
abbrev n_strings_Builder_copyCheck : Nat := 77
abbrev n_strings_Builder_grow : Nat := 78
abbrev n_math_bits_TrailingZeros32 : Nat := 79
abbrev n_math_bits_TrailingZeros64 : Nat := 80
abbrev n_internal_abi_NoEscape : Nat := 81
abbrev n_internal_bytealg_MakeNoZero : Nat := 82
abbrev n_runtime_boundsError_Error : Nat := 83
abbrev n_runtime_boundsError_RuntimeError : Nat := 84
abbrev n_runtime_errorString_Error : Nat := 85
abbrev n_runtime_errorString_RuntimeError : Nat := 86
abbrev n_runtime_plainError_Error : Nat := 87
abbrev n_runtime_plainError_RuntimeError : Nat := 88
abbrev n_runtime_errorAddressString_Error : Nat := 89
abbrev n_runtime_errorAddressString_RuntimeError : Nat := 90
abbrev n_runtime_TypeAssertionError_Error : Nat := 91
abbrev n_runtime_TypeAssertionError_RuntimeError : Nat := 92
abbrev n_runtime_PanicNilError_Error : Nat := 93
abbrev n_runtime_PanicNilError_RuntimeError : Nat := 94
abbrev n_internal_abi_Type_Align : Nat := 95
abbrev n_internal_runtime_maps_unhashableTypeError_Error : Nat := 96
abbrev n_internal_runtime_maps_unhashableTypeError_RuntimeError : Nat := 97
abbrev n_api_Errno_Error : Nat := 98
abbrev n_strings_Builder_Reset : Nat := 99
abbrev n_internal_abi_Kind_String : Nat := 100
abbrev n_var_s_door_gosem_cut_vars_holds_initialisers_alone_see_the_manifest_s_row_cutvarsword_look_11_test_files_too : Nat := 101
abbrev n_var_s_door_internal_strconv_uint64pow10_is_laid_by_its_own_initialiser_plain_data_look_11 : Nat := 102
abbrev n_var_s_door_math_bits_deBruijn32tab_is_laid_by_its_own_initialiser_plain_data_look_11 : Nat := 103
abbrev n_var_s_door_math_bits_deBruijn64tab_is_laid_by_its_own_initialiser_plain_data_look_11 : Nat := 104
abbrev n_var_s_door_the_look_of_gosem_cut_vars_went_over_the_folder_that_the_caller_named_as_the_repository_s_root_look_11 : Nat := 105
abbrev n_gosem_cut_vars : Nat := 106
abbrev t_ : Nat := 0
abbrev t_Error : Nat := 99
abbrev t_a0_p_runtime_PanicNilError : Nat := 123
abbrev t_a12_int : Nat := 92
abbrev t_a20_uint64 : Nat := 106
abbrev t_a24_uint8 : Nat := 86
abbrev t_a32_uint8 : Nat := 119
abbrev t_a4_api_Calendar : Nat := 31
abbrev t_a5_int : Nat := 50
abbrev t_a64_uint8 : Nat := 120
abbrev t_a65_uint8 : Nat := 108
abbrev t_abi_BoundsErrorCode : Nat := 6
abbrev t_abi_Kind : Nat := 127
abbrev t_abi_NameOff : Nat := 129
abbrev t_abi_TFlag : Nat := 126
abbrev t_abi_Type : Nat := 132
abbrev t_abi_TypeOff : Nat := 130
abbrev t_api_Calendar : Nat := 30
abbrev t_api_Charge : Nat := 138
abbrev t_api_Circ : Nat := 34
abbrev t_api_Custody : Nat := 134
abbrev t_api_Errno : Nat := 74
abbrev t_api_Hold : Nat := 49
abbrev t_api_Item : Nat := 136
abbrev t_api_Loan : Nat := 47
abbrev t_api_Move : Nat := 142
abbrev t_api_Notice : Nat := 42
abbrev t_api_Patron : Nat := 64
abbrev t_api_Rule : Nat := 140
abbrev t_bool : Nat := 4
abbrev t_error : Nat := 100
abbrev t_int : Nat := 3
abbrev t_int32 : Nat := 21
abbrev t_int64 : Nat := 2
abbrev t_maps_unhashableTypeError : Nat := 19
abbrev t_p_abi_Type : Nat := 17
abbrev t_p_runtime_PanicNilError : Nat := 16
abbrev t_p_runtime_TypeAssertionError : Nat := 15
abbrev t_p_strings_Builder : Nat := 96
abbrev t_p_uint8 : Nat := 114
abbrev t_runtime_PanicNilError : Nat := 125
abbrev t_runtime_TypeAssertionError : Nat := 122
abbrev t_runtime_boundsError : Nat := 8
abbrev t_runtime_errorAddressString : Nat := 14
abbrev t_runtime_errorString : Nat := 10
abbrev t_runtime_plainError : Nat := 11
abbrev t_s_api_Charge : Nat := 26
abbrev t_s_api_Hold : Nat := 25
abbrev t_s_api_Item : Nat := 22
abbrev t_s_api_Loan : Nat := 24
abbrev t_s_api_Move : Nat := 32
abbrev t_s_api_Notice : Nat := 38
abbrev t_s_api_Patron : Nat := 23
abbrev t_s_api_Rule : Nat := 27
abbrev t_s_int : Nat := 28
abbrev t_s_uint8 : Nat := 78
abbrev t_string : Nat := 9
abbrev t_strings_Builder : Nat := 98
abbrev t_uint : Nat := 85
abbrev t_uint32 : Nat := 107
abbrev t_uint64 : Nat := 87
abbrev t_uint8 : Nat := 5
abbrev t_uintptr : Nat := 12
abbrev t_unsafe_Pointer : Nat := 116
def tabZ_math_bits_deBruijn32tab : List Int := [0, 1, 28, 2, 29, 14, 24, 3, 30, 22, 20, 15, 25, 17, 4, 8, 31, 27, 13, 23, 21, 19, 16, 7, 26, 12, 18, 6, 11, 5, 10, 9]
@[simp] theorem tabZ_math_bits_deBruijn32tab_len : tabZ_math_bits_deBruijn32tab.length = 32 := rfl
def tabL0 : TabL := ⟨"math/bits.deBruijn32tab", 1, .u8, tabZ_math_bits_deBruijn32tab⟩
def tabZ_math_bits_deBruijn64tab : List Int := [0, 1, 56, 2, 57, 49, 28, 3, 61, 58, 42, 50, 38, 29, 17, 4, 62, 47, 59, 36, 45, 43, 51, 22, 53, 39, 33, 30, 24, 18, 12, 5, 63, 55, 48, 27, 60, 41, 37, 16, 46, 35, 44, 21, 52, 32, 23, 11, 54, 26, 40, 15, 34, 20, 31, 10, 25, 14, 19, 9, 13, 8, 7, 6]
@[simp] theorem tabZ_math_bits_deBruijn64tab_len : tabZ_math_bits_deBruijn64tab.length = 64 := rfl
def tabL1 : TabL := ⟨"math/bits.deBruijn64tab", 2, .u8, tabZ_math_bits_deBruijn64tab⟩
def tabZ_internal_strconv_uint64pow10 : List Int := [1, 10, 100, 1000, 10000, 100000, 1000000, 10000000, 100000000, 1000000000, 10000000000, 100000000000, 1000000000000, 10000000000000, 100000000000000, 1000000000000000, 10000000000000000, 100000000000000000, 1000000000000000000, 10000000000000000000]
@[simp] theorem tabZ_internal_strconv_uint64pow10_len : tabZ_internal_strconv_uint64pow10.length = 20 := rfl
def tabL2 : TabL := ⟨"internal/strconv.uint64pow10", 0, .u64, tabZ_internal_strconv_uint64pow10⟩
def tabL : List TabL := [tabL0, tabL1, tabL2]
theorem tabL_g : ∀ x ∈ tabL, Tryd.prog.globalNamed x.name = some x.g := by
  intro x hx
  simp only [tabL, List.mem_cons, List.not_mem_nil, or_false] at hx
  rcases hx with rfl | rfl | rfl <;> kernel_rfl
theorem tabL_r : ∀ x ∈ tabL, ∀ z ∈ x.zs, x.k.min ≤ z ∧ z ≤ x.k.max := by decide +kernel
instance amb : Amb := Amb.tabs Tryd.prog tabL tabL_g tabL_r
@[simp] theorem amb_tab1 : Amb.tab 1 = some (tabZ_math_bits_deBruijn32tab.map (D.int .u8)) := rfl
@[simp] theorem amb_tab2 : Amb.tab 2 = some (tabZ_math_bits_deBruijn64tab.map (D.int .u8)) := rfl
@[simp] theorem amb_tab0 : Amb.tab 0 = some (tabZ_internal_strconv_uint64pow10.map (D.int .u64)) := rfl
@[simp] theorem amb_tab3 : Amb.tab 3 = none := rfl
theorem amb_is1 {w : World} {S : Nat → Nat → Prop} (h : Amb.G w S) : Go.Lib.TabIs Tryd.prog w "math/bits.deBruijn32tab" .u8 [0, 1, 28, 2, 29, 14, 24, 3, 30, 22, 20, 15, 25, 17, 4, 8, 31, 27, 13, 23, 21, 19, 16, 7, 26, 12, 18, 6, 11, 5, 10, 9] := (h tabL0 (by simp [tabL])).1
theorem amb_is2 {w : World} {S : Nat → Nat → Prop} (h : Amb.G w S) : Go.Lib.TabIs Tryd.prog w "math/bits.deBruijn64tab" .u8 [0, 1, 56, 2, 57, 49, 28, 3, 61, 58, 42, 50, 38, 29, 17, 4, 62, 47, 59, 36, 45, 43, 51, 22, 53, 39, 33, 30, 24, 18, 12, 5, 63, 55, 48, 27, 60, 41, 37, 16, 46, 35, 44, 21, 52, 32, 23, 11, 54, 26, 40, 15, 34, 20, 31, 10, 25, 14, 19, 9, 13, 8, 7, 6] := (h tabL1 (by simp [tabL])).1
theorem amb_is0 {w : World} {S : Nat → Nat → Prop} (h : Amb.G w S) : Go.Lib.TabIs Tryd.prog w "internal/strconv.uint64pow10" .u64 [1, 10, 100, 1000, 10000, 100000, 1000000, 10000000, 100000000, 1000000000, 10000000000, 100000000000, 1000000000000, 10000000000000, 100000000000000, 1000000000000000, 10000000000000000, 100000000000000000, 1000000000000000000, 10000000000000000000] := (h tabL2 (by simp [tabL])).1
theorem mixed : E.P.follows .mixedOrders = true := by kernel_rfl
end Go.Proofs.YtjpjndfdncalfaaDoor

namespace Pl
open Go Ab
structure Charge where
  id : Int
  patron : Int
  item : Int
  day : Int
  kind : Int
  amount : Int
  paid : Int
  deriving Inhabited, DecidableEq
structure Cal where
  week : Int
  closed : List Int
structure Rule where
  r0 : Int
  r1 : Int
  r2 : Int
  r3 : Int
  r4 : Int
  fine : Int
  grace : Int
  maxFine : Int
  r8 : Int
  r9 : Int
  r10 : Int
  r11 : Int
  r12 : Int
def encCharge (c : Charge) : D := .agg [.int .i64 c.id, .int .i64 c.patron, .int .i64 c.item, .int .i64 c.day, .int .i64 c.kind, .int .i64 c.amount, .int .i64 c.paid]
def z0 : Charge := ⟨0, 0, 0, 0, 0, 0, 0⟩
def encCharges (l : List Charge) : D := .slice (encCharge z0) (l.map encCharge)
def encInts (l : List Int) : D := .slice (.int .i64 0) (l.map (D.int .i64))
def encCal (c : Cal) : D := .agg [.int .i64 c.week, encInts c.closed]
def encRule (r : Rule) : D := .agg [.int .i64 r.r0, .int .i64 r.r1, .int .i64 r.r2, .int .i64 r.r3, .int .i64 r.r4, .int .i64 r.fine, .int .i64 r.grace, .int .i64 r.maxFine, .int .i64 r.r8, .int .i64 r.r9, .int .i64 r.r10, .int .i64 r.r11, .int .i64 r.r12]
@[simp] theorem encCharge_cells (c : Charge) : (encCharge c).cells = [.int .i64 c.id, .int .i64 c.patron, .int .i64 c.item, .int .i64 c.day, .int .i64 c.kind, .int .i64 c.amount, .int .i64 c.paid] := rfl
theorem encCharge_eq (c : Charge) : encCharge c = .agg [.int .i64 c.id, .int .i64 c.patron, .int .i64 c.item, .int .i64 c.day, .int .i64 c.kind, .int .i64 c.amount, .int .i64 c.paid] := rfl
theorem encCharges_eq (l : List Charge) : encCharges l = .slice (encCharge z0) (l.map encCharge) := rfl
theorem encInts_eq (l : List Int) : encInts l = .slice (.int .i64 0) (l.map (D.int .i64)) := rfl
theorem encCal_eq (c : Cal) : encCal c = .agg [.int .i64 c.week, encInts c.closed] := rfl
theorem encRule_eq (r : Rule) : encRule r = .agg [.int .i64 r.r0, .int .i64 r.r1, .int .i64 r.r2, .int .i64 r.r3, .int .i64 r.r4, .int .i64 r.fine, .int .i64 r.grace, .int .i64 r.maxFine, .int .i64 r.r8, .int .i64 r.r9, .int .i64 r.r10, .int .i64 r.r11, .int .i64 r.r12] := rfl
def isDay (n : Int) : Bool := decide (0 ≤ n) && decide (n ≤ 109572)
def isID (n : Int) : Bool := decide (1 ≤ n) && decide (n ≤ 9999)
def wday (n : Int) : Int := if isDay n then n.tmod 7 else -1
def ruleOk (r : Rule) : Bool := decide (0 ≤ r.fine) && decide (r.fine ≤ 1000) && decide (0 ≤ r.grace) && decide (r.grace ≤ 30) && decide (0 ≤ r.maxFine) && decide (r.maxFine ≤ 100000000)
def owedF (p : Int) : Int → List Charge → Int
  | s, [] => s
  | s, c :: l => owedF p (if c.patron = p then IntKind.i64.wrap (s + IntKind.i64.wrap (c.amount - c.paid)) else s) l
def payStep (p r : Int) (c : Charge) : Int := if IntKind.i64.wrap (c.amount - c.paid) < r then IntKind.i64.wrap (c.amount - c.paid) else r
def payF (p : Int) : Int × List Charge → List Charge → Int × List Charge
  | (r, o), [] => (r, o)
  | (r, o), c :: l =>
    if c.patron = p then
      if IntKind.i64.wrap (c.paid + payStep p r c) < c.amount then payF p (IntKind.i64.wrap (r - payStep p r c), o ++ [{ c with paid := IntKind.i64.wrap (c.paid + payStep p r c) }]) l
      else payF p (IntKind.i64.wrap (r - payStep p r c), o) l
    else if c.paid < c.amount then payF p (r, o ++ [c]) l else payF p (r, o) l
def payR (l : List Charge) (p a : Int) : RetT :=
  if a < 1 ∨ 100000000 < a then .tup [encCharges [], .int .i64 0, .int .i64 1]
  else .tup [encCharges (payF p (a, []) l).2, .int .i64 (payF p (a, []) l).1, .int .i64 0]
theorem payR_bad {l : List Charge} {p a : Int} (h : a < 1 ∨ 100000000 < a) : payR l p a = .tup [encCharges [], .int .i64 0, .int .i64 1] := if_pos h
theorem payR_good {l : List Charge} {p a : Int} (h : 1 ≤ a ∧ a ≤ 100000000) : payR l p a = .tup [encCharges (payF p (a, []) l).2, .int .i64 (payF p (a, []) l).1, .int .i64 0] := if_neg (by omega)
def idxG (p : Int → Bool) : Unit → List Int → Int := fun _ _ => 0
def owedG (p : Int) : Int → List Charge → Int
  | s, [] => s
  | s, c :: l => owedG p (if c.patron = p then IntKind.i64.wrap (IntKind.i64.wrap (s + c.amount) - c.paid) else s) l
theorem owedG_eq (p : Int) : ∀ (l : List Charge) (s : Int), owedG p s l = owedF p s l
  | [], s => rfl
  | c :: l, s => by
    have e : IntKind.i64.wrap (IntKind.i64.wrap (s + c.amount) - c.paid) = IntKind.i64.wrap (s + IntKind.i64.wrap (c.amount - c.paid)) := by
      simp only [IntKind.wrap_i64]; omega
    rw [owedG, owedF, e]
    exact owedG_eq p l _
def idxF (p : Int → Bool) : Int → List Int → Int
  | _, [] => -1
  | i, x :: l => if p x then i else idxF p (i + 1) l
theorem idxF_any (p : Int → Bool) : ∀ (l : List Int) (i : Int), 0 ≤ i → decide (0 ≤ idxF p i l) = l.any p
  | [], i, _ => by simp [idxF]
  | x :: l, i, hi => by
    by_cases hp : p x = true
    · simp [idxF, hp, hi]
    · have hp' : p x = false := by simpa using hp
      simp only [idxF, List.any_cons, hp', Bool.false_eq_true, if_false, Bool.false_or]
      exact idxF_any p l (i + 1) (by omega)
def chkC (c : Charge) : Int :=
  if c.id < 1 ∨ 99999 < c.id ∨ c.patron < 1 ∨ 9999 < c.patron ∨ c.item < 1 ∨ 9999 < c.item ∨ isDay c.day = false then 2
  else if c.kind < 1 ∨ 3 < c.kind then 1
  else if c.amount < 1 ∨ 100000000 < c.amount ∨ c.paid < 0 ∨ c.amount ≤ c.paid then 2 else 0
section
variable {x : Charge}
theorem chk2a (h : (((((x.id < 1 ∨ 99999 < x.id) ∨ x.patron < 1) ∨ 9999 < x.patron) ∨ x.item < 1) ∨ 9999 < x.item) ∨ isDay x.day = false) : chkC x = 2 := if_pos (by simpa only [or_assoc] using h)
theorem chkn (h : (((((1 ≤ x.id ∧ x.id ≤ 99999) ∧ 1 ≤ x.patron) ∧ x.patron ≤ 9999) ∧ 1 ≤ x.item) ∧ x.item ≤ 9999) ∧ isDay x.day = true) : ¬ (x.id < 1 ∨ 99999 < x.id ∨ x.patron < 1 ∨ 9999 < x.patron ∨ x.item < 1 ∨ 9999 < x.item ∨ isDay x.day = false) := by
  obtain ⟨h1, h2⟩ := h
  rw [h2]
  simp
  omega
theorem chk1 (h : (((((1 ≤ x.id ∧ x.id ≤ 99999) ∧ 1 ≤ x.patron) ∧ x.patron ≤ 9999) ∧ 1 ≤ x.item) ∧ x.item ≤ 9999) ∧ isDay x.day = true) (h2 : x.kind < 1 ∨ 3 < x.kind) : chkC x = 1 := by
  unfold chkC; rw [if_neg (chkn h), if_pos h2]
theorem chk2b (h : (((((1 ≤ x.id ∧ x.id ≤ 99999) ∧ 1 ≤ x.patron) ∧ x.patron ≤ 9999) ∧ 1 ≤ x.item) ∧ x.item ≤ 9999) ∧ isDay x.day = true) (h2 : 1 ≤ x.kind ∧ x.kind ≤ 3) (h3 : ((x.amount < 1 ∨ 100000000 < x.amount) ∨ x.paid < 0) ∨ x.amount ≤ x.paid) : chkC x = 2 := by
  unfold chkC; rw [if_neg (chkn h), if_neg (by omega), if_pos (by omega)]
theorem chk0 (h : (((((1 ≤ x.id ∧ x.id ≤ 99999) ∧ 1 ≤ x.patron) ∧ x.patron ≤ 9999) ∧ 1 ≤ x.item) ∧ x.item ≤ 9999) ∧ isDay x.day = true) (h2 : 1 ≤ x.kind ∧ x.kind ≤ 3) (h3 : ((1 ≤ x.amount ∧ x.amount ≤ 100000000) ∧ 0 ≤ x.paid) ∧ x.paid < x.amount) : chkC x = 0 := by
  unfold chkC; rw [if_neg (chkn h), if_neg (by omega), if_neg (by omega)]
end
def lowId : Option Int → Int → Bool
  | none, _ => false
  | some p, i => decide (i ≤ p)
def rightF : Option Int → List Charge → Int
  | _, [] => 0
  | pr, c :: l => if lowId pr c.id = true then 7 else if chkC c ≠ 0 then chkC c else rightF (some c.id) l
def rightR (l : List Charge) : Int := if 128 < l.length then 13 else rightF none l
theorem rightR_ok {l : List Charge} (h : (l.length : Int) ≤ 128) : rightR l = rightF none l := if_neg (by omega)
theorem rightR_full {l : List Charge} (h : 128 < (l.length : Int)) : rightR l = 13 := if_pos (by omega)
def sameF : List Charge → List Charge → Bool := fun r l => decide (l = r)
section
variable {x : Charge}
theorem isID_t {n : Int} : isID n = true ↔ 1 ≤ n ∧ n ≤ 9999 := by simp [isID]
theorem isID_f {n : Int} : isID n = false ↔ n < 1 ∨ 9999 < n := by simp [isID]; omega
theorem chk2c (h : (((x.id < 1 ∨ 99999 < x.id) ∨ isID x.patron = false) ∨ isID x.item = false) ∨ isDay x.day = false) : chkC x = 2 := if_pos (by simp only [isID_f] at h; simpa only [or_assoc] using h)
theorem chkcv (h : (((1 ≤ x.id ∧ x.id ≤ 99999) ∧ isID x.patron = true) ∧ isID x.item = true) ∧ isDay x.day = true) : (((((1 ≤ x.id ∧ x.id ≤ 99999) ∧ 1 ≤ x.patron) ∧ x.patron ≤ 9999) ∧ 1 ≤ x.item) ∧ x.item ≤ 9999) ∧ isDay x.day = true := by
  simp only [isID_t] at h; simpa only [and_assoc] using h
theorem chk1c (h : (((1 ≤ x.id ∧ x.id ≤ 99999) ∧ isID x.patron = true) ∧ isID x.item = true) ∧ isDay x.day = true) (h2 : x.kind < 1 ∨ 3 < x.kind) : chkC x = 1 := chk1 (chkcv h) h2
theorem chk2d (h : (((1 ≤ x.id ∧ x.id ≤ 99999) ∧ isID x.patron = true) ∧ isID x.item = true) ∧ isDay x.day = true) (h2 : 1 ≤ x.kind ∧ x.kind ≤ 3) (h3 : ((x.amount < 1 ∨ 100000000 < x.amount) ∨ x.paid < 0) ∨ x.amount ≤ x.paid) : chkC x = 2 := chk2b (chkcv h) h2 h3
theorem chk0c (h : (((1 ≤ x.id ∧ x.id ≤ 99999) ∧ isID x.patron = true) ∧ isID x.item = true) ∧ isDay x.day = true) (h2 : 1 ≤ x.kind ∧ x.kind ≤ 3) (h3 : ((1 ≤ x.amount ∧ x.amount ≤ 100000000) ∧ 0 ≤ x.paid) ∧ x.paid < x.amount) : chkC x = 0 := chk0 (chkcv h) h2 h3
end
def remF (p : Charge → Bool) : List Charge × Int × Int → List Charge → List Charge × Int × Int
  | (o, q, n), [] => (o, q, n)
  | (o, q, n), c :: l => if p c = true then remF p (o, IntKind.i64.wrap (q + c.paid), IntKind.i64.wrap (n + 1)) l else remF p (o ++ [c], q, n) l
def remR (l : List Charge) (p : Charge → Bool) : RetT := .tup [encCharges (remF p ([], 0, 0) l).1, .int .i64 (remF p ([], 0, 0) l).2.1, .int .i64 (remF p ([], 0, 0) l).2.2]
def refP (p i k : Int) (c : Charge) : Bool := (c.patron == p && c.item == i) && (k == 0 || c.kind == k)
def waiveR (l : List Charge) (i : Int) : RetT :=
  if (remF (fun c => c.id == i) ([], 0, 0) l).2.2 = 0 then .tup [encCharges [], .int .i64 0, .int .i64 9]
  else .tup [encCharges (remF (fun c => c.id == i) ([], 0, 0) l).1, .int .i64 (remF (fun c => c.id == i) ([], 0, 0) l).2.1, .int .i64 0]
theorem waiveR_none {l : List Charge} {i : Int} (h : (remF (fun c => c.id == i) ([], 0, 0) l).2.2 = 0) : waiveR l i = .tup [encCharges [], .int .i64 0, .int .i64 9] := if_pos h
theorem waiveR_some {l : List Charge} {i : Int} (h : ¬ (remF (fun c => c.id == i) ([], 0, 0) l).2.2 = 0) : waiveR l i = .tup [encCharges (remF (fun c => c.id == i) ([], 0, 0) l).1, .int .i64 (remF (fun c => c.id == i) ([], 0, 0) l).2.1, .int .i64 0] := if_neg h
def refundR (l : List Charge) (p i k : Int) : RetT := .tup [encCharges (remF (refP p i k) ([], 0, 0) l).1, .int .i64 (remF (refP p i k) ([], 0, 0) l).2.1]
def wvF (i : Int) : List Charge × Int → List Charge → List Charge × Int
  | (o, q), [] => (o, q)
  | (o, q), c :: l => if c.id = i then wvF i (o, c.paid) l else wvF i (o ++ [c], q) l
def wvR (l : List Charge) (i : Int) : RetT :=
  if (wvF i ([], -1) l).2 < 0 then .tup [encCharges [], .int .i64 0, .int .i64 9] else .tup [encCharges (wvF i ([], -1) l).1, .int .i64 (wvF i ([], -1) l).2, .int .i64 0]
theorem wvR_none {l : List Charge} {i : Int} (h : (wvF i ([], -1) l).2 < 0) : wvR l i = .tup [encCharges [], .int .i64 0, .int .i64 9] := if_pos h
theorem wvR_some {l : List Charge} {i : Int} (h : 0 ≤ (wvF i ([], -1) l).2) : wvR l i = .tup [encCharges (wvF i ([], -1) l).1, .int .i64 (wvF i ([], -1) l).2, .int .i64 0] := if_neg (by omega)
def rfF (p i k : Int) : List Charge × Int → List Charge → List Charge × Int
  | (o, q), [] => (o, q)
  | (o, q), c :: l => if refP p i k c = true then rfF p i k (o, IntKind.i64.wrap (q + c.paid)) l else rfF p i k (o ++ [c], q) l
def rfR (l : List Charge) (p i k : Int) : RetT := .tup [encCharges (rfF p i k ([], 0) l).1, .int .i64 (rfF p i k ([], 0) l).2]
def ascF : Option Int → List Int → Int
  | _, [] => 0
  | pr, x :: l => if lowId pr x = true then 7 else ascF (some x) l
def calR (c : Cal) : Int := if c.week < 0 ∨ 127 ≤ c.week then 1 else if 64 < (c.closed.length : Int) then 13 else if c.closed.any (fun n => !isDay n) = true then 2 else ascF none c.closed
theorem cal_len {c : Cal} (h : D.Ok (encCal c)) : c.closed.length ≤ 9223372036854775807 := by
  have := (Ok_slice (Ok_agg h (encInts c.closed) (by simp))).1
  simpa using this
section
variable {c : Cal}
theorem cal1 (h : c.week < 0 ∨ 127 ≤ c.week) : calR c = 1 := if_pos h
theorem cal13 (h : 0 ≤ c.week ∧ c.week < 127) (h2 : 64 < (c.closed.length : Int)) : calR c = 13 := by unfold calR; rw [if_neg (by omega), if_pos h2]
theorem cal2 (h : 0 ≤ c.week ∧ c.week < 127) (h2 : (c.closed.length : Int) ≤ 64) (h3 : ∃ x ∈ c.closed, isDay x = false) : calR c = 2 := by
  unfold calR; rw [if_neg (by omega), if_neg (by omega), if_pos (by simpa using h3)]
theorem calA (h : 0 ≤ c.week ∧ c.week < 127) (h2 : (c.closed.length : Int) ≤ 64) (h3 : ∀ x ∈ c.closed, isDay x = true) : calR c = ascF none c.closed := by
  unfold calR; rw [if_neg (by omega), if_neg (by omega), if_neg (by simpa using h3)]
end
def fst7 (w : Int) : Int := (IntKind.i64.wrap (IntKind.i64.wrap (w - wday 0) + 7)).tmod 7
def upToW (d w : Int) : Int := if d < fst7 w then 0 else IntKind.i64.wrap (IntKind.i64.wrap ((IntKind.i64.wrap (d - fst7 w)).tdiv 7) + 1)
theorem upToW_lt {d w : Int} (h : d < fst7 w) : upToW d w = 0 := if_pos h
theorem upToW_ge {d w : Int} (h : fst7 w ≤ d) : upToW d w = IntKind.i64.wrap (IntKind.i64.wrap ((IntKind.i64.wrap (d - fst7 w)).tdiv 7) + 1) := if_neg (by omega)
def wkB (w : Int) (i : Nat) : Bool := bits BinOp.and IntKind.i64 (w.fdiv (2 ^ min i IntKind.i64.bits)) 1 == 0
def weekL (w : Int) : List D := [.bool (wkB w 0), .bool (wkB w 1), .bool (wkB w 2), .bool (wkB w 3), .bool (wkB w 4), .bool (wkB w 5), .bool (wkB w 6)]
@[simp] theorem weekL_length (w : Int) : (weekL w).length = 7 := rfl
@[simp] theorem weekL_getD (w : Int) (i : Nat) : (weekL w)[i]?.getD (D.bool false) = D.bool (decide (i < 7) && wkB w i) := by
  by_cases h : i < 7
  · have : i = 0 ∨ i = 1 ∨ i = 2 ∨ i = 3 ∨ i = 4 ∨ i = 5 ∨ i = 6 := by omega
    rcases this with rfl | rfl | rfl | rfl | rfl | rfl | rfl <;> simp [weekL]
  · rw [List.getElem?_eq_none (by simp; omega)]
    simp [h]
@[simp] theorem weekL_ld (w : Int) : List.take 7 (List.map (C.dat ∘ C.d) (weekL w)) = weekL w := rfl
def cnt7 (w lo hi : Int) : Nat → Int
  | 0 => 0
  | k + 1 => if wkB w k = true then IntKind.i64.wrap (cnt7 w lo hi k + IntKind.i64.wrap (upToW hi k - upToW (IntKind.i64.wrap (lo - 1)) k)) else cnt7 w lo hi k
@[simp] theorem cnt7_zero {w lo hi : Int} : cnt7 w lo hi 0 = 0 := rfl
theorem wday_rng {d : Int} (h0 : 0 ≤ d) (h1 : d ≤ 109572) : 0 ≤ wday d ∧ wday d < 7 := by
  have e : wday d = d % 7 := by
    unfold wday isDay
    rw [if_pos (by simp [h0, h1]), Int.tmod_eq_emod_of_nonneg h0]
  rw [e]; omega
def cntIn (w lo hi d : Int) : Bool := (decide (lo ≤ d) && decide (d ≤ hi)) && (decide (wday d < 7) && wkB w (wday d).toNat)
def cntG (w lo hi : Int) : Int → List Int → Int
  | n, [] => n
  | n, d :: l => if cntIn w lo hi d = true then cntG w lo hi (IntKind.i64.wrap (n - 1)) l else cntG w lo hi n l
def countR (c : Cal) (f t : Int) : Int :=
  if (if 109572 < t then 109572 else t) < (if f < 0 then 0 else f) then 0
  else cntG c.week (if f < 0 then 0 else f) (if 109572 < t then 109572 else t) (cnt7 c.week (if f < 0 then 0 else f) (if 109572 < t then 109572 else t) 7) c.closed
theorem countR_ge {c : Cal} {f t lo hi : Int} (h1 : (if f < 0 then 0 else f) = lo) (h2 : (if 109572 < t then 109572 else t) = hi) (h : lo ≤ hi) : countR c f t = cntG c.week lo hi (cnt7 c.week lo hi 7) c.closed := by
  unfold countR; rw [h1, h2, if_neg (by omega)]
def lateR (r : Rule) (c : Cal) (d b : Int) : Int :=
  if (¬ calR c = 0 ∨ isDay d = false) ∨ isDay b = false then 0
  else if countR c (IntKind.i64.wrap (d + 1)) b ≤ r.grace then 0
  else if r.maxFine < IntKind.i64.wrap (countR c (IntKind.i64.wrap (d + 1)) b * r.fine) then r.maxFine else IntKind.i64.wrap (countR c (IntKind.i64.wrap (d + 1)) b * r.fine)
section
variable {r : Rule} {c : Cal} {d b : Int}
theorem lateR_bad (h : (¬ calR c = 0 ∨ isDay d = false) ∨ isDay b = false) : lateR r c d b = 0 := if_pos h
theorem lateN (h : (calR c = 0 ∧ isDay d = true) ∧ isDay b = true) : ¬ ((¬ calR c = 0 ∨ isDay d = false) ∨ isDay b = false) := by simp [h.1.1, h.1.2, h.2]
theorem lateR_gr (h : (calR c = 0 ∧ isDay d = true) ∧ isDay b = true) (h2 : countR c (IntKind.i64.wrap (d + 1)) b ≤ r.grace) : lateR r c d b = 0 := by
  unfold lateR; rw [if_neg (lateN h), if_pos h2]
theorem lateR_ok (h : (calR c = 0 ∧ isDay d = true) ∧ isDay b = true) (h2 : r.grace < countR c (IntKind.i64.wrap (d + 1)) b) :
    lateR r c d b = if r.maxFine < IntKind.i64.wrap (countR c (IntKind.i64.wrap (d + 1)) b * r.fine) then r.maxFine else IntKind.i64.wrap (countR c (IntKind.i64.wrap (d + 1)) b * r.fine) := by
  unfold lateR; rw [if_neg (lateN h), if_neg (by omega)]
end
def r0 : Rule := ⟨0, 0, 0, 0, 0, 20, 1, 100, 0, 0, 0, 0, 0⟩
def c0 : Cal := ⟨0, []⟩
def l0 : List Charge := [⟨1, 5, 3, 9, 1, 300, 100⟩, ⟨2, 5, 4, 9, 3, 50, 0⟩]
def payO (l : List Charge) (p a : Int) : List Charge := if a < 1 ∨ 100000000 < a then [] else (payF p (a, []) l).2
def payX (l : List Charge) (p a : Int) : Int := if a < 1 ∨ 100000000 < a then 0 else (payF p (a, []) l).1
def payE (_ : List Charge) (_ a : Int) : Int := if a < 1 ∨ 100000000 < a then 1 else 0
theorem payR_tup (l : List Charge) (p a : Int) : payR l p a = .tup [encCharges (payO l p a), .int .i64 (payX l p a), .int .i64 (payE l p a)] := by
  unfold payR payO payX payE
  split <;> rfl
theorem rightF_cons {pr : Option Int} {c : Charge} {l : List Charge} (h : rightF pr (c :: l) = 0) : lowId pr c.id = false ∧ chkC c = 0 ∧ rightF (some c.id) l = 0 := by
  simp only [rightF] at h
  split at h
  · exact absurd h (by decide)
  · rename_i h1
    split at h
    · rename_i h2; exact absurd h h2
    · rename_i h2
      exact ⟨by simpa using h1, by simpa using h2, h⟩
theorem rightF_gt : ∀ (l : List Charge) (m : Int), rightF (some m) l = 0 → ∀ c ∈ l, m < c.id
  | [], _, _, c, hc => by simp at hc
  | x :: l, m, h, c, hc => by
    obtain ⟨h1, _, h3⟩ := rightF_cons h
    have hx : m < x.id := by simpa [lowId] using h1
    rcases List.mem_cons.1 hc with rfl | hc
    · exact hx
    · have := rightF_gt l x.id h3 c hc; omega
theorem chk0_facts {x : Charge} (h : chkC x = 0) : 1 ≤ x.id ∧ x.id ≤ 99999 ∧ 1 ≤ x.amount ∧ x.amount ≤ 100000000 ∧ 0 ≤ x.paid ∧ x.paid < x.amount := by
  unfold chkC at h
  split at h
  · exact absurd h (by decide)
  · split at h
    · exact absurd h (by decide)
    · split at h
      · exact absurd h (by decide)
      · rename_i h1 h2 h3
        have : ¬ (x.id < 1 ∨ 99999 < x.id) := fun hh => h1 (by rcases hh with hh | hh <;> simp [hh])
        omega
theorem rem_none {i : Int} : ∀ (l : List Charge) (o : List Charge) (q n : Int), (∀ c ∈ l, c.id ≠ i) → remF (fun c => c.id == i) (o, q, n) l = (o ++ l, q, n)
  | [], o, q, n, _ => by simp [remF]
  | c :: l, o, q, n, h => by
    have hc : ¬ (c.id = i) := h c (by simp)
    simp only [remF, beq_iff_eq, hc, if_false]
    rw [rem_none l _ q n (fun c' h' => h c' (by simp [h']))]; simp
theorem wv_none {i : Int} : ∀ (l : List Charge) (o : List Charge) (q : Int), (∀ c ∈ l, c.id ≠ i) → wvF i (o, q) l = (o ++ l, q)
  | [], o, q, _ => by simp [wvF]
  | c :: l, o, q, h => by
    have hc : ¬ (c.id = i) := h c (by simp)
    simp only [wvF, hc, if_false]
    rw [wv_none l _ q (fun c' h' => h c' (by simp [h']))]; simp
theorem rem_wv {i : Int} : ∀ (l : List Charge) (pr : Option Int) (o : List Charge), rightF pr l = 0 →
    (∃ x, remF (fun c => c.id == i) (o, 0, 0) l = (x, 0, 0) ∧ wvF i (o, -1) l = (x, -1)) ∨ ∃ x pd, 0 ≤ pd ∧ remF (fun c => c.id == i) (o, 0, 0) l = (x, pd, 1) ∧ wvF i (o, -1) l = (x, pd)
  | [], _, o, _ => .inl ⟨o, by simp [remF], by simp [wvF]⟩
  | c :: l, pr, o, h => by
    obtain ⟨_, h2, h3⟩ := rightF_cons h
    have hf := chk0_facts h2
    by_cases hc : c.id = i
    · right
      have hno : ∀ c' ∈ l, c'.id ≠ i := fun c' hc' => by have := rightF_gt l c.id h3 c' hc'; omega
      have e1 : IntKind.i64.wrap (0 + c.paid) = c.paid := by rw [wrap_i64] <;> omega
      have e2 : IntKind.i64.wrap (0 + 1) = 1 := by rw [wrap_i64] <;> omega
      refine ⟨o ++ l, c.paid, hf.2.2.2.2.1, ?_, ?_⟩
      · simp only [remF, beq_iff_eq, hc, if_true, e1, e2]
        exact rem_none l o _ _ hno
      · simp only [wvF, hc, if_true]
        exact wv_none l o _ hno
    · simp only [remF, wvF, beq_iff_eq, hc, if_false]
      exact rem_wv l (some c.id) (o ++ [c]) h3
theorem wvR_eq {l : List Charge} {i : Int} (h : rightR l = 0) : wvR l i = waiveR l i := by
  have h' : rightF none l = 0 := by
    unfold rightR at h
    split at h
    · exact absurd h (by decide)
    · exact h
  rcases rem_wv (i := i) l none [] h' with ⟨x, h1, h2⟩ | ⟨x, pd, h0, h1, h2⟩
  · unfold wvR waiveR; rw [h1, h2]; simp
  · unfold wvR waiveR; rw [h1, h2]; simp; omega
def wO (l : List Charge) (i : Int) : List Charge := if (remF (fun c => c.id == i) ([], 0, 0) l).2.2 = 0 then [] else (remF (fun c => c.id == i) ([], 0, 0) l).1
def wX (l : List Charge) (i : Int) : Int := if (remF (fun c => c.id == i) ([], 0, 0) l).2.2 = 0 then 0 else (remF (fun c => c.id == i) ([], 0, 0) l).2.1
def wE (l : List Charge) (i : Int) : Int := if (remF (fun c => c.id == i) ([], 0, 0) l).2.2 = 0 then 9 else 0
theorem waiveR_tup (l : List Charge) (i : Int) : waiveR l i = .tup [encCharges (wO l i), .int .i64 (wX l i), .int .i64 (wE l i)] := by
  unfold waiveR wO wX wE; split <;> rfl
theorem rf_rem {p i k : Int} : ∀ (l : List Charge) (o : List Charge) (q n : Int), (rfF p i k (o, q) l).1 = (remF (refP p i k) (o, q, n) l).1 ∧ (rfF p i k (o, q) l).2 = (remF (refP p i k) (o, q, n) l).2.1
  | [], o, q, n => ⟨rfl, rfl⟩
  | c :: l, o, q, n => by
    simp only [rfF, remF]
    split
    · exact rf_rem l o _ _
    · exact rf_rem l _ q n
def addR (l : List Charge) (c : Charge) : RetT := if rightR (l ++ [c]) = 0 then .tup [encCharges (l ++ [c]), .int .i64 0] else .tup [encCharges [], .int .i64 (rightR (l ++ [c]))]
theorem addR_bad {l : List Charge} {c : Charge} (h : ¬ rightR (l ++ [c]) = 0) : addR l c = .tup [encCharges [], .int .i64 (rightR (l ++ [c]))] := if_neg h
theorem addR_ok {l : List Charge} {c : Charge} (h : rightR (l ++ [c]) = 0) : addR l c = .tup [encCharges (l ++ [c]), .int .i64 0] := if_pos h
def copyF (o l : List Charge) : List Charge := o ++ l
def addO (l : List Charge) (c : Charge) : List Charge := if rightR (l ++ [c]) = 0 then l ++ [c] else []
theorem addR_tup (l : List Charge) (c : Charge) : addR l c = .tup [encCharges (addO l c), .int .i64 (rightR (l ++ [c]))] := by
  unfold addR addO
  split
  · rename_i h; rw [h]
  · rfl
def hv : Nat → Int → Int
  | 0, w => w
  | k + 1, w => IntKind.i64.wrap ((hv k w).tdiv 2)
@[simp] theorem hv_zero {w : Int} : hv 0 w = w := rfl
def anyF (d : Int) : Unit → List Int → Bool
  | _, [] => true
  | _, x :: l => if x = d then false else anyF d () l
def openR (c : Cal) (d : Int) : Bool := if d < 0 ∨ 109572 < d then false else if (hv (wday d).toNat c.week).tmod 2 = 1 then false else anyF d () c.closed
section
variable {c : Cal} {d : Int}
theorem openR_out (h : d < 0 ∨ 109572 < d) : openR c d = false := if_pos h
theorem openR_week (h : 0 ≤ d ∧ d ≤ 109572) (h2 : (hv (wday d).toNat c.week).tmod 2 = 1) : openR c d = false := by unfold openR; rw [if_neg (by omega), if_pos h2]
theorem openR_in (h : 0 ≤ d ∧ d ≤ 109572) (h2 : ¬ (hv (wday d).toNat c.week).tmod 2 = 1) : openR c d = anyF d () c.closed := by unfold openR; rw [if_neg (by omega), if_neg h2]
end
def cntN (c : Cal) : Nat → Int → Int → Int
  | 0, _, n => n
  | k + 1, d, n => cntN c k (d + 1) (if openR c d = true then IntKind.i64.wrap (n + 1) else n)
def countD (c : Cal) (f t : Int) : Int := cntN c ((if 109572 < t then 109572 else t) + 1 - (if f < 0 then 0 else f)).toNat (if f < 0 then 0 else f) 0
theorem countD_eq {c : Cal} {f t lo hi : Int} (h1 : (if f < 0 then 0 else f) = lo) (h2 : (if 109572 < t then 109572 else t) = hi) : countD c f t = cntN c (hi + 1 - lo).toNat lo 0 := by
  unfold countD; rw [h1, h2]
def badF : Unit → List Int → Bool
  | _, [] => false
  | _, x :: l => if isDay x = false then true else badF () l
theorem badF_any : ∀ l : List Int, badF () l = l.any (fun n => !isDay n)
  | [] => rfl
  | x :: l => by
    simp only [badF, List.any_cons, badF_any l]
    cases h : isDay x <;> simp
theorem asc_tail : ∀ l : List Int, ascF none l = ascF l.head? l.tail
  | [] => rfl
  | x :: l => by simp [ascF, lowId]
theorem cal2b {c : Cal} (h : 0 ≤ c.week ∧ c.week < 127) (h2 : (c.closed.length : Int) ≤ 64) (h3 : badF () c.closed = true) : calR c = 2 := by
  rw [badF_any] at h3
  unfold calR; rw [if_neg (by omega), if_neg (by omega), if_pos h3]
theorem calAb {c : Cal} (h : 0 ≤ c.week ∧ c.week < 127) (h2 : (c.closed.length : Int) ≤ 64) (h3 : badF () c.closed = false) : calR c = ascF c.closed.head? c.closed.tail := by
  rw [badF_any] at h3
  unfold calR; rw [if_neg (by omega), if_neg (by omega), if_neg (by simp [h3]), asc_tail]
end Pl

/- Calendars: the count by weeks is the count by days. No conditions beyond those at each theorem. -/
namespace Pl
open Go Ab
set_option linter.unusedVariables false
set_option linter.unusedSimpArgs false

def b2i (b : Bool) : Int := if b = true then 1 else 0
theorem b2i_rng (b : Bool) : 0 ≤ b2i b ∧ b2i b ≤ 1 := by cases b <;> simp [b2i]
/-- how many days of [d, d+k) satisfy p -/
def cdays (p : Int → Bool) (d : Int) : Nat → Int
  | 0 => 0
  | k + 1 => cdays p d k + b2i (p (d + k))
theorem cdays_rng (p : Int → Bool) (d : Int) : ∀ k : Nat, 0 ≤ cdays p d k ∧ cdays p d k ≤ k
  | 0 => by simp [cdays]
  | k + 1 => by have := cdays_rng p d k; have := b2i_rng (p (d + k)); simp only [cdays]; omega
theorem cdays_cons (p : Int → Bool) (d : Int) : ∀ k : Nat, cdays p d (k + 1) = b2i (p d) + cdays p (d + 1) k
  | 0 => by simp [cdays]
  | k + 1 => by
    have h := cdays_cons p d k
    rw [cdays, h]
    simp only [cdays]
    have e : d + ((k + 1 : Nat) : Int) = d + 1 + (k : Int) := by omega
    rw [e]; omega
theorem cdays_add (p : Int → Bool) (d : Int) (m : Nat) : ∀ k : Nat, cdays p d (m + k) = cdays p d m + cdays p (d + m) k
  | 0 => by simp [cdays]
  | k + 1 => by
    rw [← Nat.add_assoc]; simp only [cdays]; rw [cdays_add p d m k]
    have e : d + ((m + k : Nat) : Int) = d + m + (k : Int) := by omega
    rw [e]; omega
theorem cdays_congr {p q : Int → Bool} {d : Int} : ∀ k : Nat, (∀ i : Nat, i < k → p (d + i) = q (d + i)) → cdays p d k = cdays q d k
  | 0, _ => rfl
  | k + 1, h => by simp only [cdays]; rw [cdays_congr k (fun i hi => h i (by omega)), h k (by omega)]

theorem cntN_eq (c : Cal) : ∀ (k : Nat) (d n : Int), 0 ≤ n → n + k ≤ 1000000 → cntN c k d n = n + cdays (openR c) d k
  | 0, d, n, _, _ => by simp [cntN, cdays]
  | k + 1, d, n, h0, h1 => by
    rw [cntN, cdays_cons]
    have e : IntKind.i64.wrap (n + 1) = n + 1 := wrap_i64 (by omega) (by omega)
    by_cases ho : openR c d = true
    · rw [if_pos ho, e, cntN_eq c k _ _ (by omega) (by omega)]; simp [b2i, ho]; omega
    · rw [if_neg ho, cntN_eq c k _ _ (by omega) (by omega)]; simp [b2i, ho]

def lo0 (f : Int) : Int := if f < 0 then 0 else f
def hi0 (t : Int) : Int := if 109572 < t then 109572 else t
theorem lo0_rng (f : Int) : 0 ≤ lo0 f ∧ f ≤ lo0 f := by unfold lo0; split <;> omega
theorem hi0_rng (t : Int) : hi0 t ≤ 109572 ∧ hi0 t ≤ t := by unfold hi0; split <;> omega
/-- the open days from f to t -/
def cnt (c : Cal) (f t : Int) : Int := cdays (openR c) (lo0 f) (hi0 t + 1 - lo0 f).toNat
theorem countD_cnt (c : Cal) (f t : Int) : countD c f t = cnt c f t := by
  have h1 := lo0_rng f; have h2 := hi0_rng t
  have e : countD c f t = cntN c (hi0 t + 1 - lo0 f).toNat (lo0 f) 0 := rfl
  rw [e, cntN_eq c _ _ _ (by omega) (by omega), Int.zero_add]; rfl

theorem wk_hv : ∀ (n : Fin 127) (k : Fin 7), wkB (n.val : Int) k.val = !(decide ((hv k.val (n.val : Int)).tmod 2 = 1)) := by decide +kernel
theorem wkB_eq {w : Int} (h0 : 0 ≤ w) (h1 : w < 127) {k : Nat} (hk : k < 7) : wkB w k = !(decide ((hv k w).tmod 2 = 1)) := by
  have := wk_hv ⟨w.toNat, by omega⟩ ⟨k, hk⟩
  have e : ((w.toNat : Nat) : Int) = w := Int.toNat_of_nonneg h0
  simpa only [e] using this
theorem wday_eq {d : Int} (h0 : 0 ≤ d) (h1 : d ≤ 109572) : wday d = d % 7 := by
  unfold wday isDay
  rw [if_pos (by simp [h0, h1]), Int.tmod_eq_emod_of_nonneg h0]
theorem anyF_eq (d : Int) : ∀ l : List Int, anyF d () l = !(decide (d ∈ l))
  | [] => by simp [anyF]
  | x :: l => by
    by_cases h : x = d
    · subst h; simp [anyF]
    · have h' : ¬ d = x := fun e => h e.symm
      simp [anyF, h, h', anyF_eq d l]
/-- the day of the week is open -/
def wkO (c : Cal) (d : Int) : Bool := wkB c.week (d % 7).toNat
theorem calR_facts {c : Cal} (h : calR c = 0) : 0 ≤ c.week ∧ c.week < 127 ∧ c.closed.length ≤ 64 ∧ (∀ x ∈ c.closed, 0 ≤ x ∧ x ≤ 109572) ∧ ascF none c.closed = 0 := by
  unfold calR at h
  split at h
  · exact absurd h (by decide)
  · split at h
    · exact absurd h (by decide)
    · split at h
      · exact absurd h (by decide)
      · rename_i h1 h2 h3
        refine ⟨by omega, by omega, by omega, fun x hx => ?_, h⟩
        simp only [List.any_eq_true, not_exists, not_and] at h3
        have := h3 x hx
        simp [isDay] at this
        exact this
theorem openR_eq {c : Cal} (h : calR c = 0) {d : Int} (h0 : 0 ≤ d) (h1 : d ≤ 109572) : openR c d = (wkO c d && !(decide (d ∈ c.closed))) := by
  obtain ⟨a1, a2, _⟩ := calR_facts h
  unfold openR
  rw [if_neg (by omega), wday_eq h0 h1, anyF_eq]
  unfold wkO
  rw [wkB_eq a1 a2 (by omega)]
  by_cases hh : (hv (d % 7).toNat c.week).tmod 2 = 1
  · simp [hh]
  · simp [hh]
theorem openR_day {c : Cal} {d : Int} (h : openR c d = true) : 0 ≤ d ∧ d ≤ 109572 := by
  unfold openR at h
  split at h
  · cases h
  · omega
/-- ascending lists have no member twice -/
theorem ascF_gt : ∀ (l : List Int) (m : Int), ascF (some m) l = 0 → ∀ x ∈ l, m < x
  | [], _, _, x, hx => by simp at hx
  | y :: l, m, h, x, hx => by
    simp only [ascF] at h
    split at h
    · exact absurd h (by decide)
    · rename_i h1
      have hy : m < y := by simpa [lowId] using h1
      rcases List.mem_cons.1 hx with rfl | hx
      · exact hy
      · have := ascF_gt l y h x hx; omega
theorem ascF_nodup : ∀ (l : List Int) (p : Option Int), ascF p l = 0 → l.Nodup
  | [], _, _ => List.nodup_nil
  | y :: l, p, h => by
    simp only [ascF] at h
    split at h
    · exact absurd h (by decide)
    · refine List.nodup_cons.2 ⟨fun hy => ?_, ascF_nodup l _ h⟩
      have := ascF_gt l y h y hy; omega

/-- days from 0 to a day with a weekday, without wrapping -/
def upz (d k : Int) : Int := if d < k then 0 else (d - k) / 7 + 1
theorem fst7_eq {k : Int} (h0 : 0 ≤ k) (h1 : k < 7) : fst7 k = k := by
  have e0 : wday 0 = 0 := by decide
  unfold fst7
  rw [e0]
  rw [wrap_i64 (n := k - 0) (by omega) (by omega), wrap_i64 (by omega) (by omega), Int.tmod_eq_emod_of_nonneg (by omega)]
  omega
theorem upToW_eq {d k : Int} (h0 : 0 ≤ k) (h1 : k < 7) (hd : -1 ≤ d) (hd2 : d ≤ 109572) : upToW d k = upz d k := by
  unfold upToW upz
  rw [fst7_eq h0 h1]
  by_cases h : d < k
  · rw [if_pos h, if_pos h]
  · rw [if_neg h, if_neg h]
    rw [wrap_i64 (n := d - k) (by omega) (by omega), Int.tdiv_eq_ediv_of_nonneg (by omega), wrap_i64 (n := (d - k) / 7) (by omega) (by omega), wrap_i64 (by omega) (by omega)]
theorem upz_step {d k : Int} (h0 : 0 ≤ k) (h1 : k < 7) (hd : -1 ≤ d) : upz (d + 1) k = upz d k + (if (d + 1) % 7 = k then 1 else 0) := by
  unfold upz
  split <;> split <;> split <;> omega
/-- the count of weekdays below k, without wrapping -/
def c7 (w lo hi : Int) : Nat → Int
  | 0 => 0
  | k + 1 => c7 w lo hi k + b2i (wkB w k) * (upz hi k - upz (lo - 1) k)
theorem upz_rng {lo hi k : Int} (h0 : 0 ≤ k) (h1 : k < 7) (hl : -1 ≤ lo) (hh : lo ≤ hi) : upz lo k ≤ upz hi k ∧ upz hi k - upz lo k ≤ hi - lo := by
  unfold upz; split <;> split <;> omega
theorem c7_rng {w lo hi : Int} (hl : 0 ≤ lo) (hh : lo - 1 ≤ hi) : ∀ k : Nat, k ≤ 7 → 0 ≤ c7 w lo hi k ∧ c7 w lo hi k ≤ k * (hi + 1 - lo)
  | 0, _ => by simp [c7]
  | k + 1, hk => by
    have := c7_rng (w := w) hl hh k (by omega)
    have := upz_rng (lo := lo - 1) (hi := hi) (k := k) (by omega) (by omega) (by omega) hh
    have e : ((k + 1 : Nat) : Int) * (hi + 1 - lo) = k * (hi + 1 - lo) + (hi + 1 - lo) := by
      rw [Int.natCast_add, Int.add_mul]; simp
    simp only [c7]
    rw [e]
    unfold b2i
    split <;> omega
theorem cnt7_eq {w lo hi : Int} (hl : 0 ≤ lo) (hh : lo - 1 ≤ hi) (hh2 : hi ≤ 109572) : ∀ k : Nat, k ≤ 7 → cnt7 w lo hi k = c7 w lo hi k
  | 0, _ => rfl
  | k + 1, hk => by
    have hr := c7_rng (w := w) hl hh k (by omega)
    have hu := upz_rng (lo := lo - 1) (hi := hi) (k := k) (by omega) (by omega) (by omega) hh
    have hm : (k : Int) * (hi + 1 - lo) ≤ 7 * (hi + 1 - lo) := Int.mul_le_mul_of_nonneg_right (by omega) (by omega)
    simp only [cnt7, c7]
    rw [cnt7_eq hl hh hh2 k (by omega), wrap_i64 (n := lo - 1) (by omega) (by omega), upToW_eq (by omega) (by omega) (by omega) hh2, upToW_eq (by omega) (by omega) (by omega) (by omega)]
    unfold b2i
    split
    · rw [wrap_i64 (n := upz hi k - upz (lo - 1) k) (by omega) (by omega), wrap_i64 (by omega) (by omega)]; omega
    · omega
theorem c7_step {w lo hi : Int} (hh : -1 ≤ hi) : ∀ k : Nat, k ≤ 7 → c7 w lo (hi + 1) k = c7 w lo hi k + (if (hi + 1) % 7 < k then b2i (wkB w ((hi + 1) % 7).toNat) else 0)
  | 0, _ => by
    simp only [c7]
    rw [if_neg (by omega)]; rfl
  | k + 1, hk => by
    simp only [c7]
    rw [c7_step hh k (by omega), upz_step (by omega) (by omega) hh]
    by_cases he : (hi + 1) % 7 = (k : Int)
    · rw [he, if_pos rfl, if_neg (by omega), if_pos (by omega)]
      have : ((k : Int)).toNat = k := by omega
      rw [this]
      unfold b2i; split <;> omega
    · rw [if_neg he]
      by_cases h2 : (hi + 1) % 7 < (k : Int)
      · rw [if_pos h2, if_pos (by omega)]; simp; omega
      · rw [if_neg h2, if_neg (by omega)]; simp
/-- closed days between lo and hi that would be open -/
def ccl (w lo hi : Int) : List Int → Int
  | [] => 0
  | d :: l => b2i (decide (lo ≤ d) && decide (d ≤ hi) && wkB w (d % 7).toNat) + ccl w lo hi l
theorem ccl_rng (w lo hi : Int) : ∀ l : List Int, 0 ≤ ccl w lo hi l ∧ ccl w lo hi l ≤ l.length
  | [] => by simp [ccl]
  | d :: l => by
    have := ccl_rng w lo hi l; have := b2i_rng (decide (lo ≤ d) && decide (d ≤ hi) && wkB w (d % 7).toNat)
    simp only [ccl, List.length_cons]; omega
theorem cntG_eq {w lo hi : Int} : ∀ (l : List Int) (n : Int), (∀ x ∈ l, 0 ≤ x ∧ x ≤ 109572) → -1000000 + l.length ≤ n → n ≤ 1000000 → cntG w lo hi n l = n - ccl w lo hi l
  | [], n, _, _, _ => by simp [cntG, ccl]
  | d :: l, n, hd, h1, h2 => by
    have hx := hd d (by simp)
    have hl : ∀ x ∈ l, 0 ≤ x ∧ x ≤ 109572 := fun x h => hd x (by simp [h])
    have e : cntIn w lo hi d = (decide (lo ≤ d) && decide (d ≤ hi) && wkB w (d % 7).toNat) := by
      unfold cntIn
      rw [wday_eq hx.1 hx.2]
      have : d % 7 < 7 := by omega
      simp [this]
    simp only [List.length_cons] at h1
    simp only [cntG, ccl]
    rw [e]
    split
    · rename_i h
      rw [wrap_i64 (by omega) (by omega), cntG_eq l _ hl (by omega) (by omega), h]
      simp [b2i]; omega
    · rename_i h
      rw [cntG_eq l _ hl (by omega) (by omega)]
      simp only [Bool.not_eq_true] at h
      rw [h]; simp [b2i]
theorem ccl_step {w lo hi : Int} (hl : lo ≤ hi + 1) : ∀ l : List Int, l.Nodup → ccl w lo (hi + 1) l = ccl w lo hi l + (if hi + 1 ∈ l then b2i (wkB w ((hi + 1) % 7).toNat) else 0)
  | [], _ => by simp [ccl]
  | d :: l, hn => by
    obtain ⟨h1, h2⟩ := List.nodup_cons.1 hn
    simp only [ccl]
    rw [ccl_step hl l h2]
    by_cases hd : hi + 1 = d
    · subst hd
      rw [if_neg h1, if_pos (by simp)]
      have a1 : decide (lo ≤ hi + 1) = true := by simp [hl]
      have a2 : decide (hi + 1 ≤ hi) = false := by simp; omega
      simp [a1, a2, b2i]; omega
    · have a : decide (d ≤ hi + 1) = decide (d ≤ hi) := by
        by_cases hh : d ≤ hi
        · simp [hh]; omega
        · simp [hh]; omega
      rw [a]
      have : (hi + 1 ∈ d :: l) ↔ (hi + 1 ∈ l) := by simp [hd]
      simp only [this]; omega
theorem ccl_zero {w lo hi : Int} (h : hi < lo) : ∀ l : List Int, ccl w lo hi l = 0
  | [] => rfl
  | d :: l => by
    simp only [ccl]
    rw [ccl_zero h l]
    have : (decide (lo ≤ d) && decide (d ≤ hi)) = false := by
      by_cases hh : lo ≤ d
      · have : ¬ d ≤ hi := by omega
        simp [this]
      · simp [hh]
    simp [this, b2i]
theorem c7_zero {w lo : Int} : ∀ k : Nat, c7 w lo (lo - 1) k = 0
  | 0 => rfl
  | k + 1 => by simp only [c7]; rw [c7_zero k]; simp
/-- THE COUNT by weeks is the count by days. -/
theorem weeks {c : Cal} (h : calR c = 0) {lo : Int} (hl : 0 ≤ lo) : ∀ k : Nat, lo + k ≤ 109573 → c7 c.week lo (lo + k - 1) 7 - ccl c.week lo (lo + k - 1) c.closed = cdays (openR c) lo k
  | 0, _ => by
    have e : lo + ((0 : Nat) : Int) - 1 = lo - 1 := by omega
    rw [e, c7_zero, ccl_zero (by omega)]; rfl
  | k + 1, hk => by
    have ih := weeks h hl k (by omega)
    have e : lo + ((k + 1 : Nat) : Int) - 1 = (lo + k - 1) + 1 := by omega
    obtain ⟨a1, a2, a3, a4, a5⟩ := calR_facts h
    rw [e, c7_step (by omega) 7 (Nat.le_refl _), ccl_step (by omega) _ (ascF_nodup _ _ a5), if_pos (by omega)]
    simp only [cdays]
    rw [← ih]
    have e2 : lo + (k : Int) - 1 + 1 = lo + k := by omega
    rw [e2, openR_eq h (by omega) (by omega)]
    unfold wkO
    by_cases hm : lo + (k : Int) ∈ c.closed
    · simp [hm, b2i]; omega
    · simp [hm]; omega
theorem countR_cnt {c : Cal} (h : calR c = 0) (f t : Int) : countR c f t = cnt c f t := by
  have h1 := lo0_rng f; have h2 := hi0_rng t
  obtain ⟨a1, a2, a3, a4, a5⟩ := calR_facts h
  have e : countR c f t = if hi0 t < lo0 f then 0 else cntG c.week (lo0 f) (hi0 t) (cnt7 c.week (lo0 f) (hi0 t) 7) c.closed := rfl
  rw [e]
  unfold cnt
  split
  · have : (hi0 t + 1 - lo0 f).toNat = 0 := by omega
    rw [this]; rfl
  · have hr := c7_rng (w := c.week) (lo := lo0 f) (hi := hi0 t) (by omega) (by omega) 7 (Nat.le_refl _)
    rw [cnt7_eq (by omega) (by omega) (by omega) 7 (Nat.le_refl _), cntG_eq _ _ a4 (by omega) (by omega)]
    have := weeks h (lo := lo0 f) h1.1 (hi0 t + 1 - lo0 f).toNat (by omega)
    rw [← this]
    have e2 : lo0 f + ((hi0 t + 1 - lo0 f).toNat : Int) - 1 = hi0 t := by omega
    rw [e2]
theorem countR_countD {c : Cal} (h : calR c = 0) (f t : Int) : countR c f t = countD c f t := by rw [countR_cnt h, countD_cnt]
def lateD (r : Rule) (c : Cal) (d b : Int) : Int :=
  if (¬ calR c = 0 ∨ isDay d = false) ∨ isDay b = false then 0
  else if countD c (IntKind.i64.wrap (d + 1)) b ≤ r.grace then 0
  else if r.maxFine < IntKind.i64.wrap (countD c (IntKind.i64.wrap (d + 1)) b * r.fine) then r.maxFine else IntKind.i64.wrap (countD c (IntKind.i64.wrap (d + 1)) b * r.fine)
section
variable {r : Rule} {c : Cal} {d b : Int}
theorem lateD_bad (h : (¬ calR c = 0 ∨ isDay d = false) ∨ isDay b = false) : lateD r c d b = 0 := if_pos h
theorem lateD_gr (h : (calR c = 0 ∧ isDay d = true) ∧ isDay b = true) (h2 : countD c (IntKind.i64.wrap (d + 1)) b ≤ r.grace) : lateD r c d b = 0 := by
  unfold lateD; rw [if_neg (lateN h), if_pos h2]
theorem lateD_ok (h : (calR c = 0 ∧ isDay d = true) ∧ isDay b = true) (h2 : r.grace < countD c (IntKind.i64.wrap (d + 1)) b) :
    lateD r c d b = if r.maxFine < IntKind.i64.wrap (countD c (IntKind.i64.wrap (d + 1)) b * r.fine) then r.maxFine else IntKind.i64.wrap (countD c (IntKind.i64.wrap (d + 1)) b * r.fine) := by
  unfold lateD; rw [if_neg (lateN h), if_neg (by omega)]
end
theorem lateD_eq (r : Rule) (c : Cal) (d b : Int) : lateD r c d b = lateR r c d b := by
  unfold lateD lateR
  by_cases h : calR c = 0
  · rw [countR_countD h]
  · simp [h]
theorem wrap_rng64 (n : Int) : -9223372036854775808 ≤ IntKind.i64.wrap n ∧ IntKind.i64.wrap n ≤ 9223372036854775807 := by rw [IntKind.wrap_i64]; omega
theorem lateR_rng {r : Rule} {c : Cal} {d b : Int} (h : -9223372036854775808 ≤ r.maxFine ∧ r.maxFine ≤ 9223372036854775807) : -9223372036854775808 ≤ lateR r c d b ∧ lateR r c d b ≤ 9223372036854775807 := by
  have := wrap_rng64 (countR c (IntKind.i64.wrap (d + 1)) b * r.fine)
  unfold lateR
  split
  · omega
  · split
    · omega
    · split <;> omega
end Pl

/- Calendars: searching for open days. -/
namespace Pl
open Go Ab
set_option linter.unusedVariables false
set_option linter.unusedSimpArgs false

theorem asc_lt : ∀ (l : List Int) (p : Option Int), ascF p l = 0 → ∀ (i j : Nat) (x y : Int), i < j → l[i]? = some x → l[j]? = some y → x < y
  | [], _, _, i, j, x, y, _, hx, _ => by simp at hx
  | z :: l, p, h, i, j, x, y, hij, hx, hy => by
    simp only [ascF] at h
    split at h
    · exact absurd h (by decide)
    · match i, j, hij, hx, hy with
      | 0, j + 1, _, hx, hy =>
        simp at hx hy; subst hx
        exact ascF_gt l _ h y (List.mem_of_getElem? hy)
      | i + 1, j + 1, hij, hx, hy => exact asc_lt l _ h i j x y (by omega) (by simpa using hx) (by simpa using hy)
/-- where a binary search ends -/
def bsI (l : List Int) (d : Int) : Nat := (l.takeWhile (fun x => decide (x < d))).length
theorem bsI_eq (d : Int) : ∀ (l : List Int) (i : Nat), i ≤ l.length → (∀ k x, k < i → l[k]? = some x → x < d) → (∀ k x, i ≤ k → l[k]? = some x → d ≤ x) → bsI l d = i
  | [], i, hi, _, _ => by simp at hi; subst hi; rfl
  | z :: l, 0, _, _, h2 => by
    have := h2 0 z (Nat.le_refl _) rfl
    unfold bsI
    rw [List.takeWhile_cons_of_neg (by simp; omega)]; rfl
  | z :: l, i + 1, hi, h1, h2 => by
    have := h1 0 z (by omega) rfl
    have ih := bsI_eq d l i (by simpa using hi) (fun k x hk hx => h1 (k + 1) x (by omega) (by simpa using hx)) (fun k x hk hx => h2 (k + 1) x (by omega) (by simpa using hx))
    unfold bsI at ih ⊢
    rw [List.takeWhile_cons_of_pos (by simpa using this), List.length_cons, ih]
theorem bs_mem {d : Int} {l : List Int} {i : Nat} (h1 : ∀ k x, k < i → l[k]? = some x → x < d) (h2 : ∀ k x, i ≤ k → l[k]? = some x → d ≤ x) (hs : ascF none l = 0) : d ∈ l ↔ l[i]? = some d := by
  constructor
  · intro hm
    obtain ⟨k, hk⟩ := List.getElem?_of_mem hm
    by_cases a : k < i
    · have := h1 k d a hk; omega
    · by_cases b : k = i
      · rw [← b]; exact hk
      · have hik : i < k := by omega
        have hlt : i < l.length := by have := (List.getElem?_eq_some_iff.1 hk).1; omega
        have hx := List.getElem?_eq_getElem hlt
        have := asc_lt l none hs i k _ d hik hx hk
        have := h2 i _ (Nat.le_refl _) hx
        omega
  · intro h; exact List.mem_of_getElem? h

def nextN (c : Cal) : Nat → Int → Int × Int
  | 0, _ => (0, 2)
  | k + 1, d => if openR c d = true then (d, 0) else nextN c k (d + 1)
def nextR (c : Cal) (d : Int) : Int × Int := nextN c (109573 - lo0 d).toNat (lo0 d)
def beforeN (c : Cal) : Nat → Int → Int × Int
  | 0, _ => (0, 2)
  | k + 1, d => if openR c d = true then (d, 0) else beforeN c k (d - 1)
def beforeR (c : Cal) (d : Int) : Int × Int := beforeN c (hi0 d + 1).toNat (hi0 d)
def laterN (c : Cal) : Nat → Int → Int × Int
  | 0, d => (d, 0)
  | k + 1, d => if ¬ (nextR c (d + 1)).2 = 0 then (0, (nextR c (d + 1)).2) else laterN c k (nextR c (d + 1)).1
def laterR (c : Cal) (d n : Int) : Int × Int :=
  if n < 0 ∨ 1000 < n then (0, 1) else if d < 0 ∨ 109572 < d then (0, 2) else if n = 0 then nextR c d else laterN c n.toNat d
theorem nextN_spec (c : Cal) : ∀ (k : Nat) (d : Int), 0 ≤ d → d + k = 109573 →
    ((nextN c k d).2 = 0 ∧ d ≤ (nextN c k d).1 ∧ (nextN c k d).1 ≤ 109572 ∧ openR c (nextN c k d).1 = true ∧ ∀ x, d ≤ x → x < (nextN c k d).1 → openR c x = false) ∨
    (nextN c k d = (0, 2) ∧ ∀ x, d ≤ x → openR c x = false)
  | 0, d, h0, h1 => .inr ⟨rfl, fun x hx => by
      cases ho : openR c x with
      | false => rfl
      | true => have := openR_day ho; omega⟩
  | k + 1, d, h0, h1 => by
    simp only [nextN]
    by_cases ho : openR c d = true
    · left
      rw [if_pos ho]
      exact ⟨rfl, Int.le_refl _, by simp only; omega, ho, fun x h1 h2 => by simp only at h2; omega⟩
    · have ho' : openR c d = false := by simpa using ho
      rw [if_neg ho]
      rcases nextN_spec c k (d + 1) (by omega) (by omega) with ⟨a1, a2, a3, a4, a5⟩ | ⟨a1, a2⟩
      · left
        refine ⟨a1, by omega, a3, a4, fun x h1 h2 => ?_⟩
        by_cases hx : x = d
        · subst hx; exact ho'
        · exact a5 x (by omega) h2
      · right
        refine ⟨a1, fun x hx => ?_⟩
        by_cases hx : x = d
        · subst hx; exact ho'
        · exact a2 x (by omega)
theorem nextR_spec (c : Cal) (d : Int) (hd : d ≤ 109573) :
    ((nextR c d).2 = 0 ∧ lo0 d ≤ (nextR c d).1 ∧ (nextR c d).1 ≤ 109572 ∧ openR c (nextR c d).1 = true ∧ ∀ x, lo0 d ≤ x → x < (nextR c d).1 → openR c x = false) ∨
    (nextR c d = (0, 2) ∧ ∀ x, lo0 d ≤ x → openR c x = false) := by
  have := lo0_rng d
  have h : lo0 d ≤ 109573 := by unfold lo0; split <;> omega
  exact nextN_spec c _ _ this.1 (by omega)
theorem nextR_rng (c : Cal) (d : Int) : 0 ≤ (nextR c d).1 ∧ (nextR c d).1 ≤ 109572 ∧ 0 ≤ (nextR c d).2 ∧ (nextR c d).2 ≤ 2 := by
  by_cases hd : d ≤ 109573
  · have := lo0_rng d
    rcases nextR_spec c d hd with ⟨a1, a2, a3, _⟩ | ⟨a1, _⟩
    · omega
    · rw [a1]; simp
  · have : nextR c d = (0, 2) := by
      unfold nextR lo0
      rw [if_neg (by omega)]
      have : (109573 - d).toNat = 0 := by omega
      rw [this]; rfl
    rw [this]; simp
theorem beforeN_spec (c : Cal) : ∀ (k : Nat) (d : Int), d + 1 = k → d ≤ 109572 →
    ((beforeN c k d).2 = 0 ∧ (beforeN c k d).1 ≤ d ∧ 0 ≤ (beforeN c k d).1 ∧ openR c (beforeN c k d).1 = true ∧ ∀ x, x ≤ d → (beforeN c k d).1 < x → openR c x = false) ∨
    (beforeN c k d = (0, 2) ∧ ∀ x, x ≤ d → openR c x = false)
  | 0, d, h0, h1 => .inr ⟨rfl, fun x hx => by
      cases ho : openR c x with
      | false => rfl
      | true => have := openR_day ho; omega⟩
  | k + 1, d, h0, h1 => by
    simp only [beforeN]
    by_cases ho : openR c d = true
    · left
      rw [if_pos ho]
      exact ⟨rfl, Int.le_refl _, by simp only; omega, ho, fun x h1 h2 => by simp only at h2; omega⟩
    · have ho' : openR c d = false := by simpa using ho
      rw [if_neg ho]
      rcases beforeN_spec c k (d - 1) (by omega) (by omega) with ⟨a1, a2, a3, a4, a5⟩ | ⟨a1, a2⟩
      · left
        refine ⟨a1, by omega, a3, a4, fun x h1 h2 => ?_⟩
        by_cases hx : x = d
        · subst hx; exact ho'
        · exact a5 x (by omega) h2
      · right
        refine ⟨a1, fun x hx => ?_⟩
        by_cases hx : x = d
        · subst hx; exact ho'
        · exact a2 x (by omega)
theorem beforeR_spec (c : Cal) (d : Int) (hd : -1 ≤ d) :
    ((beforeR c d).2 = 0 ∧ (beforeR c d).1 ≤ hi0 d ∧ 0 ≤ (beforeR c d).1 ∧ openR c (beforeR c d).1 = true ∧ ∀ x, x ≤ hi0 d → (beforeR c d).1 < x → openR c x = false) ∨
    (beforeR c d = (0, 2) ∧ ∀ x, x ≤ hi0 d → openR c x = false) := by
  have := hi0_rng d
  have h : -1 ≤ hi0 d := by unfold hi0; split <;> omega
  exact beforeN_spec c _ _ (by omega) this.1
theorem beforeR_rng (c : Cal) (d : Int) : 0 ≤ (beforeR c d).1 ∧ (beforeR c d).1 ≤ 109572 ∧ 0 ≤ (beforeR c d).2 ∧ (beforeR c d).2 ≤ 2 := by
  by_cases hd : -1 ≤ d
  · have := hi0_rng d
    rcases beforeR_spec c d hd with ⟨a1, a2, a3, _⟩ | ⟨a1, _⟩
    · omega
    · rw [a1]; simp
  · have : beforeR c d = (0, 2) := by
      unfold beforeR hi0
      rw [if_neg (by omega)]
      have : (d + 1).toNat = 0 := by omega
      rw [this]; rfl
    rw [this]; simp
section
variable {c : Cal} {d n : Int}
theorem laterR_arg (h : n < 0 ∨ 1000 < n) : laterR c d n = (0, 1) := if_pos h
theorem laterR_day (h : 0 ≤ n ∧ n ≤ 1000) (h2 : d < 0 ∨ 109572 < d) : laterR c d n = (0, 2) := by unfold laterR; rw [if_neg (by omega), if_pos h2]
theorem laterR_zero (h2 : 0 ≤ d ∧ d ≤ 109572) : laterR c d 0 = nextR c d := by unfold laterR; rw [if_neg (by omega), if_neg (by omega), if_pos rfl]
theorem laterR_go (h : 0 ≤ n ∧ n ≤ 1000) (h2 : 0 ≤ d ∧ d ≤ 109572) (h3 : ¬ n = 0) : laterR c d n = laterN c n.toNat d := by unfold laterR; rw [if_neg (by omega), if_neg (by omega), if_neg h3]
end
theorem openR_eq2 {c : Cal} (h : calR c = 0) {d : Int} (h0 : 0 ≤ d) (h1 : d ≤ 109572) : openR c d = (!(decide (d ∈ c.closed)) && wkB c.week (wday d).toNat) := by
  rw [openR_eq h h0 h1, wday_eq h0 h1, Bool.and_comm]; rfl
theorem cal_asc {c : Cal} (h : calR c = 0) : ascF none c.closed = 0 := (calR_facts h).2.2.2.2
theorem cal_len64 {c : Cal} (h : calR c = 0) : c.closed.length ≤ 64 := (calR_facts h).2.2.1
theorem half_eq {i j : Nat} (h : i + j ≤ 4000000000000) : IntKind.i64.wrap ((IntKind.u64.wrap (IntKind.i64.wrap ((i : Int) + (j : Int)))).fdiv (2 ^ min 1 IntKind.u64.bits)) = (((i + j) / 2 : Nat) : Int) := by
  have e1 : IntKind.i64.wrap ((i : Int) + (j : Int)) = (i : Int) + (j : Int) := wrap_i64 (by omega) (by omega)
  have e2 : IntKind.u64.wrap ((i : Int) + (j : Int)) = (i : Int) + (j : Int) := by rw [IntKind.wrap_u64]; omega
  have e3 : (2 : Int) ^ min 1 IntKind.u64.bits = 2 := by decide
  rw [e1, e2, e3, Int.fdiv_eq_ediv_of_nonneg _ (by omega), wrap_i64 (by omega) (by omega)]
  omega
theorem bs_end {l : List Int} {d : Int} {i : Nat} (ha : ascF none l = 0) (hi : i ≤ l.length) (h1 : ∀ k y, k < i → l[k]? = some y → y < d) (h2 : ∀ k y, i ≤ k → l[k]? = some y → d ≤ y) :
    (i : Int) = (bsI l d : Int) ∧ (decide (i < l.length) && l[i]?.getD 0 == d) = decide (d ∈ l) := by
  refine ⟨by rw [bsI_eq d l i hi h1 h2], ?_⟩
  have hm := bs_mem h1 h2 ha
  by_cases hlt : i < l.length
  · have hx := List.getElem?_eq_getElem hlt
    rw [hx] at hm ⊢
    by_cases he : l[i] = d
    · simp [hlt, he, hm]
    · simp [hlt, he, hm]
  · have hx : l[i]? = none := List.getElem?_eq_none (by omega)
    rw [hx] at hm
    simp [hlt, hm]
end Pl

/- Calendars: what is counted between what is found. -/
namespace Pl
open Go Ab
set_option linter.unusedVariables false
set_option linter.unusedSimpArgs false

theorem cdays_none {p : Int → Bool} {d : Int} : ∀ k : Nat, (∀ i : Nat, i < k → p (d + i) = false) → cdays p d k = 0
  | 0, _ => rfl
  | k + 1, h => by
    simp only [cdays]
    rw [cdays_none k (fun i hi => h i (by omega)), h k (by omega)]; rfl
theorem cnt_eq (c : Cal) {f t : Int} (h0 : 0 ≤ f) (h1 : t ≤ 109572) : cnt c f t = cdays (openR c) f (t + 1 - f).toNat := by
  unfold cnt lo0 hi0
  rw [if_neg (by omega), if_neg (by omega)]
theorem cnt_none {c : Cal} {f t : Int} (h : ∀ x, f ≤ x → x ≤ t → openR c x = false) : cnt c f t = 0 := by
  have a := lo0_rng f; have b := hi0_rng t
  unfold cnt
  refine cdays_none _ (fun i hi => h _ (by omega) (by omega))
theorem cnt_rng (c : Cal) (f t : Int) : 0 ≤ cnt c f t ∧ cnt c f t ≤ 109573 := by
  have a := lo0_rng f; have b := hi0_rng t
  have := cdays_rng (openR c) (lo0 f) (hi0 t + 1 - lo0 f).toNat
  unfold cnt; omega
theorem cnt_add (c : Cal) {f m t : Int} (h0 : 0 ≤ f) (h1 : f ≤ m + 1) (h2 : m ≤ t) : cnt c f m + cnt c (m + 1) t = cnt c f t := by
  by_cases hm : m ≤ 109571
  · have b := hi0_rng t
    have hb : m ≤ hi0 t := by unfold hi0; split <;> omega
    have e1 : cnt c (m + 1) t = cdays (openR c) (m + 1) (hi0 t + 1 - (m + 1)).toNat := by unfold cnt lo0; rw [if_neg (by omega)]
    have e2 : cnt c f t = cdays (openR c) f (hi0 t + 1 - f).toNat := by unfold cnt lo0; rw [if_neg (by omega)]
    rw [e1, e2, cnt_eq c h0 (by omega)]
    have e3 : (hi0 t + 1 - f).toNat = (m + 1 - f).toNat + (hi0 t + 1 - (m + 1)).toNat := by omega
    have e4 : f + ((m + 1 - f).toNat : Int) = m + 1 := by omega
    rw [e3, cdays_add, e4]
  · have e : ∀ x : Int, 109572 ≤ x → hi0 x = 109572 := fun x hx => by unfold hi0; split <;> omega
    have e1 : cnt c (m + 1) t = 0 := cnt_none (fun x hx _ => by
      cases ho : openR c x with
      | false => rfl
      | true => have := openR_day ho; omega)
    rw [e1]
    unfold cnt
    rw [e m (by omega), e t (by omega)]; omega
theorem cnt_one {c : Cal} {d : Int} (h : openR c d = true) : cnt c d d = 1 := by
  have := openR_day h
  rw [cnt_eq c this.1 this.2]
  have e : (d + 1 - d).toNat = 1 := by omega
  rw [e]; simp [cdays, h, b2i]
theorem cnt_last {c : Cal} {f t : Int} (h0 : 0 ≤ f) (h1 : f ≤ t) (ho : openR c t = true) (hn : ∀ x, f ≤ x → x < t → openR c x = false) : cnt c f t = 1 := by
  have := cnt_add c (f := f) (m := t - 1) (t := t) h0 (by omega) (by omega)
  rw [← this, cnt_none (fun x a b => hn x a (by omega))]
  have e : t - 1 + 1 = t := by omega
  rw [e, cnt_one ho]; rfl
theorem cnt_first {c : Cal} {f t : Int} (h1 : f ≤ t) (ho : openR c f = true) (hn : ∀ x, f < x → x ≤ t → openR c x = false) : cnt c f t = 1 := by
  have hd := openR_day ho
  have := cnt_add c (f := f) (m := f) (t := t) hd.1 (by omega) (by omega)
  rw [← this, cnt_one ho, cnt_none (fun x a b => hn x (by omega) b)]; rfl

theorem lo0_pos {d : Int} (h : 0 ≤ d) : lo0 d = d := by unfold lo0; rw [if_neg (by omega)]
theorem hi0_pos {d : Int} (h : d ≤ 109572) : hi0 d = d := by unfold hi0; rw [if_neg (by omega)]
theorem near_open {c : Cal} {d : Int} (ho : openR c d = true) : nextR c d = (d, 0) ∧ beforeR c d = (d, 0) := by
  have hd := openR_day ho
  constructor
  · have e : (109573 - lo0 d).toNat = (109572 - d).toNat + 1 := by rw [lo0_pos hd.1]; omega
    unfold nextR; rw [e, lo0_pos hd.1, nextN, if_pos ho]
  · have e : (hi0 d + 1).toNat = d.toNat + 1 := by rw [hi0_pos hd.2]; omega
    unfold beforeR; rw [e, hi0_pos hd.2, beforeN, if_pos ho]
theorem near_next {c : Cal} {d : Int} (h0 : 0 ≤ d) (h1 : d ≤ 109572) (ho : openR c d = false) :
    ((nextR c d).2 = 0 ∧ d < (nextR c d).1 ∧ openR c (nextR c d).1 = true ∧ cnt c d (nextR c d).1 = 1) ∨ ((nextR c d).2 = 2 ∧ cnt c d 109572 = 0) := by
  rcases nextR_spec c d (by omega) with ⟨a1, a2, a3, a4, a5⟩ | ⟨a1, a2⟩
  · left
    rw [lo0_pos h0] at a2 a5
    have hne : (nextR c d).1 ≠ d := fun e => by rw [e, ho] at a4; cases a4
    exact ⟨a1, by omega, a4, cnt_last h0 a2 a4 a5⟩
  · right
    rw [a1]
    rw [lo0_pos h0] at a2
    exact ⟨rfl, cnt_none (fun x hx _ => a2 x hx)⟩
theorem near_before {c : Cal} {d : Int} (h0 : 0 ≤ d) (h1 : d ≤ 109572) (ho : openR c d = false) :
    ((beforeR c d).2 = 0 ∧ (beforeR c d).1 < d ∧ openR c (beforeR c d).1 = true ∧ cnt c (beforeR c d).1 d = 1) ∨ ((beforeR c d).2 = 2 ∧ cnt c 0 d = 0) := by
  rcases beforeR_spec c d (by omega) with ⟨a1, a2, a3, a4, a5⟩ | ⟨a1, a2⟩
  · left
    rw [hi0_pos h1] at a2 a5
    have hne : (beforeR c d).1 ≠ d := fun e => by rw [e, ho] at a4; cases a4
    exact ⟨a1, by omega, a4, cnt_first a2 a4 (fun x a b => a5 x b a)⟩
  · right
    rw [a1]
    rw [hi0_pos h1] at a2
    exact ⟨rfl, cnt_none (fun x _ hx => a2 x hx)⟩
theorem laterN_spec {c : Cal} : ∀ (k : Nat) (x : Int), 0 ≤ x → x ≤ 109572 → (laterN c k x).2 = 0 →
    x + k ≤ (laterN c k x).1 ∧ (laterN c k x).1 ≤ 109572 ∧ (0 < k → openR c (laterN c k x).1 = true) ∧ cnt c (x + 1) (laterN c k x).1 = k
  | 0, x, h0, h1, _ => by
    refine ⟨by simp [laterN], h1, fun h => by omega, ?_⟩
    rw [cnt_none (fun y a b => by simp only [laterN] at b; omega)]; rfl
  | k + 1, x, h0, h1, h => by
    simp only [laterN] at h ⊢
    by_cases hz : (nextR c (x + 1)).2 = 0
    · rw [if_neg (by simpa using hz)] at h ⊢
      rcases nextR_spec c (x + 1) (by omega) with ⟨a1, a2, a3, a4, a5⟩ | ⟨a1, _⟩
      · rw [lo0_pos (by omega)] at a2 a5
        obtain ⟨i1, i2, i3, i4⟩ := laterN_spec k _ (by omega) a3 h
        refine ⟨by omega, i2, fun _ => ?_, ?_⟩
        · by_cases hk : 0 < k
          · exact i3 hk
          · have : k = 0 := by omega
            subst this; exact a4
        · rw [← cnt_add c (f := x + 1) (m := (nextR c (x + 1)).1) (by omega) (by omega) (by omega), i4, cnt_last (by omega) a2 a4 a5]; omega
      · rw [a1] at hz; exact absurd hz (by decide)
    · rw [if_pos hz] at h
      exact absurd h hz
theorem later_spec {c : Cal} {d n : Int} (h0 : 0 ≤ d) (h1 : d ≤ 109572) (hn : 0 < n) (hn2 : n ≤ 1000) (h : (laterR c d n).2 = 0) :
    d < (laterR c d n).1 ∧ openR c (laterR c d n).1 = true ∧ cnt c (d + 1) (laterR c d n).1 = n := by
  rw [laterR_go (by omega) (by omega) (by omega)] at h ⊢
  obtain ⟨a1, a2, a3, a4⟩ := laterN_spec n.toNat d h0 h1 h
  exact ⟨by omega, a3 (by omega), by rw [a4]; omega⟩
theorem laterN_rng (c : Cal) : ∀ (k : Nat) (x : Int), 0 ≤ x → x ≤ 109572 → 0 ≤ (laterN c k x).1 ∧ (laterN c k x).1 ≤ 109572 ∧ 0 ≤ (laterN c k x).2 ∧ (laterN c k x).2 ≤ 2
  | 0, x, h0, h1 => by simp [laterN]; omega
  | k + 1, x, h0, h1 => by
    have := nextR_rng c (x + 1)
    simp only [laterN]
    split
    · simp only; omega
    · exact laterN_rng c k _ this.1 this.2.1
theorem laterR_rng (c : Cal) (d n : Int) : 0 ≤ (laterR c d n).1 ∧ (laterR c d n).1 ≤ 109572 ∧ 0 ≤ (laterR c d n).2 ∧ (laterR c d n).2 ≤ 2 := by
  unfold laterR
  split
  · simp
  · split
    · simp
    · split
      · exact nextR_rng c d
      · exact laterN_rng c _ d (by omega) (by omega)
theorem ascF_rng : ∀ (l : List Int) (p : Option Int), 0 ≤ ascF p l ∧ ascF p l ≤ 7
  | [], _ => by simp [ascF]
  | x :: l, p => by
    simp only [ascF]
    split
    · omega
    · exact ascF_rng l _
theorem calR_rng (c : Cal) : 0 ≤ calR c ∧ calR c ≤ 13 := by
  have := ascF_rng c.closed none
  unfold calR
  split
  · omega
  · split
    · omega
    · split
      · omega
      · omega
def c1 : Cal := ⟨96, [46342]⟩
end Pl

/- The policy matrix: what its functions compute. -/
namespace Pl
open Go Ab
set_option linter.unusedVariables false
set_option linter.unusedSimpArgs false

deriving instance DecidableEq for Rule
def zr : Rule := ⟨0, 0, 0, 0, 0, 0, 0, 0, 0, 0, 0, 0, 0⟩
@[simp] theorem encRule_cells (r : Rule) : (encRule r).cells = [.int .i64 r.r0, .int .i64 r.r1, .int .i64 r.r2, .int .i64 r.r3, .int .i64 r.r4, .int .i64 r.fine, .int .i64 r.grace, .int .i64 r.maxFine, .int .i64 r.r8, .int .i64 r.r9, .int .i64 r.r10, .int .i64 r.r11, .int .i64 r.r12] := rfl
def encRules (l : List Rule) : D := .slice (encRule zr) (l.map encRule)
theorem encRules_eq (l : List Rule) : encRules l = .slice (encRule zr) (l.map encRule) := rfl
theorem rules_len {l : List Rule} (h : D.Ok (encRules l)) : l.length ≤ 9223372036854775807 := by
  have := (Ok_slice h).1; simpa using this

def withinB (n a b : Int) : Bool := decide (a ≤ n) && decide (n ≤ b)
def limR (r : Rule) : Bool :=
  ((((((((((((withinB r.r0 0 9 && withinB r.r1 0 9) && withinB r.r2 0 4) && withinB r.r3 0 365) && withinB r.r4 0 10) && withinB r.fine 0 1000) && withinB r.grace 0 30) && withinB r.maxFine 0 100000000) && withinB r.r8 0 99) && withinB r.r9 1 60) && withinB r.r10 1 60) && withinB r.r11 0 109572) && withinB r.r12 0 9)
def limR2 (r : Rule) : Bool :=
  (((((((withinB r.r0 0 9 && withinB r.r1 0 9) && withinB r.r2 0 4) && ((withinB r.r3 0 365 && withinB r.r4 0 10) && withinB r.r8 0 99)) && ((withinB r.fine 0 1000 && withinB r.grace 0 30) && withinB r.maxFine 0 100000000)) && withinB r.r9 1 60) && withinB r.r10 1 60) && withinB r.r11 0 109572) && withinB r.r12 0 9
theorem limR2_eq (r : Rule) : limR2 r = limR r := by
  unfold limR2 limR
  simp only [Bool.and_assoc]
  cases withinB r.r0 0 9 <;> cases withinB r.r1 0 9 <;> cases withinB r.r2 0 4 <;> cases withinB r.r3 0 365 <;> cases withinB r.r4 0 10 <;> simp
  cases withinB r.r8 0 99 <;> simp
def keyB (r o : Rule) : Bool := (o.r0 == r.r0 && o.r1 == r.r1) && o.r2 == r.r2
def rulesF : List Rule → List Rule → Int
  | _, [] => 0
  | p, r :: l => if limR r = false then 2 else if p.any (keyB r) = true then 7 else rulesF (p ++ [r]) l
def rulesR (l : List Rule) : Int := if 32 < l.length then 13 else rulesF [] l
theorem rulesR_full {l : List Rule} (h : 32 < (l.length : Int)) : rulesR l = 13 := if_pos (by omega)
theorem rulesR_ok {l : List Rule} (h : (l.length : Int) ≤ 32) : rulesR l = rulesF [] l := if_neg (by omega)
theorem rulesF_rng : ∀ (l p : List Rule), 0 ≤ rulesF p l ∧ rulesF p l ≤ 7
  | [], _ => by simp [rulesF]
  | r :: l, p => by
    simp only [rulesF]
    split
    · omega
    · split
      · omega
      · exact rulesF_rng l _
theorem rulesR_rng (l : List Rule) : 0 ≤ rulesR l ∧ rulesR l ≤ 13 := by
  have := rulesF_rng l []
  unfold rulesR; split <;> omega

def anyT (p : Rule → Bool) : Unit → List Rule → Bool
  | _, [] => false
  | _, x :: l => if p x = true then true else anyT p () l
theorem anyT_any (p : Rule → Bool) : ∀ l : List Rule, anyT p () l = l.any p
  | [] => rfl
  | x :: l => by simp only [anyT, List.any_cons, anyT_any p l]; cases p x <;> simp
def idxR (p : Rule → Bool) : Int → List Rule → Int
  | _, [] => -1
  | i, x :: l => if p x then i else idxR p (i + 1) l
theorem idxR_any (p : Rule → Bool) : ∀ (l : List Rule) (i : Int), 0 ≤ i → decide (0 ≤ idxR p i l) = l.any p
  | [], i, _ => by simp [idxR]
  | x :: l, i, hi => by
    by_cases hp : p x = true
    · simp [idxR, hp, hi]
    · have hp' : p x = false := by simpa using hp
      simp only [idxR, List.any_cons, hp', Bool.false_eq_true, if_false, Bool.false_or]
      exact idxR_any p l (i + 1) (by omega)

structure Qry where
  p : Int
  i : Int
  b : Int
def fits1 (k n : Int) : Bool := k == 0 || k == n
def fitsB (r : Rule) (q : Qry) : Bool := (fits1 r.r0 q.p && fits1 r.r1 q.i) && fits1 r.r2 q.b
def rkeys (r : Rule) : List Int := [r.r0, r.r1, r.r2]
theorem rkeys_len (r : Rule) : (rkeys r).length = 3 := rfl
def wF : Int → List Int → Int
  | n, [] => n
  | n, k :: l => if k = 0 then wF (IntKind.i64.wrap (n * 2)) l else wF (IntKind.i64.wrap (IntKind.i64.wrap (n * 2) + 1)) l
def wtR (r : Rule) : Int := (if r.r0 = 0 then 0 else 4) + (if r.r1 = 0 then 0 else 2) + (if r.r2 = 0 then 0 else 1)
theorem wF_eq (r : Rule) : wF 0 (rkeys r) = wtR r := by
  unfold rkeys wtR
  simp only [wF]
  have e0 : IntKind.i64.wrap (0 * 2) = 0 := by decide
  have e1 : IntKind.i64.wrap (0 + 1) = 1 := by decide
  have e2 : IntKind.i64.wrap (1 * 2) = 2 := by decide
  have e3 : IntKind.i64.wrap (2 + 1) = 3 := by decide
  have e4 : IntKind.i64.wrap (2 * 2) = 4 := by decide
  have e5 : IntKind.i64.wrap (3 * 2) = 6 := by decide
  have e6 : IntKind.i64.wrap (4 + 1) = 5 := by decide
  have e7 : IntKind.i64.wrap (6 + 1) = 7 := by decide
  simp only [e0, e1, e2, e3, e4, e5, e6, e7]
  split <;> split <;> split <;> rfl
theorem wtR_rng (r : Rule) : 0 ≤ wtR r ∧ wtR r ≤ 7 := by unfold wtR; split <;> split <;> split <;> omega

/-- the row that decides: its index (or -1), its weight -/
def bestF (q : Qry) : Int × Int × Nat → List Rule → Int
  | (at', _, _), [] => at'
  | (at', w, k), x :: l => if fitsB x q = true ∧ (at' < 0 ∨ w < wtR x) then bestF q ((k : Int), wtR x, k + 1) l else bestF q (at', w, k + 1) l
def bestR (l : List Rule) (q : Qry) : Int := bestF q (-1, 0, 0) l
/-- what is known of the best of the first k rows -/
def BestI (l : List Rule) (q : Qry) (k : Nat) (a w : Int) : Prop :=
  (a = -1 ∧ ∀ (j : Nat) x, j < k → l[j]? = some x → fitsB x q = false) ∨
  ∃ (j : Nat) (y : Rule), a = (j : Int) ∧ j < k ∧ l[j]? = some y ∧ w = wtR y ∧ fitsB y q = true ∧
    (∀ (i : Nat) x, i < j → l[i]? = some x → fitsB x q = true → wtR x < wtR y) ∧ ∀ (i : Nat) x, i < k → l[i]? = some x → fitsB x q = true → wtR x ≤ wtR y
theorem BestI.zero (l : List Rule) (q : Qry) : BestI l q 0 (-1) 0 := .inl ⟨rfl, fun j x h => by omega⟩
theorem BestI.step {l : List Rule} {q : Qry} {k : Nat} {a w : Int} {x : Rule} (hx : l[k]? = some x) (h : BestI l q k a w) :
    if fitsB x q = true ∧ (a < 0 ∨ w < wtR x) then BestI l q (k + 1) k (wtR x) else BestI l q (k + 1) a w := by
  rcases h with ⟨rfl, h⟩ | ⟨j, y, rfl, hj, hy, rfl, hf, h1, h2⟩
  · split
    · rename_i hc
      refine .inr ⟨k, x, rfl, by omega, hx, rfl, hc.1, fun i z hi hz hfz => ?_, fun i z hi hz hfz => ?_⟩
      · rw [h i z hi hz] at hfz; cases hfz
      · by_cases e : i = k
        · subst e; rw [hx] at hz; cases hz; exact Int.le_refl _
        · rw [h i z (by omega) hz] at hfz; cases hfz
    · rename_i hc
      refine .inl ⟨rfl, fun i z hi hz => ?_⟩
      by_cases e : i = k
      · subst e; rw [hx] at hz; cases hz
        simp at hc; exact hc
      · exact h i z (by omega) hz
  · split
    · rename_i hc
      have hw : wtR y < wtR x := by have := hc.2; omega
      refine .inr ⟨k, x, rfl, by omega, hx, rfl, hc.1, fun i z hi hz hfz => ?_, fun i z hi hz hfz => ?_⟩
      · have := h2 i z hi hz hfz; omega
      · by_cases e : i = k
        · subst e; rw [hx] at hz; cases hz; exact Int.le_refl _
        · have := h2 i z (by omega) hz hfz; omega
    · rename_i hc
      refine .inr ⟨j, y, rfl, by omega, hy, rfl, hf, h1, fun i z hi hz hfz => ?_⟩
      by_cases e : i = k
      · subst e; rw [hx] at hz; cases hz
        simp only [hfz, true_and, not_or, Int.not_lt] at hc; exact hc.2
      · exact h2 i z (by omega) hz hfz
theorem BestI.rng {l : List Rule} {q : Qry} {k : Nat} {a w : Int} (h : BestI l q k a w) : -1 ≤ a ∧ a < (l.length : Int) := by
  rcases h with ⟨rfl, _⟩ | ⟨j, y, rfl, hj, hy, _⟩
  · omega
  · have := (List.getElem?_eq_some_iff.1 hy).1; omega
theorem BestI.at' {l : List Rule} {q : Qry} {k : Nat} {a w : Int} (h : BestI l q k a w) : 0 ≤ a → w = wtR (l[a.toNat]?.getD zr) := by
  intro h0
  rcases h with ⟨rfl, _⟩ | ⟨j, y, rfl, hj, hy, hw, _⟩
  · omega
  · rw [show ((j : Int)).toNat = j by omega, hy]; exact hw
theorem best_t {a w v x : Int} {b : Bool} (haw : 0 ≤ a → w = v) (h : b = true ∧ (a < 0 ∨ v < x)) : b = true ∧ (a < 0 ∨ w < x) := by
  refine ⟨h.1, ?_⟩
  by_cases h0 : a < 0
  · exact .inl h0
  · rw [haw (by omega)]; exact h.2
theorem best_n {a w v x : Int} {b : Bool} (haw : 0 ≤ a → w = v) (h : b = true → 0 ≤ a ∧ x ≤ v) : ¬ (b = true ∧ (a < 0 ∨ w < x)) := by
  rintro ⟨h1, h2⟩
  have := h h1
  have := haw this.1
  omega
theorem bestF_spec (l : List Rule) (q : Qry) : ∀ (n k : Nat) (a w : Int), n + k = l.length → BestI l q k a w → ∃ w', BestI l q l.length (bestF q (a, w, k) (l.drop k)) w'
  | 0, k, a, w, hn, h => by
    have e : l.drop k = [] := List.drop_eq_nil_of_le (by omega)
    have e2 : k = l.length := by omega
    rw [e]; simp only [bestF]
    exact ⟨w, e2 ▸ h⟩
  | n + 1, k, a, w, hn, h => by
    obtain ⟨x, hx, _, hd⟩ := at_indexG (l := l) (k := k) (by omega)
    rw [hd]; simp only [bestF]
    have hs := h.step hx
    split at hs
    · rename_i hc; rw [if_pos hc]; exact bestF_spec l q n (k + 1) _ _ (by omega) hs
    · rename_i hc; rw [if_neg hc]; exact bestF_spec l q n (k + 1) _ _ (by omega) hs
theorem bestR_spec (l : List Rule) (q : Qry) : ∃ w, BestI l q l.length (bestR l q) w := by
  have := bestF_spec l q l.length 0 (-1) 0 (by omega) (BestI.zero l q)
  unfold bestR; simpa using this
theorem bestR_rng (l : List Rule) (q : Qry) : -1 ≤ bestR l q ∧ bestR l q < l.length := by
  obtain ⟨w, h⟩ := bestR_spec l q
  rcases h with ⟨h, _⟩ | ⟨j, y, h, hj, _⟩ <;> omega
def findR (l : List Rule) (q : Qry) : Rule := if bestR l q < 0 then zr else l[(bestR l q).toNat]?.getD zr
def foundR (l : List Rule) (q : Qry) : Bool := decide (0 ≤ bestR l q)

theorem find_some {l : List Rule} {q : Qry} (h : 0 ≤ bestR l q) : findR l q = l[(bestR l q).toNat]?.getD zr := by unfold findR; rw [if_neg (by omega)]
theorem found_some {l : List Rule} {q : Qry} (h : 0 ≤ bestR l q) : foundR l q = true := by simp [foundR, h]
def lastR (r : Rule) (u : Int) : Int := if 0 < r.r11 then (if r.r11 < u then r.r11 else u) else u
def minI (a b : Int) : Int := if b < a then b else a
def dueA (r : Rule) (c : Cal) (d u : Int) : Int × Int := nextR c (minI (IntKind.i64.wrap (d + r.r3)) (lastR r u))
def dueR (r : Rule) (c : Cal) (d u : Int) : Int × Int :=
  if withinB d 0 109572 = false ∨ withinB u 0 109572 = false then (0, 2)
  else if r.r3 = 0 ∨ lastR r u ≤ d then (0, 15)
  else if (dueA r c d u).2 = 0 ∧ (dueA r c d u).1 ≤ lastR r u then ((dueA r c d u).1, 0)
  else if ¬ (beforeR c (lastR r u)).2 = 0 ∨ (beforeR c (lastR r u)).1 ≤ d then (0, 15)
  else ((beforeR c (lastR r u)).1, 0)
section
variable {r : Rule} {c : Cal} {d u : Int}
theorem due_a (h : withinB d 0 109572 = false ∨ withinB u 0 109572 = false) : dueR r c d u = (0, 2) := if_pos h
theorem due_n (h : withinB d 0 109572 = true ∧ withinB u 0 109572 = true) : ¬ (withinB d 0 109572 = false ∨ withinB u 0 109572 = false) := by simp [h.1, h.2]
theorem due_b (h : withinB d 0 109572 = true ∧ withinB u 0 109572 = true) (h2 : r.r3 = 0 ∨ lastR r u ≤ d) : dueR r c d u = (0, 15) := by
  unfold dueR; rw [if_neg (due_n h), if_pos h2]
theorem due_c (h : withinB d 0 109572 = true ∧ withinB u 0 109572 = true) (h2 : ¬ r.r3 = 0 ∧ d < lastR r u) (h3 : (dueA r c d u).2 = 0 ∧ (dueA r c d u).1 ≤ lastR r u) : dueR r c d u = ((dueA r c d u).1, 0) := by
  unfold dueR; rw [if_neg (due_n h), if_neg (by omega), if_pos h3]
theorem due_d (h : withinB d 0 109572 = true ∧ withinB u 0 109572 = true) (h2 : ¬ r.r3 = 0 ∧ d < lastR r u) (h3 : ¬ ((dueA r c d u).2 = 0 ∧ (dueA r c d u).1 ≤ lastR r u)) (h4 : ¬ (beforeR c (lastR r u)).2 = 0 ∨ (beforeR c (lastR r u)).1 ≤ d) : dueR r c d u = (0, 15) := by
  unfold dueR; rw [if_neg (due_n h), if_neg (by omega), if_neg h3, if_pos h4]
theorem due_e (h : withinB d 0 109572 = true ∧ withinB u 0 109572 = true) (h2 : ¬ r.r3 = 0 ∧ d < lastR r u) (h3 : ¬ ((dueA r c d u).2 = 0 ∧ (dueA r c d u).1 ≤ lastR r u)) (h4 : (beforeR c (lastR r u)).2 = 0 ∧ d < (beforeR c (lastR r u)).1) : dueR r c d u = ((beforeR c (lastR r u)).1, 0) := by
  unfold dueR; rw [if_neg (due_n h), if_neg (by omega), if_neg h3, if_neg (by omega)]
end
theorem limR_facts {r : Rule} (h : limR r = true) : (0 ≤ r.r0 ∧ r.r0 ≤ 9) ∧ (0 ≤ r.r1 ∧ r.r1 ≤ 9) ∧ (0 ≤ r.r2 ∧ r.r2 ≤ 4) ∧ (0 ≤ r.r3 ∧ r.r3 ≤ 365) ∧ 0 ≤ r.r11 ∧ r.r11 ≤ 109572 := by
  simp only [limR, withinB, Bool.and_eq_true, decide_eq_true_eq] at h
  omega
theorem due_gt {r : Rule} {c : Cal} {d u : Int} (hr : limR r = true) (h : withinB d 0 109572 = true ∧ withinB u 0 109572 = true) (h2 : ¬ r.r3 = 0 ∧ d < lastR r u) (h3 : (dueA r c d u).2 = 0) : d < (dueA r c d u).1 := by
  have hf := limR_facts hr
  simp only [withinB, Bool.and_eq_true, decide_eq_true_eq] at h
  have hl : lastR r u ≤ 109572 := by unfold lastR; split <;> (try split) <;> omega
  unfold dueA at h3 ⊢
  rw [wrap_i64 (n := d + r.r3) (by omega) (by omega)] at h3 ⊢
  have hm : d < minI (d + r.r3) (lastR r u) ∧ minI (d + r.r3) (lastR r u) ≤ 109572 := by unfold minI; split <;> omega
  rcases nextR_spec c (minI (d + r.r3) (lastR r u)) (by omega) with ⟨a1, a2, _⟩ | ⟨a1, _⟩
  · rw [lo0_pos (by omega)] at a2; omega
  · rw [a1] at h3; exact absurd h3 (by decide)
structure Loan where
  item : Int
  patron : Int
  out : Int
  due : Int
  ren : Int
  rcl : Bool
  deriving DecidableEq
def encLoan (n : Loan) : D := .agg [.int .i64 n.item, .int .i64 n.patron, .int .i64 n.out, .int .i64 n.due, .int .i64 n.ren, .bool n.rcl]
theorem encLoan_eq (n : Loan) : encLoan n = .agg [.int .i64 n.item, .int .i64 n.patron, .int .i64 n.out, .int .i64 n.due, .int .i64 n.ren, .bool n.rcl] := rfl
def renR (r : Rule) (c : Cal) (n : Loan) (d u : Int) : Int × Int :=
  if r.r4 ≤ n.ren ∨ n.rcl = true then (0, 15)
  else if ¬ (dueR r c d u).2 = 0 then (0, (dueR r c d u).2)
  else if (dueR r c d u).1 ≤ n.due then (0, 15) else ((dueR r c d u).1, 0)
section
variable {r : Rule} {c : Cal} {n : Loan} {d u : Int}
theorem ren_a (h : r.r4 ≤ n.ren ∨ n.rcl = true) : renR r c n d u = (0, 15) := if_pos h
theorem ren_n (h : n.ren < r.r4 ∧ n.rcl = false) : ¬ (r.r4 ≤ n.ren ∨ n.rcl = true) := by simp [h.2]; omega
theorem ren_b (h : n.ren < r.r4 ∧ n.rcl = false) (h2 : ¬ (dueR r c d u).2 = 0) : renR r c n d u = (0, (dueR r c d u).2) := by unfold renR; rw [if_neg (ren_n h), if_pos h2]
theorem ren_c (h : n.ren < r.r4 ∧ n.rcl = false) (h2 : (dueR r c d u).2 = 0) (h3 : (dueR r c d u).1 ≤ n.due) : renR r c n d u = (0, 15) := by unfold renR; rw [if_neg (ren_n h), if_neg (by omega), if_pos h3]
theorem ren_d (h : n.ren < r.r4 ∧ n.rcl = false) (h2 : (dueR r c d u).2 = 0) (h3 : n.due < (dueR r c d u).1) : renR r c n d u = ((dueR r c d u).1, 0) := by unfold renR; rw [if_neg (ren_n h), if_neg (by omega), if_neg (by omega)]
end
end Pl
