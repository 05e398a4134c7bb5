/-
  What the functions compute that the statement reaches: contracts, and the plain laws between them. Conditions stand at each theorem.
-/
import Derived.Test.YtjpjndfdncalfaaDoorEngThree
import Derived.Test.YtjpjndfdncalfaaDoorChecked
set_option linter.unusedVariables false
set_option linter.unusedSimpArgs false
/- The types of this seat, as the layer reads them. -/
set_option maxRecDepth 100000
namespace Go.Proofs.YtjpjndfdncalfaaDoor
open Go Ab

abbrev ti2 : TI := { key := .int .i64, size := 1, bytes := 8, zero := .int .i64 0, zc := [.int .i64 0], eq := [] }
abbrev ti3 : TI := { key := .int .i64, size := 1, bytes := 8, zero := .int .i64 0, zc := [.int .i64 0], eq := [] }
abbrev ti4 : TI := { key := .bool, size := 1, bytes := 1, zero := .bool false, zc := [.bool false], eq := [] }
abbrev ti5 : TI := { key := .int .u8, size := 1, bytes := 1, zero := .int .u8 0, zc := [.int .u8 0], eq := [] }
abbrev ti9 : TI := { key := .string, size := 1, bytes := 16, zero := .string ⟨#[]⟩, zc := [.str []], eq := [] }
abbrev ti12 : TI := { key := .int .u64, size := 1, bytes := 8, zero := .int .u64 0, zc := [.int .u64 0], eq := [] }
abbrev ti15 : TI := { key := .other, size := 1, bytes := 8, zero := .pointer none, zc := [.lit (.pointer none)], eq := [] }
abbrev ti16 : TI := { key := .other, size := 1, bytes := 8, zero := .pointer none, zc := [.lit (.pointer none)], eq := [] }
abbrev ti17 : TI := { key := .other, size := 1, bytes := 8, zero := .pointer none, zc := [.lit (.pointer none)], eq := [] }
abbrev ti21 : TI := { key := .int .i32, size := 1, bytes := 4, zero := .int .i32 0, zc := [.int .i32 0], eq := [] }
abbrev ti22 : TI := { key := .slice 136, size := 1, bytes := 24, zero := .slice none 0 0, zc := [.slice (.agg [.int .i64 0, .int .i64 0, .int .i64 0, .int .i64 0, .int .i64 0, .str [], .int .i64 0, .int .i64 0, .int .i64 0, .int .i64 0]) []], eq := [] }
abbrev ti23 : TI := { key := .slice 64, size := 1, bytes := 24, zero := .slice none 0 0, zc := [.slice (.agg [.int .i64 0, .int .i64 0, .int .i64 0, .int .i64 0, .bool false, .str []]) []], eq := [] }
abbrev ti24 : TI := { key := .slice 47, size := 1, bytes := 24, zero := .slice none 0 0, zc := [.slice (.agg [.int .i64 0, .int .i64 0, .int .i64 0, .int .i64 0, .int .i64 0, .bool false]) []], eq := [] }
abbrev ti25 : TI := { key := .slice 49, size := 1, bytes := 24, zero := .slice none 0 0, zc := [.slice (.agg [.int .i64 0, .int .i64 0, .int .i64 0, .int .i64 0, .int .i64 0, .int .i64 0, .int .i64 0, .int .i64 0, .int .i64 0, .int .i64 0, .int .i64 0]) []], eq := [] }
abbrev ti26 : TI := { key := .slice 138, size := 1, bytes := 24, zero := .slice none 0 0, zc := [.slice (.agg [.int .i64 0, .int .i64 0, .int .i64 0, .int .i64 0, .int .i64 0, .int .i64 0, .int .i64 0]) []], eq := [] }
abbrev ti27 : TI := { key := .slice 140, size := 1, bytes := 24, zero := .slice none 0 0, zc := [.slice (.agg [.int .i64 0, .int .i64 0, .int .i64 0, .int .i64 0, .int .i64 0, .int .i64 0, .int .i64 0, .int .i64 0, .int .i64 0, .int .i64 0, .int .i64 0, .int .i64 0, .int .i64 0]) []], eq := [] }
abbrev ti28 : TI := { key := .slice 3, size := 1, bytes := 24, zero := .slice none 0 0, zc := [.slice (.int .i64 0) []], eq := [] }
abbrev ti29 : TI := { key := .struct [(0, 3), (1, 28)], size := 2, bytes := 32, zero := .agg #[.int .i64 0, .slice none 0 0], zc := [.int .i64 0, .slice (.int .i64 0) []], eq := [] }
abbrev ti30 : TI := { key := .struct [(0, 3), (1, 28)], size := 2, bytes := 32, zero := .agg #[.int .i64 0, .slice none 0 0], zc := [.int .i64 0, .slice (.int .i64 0) []], eq := [] }
abbrev ti31 : TI := { key := .array 4 30, size := 8, bytes := 128, zero := .agg #[.int .i64 0, .slice none 0 0, .int .i64 0, .slice none 0 0, .int .i64 0, .slice none 0 0, .int .i64 0, .slice none 0 0], zc := [.int .i64 0, .slice (.int .i64 0) [], .int .i64 0, .slice (.int .i64 0) [], .int .i64 0, .slice (.int .i64 0) [], .int .i64 0, .slice (.int .i64 0) []], eq := [] }
abbrev ti32 : TI := { key := .slice 142, size := 1, bytes := 24, zero := .slice none 0 0, zc := [.slice (.agg [.int .i64 0, .int .i64 0, .int .i64 0, .int .i64 0, .int .i64 0]) []], eq := [] }
abbrev ti33 : TI := { key := .struct [(0, 3), (1, 22), (2, 23), (3, 24), (4, 25), (5, 26), (6, 27), (7, 31), (15, 32), (16, 3), (17, 3), (18, 4)], size := 19, bytes := 328, zero := .agg #[.int .i64 0, .slice none 0 0, .slice none 0 0, .slice none 0 0, .slice none 0 0, .slice none 0 0, .slice none 0 0, .int .i64 0, .slice none 0 0, .int .i64 0, .slice none 0 0, .int .i64 0, .slice none 0 0, .int .i64 0, .slice none 0 0, .slice none 0 0, .int .i64 0, .int .i64 0, .bool false], zc := [.int .i64 0, .slice (.agg [.int .i64 0, .int .i64 0, .int .i64 0, .int .i64 0, .int .i64 0, .str [], .int .i64 0, .int .i64 0, .int .i64 0, .int .i64 0]) [], .slice (.agg [.int .i64 0, .int .i64 0, .int .i64 0, .int .i64 0, .bool false, .str []]) [], .slice (.agg [.int .i64 0, .int .i64 0, .int .i64 0, .int .i64 0, .int .i64 0, .bool false]) [], .slice (.agg [.int .i64 0, .int .i64 0, .int .i64 0, .int .i64 0, .int .i64 0, .int .i64 0, .int .i64 0, .int .i64 0, .int .i64 0, .int .i64 0, .int .i64 0]) [], .slice (.agg [.int .i64 0, .int .i64 0, .int .i64 0, .int .i64 0, .int .i64 0, .int .i64 0, .int .i64 0]) [], .slice (.agg [.int .i64 0, .int .i64 0, .int .i64 0, .int .i64 0, .int .i64 0, .int .i64 0, .int .i64 0, .int .i64 0, .int .i64 0, .int .i64 0, .int .i64 0, .int .i64 0, .int .i64 0]) [], .int .i64 0, .slice (.int .i64 0) [], .int .i64 0, .slice (.int .i64 0) [], .int .i64 0, .slice (.int .i64 0) [], .int .i64 0, .slice (.int .i64 0) [], .slice (.agg [.int .i64 0, .int .i64 0, .int .i64 0, .int .i64 0, .int .i64 0]) [], .int .i64 0, .int .i64 0, .bool false], eq := [] }
abbrev ti34 : TI := { key := .struct [(0, 3), (1, 22), (2, 23), (3, 24), (4, 25), (5, 26), (6, 27), (7, 31), (15, 32), (16, 3), (17, 3), (18, 4)], size := 19, bytes := 328, zero := .agg #[.int .i64 0, .slice none 0 0, .slice none 0 0, .slice none 0 0, .slice none 0 0, .slice none 0 0, .slice none 0 0, .int .i64 0, .slice none 0 0, .int .i64 0, .slice none 0 0, .int .i64 0, .slice none 0 0, .int .i64 0, .slice none 0 0, .slice none 0 0, .int .i64 0, .int .i64 0, .bool false], zc := [.int .i64 0, .slice (.agg [.int .i64 0, .int .i64 0, .int .i64 0, .int .i64 0, .int .i64 0, .str [], .int .i64 0, .int .i64 0, .int .i64 0, .int .i64 0]) [], .slice (.agg [.int .i64 0, .int .i64 0, .int .i64 0, .int .i64 0, .bool false, .str []]) [], .slice (.agg [.int .i64 0, .int .i64 0, .int .i64 0, .int .i64 0, .int .i64 0, .bool false]) [], .slice (.agg [.int .i64 0, .int .i64 0, .int .i64 0, .int .i64 0, .int .i64 0, .int .i64 0, .int .i64 0, .int .i64 0, .int .i64 0, .int .i64 0, .int .i64 0]) [], .slice (.agg [.int .i64 0, .int .i64 0, .int .i64 0, .int .i64 0, .int .i64 0, .int .i64 0, .int .i64 0]) [], .slice (.agg [.int .i64 0, .int .i64 0, .int .i64 0, .int .i64 0, .int .i64 0, .int .i64 0, .int .i64 0, .int .i64 0, .int .i64 0, .int .i64 0, .int .i64 0, .int .i64 0, .int .i64 0]) [], .int .i64 0, .slice (.int .i64 0) [], .int .i64 0, .slice (.int .i64 0) [], .int .i64 0, .slice (.int .i64 0) [], .int .i64 0, .slice (.int .i64 0) [], .slice (.agg [.int .i64 0, .int .i64 0, .int .i64 0, .int .i64 0, .int .i64 0]) [], .int .i64 0, .int .i64 0, .bool false], eq := [] }
abbrev ti38 : TI := { key := .slice 42, size := 1, bytes := 24, zero := .slice none 0 0, zc := [.slice (.agg [.int .i64 0, .int .i64 0, .int .i64 0, .int .i64 0]) []], eq := [] }
abbrev ti41 : TI := { key := .struct [(0, 3), (1, 3), (2, 3), (3, 3)], size := 4, bytes := 32, zero := .agg #[.int .i64 0, .int .i64 0, .int .i64 0, .int .i64 0], zc := [.int .i64 0, .int .i64 0, .int .i64 0, .int .i64 0], eq := [0, 0, 0, 0] }
abbrev ti42 : TI := { key := .struct [(0, 3), (1, 3), (2, 3), (3, 3)], size := 4, bytes := 32, zero := .agg #[.int .i64 0, .int .i64 0, .int .i64 0, .int .i64 0], zc := [.int .i64 0, .int .i64 0, .int .i64 0, .int .i64 0], eq := [0, 0, 0, 0] }
abbrev ti46 : TI := { key := .struct [(0, 3), (1, 3), (2, 3), (3, 3), (4, 3), (5, 4)], size := 6, bytes := 48, zero := .agg #[.int .i64 0, .int .i64 0, .int .i64 0, .int .i64 0, .int .i64 0, .bool false], zc := [.int .i64 0, .int .i64 0, .int .i64 0, .int .i64 0, .int .i64 0, .bool false], eq := [0, 0, 0, 0, 0, 1] }
abbrev ti47 : TI := { key := .struct [(0, 3), (1, 3), (2, 3), (3, 3), (4, 3), (5, 4)], size := 6, bytes := 48, zero := .agg #[.int .i64 0, .int .i64 0, .int .i64 0, .int .i64 0, .int .i64 0, .bool false], zc := [.int .i64 0, .int .i64 0, .int .i64 0, .int .i64 0, .int .i64 0, .bool false], eq := [0, 0, 0, 0, 0, 1] }
abbrev ti48 : TI := { key := .struct [(0, 3), (1, 3), (2, 3), (3, 3), (4, 3), (5, 3), (6, 3), (7, 3), (8, 3), (9, 3), (10, 3)], size := 11, bytes := 88, zero := .agg #[.int .i64 0, .int .i64 0, .int .i64 0, .int .i64 0, .int .i64 0, .int .i64 0, .int .i64 0, .int .i64 0, .int .i64 0, .int .i64 0, .int .i64 0], zc := [.int .i64 0, .int .i64 0, .int .i64 0, .int .i64 0, .int .i64 0, .int .i64 0, .int .i64 0, .int .i64 0, .int .i64 0, .int .i64 0, .int .i64 0], eq := [0, 0, 0, 0, 0, 0, 0, 0, 0, 0, 0] }
abbrev ti49 : TI := { key := .struct [(0, 3), (1, 3), (2, 3), (3, 3), (4, 3), (5, 3), (6, 3), (7, 3), (8, 3), (9, 3), (10, 3)], size := 11, bytes := 88, zero := .agg #[.int .i64 0, .int .i64 0, .int .i64 0, .int .i64 0, .int .i64 0, .int .i64 0, .int .i64 0, .int .i64 0, .int .i64 0, .int .i64 0, .int .i64 0], zc := [.int .i64 0, .int .i64 0, .int .i64 0, .int .i64 0, .int .i64 0, .int .i64 0, .int .i64 0, .int .i64 0, .int .i64 0, .int .i64 0, .int .i64 0], eq := [0, 0, 0, 0, 0, 0, 0, 0, 0, 0, 0] }
abbrev ti50 : TI := { key := .array 5 3, size := 5, bytes := 40, zero := .agg #[.int .i64 0, .int .i64 0, .int .i64 0, .int .i64 0, .int .i64 0], zc := [.int .i64 0, .int .i64 0, .int .i64 0, .int .i64 0, .int .i64 0], eq := [0, 0, 0, 0, 0] }
abbrev ti63 : TI := { key := .struct [(0, 3), (1, 3), (2, 3), (3, 3), (4, 4), (5, 9)], size := 6, bytes := 56, zero := .agg #[.int .i64 0, .int .i64 0, .int .i64 0, .int .i64 0, .bool false, .string ⟨#[]⟩], zc := [.int .i64 0, .int .i64 0, .int .i64 0, .int .i64 0, .bool false, .str []], eq := [0, 0, 0, 0, 1, 2] }
abbrev ti64 : TI := { key := .struct [(0, 3), (1, 3), (2, 3), (3, 3), (4, 4), (5, 9)], size := 6, bytes := 56, zero := .agg #[.int .i64 0, .int .i64 0, .int .i64 0, .int .i64 0, .bool false, .string ⟨#[]⟩], zc := [.int .i64 0, .int .i64 0, .int .i64 0, .int .i64 0, .bool false, .str []], eq := [0, 0, 0, 0, 1, 2] }
abbrev ti74 : TI := { key := .int .i64, size := 1, bytes := 8, zero := .int .i64 0, zc := [.int .i64 0], eq := [] }
abbrev ti78 : TI := { key := .slice 5, size := 1, bytes := 24, zero := .slice none 0 0, zc := [.slice (.int .u8 0) []], eq := [] }
abbrev ti85 : TI := { key := .int .u64, size := 1, bytes := 8, zero := .int .u64 0, zc := [.int .u64 0], eq := [] }
abbrev ti86 : TI := { key := .array 24 5, size := 24, bytes := 24, zero := .agg #[.int .u8 0, .int .u8 0, .int .u8 0, .int .u8 0, .int .u8 0, .int .u8 0, .int .u8 0, .int .u8 0, .int .u8 0, .int .u8 0, .int .u8 0, .int .u8 0, .int .u8 0, .int .u8 0, .int .u8 0, .int .u8 0, .int .u8 0, .int .u8 0, .int .u8 0, .int .u8 0, .int .u8 0, .int .u8 0, .int .u8 0, .int .u8 0], zc := [.int .u8 0, .int .u8 0, .int .u8 0, .int .u8 0, .int .u8 0, .int .u8 0, .int .u8 0, .int .u8 0, .int .u8 0, .int .u8 0, .int .u8 0, .int .u8 0, .int .u8 0, .int .u8 0, .int .u8 0, .int .u8 0, .int .u8 0, .int .u8 0, .int .u8 0, .int .u8 0, .int .u8 0, .int .u8 0, .int .u8 0, .int .u8 0], eq := [] }
abbrev ti87 : TI := { key := .int .u64, size := 1, bytes := 8, zero := .int .u64 0, zc := [.int .u64 0], eq := [] }
abbrev ti92 : TI := { key := .array 12 3, size := 12, bytes := 96, zero := .agg #[.int .i64 0, .int .i64 0, .int .i64 0, .int .i64 0, .int .i64 0, .int .i64 0, .int .i64 0, .int .i64 0, .int .i64 0, .int .i64 0, .int .i64 0, .int .i64 0], zc := [.int .i64 0, .int .i64 0, .int .i64 0, .int .i64 0, .int .i64 0, .int .i64 0, .int .i64 0, .int .i64 0, .int .i64 0, .int .i64 0, .int .i64 0, .int .i64 0], eq := [0, 0, 0, 0, 0, 0, 0, 0, 0, 0, 0, 0] }
abbrev ti96 : TI := { key := .other, size := 1, bytes := 8, zero := .pointer none, zc := [.lit (.pointer none)], eq := [] }
abbrev ti97 : TI := { key := .struct [(0, 96), (1, 78)], size := 2, bytes := 32, zero := .agg #[.pointer none, .slice none 0 0], zc := [.lit (.pointer none), .slice (.int .u8 0) []], eq := [] }
abbrev ti98 : TI := { key := .struct [(0, 96), (1, 78)], size := 2, bytes := 32, zero := .agg #[.pointer none, .slice none 0 0], zc := [.lit (.pointer none), .slice (.int .u8 0) []], eq := [] }
abbrev ti106 : TI := { key := .array 20 87, size := 20, bytes := 160, zero := .agg #[.int .u64 0, .int .u64 0, .int .u64 0, .int .u64 0, .int .u64 0, .int .u64 0, .int .u64 0, .int .u64 0, .int .u64 0, .int .u64 0, .int .u64 0, .int .u64 0, .int .u64 0, .int .u64 0, .int .u64 0, .int .u64 0, .int .u64 0, .int .u64 0, .int .u64 0, .int .u64 0], zc := [.int .u64 0, .int .u64 0, .int .u64 0, .int .u64 0, .int .u64 0, .int .u64 0, .int .u64 0, .int .u64 0, .int .u64 0, .int .u64 0, .int .u64 0, .int .u64 0, .int .u64 0, .int .u64 0, .int .u64 0, .int .u64 0, .int .u64 0, .int .u64 0, .int .u64 0, .int .u64 0], eq := [] }
abbrev ti107 : TI := { key := .int .u32, size := 1, bytes := 4, zero := .int .u32 0, zc := [.int .u32 0], eq := [] }
abbrev ti108 : TI := { key := .array 65 5, size := 65, bytes := 65, zero := .agg #[.int .u8 0, .int .u8 0, .int .u8 0, .int .u8 0, .int .u8 0, .int .u8 0, .int .u8 0, .int .u8 0, .int .u8 0, .int .u8 0, .int .u8 0, .int .u8 0, .int .u8 0, .int .u8 0, .int .u8 0, .int .u8 0, .int .u8 0, .int .u8 0, .int .u8 0, .int .u8 0, .int .u8 0, .int .u8 0, .int .u8 0, .int .u8 0, .int .u8 0, .int .u8 0, .int .u8 0, .int .u8 0, .int .u8 0, .int .u8 0, .int .u8 0, .int .u8 0, .int .u8 0, .int .u8 0, .int .u8 0, .int .u8 0, .int .u8 0, .int .u8 0, .int .u8 0, .int .u8 0, .int .u8 0, .int .u8 0, .int .u8 0, .int .u8 0, .int .u8 0, .int .u8 0, .int .u8 0, .int .u8 0, .int .u8 0, .int .u8 0, .int .u8 0, .int .u8 0, .int .u8 0, .int .u8 0, .int .u8 0, .int .u8 0, .int .u8 0, .int .u8 0, .int .u8 0, .int .u8 0, .int .u8 0, .int .u8 0, .int .u8 0, .int .u8 0, .int .u8 0], zc := [.int .u8 0, .int .u8 0, .int .u8 0, .int .u8 0, .int .u8 0, .int .u8 0, .int .u8 0, .int .u8 0, .int .u8 0, .int .u8 0, .int .u8 0, .int .u8 0, .int .u8 0, .int .u8 0, .int .u8 0, .int .u8 0, .int .u8 0, .int .u8 0, .int .u8 0, .int .u8 0, .int .u8 0, .int .u8 0, .int .u8 0, .int .u8 0, .int .u8 0, .int .u8 0, .int .u8 0, .int .u8 0, .int .u8 0, .int .u8 0, .int .u8 0, .int .u8 0, .int .u8 0, .int .u8 0, .int .u8 0, .int .u8 0, .int .u8 0, .int .u8 0, .int .u8 0, .int .u8 0, .int .u8 0, .int .u8 0, .int .u8 0, .int .u8 0, .int .u8 0, .int .u8 0, .int .u8 0, .int .u8 0, .int .u8 0, .int .u8 0, .int .u8 0, .int .u8 0, .int .u8 0, .int .u8 0, .int .u8 0, .int .u8 0, .int .u8 0, .int .u8 0, .int .u8 0, .int .u8 0, .int .u8 0, .int .u8 0, .int .u8 0, .int .u8 0, .int .u8 0], eq := [] }
abbrev ti114 : TI := { key := .other, size := 1, bytes := 8, zero := .pointer none, zc := [.lit (.pointer none)], eq := [] }
abbrev ti119 : TI := { key := .array 32 5, size := 32, bytes := 32, zero := .agg #[.int .u8 0, .int .u8 0, .int .u8 0, .int .u8 0, .int .u8 0, .int .u8 0, .int .u8 0, .int .u8 0, .int .u8 0, .int .u8 0, .int .u8 0, .int .u8 0, .int .u8 0, .int .u8 0, .int .u8 0, .int .u8 0, .int .u8 0, .int .u8 0, .int .u8 0, .int .u8 0, .int .u8 0, .int .u8 0, .int .u8 0, .int .u8 0, .int .u8 0, .int .u8 0, .int .u8 0, .int .u8 0, .int .u8 0, .int .u8 0, .int .u8 0, .int .u8 0], zc := [.int .u8 0, .int .u8 0, .int .u8 0, .int .u8 0, .int .u8 0, .int .u8 0, .int .u8 0, .int .u8 0, .int .u8 0, .int .u8 0, .int .u8 0, .int .u8 0, .int .u8 0, .int .u8 0, .int .u8 0, .int .u8 0, .int .u8 0, .int .u8 0, .int .u8 0, .int .u8 0, .int .u8 0, .int .u8 0, .int .u8 0, .int .u8 0, .int .u8 0, .int .u8 0, .int .u8 0, .int .u8 0, .int .u8 0, .int .u8 0, .int .u8 0, .int .u8 0], eq := [] }
abbrev ti120 : TI := { key := .array 64 5, size := 64, bytes := 64, zero := .agg #[.int .u8 0, .int .u8 0, .int .u8 0, .int .u8 0, .int .u8 0, .int .u8 0, .int .u8 0, .int .u8 0, .int .u8 0, .int .u8 0, .int .u8 0, .int .u8 0, .int .u8 0, .int .u8 0, .int .u8 0, .int .u8 0, .int .u8 0, .int .u8 0, .int .u8 0, .int .u8 0, .int .u8 0, .int .u8 0, .int .u8 0, .int .u8 0, .int .u8 0, .int .u8 0, .int .u8 0, .int .u8 0, .int .u8 0, .int .u8 0, .int .u8 0, .int .u8 0, .int .u8 0, .int .u8 0, .int .u8 0, .int .u8 0, .int .u8 0, .int .u8 0, .int .u8 0, .int .u8 0, .int .u8 0, .int .u8 0, .int .u8 0, .int .u8 0, .int .u8 0, .int .u8 0, .int .u8 0, .int .u8 0, .int .u8 0, .int .u8 0, .int .u8 0, .int .u8 0, .int .u8 0, .int .u8 0, .int .u8 0, .int .u8 0, .int .u8 0, .int .u8 0, .int .u8 0, .int .u8 0, .int .u8 0, .int .u8 0, .int .u8 0, .int .u8 0], zc := [.int .u8 0, .int .u8 0, .int .u8 0, .int .u8 0, .int .u8 0, .int .u8 0, .int .u8 0, .int .u8 0, .int .u8 0, .int .u8 0, .int .u8 0, .int .u8 0, .int .u8 0, .int .u8 0, .int .u8 0, .int .u8 0, .int .u8 0, .int .u8 0, .int .u8 0, .int .u8 0, .int .u8 0, .int .u8 0, .int .u8 0, .int .u8 0, .int .u8 0, .int .u8 0, .int .u8 0, .int .u8 0, .int .u8 0, .int .u8 0, .int .u8 0, .int .u8 0, .int .u8 0, .int .u8 0, .int .u8 0, .int .u8 0, .int .u8 0, .int .u8 0, .int .u8 0, .int .u8 0, .int .u8 0, .int .u8 0, .int .u8 0, .int .u8 0, .int .u8 0, .int .u8 0, .int .u8 0, .int .u8 0, .int .u8 0, .int .u8 0, .int .u8 0, .int .u8 0, .int .u8 0, .int .u8 0, .int .u8 0, .int .u8 0, .int .u8 0, .int .u8 0, .int .u8 0, .int .u8 0, .int .u8 0, .int .u8 0, .int .u8 0, .int .u8 0], eq := [] }
abbrev ti133 : TI := { key := .struct [(0, 3), (1, 3), (2, 3), (3, 3)], size := 4, bytes := 32, zero := .agg #[.int .i64 0, .int .i64 0, .int .i64 0, .int .i64 0], zc := [.int .i64 0, .int .i64 0, .int .i64 0, .int .i64 0], eq := [0, 0, 0, 0] }
abbrev ti134 : TI := { key := .struct [(0, 3), (1, 3), (2, 3), (3, 3)], size := 4, bytes := 32, zero := .agg #[.int .i64 0, .int .i64 0, .int .i64 0, .int .i64 0], zc := [.int .i64 0, .int .i64 0, .int .i64 0, .int .i64 0], eq := [0, 0, 0, 0] }
abbrev ti135 : TI := { key := .struct [(0, 3), (1, 3), (2, 3), (3, 3), (4, 3), (5, 9), (6, 134)], size := 10, bytes := 88, zero := .agg #[.int .i64 0, .int .i64 0, .int .i64 0, .int .i64 0, .int .i64 0, .string ⟨#[]⟩, .int .i64 0, .int .i64 0, .int .i64 0, .int .i64 0], zc := [.int .i64 0, .int .i64 0, .int .i64 0, .int .i64 0, .int .i64 0, .str [], .int .i64 0, .int .i64 0, .int .i64 0, .int .i64 0], eq := [] }
abbrev ti136 : TI := { key := .struct [(0, 3), (1, 3), (2, 3), (3, 3), (4, 3), (5, 9), (6, 134)], size := 10, bytes := 88, zero := .agg #[.int .i64 0, .int .i64 0, .int .i64 0, .int .i64 0, .int .i64 0, .string ⟨#[]⟩, .int .i64 0, .int .i64 0, .int .i64 0, .int .i64 0], zc := [.int .i64 0, .int .i64 0, .int .i64 0, .int .i64 0, .int .i64 0, .str [], .int .i64 0, .int .i64 0, .int .i64 0, .int .i64 0], eq := [] }
abbrev ti137 : TI := { key := .struct [(0, 3), (1, 3), (2, 3), (3, 3), (4, 3), (5, 3), (6, 3)], size := 7, bytes := 56, zero := .agg #[.int .i64 0, .int .i64 0, .int .i64 0, .int .i64 0, .int .i64 0, .int .i64 0, .int .i64 0], zc := [.int .i64 0, .int .i64 0, .int .i64 0, .int .i64 0, .int .i64 0, .int .i64 0, .int .i64 0], eq := [0, 0, 0, 0, 0, 0, 0] }
abbrev ti138 : TI := { key := .struct [(0, 3), (1, 3), (2, 3), (3, 3), (4, 3), (5, 3), (6, 3)], size := 7, bytes := 56, zero := .agg #[.int .i64 0, .int .i64 0, .int .i64 0, .int .i64 0, .int .i64 0, .int .i64 0, .int .i64 0], zc := [.int .i64 0, .int .i64 0, .int .i64 0, .int .i64 0, .int .i64 0, .int .i64 0, .int .i64 0], eq := [0, 0, 0, 0, 0, 0, 0] }
abbrev ti139 : TI := { key := .struct [(0, 3), (1, 3), (2, 3), (3, 3), (4, 3), (5, 3), (6, 3), (7, 3), (8, 3), (9, 3), (10, 3), (11, 3), (12, 3)], size := 13, bytes := 104, zero := .agg #[.int .i64 0, .int .i64 0, .int .i64 0, .int .i64 0, .int .i64 0, .int .i64 0, .int .i64 0, .int .i64 0, .int .i64 0, .int .i64 0, .int .i64 0, .int .i64 0, .int .i64 0], zc := [.int .i64 0, .int .i64 0, .int .i64 0, .int .i64 0, .int .i64 0, .int .i64 0, .int .i64 0, .int .i64 0, .int .i64 0, .int .i64 0, .int .i64 0, .int .i64 0, .int .i64 0], eq := [0, 0, 0, 0, 0, 0, 0, 0, 0, 0, 0, 0, 0] }
abbrev ti140 : TI := { key := .struct [(0, 3), (1, 3), (2, 3), (3, 3), (4, 3), (5, 3), (6, 3), (7, 3), (8, 3), (9, 3), (10, 3), (11, 3), (12, 3)], size := 13, bytes := 104, zero := .agg #[.int .i64 0, .int .i64 0, .int .i64 0, .int .i64 0, .int .i64 0, .int .i64 0, .int .i64 0, .int .i64 0, .int .i64 0, .int .i64 0, .int .i64 0, .int .i64 0, .int .i64 0], zc := [.int .i64 0, .int .i64 0, .int .i64 0, .int .i64 0, .int .i64 0, .int .i64 0, .int .i64 0, .int .i64 0, .int .i64 0, .int .i64 0, .int .i64 0, .int .i64 0, .int .i64 0], eq := [0, 0, 0, 0, 0, 0, 0, 0, 0, 0, 0, 0, 0] }
abbrev ti141 : TI := { key := .struct [(0, 3), (1, 3), (2, 3), (3, 3), (4, 3)], size := 5, bytes := 40, zero := .agg #[.int .i64 0, .int .i64 0, .int .i64 0, .int .i64 0, .int .i64 0], zc := [.int .i64 0, .int .i64 0, .int .i64 0, .int .i64 0, .int .i64 0], eq := [0, 0, 0, 0, 0] }
abbrev ti142 : TI := { key := .struct [(0, 3), (1, 3), (2, 3), (3, 3), (4, 3)], size := 5, bytes := 40, zero := .agg #[.int .i64 0, .int .i64 0, .int .i64 0, .int .i64 0, .int .i64 0], zc := [.int .i64 0, .int .i64 0, .int .i64 0, .int .i64 0, .int .i64 0], eq := [0, 0, 0, 0, 0] }
def tab : TypeId → Option TI
  | 2 => some ti2
  | 3 => some ti3
  | 4 => some ti4
  | 5 => some ti5
  | 9 => some ti9
  | 12 => some ti12
  | 15 => some ti15
  | 16 => some ti16
  | 17 => some ti17
  | 21 => some ti21
  | 22 => some ti22
  | 23 => some ti23
  | 24 => some ti24
  | 25 => some ti25
  | 26 => some ti26
  | 27 => some ti27
  | 28 => some ti28
  | 29 => some ti29
  | 30 => some ti30
  | 31 => some ti31
  | 32 => some ti32
  | 33 => some ti33
  | 34 => some ti34
  | 38 => some ti38
  | 41 => some ti41
  | 42 => some ti42
  | 46 => some ti46
  | 47 => some ti47
  | 48 => some ti48
  | 49 => some ti49
  | 50 => some ti50
  | 63 => some ti63
  | 64 => some ti64
  | 74 => some ti74
  | 78 => some ti78
  | 85 => some ti85
  | 86 => some ti86
  | 87 => some ti87
  | 92 => some ti92
  | 96 => some ti96
  | 97 => some ti97
  | 98 => some ti98
  | 106 => some ti106
  | 107 => some ti107
  | 108 => some ti108
  | 114 => some ti114
  | 119 => some ti119
  | 120 => some ti120
  | 133 => some ti133
  | 134 => some ti134
  | 135 => some ti135
  | 136 => some ti136
  | 137 => some ti137
  | 138 => some ti138
  | 139 => some ti139
  | 140 => some ti140
  | 141 => some ti141
  | 142 => some ti142
  | _ => none
noncomputable def E : Env := { P := Tryd.prog, tab := tab }
theorem tyok2 : TyOk Tryd.prog 2 ti2 where
  key := by kernel_rfl
  info := by kernel_rfl
  zc := by kernel_rfl
  zok := by kernel_rfl
  len := by kernel_rfl
  one := fun _ => rfl
  zero_slice := fun _ h => by cases h
  eq := fun h => absurd rfl h
  eqA := fun h => absurd rfl h
theorem tyok3 : TyOk Tryd.prog 3 ti3 where
  key := by kernel_rfl
  info := by kernel_rfl
  zc := by kernel_rfl
  zok := by kernel_rfl
  len := by kernel_rfl
  one := fun _ => rfl
  zero_slice := fun _ h => by cases h
  eq := fun h => absurd rfl h
  eqA := fun h => absurd rfl h
theorem tyok4 : TyOk Tryd.prog 4 ti4 where
  key := by kernel_rfl
  info := by kernel_rfl
  zc := by kernel_rfl
  zok := by kernel_rfl
  len := by kernel_rfl
  one := fun _ => rfl
  zero_slice := fun _ h => by cases h
  eq := fun h => absurd rfl h
  eqA := fun h => absurd rfl h
theorem tyok5 : TyOk Tryd.prog 5 ti5 where
  key := by kernel_rfl
  info := by kernel_rfl
  zc := by kernel_rfl
  zok := by kernel_rfl
  len := by kernel_rfl
  one := fun _ => rfl
  zero_slice := fun _ h => by cases h
  eq := fun h => absurd rfl h
  eqA := fun h => absurd rfl h
theorem tyok9 : TyOk Tryd.prog 9 ti9 where
  key := by kernel_rfl
  info := by kernel_rfl
  zc := by kernel_rfl
  zok := by kernel_rfl
  len := by kernel_rfl
  one := fun _ => rfl
  zero_slice := fun _ h => by cases h
  eq := fun h => absurd rfl h
  eqA := fun h => absurd rfl h
theorem tyok12 : TyOk Tryd.prog 12 ti12 where
  key := by kernel_rfl
  info := by kernel_rfl
  zc := by kernel_rfl
  zok := by kernel_rfl
  len := by kernel_rfl
  one := fun _ => rfl
  zero_slice := fun _ h => by cases h
  eq := fun h => absurd rfl h
  eqA := fun h => absurd rfl h
theorem tyok15 : TyOk Tryd.prog 15 ti15 where
  key := by kernel_rfl
  info := by kernel_rfl
  zc := by kernel_rfl
  zok := by kernel_rfl
  len := by kernel_rfl
  one := fun _ => rfl
  zero_slice := fun _ h => by cases h
  eq := fun h => absurd rfl h
  eqA := fun h => absurd rfl h
theorem tyok16 : TyOk Tryd.prog 16 ti16 where
  key := by kernel_rfl
  info := by kernel_rfl
  zc := by kernel_rfl
  zok := by kernel_rfl
  len := by kernel_rfl
  one := fun _ => rfl
  zero_slice := fun _ h => by cases h
  eq := fun h => absurd rfl h
  eqA := fun h => absurd rfl h
theorem tyok17 : TyOk Tryd.prog 17 ti17 where
  key := by kernel_rfl
  info := by kernel_rfl
  zc := by kernel_rfl
  zok := by kernel_rfl
  len := by kernel_rfl
  one := fun _ => rfl
  zero_slice := fun _ h => by cases h
  eq := fun h => absurd rfl h
  eqA := fun h => absurd rfl h
theorem tyok21 : TyOk Tryd.prog 21 ti21 where
  key := by kernel_rfl
  info := by kernel_rfl
  zc := by kernel_rfl
  zok := by kernel_rfl
  len := by kernel_rfl
  one := fun _ => rfl
  zero_slice := fun _ h => by cases h
  eq := fun h => absurd rfl h
  eqA := fun h => absurd rfl h
theorem tyok22 : TyOk Tryd.prog 22 ti22 where
  key := by kernel_rfl
  info := by kernel_rfl
  zc := by kernel_rfl
  zok := by kernel_rfl
  len := by kernel_rfl
  one := fun _ => rfl
  zero_slice := fun _ _ => rfl
  eq := fun h => absurd rfl h
  eqA := fun h => absurd rfl h
theorem tyok23 : TyOk Tryd.prog 23 ti23 where
  key := by kernel_rfl
  info := by kernel_rfl
  zc := by kernel_rfl
  zok := by kernel_rfl
  len := by kernel_rfl
  one := fun _ => rfl
  zero_slice := fun _ _ => rfl
  eq := fun h => absurd rfl h
  eqA := fun h => absurd rfl h
theorem tyok24 : TyOk Tryd.prog 24 ti24 where
  key := by kernel_rfl
  info := by kernel_rfl
  zc := by kernel_rfl
  zok := by kernel_rfl
  len := by kernel_rfl
  one := fun _ => rfl
  zero_slice := fun _ _ => rfl
  eq := fun h => absurd rfl h
  eqA := fun h => absurd rfl h
theorem tyok25 : TyOk Tryd.prog 25 ti25 where
  key := by kernel_rfl
  info := by kernel_rfl
  zc := by kernel_rfl
  zok := by kernel_rfl
  len := by kernel_rfl
  one := fun _ => rfl
  zero_slice := fun _ _ => rfl
  eq := fun h => absurd rfl h
  eqA := fun h => absurd rfl h
theorem tyok26 : TyOk Tryd.prog 26 ti26 where
  key := by kernel_rfl
  info := by kernel_rfl
  zc := by kernel_rfl
  zok := by kernel_rfl
  len := by kernel_rfl
  one := fun _ => rfl
  zero_slice := fun _ _ => rfl
  eq := fun h => absurd rfl h
  eqA := fun h => absurd rfl h
theorem tyok27 : TyOk Tryd.prog 27 ti27 where
  key := by kernel_rfl
  info := by kernel_rfl
  zc := by kernel_rfl
  zok := by kernel_rfl
  len := by kernel_rfl
  one := fun _ => rfl
  zero_slice := fun _ _ => rfl
  eq := fun h => absurd rfl h
  eqA := fun h => absurd rfl h
theorem tyok28 : TyOk Tryd.prog 28 ti28 where
  key := by kernel_rfl
  info := by kernel_rfl
  zc := by kernel_rfl
  zok := by kernel_rfl
  len := by kernel_rfl
  one := fun _ => rfl
  zero_slice := fun _ _ => rfl
  eq := fun h => absurd rfl h
  eqA := fun h => absurd rfl h
theorem tyok29 : TyOk Tryd.prog 29 ti29 where
  key := by kernel_rfl
  info := by kernel_rfl
  zc := by kernel_rfl
  zok := by kernel_rfl
  len := by kernel_rfl
  one := fun h => by cases h
  zero_slice := fun _ h => by cases h
  eq := fun h => absurd rfl h
  eqA := fun h => absurd rfl h
theorem tyok30 : TyOk Tryd.prog 30 ti30 where
  key := by kernel_rfl
  info := by kernel_rfl
  zc := by kernel_rfl
  zok := by kernel_rfl
  len := by kernel_rfl
  one := fun h => by cases h
  zero_slice := fun _ h => by cases h
  eq := fun h => absurd rfl h
  eqA := fun h => absurd rfl h
theorem tyok31 : TyOk Tryd.prog 31 ti31 where
  key := by kernel_rfl
  info := by kernel_rfl
  zc := by kernel_rfl
  zok := by kernel_rfl
  len := by kernel_rfl
  one := fun h => by cases h
  zero_slice := fun _ h => by cases h
  eq := fun h => absurd rfl h
  eqA := fun h => absurd rfl h
theorem tyok32 : TyOk Tryd.prog 32 ti32 where
  key := by kernel_rfl
  info := by kernel_rfl
  zc := by kernel_rfl
  zok := by kernel_rfl
  len := by kernel_rfl
  one := fun _ => rfl
  zero_slice := fun _ _ => rfl
  eq := fun h => absurd rfl h
  eqA := fun h => absurd rfl h
theorem tyok33 : TyOk Tryd.prog 33 ti33 where
  key := by kernel_rfl
  info := by kernel_rfl
  zc := by kernel_rfl
  zok := by kernel_rfl
  len := by kernel_rfl
  one := fun h => by cases h
  zero_slice := fun _ h => by cases h
  eq := fun h => absurd rfl h
  eqA := fun h => absurd rfl h
theorem tyok34 : TyOk Tryd.prog 34 ti34 where
  key := by kernel_rfl
  info := by kernel_rfl
  zc := by kernel_rfl
  zok := by kernel_rfl
  len := by kernel_rfl
  one := fun h => by cases h
  zero_slice := fun _ h => by cases h
  eq := fun h => absurd rfl h
  eqA := fun h => absurd rfl h
theorem tyok38 : TyOk Tryd.prog 38 ti38 where
  key := by kernel_rfl
  info := by kernel_rfl
  zc := by kernel_rfl
  zok := by kernel_rfl
  len := by kernel_rfl
  one := fun _ => rfl
  zero_slice := fun _ _ => rfl
  eq := fun h => absurd rfl h
  eqA := fun h => absurd rfl h
theorem tyok41 : TyOk Tryd.prog 41 ti41 where
  key := by kernel_rfl
  info := by kernel_rfl
  zc := by kernel_rfl
  zok := by kernel_rfl
  len := by kernel_rfl
  one := fun h => by cases h
  zero_slice := fun _ h => by cases h
  eq := fun _ _ _ => ⟨by kernel_rfl, by kernel_rfl, by kernel_rfl⟩
  eqA := fun _ _ _ h => by cases h
theorem tyok42 : TyOk Tryd.prog 42 ti42 where
  key := by kernel_rfl
  info := by kernel_rfl
  zc := by kernel_rfl
  zok := by kernel_rfl
  len := by kernel_rfl
  one := fun h => by cases h
  zero_slice := fun _ h => by cases h
  eq := fun _ _ _ => ⟨by kernel_rfl, by kernel_rfl, by kernel_rfl⟩
  eqA := fun _ _ _ h => by cases h
theorem tyok46 : TyOk Tryd.prog 46 ti46 where
  key := by kernel_rfl
  info := by kernel_rfl
  zc := by kernel_rfl
  zok := by kernel_rfl
  len := by kernel_rfl
  one := fun h => by cases h
  zero_slice := fun _ h => by cases h
  eq := fun _ _ _ => ⟨by kernel_rfl, by kernel_rfl, by kernel_rfl⟩
  eqA := fun _ _ _ h => by cases h
theorem tyok47 : TyOk Tryd.prog 47 ti47 where
  key := by kernel_rfl
  info := by kernel_rfl
  zc := by kernel_rfl
  zok := by kernel_rfl
  len := by kernel_rfl
  one := fun h => by cases h
  zero_slice := fun _ h => by cases h
  eq := fun _ _ _ => ⟨by kernel_rfl, by kernel_rfl, by kernel_rfl⟩
  eqA := fun _ _ _ h => by cases h
theorem tyok48 : TyOk Tryd.prog 48 ti48 where
  key := by kernel_rfl
  info := by kernel_rfl
  zc := by kernel_rfl
  zok := by kernel_rfl
  len := by kernel_rfl
  one := fun h => by cases h
  zero_slice := fun _ h => by cases h
  eq := fun _ _ _ => ⟨by kernel_rfl, by kernel_rfl, by kernel_rfl⟩
  eqA := fun _ _ _ h => by cases h
theorem tyok49 : TyOk Tryd.prog 49 ti49 where
  key := by kernel_rfl
  info := by kernel_rfl
  zc := by kernel_rfl
  zok := by kernel_rfl
  len := by kernel_rfl
  one := fun h => by cases h
  zero_slice := fun _ h => by cases h
  eq := fun _ _ _ => ⟨by kernel_rfl, by kernel_rfl, by kernel_rfl⟩
  eqA := fun _ _ _ h => by cases h
theorem tyok50 : TyOk Tryd.prog 50 ti50 where
  key := by kernel_rfl
  info := by kernel_rfl
  zc := by kernel_rfl
  zok := by kernel_rfl
  len := by kernel_rfl
  one := fun h => by cases h
  zero_slice := fun _ h => by cases h
  eq := fun _ _ h => by cases h
  eqA := fun _ _ _ h => by cases h; exact ⟨by kernel_rfl, by kernel_rfl, by kernel_rfl, by kernel_rfl⟩
theorem tyok63 : TyOk Tryd.prog 63 ti63 where
  key := by kernel_rfl
  info := by kernel_rfl
  zc := by kernel_rfl
  zok := by kernel_rfl
  len := by kernel_rfl
  one := fun h => by cases h
  zero_slice := fun _ h => by cases h
  eq := fun _ _ _ => ⟨by kernel_rfl, by kernel_rfl, by kernel_rfl⟩
  eqA := fun _ _ _ h => by cases h
theorem tyok64 : TyOk Tryd.prog 64 ti64 where
  key := by kernel_rfl
  info := by kernel_rfl
  zc := by kernel_rfl
  zok := by kernel_rfl
  len := by kernel_rfl
  one := fun h => by cases h
  zero_slice := fun _ h => by cases h
  eq := fun _ _ _ => ⟨by kernel_rfl, by kernel_rfl, by kernel_rfl⟩
  eqA := fun _ _ _ h => by cases h
theorem tyok74 : TyOk Tryd.prog 74 ti74 where
  key := by kernel_rfl
  info := by kernel_rfl
  zc := by kernel_rfl
  zok := by kernel_rfl
  len := by kernel_rfl
  one := fun _ => rfl
  zero_slice := fun _ h => by cases h
  eq := fun h => absurd rfl h
  eqA := fun h => absurd rfl h
theorem tyok78 : TyOk Tryd.prog 78 ti78 where
  key := by kernel_rfl
  info := by kernel_rfl
  zc := by kernel_rfl
  zok := by kernel_rfl
  len := by kernel_rfl
  one := fun _ => rfl
  zero_slice := fun _ _ => rfl
  eq := fun h => absurd rfl h
  eqA := fun h => absurd rfl h
theorem tyok85 : TyOk Tryd.prog 85 ti85 where
  key := by kernel_rfl
  info := by kernel_rfl
  zc := by kernel_rfl
  zok := by kernel_rfl
  len := by kernel_rfl
  one := fun _ => rfl
  zero_slice := fun _ h => by cases h
  eq := fun h => absurd rfl h
  eqA := fun h => absurd rfl h
theorem tyok86 : TyOk Tryd.prog 86 ti86 where
  key := by kernel_rfl
  info := by kernel_rfl
  zc := by kernel_rfl
  zok := by kernel_rfl
  len := by kernel_rfl
  one := fun h => by cases h
  zero_slice := fun _ h => by cases h
  eq := fun h => absurd rfl h
  eqA := fun h => absurd rfl h
theorem tyok87 : TyOk Tryd.prog 87 ti87 where
  key := by kernel_rfl
  info := by kernel_rfl
  zc := by kernel_rfl
  zok := by kernel_rfl
  len := by kernel_rfl
  one := fun _ => rfl
  zero_slice := fun _ h => by cases h
  eq := fun h => absurd rfl h
  eqA := fun h => absurd rfl h
theorem tyok92 : TyOk Tryd.prog 92 ti92 where
  key := by kernel_rfl
  info := by kernel_rfl
  zc := by kernel_rfl
  zok := by kernel_rfl
  len := by kernel_rfl
  one := fun h => by cases h
  zero_slice := fun _ h => by cases h
  eq := fun _ _ h => by cases h
  eqA := fun _ _ _ h => by cases h; exact ⟨by kernel_rfl, by kernel_rfl, by kernel_rfl, by kernel_rfl⟩
theorem tyok96 : TyOk Tryd.prog 96 ti96 where
  key := by kernel_rfl
  info := by kernel_rfl
  zc := by kernel_rfl
  zok := by kernel_rfl
  len := by kernel_rfl
  one := fun _ => rfl
  zero_slice := fun _ h => by cases h
  eq := fun h => absurd rfl h
  eqA := fun h => absurd rfl h
theorem tyok97 : TyOk Tryd.prog 97 ti97 where
  key := by kernel_rfl
  info := by kernel_rfl
  zc := by kernel_rfl
  zok := by kernel_rfl
  len := by kernel_rfl
  one := fun h => by cases h
  zero_slice := fun _ h => by cases h
  eq := fun h => absurd rfl h
  eqA := fun h => absurd rfl h
theorem tyok98 : TyOk Tryd.prog 98 ti98 where
  key := by kernel_rfl
  info := by kernel_rfl
  zc := by kernel_rfl
  zok := by kernel_rfl
  len := by kernel_rfl
  one := fun h => by cases h
  zero_slice := fun _ h => by cases h
  eq := fun h => absurd rfl h
  eqA := fun h => absurd rfl h
theorem tyok106 : TyOk Tryd.prog 106 ti106 where
  key := by kernel_rfl
  info := by kernel_rfl
  zc := by kernel_rfl
  zok := by kernel_rfl
  len := by kernel_rfl
  one := fun h => by cases h
  zero_slice := fun _ h => by cases h
  eq := fun h => absurd rfl h
  eqA := fun h => absurd rfl h
theorem tyok107 : TyOk Tryd.prog 107 ti107 where
  key := by kernel_rfl
  info := by kernel_rfl
  zc := by kernel_rfl
  zok := by kernel_rfl
  len := by kernel_rfl
  one := fun _ => rfl
  zero_slice := fun _ h => by cases h
  eq := fun h => absurd rfl h
  eqA := fun h => absurd rfl h
theorem tyok108 : TyOk Tryd.prog 108 ti108 where
  key := by kernel_rfl
  info := by kernel_rfl
  zc := by kernel_rfl
  zok := by kernel_rfl
  len := by kernel_rfl
  one := fun h => by cases h
  zero_slice := fun _ h => by cases h
  eq := fun h => absurd rfl h
  eqA := fun h => absurd rfl h
theorem tyok114 : TyOk Tryd.prog 114 ti114 where
  key := by kernel_rfl
  info := by kernel_rfl
  zc := by kernel_rfl
  zok := by kernel_rfl
  len := by kernel_rfl
  one := fun _ => rfl
  zero_slice := fun _ h => by cases h
  eq := fun h => absurd rfl h
  eqA := fun h => absurd rfl h
theorem tyok119 : TyOk Tryd.prog 119 ti119 where
  key := by kernel_rfl
  info := by kernel_rfl
  zc := by kernel_rfl
  zok := by kernel_rfl
  len := by kernel_rfl
  one := fun h => by cases h
  zero_slice := fun _ h => by cases h
  eq := fun h => absurd rfl h
  eqA := fun h => absurd rfl h
theorem tyok120 : TyOk Tryd.prog 120 ti120 where
  key := by kernel_rfl
  info := by kernel_rfl
  zc := by kernel_rfl
  zok := by kernel_rfl
  len := by kernel_rfl
  one := fun h => by cases h
  zero_slice := fun _ h => by cases h
  eq := fun h => absurd rfl h
  eqA := fun h => absurd rfl h
theorem tyok133 : TyOk Tryd.prog 133 ti133 where
  key := by kernel_rfl
  info := by kernel_rfl
  zc := by kernel_rfl
  zok := by kernel_rfl
  len := by kernel_rfl
  one := fun h => by cases h
  zero_slice := fun _ h => by cases h
  eq := fun _ _ _ => ⟨by kernel_rfl, by kernel_rfl, by kernel_rfl⟩
  eqA := fun _ _ _ h => by cases h
theorem tyok134 : TyOk Tryd.prog 134 ti134 where
  key := by kernel_rfl
  info := by kernel_rfl
  zc := by kernel_rfl
  zok := by kernel_rfl
  len := by kernel_rfl
  one := fun h => by cases h
  zero_slice := fun _ h => by cases h
  eq := fun _ _ _ => ⟨by kernel_rfl, by kernel_rfl, by kernel_rfl⟩
  eqA := fun _ _ _ h => by cases h
theorem tyok135 : TyOk Tryd.prog 135 ti135 where
  key := by kernel_rfl
  info := by kernel_rfl
  zc := by kernel_rfl
  zok := by kernel_rfl
  len := by kernel_rfl
  one := fun h => by cases h
  zero_slice := fun _ h => by cases h
  eq := fun h => absurd rfl h
  eqA := fun h => absurd rfl h
theorem tyok136 : TyOk Tryd.prog 136 ti136 where
  key := by kernel_rfl
  info := by kernel_rfl
  zc := by kernel_rfl
  zok := by kernel_rfl
  len := by kernel_rfl
  one := fun h => by cases h
  zero_slice := fun _ h => by cases h
  eq := fun h => absurd rfl h
  eqA := fun h => absurd rfl h
theorem tyok137 : TyOk Tryd.prog 137 ti137 where
  key := by kernel_rfl
  info := by kernel_rfl
  zc := by kernel_rfl
  zok := by kernel_rfl
  len := by kernel_rfl
  one := fun h => by cases h
  zero_slice := fun _ h => by cases h
  eq := fun _ _ _ => ⟨by kernel_rfl, by kernel_rfl, by kernel_rfl⟩
  eqA := fun _ _ _ h => by cases h
theorem tyok138 : TyOk Tryd.prog 138 ti138 where
  key := by kernel_rfl
  info := by kernel_rfl
  zc := by kernel_rfl
  zok := by kernel_rfl
  len := by kernel_rfl
  one := fun h => by cases h
  zero_slice := fun _ h => by cases h
  eq := fun _ _ _ => ⟨by kernel_rfl, by kernel_rfl, by kernel_rfl⟩
  eqA := fun _ _ _ h => by cases h
theorem tyok139 : TyOk Tryd.prog 139 ti139 where
  key := by kernel_rfl
  info := by kernel_rfl
  zc := by kernel_rfl
  zok := by kernel_rfl
  len := by kernel_rfl
  one := fun h => by cases h
  zero_slice := fun _ h => by cases h
  eq := fun _ _ _ => ⟨by kernel_rfl, by kernel_rfl, by kernel_rfl⟩
  eqA := fun _ _ _ h => by cases h
theorem tyok140 : TyOk Tryd.prog 140 ti140 where
  key := by kernel_rfl
  info := by kernel_rfl
  zc := by kernel_rfl
  zok := by kernel_rfl
  len := by kernel_rfl
  one := fun h => by cases h
  zero_slice := fun _ h => by cases h
  eq := fun _ _ _ => ⟨by kernel_rfl, by kernel_rfl, by kernel_rfl⟩
  eqA := fun _ _ _ h => by cases h
theorem tyok141 : TyOk Tryd.prog 141 ti141 where
  key := by kernel_rfl
  info := by kernel_rfl
  zc := by kernel_rfl
  zok := by kernel_rfl
  len := by kernel_rfl
  one := fun h => by cases h
  zero_slice := fun _ h => by cases h
  eq := fun _ _ _ => ⟨by kernel_rfl, by kernel_rfl, by kernel_rfl⟩
  eqA := fun _ _ _ h => by cases h
theorem tyok142 : TyOk Tryd.prog 142 ti142 where
  key := by kernel_rfl
  info := by kernel_rfl
  zc := by kernel_rfl
  zok := by kernel_rfl
  len := by kernel_rfl
  one := fun h => by cases h
  zero_slice := fun _ h => by cases h
  eq := fun _ _ _ => ⟨by kernel_rfl, by kernel_rfl, by kernel_rfl⟩
  eqA := fun _ _ _ h => by cases h
theorem E_ok : E.Ok := by
  refine ⟨by kernel_rfl, fun t ti h => ?_⟩
  change tab t = some ti at h
  unfold tab at h
  split at h
  · cases h; exact tyok2
  · cases h; exact tyok3
  · cases h; exact tyok4
  · cases h; exact tyok5
  · cases h; exact tyok9
  · cases h; exact tyok12
  · cases h; exact tyok15
  · cases h; exact tyok16
  · cases h; exact tyok17
  · cases h; exact tyok21
  · cases h; exact tyok22
  · cases h; exact tyok23
  · cases h; exact tyok24
  · cases h; exact tyok25
  · cases h; exact tyok26
  · cases h; exact tyok27
  · cases h; exact tyok28
  · cases h; exact tyok29
  · cases h; exact tyok30
  · cases h; exact tyok31
  · cases h; exact tyok32
  · cases h; exact tyok33
  · cases h; exact tyok34
  · cases h; exact tyok38
  · cases h; exact tyok41
  · cases h; exact tyok42
  · cases h; exact tyok46
  · cases h; exact tyok47
  · cases h; exact tyok48
  · cases h; exact tyok49
  · cases h; exact tyok50
  · cases h; exact tyok63
  · cases h; exact tyok64
  · cases h; exact tyok74
  · cases h; exact tyok78
  · cases h; exact tyok85
  · cases h; exact tyok86
  · cases h; exact tyok87
  · cases h; exact tyok92
  · cases h; exact tyok96
  · cases h; exact tyok97
  · cases h; exact tyok98
  · cases h; exact tyok106
  · cases h; exact tyok107
  · cases h; exact tyok108
  · cases h; exact tyok114
  · cases h; exact tyok119
  · cases h; exact tyok120
  · cases h; exact tyok133
  · cases h; exact tyok134
  · cases h; exact tyok135
  · cases h; exact tyok136
  · cases h; exact tyok137
  · cases h; exact tyok138
  · cases h; exact tyok139
  · cases h; exact tyok140
  · cases h; exact tyok141
  · cases h; exact tyok142
  · cases h
@[simp] theorem tab2 : E.tab 2 = some { key := .int .i64, size := 1, bytes := 8, zero := .int .i64 0, zc := [.int .i64 0], eq := [] } := rfl
@[simp] theorem tab3 : E.tab 3 = some { key := .int .i64, size := 1, bytes := 8, zero := .int .i64 0, zc := [.int .i64 0], eq := [] } := rfl
@[simp] theorem tab4 : E.tab 4 = some { key := .bool, size := 1, bytes := 1, zero := .bool false, zc := [.bool false], eq := [] } := rfl
@[simp] theorem tab5 : E.tab 5 = some { key := .int .u8, size := 1, bytes := 1, zero := .int .u8 0, zc := [.int .u8 0], eq := [] } := rfl
@[simp] theorem tab9 : E.tab 9 = some { key := .string, size := 1, bytes := 16, zero := .string ⟨#[]⟩, zc := [.str []], eq := [] } := rfl
@[simp] theorem tab12 : E.tab 12 = some { key := .int .u64, size := 1, bytes := 8, zero := .int .u64 0, zc := [.int .u64 0], eq := [] } := rfl
@[simp] theorem tab15 : E.tab 15 = some { key := .other, size := 1, bytes := 8, zero := .pointer none, zc := [.lit (.pointer none)], eq := [] } := rfl
@[simp] theorem tab16 : E.tab 16 = some { key := .other, size := 1, bytes := 8, zero := .pointer none, zc := [.lit (.pointer none)], eq := [] } := rfl
@[simp] theorem tab17 : E.tab 17 = some { key := .other, size := 1, bytes := 8, zero := .pointer none, zc := [.lit (.pointer none)], eq := [] } := rfl
@[simp] theorem tab21 : E.tab 21 = some { key := .int .i32, size := 1, bytes := 4, zero := .int .i32 0, zc := [.int .i32 0], eq := [] } := rfl
@[simp] theorem tab22 : E.tab 22 = some { key := .slice 136, size := 1, bytes := 24, zero := .slice none 0 0, zc := [.slice (.agg [.int .i64 0, .int .i64 0, .int .i64 0, .int .i64 0, .int .i64 0, .str [], .int .i64 0, .int .i64 0, .int .i64 0, .int .i64 0]) []], eq := [] } := rfl
@[simp] theorem tab23 : E.tab 23 = some { key := .slice 64, size := 1, bytes := 24, zero := .slice none 0 0, zc := [.slice (.agg [.int .i64 0, .int .i64 0, .int .i64 0, .int .i64 0, .bool false, .str []]) []], eq := [] } := rfl
@[simp] theorem tab24 : E.tab 24 = some { key := .slice 47, size := 1, bytes := 24, zero := .slice none 0 0, zc := [.slice (.agg [.int .i64 0, .int .i64 0, .int .i64 0, .int .i64 0, .int .i64 0, .bool false]) []], eq := [] } := rfl
@[simp] theorem tab25 : E.tab 25 = some { key := .slice 49, size := 1, bytes := 24, zero := .slice none 0 0, zc := [.slice (.agg [.int .i64 0, .int .i64 0, .int .i64 0, .int .i64 0, .int .i64 0, .int .i64 0, .int .i64 0, .int .i64 0, .int .i64 0, .int .i64 0, .int .i64 0]) []], eq := [] } := rfl
@[simp] theorem tab26 : E.tab 26 = some { key := .slice 138, size := 1, bytes := 24, zero := .slice none 0 0, zc := [.slice (.agg [.int .i64 0, .int .i64 0, .int .i64 0, .int .i64 0, .int .i64 0, .int .i64 0, .int .i64 0]) []], eq := [] } := rfl
@[simp] theorem tab27 : E.tab 27 = some { key := .slice 140, size := 1, bytes := 24, zero := .slice none 0 0, zc := [.slice (.agg [.int .i64 0, .int .i64 0, .int .i64 0, .int .i64 0, .int .i64 0, .int .i64 0, .int .i64 0, .int .i64 0, .int .i64 0, .int .i64 0, .int .i64 0, .int .i64 0, .int .i64 0]) []], eq := [] } := rfl
@[simp] theorem tab28 : E.tab 28 = some { key := .slice 3, size := 1, bytes := 24, zero := .slice none 0 0, zc := [.slice (.int .i64 0) []], eq := [] } := rfl
@[simp] theorem tab29 : E.tab 29 = some { key := .struct [(0, 3), (1, 28)], size := 2, bytes := 32, zero := .agg #[.int .i64 0, .slice none 0 0], zc := [.int .i64 0, .slice (.int .i64 0) []], eq := [] } := rfl
@[simp] theorem tab30 : E.tab 30 = some { key := .struct [(0, 3), (1, 28)], size := 2, bytes := 32, zero := .agg #[.int .i64 0, .slice none 0 0], zc := [.int .i64 0, .slice (.int .i64 0) []], eq := [] } := rfl
@[simp] theorem tab31 : E.tab 31 = some { key := .array 4 30, size := 8, bytes := 128, zero := .agg #[.int .i64 0, .slice none 0 0, .int .i64 0, .slice none 0 0, .int .i64 0, .slice none 0 0, .int .i64 0, .slice none 0 0], zc := [.int .i64 0, .slice (.int .i64 0) [], .int .i64 0, .slice (.int .i64 0) [], .int .i64 0, .slice (.int .i64 0) [], .int .i64 0, .slice (.int .i64 0) []], eq := [] } := rfl
@[simp] theorem tab32 : E.tab 32 = some { key := .slice 142, size := 1, bytes := 24, zero := .slice none 0 0, zc := [.slice (.agg [.int .i64 0, .int .i64 0, .int .i64 0, .int .i64 0, .int .i64 0]) []], eq := [] } := rfl
@[simp] theorem tab33 : E.tab 33 = some { key := .struct [(0, 3), (1, 22), (2, 23), (3, 24), (4, 25), (5, 26), (6, 27), (7, 31), (15, 32), (16, 3), (17, 3), (18, 4)], size := 19, bytes := 328, zero := .agg #[.int .i64 0, .slice none 0 0, .slice none 0 0, .slice none 0 0, .slice none 0 0, .slice none 0 0, .slice none 0 0, .int .i64 0, .slice none 0 0, .int .i64 0, .slice none 0 0, .int .i64 0, .slice none 0 0, .int .i64 0, .slice none 0 0, .slice none 0 0, .int .i64 0, .int .i64 0, .bool false], zc := [.int .i64 0, .slice (.agg [.int .i64 0, .int .i64 0, .int .i64 0, .int .i64 0, .int .i64 0, .str [], .int .i64 0, .int .i64 0, .int .i64 0, .int .i64 0]) [], .slice (.agg [.int .i64 0, .int .i64 0, .int .i64 0, .int .i64 0, .bool false, .str []]) [], .slice (.agg [.int .i64 0, .int .i64 0, .int .i64 0, .int .i64 0, .int .i64 0, .bool false]) [], .slice (.agg [.int .i64 0, .int .i64 0, .int .i64 0, .int .i64 0, .int .i64 0, .int .i64 0, .int .i64 0, .int .i64 0, .int .i64 0, .int .i64 0, .int .i64 0]) [], .slice (.agg [.int .i64 0, .int .i64 0, .int .i64 0, .int .i64 0, .int .i64 0, .int .i64 0, .int .i64 0]) [], .slice (.agg [.int .i64 0, .int .i64 0, .int .i64 0, .int .i64 0, .int .i64 0, .int .i64 0, .int .i64 0, .int .i64 0, .int .i64 0, .int .i64 0, .int .i64 0, .int .i64 0, .int .i64 0]) [], .int .i64 0, .slice (.int .i64 0) [], .int .i64 0, .slice (.int .i64 0) [], .int .i64 0, .slice (.int .i64 0) [], .int .i64 0, .slice (.int .i64 0) [], .slice (.agg [.int .i64 0, .int .i64 0, .int .i64 0, .int .i64 0, .int .i64 0]) [], .int .i64 0, .int .i64 0, .bool false], eq := [] } := rfl
@[simp] theorem tab34 : E.tab 34 = some { key := .struct [(0, 3), (1, 22), (2, 23), (3, 24), (4, 25), (5, 26), (6, 27), (7, 31), (15, 32), (16, 3), (17, 3), (18, 4)], size := 19, bytes := 328, zero := .agg #[.int .i64 0, .slice none 0 0, .slice none 0 0, .slice none 0 0, .slice none 0 0, .slice none 0 0, .slice none 0 0, .int .i64 0, .slice none 0 0, .int .i64 0, .slice none 0 0, .int .i64 0, .slice none 0 0, .int .i64 0, .slice none 0 0, .slice none 0 0, .int .i64 0, .int .i64 0, .bool false], zc := [.int .i64 0, .slice (.agg [.int .i64 0, .int .i64 0, .int .i64 0, .int .i64 0, .int .i64 0, .str [], .int .i64 0, .int .i64 0, .int .i64 0, .int .i64 0]) [], .slice (.agg [.int .i64 0, .int .i64 0, .int .i64 0, .int .i64 0, .bool false, .str []]) [], .slice (.agg [.int .i64 0, .int .i64 0, .int .i64 0, .int .i64 0, .int .i64 0, .bool false]) [], .slice (.agg [.int .i64 0, .int .i64 0, .int .i64 0, .int .i64 0, .int .i64 0, .int .i64 0, .int .i64 0, .int .i64 0, .int .i64 0, .int .i64 0, .int .i64 0]) [], .slice (.agg [.int .i64 0, .int .i64 0, .int .i64 0, .int .i64 0, .int .i64 0, .int .i64 0, .int .i64 0]) [], .slice (.agg [.int .i64 0, .int .i64 0, .int .i64 0, .int .i64 0, .int .i64 0, .int .i64 0, .int .i64 0, .int .i64 0, .int .i64 0, .int .i64 0, .int .i64 0, .int .i64 0, .int .i64 0]) [], .int .i64 0, .slice (.int .i64 0) [], .int .i64 0, .slice (.int .i64 0) [], .int .i64 0, .slice (.int .i64 0) [], .int .i64 0, .slice (.int .i64 0) [], .slice (.agg [.int .i64 0, .int .i64 0, .int .i64 0, .int .i64 0, .int .i64 0]) [], .int .i64 0, .int .i64 0, .bool false], eq := [] } := rfl
@[simp] theorem tab38 : E.tab 38 = some { key := .slice 42, size := 1, bytes := 24, zero := .slice none 0 0, zc := [.slice (.agg [.int .i64 0, .int .i64 0, .int .i64 0, .int .i64 0]) []], eq := [] } := rfl
@[simp] theorem tab41 : E.tab 41 = some { key := .struct [(0, 3), (1, 3), (2, 3), (3, 3)], size := 4, bytes := 32, zero := .agg #[.int .i64 0, .int .i64 0, .int .i64 0, .int .i64 0], zc := [.int .i64 0, .int .i64 0, .int .i64 0, .int .i64 0], eq := [0, 0, 0, 0] } := rfl
@[simp] theorem tab42 : E.tab 42 = some { key := .struct [(0, 3), (1, 3), (2, 3), (3, 3)], size := 4, bytes := 32, zero := .agg #[.int .i64 0, .int .i64 0, .int .i64 0, .int .i64 0], zc := [.int .i64 0, .int .i64 0, .int .i64 0, .int .i64 0], eq := [0, 0, 0, 0] } := rfl
@[simp] theorem tab46 : E.tab 46 = some { key := .struct [(0, 3), (1, 3), (2, 3), (3, 3), (4, 3), (5, 4)], size := 6, bytes := 48, zero := .agg #[.int .i64 0, .int .i64 0, .int .i64 0, .int .i64 0, .int .i64 0, .bool false], zc := [.int .i64 0, .int .i64 0, .int .i64 0, .int .i64 0, .int .i64 0, .bool false], eq := [0, 0, 0, 0, 0, 1] } := rfl
@[simp] theorem tab47 : E.tab 47 = some { key := .struct [(0, 3), (1, 3), (2, 3), (3, 3), (4, 3), (5, 4)], size := 6, bytes := 48, zero := .agg #[.int .i64 0, .int .i64 0, .int .i64 0, .int .i64 0, .int .i64 0, .bool false], zc := [.int .i64 0, .int .i64 0, .int .i64 0, .int .i64 0, .int .i64 0, .bool false], eq := [0, 0, 0, 0, 0, 1] } := rfl
@[simp] theorem tab48 : E.tab 48 = some { key := .struct [(0, 3), (1, 3), (2, 3), (3, 3), (4, 3), (5, 3), (6, 3), (7, 3), (8, 3), (9, 3), (10, 3)], size := 11, bytes := 88, zero := .agg #[.int .i64 0, .int .i64 0, .int .i64 0, .int .i64 0, .int .i64 0, .int .i64 0, .int .i64 0, .int .i64 0, .int .i64 0, .int .i64 0, .int .i64 0], zc := [.int .i64 0, .int .i64 0, .int .i64 0, .int .i64 0, .int .i64 0, .int .i64 0, .int .i64 0, .int .i64 0, .int .i64 0, .int .i64 0, .int .i64 0], eq := [0, 0, 0, 0, 0, 0, 0, 0, 0, 0, 0] } := rfl
@[simp] theorem tab49 : E.tab 49 = some { key := .struct [(0, 3), (1, 3), (2, 3), (3, 3), (4, 3), (5, 3), (6, 3), (7, 3), (8, 3), (9, 3), (10, 3)], size := 11, bytes := 88, zero := .agg #[.int .i64 0, .int .i64 0, .int .i64 0, .int .i64 0, .int .i64 0, .int .i64 0, .int .i64 0, .int .i64 0, .int .i64 0, .int .i64 0, .int .i64 0], zc := [.int .i64 0, .int .i64 0, .int .i64 0, .int .i64 0, .int .i64 0, .int .i64 0, .int .i64 0, .int .i64 0, .int .i64 0, .int .i64 0, .int .i64 0], eq := [0, 0, 0, 0, 0, 0, 0, 0, 0, 0, 0] } := rfl
@[simp] theorem tab50 : E.tab 50 = some { key := .array 5 3, size := 5, bytes := 40, zero := .agg #[.int .i64 0, .int .i64 0, .int .i64 0, .int .i64 0, .int .i64 0], zc := [.int .i64 0, .int .i64 0, .int .i64 0, .int .i64 0, .int .i64 0], eq := [0, 0, 0, 0, 0] } := rfl
@[simp] theorem tab63 : E.tab 63 = some { key := .struct [(0, 3), (1, 3), (2, 3), (3, 3), (4, 4), (5, 9)], size := 6, bytes := 56, zero := .agg #[.int .i64 0, .int .i64 0, .int .i64 0, .int .i64 0, .bool false, .string ⟨#[]⟩], zc := [.int .i64 0, .int .i64 0, .int .i64 0, .int .i64 0, .bool false, .str []], eq := [0, 0, 0, 0, 1, 2] } := rfl
@[simp] theorem tab64 : E.tab 64 = some { key := .struct [(0, 3), (1, 3), (2, 3), (3, 3), (4, 4), (5, 9)], size := 6, bytes := 56, zero := .agg #[.int .i64 0, .int .i64 0, .int .i64 0, .int .i64 0, .bool false, .string ⟨#[]⟩], zc := [.int .i64 0, .int .i64 0, .int .i64 0, .int .i64 0, .bool false, .str []], eq := [0, 0, 0, 0, 1, 2] } := rfl
@[simp] theorem tab74 : E.tab 74 = some { key := .int .i64, size := 1, bytes := 8, zero := .int .i64 0, zc := [.int .i64 0], eq := [] } := rfl
@[simp] theorem tab78 : E.tab 78 = some { key := .slice 5, size := 1, bytes := 24, zero := .slice none 0 0, zc := [.slice (.int .u8 0) []], eq := [] } := rfl
@[simp] theorem tab85 : E.tab 85 = some { key := .int .u64, size := 1, bytes := 8, zero := .int .u64 0, zc := [.int .u64 0], eq := [] } := rfl
@[simp] theorem tab86 : E.tab 86 = some { key := .array 24 5, size := 24, bytes := 24, zero := .agg #[.int .u8 0, .int .u8 0, .int .u8 0, .int .u8 0, .int .u8 0, .int .u8 0, .int .u8 0, .int .u8 0, .int .u8 0, .int .u8 0, .int .u8 0, .int .u8 0, .int .u8 0, .int .u8 0, .int .u8 0, .int .u8 0, .int .u8 0, .int .u8 0, .int .u8 0, .int .u8 0, .int .u8 0, .int .u8 0, .int .u8 0, .int .u8 0], zc := [.int .u8 0, .int .u8 0, .int .u8 0, .int .u8 0, .int .u8 0, .int .u8 0, .int .u8 0, .int .u8 0, .int .u8 0, .int .u8 0, .int .u8 0, .int .u8 0, .int .u8 0, .int .u8 0, .int .u8 0, .int .u8 0, .int .u8 0, .int .u8 0, .int .u8 0, .int .u8 0, .int .u8 0, .int .u8 0, .int .u8 0, .int .u8 0], eq := [] } := rfl
@[simp] theorem tab87 : E.tab 87 = some { key := .int .u64, size := 1, bytes := 8, zero := .int .u64 0, zc := [.int .u64 0], eq := [] } := rfl
@[simp] theorem tab92 : E.tab 92 = some { key := .array 12 3, size := 12, bytes := 96, zero := .agg #[.int .i64 0, .int .i64 0, .int .i64 0, .int .i64 0, .int .i64 0, .int .i64 0, .int .i64 0, .int .i64 0, .int .i64 0, .int .i64 0, .int .i64 0, .int .i64 0], zc := [.int .i64 0, .int .i64 0, .int .i64 0, .int .i64 0, .int .i64 0, .int .i64 0, .int .i64 0, .int .i64 0, .int .i64 0, .int .i64 0, .int .i64 0, .int .i64 0], eq := [0, 0, 0, 0, 0, 0, 0, 0, 0, 0, 0, 0] } := rfl
@[simp] theorem tab96 : E.tab 96 = some { key := .other, size := 1, bytes := 8, zero := .pointer none, zc := [.lit (.pointer none)], eq := [] } := rfl
@[simp] theorem tab97 : E.tab 97 = some { key := .struct [(0, 96), (1, 78)], size := 2, bytes := 32, zero := .agg #[.pointer none, .slice none 0 0], zc := [.lit (.pointer none), .slice (.int .u8 0) []], eq := [] } := rfl
@[simp] theorem tab98 : E.tab 98 = some { key := .struct [(0, 96), (1, 78)], size := 2, bytes := 32, zero := .agg #[.pointer none, .slice none 0 0], zc := [.lit (.pointer none), .slice (.int .u8 0) []], eq := [] } := rfl
@[simp] theorem tab106 : E.tab 106 = some { key := .array 20 87, size := 20, bytes := 160, zero := .agg #[.int .u64 0, .int .u64 0, .int .u64 0, .int .u64 0, .int .u64 0, .int .u64 0, .int .u64 0, .int .u64 0, .int .u64 0, .int .u64 0, .int .u64 0, .int .u64 0, .int .u64 0, .int .u64 0, .int .u64 0, .int .u64 0, .int .u64 0, .int .u64 0, .int .u64 0, .int .u64 0], zc := [.int .u64 0, .int .u64 0, .int .u64 0, .int .u64 0, .int .u64 0, .int .u64 0, .int .u64 0, .int .u64 0, .int .u64 0, .int .u64 0, .int .u64 0, .int .u64 0, .int .u64 0, .int .u64 0, .int .u64 0, .int .u64 0, .int .u64 0, .int .u64 0, .int .u64 0, .int .u64 0], eq := [] } := rfl
@[simp] theorem tab107 : E.tab 107 = some { key := .int .u32, size := 1, bytes := 4, zero := .int .u32 0, zc := [.int .u32 0], eq := [] } := rfl
@[simp] theorem tab108 : E.tab 108 = some { key := .array 65 5, size := 65, bytes := 65, zero := .agg #[.int .u8 0, .int .u8 0, .int .u8 0, .int .u8 0, .int .u8 0, .int .u8 0, .int .u8 0, .int .u8 0, .int .u8 0, .int .u8 0, .int .u8 0, .int .u8 0, .int .u8 0, .int .u8 0, .int .u8 0, .int .u8 0, .int .u8 0, .int .u8 0, .int .u8 0, .int .u8 0, .int .u8 0, .int .u8 0, .int .u8 0, .int .u8 0, .int .u8 0, .int .u8 0, .int .u8 0, .int .u8 0, .int .u8 0, .int .u8 0, .int .u8 0, .int .u8 0, .int .u8 0, .int .u8 0, .int .u8 0, .int .u8 0, .int .u8 0, .int .u8 0, .int .u8 0, .int .u8 0, .int .u8 0, .int .u8 0, .int .u8 0, .int .u8 0, .int .u8 0, .int .u8 0, .int .u8 0, .int .u8 0, .int .u8 0, .int .u8 0, .int .u8 0, .int .u8 0, .int .u8 0, .int .u8 0, .int .u8 0, .int .u8 0, .int .u8 0, .int .u8 0, .int .u8 0, .int .u8 0, .int .u8 0, .int .u8 0, .int .u8 0, .int .u8 0, .int .u8 0], zc := [.int .u8 0, .int .u8 0, .int .u8 0, .int .u8 0, .int .u8 0, .int .u8 0, .int .u8 0, .int .u8 0, .int .u8 0, .int .u8 0, .int .u8 0, .int .u8 0, .int .u8 0, .int .u8 0, .int .u8 0, .int .u8 0, .int .u8 0, .int .u8 0, .int .u8 0, .int .u8 0, .int .u8 0, .int .u8 0, .int .u8 0, .int .u8 0, .int .u8 0, .int .u8 0, .int .u8 0, .int .u8 0, .int .u8 0, .int .u8 0, .int .u8 0, .int .u8 0, .int .u8 0, .int .u8 0, .int .u8 0, .int .u8 0, .int .u8 0, .int .u8 0, .int .u8 0, .int .u8 0, .int .u8 0, .int .u8 0, .int .u8 0, .int .u8 0, .int .u8 0, .int .u8 0, .int .u8 0, .int .u8 0, .int .u8 0, .int .u8 0, .int .u8 0, .int .u8 0, .int .u8 0, .int .u8 0, .int .u8 0, .int .u8 0, .int .u8 0, .int .u8 0, .int .u8 0, .int .u8 0, .int .u8 0, .int .u8 0, .int .u8 0, .int .u8 0, .int .u8 0], eq := [] } := rfl
@[simp] theorem tab114 : E.tab 114 = some { key := .other, size := 1, bytes := 8, zero := .pointer none, zc := [.lit (.pointer none)], eq := [] } := rfl
@[simp] theorem tab119 : E.tab 119 = some { key := .array 32 5, size := 32, bytes := 32, zero := .agg #[.int .u8 0, .int .u8 0, .int .u8 0, .int .u8 0, .int .u8 0, .int .u8 0, .int .u8 0, .int .u8 0, .int .u8 0, .int .u8 0, .int .u8 0, .int .u8 0, .int .u8 0, .int .u8 0, .int .u8 0, .int .u8 0, .int .u8 0, .int .u8 0, .int .u8 0, .int .u8 0, .int .u8 0, .int .u8 0, .int .u8 0, .int .u8 0, .int .u8 0, .int .u8 0, .int .u8 0, .int .u8 0, .int .u8 0, .int .u8 0, .int .u8 0, .int .u8 0], zc := [.int .u8 0, .int .u8 0, .int .u8 0, .int .u8 0, .int .u8 0, .int .u8 0, .int .u8 0, .int .u8 0, .int .u8 0, .int .u8 0, .int .u8 0, .int .u8 0, .int .u8 0, .int .u8 0, .int .u8 0, .int .u8 0, .int .u8 0, .int .u8 0, .int .u8 0, .int .u8 0, .int .u8 0, .int .u8 0, .int .u8 0, .int .u8 0, .int .u8 0, .int .u8 0, .int .u8 0, .int .u8 0, .int .u8 0, .int .u8 0, .int .u8 0, .int .u8 0], eq := [] } := rfl
@[simp] theorem tab120 : E.tab 120 = some { key := .array 64 5, size := 64, bytes := 64, zero := .agg #[.int .u8 0, .int .u8 0, .int .u8 0, .int .u8 0, .int .u8 0, .int .u8 0, .int .u8 0, .int .u8 0, .int .u8 0, .int .u8 0, .int .u8 0, .int .u8 0, .int .u8 0, .int .u8 0, .int .u8 0, .int .u8 0, .int .u8 0, .int .u8 0, .int .u8 0, .int .u8 0, .int .u8 0, .int .u8 0, .int .u8 0, .int .u8 0, .int .u8 0, .int .u8 0, .int .u8 0, .int .u8 0, .int .u8 0, .int .u8 0, .int .u8 0, .int .u8 0, .int .u8 0, .int .u8 0, .int .u8 0, .int .u8 0, .int .u8 0, .int .u8 0, .int .u8 0, .int .u8 0, .int .u8 0, .int .u8 0, .int .u8 0, .int .u8 0, .int .u8 0, .int .u8 0, .int .u8 0, .int .u8 0, .int .u8 0, .int .u8 0, .int .u8 0, .int .u8 0, .int .u8 0, .int .u8 0, .int .u8 0, .int .u8 0, .int .u8 0, .int .u8 0, .int .u8 0, .int .u8 0, .int .u8 0, .int .u8 0, .int .u8 0, .int .u8 0], zc := [.int .u8 0, .int .u8 0, .int .u8 0, .int .u8 0, .int .u8 0, .int .u8 0, .int .u8 0, .int .u8 0, .int .u8 0, .int .u8 0, .int .u8 0, .int .u8 0, .int .u8 0, .int .u8 0, .int .u8 0, .int .u8 0, .int .u8 0, .int .u8 0, .int .u8 0, .int .u8 0, .int .u8 0, .int .u8 0, .int .u8 0, .int .u8 0, .int .u8 0, .int .u8 0, .int .u8 0, .int .u8 0, .int .u8 0, .int .u8 0, .int .u8 0, .int .u8 0, .int .u8 0, .int .u8 0, .int .u8 0, .int .u8 0, .int .u8 0, .int .u8 0, .int .u8 0, .int .u8 0, .int .u8 0, .int .u8 0, .int .u8 0, .int .u8 0, .int .u8 0, .int .u8 0, .int .u8 0, .int .u8 0, .int .u8 0, .int .u8 0, .int .u8 0, .int .u8 0, .int .u8 0, .int .u8 0, .int .u8 0, .int .u8 0, .int .u8 0, .int .u8 0, .int .u8 0, .int .u8 0, .int .u8 0, .int .u8 0, .int .u8 0, .int .u8 0], eq := [] } := rfl
@[simp] theorem tab133 : E.tab 133 = some { key := .struct [(0, 3), (1, 3), (2, 3), (3, 3)], size := 4, bytes := 32, zero := .agg #[.int .i64 0, .int .i64 0, .int .i64 0, .int .i64 0], zc := [.int .i64 0, .int .i64 0, .int .i64 0, .int .i64 0], eq := [0, 0, 0, 0] } := rfl
@[simp] theorem tab134 : E.tab 134 = some { key := .struct [(0, 3), (1, 3), (2, 3), (3, 3)], size := 4, bytes := 32, zero := .agg #[.int .i64 0, .int .i64 0, .int .i64 0, .int .i64 0], zc := [.int .i64 0, .int .i64 0, .int .i64 0, .int .i64 0], eq := [0, 0, 0, 0] } := rfl
@[simp] theorem tab135 : E.tab 135 = some { key := .struct [(0, 3), (1, 3), (2, 3), (3, 3), (4, 3), (5, 9), (6, 134)], size := 10, bytes := 88, zero := .agg #[.int .i64 0, .int .i64 0, .int .i64 0, .int .i64 0, .int .i64 0, .string ⟨#[]⟩, .int .i64 0, .int .i64 0, .int .i64 0, .int .i64 0], zc := [.int .i64 0, .int .i64 0, .int .i64 0, .int .i64 0, .int .i64 0, .str [], .int .i64 0, .int .i64 0, .int .i64 0, .int .i64 0], eq := [] } := rfl
@[simp] theorem tab136 : E.tab 136 = some { key := .struct [(0, 3), (1, 3), (2, 3), (3, 3), (4, 3), (5, 9), (6, 134)], size := 10, bytes := 88, zero := .agg #[.int .i64 0, .int .i64 0, .int .i64 0, .int .i64 0, .int .i64 0, .string ⟨#[]⟩, .int .i64 0, .int .i64 0, .int .i64 0, .int .i64 0], zc := [.int .i64 0, .int .i64 0, .int .i64 0, .int .i64 0, .int .i64 0, .str [], .int .i64 0, .int .i64 0, .int .i64 0, .int .i64 0], eq := [] } := rfl
@[simp] theorem tab137 : E.tab 137 = some { key := .struct [(0, 3), (1, 3), (2, 3), (3, 3), (4, 3), (5, 3), (6, 3)], size := 7, bytes := 56, zero := .agg #[.int .i64 0, .int .i64 0, .int .i64 0, .int .i64 0, .int .i64 0, .int .i64 0, .int .i64 0], zc := [.int .i64 0, .int .i64 0, .int .i64 0, .int .i64 0, .int .i64 0, .int .i64 0, .int .i64 0], eq := [0, 0, 0, 0, 0, 0, 0] } := rfl
@[simp] theorem tab138 : E.tab 138 = some { key := .struct [(0, 3), (1, 3), (2, 3), (3, 3), (4, 3), (5, 3), (6, 3)], size := 7, bytes := 56, zero := .agg #[.int .i64 0, .int .i64 0, .int .i64 0, .int .i64 0, .int .i64 0, .int .i64 0, .int .i64 0], zc := [.int .i64 0, .int .i64 0, .int .i64 0, .int .i64 0, .int .i64 0, .int .i64 0, .int .i64 0], eq := [0, 0, 0, 0, 0, 0, 0] } := rfl
@[simp] theorem tab139 : E.tab 139 = some { key := .struct [(0, 3), (1, 3), (2, 3), (3, 3), (4, 3), (5, 3), (6, 3), (7, 3), (8, 3), (9, 3), (10, 3), (11, 3), (12, 3)], size := 13, bytes := 104, zero := .agg #[.int .i64 0, .int .i64 0, .int .i64 0, .int .i64 0, .int .i64 0, .int .i64 0, .int .i64 0, .int .i64 0, .int .i64 0, .int .i64 0, .int .i64 0, .int .i64 0, .int .i64 0], zc := [.int .i64 0, .int .i64 0, .int .i64 0, .int .i64 0, .int .i64 0, .int .i64 0, .int .i64 0, .int .i64 0, .int .i64 0, .int .i64 0, .int .i64 0, .int .i64 0, .int .i64 0], eq := [0, 0, 0, 0, 0, 0, 0, 0, 0, 0, 0, 0, 0] } := rfl
@[simp] theorem tab140 : E.tab 140 = some { key := .struct [(0, 3), (1, 3), (2, 3), (3, 3), (4, 3), (5, 3), (6, 3), (7, 3), (8, 3), (9, 3), (10, 3), (11, 3), (12, 3)], size := 13, bytes := 104, zero := .agg #[.int .i64 0, .int .i64 0, .int .i64 0, .int .i64 0, .int .i64 0, .int .i64 0, .int .i64 0, .int .i64 0, .int .i64 0, .int .i64 0, .int .i64 0, .int .i64 0, .int .i64 0], zc := [.int .i64 0, .int .i64 0, .int .i64 0, .int .i64 0, .int .i64 0, .int .i64 0, .int .i64 0, .int .i64 0, .int .i64 0, .int .i64 0, .int .i64 0, .int .i64 0, .int .i64 0], eq := [0, 0, 0, 0, 0, 0, 0, 0, 0, 0, 0, 0, 0] } := rfl
@[simp] theorem tab141 : E.tab 141 = some { key := .struct [(0, 3), (1, 3), (2, 3), (3, 3), (4, 3)], size := 5, bytes := 40, zero := .agg #[.int .i64 0, .int .i64 0, .int .i64 0, .int .i64 0, .int .i64 0], zc := [.int .i64 0, .int .i64 0, .int .i64 0, .int .i64 0, .int .i64 0], eq := [0, 0, 0, 0, 0] } := rfl
@[simp] theorem tab142 : E.tab 142 = some { key := .struct [(0, 3), (1, 3), (2, 3), (3, 3), (4, 3)], size := 5, bytes := 40, zero := .agg #[.int .i64 0, .int .i64 0, .int .i64 0, .int .i64 0, .int .i64 0], zc := [.int .i64 0, .int .i64 0, .int .i64 0, .int .i64 0, .int .i64 0], eq := [0, 0, 0, 0, 0] } := rfl
end Go.Proofs.YtjpjndfdncalfaaDoor

namespace Go.Proofs.YtjpjndfdncalfaaDoor
open Go Ab
abbrev n_main_main : Nat := 0
abbrev n_gosem_cut : Nat := 1
abbrev n_gosem_cut_init : Nat := 2
abbrev n_law35_NoticeDue : Nat := 3
abbrev n_law35_NoticeTexts : Nat := 4
abbrev n_law35_NoticeSorted : Nat := 5
abbrev n_law35_NoticeAll : Nat := 6
abbrev n_law35_NoticeFor : Nat := 7
abbrev n_law35_NoticeMore : Nat := 8
abbrev n_law35_alive : Nat := 9
abbrev n_ref35_Right : Nat := 10
abbrev n_ref35_Same : Nat := 11
abbrev n_notice_Due : Nat := 12
abbrev n_ref35_Due : Nat := 13
abbrev n_ref28_Small : Nat := 14
abbrev n_notice_Text : Nat := 15
abbrev n_ref35_Text : Nat := 16
abbrev n_notice_Count : Nat := 17
abbrev n_notice_For : Nat := 18
abbrev n_ref35_For : Nat := 19
abbrev n_ref35_Count : Nat := 20
abbrev n_ref03_Is : Nat := 21
abbrev n_notice_loan : Nat := 22
abbrev n_slices_SortStableFunc_api_Notice_api_Notice : Nat := 23
abbrev n_notice_Due_1 : Nat := 24
abbrev n_cmp_Or_int : Nat := 25
abbrev n_cmp_Compare_int : Nat := 26
abbrev n_ref35_Put : Nat := 27
abbrev n_ref35_notice : Nat := 28
abbrev n_notice_name : Nat := 29
abbrev n_strconv_Itoa : Nat := 30
abbrev n_date_Format : Nat := 31
abbrev n_ref35_Number : Nat := 32
abbrev n_ref28_Get : Nat := 33
abbrev n_ref03_Format : Nat := 34
abbrev n_notice_loan_1 : Nat := 35
abbrev n_slices_stableCmpFunc_api_Notice : Nat := 36
abbrev n_cmp_isNaN_int : Nat := 37
abbrev n_ref35_Before : Nat := 38
abbrev n_slices_IndexFunc_api_Patron_api_Patron : Nat := 39
abbrev n_notice_name_1 : Nat := 40
abbrev n_internal_strconv_Itoa : Nat := 41
abbrev n_date_Parts : Nat := 42
abbrev n_date_padded : Nat := 43
abbrev n_ref28_At : Nat := 44
abbrev n_ref03_Parts : Nat := 45
abbrev n_ref03_Digits : Nat := 46
abbrev n_slices_insertionSortCmpFunc_api_Notice : Nat := 47
abbrev n_slices_symMergeCmpFunc_api_Notice : Nat := 48
abbrev n_internal_strconv_FormatInt : Nat := 49
abbrev n_date_known : Nat := 50
abbrev n_date_newYear : Nat := 51
abbrev n_date_before : Nat := 52
abbrev n_strings_Repeat : Nat := 53
abbrev n_ref03_Year : Nat := 54
abbrev n_ref03_Length : Nat := 55
abbrev n_slices_rotateCmpFunc_api_Notice : Nat := 56
abbrev n_internal_strconv_small : Nat := 57
abbrev n_internal_strconv_numDigits : Nat := 58
abbrev n_internal_strconv_formatBase10 : Nat := 59
abbrev n_internal_strconv_formatBits : Nat := 60
abbrev n_date_leap : Nat := 61
abbrev n_math_bits_Mul : Nat := 62
abbrev n_strings_HasPrefix : Nat := 63
abbrev n_strings_Builder_Grow : Nat := 64
abbrev n_strings_Builder_WriteString : Nat := 65
abbrev n_strings_Builder_Len : Nat := 66
abbrev n_strings_Builder_String : Nat := 67
abbrev n_slices_swapRangeCmpFunc_api_Notice : Nat := 68
abbrev n_internal_strconv_log10Pow2 : Nat := 69
abbrev n_math_bits_Len64 : Nat := 70
abbrev n_internal_strconv_bool2_int : Nat := 71
abbrev n_internal_strconv_isPowerOfTwo : Nat := 72
abbrev n_math_bits_TrailingZeros : Nat := 73
abbrev n_math_bits_Mul32 : Nat := 74
abbrev n_math_bits_Mul64 : Nat := 75
abbrev n_internal_stringslite_HasPrefix : Nat := 76
abbrev n_strings_Builder_copyCheck : Nat := 77
abbrev n_strings_Builder_grow : Nat := 78
abbrev n_math_bits_TrailingZeros32 : Nat := 79
abbrev n_math_bits_TrailingZeros64 : Nat := 80
abbrev n_internal_abi_NoEscape : Nat := 81
abbrev n_internal_bytealg_MakeNoZero : Nat := 82
abbrev n_runtime_boundsError_Error : Nat := 83
abbrev n_runtime_boundsError_RuntimeError : Nat := 84
abbrev n_runtime_errorString_Error : Nat := 85
abbrev n_runtime_errorString_RuntimeError : Nat := 86
abbrev n_runtime_plainError_Error : Nat := 87
abbrev n_runtime_plainError_RuntimeError : Nat := 88
abbrev n_runtime_errorAddressString_Error : Nat := 89
abbrev n_runtime_errorAddressString_RuntimeError : Nat := 90
abbrev n_runtime_TypeAssertionError_Error : Nat := 91
abbrev n_runtime_TypeAssertionError_RuntimeError : Nat := 92
abbrev n_runtime_PanicNilError_Error : Nat := 93
abbrev n_runtime_PanicNilError_RuntimeError : Nat := 94
abbrev n_internal_abi_Type_Align : Nat := 95
abbrev n_internal_runtime_maps_unhashableTypeError_Error : Nat := 96
abbrev n_internal_runtime_maps_unhashableTypeError_RuntimeError : Nat := 97
abbrev n_api_Errno_Error : Nat := 98
abbrev n_strings_Builder_Reset : Nat := 99
abbrev n_internal_abi_Kind_String : Nat := 100
abbrev n_var_s_door_gosem_cut_vars_holds_initialisers_alone_see_the_manifest_s_row_cutvarsword_look_11_test_files_too : Nat := 101
abbrev n_var_s_door_internal_strconv_uint64pow10_is_laid_by_its_own_initialiser_plain_data_look_11 : Nat := 102
abbrev n_var_s_door_math_bits_deBruijn32tab_is_laid_by_its_own_initialiser_plain_data_look_11 : Nat := 103
abbrev n_var_s_door_math_bits_deBruijn64tab_is_laid_by_its_own_initialiser_plain_data_look_11 : Nat := 104
abbrev n_var_s_door_the_look_of_gosem_cut_vars_went_over_the_folder_that_the_caller_named_as_the_repository_s_root_look_11 : Nat := 105
abbrev n_gosem_cut_vars : Nat := 106
abbrev t_ : Nat := 0
abbrev t_Error : Nat := 99
abbrev t_a0_p_runtime_PanicNilError : Nat := 123
abbrev t_a12_int : Nat := 92
abbrev t_a20_uint64 : Nat := 106
abbrev t_a24_uint8 : Nat := 86
abbrev t_a32_uint8 : Nat := 119
abbrev t_a4_api_Calendar : Nat := 31
abbrev t_a5_int : Nat := 50
abbrev t_a64_uint8 : Nat := 120
abbrev t_a65_uint8 : Nat := 108
abbrev t_abi_BoundsErrorCode : Nat := 6
abbrev t_abi_Kind : Nat := 127
abbrev t_abi_NameOff : Nat := 129
abbrev t_abi_TFlag : Nat := 126
abbrev t_abi_Type : Nat := 132
abbrev t_abi_TypeOff : Nat := 130
abbrev t_api_Calendar : Nat := 30
abbrev t_api_Charge : Nat := 138
abbrev t_api_Circ : Nat := 34
abbrev t_api_Custody : Nat := 134
abbrev t_api_Errno : Nat := 74
abbrev t_api_Hold : Nat := 49
abbrev t_api_Item : Nat := 136
abbrev t_api_Loan : Nat := 47
abbrev t_api_Move : Nat := 142
abbrev t_api_Notice : Nat := 42
abbrev t_api_Patron : Nat := 64
abbrev t_api_Rule : Nat := 140
abbrev t_bool : Nat := 4
abbrev t_error : Nat := 100
abbrev t_int : Nat := 3
abbrev t_int32 : Nat := 21
abbrev t_int64 : Nat := 2
abbrev t_maps_unhashableTypeError : Nat := 19
abbrev t_p_abi_Type : Nat := 17
abbrev t_p_runtime_PanicNilError : Nat := 16
abbrev t_p_runtime_TypeAssertionError : Nat := 15
abbrev t_p_strings_Builder : Nat := 96
abbrev t_p_uint8 : Nat := 114
abbrev t_runtime_PanicNilError : Nat := 125
abbrev t_runtime_TypeAssertionError : Nat := 122
abbrev t_runtime_boundsError : Nat := 8
abbrev t_runtime_errorAddressString : Nat := 14
abbrev t_runtime_errorString : Nat := 10
abbrev t_runtime_plainError : Nat := 11
abbrev t_s_api_Charge : Nat := 26
abbrev t_s_api_Hold : Nat := 25
abbrev t_s_api_Item : Nat := 22
abbrev t_s_api_Loan : Nat := 24
abbrev t_s_api_Move : Nat := 32
abbrev t_s_api_Notice : Nat := 38
abbrev t_s_api_Patron : Nat := 23
abbrev t_s_api_Rule : Nat := 27
abbrev t_s_int : Nat := 28
abbrev t_s_uint8 : Nat := 78
abbrev t_string : Nat := 9
abbrev t_strings_Builder : Nat := 98
abbrev t_uint : Nat := 85
abbrev t_uint32 : Nat := 107
abbrev t_uint64 : Nat := 87
abbrev t_uint8 : Nat := 5
abbrev t_uintptr : Nat := 12
abbrev t_unsafe_Pointer : Nat := 116
def tabZ_math_bits_deBruijn32tab : List Int := [0, 1, 28, 2, 29, 14, 24, 3, 30, 22, 20, 15, 25, 17, 4, 8, 31, 27, 13, 23, 21, 19, 16, 7, 26, 12, 18, 6, 11, 5, 10, 9]
@[simp] theorem tabZ_math_bits_deBruijn32tab_len : tabZ_math_bits_deBruijn32tab.length = 32 := rfl
def tabL0 : TabL := ⟨ "math/bits.deBruijn32tab", 1, .u8, tabZ_math_bits_deBruijn32tab⟩
def tabZ_math_bits_deBruijn64tab : List Int := [0, 1, 56, 2, 57, 49, 28, 3, 61, 58, 42, 50, 38, 29, 17, 4, 62, 47, 59, 36, 45, 43, 51, 22, 53, 39, 33, 30, 24, 18, 12, 5, 63, 55, 48, 27, 60, 41, 37, 16, 46, 35, 44, 21, 52, 32, 23, 11, 54, 26, 40, 15, 34, 20, 31, 10, 25, 14, 19, 9, 13, 8, 7, 6]
@[simp] theorem tabZ_math_bits_deBruijn64tab_len : tabZ_math_bits_deBruijn64tab.length = 64 := rfl
def tabL1 : TabL := ⟨ "math/bits.deBruijn64tab", 2, .u8, tabZ_math_bits_deBruijn64tab⟩
def tabZ_internal_strconv_uint64pow10 : List Int := [1, 10, 100, 1000, 10000, 100000, 1000000, 10000000, 100000000, 1000000000, 10000000000, 100000000000, 1000000000000, 10000000000000, 100000000000000, 1000000000000000, 10000000000000000, 100000000000000000, 1000000000000000000, 10000000000000000000]
@[simp] theorem tabZ_internal_strconv_uint64pow10_len : tabZ_internal_strconv_uint64pow10.length = 20 := rfl
def tabL2 : TabL := ⟨ "internal/strconv.uint64pow10", 0, .u64, tabZ_internal_strconv_uint64pow10⟩
def tabL : List TabL := [tabL0, tabL1, tabL2]
theorem tabL_g : ∀ x ∈ tabL, Tryd.prog.globalNamed x.name = some x.g := by
  intro x hx
  simp only [tabL, List.mem_cons, List.not_mem_nil, or_false] at hx
  rcases hx with rfl | rfl | rfl <;> kernel_rfl
theorem tabL_r : ∀ x ∈ tabL, ∀ z ∈ x.zs, x.k.min ≤ z ∧ z ≤ x.k.max := by decide +kernel
instance amb : Amb := Amb.tabs Tryd.prog tabL tabL_g tabL_r
@[simp] theorem amb_tab1 : Amb.tab 1 = some (tabZ_math_bits_deBruijn32tab.map (D.int .u8)) := rfl
@[simp] theorem amb_tab2 : Amb.tab 2 = some (tabZ_math_bits_deBruijn64tab.map (D.int .u8)) := rfl
@[simp] theorem amb_tab0 : Amb.tab 0 = some (tabZ_internal_strconv_uint64pow10.map (D.int .u64)) := rfl
@[simp] theorem amb_tab3 : Amb.tab 3 = none := rfl
theorem amb_is1 {w : World} {S : Nat → Nat → Prop} (h : Amb.G w S) : Go.Lib.TabIs Tryd.prog w "math/bits.deBruijn32tab" .u8 [0, 1, 28, 2, 29, 14, 24, 3, 30, 22, 20, 15, 25, 17, 4, 8, 31, 27, 13, 23, 21, 19, 16, 7, 26, 12, 18, 6, 11, 5, 10, 9] := (h tabL0 (by simp [tabL])).1
theorem amb_is2 {w : World} {S : Nat → Nat → Prop} (h : Amb.G w S) : Go.Lib.TabIs Tryd.prog w "math/bits.deBruijn64tab" .u8 [0, 1, 56, 2, 57, 49, 28, 3, 61, 58, 42, 50, 38, 29, 17, 4, 62, 47, 59, 36, 45, 43, 51, 22, 53, 39, 33, 30, 24, 18, 12, 5, 63, 55, 48, 27, 60, 41, 37, 16, 46, 35, 44, 21, 52, 32, 23, 11, 54, 26, 40, 15, 34, 20, 31, 10, 25, 14, 19, 9, 13, 8, 7, 6] := (h tabL1 (by simp [tabL])).1
theorem amb_is0 {w : World} {S : Nat → Nat → Prop} (h : Amb.G w S) : Go.Lib.TabIs Tryd.prog w "internal/strconv.uint64pow10" .u64 [1, 10, 100, 1000, 10000, 100000, 1000000, 10000000, 100000000, 1000000000, 10000000000, 100000000000, 1000000000000, 10000000000000, 100000000000000, 1000000000000000, 10000000000000000, 100000000000000000, 1000000000000000000, 10000000000000000000] := (h tabL2 (by simp [tabL])).1
theorem mixed : E.P.follows .mixedOrders = true := by kernel_rfl
end Go.Proofs.YtjpjndfdncalfaaDoor

namespace Pl
open Go Ab
structure Charge where
  id : Int
  patron : Int
  item : Int
  day : Int
  kind : Int
  amount : Int
  paid : Int
  deriving Inhabited, DecidableEq
structure Cal where
  week : Int
  closed : List Int
structure Rule where
  r0 : Int
  r1 : Int
  r2 : Int
  r3 : Int
  r4 : Int
  fine : Int
  grace : Int
  maxFine : Int
  r8 : Int
  r9 : Int
  r10 : Int
  r11 : Int
  r12 : Int
def encCharge (c : Charge) : D := .agg [.int .i64 c.id, .int .i64 c.patron, .int .i64 c.item, .int .i64 c.day, .int .i64 c.kind, .int .i64 c.amount, .int .i64 c.paid]
def z0 : Charge := ⟨0, 0, 0, 0, 0, 0, 0⟩
def encCharges (l : List Charge) : D := .slice (encCharge z0) (l.map encCharge)
def encInts (l : List Int) : D := .slice (.int .i64 0) (l.map (D.int .i64))
def encCal (c : Cal) : D := .agg [.int .i64 c.week, encInts c.closed]
def encRule (r : Rule) : D := .agg [.int .i64 r.r0, .int .i64 r.r1, .int .i64 r.r2, .int .i64 r.r3, .int .i64 r.r4, .int .i64 r.fine, .int .i64 r.grace, .int .i64 r.maxFine, .int .i64 r.r8, .int .i64 r.r9, .int .i64 r.r10, .int .i64 r.r11, .int .i64 r.r12]
@[simp] theorem encCharge_cells (c : Charge) : (encCharge c).cells = [.int .i64 c.id, .int .i64 c.patron, .int .i64 c.item, .int .i64 c.day, .int .i64 c.kind, .int .i64 c.amount, .int .i64 c.paid] := rfl
theorem encCharge_eq (c : Charge) : encCharge c = .agg [.int .i64 c.id, .int .i64 c.patron, .int .i64 c.item, .int .i64 c.day, .int .i64 c.kind, .int .i64 c.amount, .int .i64 c.paid] := rfl
theorem encCharges_eq (l : List Charge) : encCharges l = .slice (encCharge z0) (l.map encCharge) := rfl
theorem encInts_eq (l : List Int) : encInts l = .slice (.int .i64 0) (l.map (D.int .i64)) := rfl
theorem encRule_eq (r : Rule) : encRule r = .agg [.int .i64 r.r0, .int .i64 r.r1, .int .i64 r.r2, .int .i64 r.r3, .int .i64 r.r4, .int .i64 r.fine, .int .i64 r.grace, .int .i64 r.maxFine, .int .i64 r.r8, .int .i64 r.r9, .int .i64 r.r10, .int .i64 r.r11, .int .i64 r.r12] := rfl
def isDay (n : Int) : Bool := decide (0 ≤ n) && decide (n ≤ 109572)
def wday (n : Int) : Int := if isDay n then n.tmod 7 else -1
section
variable {x : Charge}
end
def lowId : Option Int → Int → Bool
  | none, _ => false
  | some p, i => decide (i ≤ p)
section
variable {x : Charge}
end
def ascF : Option Int → List Int → Int
  | _, [] => 0
  | pr, x :: l => if lowId pr x = true then 7 else ascF (some x) l
def calR (c : Cal) : Int := if c.week < 0 ∨ 127 ≤ c.week then 1 else if 64 < (c.closed.length : Int) then 13 else if c.closed.any (fun n => !isDay n) = true then 2 else ascF none c.closed
section
variable {c : Cal}
end
def fst7 (w : Int) : Int := (IntKind.i64.wrap (IntKind.i64.wrap (w - wday 0) + 7)).tmod 7
def upToW (d w : Int) : Int := if d < fst7 w then 0 else IntKind.i64.wrap (IntKind.i64.wrap ((IntKind.i64.wrap (d - fst7 w)).tdiv 7) + 1)
def wkB (w : Int) (i : Nat) : Bool := bits BinOp.and IntKind.i64 (w.fdiv (2 ^ min i IntKind.i64.bits)) 1 == 0
def weekL (w : Int) : List D := [.bool (wkB w 0), .bool (wkB w 1), .bool (wkB w 2), .bool (wkB w 3), .bool (wkB w 4), .bool (wkB w 5), .bool (wkB w 6)]
@[simp] theorem weekL_length (w : Int) : (weekL w).length = 7 := rfl
@[simp] theorem weekL_getD (w : Int) (i : Nat) : (weekL w)[i]?.getD (D.bool false) = D.bool (decide (i < 7) && wkB w i) := by
  by_cases h : i < 7
  · have : i = 0 ∨ i = 1 ∨ i = 2 ∨ i = 3 ∨ i = 4 ∨ i = 5 ∨ i = 6 := by omega
    rcases this with rfl | rfl | rfl | rfl | rfl | rfl | rfl <;> simp [weekL]
  · rw [List.getElem?_eq_none (by simp; omega)]
    simp [h]
@[simp] theorem weekL_ld (w : Int) : List.take 7 (List.map (C.dat ∘ C.d) (weekL w)) = weekL w := rfl
def cnt7 (w lo hi : Int) : Nat → Int
  | 0 => 0
  | k + 1 => if wkB w k = true then IntKind.i64.wrap (cnt7 w lo hi k + IntKind.i64.wrap (upToW hi k - upToW (IntKind.i64.wrap (lo - 1)) k)) else cnt7 w lo hi k
@[simp] theorem cnt7_zero {w lo hi : Int} : cnt7 w lo hi 0 = 0 := rfl
section
variable {r : Rule} {c : Cal} {d b : Int}
end
def r0 : Rule := ⟨0, 0, 0, 0, 0, 20, 1, 100, 0, 0, 0, 0, 0⟩
def c0 : Cal := ⟨0, []⟩
def hv : Nat → Int → Int
  | 0, w => w
  | k + 1, w => IntKind.i64.wrap ((hv k w).tdiv 2)
@[simp] theorem hv_zero {w : Int} : hv 0 w = w := rfl
def anyF (d : Int) : Unit → List Int → Bool
  | _, [] => true
  | _, x :: l => if x = d then false else anyF d () l
def openR (c : Cal) (d : Int) : Bool := if d < 0 ∨ 109572 < d then false else if (hv (wday d).toNat c.week).tmod 2 = 1 then false else anyF d () c.closed
section
variable {c : Cal} {d : Int}
end
end Pl

/- Calendars: the count by weeks is the count by days. No conditions beyond those at each theorem. -/
namespace Pl
open Go Ab
set_option linter.unusedVariables false
set_option linter.unusedSimpArgs false

def b2i (b : Bool) : Int := if b = true then 1 else 0
/-- how many days of [d, d+k) satisfy p -/
def cdays (p : Int → Bool) (d : Int) : Nat → Int
  | 0 => 0
  | k + 1 => cdays p d k + b2i (p (d + k))
def hi0 (t : Int) : Int := if 109572 < t then 109572 else t
theorem wk_hv : ∀ (n : Fin 127) (k : Fin 7), wkB (n.val : Int) k.val = !(decide ((hv k.val (n.val : Int)).tmod 2 = 1)) := by decide +kernel
theorem wkB_eq {w : Int} (h0 : 0 ≤ w) (h1 : w < 127) {k : Nat} (hk : k < 7) : wkB w k = !(decide ((hv k w).tmod 2 = 1)) := by
  have := wk_hv ⟨w.toNat, by omega⟩ ⟨k, hk⟩
  have e : ((w.toNat : Nat) : Int) = w := Int.toNat_of_nonneg h0
  simpa only [e] using this
theorem wday_eq {d : Int} (h0 : 0 ≤ d) (h1 : d ≤ 109572) : wday d = d % 7 := by
  unfold wday isDay
  rw [if_pos (by simp [h0, h1]), Int.tmod_eq_emod_of_nonneg h0]
theorem anyF_eq (d : Int) : ∀ l : List Int, anyF d () l = !(decide (d ∈ l))
  | [] => by simp [anyF]
  | x :: l => by
    by_cases h : x = d
    · subst h; simp [anyF]
    · have h' : ¬ d = x := fun e => h e.symm
      simp [anyF, h, h', anyF_eq d l]
/-- the day of the week is open -/
def wkO (c : Cal) (d : Int) : Bool := wkB c.week (d % 7).toNat
theorem calR_facts {c : Cal} (h : calR c = 0) : 0 ≤ c.week ∧ c.week < 127 ∧ c.closed.length ≤ 64 ∧ (∀ x ∈ c.closed, 0 ≤ x ∧ x ≤ 109572) ∧ ascF none c.closed = 0 := by
  unfold calR at h
  split at h
  · exact absurd h (by decide)
  · split at h
    · exact absurd h (by decide)
    · split at h
      · exact absurd h (by decide)
      · rename_i h1 h2 h3
        refine ⟨by omega, by omega, by omega, fun x hx => ?_, h⟩
        simp only [List.any_eq_true, not_exists, not_and] at h3
        have := h3 x hx
        simp [isDay] at this
        exact this
theorem openR_eq {c : Cal} (h : calR c = 0) {d : Int} (h0 : 0 ≤ d) (h1 : d ≤ 109572) : openR c d = (wkO c d && !(decide (d ∈ c.closed))) := by
  obtain ⟨a1, a2, _⟩ := calR_facts h
  unfold openR
  rw [if_neg (by omega), wday_eq h0 h1, anyF_eq]
  unfold wkO
  rw [wkB_eq a1 a2 (by omega)]
  by_cases hh : (hv (d % 7).toNat c.week).tmod 2 = 1
  · simp [hh]
  · simp [hh]
/-- ascending lists have no member twice -/
theorem ascF_gt : ∀ (l : List Int) (m : Int), ascF (some m) l = 0 → ∀ x ∈ l, m < x
  | [], _, _, x, hx => by simp at hx
  | y :: l, m, h, x, hx => by
    simp only [ascF] at h
    split at h
    · exact absurd h (by decide)
    · rename_i h1
      have hy : m < y := by simpa [lowId] using h1
      rcases List.mem_cons.1 hx with rfl | hx
      · exact hy
      · have := ascF_gt l y h x hx; omega
theorem ascF_nodup : ∀ (l : List Int) (p : Option Int), ascF p l = 0 → l.Nodup
  | [], _, _ => List.nodup_nil
  | y :: l, p, h => by
    simp only [ascF] at h
    split at h
    · exact absurd h (by decide)
    · refine List.nodup_cons.2 ⟨fun hy => ?_, ascF_nodup l _ h⟩
      have := ascF_gt l y h y hy; omega

/-- days from 0 to a day with a weekday, without wrapping -/
def upz (d k : Int) : Int := if d < k then 0 else (d - k) / 7 + 1
theorem upz_step {d k : Int} (h0 : 0 ≤ k) (h1 : k < 7) (hd : -1 ≤ d) : upz (d + 1) k = upz d k + (if (d + 1) % 7 = k then 1 else 0) := by
  unfold upz
  split <;> split <;> split <;> omega
/-- the count of weekdays below k, without wrapping -/
def c7 (w lo hi : Int) : Nat → Int
  | 0 => 0
  | k + 1 => c7 w lo hi k + b2i (wkB w k) * (upz hi k - upz (lo - 1) k)
theorem c7_step {w lo hi : Int} (hh : -1 ≤ hi) : ∀ k : Nat, k ≤ 7 → c7 w lo (hi + 1) k = c7 w lo hi k + (if (hi + 1) % 7 < k then b2i (wkB w ((hi + 1) % 7).toNat) else 0)
  | 0, _ => by
    simp only [c7]
    rw [if_neg (by omega)]; rfl
  | k + 1, hk => by
    simp only [c7]
    rw [c7_step hh k (by omega), upz_step (by omega) (by omega) hh]
    by_cases he : (hi + 1) % 7 = (k : Int)
    · rw [he, if_pos rfl, if_neg (by omega), if_pos (by omega)]
      have : ((k : Int)).toNat = k := by omega
      rw [this]
      unfold b2i; split <;> omega
    · rw [if_neg he]
      by_cases h2 : (hi + 1) % 7 < (k : Int)
      · rw [if_pos h2, if_pos (by omega)]; simp; omega
      · rw [if_neg h2, if_neg (by omega)]; simp
/-- closed days between lo and hi that would be open -/
def ccl (w lo hi : Int) : List Int → Int
  | [] => 0
  | d :: l => b2i (decide (lo ≤ d) && decide (d ≤ hi) && wkB w (d % 7).toNat) + ccl w lo hi l
theorem ccl_step {w lo hi : Int} (hl : lo ≤ hi + 1) : ∀ l : List Int, l.Nodup → ccl w lo (hi + 1) l = ccl w lo hi l + (if hi + 1 ∈ l then b2i (wkB w ((hi + 1) % 7).toNat) else 0)
  | [], _ => by simp [ccl]
  | d :: l, hn => by
    obtain ⟨h1, h2⟩ := List.nodup_cons.1 hn
    simp only [ccl]
    rw [ccl_step hl l h2]
    by_cases hd : hi + 1 = d
    · subst hd
      rw [if_neg h1, if_pos (by simp)]
      have a1 : decide (lo ≤ hi + 1) = true := by simp [hl]
      have a2 : decide (hi + 1 ≤ hi) = false := by simp; omega
      simp [a1, a2, b2i]; omega
    · have a : decide (d ≤ hi + 1) = decide (d ≤ hi) := by
        by_cases hh : d ≤ hi
        · simp [hh]; omega
        · simp [hh]; omega
      rw [a]
      have : (hi + 1 ∈ d :: l) ↔ (hi + 1 ∈ l) := by simp [hd]
      simp only [this]; omega
theorem ccl_zero {w lo hi : Int} (h : hi < lo) : ∀ l : List Int, ccl w lo hi l = 0
  | [] => rfl
  | d :: l => by
    simp only [ccl]
    rw [ccl_zero h l]
    have : (decide (lo ≤ d) && decide (d ≤ hi)) = false := by
      by_cases hh : lo ≤ d
      · have : ¬ d ≤ hi := by omega
        simp [this]
      · simp [hh]
    simp [this, b2i]
theorem c7_zero {w lo : Int} : ∀ k : Nat, c7 w lo (lo - 1) k = 0
  | 0 => rfl
  | k + 1 => by simp only [c7]; rw [c7_zero k]; simp
/-- THE COUNT by weeks is the count by days. -/
theorem weeks {c : Cal} (h : calR c = 0) {lo : Int} (hl : 0 ≤ lo) : ∀ k : Nat, lo + k ≤ 109573 → c7 c.week lo (lo + k - 1) 7 - ccl c.week lo (lo + k - 1) c.closed = cdays (openR c) lo k
  | 0, _ => by
    have e : lo + ((0 : Nat) : Int) - 1 = lo - 1 := by omega
    rw [e, c7_zero, ccl_zero (by omega)]; rfl
  | k + 1, hk => by
    have ih := weeks h hl k (by omega)
    have e : lo + ((k + 1 : Nat) : Int) - 1 = (lo + k - 1) + 1 := by omega
    obtain ⟨a1, a2, a3, a4, a5⟩ := calR_facts h
    rw [e, c7_step (by omega) 7 (Nat.le_refl _), ccl_step (by omega) _ (ascF_nodup _ _ a5), if_pos (by omega)]
    simp only [cdays]
    rw [← ih]
    have e2 : lo + (k : Int) - 1 + 1 = lo + k := by omega
    rw [e2, openR_eq h (by omega) (by omega)]
    unfold wkO
    by_cases hm : lo + (k : Int) ∈ c.closed
    · simp [hm, b2i]; omega
    · simp [hm]; omega
section
variable {r : Rule} {c : Cal} {d b : Int}
end
end Pl

/- Calendars: searching for open days. -/
namespace Pl
open Go Ab
set_option linter.unusedVariables false
set_option linter.unusedSimpArgs false

section
variable {c : Cal} {d n : Int}
end
theorem half_eq {i j : Nat} (h : i + j ≤ 4000000000000) : IntKind.i64.wrap ((IntKind.u64.wrap (IntKind.i64.wrap ((i : Int) + (j : Int)))).fdiv (2 ^ min 1 IntKind.u64.bits)) = (((i + j) / 2 : Nat) : Int) := by
  have e1 : IntKind.i64.wrap ((i : Int) + (j : Int)) = (i : Int) + (j : Int) := wrap_i64 (by omega) (by omega)
  have e2 : IntKind.u64.wrap ((i : Int) + (j : Int)) = (i : Int) + (j : Int) := by rw [IntKind.wrap_u64]; omega
  have e3 : (2 : Int) ^ min 1 IntKind.u64.bits = 2 := by decide
  rw [e1, e2, e3, Int.fdiv_eq_ediv_of_nonneg _ (by omega), wrap_i64 (by omega) (by omega)]
  omega
end Pl

/- Calendars: what is counted between what is found. -/
namespace Pl
open Go Ab
set_option linter.unusedVariables false
set_option linter.unusedSimpArgs false

def c1 : Cal := ⟨96, [46342]⟩
end Pl

/- The policy matrix: what its functions compute. -/
namespace Pl
open Go Ab
set_option linter.unusedVariables false
set_option linter.unusedSimpArgs false

deriving instance DecidableEq for Rule
def zr : Rule := ⟨0, 0, 0, 0, 0, 0, 0, 0, 0, 0, 0, 0, 0⟩
@[simp] theorem encRule_cells (r : Rule) : (encRule r).cells = [.int .i64 r.r0, .int .i64 r.r1, .int .i64 r.r2, .int .i64 r.r3, .int .i64 r.r4, .int .i64 r.fine, .int .i64 r.grace, .int .i64 r.maxFine, .int .i64 r.r8, .int .i64 r.r9, .int .i64 r.r10, .int .i64 r.r11, .int .i64 r.r12] := rfl
def encRules (l : List Rule) : D := .slice (encRule zr) (l.map encRule)
theorem encRules_eq (l : List Rule) : encRules l = .slice (encRule zr) (l.map encRule) := rfl
structure Qry where
  p : Int
  i : Int
  b : Int
def fits1 (k n : Int) : Bool := k == 0 || k == n
def fitsB (r : Rule) (q : Qry) : Bool := (fits1 r.r0 q.p && fits1 r.r1 q.i) && fits1 r.r2 q.b
def wtR (r : Rule) : Int := (if r.r0 = 0 then 0 else 4) + (if r.r1 = 0 then 0 else 2) + (if r.r2 = 0 then 0 else 1)
/-- what is known of the best of the first k rows -/
def BestI (l : List Rule) (q : Qry) (k : Nat) (a w : Int) : Prop :=
  (a = -1 ∧ ∀ (j : Nat) x, j < k → l[j]? = some x → fitsB x q = false) ∨
  ∃ (j : Nat) (y : Rule), a = (j : Int) ∧ j < k ∧ l[j]? = some y ∧ w = wtR y ∧ fitsB y q = true ∧
    (∀ (i : Nat) x, i < j → l[i]? = some x → fitsB x q = true → wtR x < wtR y) ∧ ∀ (i : Nat) x, i < k → l[i]? = some x → fitsB x q = true → wtR x ≤ wtR y
theorem BestI.zero (l : List Rule) (q : Qry) : BestI l q 0 (-1) 0 := .inl ⟨rfl, fun j x h => by omega⟩
theorem BestI.step {l : List Rule} {q : Qry} {k : Nat} {a w : Int} {x : Rule} (hx : l[k]? = some x) (h : BestI l q k a w) :
    if fitsB x q = true ∧ (a < 0 ∨ w < wtR x) then BestI l q (k + 1) k (wtR x) else BestI l q (k + 1) a w := by
  rcases h with ⟨rfl, h⟩ | ⟨j, y, rfl, hj, hy, rfl, hf, h1, h2⟩
  · split
    · rename_i hc
      refine .inr ⟨k, x, rfl, by omega, hx, rfl, hc.1, fun i z hi hz hfz => ?_, fun i z hi hz hfz => ?_⟩
      · rw [h i z hi hz] at hfz; cases hfz
      · by_cases e : i = k
        · subst e; rw [hx] at hz; cases hz; exact Int.le_refl _
        · rw [h i z (by omega) hz] at hfz; cases hfz
    · rename_i hc
      refine .inl ⟨rfl, fun i z hi hz => ?_⟩
      by_cases e : i = k
      · subst e; rw [hx] at hz; cases hz
        simp at hc; exact hc
      · exact h i z (by omega) hz
  · split
    · rename_i hc
      have hw : wtR y < wtR x := by have := hc.2; omega
      refine .inr ⟨k, x, rfl, by omega, hx, rfl, hc.1, fun i z hi hz hfz => ?_, fun i z hi hz hfz => ?_⟩
      · have := h2 i z hi hz hfz; omega
      · by_cases e : i = k
        · subst e; rw [hx] at hz; cases hz; exact Int.le_refl _
        · have := h2 i z (by omega) hz hfz; omega
    · rename_i hc
      refine .inr ⟨j, y, rfl, by omega, hy, rfl, hf, h1, fun i z hi hz hfz => ?_⟩
      by_cases e : i = k
      · subst e; rw [hx] at hz; cases hz
        simp only [hfz, true_and, not_or, Int.not_lt] at hc; exact hc.2
      · exact h2 i z (by omega) hz hfz
theorem BestI.rng {l : List Rule} {q : Qry} {k : Nat} {a w : Int} (h : BestI l q k a w) : -1 ≤ a ∧ a < (l.length : Int) := by
  rcases h with ⟨rfl, _⟩ | ⟨j, y, rfl, hj, hy, _⟩
  · omega
  · have := (List.getElem?_eq_some_iff.1 hy).1; omega
theorem BestI.at' {l : List Rule} {q : Qry} {k : Nat} {a w : Int} (h : BestI l q k a w) : 0 ≤ a → w = wtR (l[a.toNat]?.getD zr) := by
  intro h0
  rcases h with ⟨rfl, _⟩ | ⟨j, y, rfl, hj, hy, hw, _⟩
  · omega
  · rw [show ((j : Int)).toNat = j by omega, hy]; exact hw
section
variable {r : Rule} {c : Cal} {d u : Int}
end
structure Loan where
  item : Int
  patron : Int
  out : Int
  due : Int
  ren : Int
  rcl : Bool
  deriving DecidableEq
def encLoan (n : Loan) : D := .agg [.int .i64 n.item, .int .i64 n.patron, .int .i64 n.out, .int .i64 n.due, .int .i64 n.ren, .bool n.rcl]
theorem encLoan_eq (n : Loan) : encLoan n = .agg [.int .i64 n.item, .int .i64 n.patron, .int .i64 n.out, .int .i64 n.due, .int .i64 n.ren, .bool n.rcl] := rfl
section
variable {r : Rule} {c : Cal} {n : Loan} {d u : Int}
end
end Pl

/- Notices: the notices of a list, and what the functions of a stable sort do with a list. -/
namespace Pl
open Go Ab

structure Note where
  kind : Int
  patron : Int
  item : Int
  day : Int
deriving DecidableEq
def zn : Note := ⟨0, 0, 0, 0⟩
def encNote (n : Note) : D := .agg [.int .i64 n.kind, .int .i64 n.patron, .int .i64 n.item, .int .i64 n.day]
theorem encNote_eq (n : Note) : encNote n = .agg [.int .i64 n.kind, .int .i64 n.patron, .int .i64 n.item, .int .i64 n.day] := rfl
@[simp] theorem encNote_cells (n : Note) : (encNote n).cells = [.int .i64 n.kind, .int .i64 n.patron, .int .i64 n.item, .int .i64 n.day] := rfl
def noteL (l : List Note) : List D := l.map encNote
@[simp] theorem noteL_length (l : List Note) : (noteL l).length = l.length := by simp [noteL]
@[simp] theorem noteL_free (l : List Note) : (noteL l).all freeE = true := by
  simp only [noteL, List.all_map, List.all_eq_true]
  intro n _
  rfl
theorem noteL_get {l : List Note} {i : Nat} {x : Note} (h : l[i]? = some x) : (noteL l)[i]? = some (.agg [.int .i64 x.kind, .int .i64 x.patron, .int .i64 x.item, .int .i64 x.day]) := by simp [noteL, h, encNote]
theorem noteL_set (l : List Note) (i : Nat) (x : Note) : (noteL l).set i (.agg [.int .i64 x.kind, .int .i64 x.patron, .int .i64 x.item, .int .i64 x.day]) = noteL (l.set i x) := by simp [noteL, List.map_set, encNote]

/-- Two places of a list, exchanged. -/
def swapA (l : List Note) (i j : Nat) : List Note := (l.set i (l.getD j zn)).set j (l.getD i zn)
@[simp] theorem swapA_len (l : List Note) (i j : Nat) : (swapA l i j).length = l.length := by simp [swapA]
theorem noteL_swap {l : List Note} {i j : Nat} {x y : Note} (hx : l[i]? = some x) (hy : l[j]? = some y) :
    ((noteL l).set i (.agg [.int .i64 y.kind, .int .i64 y.patron, .int .i64 y.item, .int .i64 y.day])).set j (.agg [.int .i64 x.kind, .int .i64 x.patron, .int .i64 x.item, .int .i64 x.day]) = noteL (swapA l i j) := by
  rw [noteL_set, noteL_set, swapA, List.getD_eq_getElem?_getD, List.getD_eq_getElem?_getD, hx, hy]; rfl
theorem noteL_mid {l : List Note} {i j : Nat} {y z : Note} (hij : i ≠ j) (hy : l[j]? = some y) :
    ((noteL l).set i (.agg [.int .i64 z.kind, .int .i64 z.patron, .int .i64 z.item, .int .i64 z.day]))[j]? = some (.agg [.int .i64 y.kind, .int .i64 y.patron, .int .i64 y.item, .int .i64 y.day]) := by
  rw [List.getElem?_set_ne hij]; exact noteL_get hy

/-- n places from a on, exchanged with those from b on. -/
def swapN (l : List Note) (a b : Nat) : Nat → List Note
  | 0 => l
  | k + 1 => swapA (swapN l a b k) (a + k) (b + k)
@[simp] theorem swapN_len (l : List Note) (a b n : Nat) : (swapN l a b n).length = l.length := by
  induction n with
  | zero => rfl
  | succ n ih => simp [swapN, ih]

/-- Two blocks ahead of place m and behind it, exchanged: i places and j places. -/
def rotG (l : List Note) (m i j : Nat) : List Note :=
  if i = j ∨ i = 0 ∨ j = 0 then swapN l (m - i) m i
  else if j < i then rotG (swapN l (m - i) m j) m (i - j) j
  else rotG (swapN l (m - i) (m + j - i) i) m i (j - i)
termination_by i + j
@[simp] theorem rotG_len (l : List Note) (m i j : Nat) : (rotG l m i j).length = l.length := by
  fun_induction rotG l m i j <;> simp_all

theorem rotG_eq (l : List Note) (m i : Nat) : rotG l m i i = swapN l (m - i) m i := by rw [rotG, if_pos (.inl rfl)]
theorem rotG_gt {l : List Note} {m i j : Nat} (h : j < i) (h0 : 0 < j) : rotG l m i j = rotG (swapN l (m - i) m j) m (i - j) j := by rw [rotG, if_neg (by omega), if_pos h]
theorem rotG_lt {l : List Note} {m i j : Nat} (h : i < j) (h0 : 0 < i) : rotG l m i j = rotG (swapN l (m - i) (m + j - i) i) m i (j - i) := by rw [rotG, if_neg (by omega), if_neg (by omega)]

/-- The search by halves: the first place where p is false. -/
def bsF (p : Nat → Bool) (i j : Nat) : Nat := if i < j then (if p ((i + j) / 2) = true then bsF p ((i + j) / 2 + 1) j else bsF p i ((i + j) / 2)) else i
termination_by j - i

theorem bsF_t {p : Nat → Bool} {i j h : Nat} (hij : i < j) (hh : h = (i + j) / 2) (hp : p h = true) : bsF p (h + 1) j = bsF p i j := by
  subst hh
  conv => rhs; rw [bsF]
  rw [if_pos hij, if_pos hp]
theorem bsF_f {p : Nat → Bool} {i j h : Nat} (hij : i < j) (hh : h = (i + j) / 2) (hp : p h = false) : bsF p i h = bsF p i j := by
  subst hh
  conv => rhs; rw [bsF]
  rw [if_pos hij, if_neg (by rw [hp]; simp)]
theorem bsF_done {p : Nat → Bool} {i j : Nat} (hij : ¬ i < j) : bsF p i j = i := by rw [bsF, if_neg hij]
def cmpI (x y : Int) : Int := if x < y then -1 else if y < x then 1 else 0
theorem cmpI_rng (x y : Int) : -1 ≤ cmpI x y ∧ cmpI x y ≤ 1 := by unfold cmpI; split <;> (try split) <;> omega
def orF : List Int → Int
  | [] => 0
  | v :: l => if v = 0 then orF l else v
def orG (_ : Unit) (l : List Int) : Int := orF l
def cmpN (a b : Note) : Int := orF [cmpI a.patron b.patron, cmpI a.kind b.kind, cmpI a.item b.item]
theorem cmpN_rng (a b : Note) : -1 ≤ cmpN a b ∧ cmpN a b ≤ 1 := by
  have h1 := cmpI_rng a.patron b.patron
  have h2 := cmpI_rng a.kind b.kind
  have h3 := cmpI_rng a.item b.item
  simp only [cmpN, orF]
  split
  · split
    · split <;> omega
    · omega
  · omega
def ltN (a b : Note) : Bool := decide (cmpN a b < 0)
def ltA (l : List Note) (i j : Nat) : Bool := ltN (l.getD i zn) (l.getD j zn)

/-- The insertion sort's inner loop: place j goes down as far as it must. -/
def insI (l : List Note) (a : Nat) : Nat → List Note
  | 0 => l
  | j + 1 => if a < j + 1 ∧ ltA l (j + 1) j = true then insI (swapA l (j + 1) j) a j else l
@[simp] theorem insI_len (a j : Nat) : ∀ (l : List Note), (insI l a j).length = l.length := by
  induction j with
  | zero => intro l; rfl
  | succ j ih => intro l; simp only [insI]; split <;> simp [ih]
theorem insI_go {l : List Note} {a j p : Nat} (hj : j = p + 1) (ha : a < j) (h : ltA l j p = true) : insI l a j = insI (swapA l j p) a p := by
  subst hj; rw [insI, if_pos ⟨ha, h⟩]
theorem insI_no {l : List Note} {a j p : Nat} (hj : j = p + 1) (h : ltA l j p = false) : insI l a j = l := by
  subst hj; rw [insI, if_neg (by rw [h]; simp)]
theorem insI_ge {l : List Note} {a j : Nat} (h : ¬ a < j) : insI l a j = l := by
  cases j with
  | zero => rfl
  | succ p => rw [insI, if_neg (fun e => h e.1)]
theorem ltA_eq {l : List Note} {i j : Nat} {x y : Note} (hx : l[i]? = some x) (hy : l[j]? = some y) : ltA l i j = decide (cmpN x y < 0) := by
  rw [ltA, List.getD_eq_getElem?_getD, List.getD_eq_getElem?_getD, hx, hy]; rfl
/-- The outer loop: places i, i + 1 .. i + n - 1 one after the other. -/
def insO (l : List Note) (a i : Nat) : Nat → List Note
  | 0 => l
  | n + 1 => insO (insI l a i) a (i + 1) n
@[simp] theorem insO_len (a n : Nat) : ∀ (l : List Note) (i : Nat), (insO l a i n).length = l.length := by
  induction n with
  | zero => intro l i; rfl
  | succ n ih => intro l i; simp [insO, ih]
def insS (l : List Note) (a b : Nat) : List Note := insO l a (a + 1) (b - (a + 1))
@[simp] theorem insS_len (l : List Note) (a b : Nat) : (insS l a b).length = l.length := by simp [insS]

/-- Place a goes up to place a + n. -/
def upN (l : List Note) (a : Nat) : Nat → List Note
  | 0 => l
  | n + 1 => upN (swapA l a (a + 1)) (a + 1) n
@[simp] theorem upN_len (n : Nat) : ∀ (l : List Note) (a : Nat), (upN l a n).length = l.length := by
  induction n with
  | zero => intro l a; rfl
  | succ n ih => intro l a; simp [upN, ih]
/-- Place a + n goes down to place a. -/
def dnN (l : List Note) (a : Nat) : Nat → List Note
  | 0 => l
  | n + 1 => dnN (swapA l (a + n + 1) (a + n)) a n
@[simp] theorem dnN_len (n : Nat) : ∀ (l : List Note) (a : Nat), (dnN l a n).length = l.length := by
  induction n with
  | zero => intro l a; rfl
  | succ n ih => intro l a; simp [dnN, ih]

/-- symMerge's cut. -/
def symS (l : List Note) (a m b : Nat) : Nat :=
  bsF (fun c => !ltA l ((a + b) / 2 + m - 1 - c) c) (if (a + b) / 2 < m then (a + b) / 2 + m - b else a) (if (a + b) / 2 < m then (a + b) / 2 else m)
def symR (l : List Note) (a m b : Nat) : List Note :=
  if symS l a m b < m ∧ m < (a + b) / 2 + m - symS l a m b then rotG l m (m - symS l a m b) ((a + b) / 2 + m - symS l a m b - m) else l
/-- symMerge; the first number bounds the depth. -/
def symM : Nat → List Note → Nat → Nat → Nat → List Note
  | 0, l, _, _, _ => l
  | f + 1, l, a, m, b =>
    if m - a = 1 then upN l a (bsF (fun h => ltA l h a) m b - 1 - a)
    else if b - m = 1 then dnN l (bsF (fun h => !ltA l m h) a m) (m - bsF (fun h => !ltA l m h) a m)
    else
      let s := symS l a m b
      let l1 := symR l a m b
      let l2 := if a < s ∧ s < (a + b) / 2 then symM f l1 a s ((a + b) / 2) else l1
      if (a + b) / 2 < (a + b) / 2 + m - s ∧ (a + b) / 2 + m - s < b then symM f l2 ((a + b) / 2) ((a + b) / 2 + m - s) b else l2
/-- A half that is merged where there is something on both sides. -/
def symQ (f : Nat) (l : List Note) (x s y : Nat) : List Note := if x < s ∧ s < y then symM f l x s y else l
theorem symM_one (f : Nat) {l : List Note} {a m b : Nat} (h : m - a = 1) : symM (f + 1) l a m b = upN l a (bsF (fun h => ltA l h a) m b - 1 - a) := by
  simp only [symM]; rw [if_pos h]
theorem symM_two (f : Nat) {l : List Note} {a m b : Nat} (h : ¬ m - a = 1) (h2 : b - m = 1) : symM (f + 1) l a m b = dnN l (bsF (fun h => !ltA l m h) a m) (m - bsF (fun h => !ltA l m h) a m) := by
  simp only [symM]; rw [if_neg h, if_pos h2]
theorem symM_big (f : Nat) {l : List Note} {a m b d e s : Nat} (h : ¬ m - a = 1) (h2 : ¬ b - m = 1) (hd : d = (a + b) / 2) (hs : s = symS l a m b) (he : e = d + m - s) :
    symM (f + 1) l a m b = symQ f (symQ f (symR l a m b) a s d) d e b := by
  subst hd hs he
  simp only [symM]; rw [if_neg h, if_neg h2]; rfl
@[simp] theorem symR_len (l : List Note) (a m b : Nat) : (symR l a m b).length = l.length := by unfold symR; split <;> simp
@[simp] theorem symM_len (f : Nat) : ∀ (l : List Note) (a m b : Nat), (symM f l a m b).length = l.length := by
  induction f with
  | zero => intros; rfl
  | succ f ih =>
    intro l a m b
    simp only [symM]
    split
    · simp
    · split
      · simp
      · split <;> split <;> simp [ih]

/-- Blocks of 20, sorted one after the other, from a on, the next one ending at b. -/
def blkF (l : List Note) (a b n : Nat) : List Note :=
  if b ≤ n then blkF (insS l a b) b (b + 20) n else insS l a n
termination_by n + 20 - b
/-- Neighbouring blocks of s places, merged, from a on. -/
def mrgF (s : Nat) (l : List Note) (a b n : Nat) : List Note :=
  if b ≤ n ∧ 0 < s then mrgF s (symM n l a (a + s) b) b (b + 2 * s) n else if a + s < n then symM n l a (a + s) n else l
termination_by n + 2 * s - b
def dblF (l : List Note) (s n : Nat) : List Note :=
  if s < n ∧ 0 < s then dblF (mrgF s l 0 (2 * s) n) (s * 2) n else l
termination_by n - s
def stabM (l : List Note) : List Note := dblF (blkF l 0 20 l.length) 20 l.length
@[simp] theorem blkF_len (l : List Note) (a b n : Nat) : (blkF l a b n).length = l.length := by
  fun_induction blkF l a b n <;> simp_all
@[simp] theorem mrgF_len (s : Nat) (l : List Note) (a b n : Nat) : (mrgF s l a b n).length = l.length := by
  fun_induction mrgF s l a b n <;> simp_all
@[simp] theorem dblF_len (l : List Note) (s n : Nat) : (dblF l s n).length = l.length := by
  fun_induction dblF l s n <;> simp_all
@[simp] theorem stabM_len (l : List Note) : (stabM l).length = l.length := by simp [stabM]
end Pl

/- Notices: what the functions of the stable sort do: a sorted list with equal notices in their order. -/
namespace Pl

theorem ltN_iff (a b : Note) : ltN a b = true ↔ a.patron < b.patron ∨ a.patron = b.patron ∧ (a.kind < b.kind ∨ a.kind = b.kind ∧ a.item < b.item) := by
  simp only [ltN, cmpN, orF, cmpI]
  constructor
  · intro h
    by_cases h1 : a.patron < b.patron
    · exact .inl h1
    · by_cases h2 : b.patron < a.patron
      · simp [h1, h2] at h
      · by_cases h3 : a.kind < b.kind
        · exact .inr ⟨by omega, .inl h3⟩
        · by_cases h4 : b.kind < a.kind
          · simp [h1, h2, h3, h4] at h
          · by_cases h5 : a.item < b.item
            · exact .inr ⟨by omega, .inr ⟨by omega, h5⟩⟩
            · by_cases h6 : b.item < a.item
              · simp [h1, h2, h3, h4, h5, h6] at h
              · simp [h1, h2, h3, h4, h5, h6] at h
  · rintro (h | ⟨h, h' | ⟨h', h''⟩⟩)
    · simp [h]
    · simp [h, h']
    · simp [h, h', h'']
theorem ltN_irr (a : Note) : ltN a a = false := by
  rw [← Bool.not_eq_true, ltN_iff]; omega
theorem ltN_asy {a b : Note} (h : ltN a b = true) : ltN b a = false := by
  rw [← Bool.not_eq_true, ltN_iff]; rw [ltN_iff] at h; omega
/-- not greater, in two steps -/
theorem leN_tr {a b c : Note} (h : ltN b a = false) (h2 : ltN c b = false) : ltN c a = false := by
  rw [← Bool.not_eq_true, ltN_iff] at *; omega
theorem leN_lt {a b c : Note} (h : ltN b a = false) (h2 : ltN b c = true) : ltN a c = true := by
  rw [← Bool.not_eq_true, ltN_iff] at h; rw [ltN_iff] at *; omega
theorem lt_leN {a b c : Note} (h : ltN a b = true) (h2 : ltN c b = false) : ltN a c = true := by
  rw [← Bool.not_eq_true, ltN_iff] at h2; rw [ltN_iff] at *; omega

def eqv (k x : Note) : Bool := !ltN k x && !ltN x k
theorem eqv_rfl (x : Note) : eqv x x = true := by simp [eqv, ltN_irr]
theorem eqv_lt {k x y : Note} (h : ltN x y = true) (hx : eqv k x = true) : eqv k y = false := by
  rw [← Bool.not_eq_true]
  intro hy
  simp only [eqv, Bool.and_eq_true, Bool.not_eq_true'] at hx hy
  have h1 := hx.1
  have h2 := hx.2
  have h3 := hy.1
  have h4 := hy.2
  rw [← Bool.not_eq_true, ltN_iff] at h1 h2 h3 h4
  rw [ltN_iff] at h
  omega

def Srt (l : List Note) : Prop := l.Pairwise (fun x y => ltN y x = false)
/-- The same notices, equal ones in the same order. -/
def SP (l l' : List Note) : Prop := ∀ k, l'.filter (eqv k) = l.filter (eqv k)
theorem SP.rfl {l : List Note} : SP l l := fun _ => .refl _
theorem SP.tr {a b c : List Note} (h : SP a b) (h2 : SP b c) : SP a c := fun k => (h2 k).trans (h k)
theorem SP.sym {a b : List Note} (h : SP a b) : SP b a := fun k => (h k).symm
theorem SP.app {a b c d : List Note} (h : SP a b) (h2 : SP c d) : SP (a ++ c) (b ++ d) := fun k => by
  rw [List.filter_append, List.filter_append, h k, h2 k]
theorem SP.perm {a b : List Note} (h : SP a b) : b.Perm a := by
  rw [List.perm_iff_count]
  intro x
  rw [← List.count_filter (p := eqv x) (eqv_rfl x), h x, List.count_filter (eqv_rfl x)]
theorem SP.mem {a b : List Note} (h : SP a b) {x : Note} : x ∈ b ↔ x ∈ a := h.perm.mem_iff
theorem SP.len {a b : List Note} (h : SP a b) : b.length = a.length := h.perm.length_eq
/-- Two blocks, all of the second less than all of the first, may be exchanged. -/
theorem SP.swap {u v : List Note} (h : ∀ x ∈ v, ∀ y ∈ u, ltN x y = true) : SP (u ++ v) (v ++ u) := fun k => by
  rw [List.filter_append, List.filter_append]
  by_cases hv : v.filter (eqv k) = []
  · rw [hv]; simp
  · have hu : u.filter (eqv k) = [] := by
      obtain ⟨x, hx⟩ := List.exists_mem_of_ne_nil _ hv
      rw [List.mem_filter] at hx
      rw [List.filter_eq_nil_iff]
      intro y hy
      rw [eqv_lt (h x hx.1 y hy) hx.2]; simp
    rw [hu]; simp

theorem Srt_uniq : ∀ {a b : List Note}, Srt a → Srt b → SP a b → a = b := by
  intro a
  induction a with
  | nil => intro b _ _ h; have := h.len; simp at this; exact this.symm
  | cons x t ih =>
    intro b ha hb h
    cases b with
    | nil => have := h.len; simp at this
    | cons y t2 =>
      have ha1 := List.pairwise_cons.1 ha
      have hb1 := List.pairwise_cons.1 hb
      have hyx : ltN y x = false := by
        rcases List.mem_cons.1 (h.mem.1 (List.mem_cons_self (a := y) (l := t2))) with e | e
        · rw [e]; exact ltN_irr _
        · exact ha1.1 _ e
      have hxy : ltN x y = false := by
        rcases List.mem_cons.1 (h.mem.2 (List.mem_cons_self (a := x) (l := t))) with e | e
        · rw [e]; exact ltN_irr _
        · exact hb1.1 _ e
      have hxe : eqv x y = true := by simp [eqv, hxy, hyx]
      have hk := h x
      rw [List.filter_cons_of_pos hxe, List.filter_cons_of_pos (eqv_rfl x)] at hk
      have e := (List.cons.inj hk).1
      subst e
      have := ih ha1.2 hb1.2 (fun k => by
        have := h k
        simp only [List.filter_cons] at this
        split at this
        · exact (List.cons.inj this).2
        · exact this)
      rw [this]

theorem Srt_app {a b : List Note} : Srt (a ++ b) ↔ Srt a ∧ Srt b ∧ ∀ x ∈ a, ∀ y ∈ b, ltN y x = false := List.pairwise_append
theorem Srt_one (x : Note) : Srt [x] := List.pairwise_singleton _ _
theorem Srt_nil : Srt [] := List.Pairwise.nil

theorem getD_app (p : List Note) (x : Note) (q : List Note) : (p ++ x :: q).getD p.length zn = x := by simp [List.getD_eq_getElem?_getD]
theorem get_at {l : List Note} (p : List Note) (x : Note) (q : List Note) {i : Nat} (hi : i = p.length) (hl : l = p ++ x :: q) : l.getD i zn = x := by
  subst hi hl; exact getD_app p x q

theorem swapA_at (p : List Note) (x : Note) (w : List Note) (y : Note) (q : List Note) {i j : Nat} (hi : i = p.length) (hj : j = p.length + 1 + w.length) :
    swapA (p ++ x :: (w ++ y :: q)) i j = p ++ y :: (w ++ x :: q) := by
  have ey : (p ++ x :: (w ++ y :: q)).getD j zn = y := get_at (p ++ x :: w) y q (by simp [hj]; omega) (by simp)
  have ex : (p ++ x :: (w ++ y :: q)).getD i zn = x := get_at p x _ hi _root_.rfl
  rw [swapA, ey, ex, hi, List.set_append_right _ _ (Nat.le_refl _), Nat.sub_self, List.set_cons_zero, hj, List.set_append_right _ _ (by omega),
    show p.length + 1 + w.length - p.length = w.length + 1 by omega, List.set_cons_succ, List.set_append_right _ _ (Nat.le_refl _), Nat.sub_self, List.set_cons_zero]
theorem swapA_up (p : List Note) (x y : Note) (q : List Note) {i j : Nat} (hi : i = p.length) (hj : j = p.length + 1) :
    swapA (p ++ x :: y :: q) i j = p ++ y :: x :: q := swapA_at p x [] y q hi (by simpa using hj)
theorem swapA_dn (p : List Note) (x y : Note) (q : List Note) {i j : Nat} (hi : i = p.length) (hj : j = p.length + 1) :
    swapA (p ++ x :: y :: q) j i = p ++ y :: x :: q := by
  rw [← swapA_up p x y q hi hj]
  have ey : (p ++ x :: y :: q).getD j zn = y := get_at (p ++ [x]) y q (by simp [hj]) (by simp)
  have ex : (p ++ x :: y :: q).getD i zn = x := get_at p x _ hi _root_.rfl
  rw [swapA, swapA, ex, ey, List.set_comm _ _ (by omega)]

theorem swapN_at : ∀ (n : Nat) (p u w v q : List Note), u.length = n → v.length = n → ∀ {a b : Nat}, a = p.length → b = p.length + n + w.length →
    swapN (p ++ u ++ w ++ v ++ q) a b n = p ++ v ++ w ++ u ++ q := by
  intro n
  induction n with
  | zero =>
    intro p u w v q hu hv a b _ _
    rw [List.length_eq_zero_iff] at hu hv
    subst hu hv; rfl
  | succ n ih =>
    intro p u w v q hu hv a b ha hb
    obtain ⟨u', x, rfl⟩ : ∃ u' x, u = u' ++ [x] := ⟨u.dropLast, u.getLast (by intro e; simp [e] at hu), (List.dropLast_concat_getLast _).symm⟩
    obtain ⟨v', y, rfl⟩ : ∃ v' y, v = v' ++ [y] := ⟨v.dropLast, v.getLast (by intro e; simp [e] at hv), (List.dropLast_concat_getLast _).symm⟩
    simp at hu hv
    have h := ih p u' ([x] ++ w) v' ([y] ++ q) hu hv (a := a) (b := b) ha (by simp [hb]; omega)
    rw [swapN, show p ++ (u' ++ [x]) ++ w ++ (v' ++ [y]) ++ q = p ++ u' ++ ([x] ++ w) ++ v' ++ ([y] ++ q) by simp, h,
      show p ++ v' ++ ([x] ++ w) ++ u' ++ ([y] ++ q) = (p ++ v') ++ x :: ((w ++ u') ++ y :: q) by simp,
      swapA_at (p ++ v') x (w ++ u') y q (by simp [ha, hv]) (by simp [hb, hv, hu]; omega)]
    simp

theorem rotG_at : ∀ (n : Nat) (p u v q : List Note), u.length + v.length ≤ n → 0 < u.length → 0 < v.length → ∀ {m i j : Nat}, m = p.length + u.length → i = u.length → j = v.length →
    rotG (p ++ u ++ v ++ q) m i j = p ++ v ++ u ++ q := by
  intro n
  induction n with
  | zero => intro p u v q h h1 h2; omega
  | succ n ih =>
    intro p u v q h h1 h2 m i j hm hi hj
    rcases Nat.lt_trichotomy i j with hij | hij | hij
    · rw [rotG_lt hij (by omega)]
      obtain ⟨v1, v2, rfl, hv2⟩ : ∃ v1 v2, v = v1 ++ v2 ∧ v2.length = i := ⟨v.take (v.length - i), v.drop (v.length - i), (List.take_append_drop _ _).symm, by simp; omega⟩
      simp at hj h h2
      have e := swapN_at i p u v1 v2 q hi.symm hv2 (a := m - i) (b := m + j - i) (by omega) (by omega)
      rw [show p ++ u ++ (v1 ++ v2) ++ q = p ++ u ++ v1 ++ v2 ++ q by simp, e,
        show p ++ v2 ++ v1 ++ u ++ q = p ++ v2 ++ v1 ++ (u ++ q) by simp,
        ih p v2 v1 (u ++ q) (by omega) (by omega) (by omega) (by omega) hv2.symm (by omega)]
      simp
    · subst hij
      rw [rotG_eq]
      have e := swapN_at i p u [] v q hi.symm hj.symm (a := m - i) (b := m) (by omega) (by simp; omega)
      simpa using e
    · rw [rotG_gt hij (by omega)]
      obtain ⟨u1, u2, rfl, hu1⟩ : ∃ u1 u2, u = u1 ++ u2 ∧ u1.length = j := ⟨u.take j, u.drop j, (List.take_append_drop _ _).symm, by simp; omega⟩
      simp at hi h h1 hm
      have e := swapN_at j p u1 u2 v q hu1 hj.symm (a := m - i) (b := m) (by omega) (by omega)
      rw [show p ++ (u1 ++ u2) ++ v ++ q = p ++ u1 ++ u2 ++ v ++ q by simp, e,
        show p ++ v ++ u2 ++ u1 ++ q = (p ++ v) ++ u2 ++ u1 ++ q by simp,
        ih (p ++ v) u2 u1 q (by omega) (by omega) (by omega) (by simp; omega) (by omega) hu1.symm]
      simp

theorem ltA_at {l : List Note} {i j : Nat} {x y : Note} (p : List Note) (q : List Note) (r s : List Note) (hi : i = p.length) (hl : l = p ++ x :: q) (hj : j = r.length) (hl2 : l = r ++ y :: s) :
    ltA l i j = ltN x y := by rw [ltA, get_at p x q hi hl, get_at r y s hj hl2]

theorem insI_at : ∀ (n : Nat) (p s : List Note) (x : Note) (q : List Note), s.length = n → Srt s → ∀ {a j : Nat}, a = p.length → j = p.length + n →
    ∃ m, insI (p ++ s ++ x :: q) a j = p ++ m ++ q ∧ Srt m ∧ SP (s ++ [x]) m := by
  intro n
  induction n with
  | zero =>
    intro p s x q hs _ a j ha hj
    rw [List.length_eq_zero_iff] at hs
    subst hs
    exact ⟨[x], by rw [insI_ge (by omega)]; simp, Srt_one x, .rfl⟩
  | succ n ih =>
    intro p s x q hs hss a j ha hj
    obtain ⟨s', y, rfl⟩ : ∃ s' y, s = s' ++ [y] := ⟨s.dropLast, s.getLast (by intro e; simp [e] at hs), (List.dropLast_concat_getLast _).symm⟩
    simp at hs
    have hlt : ltA (p ++ (s' ++ [y]) ++ x :: q) j (p.length + n) = ltN x y :=
      ltA_at (p ++ s' ++ [y]) q (p ++ s') (x :: q) (by simp; omega) (by simp) (by simp; omega) (by simp)
    have hsr := Srt_app.1 hss
    cases hc : ltN x y with
    | true =>
      rw [insI_go (p := p.length + n) (by omega) (by omega) (hlt.trans hc)]
      rw [show p ++ (s' ++ [y]) ++ x :: q = (p ++ s') ++ y :: x :: q by simp, swapA_dn (p ++ s') y x q (by simp; omega) (by simp; omega)]
      obtain ⟨m, e, hm, hp⟩ := ih p s' x (y :: q) hs hsr.1 (a := a) (j := p.length + n) ha (by omega)
      refine ⟨m ++ [y], by rw [e]; simp, Srt_app.2 ⟨hm, Srt_one y, ?_⟩, ?_⟩
      · intro z hz w hw
        rw [List.mem_singleton] at hw
        subst hw
        rcases List.mem_append.1 (hp.mem.1 hz) with h | h
        · exact hsr.2.2 z h _ (List.mem_singleton_self _)
        · rw [List.mem_singleton] at h; subst h; exact ltN_asy hc
      · refine SP.tr ?_ (hp.app (.rfl (l := [y])))
        rw [List.append_assoc, List.append_assoc]
        refine SP.app .rfl (SP.swap (u := [y]) (v := [x]) ?_)
        intro a ha b hb
        rw [List.mem_singleton] at ha hb
        subst ha hb; exact hc
    | false =>
      rw [insI_no (p := p.length + n) (by omega) (hlt.trans hc)]
      refine ⟨s' ++ [y] ++ [x], by simp, Srt_app.2 ⟨hss, Srt_one x, ?_⟩, .rfl⟩
      intro z hz w hw
      rw [List.mem_singleton] at hw
      subst hw
      rcases List.mem_append.1 hz with h | h
      · exact leN_tr (hsr.2.2 z h _ (List.mem_singleton_self _)) hc
      · rw [List.mem_singleton] at h; subst h; exact hc

theorem insO_at : ∀ (n : Nat) (p s t q : List Note), t.length = n → Srt s → ∀ {a i : Nat}, a = p.length → i = p.length + s.length →
    ∃ m, insO (p ++ s ++ t ++ q) a i n = p ++ m ++ q ∧ Srt m ∧ SP (s ++ t) m := by
  intro n
  induction n with
  | zero =>
    intro p s t q ht hs a i _ _
    rw [List.length_eq_zero_iff] at ht
    subst ht
    exact ⟨s, by simp [insO], hs, by simpa using SP.rfl⟩
  | succ n ih =>
    intro p s t q ht hs a i ha hi
    cases t with
    | nil => simp at ht
    | cons x t =>
      simp at ht
      obtain ⟨m, e, hm, hp⟩ := insI_at _ p s x (t ++ q) rfl hs ha hi
      obtain ⟨m', e', hm', hp'⟩ := ih p m t q ht hm (a := a) (i := i + 1) ha (by have := hp.len; simp at this; omega)
      refine ⟨m', ?_, hm', ?_⟩
      · rw [insO, show p ++ s ++ x :: t ++ q = p ++ s ++ x :: (t ++ q) by simp, e, ← List.append_assoc, e']
      · refine SP.tr ?_ hp'
        rw [show s ++ x :: t = (s ++ [x]) ++ t by simp]
        exact hp.app .rfl
theorem insS_at (p t q : List Note) {a b : Nat} (ha : a = p.length) (hb : b = p.length + t.length) :
    ∃ m, insS (p ++ t ++ q) a b = p ++ m ++ q ∧ Srt m ∧ SP t m := by
  cases t with
  | nil => exact ⟨[], by simp [insS, show b - (a + 1) = 0 by simp at hb; omega, insO], Srt_nil, .rfl⟩
  | cons x t =>
    obtain ⟨m, e, h⟩ := insO_at (b - (a + 1)) p [x] t q (by simp at hb; omega) (Srt_one x) (a := a) (i := a + 1) ha (by simp [ha])
    exact ⟨m, by rw [insS, ← e]; simp, h⟩
end Pl

/- Notices: the merge and the stable sort. -/
namespace Pl

theorem bsF_spec (p : Nat → Bool) : ∀ (n i j : Nat), j - i ≤ n → i ≤ j →
    i ≤ bsF p i j ∧ bsF p i j ≤ j ∧ (bsF p i j = i ∨ p (bsF p i j - 1) = true) ∧ (bsF p i j = j ∨ p (bsF p i j) = false) := by
  intro n
  induction n with
  | zero => intro i j h hij; rw [bsF_done (by omega)]; exact ⟨by omega, by omega, .inl rfl, .inl (by omega)⟩
  | succ n ih =>
    intro i j h hij
    by_cases hlt : i < j
    · cases hc : p ((i + j) / 2) with
      | true =>
        have e := bsF_t hlt rfl hc
        have := ih ((i + j) / 2 + 1) j (by omega) (by omega)
        rw [e] at this
        obtain ⟨a, b, c, d⟩ := this
        refine ⟨by omega, b, ?_, d⟩
        rcases c with c | c
        · right; rw [c]; exact hc
        · exact .inr c
      | false =>
        have e := bsF_f hlt rfl hc
        have := ih i ((i + j) / 2) (by omega) (by omega)
        rw [e] at this
        obtain ⟨a, b, c, d⟩ := this
        refine ⟨a, by omega, c, ?_⟩
        rcases d with d | d
        · right; rw [d]; exact hc
        · exact .inr d
    · rw [bsF_done hlt]; exact ⟨by omega, by omega, .inl rfl, .inl (by omega)⟩

theorem upN_at : ∀ (n : Nat) (p : List Note) (x : Note) (t q : List Note), t.length = n → ∀ {a : Nat}, a = p.length →
    upN (p ++ x :: (t ++ q)) a n = p ++ t ++ x :: q := by
  intro n
  induction n with
  | zero => intro p x t q ht a _; rw [List.length_eq_zero_iff] at ht; subst ht; simp [upN]
  | succ n ih =>
    intro p x t q ht a ha
    cases t with
    | nil => simp at ht
    | cons y t =>
      simp at ht
      rw [upN, List.cons_append, swapA_up p x y (t ++ q) ha (by omega), show p ++ y :: x :: (t ++ q) = (p ++ [y]) ++ x :: (t ++ q) by simp, ih (p ++ [y]) x t q ht (by simp [ha])]
      simp
theorem dnN_at : ∀ (n : Nat) (p s : List Note) (x : Note) (q : List Note), s.length = n → ∀ {a : Nat}, a = p.length →
    dnN (p ++ s ++ x :: q) a n = p ++ x :: (s ++ q) := by
  intro n
  induction n with
  | zero => intro p s x q hs a _; rw [List.length_eq_zero_iff] at hs; subst hs; simp [dnN]
  | succ n ih =>
    intro p s x q hs a ha
    obtain ⟨s', y, rfl⟩ : ∃ s' y, s = s' ++ [y] := ⟨s.dropLast, s.getLast (by intro e; simp [e] at hs), (List.dropLast_concat_getLast _).symm⟩
    simp at hs
    rw [dnN, show p ++ (s' ++ [y]) ++ x :: q = (p ++ s') ++ y :: x :: q by simp, swapA_dn (p ++ s') y x q (by simp; omega) (by simp; omega),
      show (p ++ s') ++ x :: y :: q = p ++ s' ++ x :: (y :: q) by simp, ih p s' x (y :: q) hs ha]
    simp

/-- A cut of a sorted list: what is ahead is not greater than what is behind. -/
theorem Srt_cut {a b : List Note} (h : Srt (a ++ b)) : (∀ x ∈ a, ∀ y ∈ b, ltN y x = false) := (Srt_app.1 h).2.2
theorem Srt_last {a : List Note} {x : Note} (h : Srt (a ++ [x])) : ∀ y ∈ a ++ [x], ltN x y = false := by
  intro y hy
  rcases List.mem_append.1 hy with h' | h'
  · exact (Srt_app.1 h).2.2 y h' x (List.mem_singleton_self _)
  · rw [List.mem_singleton] at h'; rw [h']; exact ltN_irr _
theorem Srt_head {a : List Note} {x : Note} (h : Srt (x :: a)) : ∀ y ∈ x :: a, ltN y x = false := by
  intro y hy
  rcases List.mem_cons.1 hy with h' | h'
  · rw [h']; exact ltN_irr _
  · exact (List.pairwise_cons.1 h).1 y h'
theorem cut_at (l : List Note) {n : Nat} (h : n ≤ l.length) : ∃ u v, l = u ++ v ∧ u.length = n := ⟨l.take n, l.drop n, (List.take_append_drop _ _).symm, by simp; omega⟩
theorem last_of {u : List Note} (h : 0 < u.length) : ∃ u' x, u = u' ++ [x] := ⟨u.dropLast, u.getLast (by intro e; simp [e] at h), (List.dropLast_concat_getLast _).symm⟩
theorem head_of {u : List Note} (h : 0 < u.length) : ∃ x u', u = x :: u' := by
  cases u with
  | nil => simp at h
  | cons x u => exact ⟨x, u, rfl⟩

set_option maxHeartbeats 4000000 in
theorem symM_at : ∀ (f : Nat) (p s t q : List Note), Srt s → Srt t → 0 < s.length → 0 < t.length → s.length + t.length ≤ f →
    ∀ {a m b : Nat}, a = p.length → m = a + s.length → b = m + t.length →
    ∃ r, symM f (p ++ s ++ t ++ q) a m b = p ++ r ++ q ∧ Srt r ∧ SP (s ++ t) r := by
  intro f
  induction f with
  | zero => intros; omega
  | succ f ih =>
    intro p s t q hs ht hs0 ht0 hf a m b ha hm hb
    by_cases h1 : m - a = 1
    · -- one on the left
      obtain ⟨x, rfl⟩ : ∃ x, s = [x] := List.length_eq_one_iff.1 (by omega)
      simp at hm
      rw [symM_one f h1]
      obtain ⟨r, hr⟩ : ∃ z, z = bsF (fun h => ltA (p ++ [x] ++ t ++ q) h a) m b := ⟨_, rfl⟩
      have hsp := bsF_spec (fun h => ltA (p ++ [x] ++ t ++ q) h a) (b - m) m b (Nat.le_refl _) (by omega)
      rw [← hr] at hsp ⊢
      obtain ⟨g1, g2, g3, g4⟩ := hsp
      obtain ⟨t1, t2, rfl, ht1⟩ := cut_at t (n := r - m) (by omega)
      simp only [List.length_append] at hb ht0 hf
      have c1 : ∀ y ∈ t1, ltN y x = true := by
        by_cases e : t1.length = 0
        · rw [List.length_eq_zero_iff] at e; subst e; intro y hy; simp at hy
        · obtain ⟨t1', z, rfl⟩ := last_of (u := t1) (by omega)
          simp at ht1
          have h3 : ltN z x = true := by
            rcases g3 with g3 | g3
            · omega
            · have e2 := ltA_at (l := p ++ [x] ++ (t1' ++ [z] ++ t2) ++ q) (i := r - 1) (j := a) (x := z) (y := x) (p ++ [x] ++ t1') (t2 ++ q) p (t1' ++ [z] ++ t2 ++ q) (by simp; omega) (by simp) ha (by simp)
              rw [e2] at g3; exact g3
          intro y hy
          exact leN_lt (Srt_last (Srt_app.1 ht).1 y hy) h3
      have c2 : ∀ y ∈ t2, ltN y x = false := by
        by_cases e : t2.length = 0
        · rw [List.length_eq_zero_iff] at e; subst e; intro y hy; simp at hy
        · obtain ⟨z, t2', rfl⟩ := head_of (u := t2) (by omega)
          have h3 : ltN z x = false := by
            rcases g4 with g4 | g4
            · omega
            · have e2 := ltA_at (l := p ++ [x] ++ (t1 ++ z :: t2') ++ q) (i := r) (j := a) (x := z) (y := x) (p ++ [x] ++ t1) (t2' ++ q) p (t1 ++ z :: t2' ++ q) (by simp; omega) (by simp) ha (by simp)
              rw [e2] at g4; exact g4
          intro y hy
          exact leN_tr h3 (Srt_head (Srt_app.1 ht).2.1 y hy)
      refine ⟨t1 ++ x :: t2, ?_, ?_, ?_⟩
      · have := upN_at t1.length p x t1 (t2 ++ q) rfl ha
        rw [show r - 1 - a = t1.length by omega, show p ++ [x] ++ (t1 ++ t2) ++ q = p ++ x :: (t1 ++ (t2 ++ q)) by simp, this]; simp
      · refine Srt_app.2 ⟨(Srt_app.1 ht).1, List.pairwise_cons.2 ⟨c2, (Srt_app.1 ht).2.1⟩, ?_⟩
        intro y hy z hz
        rcases List.mem_cons.1 hz with e | e
        · rw [e]; exact ltN_asy (c1 y hy)
        · exact Srt_cut ht y hy z e
      · rw [show [x] ++ (t1 ++ t2) = ([x] ++ t1) ++ t2 by simp, show t1 ++ x :: t2 = (t1 ++ [x]) ++ t2 by simp]
        refine SP.app (SP.swap ?_) .rfl
        intro y hy z hz
        rw [List.mem_singleton] at hz
        rw [hz]; exact c1 y hy
    · by_cases h2 : b - m = 1
      · -- one on the right
        obtain ⟨x, rfl⟩ : ∃ x, t = [x] := List.length_eq_one_iff.1 (by omega)
        rw [symM_two f h1 h2]
        obtain ⟨r, hr⟩ : ∃ z, z = bsF (fun h => !ltA (p ++ s ++ [x] ++ q) m h) a m := ⟨_, rfl⟩
        have hsp := bsF_spec (fun h => !ltA (p ++ s ++ [x] ++ q) m h) (m - a) a m (Nat.le_refl _) (by omega)
        rw [← hr] at hsp ⊢
        obtain ⟨g1, g2, g3, g4⟩ := hsp
        obtain ⟨s1, s2, rfl, hs1⟩ := cut_at s (n := r - a) (by omega)
        simp only [List.length_append] at hm hs0 hf
        have c1 : ∀ y ∈ s1, ltN x y = false := by
          by_cases e : s1.length = 0
          · rw [List.length_eq_zero_iff] at e; subst e; intro y hy; simp at hy
          · obtain ⟨s1', z, rfl⟩ := last_of (u := s1) (by omega)
            simp at hs1 hm
            have h3 : ltN x z = false := by
              rcases g3 with g3 | g3
              · omega
              · have e2 := ltA_at (l := p ++ (s1' ++ [z] ++ s2) ++ [x] ++ q) (i := m) (j := r - 1) (x := x) (y := z) (p ++ (s1' ++ [z] ++ s2)) q (p ++ s1') (s2 ++ [x] ++ q) (by simp; omega) (by simp) (by simp; omega) (by simp)
                rw [e2] at g3; simpa using g3
            intro y hy
            exact leN_tr (Srt_last (Srt_app.1 hs).1 y hy) h3
        have c2 : ∀ y ∈ s2, ltN x y = true := by
          by_cases e : s2.length = 0
          · rw [List.length_eq_zero_iff] at e; subst e; intro y hy; simp at hy
          · obtain ⟨z, s2', rfl⟩ := head_of (u := s2) (by omega)
            simp at hm
            have h3 : ltN x z = true := by
              rcases g4 with g4 | g4
              · omega
              · have e2 := ltA_at (l := p ++ (s1 ++ z :: s2') ++ [x] ++ q) (i := m) (j := r) (x := x) (y := z) (p ++ (s1 ++ z :: s2')) q (p ++ s1) (s2' ++ [x] ++ q) (by simp; omega) (by simp) (by simp; omega) (by simp)
                rw [e2] at g4; simpa using g4
            intro y hy
            exact lt_leN h3 (Srt_head (Srt_app.1 hs).2.1 y hy)
        refine ⟨s1 ++ x :: s2, ?_, ?_, ?_⟩
        · have := dnN_at s2.length (p ++ s1) s2 x q rfl (a := r) (by simp; omega)
          rw [show m - r = s2.length by omega, show p ++ (s1 ++ s2) ++ [x] ++ q = (p ++ s1) ++ s2 ++ x :: q by simp, this]; simp
        · refine Srt_app.2 ⟨(Srt_app.1 hs).1, List.pairwise_cons.2 ⟨fun y hy => ltN_asy (c2 y hy), (Srt_app.1 hs).2.1⟩, ?_⟩
          intro y hy z hz
          rcases List.mem_cons.1 hz with e | e
          · rw [e]; exact c1 y hy
          · exact Srt_cut hs y hy z e
        · rw [List.append_assoc, show s1 ++ x :: s2 = s1 ++ ([x] ++ s2) by simp]
          refine SP.app .rfl (SP.swap ?_)
          intro y hy z hz
          rw [List.mem_singleton] at hy
          rw [hy]; exact c2 z hz
      · -- the cut
        obtain ⟨d, hd⟩ : ∃ z, z = (a + b) / 2 := ⟨_, rfl⟩
        obtain ⟨l, hl⟩ : ∃ z, z = p ++ s ++ t ++ q := ⟨_, rfl⟩
        obtain ⟨c, hc⟩ : ∃ z, z = symS l a m b := ⟨_, rfl⟩
        obtain ⟨e, he⟩ : ∃ z, z = d + m - c := ⟨_, rfl⟩
        rw [← hl, symM_big f h1 h2 hd hc he]
        obtain ⟨s0, hs0'⟩ : ∃ z, z = if d < m then d + m - b else a := ⟨_, rfl⟩
        obtain ⟨r0, hr0⟩ : ∃ z, z = if d < m then d else m := ⟨_, rfl⟩
        have hc' : c = bsF (fun c => !ltA l (d + m - 1 - c) c) s0 r0 := by rw [hc, symS, hs0', hr0, hd]
        have hb0 : a ≤ s0 ∧ s0 ≤ r0 ∧ r0 ≤ m ∧ d + m ≤ s0 + b ∧ r0 ≤ d := by
          rw [hs0', hr0]; split <;> omega
        have hb1 : (s0 = a ∨ s0 + b = d + m) ∧ (r0 = m ∨ r0 = d) := by
          rw [hs0', hr0]; split <;> omega
        have hsp := bsF_spec (fun c => !ltA l (d + m - 1 - c) c) (r0 - s0) s0 r0 (Nat.le_refl _) (by omega)
        rw [← hc'] at hsp
        obtain ⟨g1, g2, g3, g4⟩ := hsp
        obtain ⟨x1, x2, rfl, hx1⟩ := cut_at s (n := c - a) (by omega)
        obtain ⟨y1, y2, rfl, hy1⟩ := cut_at t (n := e - m) (by omega)
        simp only [List.length_append] at hm hb hs0 ht0 hf
        have hx := Srt_app.1 hs
        have hy := Srt_app.1 ht
        have k1 : ∀ u ∈ x1, ∀ v ∈ y2, ltN v u = false := by
          by_cases ex : x1.length = 0
          · rw [List.length_eq_zero_iff] at ex; subst ex; intro u hu; simp at hu
          by_cases ey : y2.length = 0
          · rw [List.length_eq_zero_iff] at ey; subst ey; intro u _ v hv; simp at hv
          obtain ⟨x1', z, rfl⟩ := last_of (u := x1) (by omega)
          obtain ⟨w, y2', rfl⟩ := head_of (u := y2) (by omega)
          simp at hx1 hm hb
          have h3 : ltN w z = false := by
            rcases g3 with g3 | g3
            · omega
            · have e2 := ltA_at (l := l) (i := d + m - 1 - (c - 1)) (j := c - 1) (x := w) (y := z) (p ++ (x1' ++ [z] ++ x2) ++ y1) (y2' ++ q) (p ++ x1') (x2 ++ y1 ++ w :: y2' ++ q) (by simp; omega) (by rw [hl]; simp) (by simp; omega) (by rw [hl]; simp)
              rw [e2] at g3; simpa using g3
          intro u hu v hv
          exact leN_tr (leN_tr (Srt_last hx.1 u hu) h3) (Srt_head hy.2.1 v hv)
        have k2 : ∀ v ∈ y1, ∀ u ∈ x2, ltN v u = true := by
          by_cases ex : x2.length = 0
          · rw [List.length_eq_zero_iff] at ex; subst ex; intro u _ v hv; simp at hv
          by_cases ey : y1.length = 0
          · rw [List.length_eq_zero_iff] at ey; subst ey; intro u hu; simp at hu
          obtain ⟨z, x2', rfl⟩ := head_of (u := x2) (by omega)
          obtain ⟨y1', w, rfl⟩ := last_of (u := y1) (by omega)
          simp at hy1 hm hb
          have h3 : ltN w z = true := by
            rcases g4 with g4 | g4
            · omega
            · have e2 := ltA_at (l := l) (i := d + m - 1 - c) (j := c) (x := w) (y := z) (p ++ (x1 ++ z :: x2') ++ y1') (y2 ++ q) (p ++ x1) (x2' ++ (y1' ++ [w]) ++ y2 ++ q) (by simp; omega) (by rw [hl]; simp) (by simp; omega) (by rw [hl]; simp)
              rw [e2] at g4; simpa using g4
          intro v hv u hu
          exact leN_lt (Srt_last hy.1 v hv) (lt_leN h3 (Srt_head hx.2.1 u hu))
        -- behind the rotation
        have hR : symR l a m b = p ++ x1 ++ y1 ++ x2 ++ y2 ++ q := by
          rw [symR, ← hc, ← hd, ← he]
          by_cases hcc : c < m ∧ m < e
          · rw [if_pos hcc, hl]
            have := rotG_at (x2.length + y1.length) (p ++ x1) x2 y1 (y2 ++ q) (Nat.le_refl _) (by omega) (by omega) (m := m) (i := m - c) (j := e - m) (by simp; omega) (by omega) (by omega)
            rw [show p ++ (x1 ++ x2) ++ (y1 ++ y2) ++ q = (p ++ x1) ++ x2 ++ y1 ++ (y2 ++ q) by simp, this]; simp
          · rw [if_neg hcc, hl]
            by_cases ex : x2.length = 0
            · rw [List.length_eq_zero_iff] at ex; subst ex; simp
            · have ey : y1.length = 0 := by omega
              rw [List.length_eq_zero_iff] at ey; subst ey; simp
        have hQ1 : ∃ r1, symQ f (p ++ x1 ++ y1 ++ x2 ++ y2 ++ q) a c d = p ++ r1 ++ x2 ++ y2 ++ q ∧ Srt r1 ∧ SP (x1 ++ y1) r1 := by
          rw [symQ]
          by_cases hcc : a < c ∧ c < d
          · rw [if_pos hcc]
            obtain ⟨r, e1, e2, e3⟩ := ih p x1 y1 (x2 ++ y2 ++ q) hx.1 hy.1 (by omega) (by omega) (by omega) (a := a) (m := c) (b := d) ha (by omega) (by omega)
            exact ⟨r, by rw [show p ++ x1 ++ y1 ++ x2 ++ y2 ++ q = p ++ x1 ++ y1 ++ (x2 ++ y2 ++ q) by simp, e1]; simp, e2, e3⟩
          · rw [if_neg hcc]
            by_cases ex : x1.length = 0
            · rw [List.length_eq_zero_iff] at ex; subst ex; exact ⟨y1, by simp, hy.1, .rfl⟩
            · have ey : y1.length = 0 := by omega
              rw [List.length_eq_zero_iff] at ey; subst ey; exact ⟨x1, by simp, hx.1, by simpa using SP.rfl⟩
        obtain ⟨r1, q1, q2, q3⟩ := hQ1
        have hl1 := q3.len
        simp only [List.length_append] at hl1
        have hQ2 : ∃ r2, symQ f (p ++ r1 ++ x2 ++ y2 ++ q) d e b = p ++ r1 ++ r2 ++ q ∧ Srt r2 ∧ SP (x2 ++ y2) r2 := by
          rw [symQ]
          by_cases hcc : d < e ∧ e < b
          · rw [if_pos hcc]
            obtain ⟨r, e1, e2, e3⟩ := ih (p ++ r1) x2 y2 q hx.2.1 hy.2.1 (by omega) (by omega) (by omega) (a := d) (m := e) (b := b) (by simp; omega) (by omega) (by omega)
            exact ⟨r, e1, e2, e3⟩
          · rw [if_neg hcc]
            by_cases ex : x2.length = 0
            · rw [List.length_eq_zero_iff] at ex; subst ex; exact ⟨y2, by simp, hy.2.1, .rfl⟩
            · have ey : y2.length = 0 := by omega
              rw [List.length_eq_zero_iff] at ey; subst ey; exact ⟨x2, by simp, hx.2.1, by simpa using SP.rfl⟩
        obtain ⟨r2, q4, q5, q6⟩ := hQ2
        refine ⟨r1 ++ r2, by rw [hR, q1, q4]; simp, Srt_app.2 ⟨q2, q5, ?_⟩, ?_⟩
        · intro u hu v hv
          have hu := q3.mem.1 hu
          have hv := q6.mem.1 hv
          rcases List.mem_append.1 hu with hu | hu <;> rcases List.mem_append.1 hv with hv | hv
          · exact hx.2.2 u hu v hv
          · exact k1 u hu v hv
          · exact ltN_asy (k2 u hu v hv)
          · exact hy.2.2 u hu v hv
        · refine SP.tr ?_ (q3.app q6)
          rw [show x1 ++ x2 ++ (y1 ++ y2) = x1 ++ ((x2 ++ y1) ++ y2) by simp, show x1 ++ y1 ++ (x2 ++ y2) = x1 ++ ((y1 ++ x2) ++ y2) by simp]
          exact SP.app .rfl (SP.app (SP.swap k2) .rfl)

/-- A list of sorted blocks of s places each, the last one shorter perhaps. -/
inductive Blk (s : Nat) : List Note → Prop
  | last (m : List Note) : Srt m → m.length ≤ s → Blk s m
  | cons (m l : List Note) : Srt m → m.length = s → Blk s l → Blk s (m ++ l)
theorem Blk.head {s : Nat} {l : List Note} (h : Blk s l) (hs : s ≤ l.length) : ∃ m q, l = m ++ q ∧ m.length = s ∧ Srt m ∧ Blk s q := by
  cases h with
  | last _ a b => exact ⟨l, [], by simp, by omega, a, .last _ Srt_nil (by simp)⟩
  | cons m q a b c => exact ⟨m, q, rfl, b, a, c⟩
theorem Blk.all {s : Nat} {l : List Note} (h : Blk s l) (hs : l.length ≤ s) : Srt l := by
  cases h with
  | last _ a b => exact a
  | cons m q a b c =>
    simp at hs
    have : q.length = 0 := by omega
    rw [List.length_eq_zero_iff] at this
    subst this; simpa using a

theorem blkF_at : ∀ (k : Nat) (p q : List Note) {a b n : Nat}, q.length ≤ k → a = p.length → b = a + 20 → n = p.length + q.length →
    ∃ r, blkF (p ++ q) a b n = p ++ r ∧ Blk 20 r ∧ SP q r := by
  intro k
  induction k with
  | zero =>
    intro p q a b n hk ha hb hn
    rw [blkF, if_neg (by omega)]
    obtain ⟨m, e, h1, h2⟩ := insS_at p q [] (a := a) (b := n) ha hn
    have := h2.len
    exact ⟨m, by simpa using e, .last _ h1 (by omega), h2⟩
  | succ k ih =>
    intro p q a b n hk ha hb hn
    by_cases h : b ≤ n
    · rw [blkF, if_pos h]
      obtain ⟨u, v, rfl, hu⟩ := cut_at q (n := 20) (by omega)
      simp only [List.length_append] at hk hn
      obtain ⟨m, e, h1, h2⟩ := insS_at p u v (a := a) (b := b) ha (by omega)
      have h3 := h2.len
      obtain ⟨r, e', h4, h5⟩ := ih (p ++ m) v (a := b) (b := b + 20) (n := n) (by omega) (by simp; omega) rfl (by simp; omega)
      exact ⟨m ++ r, by rw [show p ++ (u ++ v) = p ++ u ++ v by simp, e, e']; simp, .cons _ _ h1 (by omega) h4, h2.app h5⟩
    · rw [blkF, if_neg h]
      obtain ⟨m, e, h1, h2⟩ := insS_at p q [] (a := a) (b := n) ha hn
      have := h2.len
      exact ⟨m, by simpa using e, .last _ h1 (by omega), h2⟩

theorem mrgF_at (s : Nat) (hs : 0 < s) : ∀ (k : Nat) (p q : List Note) {a b n : Nat}, q.length ≤ k → Blk s q → a = p.length → b = a + 2 * s → n = p.length + q.length →
    ∃ r, mrgF s (p ++ q) a b n = p ++ r ∧ Blk (2 * s) r ∧ SP q r := by
  intro k
  induction k with
  | zero =>
    intro p q a b n hk hq ha hb hn
    rw [mrgF, if_neg (by omega), if_neg (by omega)]
    exact ⟨q, rfl, .last _ (hq.all (by omega)) (by omega), .rfl⟩
  | succ k ih =>
    intro p q a b n hk hq ha hb hn
    by_cases h : b ≤ n
    · rw [mrgF, if_pos ⟨h, hs⟩]
      obtain ⟨u, v', rfl, hu, su, hv'⟩ := hq.head (by omega)
      simp only [List.length_append] at hk hn
      obtain ⟨v, w, rfl, hv, sv, hw⟩ := hv'.head (by omega)
      simp only [List.length_append] at hk hn
      obtain ⟨m, e, h1, h2⟩ := symM_at n p u v w su sv (by omega) (by omega) (by omega) (a := a) (m := a + s) (b := b) ha (by omega) (by omega)
      have h3 := h2.len
      simp only [List.length_append] at h3
      obtain ⟨r, e', h4, h5⟩ := ih (p ++ m) w (a := b) (b := b + 2 * s) (n := n) (by omega) hw (by simp; omega) rfl (by simp; omega)
      refine ⟨m ++ r, by rw [show p ++ (u ++ (v ++ w)) = p ++ u ++ v ++ w by simp, e, e']; simp, .cons _ _ h1 (by omega) h4, ?_⟩
      rw [← List.append_assoc]; exact h2.app h5
    · rw [mrgF, if_neg (by omega)]
      by_cases h' : a + s < n
      · rw [if_pos h']
        obtain ⟨u, v, rfl, hu, su, hv⟩ := hq.head (by omega)
        simp only [List.length_append] at hk hn
        obtain ⟨m, e, h1, h2⟩ := symM_at n p u v [] su (hv.all (by omega)) (by omega) (by omega) (by omega) (a := a) (m := a + s) (b := n) ha (by omega) (by omega)
        have h3 := h2.len
        simp only [List.length_append] at h3
        exact ⟨m, by simpa using e, .last _ h1 (by omega), h2⟩
      · rw [if_neg h']
        exact ⟨q, rfl, .last _ (hq.all (by omega)) (by omega), .rfl⟩

theorem dblF_at : ∀ (k : Nat) (l : List Note) (s : Nat) {n : Nat}, n - s ≤ k → 0 < s → Blk s l → n = l.length → Srt (dblF l s n) ∧ SP l (dblF l s n) := by
  intro k
  induction k with
  | zero =>
    intro l s n hk hs hl hn
    rw [dblF, if_neg (by omega)]
    exact ⟨hl.all (by omega), .rfl⟩
  | succ k ih =>
    intro l s n hk hs hl hn
    by_cases h : s < n
    · rw [dblF, if_pos ⟨h, hs⟩]
      obtain ⟨r, e, h1, h2⟩ := mrgF_at s hs l.length [] l (a := 0) (b := 2 * s) (n := n) (Nat.le_refl _) hl rfl (by omega) (by simp [hn])
      simp only [List.nil_append] at e
      rw [e]
      have := ih r (s * 2) (n := n) (by omega) (by omega) (by rw [Nat.mul_comm]; exact h1) (by rw [h2.len, hn])
      exact ⟨this.1, h2.tr this.2⟩
    · rw [dblF, if_neg (by omega)]
      exact ⟨hl.all (by omega), .rfl⟩

theorem stabM_srt (l : List Note) : Srt (stabM l) ∧ SP l (stabM l) := by
  obtain ⟨r, e, h1, h2⟩ := blkF_at l.length [] l (a := 0) (b := 20) (n := l.length) (Nat.le_refl _) rfl rfl (by simp)
  simp only [List.nil_append] at e
  rw [stabM, e]
  have := dblF_at _ r 20 (n := l.length) (Nat.le_refl _) (by omega) h1 h2.len.symm
  exact ⟨this.1, h2.tr this.2⟩

/-- The document's way: each one put behind those that are not greater. -/
def puN (n : Note) : List Note → List Note
  | [] => [n]
  | x :: l => if ltN n x = true then x :: puN n l else n :: x :: l
def putN (l : List Note) (n : Note) : List Note := (puN n l.reverse).reverse
theorem puN_spec (n : Note) : ∀ l : List Note, ∃ v u, l = v ++ u ∧ puN n l = v ++ n :: u ∧ (∀ x ∈ v, ltN n x = true) ∧ (u = [] ∨ ∃ y u', u = y :: u' ∧ ltN n y = false) := by
  intro l
  induction l with
  | nil => exact ⟨[], [], rfl, rfl, by simp, .inl rfl⟩
  | cons x l ih =>
    cases h : ltN n x with
    | true =>
      obtain ⟨v, u, e1, e2, e3, e4⟩ := ih
      refine ⟨x :: v, u, by rw [e1]; rfl, by rw [puN, if_pos h, e2]; rfl, ?_, e4⟩
      intro y hy
      rcases List.mem_cons.1 hy with e | e
      · rw [e]; exact h
      · exact e3 y e
    | false => exact ⟨[], x :: l, rfl, by rw [puN, if_neg (by rw [h]; simp)]; rfl, by simp, .inr ⟨x, l, rfl, h⟩⟩
theorem putN_srt {l : List Note} (h : Srt l) (n : Note) : Srt (putN l n) ∧ SP (l ++ [n]) (putN l n) := by
  obtain ⟨v, u, e1, e2, e3, e4⟩ := puN_spec n l.reverse
  have e : l = u.reverse ++ v.reverse := by rw [← List.reverse_append, ← e1, List.reverse_reverse]
  have ep : putN l n = u.reverse ++ ([n] ++ v.reverse) := by rw [putN, e2]; simp
  rw [ep]
  subst e
  have hs := Srt_app.1 h
  have hu' : ∀ x ∈ u.reverse, ltN n x = false := by
    rcases e4 with e | ⟨y, u', e, hy⟩
    · rw [e]; intro x hx; simp at hx
    · rw [e, List.reverse_cons] at hs ⊢
      intro x hx
      exact leN_tr (Srt_last hs.1 x hx) hy
  have hv' : ∀ x ∈ v.reverse, ltN n x = true := fun x hx => e3 x (List.mem_reverse.1 hx)
  refine ⟨Srt_app.2 ⟨hs.1, List.pairwise_cons.2 ⟨fun x hx => ltN_asy (hv' x hx), hs.2.1⟩, ?_⟩, ?_⟩
  · intro x hx y hy
    rcases List.mem_cons.1 hy with e | e
    · rw [e]; exact hu' x hx
    · exact hs.2.2 x hx y e
  · rw [List.append_assoc]
    refine SP.app .rfl ?_
    exact SP.swap (u := v.reverse) (v := [n]) (fun x hx y hy => by rw [List.mem_singleton] at hx; rw [hx]; exact hv' y hy)
theorem puts_srt : ∀ (l a : List Note), Srt a → Srt (l.foldl putN a) ∧ SP (a ++ l) (l.foldl putN a) := by
  intro l
  induction l with
  | nil => intro a h; exact ⟨h, by simpa using SP.rfl⟩
  | cons x l ih =>
    intro a h
    have h1 := putN_srt h x
    have h2 := ih _ h1.1
    refine ⟨h2.1, SP.tr ?_ h2.2⟩
    rw [show a ++ x :: l = (a ++ [x]) ++ l by simp]
    exact h1.2.app .rfl
/-- Both ways end alike. -/
theorem stab_puts (l : List Note) : stabM l = l.foldl putN [] := by
  have h1 := stabM_srt l
  have h2 := puts_srt l [] Srt_nil
  rw [List.nil_append] at h2
  exact Srt_uniq h1.1 h2.1 (h1.2.sym.tr h2.2)
end Pl

/- Notices: what a loan gives rise to, and a row of notices that a call hands over. -/
namespace Pl
open Go Ab

def loanN (n : Loan) (today ahead : Int) : List Note :=
  (if n.rcl = true then [⟨4, n.patron, n.item, n.due⟩] else []) ++ (if n.due < today then [⟨2, n.patron, n.item, n.due⟩] else if IntKind.i64.wrap (n.due - today) ≤ ahead then [⟨1, n.patron, n.item, n.due⟩] else [])
theorem loanN_len (n : Loan) (today ahead : Int) : (loanN n today ahead).length ≤ 2 := by
  unfold loanN
  rw [List.length_append]
  split <;> split <;> (try split) <;> simp
/-- A note's cells. -/
def noteV (n : Note) : List Value := [.int .i64 n.kind, .int .i64 n.patron, .int .i64 n.item, .int .i64 n.day]
def noteVs (l : List Note) : List Value := l.flatMap noteV
theorem noteVs_get : ∀ (l : List Note) (i j : Nat) (n : Note), l[i]? = some n → j < 4 → (noteVs l)[i * 4 + j]? = (noteV n)[j]?
  | [], i, j, n, h, _ => by simp at h
  | m :: l, 0, j, n, h, hj => by
    simp at h; subst h
    simp only [noteVs, List.flatMap_cons]
    rw [List.getElem?_append_left (by simp [noteV]; omega)]; simp
  | m :: l, i + 1, j, n, h, hj => by
    have ih := noteVs_get l i j n (by simpa using h) hj
    simp only [noteVs, List.flatMap_cons] at ih ⊢
    rw [List.getElem?_append_right (by simp [noteV]; omega), ← ih]
    congr 1
    simp [noteV]; omega
def i64ok (n : Int) : Prop := IntKind.i64.min ≤ n ∧ n ≤ IntKind.i64.max
def NoteOk (n : Note) : Prop := i64ok n.kind ∧ i64ok n.patron ∧ i64ok n.item ∧ i64ok n.day
theorem own_notes {w w' : World} {S : Nat → Nat → Prop} {base e : Nat} {v : Value} {l : List Note} (h : w'.ownsRow base e 4 v l.length (noteVs l)) (hb : w.heap.size ≤ base) (hr : ∀ n ∈ l, NoteOk n) :
    RetRel w w' S (.own (encNote zn) (noteL l)) v := by
  obtain ⟨_, h⟩ := h
  rcases h with ⟨rfl, hn⟩ | ⟨g, cap, cur, rfl, hg, hh, hnc, hcm, hsz, htake⟩
  · refine ⟨none, ?_, fun b hb => by cases hb⟩
    exact .inl ⟨by simpa using hn, none, by simp [hn]⟩
  · refine ⟨some g, .inr ⟨g, cap, cur, e, rfl, by simp, .inl hh, hsz, by simpa using hnc, hcm⟩, ?_⟩
    intro b hbb
    obtain rfl := Option.some.inj hbb
    refine ⟨by omega, (Array.getElem?_eq_some_iff.1 hh).1, ?_, cur, e, .inl hh, ?_, ?_⟩
    · intro x hx
      obtain ⟨n, hn, rfl⟩ := List.mem_map.1 hx
      refine ⟨rfl, fun c hc => ?_⟩
      simp at hc
      rcases hc with rfl | rfl | rfl | rfl <;> rfl
    · show (noteL l).length * 4 ≤ cur.size
      rw [noteL_length, hsz]; omega
    · intro i x j c hi hj
      simp only [noteL, List.getElem?_map, Option.map_eq_some_iff] at hi
      obtain ⟨n, hi, rfl⟩ := hi
      have hj4 : j < 4 := by simpa using (List.getElem?_eq_some_iff.1 hj).1
      have hil := (List.getElem?_eq_some_iff.1 hi).1
      have hlt : i * 4 + j < l.length * 4 := by omega
      have h1 := noteVs_get l i j n hi hj4
      rw [← htake, List.getElem?_take_of_lt (by omega)] at h1
      obtain ⟨r1, r2, r3, r4⟩ := hr n (List.mem_of_getElem? hi)
      show Rep _ _ c (cur.getD (i * 4 + j) undef)
      rw [Array.getD_eq_getD_getElem?, ← Array.getElem?_toList, h1]
      match j, hj, hj4 with
      | 0, hj, _ => simp at hj; subst hj; exact .int _ _ r1
      | 1, hj, _ => simp at hj; subst hj; exact .int _ _ r2
      | 2, hj, _ => simp at hj; subst hj; exact .int _ _ r3
      | 3, hj, _ => simp at hj; subst hj; exact .int _ _ r4
end Pl

/- Custody of items: what the functions compute. -/
namespace Pl
open Go Ab
set_option linter.unusedVariables false
set_option linter.unusedSimpArgs false

structure Custody where
  st : Int
  br : Int
  who : Int
  gto : Int
  deriving DecidableEq
structure Mv where
  day : Int
  item : Int
  kind : Int
  br : Int
  who : Int
  deriving DecidableEq
def encCus (c : Custody) : D := .agg [.int .i64 c.st, .int .i64 c.br, .int .i64 c.who, .int .i64 c.gto]
def encMove (m : Mv) : D := .agg [.int .i64 m.day, .int .i64 m.item, .int .i64 m.kind, .int .i64 m.br, .int .i64 m.who]
theorem encMove_eq (m : Mv) : encMove m = .agg [.int .i64 m.day, .int .i64 m.item, .int .i64 m.kind, .int .i64 m.br, .int .i64 m.who] := rfl
@[simp] theorem encMove_cells (m : Mv) : (encMove m).cells = [.int .i64 m.day, .int .i64 m.item, .int .i64 m.kind, .int .i64 m.br, .int .i64 m.who] := rfl
def zm : Mv := ⟨0, 0, 0, 0, 0⟩
def encMoves (l : List Mv) : D := .slice (encMove zm) (l.map encMove)
theorem encMoves_eq (l : List Mv) : encMoves l = .slice (encMove zm) (l.map encMove) := rfl
def PersC (s : Int) : Prop := s = 4 ∨ s = 5 ∨ s = 8 ∨ s = 9 ∨ s = 10
instance (s : Int) : Decidable (PersC s) := by unfold PersC; infer_instance
def RightC (c : Custody) : Prop :=
  (1 ≤ c.st ∧ c.st ≤ 12 ∧ 1 ≤ c.br ∧ c.br ≤ 4) ∧
  ((c.st = 6 ∧ 0 ≤ c.who ∧ c.who ≤ 9999 ∧ 1 ≤ c.gto ∧ c.gto ≤ 4 ∧ ¬ c.gto = c.br) ∨ (PersC c.st ∧ 1 ≤ c.who ∧ c.who ≤ 9999 ∧ c.gto = 0) ∨ (¬ c.st = 6 ∧ ¬ PersC c.st ∧ c.who = 0 ∧ c.gto = 0))
instance (c : Custody) : Decidable (RightC c) := by unfold RightC; infer_instance
def MoveC (m : Mv) : Prop := 0 ≤ m.day ∧ m.day ≤ 109572 ∧ 1 ≤ m.item ∧ m.item ≤ 9999 ∧ 1 ≤ m.kind ∧ m.kind ≤ 15 ∧ 1 ≤ m.br ∧ m.br ≤ 4 ∧ 0 ≤ m.who ∧ m.who ≤ 9999
instance (m : Mv) : Decidable (MoveC m) := by unfold MoveC; infer_instance
section
variable {c : Custody} {m : Mv}
end
end Pl
