/-
  A part of the proof: see the text of the law.
-/
import Derived.Test.YtlokeliagcaepaaAlphaA
import Derived.Test.YtlokeliagcaepaaProg
import Derived.Test.YtlokeliagcaepaaAlphaH
set_option linter.unusedSimpArgs false
set_option linter.unusedVariables false
namespace Go.Proofs.Try
open Go.Al
def ti : TypeId → Option TInfo
  | 2 => some ⟨.int .i64, 1, 8, [.int .i64 0], false, false, false⟩
  | 3 => some ⟨.int .i64, 1, 8, [.int .i64 0], false, false, false⟩
  | 4 => some ⟨.bool, 1, 1, [.bool false], false, false, false⟩
  | 5 => some ⟨.int .u8, 1, 1, [.int .u8 0], false, false, false⟩
  | 6 => some ⟨.int .u8, 1, 1, [.int .u8 0], false, false, false⟩
  | 7 => some ⟨.struct [(0, 2), (1, 3), (2, 4), (3, 6)], 4, 24, [.int .i64 0, .int .i64 0, .bool false, .int .u8 0], true, true, false⟩
  | 8 => some ⟨.struct [(0, 2), (1, 3), (2, 4), (3, 6)], 4, 24, [.int .i64 0, .int .i64 0, .bool false, .int .u8 0], true, true, false⟩
  | 9 => some ⟨.string, 1, 16, [.string ByteArray.empty], false, false, false⟩
  | 10 => some ⟨.string, 1, 16, [.string ByteArray.empty], false, false, false⟩
  | 11 => some ⟨.string, 1, 16, [.string ByteArray.empty], false, false, false⟩
  | 12 => some ⟨.int .u64, 1, 8, [.int .u64 0], false, false, false⟩
  | 13 => some ⟨.struct [(0, 9), (1, 12)], 2, 24, [.string ByteArray.empty, .int .u64 0], true, false, false⟩
  | 14 => some ⟨.struct [(0, 9), (1, 12)], 2, 24, [.string ByteArray.empty, .int .u64 0], true, false, false⟩
  | 21 => some ⟨.int .i32, 1, 4, [.int .i32 0], false, false, false⟩
  | 22 => some ⟨.slice 64, 1, 24, [.slice none 0 0], false, false, false⟩
  | 25 => some ⟨.slice 3, 1, 24, [.slice none 0 0], false, false, false⟩
  | 26 => some ⟨.struct [(0, 3), (1, 25)], 2, 32, [.int .i64 0, .slice none 0 0], true, true, false⟩
  | 27 => some ⟨.struct [(0, 3), (1, 25)], 2, 32, [.int .i64 0, .slice none 0 0], true, true, false⟩
  | 28 => some ⟨.int .i64, 1, 8, [.int .i64 0], false, false, false⟩
  | 31 => some ⟨.slice 66, 1, 24, [.slice none 0 0], false, false, false⟩
  | 32 => some ⟨.struct [(0, 3), (1, 3), (2, 31)], 3, 40, [.int .i64 0, .int .i64 0, .slice none 0 0], true, true, false⟩
  | 33 => some ⟨.struct [(0, 3), (1, 3), (2, 31)], 3, 40, [.int .i64 0, .int .i64 0, .slice none 0 0], true, true, false⟩
  | 39 => some ⟨.struct [(0, 3), (1, 3), (2, 9)], 3, 32, [.int .i64 0, .int .i64 0, .string ByteArray.empty], true, true, false⟩
  | 40 => some ⟨.struct [(0, 3), (1, 3), (2, 9)], 3, 32, [.int .i64 0, .int .i64 0, .string ByteArray.empty], true, true, true⟩
  | 41 => some ⟨.struct [(0, 4), (1, 4), (2, 4), (3, 40), (6, 40), (9, 4), (10, 4)], 11, 80, [.bool false, .bool false, .bool false, .int .i64 0, .int .i64 0, .string ByteArray.empty, .int .i64 0, .int .i64 0, .string ByteArray.empty, .bool false, .bool false], true, true, false⟩
  | 42 => some ⟨.struct [(0, 4), (1, 4), (2, 4), (3, 40), (6, 40), (9, 4), (10, 4)], 11, 80, [.bool false, .bool false, .bool false, .int .i64 0, .int .i64 0, .string ByteArray.empty, .int .i64 0, .int .i64 0, .string ByteArray.empty, .bool false, .bool false], true, true, false⟩
  | 45 => some ⟨.struct [(0, 3), (1, 3)], 2, 16, [.int .i64 0, .int .i64 0], true, true, false⟩
  | 46 => some ⟨.struct [(0, 3), (1, 3)], 2, 16, [.int .i64 0, .int .i64 0], true, true, false⟩
  | 63 => some ⟨.slice 40, 1, 24, [.slice none 0 0], false, false, false⟩
  | 64 => some ⟨.slice 40, 1, 24, [.slice none 0 0], false, false, false⟩
  | 65 => some ⟨.struct [(0, 40), (3, 40), (6, 3), (7, 3), (8, 3)], 9, 88, [.int .i64 0, .int .i64 0, .string ByteArray.empty, .int .i64 0, .int .i64 0, .string ByteArray.empty, .int .i64 0, .int .i64 0, .int .i64 0], true, true, false⟩
  | 66 => some ⟨.struct [(0, 40), (3, 40), (6, 3), (7, 3), (8, 3)], 9, 88, [.int .i64 0, .int .i64 0, .string ByteArray.empty, .int .i64 0, .int .i64 0, .string ByteArray.empty, .int .i64 0, .int .i64 0, .int .i64 0], true, true, false⟩
  | 75 => some ⟨.map 40 4, 1, 8, [.map none], false, false, false⟩
  | 87 => some ⟨.slice 90, 1, 24, [.slice none 0 0], false, false, false⟩
  | 89 => some ⟨.struct [(0, 66), (9, 3), (10, 3), (11, 63)], 12, 128, [.int .i64 0, .int .i64 0, .string ByteArray.empty, .int .i64 0, .int .i64 0, .string ByteArray.empty, .int .i64 0, .int .i64 0, .int .i64 0, .int .i64 0, .int .i64 0, .slice none 0 0], true, true, false⟩
  | 90 => some ⟨.struct [(0, 66), (9, 3), (10, 3), (11, 63)], 12, 128, [.int .i64 0, .int .i64 0, .string ByteArray.empty, .int .i64 0, .int .i64 0, .string ByteArray.empty, .int .i64 0, .int .i64 0, .int .i64 0, .int .i64 0, .int .i64 0, .slice none 0 0], true, true, false⟩
  | 104 => some ⟨.int .u64, 1, 8, [.int .u64 0], false, false, false⟩
  | 109 => some ⟨.int .i64, 1, 8, [.int .i64 0], false, false, false⟩
  | 117 => some ⟨.int .u32, 1, 4, [.int .u32 0], false, false, false⟩
  | 119 => some ⟨.int .u64, 1, 8, [.int .u64 0], false, false, false⟩
  | 120 => some ⟨.int .u64, 1, 8, [.int .u64 0], false, false, false⟩
  | 130 => some ⟨.array 0 16, 0, 0, [], true, true, false⟩
  | 131 => some ⟨.struct [(0, 130)], 0, 0, [], true, false, false⟩
  | 132 => some ⟨.struct [(0, 130)], 0, 0, [], true, false, false⟩
  | 134 => some ⟨.int .u8, 1, 1, [.int .u8 0], false, false, false⟩
  | 135 => some ⟨.int .u8, 1, 1, [.int .u8 0], false, false, false⟩
  | 138 => some ⟨.int .i32, 1, 4, [.int .i32 0], false, false, false⟩
  | 139 => some ⟨.int .i32, 1, 4, [.int .i32 0], false, false, false⟩
  | _ => none
end Go.Proofs.Try

namespace Go.Proofs.Try
open Go.Al
noncomputable def E : Env := ⟨Try.prog, ti⟩

theorem ti_ok (t : TypeId) (i : TInfo) (h : ti t = some i) : InfoOk Try.prog t i := by
  unfold ti at h
  split at h
  all_goals first | (cases h; exact InfoOk.of ⟨by kernel_rfl, by kernel_rfl, by kernel_rfl, by kernel_rfl⟩) | cases h
theorem hE : E.ok := ti_ok
theorem hm : E.P.follows .mixedOrders = true := by kernel_rfl
end Go.Proofs.Try
