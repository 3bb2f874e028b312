/-
  A part of the proof: see the text of the law.
-/
import Derived.Test.YtlkmgeahdidjeaaAlphaA
import Derived.Test.YtlkmgeahdidjeaaProg
import Derived.Test.YtlkmgeahdidjeaaAlphaH
set_option linter.unusedSimpArgs false
set_option linter.unusedVariables false
namespace Go.Proofs.Try
open Go.Al
def ti : TypeId → Option TInfo
  | 2 => some ⟨.int .i64, 1, 8, [.int .i64 0], false, false, false⟩
  | 3 => some ⟨.int .i64, 1, 8, [.int .i64 0], false, false, false⟩
  | 4 => some ⟨.bool, 1, 1, [.bool false], false, false, false⟩
  | 5 => some ⟨.int .u8, 1, 1, [.int .u8 0], false, false, false⟩
  | 6 => some ⟨.int .u8, 1, 1, [.int .u8 0], false, false, false⟩
  | 7 => some ⟨.struct [(0, 2), (1, 3), (2, 4), (3, 6)], 4, 24, [.int .i64 0, .int .i64 0, .bool false, .int .u8 0], true, true, false⟩
  | 8 => some ⟨.struct [(0, 2), (1, 3), (2, 4), (3, 6)], 4, 24, [.int .i64 0, .int .i64 0, .bool false, .int .u8 0], true, true, false⟩
  | 9 => some ⟨.string, 1, 16, [.string ByteArray.empty], false, false, false⟩
  | 10 => some ⟨.string, 1, 16, [.string ByteArray.empty], false, false, false⟩
  | 11 => some ⟨.string, 1, 16, [.string ByteArray.empty], false, false, false⟩
  | 12 => some ⟨.int .u64, 1, 8, [.int .u64 0], false, false, false⟩
  | 13 => some ⟨.struct [(0, 9), (1, 12)], 2, 24, [.string ByteArray.empty, .int .u64 0], true, false, false⟩
  | 14 => some ⟨.struct [(0, 9), (1, 12)], 2, 24, [.string ByteArray.empty, .int .u64 0], true, false, false⟩
  | 21 => some ⟨.int .i32, 1, 4, [.int .i32 0], false, false, false⟩
  | 22 => some ⟨.slice 29, 1, 24, [.slice none 0 0], false, false, false⟩
  | 25 => some ⟨.slice 3, 1, 24, [.slice none 0 0], false, false, false⟩
  | 26 => some ⟨.slice 53, 1, 24, [.slice none 0 0], false, false, false⟩
  | 27 => some ⟨.slice 53, 1, 24, [.slice none 0 0], false, false, false⟩
  | 28 => some ⟨.struct [(0, 3), (1, 3), (2, 4), (3, 27)], 4, 48, [.int .i64 0, .int .i64 0, .bool false, .slice none 0 0], true, true, false⟩
  | 29 => some ⟨.struct [(0, 3), (1, 3), (2, 4), (3, 27)], 4, 48, [.int .i64 0, .int .i64 0, .bool false, .slice none 0 0], true, true, false⟩
  | 43 => some ⟨.slice 49, 1, 24, [.slice none 0 0], false, false, false⟩
  | 44 => some ⟨.int .i64, 1, 8, [.int .i64 0], false, false, false⟩
  | 48 => some ⟨.struct [(0, 3), (1, 3), (2, 4), (3, 27)], 4, 48, [.int .i64 0, .int .i64 0, .bool false, .slice none 0 0], true, true, false⟩
  | 49 => some ⟨.struct [(0, 3), (1, 3), (2, 4), (3, 27)], 4, 48, [.int .i64 0, .int .i64 0, .bool false, .slice none 0 0], true, true, false⟩
  | 52 => some ⟨.struct [(0, 3), (1, 3), (2, 9)], 3, 32, [.int .i64 0, .int .i64 0, .string ByteArray.empty], true, true, false⟩
  | 53 => some ⟨.struct [(0, 3), (1, 3), (2, 9)], 3, 32, [.int .i64 0, .int .i64 0, .string ByteArray.empty], true, true, false⟩
  | 54 => some ⟨.map 55 4, 1, 8, [.map none], false, false, false⟩
  | 55 => some ⟨.array 2 3, 2, 16, [.int .i64 0, .int .i64 0], true, true, true⟩
  | 65 => some ⟨.slice 4, 1, 24, [.slice none 0 0], false, false, false⟩
  | 67 => some ⟨.map 3 4, 1, 8, [.map none], false, false, false⟩
  | 75 => some ⟨.int .u64, 1, 8, [.int .u64 0], false, false, false⟩
  | 84 => some ⟨.int .i64, 1, 8, [.int .i64 0], false, false, false⟩
  | 92 => some ⟨.int .u32, 1, 4, [.int .u32 0], false, false, false⟩
  | 94 => some ⟨.int .u64, 1, 8, [.int .u64 0], false, false, false⟩
  | 97 => some ⟨.int .u64, 1, 8, [.int .u64 0], false, false, false⟩
  | 119 => some ⟨.array 0 16, 0, 0, [], true, true, false⟩
  | 120 => some ⟨.struct [(0, 119)], 0, 0, [], true, false, false⟩
  | 121 => some ⟨.struct [(0, 119)], 0, 0, [], true, false, false⟩
  | 123 => some ⟨.int .u8, 1, 1, [.int .u8 0], false, false, false⟩
  | 124 => some ⟨.int .u8, 1, 1, [.int .u8 0], false, false, false⟩
  | 127 => some ⟨.int .i32, 1, 4, [.int .i32 0], false, false, false⟩
  | 128 => some ⟨.int .i32, 1, 4, [.int .i32 0], false, false, false⟩
  | _ => none
end Go.Proofs.Try

namespace Go.Proofs.Try
open Go.Al
noncomputable def E : Env := ⟨Try.prog, ti⟩

theorem ti_ok (t : TypeId) (i : TInfo) (h : ti t = some i) : InfoOk Try.prog t i := by
  unfold ti at h
  split at h
  all_goals first | (cases h; exact InfoOk.of ⟨by kernel_rfl, by kernel_rfl, by kernel_rfl, by kernel_rfl⟩) | cases h
theorem hE : E.ok := ti_ok
theorem hm : E.P.follows .mixedOrders = true := by kernel_rfl
end Go.Proofs.Try
