/-
  A part of the proof: see the text of the law.
-/
import Derived.Test.YtjiijjfpmaligaaDoorAlphaA
import Derived.Test.YtjiijjfpmaligaaDoorProg
import Derived.Test.YtjiijjfpmaligaaDoorAlphaH
set_option linter.unusedSimpArgs false
set_option linter.unusedVariables false
namespace Go.Proofs.Try
open Go.Al
def ti : TypeId → Option TInfo
  | 2 => some ⟨.int .i64, 1, 8, [.int .i64 0], false, false⟩
  | 3 => some ⟨.int .i64, 1, 8, [.int .i64 0], false, false⟩
  | 4 => some ⟨.bool, 1, 1, [.bool false], false, false⟩
  | 5 => some ⟨.int .u8, 1, 1, [.int .u8 0], false, false⟩
  | 6 => some ⟨.int .u8, 1, 1, [.int .u8 0], false, false⟩
  | 7 => some ⟨.struct [(0, 2), (1, 3), (2, 4), (3, 6)], 4, 24, [.int .i64 0, .int .i64 0, .bool false, .int .u8 0], true, true⟩
  | 8 => some ⟨.struct [(0, 2), (1, 3), (2, 4), (3, 6)], 4, 24, [.int .i64 0, .int .i64 0, .bool false, .int .u8 0], true, true⟩
  | 9 => some ⟨.string, 1, 16, [.string ByteArray.empty], false, false⟩
  | 10 => some ⟨.string, 1, 16, [.string ByteArray.empty], false, false⟩
  | 11 => some ⟨.string, 1, 16, [.string ByteArray.empty], false, false⟩
  | 12 => some ⟨.int .u64, 1, 8, [.int .u64 0], false, false⟩
  | 13 => some ⟨.struct [(0, 9), (1, 12)], 2, 24, [.string ByteArray.empty, .int .u64 0], true, false⟩
  | 14 => some ⟨.struct [(0, 9), (1, 12)], 2, 24, [.string ByteArray.empty, .int .u64 0], true, false⟩
  | 21 => some ⟨.int .i32, 1, 4, [.int .i32 0], false, false⟩
  | 22 => some ⟨.slice 3, 1, 24, [.slice none 0 0], false, false⟩
  | 23 => some ⟨.struct [(0, 3), (1, 3), (2, 9)], 3, 32, [.int .i64 0, .int .i64 0, .string ByteArray.empty], true, true⟩
  | 24 => some ⟨.struct [(0, 3), (1, 3), (2, 9)], 3, 32, [.int .i64 0, .int .i64 0, .string ByteArray.empty], true, true⟩
  | 25 => some ⟨.slice 27, 1, 24, [.slice none 0 0], false, false⟩
  | 26 => some ⟨.struct [(0, 3), (1, 3), (2, 24), (5, 25)], 6, 72, [.int .i64 0, .int .i64 0, .int .i64 0, .int .i64 0, .string ByteArray.empty, .slice none 0 0], true, true⟩
  | 27 => some ⟨.struct [(0, 3), (1, 3), (2, 24), (5, 25)], 6, 72, [.int .i64 0, .int .i64 0, .int .i64 0, .int .i64 0, .string ByteArray.empty, .slice none 0 0], true, true⟩
  | 28 => some ⟨.slice 24, 1, 24, [.slice none 0 0], false, false⟩
  | 29 => some ⟨.slice 24, 1, 24, [.slice none 0 0], false, false⟩
  | 33 => some ⟨.int .i64, 1, 8, [.int .i64 0], false, false⟩
  | 44 => some ⟨.struct [(0, 4), (1, 4), (2, 4), (3, 24), (6, 24), (9, 4), (10, 4)], 11, 80, [.bool false, .bool false, .bool false, .int .i64 0, .int .i64 0, .string ByteArray.empty, .int .i64 0, .int .i64 0, .string ByteArray.empty, .bool false, .bool false], true, true⟩
  | 45 => some ⟨.struct [(0, 4), (1, 4), (2, 4), (3, 24), (6, 24), (9, 4), (10, 4)], 11, 80, [.bool false, .bool false, .bool false, .int .i64 0, .int .i64 0, .string ByteArray.empty, .int .i64 0, .int .i64 0, .string ByteArray.empty, .bool false, .bool false], true, true⟩
  | 71 => some ⟨.func, 1, 8, [.nilFunc], false, false⟩
  | 72 => some ⟨.map 3 71, 1, 8, [.map none], false, false⟩
  | 73 => some ⟨.struct [(0, 3), (1, 3)], 2, 16, [.int .i64 0, .int .i64 0], true, true⟩
  | 74 => some ⟨.struct [(0, 3), (1, 3)], 2, 16, [.int .i64 0, .int .i64 0], true, true⟩
  | 95 => some ⟨.int .u64, 1, 8, [.int .u64 0], false, false⟩
  | 100 => some ⟨.int .i64, 1, 8, [.int .i64 0], false, false⟩
  | 109 => some ⟨.int .u32, 1, 4, [.int .u32 0], false, false⟩
  | 111 => some ⟨.int .u64, 1, 8, [.int .u64 0], false, false⟩
  | 114 => some ⟨.int .u64, 1, 8, [.int .u64 0], false, false⟩
  | 126 => some ⟨.array 0 16, 0, 0, [], true, true⟩
  | 127 => some ⟨.struct [(0, 126)], 0, 0, [], true, false⟩
  | 128 => some ⟨.struct [(0, 126)], 0, 0, [], true, false⟩
  | 130 => some ⟨.int .u8, 1, 1, [.int .u8 0], false, false⟩
  | 131 => some ⟨.int .u8, 1, 1, [.int .u8 0], false, false⟩
  | 134 => some ⟨.int .i32, 1, 4, [.int .i32 0], false, false⟩
  | 135 => some ⟨.int .i32, 1, 4, [.int .i32 0], false, false⟩
  | _ => none
end Go.Proofs.Try

namespace Go.Proofs.Try
open Go.Al
noncomputable def E : Env := ⟨Tryd.prog, ti⟩

theorem ti_ok (t : TypeId) (i : TInfo) (h : ti t = some i) : InfoOk Tryd.prog t i := by
  unfold ti at h
  split at h
  all_goals first | (cases h; exact InfoOk.of ⟨by kernel_rfl, by kernel_rfl, by kernel_rfl, by kernel_rfl⟩) | cases h
theorem hE : E.ok := ti_ok
theorem hm : E.P.follows .mixedOrders = true := by kernel_rfl
end Go.Proofs.Try
