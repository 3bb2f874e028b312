/-
  A part of the proof: see the text of the law.
-/
import Derived.Test.YtmmedfdilaijhaaAlphaA
import Derived.Test.YtmmedfdilaijhaaProg
import Derived.Test.YtmmedfdilaijhaaAlphaH
set_option linter.unusedSimpArgs false
set_option linter.unusedVariables false
namespace Go.Proofs.Try
open Go.Al
def ti : TypeId → Option TInfo
  | 2 => some ⟨.int .i64, 1, 8, [.int .i64 0], false, false, false⟩
  | 3 => some ⟨.int .i64, 1, 8, [.int .i64 0], false, false, false⟩
  | 4 => some ⟨.bool, 1, 1, [.bool false], false, false, false⟩
  | 5 => some ⟨.int .u8, 1, 1, [.int .u8 0], false, false, false⟩
  | 6 => some ⟨.int .u8, 1, 1, [.int .u8 0], false, false, false⟩
  | 7 => some ⟨.struct [(0, 2), (1, 3), (2, 4), (3, 6)], 4, 24, [.int .i64 0, .int .i64 0, .bool false, .int .u8 0], true, true, false⟩
  | 8 => some ⟨.struct [(0, 2), (1, 3), (2, 4), (3, 6)], 4, 24, [.int .i64 0, .int .i64 0, .bool false, .int .u8 0], true, true, false⟩
  | 9 => some ⟨.string, 1, 16, [.string ByteArray.empty], false, false, false⟩
  | 10 => some ⟨.string, 1, 16, [.string ByteArray.empty], false, false, false⟩
  | 11 => some ⟨.string, 1, 16, [.string ByteArray.empty], false, false, false⟩
  | 12 => some ⟨.int .u64, 1, 8, [.int .u64 0], false, false, false⟩
  | 13 => some ⟨.struct [(0, 9), (1, 12)], 2, 24, [.string ByteArray.empty, .int .u64 0], true, false, false⟩
  | 14 => some ⟨.struct [(0, 9), (1, 12)], 2, 24, [.string ByteArray.empty, .int .u64 0], true, false, false⟩
  | 21 => some ⟨.int .i32, 1, 4, [.int .i32 0], false, false, false⟩
  | 22 => some ⟨.slice 32, 1, 24, [.slice none 0 0], false, false, false⟩
  | 23 => some ⟨.slice 3, 1, 24, [.slice none 0 0], false, false, false⟩
  | 27 => some ⟨.map 3 29, 1, 8, [.map none], false, false, false⟩
  | 28 => some ⟨.map 3 3, 1, 8, [.map none], false, false, false⟩
  | 29 => some ⟨.slice 37, 1, 24, [.slice none 0 0], false, false, false⟩
  | 30 => some ⟨.slice 40, 1, 24, [.slice none 0 0], false, false, false⟩
  | 31 => some ⟨.struct [(0, 3), (1, 3), (2, 3), (3, 29), (4, 30)], 5, 72, [.int .i64 0, .int .i64 0, .int .i64 0, .slice none 0 0, .slice none 0 0], true, true, false⟩
  | 32 => some ⟨.struct [(0, 3), (1, 3), (2, 3), (3, 29), (4, 30)], 5, 72, [.int .i64 0, .int .i64 0, .int .i64 0, .slice none 0 0, .slice none 0 0], true, true, false⟩
  | 33 => some ⟨.map 38 3, 1, 8, [.map none], false, false, false⟩
  | 34 => some ⟨.slice 78, 1, 24, [.slice none 0 0], false, false, false⟩
  | 35 => some ⟨.slice 78, 1, 24, [.slice none 0 0], false, false, false⟩
  | 36 => some ⟨.struct [(0, 3), (1, 3), (2, 4), (3, 35)], 4, 48, [.int .i64 0, .int .i64 0, .bool false, .slice none 0 0], true, true, false⟩
  | 37 => some ⟨.struct [(0, 3), (1, 3), (2, 4), (3, 35)], 4, 48, [.int .i64 0, .int .i64 0, .bool false, .slice none 0 0], true, true, false⟩
  | 38 => some ⟨.array 2 3, 2, 16, [.int .i64 0, .int .i64 0], true, true, true⟩
  | 39 => some ⟨.struct [(0, 3), (1, 3), (2, 3), (3, 35)], 4, 48, [.int .i64 0, .int .i64 0, .int .i64 0, .slice none 0 0], true, true, false⟩
  | 40 => some ⟨.struct [(0, 3), (1, 3), (2, 3), (3, 35)], 4, 48, [.int .i64 0, .int .i64 0, .int .i64 0, .slice none 0 0], true, true, false⟩
  | 56 => some ⟨.int .i64, 1, 8, [.int .i64 0], false, false, false⟩
  | 62 => some ⟨.map 3 64, 1, 8, [.map none], false, false, false⟩
  | 64 => some ⟨.int .i64, 1, 8, [.int .i64 0], false, false, false⟩
  | 77 => some ⟨.struct [(0, 3), (1, 3), (2, 9)], 3, 32, [.int .i64 0, .int .i64 0, .string ByteArray.empty], true, true, false⟩
  | 78 => some ⟨.struct [(0, 3), (1, 3), (2, 9)], 3, 32, [.int .i64 0, .int .i64 0, .string ByteArray.empty], true, true, false⟩
  | 80 => some ⟨.map 38 40, 1, 8, [.map none], false, false, false⟩
  | 85 => some ⟨.map 3 93, 1, 8, [.map none], false, false, false⟩
  | 92 => some ⟨.struct [(0, 3), (1, 3)], 2, 16, [.int .i64 0, .int .i64 0], true, true, false⟩
  | 93 => some ⟨.struct [(0, 3), (1, 3)], 2, 16, [.int .i64 0, .int .i64 0], true, true, false⟩
  | 94 => some ⟨.map 3 22, 1, 8, [.map none], false, false, false⟩
  | 95 => some ⟨.func, 1, 8, [.nilFunc], false, false, false⟩
  | 101 => some ⟨.map 38 4, 1, 8, [.map none], false, false, false⟩
  | 114 => some ⟨.int .u64, 1, 8, [.int .u64 0], false, false, false⟩
  | 118 => some ⟨.int .i64, 1, 8, [.int .i64 0], false, false, false⟩
  | 125 => some ⟨.int .u32, 1, 4, [.int .u32 0], false, false, false⟩
  | 127 => some ⟨.int .u64, 1, 8, [.int .u64 0], false, false, false⟩
  | 133 => some ⟨.int .u64, 1, 8, [.int .u64 0], false, false, false⟩
  | 148 => some ⟨.array 0 16, 0, 0, [], true, true, false⟩
  | 149 => some ⟨.struct [(0, 148)], 0, 0, [], true, false, false⟩
  | 150 => some ⟨.struct [(0, 148)], 0, 0, [], true, false, false⟩
  | 152 => some ⟨.int .u8, 1, 1, [.int .u8 0], false, false, false⟩
  | 153 => some ⟨.int .u8, 1, 1, [.int .u8 0], false, false, false⟩
  | 156 => some ⟨.int .i32, 1, 4, [.int .i32 0], false, false, false⟩
  | 157 => some ⟨.int .i32, 1, 4, [.int .i32 0], false, false, false⟩
  | _ => none
end Go.Proofs.Try

namespace Go.Proofs.Try
open Go.Al
noncomputable def E : Env := ⟨Try.prog, ti⟩

theorem ti_ok (t : TypeId) (i : TInfo) (h : ti t = some i) : InfoOk Try.prog t i := by
  unfold ti at h
  split at h
  all_goals first | (cases h; exact InfoOk.of ⟨by kernel_rfl, by kernel_rfl, by kernel_rfl, by kernel_rfl⟩) | cases h
theorem hE : E.ok := ti_ok
theorem hm : E.P.follows .mixedOrders = true := by kernel_rfl
end Go.Proofs.Try
