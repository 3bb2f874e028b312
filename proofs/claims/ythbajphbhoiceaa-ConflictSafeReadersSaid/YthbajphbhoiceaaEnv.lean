/-
  A part of the proof: see the text of the law.
-/
import Derived.Test.YthbajphbhoiceaaAlphaA
import Derived.Test.YthbajphbhoiceaaProg
import Derived.Test.YthbajphbhoiceaaAlphaH
set_option linter.unusedSimpArgs false
set_option linter.unusedVariables false
namespace Go.Proofs.Try
open Go.Al
def ti : TypeId → Option TInfo
  | 2 => some ⟨.int .i64, 1, 8, [.int .i64 0], false, false⟩
  | 3 => some ⟨.int .i64, 1, 8, [.int .i64 0], false, false⟩
  | 4 => some ⟨.bool, 1, 1, [.bool false], false, false⟩
  | 5 => some ⟨.int .u8, 1, 1, [.int .u8 0], false, false⟩
  | 6 => some ⟨.int .u8, 1, 1, [.int .u8 0], false, false⟩
  | 9 => some ⟨.string, 1, 16, [.string ByteArray.empty], false, false⟩
  | 10 => some ⟨.string, 1, 16, [.string ByteArray.empty], false, false⟩
  | 11 => some ⟨.string, 1, 16, [.string ByteArray.empty], false, false⟩
  | 12 => some ⟨.int .u64, 1, 8, [.int .u64 0], false, false⟩
  | 21 => some ⟨.int .i32, 1, 4, [.int .i32 0], false, false⟩
  | 22 => some ⟨.slice 44, 1, 24, [.slice none 0 0], false, false⟩
  | 25 => some ⟨.int .i64, 1, 8, [.int .i64 0], false, false⟩
  | 28 => some ⟨.slice 45, 1, 24, [.slice none 0 0], false, false⟩
  | 30 => some ⟨.array 3 3, 3, 24, [.int .i64 0, .int .i64 0, .int .i64 0], true, true⟩
  | 33 => some ⟨.slice 3, 1, 24, [.slice none 0 0], false, false⟩
  | 43 => some ⟨.struct [(0, 3), (1, 3), (2, 4), (3, 3), (4, 33), (5, 33)], 6, 80, [.int .i64 0, .int .i64 0, .bool false, .int .i64 0, .slice none 0 0, .slice none 0 0], true, true⟩
  | 44 => some ⟨.struct [(0, 3), (1, 3), (2, 4), (3, 3), (4, 33), (5, 33)], 6, 80, [.int .i64 0, .int .i64 0, .bool false, .int .i64 0, .slice none 0 0, .slice none 0 0], true, true⟩
  | 45 => some ⟨.array 2 3, 2, 16, [.int .i64 0, .int .i64 0], true, true⟩
  | 46 => some ⟨.slice 54, 1, 24, [.slice none 0 0], false, false⟩
  | 50 => some ⟨.slice 5, 1, 24, [.slice none 0 0], false, false⟩
  | 53 => some ⟨.struct [(0, 5), (1, 5), (2, 5), (3, 5)], 4, 4, [.int .u8 0, .int .u8 0, .int .u8 0, .int .u8 0], true, true⟩
  | 54 => some ⟨.struct [(0, 5), (1, 5), (2, 5), (3, 5)], 4, 4, [.int .u8 0, .int .u8 0, .int .u8 0, .int .u8 0], true, true⟩
  | 57 => some ⟨.map 3 4, 1, 8, [.map none], false, false⟩
  | 58 => some ⟨.map 3 4, 1, 8, [.map none], false, false⟩
  | 63 => some ⟨.pointer 76, 1, 8, [.pointer none], false, false⟩
  | 70 => some ⟨.slice 4, 1, 24, [.slice none 0 0], false, false⟩
  | 74 => some ⟨.slice 33, 1, 24, [.slice none 0 0], false, false⟩
  | 75 => some ⟨.struct [(0, 22), (1, 74)], 2, 48, [.slice none 0 0, .slice none 0 0], true, true⟩
  | 76 => some ⟨.struct [(0, 22), (1, 74)], 2, 48, [.slice none 0 0, .slice none 0 0], true, true⟩
  | 81 => some ⟨.map 3 3, 1, 8, [.map none], false, false⟩
  | _ => none

end Go.Proofs.Try

namespace Go.Proofs.Try
open Go.Al
noncomputable def E : Env := ⟨Try.prog, ti⟩

theorem ti_ok (t : TypeId) (i : TInfo) (h : ti t = some i) : InfoOk Try.prog t i := by
  unfold ti at h
  split at h
  all_goals first | (cases h; exact InfoOk.of ⟨by kernel_rfl, by kernel_rfl, by kernel_rfl, by kernel_rfl⟩) | cases h
theorem hE : E.ok := ti_ok
theorem hm : E.P.follows .mixedOrders = true := by kernel_rfl
end Go.Proofs.Try
