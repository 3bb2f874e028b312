/-
  A part of the proof: see the text of the law.
-/
import Derived.Test.YtmmedfdilaijhaaGreatAlphaA
import Derived.Test.YtmmedfdilaijhaaGreatProg
import Derived.Test.YtmmedfdilaijhaaGreatAlphaH
set_option linter.unusedSimpArgs false
set_option linter.unusedVariables false
namespace Go.Proofs.Try
open Go.Al
def ti : TypeId → Option TInfo
  | 1 => some ⟨.func, 1, 8, [.nilFunc], false, false, false⟩
  | 2 => some ⟨.int .i64, 1, 8, [.int .i64 0], false, false, false⟩
  | 3 => some ⟨.int .i64, 1, 8, [.int .i64 0], false, false, false⟩
  | 4 => some ⟨.bool, 1, 1, [.bool false], false, false, false⟩
  | 5 => some ⟨.int .u8, 1, 1, [.int .u8 0], false, false, false⟩
  | 6 => some ⟨.int .u8, 1, 1, [.int .u8 0], false, false, false⟩
  | 7 => some ⟨.struct [(0, 2), (1, 3), (2, 4), (3, 6)], 4, 24, [.int .i64 0, .int .i64 0, .bool false, .int .u8 0], true, true, false⟩
  | 8 => some ⟨.struct [(0, 2), (1, 3), (2, 4), (3, 6)], 4, 24, [.int .i64 0, .int .i64 0, .bool false, .int .u8 0], true, true, false⟩
  | 9 => some ⟨.string, 1, 16, [.string ByteArray.empty], false, false, false⟩
  | 10 => some ⟨.string, 1, 16, [.string ByteArray.empty], false, false, false⟩
  | 11 => some ⟨.string, 1, 16, [.string ByteArray.empty], false, false, false⟩
  | 12 => some ⟨.int .u64, 1, 8, [.int .u64 0], false, false, false⟩
  | 13 => some ⟨.struct [(0, 9), (1, 12)], 2, 24, [.string ByteArray.empty, .int .u64 0], true, false, false⟩
  | 14 => some ⟨.struct [(0, 9), (1, 12)], 2, 24, [.string ByteArray.empty, .int .u64 0], true, false, false⟩
  | 21 => some ⟨.int .i32, 1, 4, [.int .i32 0], false, false, false⟩
  | 22 => some ⟨.slice 37, 1, 24, [.slice none 0 0], false, false, false⟩
  | 23 => some ⟨.func, 1, 8, [.nilFunc], false, false, false⟩
  | 24 => some ⟨.func, 1, 8, [.nilFunc], false, false, false⟩
  | 25 => some ⟨.slice 3, 1, 24, [.slice none 0 0], false, false, false⟩
  | 26 => some ⟨.int .i64, 1, 8, [.int .i64 0], false, false, false⟩
  | 28 => some ⟨.func, 1, 8, [.nilFunc], false, false, false⟩
  | 29 => some ⟨.struct [(0, 25), (1, 4), (2, 26)], 3, 40, [.slice none 0 0, .bool false, .int .i64 0], true, true, false⟩
  | 30 => some ⟨.struct [(0, 25), (1, 4), (2, 26)], 3, 40, [.slice none 0 0, .bool false, .int .i64 0], true, true, false⟩
  | 31 => some ⟨.func, 1, 8, [.nilFunc], false, false, false⟩
  | 32 => some ⟨.func, 1, 8, [.nilFunc], false, false, false⟩
  | 33 => some ⟨.func, 1, 8, [.nilFunc], false, false, false⟩
  | 34 => some ⟨.slice 75, 1, 24, [.slice none 0 0], false, false, false⟩
  | 35 => some ⟨.slice 77, 1, 24, [.slice none 0 0], false, false, false⟩
  | 36 => some ⟨.struct [(0, 3), (1, 3), (2, 3), (3, 34), (4, 35)], 5, 72, [.int .i64 0, .int .i64 0, .int .i64 0, .slice none 0 0, .slice none 0 0], true, true, false⟩
  | 37 => some ⟨.struct [(0, 3), (1, 3), (2, 3), (3, 34), (4, 35)], 5, 72, [.int .i64 0, .int .i64 0, .int .i64 0, .slice none 0 0, .slice none 0 0], true, true, false⟩
  | 38 => some ⟨.func, 1, 8, [.nilFunc], false, false, false⟩
  | 39 => some ⟨.func, 1, 8, [.nilFunc], false, false, false⟩
  | 40 => some ⟨.func, 1, 8, [.nilFunc], false, false, false⟩
  | 41 => some ⟨.map 3 50, 1, 8, [.map none], false, false, false⟩
  | 42 => some ⟨.map 3 3, 1, 8, [.map none], false, false, false⟩
  | 44 => some ⟨.func, 1, 8, [.nilFunc], false, false, false⟩
  | 45 => some ⟨.func, 1, 8, [.nilFunc], false, false, false⟩
  | 46 => some ⟨.func, 1, 8, [.nilFunc], false, false, false⟩
  | 47 => some ⟨.func, 1, 8, [.nilFunc], false, false, false⟩
  | 48 => some ⟨.func, 1, 8, [.nilFunc], false, false, false⟩
  | 49 => some ⟨.struct [(0, 3), (1, 3)], 2, 16, [.int .i64 0, .int .i64 0], true, true, false⟩
  | 50 => some ⟨.struct [(0, 3), (1, 3)], 2, 16, [.int .i64 0, .int .i64 0], true, true, false⟩
  | 51 => some ⟨.map 3 22, 1, 8, [.map none], false, false, false⟩
  | 52 => some ⟨.func, 1, 8, [.nilFunc], false, false, false⟩
  | 53 => some ⟨.func, 1, 8, [.nilFunc], false, false, false⟩
  | 54 => some ⟨.func, 1, 8, [.nilFunc], false, false, false⟩
  | 55 => some ⟨.func, 1, 8, [.nilFunc], false, false, false⟩
  | 56 => some ⟨.func, 1, 8, [.nilFunc], false, false, false⟩
  | 59 => some ⟨.func, 1, 8, [.nilFunc], false, false, false⟩
  | 60 => some ⟨.func, 1, 8, [.nilFunc], false, false, false⟩
  | 61 => some ⟨.func, 1, 8, [.nilFunc], false, false, false⟩
  | 62 => some ⟨.func, 1, 8, [.nilFunc], false, false, false⟩
  | 63 => some ⟨.func, 1, 8, [.nilFunc], false, false, false⟩
  | 64 => some ⟨.func, 1, 8, [.nilFunc], false, false, false⟩
  | 65 => some ⟨.func, 1, 8, [.nilFunc], false, false, false⟩
  | 66 => some ⟨.func, 1, 8, [.nilFunc], false, false, false⟩
  | 67 => some ⟨.func, 1, 8, [.nilFunc], false, false, false⟩
  | 68 => some ⟨.func, 1, 8, [.nilFunc], false, false, false⟩
  | 69 => some ⟨.func, 1, 8, [.nilFunc], false, false, false⟩
  | 70 => some ⟨.func, 1, 8, [.nilFunc], false, false, false⟩
  | 71 => some ⟨.slice 97, 1, 24, [.slice none 0 0], false, false, false⟩
  | 72 => some ⟨.slice 97, 1, 24, [.slice none 0 0], false, false, false⟩
  | 73 => some ⟨.func, 1, 8, [.nilFunc], false, false, false⟩
  | 74 => some ⟨.struct [(0, 3), (1, 3), (2, 4), (3, 72)], 4, 48, [.int .i64 0, .int .i64 0, .bool false, .slice none 0 0], true, true, false⟩
  | 75 => some ⟨.struct [(0, 3), (1, 3), (2, 4), (3, 72)], 4, 48, [.int .i64 0, .int .i64 0, .bool false, .slice none 0 0], true, true, false⟩
  | 76 => some ⟨.struct [(0, 3), (1, 3), (2, 3), (3, 72)], 4, 48, [.int .i64 0, .int .i64 0, .int .i64 0, .slice none 0 0], true, true, false⟩
  | 77 => some ⟨.struct [(0, 3), (1, 3), (2, 3), (3, 72)], 4, 48, [.int .i64 0, .int .i64 0, .int .i64 0, .slice none 0 0], true, true, false⟩
  | 78 => some ⟨.map 3 79, 1, 8, [.map none], false, false, false⟩
  | 79 => some ⟨.int .i64, 1, 8, [.int .i64 0], false, false, false⟩
  | 80 => some ⟨.func, 1, 8, [.nilFunc], false, false, false⟩
  | 81 => some ⟨.func, 1, 8, [.nilFunc], false, false, false⟩
  | 82 => some ⟨.func, 1, 8, [.nilFunc], false, false, false⟩
  | 83 => some ⟨.func, 1, 8, [.nilFunc], false, false, false⟩
  | 84 => some ⟨.func, 1, 8, [.nilFunc], false, false, false⟩
  | 86 => some ⟨.func, 1, 8, [.nilFunc], false, false, false⟩
  | 87 => some ⟨.map 88 77, 1, 8, [.map none], false, false, false⟩
  | 88 => some ⟨.array 2 3, 2, 16, [.int .i64 0, .int .i64 0], true, true, true⟩
  | 89 => some ⟨.func, 1, 8, [.nilFunc], false, false, false⟩
  | 90 => some ⟨.func, 1, 8, [.nilFunc], false, false, false⟩
  | 91 => some ⟨.func, 1, 8, [.nilFunc], false, false, false⟩
  | 92 => some ⟨.func, 1, 8, [.nilFunc], false, false, false⟩
  | 93 => some ⟨.func, 1, 8, [.nilFunc], false, false, false⟩
  | 94 => some ⟨.func, 1, 8, [.nilFunc], false, false, false⟩
  | 95 => some ⟨.func, 1, 8, [.nilFunc], false, false, false⟩
  | 96 => some ⟨.struct [(0, 3), (1, 3), (2, 9)], 3, 32, [.int .i64 0, .int .i64 0, .string ByteArray.empty], true, true, false⟩
  | 97 => some ⟨.struct [(0, 3), (1, 3), (2, 9)], 3, 32, [.int .i64 0, .int .i64 0, .string ByteArray.empty], true, true, false⟩
  | 98 => some ⟨.func, 1, 8, [.nilFunc], false, false, false⟩
  | 99 => some ⟨.func, 1, 8, [.nilFunc], false, false, false⟩
  | 100 => some ⟨.func, 1, 8, [.nilFunc], false, false, false⟩
  | 101 => some ⟨.func, 1, 8, [.nilFunc], false, false, false⟩
  | 102 => some ⟨.func, 1, 8, [.nilFunc], false, false, false⟩
  | 103 => some ⟨.func, 1, 8, [.nilFunc], false, false, false⟩
  | 104 => some ⟨.func, 1, 8, [.nilFunc], false, false, false⟩
  | 105 => some ⟨.func, 1, 8, [.nilFunc], false, false, false⟩
  | 106 => some ⟨.map 88 4, 1, 8, [.map none], false, false, false⟩
  | 107 => some ⟨.func, 1, 8, [.nilFunc], false, false, false⟩
  | 108 => some ⟨.func, 1, 8, [.nilFunc], false, false, false⟩
  | 109 => some ⟨.func, 1, 8, [.nilFunc], false, false, false⟩
  | 110 => some ⟨.func, 1, 8, [.nilFunc], false, false, false⟩
  | 111 => some ⟨.func, 1, 8, [.nilFunc], false, false, false⟩
  | 112 => some ⟨.func, 1, 8, [.nilFunc], false, false, false⟩
  | 113 => some ⟨.int .u64, 1, 8, [.int .u64 0], false, false, false⟩
  | 114 => some ⟨.func, 1, 8, [.nilFunc], false, false, false⟩
  | 115 => some ⟨.func, 1, 8, [.nilFunc], false, false, false⟩
  | 116 => some ⟨.func, 1, 8, [.nilFunc], false, false, false⟩
  | 117 => some ⟨.func, 1, 8, [.nilFunc], false, false, false⟩
  | 118 => some ⟨.int .i64, 1, 8, [.int .i64 0], false, false, false⟩
  | 120 => some ⟨.func, 1, 8, [.nilFunc], false, false, false⟩
  | 121 => some ⟨.func, 1, 8, [.nilFunc], false, false, false⟩
  | 122 => some ⟨.func, 1, 8, [.nilFunc], false, false, false⟩
  | 123 => some ⟨.func, 1, 8, [.nilFunc], false, false, false⟩
  | 124 => some ⟨.func, 1, 8, [.nilFunc], false, false, false⟩
  | 125 => some ⟨.int .u32, 1, 4, [.int .u32 0], false, false, false⟩
  | 126 => some ⟨.func, 1, 8, [.nilFunc], false, false, false⟩
  | 127 => some ⟨.int .u64, 1, 8, [.int .u64 0], false, false, false⟩
  | 128 => some ⟨.func, 1, 8, [.nilFunc], false, false, false⟩
  | 129 => some ⟨.func, 1, 8, [.nilFunc], false, false, false⟩
  | 130 => some ⟨.int .u64, 1, 8, [.int .u64 0], false, false, false⟩
  | 131 => some ⟨.func, 1, 8, [.nilFunc], false, false, false⟩
  | 132 => some ⟨.func, 1, 8, [.nilFunc], false, false, false⟩
  | 133 => some ⟨.func, 1, 8, [.nilFunc], false, false, false⟩
  | 135 => some ⟨.func, 1, 8, [.nilFunc], false, false, false⟩
  | 136 => some ⟨.func, 1, 8, [.nilFunc], false, false, false⟩
  | 137 => some ⟨.func, 1, 8, [.nilFunc], false, false, false⟩
  | 138 => some ⟨.func, 1, 8, [.nilFunc], false, false, false⟩
  | 139 => some ⟨.func, 1, 8, [.nilFunc], false, false, false⟩
  | 140 => some ⟨.func, 1, 8, [.nilFunc], false, false, false⟩
  | 143 => some ⟨.func, 1, 8, [.nilFunc], false, false, false⟩
  | 144 => some ⟨.func, 1, 8, [.nilFunc], false, false, false⟩
  | 145 => some ⟨.func, 1, 8, [.nilFunc], false, false, false⟩
  | 146 => some ⟨.func, 1, 8, [.nilFunc], false, false, false⟩
  | 147 => some ⟨.func, 1, 8, [.nilFunc], false, false, false⟩
  | 148 => some ⟨.func, 1, 8, [.nilFunc], false, false, false⟩
  | 151 => some ⟨.array 0 16, 0, 0, [], true, true, false⟩
  | 152 => some ⟨.struct [(0, 151)], 0, 0, [], true, false, false⟩
  | 153 => some ⟨.struct [(0, 151)], 0, 0, [], true, false, false⟩
  | 154 => some ⟨.func, 1, 8, [.nilFunc], false, false, false⟩
  | 155 => some ⟨.int .u8, 1, 1, [.int .u8 0], false, false, false⟩
  | 156 => some ⟨.int .u8, 1, 1, [.int .u8 0], false, false, false⟩
  | 157 => some ⟨.func, 1, 8, [.nilFunc], false, false, false⟩
  | 159 => some ⟨.int .i32, 1, 4, [.int .i32 0], false, false, false⟩
  | 160 => some ⟨.int .i32, 1, 4, [.int .i32 0], false, false, false⟩
  | _ => none
end Go.Proofs.Try


namespace Go.Proofs.Try
open Go.Al
noncomputable def E : Env := ⟨Tryz.prog, ti⟩

theorem ti_ok (t : TypeId) (i : TInfo) (h : ti t = some i) : InfoOk Tryz.prog t i := by
  unfold ti at h
  split at h
  all_goals first | (cases h; exact InfoOk.of ⟨by kernel_rfl, by kernel_rfl, by kernel_rfl, by kernel_rfl⟩) | cases h
theorem hE : E.ok := ti_ok
theorem hm : E.P.follows .mixedOrders = true := by kernel_rfl
end Go.Proofs.Try

