/-
 A part of the proof: see the text of the law.
-/
import Derived.Test.YtchlampphcaomaaGreatDoorAlphaA
import Derived.Test.YtchlampphcaomaaGreatDoorProg
import Derived.Test.YtchlampphcaomaaGreatDoorAlphaH
set_option linter.unusedSimpArgs false
set_option linter.unusedVariables false
namespace Go.Proofs.Try
open Go.Al
def ti:TypeId→Option TInfo
 | 2=>some ⟨.int .i64,1,8,[.int .i64 0],false,false,false⟩
 | 3=>some ⟨.int .i64,1,8,[.int .i64 0],false,false,false⟩
 | 4=>some ⟨.bool,1,1,[.bool false],false,false,false⟩
 | 5=>some ⟨.int .u8,1,1,[.int .u8 0],false,false,false⟩
 | 6=>some ⟨.int .u8,1,1,[.int .u8 0],false,false,false⟩
 | 7=>some ⟨.struct [(0,2),(1,3),(2,4),(3,6)],4,24,[.int .i64 0,.int .i64 0,.bool false,.int .u8 0],true,true,false⟩
 | 8=>some ⟨.struct [(0,2),(1,3),(2,4),(3,6)],4,24,[.int .i64 0,.int .i64 0,.bool false,.int .u8 0],true,true,false⟩
 | 9=>some ⟨.string,1,16,[.string ByteArray.empty],false,false,false⟩
 | 10=>some ⟨.string,1,16,[.string ByteArray.empty],false,false,false⟩
 | 11=>some ⟨.string,1,16,[.string ByteArray.empty],false,false,false⟩
 | 12=>some ⟨.int .u64,1,8,[.int .u64 0],false,false,false⟩
 | 13=>some ⟨.struct [(0,9),(1,12)],2,24,[.string ByteArray.empty,.int .u64 0],true,false,false⟩
 | 14=>some ⟨.struct [(0,9),(1,12)],2,24,[.string ByteArray.empty,.int .u64 0],true,false,false⟩
 | 21=>some ⟨.int .i32,1,4,[.int .i32 0],false,false,false⟩
 | 22=>some ⟨.slice 59,1,24,[.slice none 0 0],false,false,false⟩
 | 23=>some ⟨.slice 33,1,24,[.slice none 0 0],false,false,false⟩
 | 24=>some ⟨.struct [(0,3),(1,3),(2,9)],3,32,[.int .i64 0,.int .i64 0,.string ByteArray.empty],true,true,false⟩
 | 25=>some ⟨.struct [(0,3),(1,3),(2,9)],3,32,[.int .i64 0,.int .i64 0,.string ByteArray.empty],true,true,false⟩
 | 26=>some ⟨.slice 28,1,24,[.slice none 0 0],false,false,false⟩
 | 27=>some ⟨.struct [(0,3),(1,3),(2,25),(5,26)],6,72,[.int .i64 0,.int .i64 0,.int .i64 0,.int .i64 0,.string ByteArray.empty,.slice none 0 0],true,true,false⟩
 | 28=>some ⟨.struct [(0,3),(1,3),(2,25),(5,26)],6,72,[.int .i64 0,.int .i64 0,.int .i64 0,.int .i64 0,.string ByteArray.empty,.slice none 0 0],true,true,false⟩
 | 29=>some ⟨.slice 3,1,24,[.slice none 0 0],false,false,false⟩
 | 30=>some ⟨.slice 79,1,24,[.slice none 0 0],false,false,false⟩
 | 31=>some ⟨.slice 83,1,24,[.slice none 0 0],false,false,false⟩
 | 32=>some ⟨.struct [(0,3),(1,9),(2,23),(3,28),(9,26),(10,29),(11,30),(12,31),(13,3)],14,224,[.int .i64 0,.string ByteArray.empty,.slice none 0 0,.int .i64 0,.int .i64 0,.int .i64 0,.int .i64 0,.string ByteArray.empty,.slice none 0 0,.slice none 0 0,.slice none 0 0,.slice none 0 0,.slice none 0 0,.int .i64 0],true,true,false⟩
 | 33=>some ⟨.struct [(0,3),(1,9),(2,23),(3,28),(9,26),(10,29),(11,30),(12,31),(13,3)],14,224,[.int .i64 0,.string ByteArray.empty,.slice none 0 0,.int .i64 0,.int .i64 0,.int .i64 0,.int .i64 0,.string ByteArray.empty,.slice none 0 0,.slice none 0 0,.slice none 0 0,.slice none 0 0,.slice none 0 0,.int .i64 0],true,true,false⟩
 | 42=>some ⟨.slice 56,1,24,[.slice none 0 0],false,false,false⟩
 | 44=>some ⟨.int .i64,1,8,[.int .i64 0],false,false,false⟩
 | 52=>some ⟨.slice 88,1,24,[.slice none 0 0],false,false,false⟩
 | 53=>some ⟨.slice 216,1,24,[.slice none 0 0],false,false,false⟩
 | 54=>some ⟨.slice 218,1,24,[.slice none 0 0],false,false,false⟩
 | 55=>some ⟨.struct [(0,9),(1,52),(2,53),(3,54)],4,88,[.string ByteArray.empty,.slice none 0 0,.slice none 0 0,.slice none 0 0],true,true,false⟩
 | 56=>some ⟨.struct [(0,9),(1,52),(2,53),(3,54)],4,88,[.string ByteArray.empty,.slice none 0 0,.slice none 0 0,.slice none 0 0],true,true,false⟩
 | 57=>some ⟨.slice 69,1,24,[.slice none 0 0],false,false,false⟩
 | 58=>some ⟨.struct [(0,56),(4,57)],5,112,[.string ByteArray.empty,.slice none 0 0,.slice none 0 0,.slice none 0 0,.slice none 0 0],true,true,false⟩
 | 59=>some ⟨.struct [(0,56),(4,57)],5,112,[.string ByteArray.empty,.slice none 0 0,.slice none 0 0,.slice none 0 0,.slice none 0 0],true,true,false⟩
 | 60=>some ⟨.slice 9,1,24,[.slice none 0 0],false,false,false⟩
 | 62=>some ⟨.struct [(0,29),(1,44)],2,32,[.slice none 0 0,.int .i64 0],true,true,false⟩
 | 63=>some ⟨.struct [(0,29),(1,44)],2,32,[.slice none 0 0,.int .i64 0],true,true,false⟩
 | 68=>some ⟨.slice 25,1,24,[.slice none 0 0],false,false,false⟩
 | 69=>some ⟨.slice 25,1,24,[.slice none 0 0],false,false,false⟩
 | 77=>some ⟨.slice 4,1,24,[.slice none 0 0],false,false,false⟩
 | 78=>some ⟨.struct [(0,3),(1,28)],7,80,[.int .i64 0,.int .i64 0,.int .i64 0,.int .i64 0,.int .i64 0,.string ByteArray.empty,.slice none 0 0],true,true,false⟩
 | 79=>some ⟨.struct [(0,3),(1,28)],7,80,[.int .i64 0,.int .i64 0,.int .i64 0,.int .i64 0,.int .i64 0,.string ByteArray.empty,.slice none 0 0],true,true,false⟩
 | 82=>some ⟨.struct [(0,3),(1,4)],2,16,[.int .i64 0,.bool false],true,true,false⟩
 | 83=>some ⟨.struct [(0,3),(1,4)],2,16,[.int .i64 0,.bool false],true,true,false⟩
 | 87=>some ⟨.struct [(0,9),(1,3),(2,4)],3,32,[.string ByteArray.empty,.int .i64 0,.bool false],true,true,false⟩
 | 88=>some ⟨.struct [(0,9),(1,3),(2,4)],3,32,[.string ByteArray.empty,.int .i64 0,.bool false],true,true,false⟩
 | 106=>some ⟨.struct [(0,22)],1,24,[.slice none 0 0],true,true,false⟩
 | 107=>some ⟨.struct [(0,22)],1,24,[.slice none 0 0],true,true,false⟩
 | 113=>some ⟨.func,1,8,[.nilFunc],false,false,false⟩
 | 128=>some ⟨.array 2 57,2,48,[.slice none 0 0,.slice none 0 0],true,true,false⟩
 | 143=>some ⟨.map 3 4,1,8,[.map none],false,false,false⟩
 | 148=>some ⟨.int .u64,1,8,[.int .u64 0],false,false,false⟩
 | 156=>some ⟨.func,1,8,[.nilFunc],false,false,false⟩
 | 164=>some ⟨.int .i64,1,8,[.int .i64 0],false,false,false⟩
 | 172=>some ⟨.int .u32,1,4,[.int .u32 0],false,false,false⟩
 | 174=>some ⟨.int .u64,1,8,[.int .u64 0],false,false,false⟩
 | 178=>some ⟨.func,1,8,[.nilFunc],false,false,false⟩
 | 179=>some ⟨.map 3 178,1,8,[.map none],false,false,false⟩
 | 180=>some ⟨.struct [(0,3),(1,3)],2,16,[.int .i64 0,.int .i64 0],true,true,false⟩
 | 181=>some ⟨.struct [(0,3),(1,3)],2,16,[.int .i64 0,.int .i64 0],true,true,false⟩
 | 184=>some ⟨.int .u64,1,8,[.int .u64 0],false,false,false⟩
 | 203=>some ⟨.array 0 16,0,0,[],true,true,false⟩
 | 204=>some ⟨.struct [(0,203)],0,0,[],true,false,false⟩
 | 205=>some ⟨.struct [(0,203)],0,0,[],true,false,false⟩
 | 207=>some ⟨.int .u8,1,1,[.int .u8 0],false,false,false⟩
 | 208=>some ⟨.int .u8,1,1,[.int .u8 0],false,false,false⟩
 | 211=>some ⟨.int .i32,1,4,[.int .i32 0],false,false,false⟩
 | 212=>some ⟨.int .i32,1,4,[.int .i32 0],false,false,false⟩
 | 215=>some ⟨.struct [(0,9),(1,29),(2,4)],3,48,[.string ByteArray.empty,.slice none 0 0,.bool false],true,true,false⟩
 | 216=>some ⟨.struct [(0,9),(1,29),(2,4)],3,48,[.string ByteArray.empty,.slice none 0 0,.bool false],true,true,false⟩
 | 217=>some ⟨.struct [(0,3),(1,3),(2,25)],5,48,[.int .i64 0,.int .i64 0,.int .i64 0,.int .i64 0,.string ByteArray.empty],true,true,false⟩
 | 218=>some ⟨.struct [(0,3),(1,3),(2,25)],5,48,[.int .i64 0,.int .i64 0,.int .i64 0,.int .i64 0,.string ByteArray.empty],true,true,false⟩
 | _=>none
noncomputable def E:Env:=⟨Tryz.prog,ti⟩
theorem ti_ok (t:TypeId) (i:TInfo) (h:ti t=some i):InfoOk Tryz.prog t i:=by
 unfold ti at h
 split at h
 all_goals first | (cases h;exact InfoOk.of ⟨by kernel_rfl,by kernel_rfl,by kernel_rfl,by kernel_rfl⟩) | cases h
theorem hE:E.ok:=ti_ok
theorem hm:E.P.follows .mixedOrders=true:=by kernel_rfl
end Go.Proofs.Try
