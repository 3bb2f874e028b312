/-
 A part of the proof.
-/
import Derived.Test.YtfhoeghdioofmaaGreatProg
import Derived.Test.YtfhoeghdioofmaaGreatAlphaH
set_option linter.unusedSimpArgs false
set_option linter.unusedVariables false
namespace Go.Proofs.Try
open Go.Al
def ti:TypeId->Option TInfo
 | 2=>some ⟨.int .i64,1,8,[.int .i64 0],false,false,false⟩
 | 3=>some ⟨.int .i64,1,8,[.int .i64 0],false,false,false⟩
 | 4=>some ⟨.bool,1,1,[.bool false],false,false,false⟩
 | 5=>some ⟨.int .u8,1,1,[.int .u8 0],false,false,false⟩
 | 6=>some ⟨.int .u8,1,1,[.int .u8 0],false,false,false⟩
 | 7=>some ⟨.struct [(0,2),(1,3),(2,4),(3,6)],4,24,[.int .i64 0,.int .i64 0,.bool false,.int .u8 0],true,true,false⟩
 | 8=>some ⟨.struct [(0,2),(1,3),(2,4),(3,6)],4,24,[.int .i64 0,.int .i64 0,.bool false,.int .u8 0],true,true,false⟩
 | 9=>some ⟨.string,1,16,[.string ByteArray.empty],false,false,false⟩
 | 10=>some ⟨.string,1,16,[.string ByteArray.empty],false,false,false⟩
 | 11=>some ⟨.string,1,16,[.string ByteArray.empty],false,false,false⟩
 | 12=>some ⟨.int .u64,1,8,[.int .u64 0],false,false,false⟩
 | 13=>some ⟨.struct [(0,9),(1,12)],2,24,[.string ByteArray.empty,.int .u64 0],true,false,false⟩
 | 14=>some ⟨.struct [(0,9),(1,12)],2,24,[.string ByteArray.empty,.int .u64 0],true,false,false⟩
 | 21=>some ⟨.int .i32,1,4,[.int .i32 0],false,false,false⟩
 | 22=>some ⟨.slice 35,1,24,[.slice none 0 0],false,false,false⟩
 | 24=>some ⟨.pointer 92,1,8,[.pointer none],false,false,false⟩
 | 27=>some ⟨.slice 59,1,24,[.slice none 0 0],false,false,false⟩
 | 28=>some ⟨.int .i64,1,8,[.int .i64 0],false,false,false⟩
 | 29=>some ⟨.struct [(0,3),(1,27),(2,28)],3,40,[.int .i64 0,.slice none 0 0,.int .i64 0],true,true,false⟩
 | 30=>some ⟨.struct [(0,3),(1,27),(2,28)],3,40,[.int .i64 0,.slice none 0 0,.int .i64 0],true,true,false⟩
 | 32=>some ⟨.slice 135,1,24,[.slice none 0 0],false,false,false⟩
 | 33=>some ⟨.slice 135,1,24,[.slice none 0 0],false,false,false⟩
 | 34=>some ⟨.struct [(0,3),(1,3),(2,3),(3,3),(4,4),(5,33)],6,64,[.int .i64 0,.int .i64 0,.int .i64 0,.int .i64 0,.bool false,.slice none 0 0],true,true,false⟩
 | 35=>some ⟨.struct [(0,3),(1,3),(2,3),(3,3),(4,4),(5,33)],6,64,[.int .i64 0,.int .i64 0,.int .i64 0,.int .i64 0,.bool false,.slice none 0 0],true,true,false⟩
 | 36=>some ⟨.slice 43,1,24,[.slice none 0 0],false,false,false⟩
 | 41=>some ⟨.slice 3,1,24,[.slice none 0 0],false,false,false⟩
 | 42=>some ⟨.struct [(0,3),(1,3),(2,4),(3,3),(4,41),(5,41)],6,80,[.int .i64 0,.int .i64 0,.bool false,.int .i64 0,.slice none 0 0,.slice none 0 0],true,true,false⟩
 | 43=>some ⟨.struct [(0,3),(1,3),(2,4),(3,3),(4,41),(5,41)],6,80,[.int .i64 0,.int .i64 0,.bool false,.int .i64 0,.slice none 0 0,.slice none 0 0],true,true,false⟩
 | 46=>some ⟨.slice 49,1,24,[.slice none 0 0],false,false,false⟩
 | 48=>some ⟨.struct [(0,3),(1,3),(2,3),(3,4),(4,3),(5,27),(6,41),(7,41)],8,112,[.int .i64 0,.int .i64 0,.int .i64 0,.bool false,.int .i64 0,.slice none 0 0,.slice none 0 0,.slice none 0 0],true,true,false⟩
 | 49=>some ⟨.struct [(0,3),(1,3),(2,3),(3,4),(4,3),(5,27),(6,41),(7,41)],8,112,[.int .i64 0,.int .i64 0,.int .i64 0,.bool false,.int .i64 0,.slice none 0 0,.slice none 0 0,.slice none 0 0],true,true,false⟩
 | 58=>some ⟨.struct [(0,3),(1,3),(2,4),(3,33)],4,48,[.int .i64 0,.int .i64 0,.bool false,.slice none 0 0],true,true,false⟩
 | 59=>some ⟨.struct [(0,3),(1,3),(2,4),(3,33)],4,48,[.int .i64 0,.int .i64 0,.bool false,.slice none 0 0],true,true,false⟩
 | 62=>some ⟨.slice 66,1,24,[.slice none 0 0],false,false,false⟩
 | 65=>some ⟨.struct [(0,3),(1,3),(2,4),(3,33)],4,48,[.int .i64 0,.int .i64 0,.bool false,.slice none 0 0],true,true,false⟩
 | 66=>some ⟨.struct [(0,3),(1,3),(2,4),(3,33)],4,48,[.int .i64 0,.int .i64 0,.bool false,.slice none 0 0],true,true,false⟩
 | 68=>some ⟨.pointer 70,1,8,[.pointer none],false,false,false⟩
 | 69=>some ⟨.struct [(0,3),(1,3),(2,3),(3,46),(4,46)],5,72,[.int .i64 0,.int .i64 0,.int .i64 0,.slice none 0 0,.slice none 0 0],true,true,false⟩
 | 70=>some ⟨.struct [(0,3),(1,3),(2,3),(3,46),(4,46)],5,72,[.int .i64 0,.int .i64 0,.int .i64 0,.slice none 0 0,.slice none 0 0],true,true,false⟩
 | 89=>some ⟨.map 3 98,1,8,[.map none],false,false,false⟩
 | 90=>some ⟨.slice 98,1,24,[.slice none 0 0],false,false,false⟩
 | 91=>some ⟨.struct [(0,3),(1,3),(2,3),(3,90),(4,89)],5,56,[.int .i64 0,.int .i64 0,.int .i64 0,.slice none 0 0,.map none],true,true,false⟩
 | 92=>some ⟨.struct [(0,3),(1,3),(2,3),(3,90),(4,89)],5,56,[.int .i64 0,.int .i64 0,.int .i64 0,.slice none 0 0,.map none],true,true,false⟩
 | 98=>some ⟨.pointer 104,1,8,[.pointer none],false,false,false⟩
 | 99=>some ⟨.map 106 4,1,8,[.map none],false,false,false⟩
 | 100=>some ⟨.map 106 4,1,8,[.map none],false,false,false⟩
 | 101=>some ⟨.map 3 4,1,8,[.map none],false,false,false⟩
 | 102=>some ⟨.map 3 4,1,8,[.map none],false,false,false⟩
 | 103=>some ⟨.struct [(0,3),(1,3),(2,4),(3,3),(4,27),(5,100),(6,102)],7,72,[.int .i64 0,.int .i64 0,.bool false,.int .i64 0,.slice none 0 0,.map none,.map none],true,true,false⟩
 | 104=>some ⟨.struct [(0,3),(1,3),(2,4),(3,3),(4,27),(5,100),(6,102)],7,72,[.int .i64 0,.int .i64 0,.bool false,.int .i64 0,.slice none 0 0,.map none,.map none],true,true,false⟩
 | 105=>some ⟨.struct [(0,3),(1,3)],2,16,[.int .i64 0,.int .i64 0],true,true,false⟩
 | 106=>some ⟨.struct [(0,3),(1,3)],2,16,[.int .i64 0,.int .i64 0],true,true,true⟩
 | 115=>some ⟨.map 3 4,1,8,[.map none],false,false,false⟩
 | 121=>some ⟨.array 3 3,3,24,[.int .i64 0,.int .i64 0,.int .i64 0],true,true,false⟩
 | 123=>some ⟨.pointer 172,1,8,[.pointer none],false,false,false⟩
 | 134=>some ⟨.struct [(0,3),(1,3),(2,9)],3,32,[.int .i64 0,.int .i64 0,.string ByteArray.empty],true,true,false⟩
 | 135=>some ⟨.struct [(0,3),(1,3),(2,9)],3,32,[.int .i64 0,.int .i64 0,.string ByteArray.empty],true,true,false⟩
 | 151=>some ⟨.int .u64,1,8,[.int .u64 0],false,false,false⟩
 | 153=>some ⟨.map 3 3,1,8,[.map none],false,false,false⟩
 | 161=>some ⟨.map 106 59,1,8,[.map none],false,false,false⟩
 | 170=>some ⟨.slice 41,1,24,[.slice none 0 0],false,false,false⟩
 | 171=>some ⟨.struct [(0,36),(1,170)],2,48,[.slice none 0 0,.slice none 0 0],true,true,false⟩
 | 172=>some ⟨.struct [(0,36),(1,170)],2,48,[.slice none 0 0,.slice none 0 0],true,true,false⟩
 | 175=>some ⟨.slice 176,1,24,[.slice none 0 0],false,false,false⟩
 | 176=>some ⟨.array 2 3,2,16,[.int .i64 0,.int .i64 0],true,true,false⟩
 | 183=>some ⟨.slice 106,1,24,[.slice none 0 0],false,false,false⟩
 | 198=>some ⟨.int .i64,1,8,[.int .i64 0],false,false,false⟩
 | 206=>some ⟨.int .u32,1,4,[.int .u32 0],false,false,false⟩
 | 208=>some ⟨.int .u64,1,8,[.int .u64 0],false,false,false⟩
 | 214=>some ⟨.int .u64,1,8,[.int .u64 0],false,false,false⟩
 | 229=>some ⟨.array 0 16,0,0,[],true,true,false⟩
 | 230=>some ⟨.struct [(0,229)],0,0,[],true,false,false⟩
 | 231=>some ⟨.struct [(0,229)],0,0,[],true,false,false⟩
 | 232=>some ⟨.int .u8,1,1,[.int .u8 0],false,false,false⟩
 | 233=>some ⟨.int .u8,1,1,[.int .u8 0],false,false,false⟩
 | 236=>some ⟨.int .i32,1,4,[.int .i32 0],false,false,false⟩
 | 237=>some ⟨.int .i32,1,4,[.int .i32 0],false,false,false⟩
 | _=>none
noncomputable def E:Env:=⟨Tryz.prog,ti⟩
theorem ti_ok (t:TypeId) (i:TInfo) (h:ti t=some i):InfoOk Tryz.prog t i:=by
 unfold ti at h
 split at h
 all_goals first | (cases h;exact InfoOk.of ⟨by kernel_rfl,by kernel_rfl,by kernel_rfl,by kernel_rfl⟩) | cases h
theorem hE:E.ok:=ti_ok
theorem hm:E.P.follows .mixedOrders=true:=by kernel_rfl
end Go.Proofs.Try
