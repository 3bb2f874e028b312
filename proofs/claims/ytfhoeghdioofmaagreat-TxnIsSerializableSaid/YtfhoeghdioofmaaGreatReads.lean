/-
 A part of the proof.
-/
import Derived.Test.YtfhoeghdioofmaaGreatEkk
set_option linter.unusedSimpArgs false
set_option linter.unusedVariables false
namespace Go.Proofs.Try
open Go.Proofs.Tryz
open Go.Al
open Go.ChangeShapes Go.WideShapes Go.ChangeAt Go.RowKit
theorem rd3:Rd E 3 (fun n:Int=>(Lit.int .i64 n).wf=true) (fun n=>[.int .i64 n]):=rd_int hE (i:=⟨.int .i64,1,8,[.int .i64 0],false,false,false⟩) rfl rfl rfl
theorem rd5:Rd E 5 (fun n:Int=>(Lit.int .u8 n).wf=true) (fun n=>[.int .u8 n]):=rd_int hE (i:=⟨.int .u8,1,1,[.int .u8 0],false,false,false⟩) rfl rfl rfl
theorem rd4:Rd E 4 (fun _:Bool=>True) (fun b=>[.bool b]):=rd_bool hE (i:=⟨.bool,1,1,[.bool false],false,false,false⟩) rfl rfl rfl
theorem rd9:Rd E 9 (fun s:ByteArray=>s.size<=maxLen) (fun s=>[.str s]):=rd_string hE (i:=⟨.string,1,16,[.string ByteArray.empty],false,false,false⟩) rfl rfl rfl
theorem rv5:RdV E 5 (fun n:Int=>(Lit.int .u8 n).wf=true) (AV.int .u8):=.int hE (k:=.u8) (by kernel_rfl) rd5 (fun _=>rfl)
theorem rd135:Rd E 135 (fun _:VL=>True) VL.cs :=
 (rd_struct hE (i:=⟨.struct [(0,3),(1,3),(2,9)],3,32,[.int .i64 0,.int .i64 0,.string ByteArray.empty],true,true,false⟩) rfl rfl
   (rdF_cons hE (o1:=1) rfl rfl rd3 (rdF_cons hE (o1:=2) rfl rfl rd3 (rdF_cons hE (o1:=3) rfl rfl rd9 rdF_nil)))).map
   (fun p=>(⟨p.1,p.2.1,p.2.2.1⟩:VL)) (fun _=>rfl) (fun _ _=>trivial)
theorem kids:Kids E.P (· < E.P.types.size):=kids_rows (by kernel_rfl) (by kernel_rfl)
theorem full:∀ t e,t<E.P.types.size->E.P.underlying t=some (.slice e)->0<E.P.cellsOf e:=slices_full_of E.P (by kernel_rfl)
theorem own:ownKnob Tryz.prog.godebug=none:=by kernel_rfl
theorem glob_ok (γ:Gm):GlobOk γ:=fun g x hx=>by simp [glob] at hx
end Go.Proofs.Try
