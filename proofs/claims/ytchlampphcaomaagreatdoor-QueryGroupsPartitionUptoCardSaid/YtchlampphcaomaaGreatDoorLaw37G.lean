/-
 The law QueryGroupsPartition of layer 37,for arguments that hold together at most 1048576 values and letters.
-/
import Derived.Test.YtchlampphcaomaaGreatDoorLaid
import Derived.Test.YtchlampphcaomaaGreatDoorReads
import Derived.Test.YtchlampphcaomaaGreatDoorLar
set_option linter.unusedSimpArgs false
set_option linter.unusedVariables false
namespace Go.Proofs.YtchlampphcaomaaGreatDoor
open Go.Al Go.Proofs.Try
open Go.ChangeShapes Go.WideShapes Go.ChangeAt Go.RowKit
set_option maxRecDepth 100000
theorem reads8 (os:Os) {H:Type} (enc:TypeId × Value→H):∃ places,DataW.whole enc Tryz.prog ((World.doorLaid Tryz.prog 29 os).forCall (fun _ _=>0) ⟨#[],#[.slice none 0 0,.agg #[.int .i64 0,.string ByteArray.empty,.slice none 0 0,.int .i64 0,.int .i64 0,.int .i64 0,.int .i64 0,.string ByteArray.empty,.slice none 0 0,.slice none 0 0,.slice none 0 0,.slice none 0 0,.slice none 0 0,.int .i64 0],.slice none 0 0,.int .i64 0,.bool false],[]⟩).memory Tryz.f8.params.toList Rows.queryGroupsPartitionSpec.vars false
 #[Value.slice none 0 0,.agg #[.int .i64 0,.string ByteArray.empty,.slice none 0 0,.int .i64 0,.int .i64 0,.int .i64 0,.int .i64 0,.string ByteArray.empty,.slice none 0 0,.slice none 0 0,.slice none 0 0,.slice none 0 0,.slice none 0 0,.int .i64 0],.slice none 0 0,.int .i64 0,.bool false].toList 8=some ([.nil,.agg [.lit (.int .i64 0),.lit (.string []),.nil,.agg [.lit (.int .i64 0),.lit (.int .i64 0),.agg [.lit (.int .i64 0),.lit (.int .i64 0),.lit (.string [])],.nil],.nil,.nil,.nil,.nil,.lit (.int .i64 0)],.nil,.lit (.int .i64 0),.lit (.bool false)],[],places) :=
 ⟨[],by kernel_rfl⟩
theorem contract8 (H:Type) (enc:TypeId × Value→H) (W:World) (base:Nat) (args:Array Value) (ds gs:List (DataW H)) (before:List MemPlace)
 (hval:∀ (j:Nat) t v,Tryz.f8.params[j]?=some t→args[j]?=some v→Value.okWide Tryz.prog W .any base t v)
 (hW:DataW.Whole enc Tryz.prog Tryz.f8.params.toList Rows.queryGroupsPartitionSpec.vars false W args.toList ds gs before) (hL:laidMetH Tryz.prog laidL W) (hk:Rows.uptoSmall H (ds++gs)=true) :
 Calls Tryz.prog 8 args W fun e W'=>∃ v,e=.returned v∧Rows.queryGroupsPartitionSpec.post enc Tryz.prog Tryz.f8 false true false false W args v W' :=
 contract_ofM hE kids full (s:=Rows.queryGroupsPartitionSpec) (tb:=4) (by rw [Tryz.params8];decide +kernel) (by rw [Tryz.params8];exact readsM_cons rm22 (readsM_cons rm33 (readsM_cons rm29 (readsM_cons rv3.m (readsM_cons rv4.m (readsM_nil))))))
  rfl (by rw [Tryz.params8];rintro H (_ | ⟨d0,(_ | ⟨d1,(_ | ⟨d2,(_ | ⟨d3,(_ | ⟨d4,(_ | ⟨dz,ds⟩)⟩)⟩)⟩)⟩)⟩) hl <;> simp at hl;exact ⟨rfl,rfl,rfl⟩) (by kernel_rfl) (by kernel_rfl) H enc W base args ds gs before (glob_ok hL)
  (by have hs:=small_le hk;rintro _ ⟨d0,_,a,_,rfl,ha,⟨d1,_,b,_,rfl,hb,⟨d2,_,c,_,rfl,hc,⟨d3,_,d,_,rfl,hd,⟨d4,_,e,_,rfl,he,⟨rfl,rfl⟩,rfl⟩,rfl⟩,rfl⟩,rfl⟩,rfl⟩;exact c8 a (fun x hx=>by have h1:=(ha.2 x hx).1;have h2:=hs d0 (by simp);omega) b (hb.1 (hs d1 (by simp))) (by have h1:=hb.2;have h2:=hs d1 (by simp);omega) c d e) hval hW
theorem lifted8 (os:Os) (started:os.Started) (H:Type) (enc:TypeId × Value→H) (F:Stop.Interp) :
 ReturnsInHanded {} Tryz.checked os 8 .any ((Rows.OpenSpec.upto Rows.queryGroupsPartitionSpec).preRow enc Tryz.prog Tryz.f8 Rows.queryGroupsPartitionUptoRow.domain false Rows.queryGroupsPartitionUptoRow.laid) (((Rows.OpenSpec.upto Rows.queryGroupsPartitionSpec).at F).post enc Tryz.prog Tryz.f8 false true false false):=by
 obtain ⟨places,hx⟩:=reads8 os enc
 refine returnsInHanded_of_row (C:=Tryz.checked) (s:=Rows.OpenSpec.upto Rows.queryGroupsPartitionSpec) own started (by kernel_rfl) Tryz.func8
  (witness_row_atRef (enc:=enc) (C:=Tryz.checked) false (World.doorLaid Tryz.prog 29 os) #[.slice none 0 0,.agg #[.int .i64 0,.string ByteArray.empty,.slice none 0 0,.int .i64 0,.int .i64 0,.int .i64 0,.int .i64 0,.string ByteArray.empty,.slice none 0 0,.slice none 0 0,.slice none 0 0,.slice none 0 0,.slice none 0 0,.int .i64 0],.slice none 0 0,.int .i64 0,.bool false] rfl (by kernel_rfl) (by kernel_rfl) (by kernel_rfl)
    (OpenSpec.preRow_of_cond 8 hx (by kernel_rfl) (fun k hk=>by cases hk;kernel_rfl) (by kernel_rfl) (door_met os _))) ?_
 intro W base args ds gs before hval hW _ hcond _ hL _ _
 exact contract8 H enc W base args ds gs before hval hW hL (hcond _ rfl)
theorem said8:Rows.QueryGroupsPartitionUptoSaid :=
 OpenClaim.holds_of_cond 8 Tryz.f8 rfl rfl rfl rfl rfl rfl rfl ⟨rfl,rfl,rfl,rfl,rfl⟩ rfl rfl rfl rfl rfl (by kernel_rfl) Tryz.func8 (by kernel_rfl)
  (of_decide_eq_true (by kernel_rfl)) (by unfold Func.isWrapper;first | (rw [if_pos (by decide +kernel)];kernel_rfl) | (rw [if_neg (by decide +kernel)];exact ⟨rfl,rfl⟩))
  (fun os started H enc _ F=>by rw [OpenClaim.pre_eq_preRow];exact lifted8 os started H enc F)
theorem plain8 (f : FuncId) (fn : Func) (hf : Tryz.pinned.checked.prog.funcNamed "alum/alumlaw37.QueryGroupsPartition" = some f) (hfn : Tryz.pinned.checked.prog.funcs[f]? = some fn) :
 false=Tryz.pinned.checked.prog.looks []∧∀ (j:Nat) t,fn.params[j]?=some t→Tryz.pinned.checked.prog.wantsStandIn t=false:=by
 obtain rfl : f = 8 := Option.some.inj ((show Tryz.prog.funcNamed "alum/alumlaw37.QueryGroupsPartition" = some 8 by kernel_rfl).symm.trans hf) |>.symm
 obtain rfl:fn=Tryz.f8:=(Option.some.inj (Tryz.func8.symm.trans hfn)).symm
 refine ⟨by kernel_rfl,fun j t ht=>?_⟩
 rw [Tryz.params8] at ht
 have ht:=Array.mem_of_getElem? ht
 have ht:t=22∨t=33∨t=29∨t=3∨t=4:=by simpa using ht
 rcases ht with rfl | rfl | rfl | rfl | rfl
 · exact (show Tryz.prog.wantsStandIn 22=false by kernel_rfl)
 · exact (show Tryz.prog.wantsStandIn 33=false by kernel_rfl)
 · exact (show Tryz.prog.wantsStandIn 29=false by kernel_rfl)
 · exact (show Tryz.prog.wantsStandIn 3=false by kernel_rfl)
 · exact (show Tryz.prog.wantsStandIn 4=false by kernel_rfl)
theorem queryGroupsPartitionUpto_card:Rows.QueryGroupsPartitionUptoCardSaid :=
 Claim7.holds_tied_plain_at .later [] _ _ _ _ said8 (fun _ h=>by cases h) (by kernel_rfl) (fun _ h=>by cases h) queryGroupsPartitionUpto_row_tie rfl ⟨rfl,rfl⟩ (by kernel_rfl) rfl plain8 (by kernel_rfl)
end Go.Proofs.YtchlampphcaomaaGreatDoor
