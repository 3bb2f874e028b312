/-
 For right data and a query: the counts of the groups add up to the number of rows,grouping by all columns gives the distinct rows,an order has the same bag of rows and is sorted,and a limit is a prefix.
-/
import Derived.Test.YtchlampphcaomaaGreatDoorLaid
import Derived.Test.YtchlampphcaomaaGreatDoorReads
import Derived.Test.YtchlampphcaomaaGreatDoorLar
set_option linter.unusedSimpArgs false
set_option linter.unusedVariables false
namespace Go.Proofs.YtchlampphcaomaaGreatDoor
open Go.Al Go.Proofs.Try
open Go.ChangeShapes Go.WideShapes Go.ChangeAt Go.RowKit
set_option maxRecDepth 100000
theorem reads8 (os:Os) {H:Type} (enc:TypeId × Value→H):∃ places,DataW.whole enc Tryz.prog ((World.doorLaid Tryz.prog 29 os).forCall (fun _ _=>0) ⟨#[],#[.slice none 0 0,.agg #[.int .i64 0,.string ByteArray.empty,.slice none 0 0,.int .i64 0,.int .i64 0,.int .i64 0,.int .i64 0,.string ByteArray.empty,.slice none 0 0,.slice none 0 0,.slice none 0 0,.slice none 0 0,.slice none 0 0,.int .i64 0],.slice none 0 0,.int .i64 0,.bool false],[]⟩).memory Tryz.f8.params.toList Rows.queryGroupsPartitionSpec.vars false
 #[Value.slice none 0 0,.agg #[.int .i64 0,.string ByteArray.empty,.slice none 0 0,.int .i64 0,.int .i64 0,.int .i64 0,.int .i64 0,.string ByteArray.empty,.slice none 0 0,.slice none 0 0,.slice none 0 0,.slice none 0 0,.slice none 0 0,.int .i64 0],.slice none 0 0,.int .i64 0,.bool false].toList 8=some ([.nil,.agg [.lit (.int .i64 0),.lit (.string []),.nil,.agg [.lit (.int .i64 0),.lit (.int .i64 0),.agg [.lit (.int .i64 0),.lit (.int .i64 0),.lit (.string [])],.nil],.nil,.nil,.nil,.nil,.lit (.int .i64 0)],.nil,.lit (.int .i64 0),.lit (.bool false)],[],places) :=
 ⟨[],by kernel_rfl⟩
theorem contract8 (H:Type) (enc:TypeId × Value→H) (W:World) (base:Nat) (args:Array Value) (ds gs:List (DataW H)) (before:List MemPlace)
 (hval:∀ (j:Nat) t v,Tryz.f8.params[j]?=some t→args[j]?=some v→Value.okWide Tryz.prog W .any base t v)
 (hW:DataW.Whole enc Tryz.prog Tryz.f8.params.toList Rows.queryGroupsPartitionSpec.vars false W args.toList ds gs before) (hL:laidMetH Tryz.prog laidL W) {vts:List TypeId} (hs:FitEach (Tryz.f8.params.toList++vts) (ds++gs)) :
 Calls Tryz.prog 8 args W fun e W'=>∃ v,e=.returned v∧Rows.queryGroupsPartitionSpec.post enc Tryz.prog Tryz.f8 false true false false W args v W' :=
 contract_ofM hE kids full (s:=Rows.queryGroupsPartitionSpec) (tb:=4) (by rw [Tryz.params8];decide +kernel) (by rw [Tryz.params8];exact readsM_cons rw22 (readsM_cons rw33 (readsM_cons rw29 (readsM_cons rv3.m (readsM_cons rv4.m (readsM_nil))))))
  rfl (by rw [Tryz.params8];rintro H (_ | ⟨d0,(_ | ⟨d1,(_ | ⟨d2,(_ | ⟨d3,(_ | ⟨d4,(_ | ⟨dz,ds⟩)⟩)⟩)⟩)⟩)⟩) hl <;> simp at hl;exact ⟨rfl,rfl,rfl⟩) (by kernel_rfl) (by kernel_rfl) H enc W base args ds gs before (glob_ok hL)
  (by rw [Tryz.params8] at hs;rintro _ ⟨d0,_,a,_,rfl,ha,⟨d1,_,b,_,rfl,hb,⟨d2,_,c,_,rfl,hc,⟨d3,_,d,_,rfl,hd,⟨d4,_,e,_,rfl,he,⟨rfl,rfl⟩,rfl⟩,rfl⟩,rfl⟩,rfl⟩,rfl⟩;obtain ⟨ga,hs⟩:=fitEach_cons hs;obtain ⟨gb,hs⟩:=fitEach_cons hs;obtain ⟨gc,hs⟩:=fitEach_cons hs;obtain ⟨gd,hs⟩:=fitEach_cons hs;obtain ⟨ge,hs⟩:=fitEach_cons hs;exact c8 a (ha ga) b (hb gb) c d e) hval hW
theorem lifted8 (os:Os) (started:os.Started) (H:Type) (enc:TypeId × Value→H) (F:Stop.Interp) :
 ReturnsInHanded {} Tryz.checked os 8 .any ((OpenSpec.ofChange Rows.queryGroupsPartitionSpec).preRow enc Tryz.prog Tryz.f8 Rows.queryGroupsPartitionRow.domain false Rows.queryGroupsPartitionRow.laid) (((OpenSpec.ofChange Rows.queryGroupsPartitionSpec).at F).post enc Tryz.prog Tryz.f8 false true false false):=by
 obtain ⟨places,hx⟩:=reads8 os enc
 refine returnsInHanded_of_row (C:=Tryz.checked) (s:=OpenSpec.ofChange Rows.queryGroupsPartitionSpec) own started (by kernel_rfl) Tryz.func8
  (witness_row_atRef (enc:=enc) (C:=Tryz.checked) false (World.doorLaid Tryz.prog 29 os) #[.slice none 0 0,.agg #[.int .i64 0,.string ByteArray.empty,.slice none 0 0,.int .i64 0,.int .i64 0,.int .i64 0,.int .i64 0,.string ByteArray.empty,.slice none 0 0,.slice none 0 0,.slice none 0 0,.slice none 0 0,.slice none 0 0,.int .i64 0],.slice none 0 0,.int .i64 0,.bool false] rfl (by kernel_rfl) (by kernel_rfl) (by kernel_rfl)
    (OpenSpec.preRow_of_cond 8 hx (by kernel_rfl) (fun k hk=>by cases hk) (by kernel_rfl) (door_met os _))) ?_
 intro W base args ds gs before hval hW _ _ hwt hL _ _
 exact contract8 H enc W base args ds gs before hval hW hL (fun x hx=>of_decide_eq_true (List.all_eq_true.1 hwt x hx))
theorem said8:Rows.QueryGroupsPartitionSaid :=
 OpenClaim.holds_of_cond 8 Tryz.f8 rfl rfl rfl rfl rfl rfl rfl ⟨rfl,rfl,rfl,rfl,rfl⟩ rfl rfl rfl rfl rfl (by kernel_rfl) Tryz.func8 (by kernel_rfl)
  (of_decide_eq_true (by kernel_rfl)) (by unfold Func.isWrapper;first | (rw [if_pos (by decide +kernel)];kernel_rfl) | (rw [if_neg (by decide +kernel)];exact ⟨rfl,rfl⟩))
  (fun os started H enc _ F=>by rw [OpenClaim.pre_eq_preRow];exact lifted8 os started H enc F)
theorem plain8 (f : FuncId) (fn : Func) (hf : Tryz.pinned.checked.prog.funcNamed "alum/alumlaw37.QueryGroupsPartition" = some f) (hfn : Tryz.pinned.checked.prog.funcs[f]? = some fn) :
 false=Tryz.pinned.checked.prog.looks []∧∀ (j:Nat) t,fn.params[j]?=some t→Tryz.pinned.checked.prog.wantsStandIn t=false:=by
 obtain rfl : f = 8 := Option.some.inj ((show Tryz.prog.funcNamed "alum/alumlaw37.QueryGroupsPartition" = some 8 by kernel_rfl).symm.trans hf) |>.symm
 obtain rfl:fn=Tryz.f8:=(Option.some.inj (Tryz.func8.symm.trans hfn)).symm
 refine ⟨by kernel_rfl,fun j t ht=>?_⟩
 rw [Tryz.params8] at ht
 have ht:=Array.mem_of_getElem? ht
 have ht:t=22∨t=33∨t=29∨t=3∨t=4:=by simpa using ht
 rcases ht with rfl | rfl | rfl | rfl | rfl
 · exact (show Tryz.prog.wantsStandIn 22=false by kernel_rfl)
 · exact (show Tryz.prog.wantsStandIn 33=false by kernel_rfl)
 · exact (show Tryz.prog.wantsStandIn 29=false by kernel_rfl)
 · exact (show Tryz.prog.wantsStandIn 3=false by kernel_rfl)
 · exact (show Tryz.prog.wantsStandIn 4=false by kernel_rfl)
theorem queryGroupsPartition_card:Rows.QueryGroupsPartitionCardSaid :=
 Claim7.holds_tied_plain_at .later [] _ _ _ _ said8 (fun _ h=>by cases h) (by kernel_rfl) (fun _ h=>by cases h) queryGroupsPartition_row_tie rfl ⟨rfl,rfl⟩ (by kernel_rfl) rfl plain8 (by kernel_rfl)
end Go.Proofs.YtchlampphcaomaaGreatDoor
