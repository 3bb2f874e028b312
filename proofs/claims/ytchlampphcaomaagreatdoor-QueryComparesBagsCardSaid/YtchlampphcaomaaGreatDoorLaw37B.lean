/-
 For any two lists of at most 40 right rows: SameBag returns what the specification returns,a list and its reverse are the same bag,and a list with one row more is another one.
-/
import Derived.Test.YtchlampphcaomaaGreatDoorLaid
import Derived.Test.YtchlampphcaomaaGreatDoorReads
import Derived.Test.YtchlampphcaomaaGreatDoorLaf
set_option linter.unusedSimpArgs false
set_option linter.unusedVariables false
namespace Go.Proofs.YtchlampphcaomaaGreatDoor
open Go.Al Go.Proofs.Try
open Go.ChangeShapes Go.WideShapes Go.ChangeAt Go.RowKit
set_option maxRecDepth 100000
theorem reads6 (os:Os) {H:Type} (enc:TypeId × Value→H):∃ places,DataW.whole enc Tryz.prog ((World.doorLaid Tryz.prog 29 os).forCall (fun _ _=>0) ⟨#[],#[.slice none 0 0,.slice none 0 0],[]⟩).memory Tryz.f6.params.toList Rows.queryComparesBagsSpec.vars false
 #[Value.slice none 0 0,.slice none 0 0].toList 8=some ([.nil,.nil],[],places) :=
 ⟨[],by kernel_rfl⟩
theorem contract6 (H:Type) (enc:TypeId × Value→H) (W:World) (base:Nat) (args:Array Value) (ds gs:List (DataW H)) (before:List MemPlace)
 (hval:∀ (j:Nat) t v,Tryz.f6.params[j]?=some t→args[j]?=some v→Value.okWide Tryz.prog W .any base t v)
 (hW:DataW.Whole enc Tryz.prog Tryz.f6.params.toList Rows.queryComparesBagsSpec.vars false W args.toList ds gs before) (hL:laidMetH Tryz.prog laidL W) {vts:List TypeId} (hs:FitEach (Tryz.f6.params.toList++vts) (ds++gs)) :
 Calls Tryz.prog 6 args W fun e W'=>∃ v,e=.returned v∧Rows.queryComparesBagsSpec.post enc Tryz.prog Tryz.f6 false true false false W args v W' :=
 contract_ofM hE kids full (s:=Rows.queryComparesBagsSpec) (tb:=4) (by rw [Tryz.params6];decide +kernel) (by rw [Tryz.params6];exact readsM_cons rw57 (readsM_cons rw57 (readsM_nil)))
  rfl (by rw [Tryz.params6];rintro H (_ | ⟨d0,(_ | ⟨d1,(_ | ⟨dz,ds⟩)⟩)⟩) hl <;> simp at hl;exact ⟨rfl,rfl,rfl⟩) (by kernel_rfl) (by kernel_rfl) H enc W base args ds gs before (glob_ok hL)
  (by rw [Tryz.params6] at hs;rintro _ ⟨d0,_,a,_,rfl,ha,⟨d1,_,b,_,rfl,hb,⟨rfl,rfl⟩,rfl⟩,rfl⟩;obtain ⟨ga,hs⟩:=fitEach_cons hs;obtain ⟨gb,hs⟩:=fitEach_cons hs;exact c6 a b) hval hW
theorem lifted6 (os:Os) (started:os.Started) (H:Type) (enc:TypeId × Value→H) (F:Stop.Interp) :
 ReturnsInHanded {} Tryz.checked os 6 .any ((OpenSpec.ofChange Rows.queryComparesBagsSpec).preRow enc Tryz.prog Tryz.f6 Rows.queryComparesBagsRow.domain false Rows.queryComparesBagsRow.laid) (((OpenSpec.ofChange Rows.queryComparesBagsSpec).at F).post enc Tryz.prog Tryz.f6 false true false false):=by
 obtain ⟨places,hx⟩:=reads6 os enc
 refine returnsInHanded_of_row (C:=Tryz.checked) (s:=OpenSpec.ofChange Rows.queryComparesBagsSpec) own started (by kernel_rfl) Tryz.func6
  (witness_row_atRef (enc:=enc) (C:=Tryz.checked) false (World.doorLaid Tryz.prog 29 os) #[.slice none 0 0,.slice none 0 0] rfl (by kernel_rfl) (by kernel_rfl) (by kernel_rfl)
    (OpenSpec.preRow_of_cond 8 hx (by kernel_rfl) (fun k hk=>by cases hk) (by kernel_rfl) (door_met os _))) ?_
 intro W base args ds gs before hval hW _ _ hwt hL _ _
 exact contract6 H enc W base args ds gs before hval hW hL (fun x hx=>of_decide_eq_true (List.all_eq_true.1 hwt x hx))
theorem said6:Rows.QueryComparesBagsSaid :=
 OpenClaim.holds_of_cond 6 Tryz.f6 rfl rfl rfl rfl rfl rfl rfl ⟨rfl,rfl,rfl,rfl,rfl⟩ rfl rfl rfl rfl rfl (by kernel_rfl) Tryz.func6 (by kernel_rfl)
  (of_decide_eq_true (by kernel_rfl)) (by unfold Func.isWrapper;first | (rw [if_pos (by decide +kernel)];kernel_rfl) | (rw [if_neg (by decide +kernel)];exact ⟨rfl,rfl⟩))
  (fun os started H enc _ F=>by rw [OpenClaim.pre_eq_preRow];exact lifted6 os started H enc F)
theorem plain6 (f : FuncId) (fn : Func) (hf : Tryz.pinned.checked.prog.funcNamed "alum/alumlaw37.QueryComparesBags" = some f) (hfn : Tryz.pinned.checked.prog.funcs[f]? = some fn) :
 false=Tryz.pinned.checked.prog.looks []∧∀ (j:Nat) t,fn.params[j]?=some t→Tryz.pinned.checked.prog.wantsStandIn t=false:=by
 obtain rfl : f = 6 := Option.some.inj ((show Tryz.prog.funcNamed "alum/alumlaw37.QueryComparesBags" = some 6 by kernel_rfl).symm.trans hf) |>.symm
 obtain rfl:fn=Tryz.f6:=(Option.some.inj (Tryz.func6.symm.trans hfn)).symm
 refine ⟨by kernel_rfl,fun j t ht=>?_⟩
 rw [Tryz.params6] at ht
 have ht:=Array.mem_of_getElem? ht
 have ht:t=57:=by simpa using ht
 rcases ht with rfl
 · exact (show Tryz.prog.wantsStandIn 57=false by kernel_rfl)
theorem queryComparesBags_card:Rows.QueryComparesBagsCardSaid :=
 Claim7.holds_tied_plain_at .later [] _ _ _ _ said6 (fun _ h=>by cases h) (by kernel_rfl) (fun _ h=>by cases h) queryComparesBags_row_tie rfl ⟨rfl,rfl⟩ (by kernel_rfl) rfl plain6 (by kernel_rfl)
end Go.Proofs.YtchlampphcaomaaGreatDoor
