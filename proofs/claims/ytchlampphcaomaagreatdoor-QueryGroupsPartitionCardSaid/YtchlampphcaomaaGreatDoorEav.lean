/-
 A part of the proof: see the text of the law.
-/
import Derived.Test.YtchlampphcaomaaGreatDoorPae
import Derived.Test.YtchlampphcaomaaGreatDoorAlphaS
import Derived.Test.YtchlampphcaomaaGreatDoorSau
set_option linter.unusedSimpArgs false
set_option linter.unusedVariables false
namespace Go.Proofs.Try
open Go.Proofs.Tryz
open Go.Al
set_option maxRecDepth 20000
set_option maxHeartbeats 8000000
theorem swoL:Go.Sort.SWO (ltOf lexC) where
 irrefl x:=by
  have:=lexC_cmp.self x
  simp [ltOf,this]
 trans x y z h1 h2:=by
  simp only [ltOf,decide_eq_true_eq] at *
  exact lexC_cmp.lt_trans h1 (by omega)
 ntrans x y z h1 h2:=by
  simp only [ltOf,decide_eq_false_iff_not] at *
  have a1:=lexC_cmp.anti x y
  have a2:=lexC_cmp.anti y z
  have a3:=lexC_cmp.anti x z
  have:=lexC_cmp.trans z y x (by omega) (by omega)
  omega
theorem bodied92:Bodied E.P 92:=⟨_,Tryz.func92,by kernel_rfl,by kernel_rfl⟩
def sortL (l:List (List VL)):List (List VL):=l.mergeSort fun x y=>decide (lexC x y≤0)
theorem sortL_perm (l:List (List VL)):(sortL l).Perm l:=List.mergeSort_perm l _
theorem sortL_pair (l:List (List VL)):(sortL l).Pairwise fun x y=>lexC x y≤0:=by
 have:=List.pairwise_mergeSort (le:=fun x y=>decide (lexC x y≤0)) (fun a b c h1 h2=>by simp only [decide_eq_true_eq] at *;exact lexC_trans _ _ _ h1 h2) (fun a b=>by have:=lexC_anti a b;simp only [Bool.or_eq_true,decide_eq_true_eq];omega) l
 exact this.imp fun h=>by simpa using h
theorem sorted_eq {l m:List (List VL)} (hp:m.Perm l) (hm:m.Pairwise fun x y=>lexC x y≤0):m=sortL l:=by
 refine (hp.trans (sortL_perm l).symm).eq_of_pairwise (le:=fun x y=>lexC x y≤0) (fun a b _ _ h1 h2=>lexC_eq _ _ ?_) hm (sortL_pair l)
 have:=lexC_anti a b
 omega
theorem c92 (l:List (List VL)) (h:l.length<4611686018427387904):ACalls E.P 92 [.slc 0 1 l.length,.fn (.func 62) [] []] [.arr 69 1 (l.map rowV)] (fun r H=>r=.tup []∧H=[.arr 69 1 ((sortL l).map rowV)]):=by
 refine (bridge_sort1 bodied92 swoL (fun a _ b _=>c62 a b) (fun a _=>by simp [sc,scL,rowV]) (fun a _ γ σ u hu=>?_) h (fun p cap fv w=>AnyF.slices_SortFunc_none { Tryz.sortV with } p cap fv w) ?_).mono ?_
 · obtain ⟨b,n,c,us,rfl,_⟩:=hu
   rfl
 · intro α _ enc h1 cf' hO blk cap d w hc hH hb hs
   exact Any.slices_SortFunc Tryz.sortV enc h1 cf' hO 62 #[] blk 0 cap d w (enters_of Tryz.func62 (by kernel_rfl) rfl) hc hH hb hs
 · rintro r H ⟨rfl,l',h1,h2,rfl⟩
   have:l'=sortL l:=sorted_eq h1 (h2.imp fun {a b} hab=>by
    simp only [ltOf,decide_eq_false_iff_not] at hab
    have:=lexC_anti a b
    omega)
   exact ⟨rfl,by rw [this]⟩
end Go.Proofs.Try
