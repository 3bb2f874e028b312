/-
 A part of the proof.
-/
import Derived.Test.YtfhoeghdioofmaaGreatKhh
set_option linter.unusedSimpArgs false
set_option linter.unusedVariables false
namespace Go.Proofs.Try
open Go.Proofs.Tryz
open Go.Al
set_option maxRecDepth 100000
def mc70:MC:=(.seq (.ops [pZ 7]) (.seq (.ops [pM 8 0,pL 9 3,(none,.v (.bin 10 .eql false (.t 8) (.t 9))),pM 11 10,gF 11 (oM 12 1),gF 11 (oL 13 3),(some (11,false),.v (.bin 14 .eql false (.t 12) (.t 13))),pO 15 11 14,pM 16 15,gF 16 (oM 17 2),gF 16 (oL 18 3),(some (16,false),.v (.bin 19 .eql false (.t 17) (.t 18))),pO 20 16 19,pM 7 20]) .ret))
theorem ok70:FnOk E 70 21 [.tmp 7] mc70:=ofk func70
open Classical
set_option maxHeartbeats 16000000
theorem c70 (a b c i:Nat):ACalls E.P 70 [.int .i64 a,.int .i64 b,.int .i64 c,.vp [.int .i64 i]] [] (fun r H=>r=.bool (decide (a=i\/b=i\/c=i))/\H=[]):=by
 refine ok70.acalls hE hm (by simp) fun N hN=>?_
 unfold mc70 pZ pM pL pO gF oM oL
 repeat' (first|(with_reducible first|(apply St.o;constructor)<;>intro _|refine ai ?_|(apply Sq.o;constructor))|((with_reducible refine keep0_i ?_);simp only [lP,seval])|simp (disch:=omega) only [lE,seval])
 all_goals try (exfalso;omega)
 all_goals refine congrArg AV.bool (Bool.eq_iff_iff.2 ?_)
 all_goals simp
 all_goals omega
def Spoil (h:List Acc) (s:Int) (p:Nat × Nat):Prop:=s<(at' h p.1).stamp/\(at' h p.2).stamp<=s
structure SafeS (h:List Acc) (s:Int):Prop where
 check:checkS h=0
 lo:0<=s
 hi:s<=1073741824
 old:∀ i,i<h.length->¬ ((at' h i).done=false/\(at' h i).mode≠2/\(at' h i).snap<s)
 anti:¬ ∃ p,p ∈ pairsTo (Anti h) h.length h.length/\Spoil h s p
def mc67:MC:=(.seq (.ops [pY 2]) (.seq (.seq (.ops [pM 3 0,(none,.v (.eq 4 false .slc (.t 3) (.c (.raw (.slice none 0 0)))))]) (.cond 4 (.seq (.ops [pY 2]) .ret) .skip)) (.seq (.ops [(none,.e (.mkl 5 43 6 0 (.agg z0) [])),pM 6 0,(none,.e (.app 7 43 6 80 (.t 5) (.t 6))),pM 2 7]) .ret)))
theorem ok67:FnOk E 67 8 [.tmp 2] mc67:=ofk func67
open Classical
def withS (h:List Acc) (n:Nat) (s:Int):List Acc:=h.set n { at' h n with done:=true,stamp:=s }
def doneS (h:List Acc) (n:Nat):List Acc:=h.set n { at' h n with done:=true }
theorem accs_get {h:List Acc} {n:Nat} (hn:n<h.length):(h.map accA)[n]?=some (.agg (accC (at' h n))):=by
 simp [hn,accA]
theorem accAt_set {h:List Acc} {n:Nat} {x:Acc} (hn:n<h.length):at' (h.set n x) n=x:=by
 simp [at',hn]
theorem accAt_set_ne {h:List Acc} {n m:Nat} {x:Acc} (hn:m≠n):at' (h.set n x) m=at' h m:=by
 simp [at',List.getElem?_set,Ne.symm hn]
theorem st_done {P:Program} {m:Nat} {N:FN} {h:List Acc} {id n:Nat} {x:AV} {E':TypeId} {fr:List (Nat × AV)} {H:List AObj} {q:Ke} (hn:n<h.length) :
 stE P m N (some (.arr E' 6 (h.map accA))) 1 [.bool true] x id 6 n 2 fr H q=rE P m N q fr (H.set id (.arr E' 6 ((doneS h n).map accA))):=by
 unfold stE doneS
 simp only [accs_get hn]
 simp [accC,accA,setAt,List.map_set]
theorem st_stamp {P:Program} {m:Nat} {N:FN} {h:List Acc} {id n:Nat} {x:AV} {v:Int} {E':TypeId} {fr:List (Nat × AV)} {H:List AObj} {q:Ke} (hn:n<h.length) :
 stE P m N (some (.arr E' 6 (h.map accA))) 1 [.int .i64 v] x id 6 n 3 fr H q=rE P m N q fr (H.set id (.arr E' 6 ((h.set n { at' h n with stamp:=v }).map accA))):=by
 unfold stE
 simp only [accs_get hn]
 simp [accC,accA,setAt,List.map_set]
theorem withS_eq {h:List Acc} {n:Nat} {s:Int} (hn:n<h.length):(doneS h n).set n { at' (doneS h n) n with stamp:=s }=withS h n s:=by
 unfold doneS
 rw [accAt_set hn,List.set_set];rfl
theorem doneS_len {h:List Acc} {n:Nat}:(doneS h n).length=h.length:=by simp [doneS]
theorem st_with {P:Program} {m:Nat} {N:FN} {h:List Acc} {id n:Nat} {x:AV} {v:Int} {E':TypeId} {fr:List (Nat × AV)} {H:List AObj} {q:Ke} (hn:n<h.length) :
 stE P m N (some (.arr E' 6 ((doneS h n).map accA))) 1 [.int .i64 v] x id 6 n 3 fr H q=rE P m N q fr (H.set id (.arr E' 6 ((withS h n v).map accA))):=by
 rw [st_stamp (by rw [doneS_len];exact hn),withS_eq hn]
theorem withS_len {h:List Acc} {n:Nat} {s:Int}:(withS h n s).length=h.length:=by simp [withS]
theorem c67 (h:List Acc) (hn:h≠[]) (hl:h.length<=100):ACalls E.P 67 [.view 6 (h.map accA)] [] (fun r H=>r=.slc 0 6 h.length/\H=[.arr 43 6 (h.map accA)]):=by
 have hmax:=maxLen_eq
 refine ok67.acalls hE hm (by simp) fun N hN=>?_
 unfold mc67 z0 pY pM
 obtain ⟨x,xs,rfl⟩:=List.exists_cons_of_ne_nil hn
 have hl':xs.length+1<=100:=by simpa using hl
 repeat' (first|(with_reducible first|(apply St.o;constructor)<;>intro _|refine ai ?_|(apply Sq.o;constructor))|simp (disch:=omega) only [lE,seval])
 refine keep_i [1] false (by simp) (by simp) rfl ?_
 simp only [lP,seval,accA_eq,paR_some]
 simp [pa_int,pa_bool,pa_view,pa_agg,accA_eq]
def lastTo (h:List Acc):Nat->Int
 | 0=>0
 | m+1=>max (max (lastTo h m) (at' h m).stamp) (at' h m).snap
def lastS (h:List Acc):Int:=lastTo h h.length
theorem max3 (a b c:Int):(if c > (if b > a then b else a) then c else (if b > a then b else a))=max (max a b) c:=by
 split <;> split <;> omega
open Classical
theorem lastTo_ge {h:List Acc}:∀ {m:Nat},0<=lastTo h m/\∀ k,k<m->(at' h k).stamp<=lastTo h m/\(at' h k).snap<=lastTo h m
 | 0=>⟨by simp [lastTo],fun k hk=>by omega⟩
 | m+1=>by
   obtain ⟨h1,h2⟩:=lastTo_ge (h:=h) (m:=m)
   simp only [lastTo]
   refine ⟨by omega,fun k hk=>?_⟩
   by_cases e:k=m
   . subst e;constructor <;> omega
   . obtain ⟨a,b⟩:=h2 k (by omega)
     constructor <;> omega
theorem lastS_ge {h:List Acc} {k:Nat} (hk:k<h.length):(at' h k).stamp<=lastS h/\(at' h k).snap<=lastS h:=lastTo_ge.2 k hk
theorem lastS_nn {h:List Acc}:0<=lastS h:=lastTo_ge.1
theorem check_zero {h:List Acc}:checkS h=0↔¬ Big h/\¬ Bad h/\¬ Clash h:=by
 unfold checkS
 by_cases h1:Big h <;> by_cases h2:Bad h <;> by_cases h3:Clash h <;> simp [h1,h2,h3]
theorem at_with {h:List Acc} {n:Nat} {s:Int} (hn:n<h.length):at' (withS h n s) n={ at' h n with done:=true,stamp:=s }:=accAt_set hn
theorem at_with_ne {h:List Acc} {n m:Nat} {s:Int} (hm:m≠n):at' (withS h n s) m=at' h m:=accAt_set_ne hm
def stampS (h:List Acc) (n:Nat):Int:=if 0<(at' h n).writes.length then lastS h+1 else 0
theorem check_with {h:List Acc} {n:Nat} (hc:checkS h=0) (hn:n<h.length) (hd:(at' h n).done=false) (hle:stampS h n<=1073741824)
 (hw:∀ k,k<h.length->(at' h k).done=true->Meet (at' h n).writes (at' h k).writes->(at' h k).stamp<=(at' h n).snap):checkS (withS h n (stampS h n))=0:=by
 rw [check_zero] at hc ⊢
 obtain ⟨c1,c2,cX3⟩:=hc
 have hform:∀ i,i<h.length->(at' h i).Formed:=fun i hi=>Classical.byContradiction fun hf=>c2 (.inl ⟨i,hi,hf⟩)
 have hlast:=fun k hk=>lastS_ge (h:=h) (k:=k) hk
 have hnn:=lastS_nn (h:=h)
 have hfn:=hform n hn
 refine ⟨?_,?_,?_⟩
 . rintro (hb | ⟨i,hi,hb⟩)
   . exact c1 (.inl (by rwa [withS_len] at hb))
   . rw [withS_len] at hi
     refine c1 (.inr ⟨i,hi,?_⟩)
     by_cases e:i=n
     . subst e;rw [at_with hn] at hb;exact hb
     . rwa [at_with_ne e] at hb
 . rintro (⟨i,hi,hb⟩ | ⟨i,j,hij,hj,hb1,hb2⟩)
   . rw [withS_len] at hi
     by_cases e:i=n
     . subst e
       rw [at_with hn] at hb
       apply hb
       obtain ⟨f1,f2,f3,f4,f5,f6,f7,f8,f9⟩:=hfn
       refine ⟨f1,f2,f3,f4,f5,f6,f7,?_,?_⟩
       . intro hwr
         have:0<(at' h i).writes.length:=by simpa [Acc.writer] using hwr
         have:=hlast i hn
         simp only [stampS,if_pos ‹0<(at' h i).writes.length›] at hle ⊢
         omega
       . intro hwr
         have:¬ 0<(at' h i).writes.length:=by simpa [Acc.writer] using hwr
         simp only [stampS,if_neg this]
     . rw [at_with_ne e] at hb
       exact hb (hform i hi)
   . rw [withS_len] at hj
     have key:∀ a,a<h.length->(at' h a).stamp=stampS h n->0<stampS h n->False:=fun a ha h1 h2=>by
      have:=hlast a ha
      simp only [stampS] at h1 h2
      split at h2
      . rename_i hp;simp only [if_pos hp] at h1;omega
      . omega
     by_cases ei:i=n
     . subst ei
       rw [at_with hn,at_with_ne (by omega)] at hb1
       rw [at_with_ne (by omega)] at hb2
       exact key j hj hb1.symm (by simp only at hb1;omega)
     . by_cases ej:j=n
       . subst ej
         rw [at_with hn,at_with_ne (by omega)] at hb1
         rw [at_with hn] at hb2
         exact key i (by omega) hb1 hb2
       . rw [at_with_ne ei,at_with_ne ej] at hb1
         rw [at_with_ne ej] at hb2
         exact c2 (.inr ⟨i,j,hij,hj,hb1,hb2⟩)
 . rintro ⟨i,j,hji,hi,hcl⟩
   rw [withS_len] at hi
   have hwd:∀ {x:Acc},x.writer=true->x.done=true:=fun {x} hx=>by simp only [Acc.writer,Bool.and_eq_true] at hx;exact hx.1
   by_cases ei:i=n
   . subst ei
     rw [at_with hn,at_with_ne (by omega)] at hcl
     obtain ⟨w1,w2,w3,w4,w5⟩:=hcl
     obtain ⟨x,hx1,hx2⟩:=w5
     have:=hw j (by omega) (hwd w2) ⟨x,by first | exact hx2 | exact hx1,by first | exact hx1 | exact hx2⟩
     simp only at w3
     omega
   . by_cases ej:j=n
     . subst ej
       rw [at_with_ne ei,at_with hn] at hcl
       obtain ⟨w1,w2,w3,w4,w5⟩:=hcl
       have:=hw i hi (hwd w1) w5
       simp only at w4
       omega
     . rw [at_with_ne ei,at_with_ne ej] at hcl
       exact cX3 ⟨i,j,hji,hi,hcl⟩
end Go.Proofs.Try
