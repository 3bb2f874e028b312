/-
 A part of the proof.
-/
import Derived.Test.YtfhoeghdioofmaaGreatKff
set_option linter.unusedSimpArgs false
set_option linter.unusedVariables false
namespace Go.Al
end Go.Al
namespace Go.Proofs.Try
open Go.Al
set_option maxRecDepth 100000
open Classical
set_option maxHeartbeats 16000000
theorem IdxR_nats {P:Program} {m:Nat} {N:FN} {l:List Nat} {i d:Nat} {c:Kn} (hi:i<l.length):IdxR P m N ((natL l).map (AV.int .i64)) (i:Int) d c=rK P m N c d (.vp [.int .i64 (l.getD i 0:Nat)]):=by
 rw [IdxR_ints (by omega) (by simp [natL];omega),Int.toNat_natCast,natL_getD hi]
open Classical
open Classical
def Cand (h:List Acc) (x snap:Int) (i:Nat):Prop:=x ∈ (at' h i).writes/\(at' h i).writer=true/\(at' h i).stamp<=snap
noncomputable def srcTo (h:List Acc) (x snap:Int):Nat->Option Nat
 | 0=>none
 | m+1=>match srcTo h x snap m with
   | none=>if Cand h x snap m then some m else none
   | some b=>if Cand h x snap m/\(at' h b).stamp<(at' h m).stamp then some m else some b
noncomputable def srcV (h:List Acc) (x snap:Int):Option Nat:=srcTo h x snap h.length
theorem srcTo_lt {h:List Acc} {x snap:Int}:∀ {m b:Nat},srcTo h x snap m=some b->b<m/\Cand h x snap b
 | 0,b,e=>by cases e
 | m+1,b,e=>by
   simp only [srcTo] at e
   split at e
   . split at e
     . cases e;exact ⟨by omega,by assumption⟩
     . cases e
   . rename_i b' hb
     split at e
     . rename_i hc;cases e;exact ⟨by omega,hc.1⟩
     . cases e;have:=srcTo_lt hb;exact ⟨by omega,this.2⟩
noncomputable def lastAW (h:List Acc) (l:List Nat) (x:Int):Option Nat:=l.foldl (fun b i=>if x ∈ (at' h i).writes then some i else b) none
theorem lastAW_snoc {h:List Acc} {l:List Nat} {x:Int} {i:Nat}:lastAW h (l++[i]) x=if x ∈ (at' h i).writes then some i else lastAW h l x:=by
 simp [lastAW]
theorem lastW_none {h:List Acc} {x:Int}:∀ {l:List Nat},lastAW h l x=none↔∀ i ∈ l,x ∉ (at' h i).writes:=by
 intro l
 induction hl:l.length generalizing l with
 | zero=>rw [List.eq_nil_of_length_eq_zero hl];simp [lastAW]
 | succ n ih =>
   obtain ⟨l',i,rfl⟩:∃ l' i,l=l'++[i]:=⟨l.dropLast,l.getLast (by intro e;simp [e] at hl),(List.dropLast_concat_getLast _).symm⟩
   rw [lastAW_snoc]
   have ih:=ih (l:=l') (by simpa using hl)
   constructor
   . intro e
     split at e
     . cases e
     . rename_i hn
       intro j hj
       rcases List.mem_append.1 hj with hj | hj
       . exact ih.1 e j hj
       . simp at hj;subst hj;exact hn
   . intro e
     rw [if_neg (e i (by simp)),ih]
     exact fun j hj=>e j (by simp [hj])
theorem srcTo_none_of {h:List Acc} {x snap:Int} {m:Nat} (e:srcTo h x snap m=none) (c:¬ Cand h x snap m):srcTo h x snap (m+1)=none:=by simp only [srcTo,e,if_neg c]
theorem srcTo_some_of {h:List Acc} {x snap:Int} {m:Nat} (e:srcTo h x snap m=none) (c:Cand h x snap m):srcTo h x snap (m+1)=some m:=by simp only [srcTo,e,if_pos c]
theorem srcTo_keep_of {h:List Acc} {x snap:Int} {m b:Nat} (e:srcTo h x snap m=some b) (c:¬ (Cand h x snap m/\(at' h b).stamp<(at' h m).stamp)):srcTo h x snap (m+1)=some b:=by simp only [srcTo,e,if_neg c]
theorem srcTo_new_of {h:List Acc} {x snap:Int} {m b:Nat} (e:srcTo h x snap m=some b) (c:Cand h x snap m/\(at' h b).stamp<(at' h m).stamp):srcTo h x snap (m+1)=some m:=by simp only [srcTo,e,if_pos c]
open Go.Proofs.Tryz
def mc96:MC:=(.seq (.ops [pI 5 0]) (.seq (.ops [(none,.v (.mov 6 (.c (.int .i64 (-1))))),pI 7 0]) (.seq (.seq (.ops [pL 10 2,pG 11 10,pI 12 0]) (.block 0 (.loop (.seq (.ops [pB 13 12 11]) (.seq (.cond 13 .skip (.exit 0)) (.seq (.block 1 (.seq (.ops [pM 14 12,pQ 15 6 10 12,pR 16 6 15,(none,.e (.alloc 9 z0)),pM 8 14,pS 6 9 16]) (.seq (.ops [pR 17 6 9,pV 18 64 17,pM 19 18,gT 19 (oF 20 3 9),gT 19 (oL 21 20),gT 19 (oM 22 1),(some (19,true),.v (.bin 23 .leq false (.t 21) (.t 22))),pP 24 19 23,pM 25 24,gT 25 (oF 26 3 9),gT 25 (oL 27 26),gT 25 (oM 28 7),(some (25,true),.v (.bin 29 .gtr false (.t 27) (.t 28))),pP 30 25 29,pM 31 30,gT 31 (oF 32 5 9),gT 31 (oL 33 32),gT 31 (oM 34 0),gT 31 (oW 35 97 33 34),pP 36 31 35]) (.cond 36 (.any false (.pure0 none (oM 37 8) (.pure0 none (oF 38 3 9) (.pure0 none (oL 39 38) (.pure0 none (oM 6 37) (.pure0 none (oM 7 39) .done)))))) .skip)))) (.ops [pA 40 12 1,pM 12 40]))))))) (.seq (.ops [pM 41 6,pM 5 41]) .ret))))
theorem ok96:FnOk E 96 42 [.tmp 5] mc96:=ofk func96
def mc98:MC:=(.seq (.ops [pI 3 0]) (.seq (.seq (.ops [pL 7 1,pM 8 0,(none,.p (.look 9 true (.int .i64) (.int .i64 0) (.t 7) (.t 8))),pM 6 9,pX 10 0 6,pX 11 1 6,pM 4 10,pM 5 11]) (.seq (.ops [pM 12 5]) (.cond 12 (.seq (.ops [pM 13 4,pM 3 13]) .ret) .skip))) (.seq (.ops [(none,.v (.mov 3 (.c (.int .i64 (-1)))))]) .ret)))
theorem ok98:FnOk E 98 14 [.tmp 3] mc98:=ofk func98
open Classical
theorem check_formed {h:List Acc} (hc:checkS h=0):∀ i,i<h.length->(at' h i).Formed:=by
 intro i hi
 simp only [checkS] at hc
 split at hc
 . omega
 . split at hc
   . omega
   . rename_i hb
     exact Classical.byContradiction fun hn=>hb (.inl ⟨i,hi,hn⟩)
theorem formed_pos {x:Acc} (hf:x.Formed) (hw:x.writer=true):0<x.stamp:=by
 obtain ⟨_,_,h1,_,_,_,_,h2,_⟩:=hf
 have:=h2 hw
 omega
noncomputable def stV (h:List Acc):Option Nat->Int
 | none=>0
 | some b=>(at' h b).stamp
theorem c96 (h:List Acc) (hf:∀ i,i<h.length->(at' h i).Formed) (x snap:Int):ACalls E.P 96 [.int .i64 x,.int .i64 snap,.vp [.view 6 (h.map accA)]] [] (fun r H=>r=.int .i64 (nextV (srcV h x snap))/\H=[]):=by
 have hmax:=maxLen_eq
 refine ok96.acalls hE hm (by simp) fun N hN=>?_
 unfold mc96 z0 pI pL pG pB pM pQ pR pS pV pP pA gT oM oL oF oW
 repeat' (first|(with_reducible first|(apply St.o;constructor)<;>intro _|refine ai ?_|(apply Sq.o;constructor))|((with_reducible refine keep0_i ?_);simp only [lP,seval])|simp (disch:=omega) only [lE,seval])
 refine loop_i (fun i:Nat=>i<=h.length) (fun i=>⟨[(0,.int .i64 x),(1,.int .i64 snap),(2,.vp [.view 6 (h.map accA)]),(6,.int .i64 (nextV (srcTo h x snap i))),(7,.int .i64 (stV h (srcTo h x snap i))),(10,.view 6 (h.map accA)),(11,.int .i64 h.length),(12,.int .i64 i)],[]⟩) (fun i=>h.length - i) 0 (by omega) (ent [] false (by simp only [lP,seval,srcTo,nextV,stV]<;>(try simp)<;>(try omega)) (by simp only [lP,seval,srcTo,nextV,stV]<;>(try simp)<;>(try omega))) ?_
 intro i hi
 by_cases hin:i<h.length
 . have e1:∀ {m N d k},IdxR E.P m N (h.map accA) (i:Int) d k=rK E.P m N k d (.vp (accC (at' h i))):=IdxR_at hin
   have k1:=c97 (at' h i).writes x
   have k2:=c64 (at' h i)
   have hpos:=@formed_pos (at' h i) (hf i hin)
   simp only [accA_eq] at k2
   generalize hb:srcTo h x snap i=o
   repeat' (first|(with_reducible first|(apply St.o;constructor)<;>intro _|refine ai ?_|(apply Sq.o;constructor))|((with_reducible apply Sc.o true;constructor);simp only [lP,seval,e1,accC];(first|refine ⟨_,k1,?_⟩|refine ⟨_,k2,?_⟩);rintro _ _ ⟨rfl,rfl⟩;simp only [lA,lP,seval,e1,accC])|((with_reducible refine keep0_i ?_);simp only [lP,seval])|simp (disch:=omega) only [lE,seval,e1,accC])
   all_goals try (exfalso;omega)
   all_goals try (exfalso;omega)
   all_goals clear e1 k1 k2
   all_goals cases o with
    | none =>
      simp only [nextV,stV] at *
      first
      | (refine back_i (i+1) (by omega) (by omega) (ent [] false (by simp only [lP,seval];rw [srcTo_some_of hb ⟨by assumption,by simp_all,by omega⟩];simp only [nextV,stV];simp) (by simp only [lP,seval])))
      | (refine back_i (i+1) (by omega) (by omega) (ent [] false (by simp only [lP,seval];rw [srcTo_none_of hb (by intro hc;obtain ⟨h1,h2,h3⟩:=hc;have:=hpos h2;first | omega | simp_all)];simp only [nextV,stV];simp) (by simp only [lP,seval])))
    | some b =>
      simp only [nextV,stV] at *
      first
      | (refine back_i (i+1) (by omega) (by omega) (ent [] false (by simp only [lP,seval];rw [srcTo_new_of hb ⟨⟨by assumption,by simp_all,by omega⟩,by omega⟩];simp only [nextV,stV];simp) (by simp only [lP,seval])))
      | (refine back_i (i+1) (by omega) (by omega) (ent [] false (by simp only [lP,seval];rw [srcTo_keep_of hb (by intro hc;obtain ⟨⟨h1,h2,h3⟩,h4⟩:=hc;first | omega | simp_all)];simp only [nextV,stV];simp) (by simp only [lP,seval])))
 . have:i=h.length:=by omega
   subst this
   repeat' (first|(with_reducible first|(apply St.o;constructor)<;>intro _|refine ai ?_|(apply Sq.o;constructor))|((with_reducible refine keep0_i ?_);simp only [lP,seval])|simp (disch:=omega) only [lE,seval])
   all_goals try (exfalso;omega)
   all_goals try (exfalso;omega)
   all_goals simp [srcV]
def mapI (kl:List Int) (f:Int->Nat) (bs:List Nat) (c:Nat):AObj:=.map (kl.map (AV.int .i64)) ((natL (kl.map f)).map (AV.int .i64)) bs c
theorem mapI_eq (kl:List Int) (f:Int->Nat) (bs:List Nat) (c:Nat):mapI kl f bs c=.map (kl.map (AV.int .i64)) ((natL (kl.map f)).map (AV.int .i64)) bs c:=rfl
def WfI (kl:List Int) (bs:List Nat) (c:Nat):Prop:=kl.Nodup/\bs.length=kl.length/\(∀ b ∈ bs,b<c)/\bs.Nodup
def updI (f:Int->Nat) (x:Int) (v:Nat):Int->Nat:=fun k=>if k=x then v else f k
noncomputable def getI (kl:List Int) (f:Int->Nat) (x:Int):Option Nat:=if x ∈ kl then some (f x) else none
theorem find_i {kl:List Int} {x:Int} (hx:x ∈ kl):∃ j,j<kl.length/\kl.getD j 0=x/\findK (.int .i64) (.int .i64 x) (kl.map (AV.int .i64)) 0=some (some j):=by
 obtain ⟨j,h1,h2,h3⟩:=(findK_ints x kl 0).2 hx
 exact ⟨j,h1,h2,by simpa using h3⟩
theorem look_i {kl:List Int} {f:Int->Nat} {x:Int} (hx:x ∈ kl):Al.look (.int .i64) (.int .i64 0) (kl.map (AV.int .i64)) ((natL (kl.map f)).map (AV.int .i64)) (.int .i64 x)=some (.int .i64 (f x:Nat),true):=by
 obtain ⟨j,h1,h2,h3⟩:=find_i hx
 have:((natL (kl.map f)).map (AV.int .i64))[j]?=some (.int .i64 (f x:Nat)):=by
  rw [getD_get h1] at h2
  simp [natL,h1,h2]
 simp [Al.look,keyIs,keysOk,h3,this]
theorem look_in {kl:List Int} {f:Int->Nat} {x:Int} (hx:x ∉ kl):Al.look (.int .i64) (.int .i64 0) (kl.map (AV.int .i64)) ((natL (kl.map f)).map (AV.int .i64)) (.int .i64 x)=some (.int .i64 0,false):=by
 simp [Al.look,keyIs,keysOk,(findK_ints x kl 0).1 hx]
theorem puti_old {kl:List Int} {f:Int->Nat} {bs:List Nat} {c v:Nat} {x:Int} (hn:kl.Nodup) (hx:x ∈ kl):putK (.int .i64) (kl.map (AV.int .i64)) ((natL (kl.map f)).map (AV.int .i64)) bs c (.int .i64 x) (.int .i64 (v:Int))=some (mapI kl (updI f x v) bs c):=by
 obtain ⟨j,h1,h2,h3⟩:=find_i hx
 simp only [putK,keyIs,keysOk,Bool.and_self,beq_self_eq_true,if_true,h3,mapI,Option.some.injEq,AObj.map.injEq,true_and,and_true]
 apply List.ext_getElem
 . simp [natL]
 . intro k k1 k2
   rw [List.getElem_set]
   have hk:k<kl.length:=by simpa [natL] using k2
   rw [getD_get h1] at h2
   split
   . rename_i e;subst e
     simp [natL,updI,h2]
   . rename_i e
     have:kl[k]≠x:=by
      intro e2
      rw [<- h2] at e2
      exact e ((List.getElem_inj hn).1 e2).symm
     simp [natL,updI,this]
theorem puti_new {kl:List Int} {f:Int->Nat} {bs:List Nat} {c v:Nat} {x:Int} (hx:x ∉ kl):putK (.int .i64) (kl.map (AV.int .i64)) ((natL (kl.map f)).map (AV.int .i64)) bs c (.int .i64 x) (.int .i64 (v:Int))=some (mapI (kl++[x]) (updI f x v) (bs++[c]) (c+1)):=by
 simp only [putK,keyIs,keysOk,Bool.and_self,beq_self_eq_true,if_true,(findK_ints x kl 0).1 hx,mapI,Option.some.injEq,AObj.map.injEq,and_true]
 refine ⟨by simp,?_⟩
 have:kl.map (updI f x v)=kl.map f:=List.map_congr_left fun k hk=>by
  have:k≠x:=fun e=>hx (e ▸ hk)
  simp [updI,this]
 simp [natL,updI,this]
theorem puti {kl:List Int} {f:Int->Nat} {bs:List Nat} {c v:Nat} {x:Int} (hw:WfI kl bs c):∃ kl' bs' c',putK (.int .i64) (kl.map (AV.int .i64)) ((natL (kl.map f)).map (AV.int .i64)) bs c (.int .i64 x) (.int .i64 (v:Int))=some (mapI kl' (updI f x v) bs' c')/\WfI kl' bs' c'/\∀ k,k ∈ kl'↔(k ∈ kl\/k=x):=by
 by_cases hx:x ∈ kl
 . exact ⟨kl,bs,c,puti_old hw.1 hx,hw,fun k=>⟨.inl,fun h=>h.elim id fun e=>e ▸ hx⟩⟩
 . obtain ⟨h1,h2,h3,h4⟩:=hw
   refine ⟨kl++[x],bs++[c],c+1,puti_new hx,⟨?_,by simp [h2],?_,?_⟩,fun k=>by simp⟩
   . rw [List.nodup_append]
     exact ⟨h1,by simp,fun a ha b hb=>by simp at hb;subst hb;exact fun e=>hx (e ▸ ha)⟩
   . intro b hb
     rcases List.mem_append.1 hb with hb | hb
     . have:=h3 b hb;omega
     . simp at hb;omega
   . rw [List.nodup_append]
     exact ⟨h4,by simp,fun a ha b hb=>by simp at hb;subst hb;have:=h3 a ha;omega⟩
theorem c98 (kl:List Int) (f:Int->Nat) (x:Int):ACalls E.P 98 [.int .i64 x,.vp [.mview (kl.map (AV.int .i64)) ((natL (kl.map f)).map (AV.int .i64))]] [] (fun r H=>r=.int .i64 (nextV (getI kl f x))/\H=[]):=by
 refine ok98.acalls hE hm (by simp) fun N hN=>?_
 unfold mc98 pI pL pM pX
 by_cases hx:x ∈ kl
 . repeat' (first|(with_reducible first|(apply St.o;constructor)<;>intro _|refine ai ?_|(apply Sq.o;constructor))|((with_reducible refine keep0_i ?_);simp only [lP,seval])|simp (disch:=omega) only [lE,seval,look_i hx])
   all_goals simp [getI,hx,nextV]
 . repeat' (first|(with_reducible first|(apply St.o;constructor)<;>intro _|refine ai ?_|(apply Sq.o;constructor))|((with_reducible refine keep0_i ?_);simp only [lP,seval])|simp (disch:=omega) only [lE,seval,look_in hx])
   all_goals simp [getI,hx,nextV]
end Go.Proofs.Try
