/-
 A part of the proof.
-/
import Derived.Test.YtfhoeghdioofmaaGreatKaa
set_option linter.unusedSimpArgs false
set_option linter.unusedVariables false
namespace Go.Proofs.Try
open Go.Proofs.Tryz
open Go.Al
set_option maxRecDepth 100000
def mc15:MC:=(sO [pI 2 0] (.seq (sO [pM 13 0,pG 14 13,(none,.v (.bin 15 .gtr false (.t 14) (.c (.int .i64 100))))] (.cond 15 (sO [pI 2 2] .ret) .skip)) (.seq (sO [pM 16 0,pG 17 16,pI 18 0] (.block 0 (.loop (sO [pB 19 18 17] (.seq (.cond 19 .skip (.exit 0)) (.seq (.block 1 (sO [pQ 20 6 16 18,pR 21 6 20,(none,.e (.alloc 4 z0)),pS 6 4 21] (sO [pF 22 4 4,pL 23 22,pG 24 23,pF 25 5 4,pL 26 25,pG 27 26,(none,.v (.max 28 [.t 24,.t 27])),(none,.v (.bin 29 .gtr false (.t 28) (.c (.int .i64 64))))] (.cond 29 (sO [pI 2 2] .ret) .skip)))) (.ops [pA 30 18 1,pM 18 30]))))))) (sO [(none,.e (.mkmap 31)),pM 5 31] (.seq (sO [pM 32 0,pG 33 32,pI 34 0] (.block 2 (.loop (sO [pB 35 34 33] (.seq (.cond 35 .skip (.exit 2)) (.seq (.block 3 (sO [pQ 36 6 32 34,pR 37 6 36,(none,.e (.alloc 7 z0)),pS 6 7 37] (.seq (sO [pR 38 6 7,pV 39 62 38,pN 40 39,pM 41 40,gF 41 (oM 42 5),gF 41 (oF 43 3 7),gF 41 (oL 44 43),(some (41,false),.p (.look 45 false (.int .i64) (.bool false) (.t 42) (.t 44))),pO 46 41 45] (.cond 46 (sO [pI 2 1] .ret) .skip)) (sO [pF 47 3 7,pL 48 47,(none,.v (.bin 49 .gtr false (.t 48) (.c (.int .i64 0))))] (.cond 49 (.ops [pM 50 5,pF 51 3 7,pL 52 51,(none,.e (.mput (.int .i64) (.t 50) (.t 52) (.c (.bool true))))]) .skip))))) (.ops [pA 53 34 1,pM 34 53]))))))) (.seq (sO [pM 54 0,pG 55 54,pI 56 0] (.block 4 (.loop (sO [pB 57 56 55] (.seq (.cond 57 .skip (.exit 4)) (.seq (.block 5 (sO [pM 58 56,pQ 59 6 54 56,pR 60 6 59,(none,.e (.alloc 9 z0)),pM 8 58,pS 6 9 60] (sO [pF 61 5 9,pL 62 61,pV 63 63 62,pM 10 63] (sO [pM 64 0,pM 65 8,(none,.p (.pre 66 6 (.t 64) (some (.t 65)))),pG 67 66,pI 68 0] (.block 6 (.loop (sO [pB 69 68 67] (.seq (.cond 69 .skip (.exit 6)) (.seq (.block 7 (sO [pQ 70 6 66 68,pR 71 6 70,(none,.e (.alloc 12 z0)),pS 6 12 71] (sO [pR 72 6 9,pV 73 64 72,pM 74 73,gT 74 (oR 75 6 12),gT 74 (oV 76 64 75),pP 77 74 76,pM 78 77,gT 78 (oR 79 6 9),gT 78 (oR 80 6 12),gT 78 (oW 81 65 79 80),pP 82 78 81,pM 83 82,gT 83 (oM 84 10),gT 83 (oF 85 5 12),gT 83 (oL 86 85),gT 83 (oW 87 66 84 86),pP 88 83 87] (.cond 88 (sO [pI 2 3] .ret) .skip)))) (.ops [pA 89 68 1,pM 68 89])))))))))) (.ops [pA 90 56 1,pM 56 90]))))))) (sO [pI 2 0] .ret)))))))
theorem ok15:FnOk E 15 91 [.tmp 2] mc15:=ofk func15
open Classical
theorem IdxR_accs {P:Program} {m:Nat} {N:FN} {xs:List Acc} {n:Int} {d:Nat} {c:Kn} (h0:0<=n) (h1:n<xs.length):IdxR P m N (xs.map accA) n d c=rK P m N c d (.vp (accC (xs.getD n.toNat default))) :=
 IdxR_map (cs:=accC) (fun _=>rfl) h0 h1
abbrev at' (h:List Acc) (i:Nat):Acc:=h.getD i default
def Big (h:List Acc):Prop:=100<h.length\/∃ i,i<h.length/\(64<(at' h i).reads.length\/64<(at' h i).writes.length)
def Bad (h:List Acc):Prop:=(∃ i,i<h.length/\¬ (at' h i).Formed)\/∃ i j,i<j/\j<h.length/\(at' h i).stamp=(at' h j).stamp/\0<(at' h j).stamp
def Clash1 (x y:Acc):Prop:=x.writer=true/\y.writer=true/\x.snap<y.stamp/\y.snap<x.stamp/\Meet y.writes x.writes
def Clash (h:List Acc):Prop:=∃ i j,j<i/\i<h.length/\Clash1 (at' h i) (at' h j)
noncomputable def checkS (h:List Acc):Int:=if Big h then 2 else if Bad h then 1 else if Clash h then 3 else 0
theorem vw_accs {H:List AObj} {l:List Nat} {n:Nat} {xs:List Acc}:(xs.map accA).map (vw H l (n+1))=xs.map accA:=map_same (fun x=>by simp [accA_eq,vw_agg,vw_int,vw_bool,vw_view]) xs
theorem pa_accs {H:List AObj} {l:List Nat} {bor:Bool} {n:Nat} {xs:List Acc}:(xs.map accA).map (pa H l bor (n+1))=xs.map accA:=map_same (fun x=>by simp [accA_eq,pa_agg,pa_int,pa_bool,pa_view]) xs
set_option maxHeartbeats 16000000
theorem c15 (h:List Acc):ACalls E.P 15 [.view 6 (h.map accA)] [] (fun r H=>r=.int .i64 (checkS h)/\H=[]):=by
 have hmax:=maxLen_eq;refine zk ok15 fun N hN=>?_;unfold mc15 z0 pI pM pG pB pQ pR pS pF pL pA pV pN pO pP gF gT oM oL oR oF oV oW sO;repeat' (first|(with_reducible first|(apply zS;constructor)<;>intro _|refine ai ?_|(apply zQ;constructor))|((with_reducible refine keep0_i ?_);simp only [lP,seval])|simp (disch:=omega) only [lE,seval])
 . rename_i h1 h2;have:Big h:=.inl (by omega);simp [checkS,this]
 rename_i h1 h2;have hlen:¬ 100<h.length:=by omega
 refine loop_i (fun i:Nat=>i<=h.length/\∀ j,j<i->(at' h j).reads.length<=64/\(at' h j).writes.length<=64) (fun i=>⟨[(0,.view 6 (h.map accA)),(16,.view 6 (h.map accA)),(17,.int .i64 h.length),(18,.int .i64 i)],[]⟩) (fun i=>h.length - i) 0 ⟨by omega,by omega⟩ (ent [] false) ?_;rintro i ⟨hi,hj⟩;repeat' (first|(with_reducible first|(apply zS;constructor)<;>intro _|refine ai ?_|(apply zQ;constructor))|((with_reducible refine keep0_i ?_);simp only [lP,seval])|simp (disch:=omega) only [lE,seval,IdxR_accs,accC])
 . rename_i h3 h4 h5 h6;have:Big h:=.inr ⟨i,by omega,by split at h6 <;> simp only [at'] <;> omega⟩;simp [checkS,this]
 . rename_i h3 h4 h5 h6;refine back_i (i+1) ⟨by omega,fun j hj2=>?_⟩ (by omega) (ent [] false);by_cases hji:j<i
   . exact hj j hji
   . have:j=i:=(by omega);subst this;simp only [at'];split at h6 <;> omega
 rename_i h3
 have hbig:¬ Big h:=by
  rintro (hb | ⟨j,hj1,hj2⟩)
  . exact hlen hb
  . have:=hj j (by omega);omega
 refine loop_i (X:=Nat × List Int × List Nat × Nat) (fun x=>x.1<=h.length/\(∀ j,j<x.1->(at' h j).Formed)/\(∀ y,y ∈ x.2.1↔∃ j,j<x.1/\(at' h j).stamp=y/\0<y)/\∀ a b,a<b->b<x.1->¬ ((at' h a).stamp=(at' h b).stamp/\0<(at' h b).stamp))
  (fun x=>⟨[(0,.view 6 (h.map accA)),(5,.mp 0),(32,.view 6 (h.map accA)),(33,.int .i64 h.length),(34,.int .i64 x.1)],[.map (x.2.1.map (AV.int .i64)) (x.2.1.map fun _=>AV.bool true) x.2.2.1 x.2.2.2]⟩) (fun x=>h.length - x.1) (0,[],[],0) ⟨by simp,by simp,by simp,by simp⟩ (ent [0] false) ?_
 rintro ⟨i,ks,bs,c⟩ ⟨hi,hf,hks,hnd⟩;simp only at hi hf hks hnd;have h43:=c62 (at' h i);simp only [accA_eq,at'] at h43;repeat' (first|(with_reducible first|(apply zS;constructor)<;>intro _|refine ai ?_|(apply zQ;constructor))|((with_reducible apply zC;constructor);simp only [lP,seval,IdxR_accs,accC,look_set];refine ⟨_,h43,?_⟩;rintro _ _ ⟨rfl,rfl⟩;simp only [lA,lP,seval,IdxR_accs,accC,look_set])|((with_reducible refine keep0_i ?_);simp only [lP,seval])|simp (disch:=omega) only [lE,seval,IdxR_accs,accC,look_set])
 · -- a stamp twice
   rename_i h4 h5 h6;obtain ⟨j,hj1,hj2,hj3⟩:=(hks _).1 h6;have:Bad h:=.inr ⟨j,i,hj1,by omega,by simpa [at'] using hj2,by simpa [at'] using hj3⟩;simp [checkS,this,hbig]
 · -- a new stamp
   rename_i h4 h5 h6 h7;obtain ⟨ks',bs',c',h8,h9⟩:=putK_set ks (h.getD i default).stamp bs c;simp only [h8];repeat' (first|(with_reducible first|(apply zS;constructor)<;>intro _|refine ai ?_|(apply zQ;constructor))|((with_reducible refine keep0_i ?_);simp only [lP,seval])|simp (disch:=omega) only [lE,seval])
   refine back_i (i+1,ks',bs',c') ⟨by simp only;omega,fun j hj2=>?_,fun y=>?_,fun a b hab hb=>?_⟩ (by simp only;omega) (ent [0] false (by simp only [lP,seval]<;>(try simp) <;> omega) (by simp only [lP,seval,pa_trues]))
   . by_cases hji:j<i
     . exact hf j hji
     . have:j=i:=(by simp only at hj2;omega);subst this;exact h5
   . simp only [h9,hks];constructor
     . rintro (⟨j,hj1,hj2,hj3⟩ | h)
       . exact ⟨j,by omega,hj2,hj3⟩
       . exact ⟨i,by omega,h.symm,by omega⟩
     . rintro ⟨j,hj1,hj2,hj3⟩;by_cases hji:j<i
       . exact .inl ⟨j,hji,hj2,hj3⟩
       . have:j=i:=(by omega);subst this;exact .inr hj2.symm
   . by_cases hbi:b<i
     . exact hnd a b hab hbi
     . have:b=i:=(by simp only at hb;omega);subst this;rintro ⟨h10,h11⟩;exact h6 ((hks _).2 ⟨a,by omega,h10,h11⟩)
 · -- no stamp
   rename_i h4 h5 h6 h7;refine back_i (i+1,ks,bs,c) ⟨by simp only;omega,fun j hj2=>?_,fun y=>?_,fun a b hab hb=>?_⟩ (by simp only;omega) (ent [0] false (by simp only [lP,seval]<;>(try simp) <;> omega) (by simp only [lP,seval,pa_trues]))
   . by_cases hji:j<i
     . exact hf j hji
     . have:j=i:=(by simp only at hj2;omega);subst this;exact h5
   . simp only [hks];constructor
     . rintro ⟨j,hj1,hj2,hj3⟩;exact ⟨j,by omega,hj2,hj3⟩
     . rintro ⟨j,hj1,hj2,hj3⟩;by_cases hji:j<i
       . exact ⟨j,hji,hj2,hj3⟩
       . have:j=i:=(by omega);subst this;simp only [at'] at hj2;omega
   . by_cases hbi:b<i
     . exact hnd a b hab hbi
     . have:b=i:=(by simp only at hb;omega);subst this;rintro ⟨h10,h11⟩;exact h7 h11
 · -- not formed
   rename_i h4 h5;have:Bad h:=.inl ⟨i,by omega,h5⟩;simp [checkS,this,hbig]
 rename_i h4
 have hbad:¬ Bad h:=by
  rintro (⟨j,hj1,hj2⟩ | ⟨a,b,hab,hb,h5,h6⟩)
  . exact hj2 (hf j (by omega))
  . exact hnd a b hab (by omega) ⟨h5,h6⟩
 refine loop_i (fun i:Nat=>i<=h.length/\∀ a b,b<a->a<i->¬ Clash1 (at' h a) (at' h b)) (fun i=>⟨[(0,.view 6 (h.map accA)),(54,.view 6 (h.map accA)),(55,.int .i64 h.length),(56,.int .i64 i)],[]⟩) (fun i=>h.length - i) 0 ⟨by omega,by omega⟩ (ent [] false) ?_;rintro i ⟨hi,hcl⟩;repeat' (first|(with_reducible first|(apply zS;constructor)<;>intro _|refine ai ?_|(apply zQ;constructor))|simp (disch:=omega) only [lE,seval,IdxR_accs,accC])
 . rename_i h5;refine callN_i [] true (by simp) (by simp) ?_;simp only [lP,seval];refine ⟨_,c63 _,?_⟩;rintro _ _ ⟨rfl,ws,wb,wc,rfl,hws⟩;simp only [lP,seval,lA,seval,renL_trues,novL_trues];repeat' (first|(with_reducible first|(apply zS;constructor)<;>intro _|refine ai ?_|(apply zQ;constructor))|((with_reducible refine keep0_i ?_);simp only [lP,seval])|simp (disch:=omega) only [lE,seval,<- List.map_take,List.length_take])
   refine loop_i (fun j:Nat=>j<=i/\∀ b,b<j->¬ Clash1 (at' h i) (at' h b)) (fun j=>⟨[(0,.view 6 (h.map accA)),(8,.int .i64 i),(9,.op 0 0),(10,.mp 1),(54,.view 6 (h.map accA)),(55,.int .i64 h.length),(56,.int .i64 i),(66,.view 6 ((h.take i).map accA)),(67,.int .i64 i),(68,.int .i64 j)],[.box (accC (at' h i)),.map (ws.map (AV.int .i64)) (ws.map fun _=>AV.bool true) wb wc]⟩) (fun j=>i - j) 0 ⟨by omega,by omega⟩ (ent [0,1] false (by simp only [lP,seval,pa_trues,accC]<;>(try simp)<;>(try omega)) (by simp only [lP,seval,pa_trues,accC]<;>(try simp)<;>(try omega))) ?_;rintro j ⟨hj2,hcl2⟩;have htl:(h.take i).length=i:=by simp;omega
   by_cases hji:j<i
   . have htg:(h.take i).getD j default=h.getD j default:=(by simp [List.getD,hji]);have h45:=c64 (at' h i);have h45':=c64 (at' h j);have h46:=c65 (at' h i) (at' h j);have h47:=c66 ws (at' h j).writes;simp only [accA_eq,at',setA] at h45 h45' h46 h47;repeat' (first|(with_reducible first|(apply zS;constructor)<;>intro _|refine ai ?_|(apply zQ;constructor))|((with_reducible apply zC;constructor);simp only [lP,seval,IdxR_accs,accC,vw_trues,at',htg];(first|refine ⟨_,h45,?_⟩|refine ⟨_,h45',?_⟩|refine ⟨_,h46,?_⟩|refine ⟨_,h47,?_⟩);rintro _ _ ⟨rfl,rfl⟩;simp only [lA,lP,seval,IdxR_accs,accC,vw_trues,at',htg])|((with_reducible refine keep0_i ?_);simp only [lP,seval])|simp (disch:=omega) only [lE,seval,IdxR_accs,accC,vw_trues,at',htg])
     ·
      rename_i h6 h7 h8 h9 h10;simp only [Bool.and_eq_true,decide_eq_true_eq] at h9;obtain ⟨x,hx1,hx2⟩:=h10;have:Clash h:=⟨i,j,by omega,by omega,h7,h8,h9.1,h9.2,x,hx1,(hws x).1 hx2⟩;simp [checkS,hbig,hbad,this]
     all_goals first
      | (exfalso;omega)
      | (refine back_i (j+1) ⟨by omega,fun b hb=>?_⟩ (by omega) (ent [0,1] false (by simp only [lP,seval,pa_trues,accC]<;>(try simp)<;>(try omega)) (by simp only [lP,seval,pa_trues,accC]<;>(try simp)<;>(try omega)))
         by_cases hbj:b<j
         . exact hcl2 b hbj
         . have hbj:b=j:=(by omega);subst hbj;rintro ⟨k1,k2,k3,k4,x,k5,k6⟩
           first
            | exact absurd ⟨x,k5,(hws x).2 k6⟩ ‹¬ ∃ x,x ∈ _/\x ∈ ws›
            | (rename_i hn;simp only [Bool.not_true,Bool.and_eq_false_imp,decide_eq_true_eq,decide_eq_false_iff_not] at hn;exact hn k3 k4)
            | (simp_all;done))
   . repeat' (first|(with_reducible first|(apply zS;constructor)<;>intro _|refine ai ?_|(apply zQ;constructor))|((with_reducible refine keep0_i ?_);simp only [lP,seval])|simp (disch:=omega) only [lE,seval])
     . exfalso;omega
     . refine back_i (i+1) ⟨by omega,fun a b hba ha=>?_⟩ (by omega) (ent [] false);by_cases hai:a<i
       . exact hcl a b hba hai
       . have hai:a=i:=(by omega);subst hai;exact hcl2 b (by omega)
 . rename_i h5
   have:¬ Clash h:=by
    rintro ⟨a,b,hba,ha,hc⟩;exact hcl a b hba (by omega) hc
   refine keep0_i ?_;simp only [lP,seval];simp [checkS,hbig,hbad,this]
def mc91:MC:=(sO [pI 2 0] (.seq (sO [pM 10 0,pG 11 10,(none,.v (.bin 12 .gtr false (.t 11) (.c (.int .i64 100))))] (.cond 12 (sO [pI 2 2] .ret) .skip)) (.seq (sO [pI 3 0] (.block 0 (.loop (.seq (sO [pM 13 3,pM 14 0,pG 15 14,pB 16 13 15] (.cond 16 .skip (.exit 0))) (.seq (.block 1 (sO [pM 19 0,pM 20 3,pQ 21 6 19 20,pF 22 4 21,pL 23 22,pG 24 23,(none,.v (.bin 25 .gtr false (.t 24) (.c (.int .i64 64)))),pM 26 25,gF 26 (oM 27 0),gF 26 (oM 28 3),gF 26 (oQ 29 6 27 28),gF 26 (oF 30 5 29),gF 26 (oL 31 30),gF 26 (oG 32 31),(some (26,false),.v (.bin 33 .gtr false (.t 32) (.c (.int .i64 64)))),pO 34 26 33] (.cond 34 (sO [pI 2 2] .ret) .skip))) (.ops [pM 17 3,pA 18 17 1,pM 3 18])))))) (.seq (sO [pI 4 0] (.block 2 (.loop (.seq (sO [pM 35 4,pM 36 0,pG 37 36,pB 38 35 37] (.cond 38 .skip (.exit 2))) (.seq (.block 3 (sO [pM 41 0,pM 42 4,pQ 43 6 41 42,pR 44 6 43,pV 45 123 44,pM 5 45] (.seq (sO [pM 46 5,pN 47 46] (.cond 47 (sO [pI 2 1] .ret) .skip)) (sO [pI 6 0] (.block 4 (.loop (.seq (sO [pM 48 6,pM 49 4,pB 50 48 49] (.cond 50 .skip (.exit 4))) (.seq (.block 5 (.seq (.any false (yO (oM 53 0) (yO (oM 54 4) (yO (oQ 55 6 53 54) (yO (oF 56 3 55) (yO (oL 57 56) (yO (oD 58 57 0) (yO (oM 59 58) (.pure0 (some (59,true)) (oM 60 0) (.pure0 (some (59,true)) (oM 61 4) (.pure0 (some (59,true)) (oQ 62 6 60 61) (.pure0 (some (59,true)) (oF 63 3 62) (.pure0 (some (59,true)) (oL 64 63) (.pure0 (some (59,true)) (oM 65 0) (.pure0 (some (59,true)) (oM 66 6) (.pure0 (some (59,true)) (oQ 67 6 65 66) (.pure0 (some (59,true)) (oF 68 3 67) (.pure0 (some (59,true)) (oL 69 68) (.pure0 (some (59,true)) (.v (.bin 70 .eql false (.t 64) (.t 69))) (yO (oP 71 59 70) .done)))))))))))))))))))) (.cond 71 (sO [pI 2 1] .ret) .skip))) (.ops [pM 51 6,pA 52 51 1,pM 6 52]))))))))) (.ops [pM 39 4,pA 40 39 1,pM 4 40])))))) (.seq (sO [pI 7 0] (.block 6 (.loop (.seq (sO [pM 72 7,pM 73 0,pG 74 73,pB 75 72 74] (.cond 75 .skip (.exit 6))) (.seq (.block 7 (sO [pI 8 0] (.block 8 (.loop (.seq (sO [pM 78 8,pM 79 7,pB 80 78 79] (.cond 80 .skip (.exit 8))) (.seq (.block 9 (.seq (.any false (yO (oM 83 0) (yO (oM 84 7) (yO (oQ 85 6 83 84) (yO (oF 86 2 85) (yO (oL 87 86) (yO (oM 88 87) (.pure0 (some (88,true)) (oM 89 0) (.pure0 (some (88,true)) (oM 90 8) (.pure0 (some (88,true)) (oQ 91 6 89 90) (.pure0 (some (88,true)) (oF 92 2 91) (.pure0 (some (88,true)) (oL 93 92) (yO (oP 94 88 93) (yO (oM 95 94) (.pure0 (some (95,true)) (oM 96 0) (.pure0 (some (95,true)) (oM 97 7) (.pure0 (some (95,true)) (oQ 98 6 96 97) (.pure0 (some (95,true)) (oF 99 5 98) (.pure0 (some (95,true)) (oL 100 99) (.pure0 (some (95,true)) (oM 101 0) (.pure0 (some (95,true)) (oM 102 8) (.pure0 (some (95,true)) (oQ 103 6 101 102) (.pure0 (some (95,true)) (oF 104 5 103) (.pure0 (some (95,true)) (oL 105 104) (.alt (some (95,true)) (oW 106 124 100 105) (.base (yO (oP 107 95 106) (yO (oM 9 107) .done))) .stop))))))))))))))))))))))))) (.seq (.any false (yO (oM 108 9) (yO (oM 109 108) (.pure0 (some (109,true)) (oM 110 0) (.pure0 (some (109,true)) (oM 111 7) (.pure0 (some (109,true)) (oQ 112 6 110 111) (.pure0 (some (109,true)) (oF 113 1 112) (.pure0 (some (109,true)) (oL 114 113) (.pure0 (some (109,true)) (oM 115 0) (.pure0 (some (109,true)) (oM 116 8) (.pure0 (some (109,true)) (oQ 117 6 115 116) (.pure0 (some (109,true)) (oF 118 3 117) (.pure0 (some (109,true)) (oL 119 118) (.pure0 (some (109,true)) (oB 120 114 119) (yO (oP 121 109 120) (yO (oM 122 121) (.pure0 (some (122,true)) (oM 123 0) (.pure0 (some (122,true)) (oM 124 8) (.pure0 (some (122,true)) (oQ 125 6 123 124) (.pure0 (some (122,true)) (oF 126 1 125) (.pure0 (some (122,true)) (oL 127 126) (.pure0 (some (122,true)) (oM 128 0) (.pure0 (some (122,true)) (oM 129 7) (.pure0 (some (122,true)) (oQ 130 6 128 129) (.pure0 (some (122,true)) (oF 131 3 130) (.pure0 (some (122,true)) (oL 132 131) (.pure0 (some (122,true)) (oB 133 127 132) (yO (oP 134 122 133) .done)))))))))))))))))))))))))))) (.cond 134 (sO [pI 2 3] .ret) .skip)))) (.ops [pM 81 8,pA 82 81 1,pM 8 82]))))))) (.ops [pM 76 7,pA 77 76 1,pM 7 77])))))) (sO [pI 2 0] .ret))))))
theorem ok91:FnOk E 91 135 [.tmp 2] mc91:=ofk func91
open Classical
theorem c91 (h:List Acc):ACalls E.P 91 [.view 6 (h.map accA)] [] (fun r H=>r=.int .i64 (checkS h)/\H=[]):=by
 have hmax:=maxLen_eq;refine zk ok91 fun N hN=>?_;unfold mc91 pI pM pG pB pQ pF pL pO pA pR pV pN gF oM oL oF oD oB oP oG oQ oW sO yO;repeat' (first|(with_reducible first|(apply zS;constructor)<;>intro _|refine ai ?_|(apply zQ;constructor))|((with_reducible refine keep0_i ?_);simp only [lP,seval])|simp (disch:=omega) only [lE,seval])
 . rename_i h1 h2;have:Big h:=.inl (by omega);simp [checkS,this]
 rename_i h1 h2;have hlen:¬ 100<h.length:=by omega
 refine loop_i (fun i:Nat=>i<=h.length/\∀ j,j<i->(at' h j).reads.length<=64/\(at' h j).writes.length<=64) (fun i=>⟨[(0,.view 6 (h.map accA)),(3,.int .i64 i)],[]⟩) (fun i=>h.length - i) 0 ⟨by omega,by omega⟩ (ent [] false) ?_;rintro i ⟨hi,hj⟩;repeat' (first|(with_reducible first|(apply zS;constructor)<;>intro _|refine ai ?_|(apply zQ;constructor))|((with_reducible refine keep0_i ?_);simp only [lP,seval])|simp (disch:=omega) only [lE,seval,IdxR_accs,accC])
 all_goals try omega
 all_goals try (solve
  | (have:Big h:=.inr ⟨i,by omega,by simp only [at'];omega⟩
     simp [checkS,this])
  | (refine back_i (i+1) ⟨by omega,fun j hj2=>?_⟩ (by omega) (ent [] false)
     by_cases hji:j<i
     . exact hj j hji
     . have:j=i:=(by omega);subst this;simp only [at'];omega))
 rename_i h3
 have hbig:¬ Big h:=by
  rintro (hb | ⟨j,hj1,hj2⟩)
  . exact hlen hb
  . have:=hj j (by omega);omega
 refine loop_i (fun i:Nat=>i<=h.length/\(∀ j,j<i->(at' h j).Formed)/\∀ a b,a<b->b<i->¬ ((at' h a).stamp=(at' h b).stamp/\0<(at' h b).stamp))
  (fun i=>⟨[(0,.view 6 (h.map accA)),(4,.int .i64 i)],[]⟩) (fun i=>h.length - i) 0 ⟨by simp,by simp,by simp⟩ (ent [] false) ?_
 rintro i ⟨hi,hf,hnd⟩;have h48:=c123 (at' h i);simp only [accA_eq,at'] at h48;repeat' (first|(with_reducible first|(apply zS;constructor)<;>intro _|refine ai ?_|(apply zQ;constructor))|((with_reducible apply zC;constructor);simp only [lP,seval,IdxR_accs,accC];refine ⟨_,h48,?_⟩;rintro _ _ ⟨rfl,rfl⟩;simp only [lA,lP,seval,IdxR_accs,accC])|((with_reducible refine keep0_i ?_);simp only [lP,seval])|simp (disch:=omega) only [lE,seval,IdxR_accs,accC])
 . rename_i h4 h5;have:Bad h:=.inl ⟨i,by omega,h5⟩;simp [checkS,this,hbig]
 . rename_i h4 h5
   have hst:(h.getD i default).stamp≠0->0<(h.getD i default).stamp:=by
    obtain ⟨_,_,h6,_,_,_,_,h7,h8⟩:=h5;intro h9;cases hw:(h.getD i default).writer
    . exact absurd (h8 hw) h9
    . have:=h7 hw;omega
   refine loop_i (fun j:Nat=>j<=i/\∀ a,a<j->¬ ((at' h a).stamp=(at' h i).stamp/\0<(at' h i).stamp))
    (fun j=>⟨[(0,.view 6 (h.map accA)),(4,.int .i64 i),(6,.int .i64 j)],[]⟩) (fun j=>i - j) 0 ⟨by simp,by simp⟩ (ent [] false) ?_
   rintro j ⟨hj2,hnd2⟩;by_cases hji:j<i
   . repeat' (first|(with_reducible first|(apply zS;constructor)<;>intro _|refine ai ?_|(apply zQ;constructor))|((with_reducible refine keep0_i ?_);simp only [lP,seval])|simp (disch:=omega) only [lE,seval,IdxR_accs,accC])
     all_goals first
      | (exfalso;omega)
      | solve
        | (have:Bad h:=.inr ⟨j,i,hji,by omega,by simp only [at'];omega,by simp only [at'];omega⟩
           simp [checkS,this,hbig])
        | (refine back_i (j+1) ⟨by omega,fun a ha=>?_⟩ (by omega) (ent [] false)
           by_cases haj:a<j
           . exact hnd2 a haj
           . have:a=j:=(by omega);subst this;simp only [at'];rintro ⟨k1,k2⟩;omega)
   . repeat' (first|(with_reducible first|(apply zS;constructor)<;>intro _|refine ai ?_|(apply zQ;constructor))|((with_reducible refine keep0_i ?_);simp only [lP,seval])|simp (disch:=omega) only [lE,seval,IdxR_accs,accC])
     all_goals try omega
     refine back_i (i+1) ⟨by omega,fun j hj2=>?_,fun a b hab hb=>?_⟩ (by omega) (ent [] false)
     . by_cases hji:j<i
       . exact hf j hji
       . have:j=i:=(by omega);subst this;exact h5
     . by_cases hbi:b<i
       . exact hnd a b hab hbi
       . have:b=i:=(by omega);subst this;exact hnd2 a (by omega)
 rename_i h4
 have hbad:¬ Bad h:=by
  rintro (⟨j,hj1,hj2⟩ | ⟨a,b,hab,hb,h5,h6⟩)
  . exact hj2 (hf j (by omega))
  . exact hnd a b hab (by omega) ⟨h5,h6⟩
 refine loop_i (fun i:Nat=>i<=h.length/\∀ a b,b<a->a<i->¬ Clash1 (at' h a) (at' h b)) (fun i=>⟨[(0,.view 6 (h.map accA)),(7,.int .i64 i)],[]⟩) (fun i=>h.length - i) 0 ⟨by omega,by omega⟩ (ent [] false) ?_;rintro i ⟨hi,hcl⟩;repeat' (first|(with_reducible first|(apply zS;constructor)<;>intro _|refine ai ?_|(apply zQ;constructor))|((with_reducible refine keep0_i ?_);simp only [lP,seval])|simp (disch:=omega) only [lE,seval,IdxR_accs,accC])
 . rename_i h5;refine loop_i (fun j:Nat=>j<=i/\∀ b,b<j->¬ Clash1 (at' h i) (at' h b)) (fun j=>⟨[(0,.view 6 (h.map accA)),(7,.int .i64 i),(8,.int .i64 j)],[]⟩) (fun j=>i - j) 0 ⟨by omega,by omega⟩ (ent [] false) ?_;rintro j ⟨hj2,hcl2⟩;by_cases hji:j<i
   . have h49:=c124 (at' h i).writes (at' h j).writes;simp only [at'] at h49;repeat' (first|(with_reducible first|(apply zS;constructor)<;>intro _|refine ai ?_|(apply zQ;constructor))|((with_reducible apply zC;constructor);simp only [lP,seval,IdxR_accs,accC];refine ⟨_,h49,?_⟩;rintro _ _ ⟨rfl,rfl⟩;simp only [lA,lP,seval,IdxR_accs,accC])|((with_reducible refine keep0_i ?_);simp only [lP,seval])|simp (disch:=omega) only [lE,seval,IdxR_accs,accC])
     ·
      rename_i k1 k2 k3 k4 k5 k6;obtain ⟨x,hx1,hx2⟩:=k4
      have w1:(h.getD i default).writer=true:=by
       simp only [Acc.writer,k2,Bool.true_and,decide_eq_true_eq];exact List.length_pos_of_mem hx1
      have w2:(h.getD j default).writer=true:=by
       simp only [Acc.writer,k3,Bool.true_and,decide_eq_true_eq];exact List.length_pos_of_mem hx2
      have:Clash h:=⟨i,j,by omega,by omega,w1,w2,k5,k6,x,hx2,hx1⟩;simp [checkS,hbig,hbad,this]
     all_goals try omega
     all_goals
      refine back_i (j+1) ⟨by omega,fun b hb=>?_⟩ (by omega) (ent [] false);by_cases hbj:b<j
      . exact hcl2 b hbj
      . have hbj:b=j:=(by omega);subst hbj;rintro ⟨k1,k2,k3,k4,x,k5,k6⟩;simp only [Acc.writer,Bool.and_eq_true,at'] at k1 k2 k3 k4 k5 k6
        first
         | exact absurd ⟨x,k6,k5⟩ ‹¬ Meet _ _›
         | (exfalso;omega)
         | (simp_all;done)
   . repeat' (first|(with_reducible first|(apply zS;constructor)<;>intro _|refine ai ?_|(apply zQ;constructor))|((with_reducible refine keep0_i ?_);simp only [lP,seval])|simp (disch:=omega) only [lE,seval,IdxR_accs,accC])
     all_goals try omega
     refine back_i (i+1) ⟨by omega,fun a b hba ha=>?_⟩ (by omega) (ent [] false);by_cases hai:a<i
     . exact hcl a b hba hai
     . have hai:a=i:=(by omega);subst hai;exact hcl2 b (by omega)
 . rename_i h5
   have:¬ Clash h:=by
    rintro ⟨a,b,hba,ha,hc⟩;exact hcl a b hba (by omega) hc
   simp [checkS,hbig,hbad,this]
def mc92:MC:=(sO [pZ 6] (.seq (.any false (yO (oM 7 1) (yO (oM 8 2) (yO (.v (.bin 9 .neq false (.t 7) (.t 8))) (yO (oM 10 9) (.pure0 (some (10,true)) (oM 11 0) (.pure0 (some (10,true)) (oM 12 1) (.pure0 (some (10,true)) (oQ 13 6 11 12) (.pure0 (some (10,true)) (oF 14 2 13) (.pure0 (some (10,true)) (oL 15 14) (yO (oP 16 10 15) (yO (oM 17 16) (.pure0 (some (17,true)) (oM 18 0) (.pure0 (some (17,true)) (oM 19 2) (.pure0 (some (17,true)) (oQ 20 6 18 19) (.pure0 (some (17,true)) (oF 21 2 20) (.pure0 (some (17,true)) (oL 22 21) (yO (oP 23 17 22) (yO (oM 24 23) (.pure0 (some (24,true)) (oM 25 0) (.pure0 (some (24,true)) (oM 26 1) (.pure0 (some (24,true)) (oQ 27 6 25 26) (.pure0 (some (24,true)) (oF 28 4 27) (.pure0 (some (24,true)) (oL 29 28) (.pure0 (some (24,true)) (oM 30 0) (.pure0 (some (24,true)) (oM 31 2) (.pure0 (some (24,true)) (oQ 32 6 30 31) (.pure0 (some (24,true)) (oF 33 5 32) (.pure0 (some (24,true)) (oL 34 33) (.alt (some (24,true)) (oW 35 124 29 34) (.base (yO (oP 36 24 35) (yO (oM 37 36) (.pure0 (some (37,true)) (oM 38 0) (.pure0 (some (37,true)) (oM 39 2) (.pure0 (some (37,true)) (oQ 40 6 38 39) (.pure0 (some (37,true)) (oF 41 3 40) (.pure0 (some (37,true)) (oL 42 41) (.pure0 (some (37,true)) (oM 43 0) (.pure0 (some (37,true)) (oM 44 1) (.pure0 (some (37,true)) (oQ 45 6 43 44) (.pure0 (some (37,true)) (oF 46 1 45) (.pure0 (some (37,true)) (oL 47 46) (.pure0 (some (37,true)) (.v (.bin 48 .gtr false (.t 42) (.t 47))) (yO (oP 49 37 48) (yO (oM 6 49) .done)))))))))))))))) .stop)))))))))))))))))))))))))))))) .ret))
theorem ok92:FnOk E 92 50 [.tmp 6] mc92:=ofk func92
open Classical
def AntiE (x y:Acc):Prop:=x.done=true/\y.done=true/\Meet x.reads y.writes/\x.snap<y.stamp
def PlainE (x y:Acc):Prop:=x.done=true/\y.done=true/\((Meet x.writes y.writes/\x.stamp<y.stamp)\/(Meet x.writes y.reads/\x.stamp<=y.snap))
def Anti (h:List Acc) (i j:Nat):Prop:=i≠j/\AntiE (at' h i) (at' h j)
def Edge (h:List Acc) (i j:Nat):Prop:=i≠j/\(PlainE (at' h i) (at' h j)\/AntiE (at' h i) (at' h j))
theorem c92 (h:List Acc) (i j:Nat) (hi:i<h.length) (hj:j<h.length):ACalls E.P 92 [.view 6 (h.map accA),.int .i64 i,.int .i64 j] [] (fun r H=>r=.bool (decide (Anti h i j))/\H=[]):=by
 have hmax:=maxLen_eq;have h49:=c124 (at' h i).reads (at' h j).writes;simp only [at'] at h49;have ei:∀ {m N d c},IdxR E.P m N (h.map accA) (i:Int) d c=rK E.P m N c d (.vp (accC (h.getD i default))):=IdxR_accs (by omega) (by omega);have ej:∀ {m N d c},IdxR E.P m N (h.map accA) (j:Int) d c=rK E.P m N c d (.vp (accC (h.getD j default))):=IdxR_accs (by omega) (by omega);refine zk ok92 fun N hN=>?_;unfold mc92 pZ oM oL oF oP oQ oW sO yO;repeat' (first|(with_reducible first|(apply zS;constructor)<;>intro _|refine ai ?_|(apply zQ;constructor))|((with_reducible apply zC;constructor);simp only [lP,seval,ei,ej,accC];refine ⟨_,c124 _ _,?_⟩;rintro _ _ ⟨rfl,rfl⟩;simp only [lA,lP,seval,ei,ej,accC])|((with_reducible refine keep0_i ?_);simp only [lP,seval])|simp (disch:=omega) only [lE,seval,ei,ej,accC])
 all_goals try omega
 all_goals refine congrArg AV.bool (Bool.eq_iff_iff.2 ?_)
 all_goals simp only [decide_eq_true_eq,Bool.false_eq_true,Anti,AntiE,at']
 all_goals clear ei ej h49
 all_goals simp_all
 all_goals omega
end Go.Proofs.Try
