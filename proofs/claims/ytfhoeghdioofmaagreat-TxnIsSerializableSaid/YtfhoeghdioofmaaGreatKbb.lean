/-
 A part of the proof.
-/
import Derived.Test.YtfhoeghdioofmaaGreatKaa
set_option linter.unusedSimpArgs false
set_option linter.unusedVariables false
namespace Go.Proofs.Try
open Go.Proofs.Tryz
open Go.Al
set_option maxRecDepth 100000
def mc15:MC:=(.seq (.ops [pI 2 0]) (.seq (.seq (.ops [pM 13 0,pG 14 13,(none,.v (.bin 15 .gtr false (.t 14) (.c (.int .i64 100))))]) (.cond 15 (.seq (.ops [pI 2 2]) .ret) .skip)) (.seq (.seq (.ops [pM 16 0,pG 17 16,pI 18 0]) (.block 0 (.loop (.seq (.ops [pB 19 18 17]) (.seq (.cond 19 .skip (.exit 0)) (.seq (.block 1 (.seq (.ops [pQ 20 6 16 18,pR 21 6 20,(none,.e (.alloc 4 z0)),pS 6 4 21]) (.seq (.ops [pF 22 4 4,pL 23 22,pG 24 23,pF 25 5 4,pL 26 25,pG 27 26,(none,.v (.max 28 [.t 24,.t 27])),(none,.v (.bin 29 .gtr false (.t 28) (.c (.int .i64 64))))]) (.cond 29 (.seq (.ops [pI 2 2]) .ret) .skip)))) (.ops [pA 30 18 1,pM 18 30]))))))) (.seq (.ops [(none,.e (.mkmap 31)),pM 5 31]) (.seq (.seq (.ops [pM 32 0,pG 33 32,pI 34 0]) (.block 2 (.loop (.seq (.ops [pB 35 34 33]) (.seq (.cond 35 .skip (.exit 2)) (.seq (.block 3 (.seq (.ops [pQ 36 6 32 34,pR 37 6 36,(none,.e (.alloc 7 z0)),pS 6 7 37]) (.seq (.seq (.ops [pR 38 6 7,pV 39 62 38,pN 40 39,pM 41 40,gF 41 (oM 42 5),gF 41 (oF 43 3 7),gF 41 (oL 44 43),(some (41,false),.p (.look 45 false (.int .i64) (.bool false) (.t 42) (.t 44))),pO 46 41 45]) (.cond 46 (.seq (.ops [pI 2 1]) .ret) .skip)) (.seq (.ops [pF 47 3 7,pL 48 47,(none,.v (.bin 49 .gtr false (.t 48) (.c (.int .i64 0))))]) (.cond 49 (.ops [pM 50 5,pF 51 3 7,pL 52 51,(none,.e (.mput (.int .i64) (.t 50) (.t 52) (.c (.bool true))))]) .skip))))) (.ops [pA 53 34 1,pM 34 53]))))))) (.seq (.seq (.ops [pM 54 0,pG 55 54,pI 56 0]) (.block 4 (.loop (.seq (.ops [pB 57 56 55]) (.seq (.cond 57 .skip (.exit 4)) (.seq (.block 5 (.seq (.ops [pM 58 56,pQ 59 6 54 56,pR 60 6 59,(none,.e (.alloc 9 z0)),pM 8 58,pS 6 9 60]) (.seq (.ops [pF 61 5 9,pL 62 61,pV 63 63 62,pM 10 63]) (.seq (.ops [pM 64 0,pM 65 8,(none,.p (.pre 66 6 (.t 64) (some (.t 65)))),pG 67 66,pI 68 0]) (.block 6 (.loop (.seq (.ops [pB 69 68 67]) (.seq (.cond 69 .skip (.exit 6)) (.seq (.block 7 (.seq (.ops [pQ 70 6 66 68,pR 71 6 70,(none,.e (.alloc 12 z0)),pS 6 12 71]) (.seq (.ops [pR 72 6 9,pV 73 64 72,pM 74 73,gT 74 (oR 75 6 12),gT 74 (oV 76 64 75),pP 77 74 76,pM 78 77,gT 78 (oR 79 6 9),gT 78 (oR 80 6 12),gT 78 (oW 81 65 79 80),pP 82 78 81,pM 83 82,gT 83 (oM 84 10),gT 83 (oF 85 5 12),gT 83 (oL 86 85),gT 83 (oW 87 66 84 86),pP 88 83 87]) (.cond 88 (.seq (.ops [pI 2 3]) .ret) .skip)))) (.ops [pA 89 68 1,pM 68 89])))))))))) (.ops [pA 90 56 1,pM 56 90]))))))) (.seq (.ops [pI 2 0]) .ret)))))))
theorem ok15:FnOk E 15 91 [.tmp 2] mc15:=ofk func15
open Classical
theorem IdxR_accs {P:Program} {m:Nat} {N:FN} {xs:List Acc} {n:Int} {d:Nat} {c:Kn} (h0:0<=n) (h1:n<xs.length):IdxR P m N (xs.map accA) n d c=rK P m N c d (.vp (accC (xs.getD n.toNat default))) :=
 IdxR_map (cs:=accC) (fun _=>rfl) h0 h1
abbrev at' (h:List Acc) (i:Nat):Acc:=h.getD i default
def Big (h:List Acc):Prop:=100<h.length\/∃ i,i<h.length/\(64<(at' h i).reads.length\/64<(at' h i).writes.length)
def Bad (h:List Acc):Prop:=(∃ i,i<h.length/\¬ (at' h i).Formed)\/∃ i j,i<j/\j<h.length/\(at' h i).stamp=(at' h j).stamp/\0<(at' h j).stamp
def Clash1 (x y:Acc):Prop:=x.writer=true/\y.writer=true/\x.snap<y.stamp/\y.snap<x.stamp/\Meet y.writes x.writes
def Clash (h:List Acc):Prop:=∃ i j,j<i/\i<h.length/\Clash1 (at' h i) (at' h j)
noncomputable def checkS (h:List Acc):Int:=if Big h then 2 else if Bad h then 1 else if Clash h then 3 else 0
theorem vw_accs {H:List AObj} {l:List Nat} {n:Nat} {xs:List Acc}:(xs.map accA).map (vw H l (n+1))=xs.map accA:=map_same (fun x=>by simp [accA_eq,vw_agg,vw_int,vw_bool,vw_view]) xs
theorem pa_accs {H:List AObj} {l:List Nat} {bor:Bool} {n:Nat} {xs:List Acc}:(xs.map accA).map (pa H l bor (n+1))=xs.map accA:=map_same (fun x=>by simp [accA_eq,pa_agg,pa_int,pa_bool,pa_view]) xs
set_option maxHeartbeats 16000000
theorem c15 (h:List Acc):ACalls E.P 15 [.view 6 (h.map accA)] [] (fun r H=>r=.int .i64 (checkS h)/\H=[]):=by
 have hmax:=maxLen_eq
 refine ok15.acalls hE hm (by simp) fun N hN=>?_
 unfold mc15 z0 pI pM pG pB pQ pR pS pF pL pA pV pN pO pP gF gT oM oL oR oF oV oW
 repeat' (first|(with_reducible first|(apply St.o;constructor)<;>intro _|refine ai ?_|(apply Sq.o;constructor))|((with_reducible refine keep0_i ?_);simp only [lP,seval])|simp (disch:=omega) only [lE,seval])
 . rename_i h1 h2
   have:Big h:=.inl (by omega)
   simp [checkS,this]
 rename_i h1 h2
 have hlen:¬ 100<h.length:=by omega
 refine loop_i (fun i:Nat=>i<=h.length/\∀ j,j<i->(at' h j).reads.length<=64/\(at' h j).writes.length<=64) (fun i=>⟨[(0,.view 6 (h.map accA)),(16,.view 6 (h.map accA)),(17,.int .i64 h.length),(18,.int .i64 i)],[]⟩) (fun i=>h.length - i) 0 ⟨by omega,by omega⟩ (ent [] false) ?_
 rintro i ⟨hi,hj⟩
 repeat' (first|(with_reducible first|(apply St.o;constructor)<;>intro _|refine ai ?_|(apply Sq.o;constructor))|((with_reducible refine keep0_i ?_);simp only [lP,seval])|simp (disch:=omega) only [lE,seval,IdxR_accs,accC])
 . rename_i h3 h4 h5 h6
   have:Big h:=.inr ⟨i,by omega,by split at h6 <;> simp only [at'] <;> omega⟩
   simp [checkS,this]
 . rename_i h3 h4 h5 h6
   refine back_i (i+1) ⟨by omega,fun j hj2=>?_⟩ (by omega) (ent [] false)
   by_cases hji:j<i
   . exact hj j hji
   . have:j=i:=by omega
     subst this
     simp only [at']
     split at h6 <;> omega
 rename_i h3
 have hbig:¬ Big h:=by
  rintro (hb | ⟨j,hj1,hj2⟩)
  . exact hlen hb
  . have:=hj j (by omega)
    omega
 refine loop_i (X:=Nat × List Int × List Nat × Nat) (fun x=>x.1<=h.length/\(∀ j,j<x.1->(at' h j).Formed)/\(∀ y,y ∈ x.2.1↔∃ j,j<x.1/\(at' h j).stamp=y/\0<y)/\∀ a b,a<b->b<x.1->¬ ((at' h a).stamp=(at' h b).stamp/\0<(at' h b).stamp))
  (fun x=>⟨[(0,.view 6 (h.map accA)),(5,.mp 0),(32,.view 6 (h.map accA)),(33,.int .i64 h.length),(34,.int .i64 x.1)],[.map (x.2.1.map (AV.int .i64)) (x.2.1.map fun _=>AV.bool true) x.2.2.1 x.2.2.2]⟩) (fun x=>h.length - x.1) (0,[],[],0) ⟨by simp,by simp,by simp,by simp⟩ (ent [0] false) ?_
 rintro ⟨i,ks,bs,c⟩ ⟨hi,hf,hks,hnd⟩
 simp only at hi hf hks hnd
 have h43:=c62 (at' h i)
 simp only [accA_eq,at'] at h43
 repeat' (first|(with_reducible first|(apply St.o;constructor)<;>intro _|refine ai ?_|(apply Sq.o;constructor))|((with_reducible apply Sc.o true;constructor);simp only [lP,seval,IdxR_accs,accC,look_set];refine ⟨_,h43,?_⟩;rintro _ _ ⟨rfl,rfl⟩;simp only [lA,lP,seval,IdxR_accs,accC,look_set])|((with_reducible refine keep0_i ?_);simp only [lP,seval])|simp (disch:=omega) only [lE,seval,IdxR_accs,accC,look_set])
 · -- a stamp twice
   rename_i h4 h5 h6
   obtain ⟨j,hj1,hj2,hj3⟩:=(hks _).1 h6
   have:Bad h:=.inr ⟨j,i,hj1,by omega,by simpa [at'] using hj2,by simpa [at'] using hj3⟩
   simp [checkS,this,hbig]
 · -- a new stamp
   rename_i h4 h5 h6 h7
   obtain ⟨ks',bs',c',h8,h9⟩:=putK_set ks (h.getD i default).stamp bs c
   simp only [h8]
   repeat' (first|(with_reducible first|(apply St.o;constructor)<;>intro _|refine ai ?_|(apply Sq.o;constructor))|((with_reducible refine keep0_i ?_);simp only [lP,seval])|simp (disch:=omega) only [lE,seval])
   refine back_i (i+1,ks',bs',c') ⟨by simp only;omega,fun j hj2=>?_,fun y=>?_,fun a b hab hb=>?_⟩ (by simp only;omega) (ent [0] false (by simp only [lP,seval]<;>(try simp) <;> omega) (by simp only [lP,seval,pa_trues]))
   . by_cases hji:j<i
     . exact hf j hji
     . have:j=i:=by simp only at hj2;omega
       subst this;exact h5
   . simp only [h9,hks]
     constructor
     . rintro (⟨j,hj1,hj2,hj3⟩ | h)
       . exact ⟨j,by omega,hj2,hj3⟩
       . exact ⟨i,by omega,h.symm,by omega⟩
     . rintro ⟨j,hj1,hj2,hj3⟩
       by_cases hji:j<i
       . exact .inl ⟨j,hji,hj2,hj3⟩
       . have:j=i:=by omega
         subst this
         exact .inr hj2.symm
   . by_cases hbi:b<i
     . exact hnd a b hab hbi
     . have:b=i:=by simp only at hb;omega
       subst this
       rintro ⟨h10,h11⟩
       exact h6 ((hks _).2 ⟨a,by omega,h10,h11⟩)
 · -- no stamp
   rename_i h4 h5 h6 h7
   refine back_i (i+1,ks,bs,c) ⟨by simp only;omega,fun j hj2=>?_,fun y=>?_,fun a b hab hb=>?_⟩ (by simp only;omega) (ent [0] false (by simp only [lP,seval]<;>(try simp) <;> omega) (by simp only [lP,seval,pa_trues]))
   . by_cases hji:j<i
     . exact hf j hji
     . have:j=i:=by simp only at hj2;omega
       subst this;exact h5
   . simp only [hks]
     constructor
     . rintro ⟨j,hj1,hj2,hj3⟩
       exact ⟨j,by omega,hj2,hj3⟩
     . rintro ⟨j,hj1,hj2,hj3⟩
       by_cases hji:j<i
       . exact ⟨j,hji,hj2,hj3⟩
       . have:j=i:=by omega
         subst this
         simp only [at'] at hj2
         omega
   . by_cases hbi:b<i
     . exact hnd a b hab hbi
     . have:b=i:=by simp only at hb;omega
       subst this
       rintro ⟨h10,h11⟩
       exact h7 h11
 · -- not formed
   rename_i h4 h5
   have:Bad h:=.inl ⟨i,by omega,h5⟩
   simp [checkS,this,hbig]
 rename_i h4
 have hbad:¬ Bad h:=by
  rintro (⟨j,hj1,hj2⟩ | ⟨a,b,hab,hb,h5,h6⟩)
  . exact hj2 (hf j (by omega))
  . exact hnd a b hab (by omega) ⟨h5,h6⟩
 refine loop_i (fun i:Nat=>i<=h.length/\∀ a b,b<a->a<i->¬ Clash1 (at' h a) (at' h b)) (fun i=>⟨[(0,.view 6 (h.map accA)),(54,.view 6 (h.map accA)),(55,.int .i64 h.length),(56,.int .i64 i)],[]⟩) (fun i=>h.length - i) 0 ⟨by omega,by omega⟩ (ent [] false) ?_
 rintro i ⟨hi,hcl⟩
 repeat' (first|(with_reducible first|(apply St.o;constructor)<;>intro _|refine ai ?_|(apply Sq.o;constructor))|simp (disch:=omega) only [lE,seval,IdxR_accs,accC])
 . rename_i h5
   refine callN_i [] true (by simp) (by simp) ?_
   simp only [lP,seval]
   refine ⟨_,c63 _,?_⟩
   rintro _ _ ⟨rfl,ws,wb,wc,rfl,hws⟩
   simp only [lP,seval,lA,seval,renL_trues,novL_trues]
   repeat' (first|(with_reducible first|(apply St.o;constructor)<;>intro _|refine ai ?_|(apply Sq.o;constructor))|((with_reducible refine keep0_i ?_);simp only [lP,seval])|simp (disch:=omega) only [lE,seval,<- List.map_take,List.length_take])
   refine loop_i (fun j:Nat=>j<=i/\∀ b,b<j->¬ Clash1 (at' h i) (at' h b)) (fun j=>⟨[(0,.view 6 (h.map accA)),(8,.int .i64 i),(9,.op 0 0),(10,.mp 1),(54,.view 6 (h.map accA)),(55,.int .i64 h.length),(56,.int .i64 i),(66,.view 6 ((h.take i).map accA)),(67,.int .i64 i),(68,.int .i64 j)],[.box (accC (at' h i)),.map (ws.map (AV.int .i64)) (ws.map fun _=>AV.bool true) wb wc]⟩) (fun j=>i - j) 0 ⟨by omega,by omega⟩ (ent [0,1] false (by simp only [lP,seval,pa_trues,accC]<;>(try simp)<;>(try omega)) (by simp only [lP,seval,pa_trues,accC]<;>(try simp)<;>(try omega))) ?_
   rintro j ⟨hj2,hcl2⟩
   have htl:(h.take i).length=i:=by simp;omega
   by_cases hji:j<i
   . have htg:(h.take i).getD j default=h.getD j default:=by simp [List.getD,hji]
     have h45:=c64 (at' h i)
     have h45':=c64 (at' h j)
     have h46:=c65 (at' h i) (at' h j)
     have h47:=c66 ws (at' h j).writes
     simp only [accA_eq,at',setA] at h45 h45' h46 h47
     repeat' (first|(with_reducible first|(apply St.o;constructor)<;>intro _|refine ai ?_|(apply Sq.o;constructor))|((with_reducible apply Sc.o true;constructor);simp only [lP,seval,IdxR_accs,accC,vw_trues,at',htg,Int.toNat_natCast];(first|refine ⟨_,h45,?_⟩|refine ⟨_,h45',?_⟩|refine ⟨_,h46,?_⟩|refine ⟨_,h47,?_⟩);rintro _ _ ⟨rfl,rfl⟩;simp only [lA,lP,seval,IdxR_accs,accC,vw_trues,at',htg,Int.toNat_natCast])|((with_reducible refine keep0_i ?_);simp only [lP,seval])|simp (disch:=omega) only [lE,seval,IdxR_accs,accC,vw_trues,at',htg,Int.toNat_natCast])
     ·
      rename_i h6 h7 h8 h9 h10
      simp only [Bool.and_eq_true,decide_eq_true_eq] at h9
      obtain ⟨x,hx1,hx2⟩:=h10
      have:Clash h:=⟨i,j,by omega,by omega,h7,h8,h9.1,h9.2,x,hx1,(hws x).1 hx2⟩
      simp [checkS,hbig,hbad,this]
     all_goals first
      | (exfalso;omega)
      | (refine back_i (j+1) ⟨by omega,fun b hb=>?_⟩ (by omega) (ent [0,1] false (by simp only [lP,seval,pa_trues,accC]<;>(try simp)<;>(try omega)) (by simp only [lP,seval,pa_trues,accC]<;>(try simp)<;>(try omega)))
         by_cases hbj:b<j
         . exact hcl2 b hbj
         . have hbj:b=j:=by omega
           subst hbj
           rintro ⟨k1,k2,k3,k4,x,k5,k6⟩
           first
            | exact absurd ⟨x,k5,(hws x).2 k6⟩ ‹¬ ∃ x,x ∈ _/\x ∈ ws›
            | (rename_i hn;simp only [Bool.not_true,Bool.and_eq_false_imp,decide_eq_true_eq,decide_eq_false_iff_not] at hn;exact hn k3 k4)
            | (simp_all;done))
   . repeat' (first|(with_reducible first|(apply St.o;constructor)<;>intro _|refine ai ?_|(apply Sq.o;constructor))|((with_reducible refine keep0_i ?_);simp only [lP,seval])|simp (disch:=omega) only [lE,seval])
     . exfalso;omega
     . refine back_i (i+1) ⟨by omega,fun a b hba ha=>?_⟩ (by omega) (ent [] false)
       by_cases hai:a<i
       . exact hcl a b hba hai
       . have hai:a=i:=by omega
         subst hai
         exact hcl2 b (by omega)
 . rename_i h5
   have:¬ Clash h:=by
    rintro ⟨a,b,hba,ha,hc⟩
    exact hcl a b hba (by omega) hc
   refine keep0_i ?_
   simp only [lP,seval]
   simp [checkS,hbig,hbad,this]
open Classical
open Classical
def AntiE (x y:Acc):Prop:=x.done=true/\y.done=true/\Meet x.reads y.writes/\x.snap<y.stamp
def PlainE (x y:Acc):Prop:=x.done=true/\y.done=true/\((Meet x.writes y.writes/\x.stamp<y.stamp)\/(Meet x.writes y.reads/\x.stamp<=y.snap))
def Anti (h:List Acc) (i j:Nat):Prop:=i≠j/\AntiE (at' h i) (at' h j)
def Edge (h:List Acc) (i j:Nat):Prop:=i≠j/\(PlainE (at' h i) (at' h j)\/AntiE (at' h i) (at' h j))
end Go.Proofs.Try
