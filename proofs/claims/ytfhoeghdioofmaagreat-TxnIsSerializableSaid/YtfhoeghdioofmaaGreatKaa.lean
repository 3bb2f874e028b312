/-
 A part of the proof.
-/
import Derived.Test.YtfhoeghdioofmaaGreatEaa
set_option linter.unusedSimpArgs false
set_option linter.unusedVariables false
namespace Go.Proofs.Try
open Go.Proofs.Tryz
open Go.Al
set_option maxRecDepth 100000
def mc64:MC:=(.seq (.ops [pK 1 0,pZ 2]) (.seq (.ops [pF 3 2 1,pL 4 3,pM 5 4,gT 5 (oF 6 5 1),gT 5 (oL 7 6),gT 5 (oG 8 7),(some (5,true),.v (.bin 9 .gtr false (.t 8) (.c (.int .i64 0)))),pP 10 5 9,pM 2 10]) .ret))
theorem ok64:FnOk E 64 11 [.tmp 2] mc64:=ofk func64
def accC (x:Acc):List AV:=[.int .i64 x.mode,.int .i64 x.snap,.bool x.done,.int .i64 x.stamp,.view 1 (x.reads.map (.int .i64)),.view 1 (x.writes.map (.int .i64))]
def accA (x:Acc):AV:=.agg (accC x)
theorem accA_eq (x:Acc):accA x=.agg [.int .i64 x.mode,.int .i64 x.snap,.bool x.done,.int .i64 x.stamp,.view 1 (x.reads.map (.int .i64)),.view 1 (x.writes.map (.int .i64))]:=rfl
def Acc.writer (x:Acc):Bool:=x.done && decide (0<x.writes.length)
theorem c64 (x:Acc):ACalls E.P 64 [accA x] [] (fun r H=>r=.bool x.writer/\H=[]):=by
 refine ok64.acalls hE hm (by simp) fun N hN=>?_
 unfold mc64 pK pZ pF pL pM pP gT oL oF oG
 simp only [accA_eq]
 repeat' (first|(with_reducible first|(apply St.o;constructor)<;>intro _|refine ai ?_|(apply Sq.o;constructor))|((with_reducible refine keep0_i ?_);simp only [lP,seval])|simp (disch:=omega) only [lE,seval])
 all_goals try (exfalso;omega)
 all_goals simp_all [Acc.writer]
def mc113:MC:=(.seq (.ops [pZ 2]) (.seq (.seq (.ops [pI 3 1]) (.block 0 (.loop (.seq (.seq (.ops [pM 4 3,pM 5 0,pG 6 5,pB 7 4 6]) (.cond 7 .skip (.exit 0))) (.seq (.block 1 (.seq (.any false (.pure0 none (oM 10 0) (.pure0 none (oM 11 3) (.pure0 none (oQ 12 1 10 11) (.pure0 none (oL 13 12) (.pure0 none (oM 14 0) (.pure0 none (oM 15 3) (.pure0 none (.v (.bin 16 .sub false (.t 15) (.c (.int .i64 1)))) (.pure0 none (oQ 17 1 14 16) (.pure0 none (oL 18 17) (.pure0 none (.v (.bin 19 .leq false (.t 13) (.t 18))) .done))))))))))) (.cond 19 (.seq (.ops [pZ 2]) .ret) .skip))) (.ops [pM 8 3,pA 9 8 1,pM 3 9])))))) (.seq (.ops [(none,.v (.mov 2 (.c (.bool true))))]) .ret)))
theorem ok113:FnOk E 113 20 [.tmp 2] mc113:=ofk func113
open Classical
def Asc (l:List Int):Prop:=∀ j,j+1<l.length->l.getD j 0<l.getD (j+1) 0
theorem c113 (l:List Int):ACalls E.P 113 [.view 1 (l.map (AV.int .i64))] [] (fun r H=>r=.bool (decide (Asc l))/\H=[]):=by
 have hmax:=maxLen_eq
 refine ok113.acalls hE hm (by simp) fun N hN=>?_
 unfold mc113 pZ pI pM pG pB pA oM oL oQ
 simp only [lA,seval]
 refine loop_i (fun i:Nat=>1<=i/\i<=l.length+1/\∀ j,j+1<i->l.getD j 0<l.getD (j+1) 0) (fun i=>⟨[(0,.view 1 (l.map (AV.int .i64))),(3,.int .i64 i)],[]⟩) (fun i=>l.length+1 - i) 1 ⟨by omega,by omega,by omega⟩ (ent [] false) ?_
 rintro i ⟨hi,hi2,hj⟩
 repeat' (first|(with_reducible first|(apply St.o;constructor)<;>intro _|refine ai ?_|(apply Sq.o;constructor))|((with_reducible refine keep0_i ?_);simp only [lP,seval])|simp (disch:=omega) only [lE,seval])
 . rename_i h1 h2 h3
   rw [show (↑i - 1:Int).toNat=i - 1 by omega] at h3
   simp only [AV.bool.injEq,false_eq_decide_iff]
   intro ha
   have:=ha (i - 1) (by omega)
   rw [show i - 1+1=i by omega] at this
   omega
 . rename_i h1 h2 h3
   refine back_i (i+1) ⟨by omega,by omega,fun j hj2=>?_⟩ (by omega) (ent [] false)
   rw [show (↑i - 1:Int).toNat=i - 1 by omega] at h3
   by_cases hji:j+1<i
   . exact hj j hji
   . have:j=i - 1:=by omega
     subst this
     rw [show i - 1+1=i by omega]
     omega
 . simp only [AV.bool.injEq,true_eq_decide_iff]
   exact fun j hj2=>hj j (by omega)
def mc97:MC:=(.seq (.ops [pZ 4]) (.seq (.ops [pM 5 0,pM 6 1,pW 7 126 5 6,(none,.v (.bin 8 .geq false (.t 7) (.c (.int .i64 0)))),pM 4 8]) .ret))
theorem ok97:FnOk E 97 9 [.tmp 4] mc97:=ofk func97
def mc126:MC:=(.seq (.ops [pI 4 0]) (.seq (.seq (.ops [pM 6 0,pG 7 6,pI 8 0]) (.block 0 (.loop (.seq (.ops [pB 9 8 7]) (.seq (.cond 9 .skip (.exit 0)) (.seq (.block 1 (.seq (.ops [pM 10 8,pM 5 10]) (.seq (.ops [pM 11 1,pM 12 0,pM 13 5,pQ 14 1 12 13,pL 15 14,(none,.v (.bin 16 .eql false (.t 11) (.t 15)))]) (.cond 16 (.seq (.ops [pM 17 5,pM 4 17]) .ret) .skip)))) (.ops [pA 18 8 1,pM 8 18]))))))) (.seq (.ops [(none,.v (.mov 4 (.c (.int .i64 (-1)))))]) .ret)))
theorem ok126:FnOk E 126 19 [.tmp 4] mc126:=ofk func126
open Classical
theorem getD_get {α:Type} {l:List α} {i:Nat} {d:α} (h:i<l.length):l.getD i d=l[i]:=by
 simp [List.getD,h]
theorem getD_memI {l:List Int} {i:Nat} (h:i<l.length):l.getD i 0 ∈ l:=by
 rw [getD_get h];exact List.getElem_mem h
theorem mem_getD {l:List Int} {x:Int} (h:x ∈ l):∃ j,j<l.length/\l.getD j 0=x:=by
 obtain ⟨j,hj,rfl⟩:=List.getElem_of_mem h
 exact ⟨j,hj,getD_get hj⟩
def Meet (a b:List Int):Prop:=∃ x,x ∈ a/\x ∈ b
theorem c126 (l:List Int) (x:Int):ACalls E.P 126 [.view 1 (l.map (AV.int .i64)),.int .i64 x] [] (fun r H=>(∃ k,r=.int .i64 k/\(0<=k↔x ∈ l))/\H=[]):=by
 have hmax:=maxLen_eq
 refine ok126.acalls hE hm (by simp) fun N hN=>?_
 unfold mc126 pI pM pG pB pQ pL pA
 repeat' (first|(with_reducible first|(apply St.o;constructor)<;>intro _|refine ai ?_|(apply Sq.o;constructor))|((with_reducible refine keep0_i ?_);simp only [lP,seval])|simp (disch:=omega) only [lE,seval])
 rename_i hl
 refine loop_i (fun i:Nat=>i<=l.length/\∀ j,j<i->l.getD j 0≠x) (fun i=>⟨[(0,.view 1 (l.map (AV.int .i64))),(1,.int .i64 x),(7,.int .i64 l.length),(8,.int .i64 i)],[]⟩) (fun i=>l.length - i) 0 ⟨by omega,by omega⟩ (ent [] false) ?_
 rintro i ⟨hi,hj⟩
 repeat' (first|(with_reducible first|(apply St.o;constructor)<;>intro _|refine ai ?_|(apply Sq.o;constructor))|((with_reducible refine keep0_i ?_);simp only [lP,seval])|simp (disch:=omega) only [lE,seval])
 . rename_i h2 h3
   exact ⟨_,rfl,by rw [h3];exact ⟨fun _=>getD_memI (by omega),fun _=>by omega⟩⟩
 . rename_i h2 h3
   refine back_i (i+1) ⟨by omega,fun j hj2=>?_⟩ (by omega) (ent [] false)
   by_cases hji:j<i
   . exact hj j hji
   . have:j=i:=by omega
     subst this
     exact fun h=>h3 h.symm
 . refine ⟨_,rfl,?_⟩
   simp only [Int.reduceNeg,Int.reduceLE,false_iff]
   intro hx
   obtain ⟨j,hj1,hj2⟩:=mem_getD hx
   exact hj j (by omega) hj2
theorem c97 (l:List Int) (x:Int):ACalls E.P 97 [.view 1 (l.map (AV.int .i64)),.int .i64 x] [] (fun r H=>r=.bool (decide (x ∈ l))/\H=[]):=by
 refine ok97.acalls hE hm (by simp) fun N hN=>?_
 unfold mc97 pZ pM pW
 repeat' (first|(with_reducible first|(apply St.o;constructor)<;>intro _|refine ai ?_|(apply Sq.o;constructor))|((with_reducible refine keep0_i ?_);simp only [lP,seval])|simp (disch:=omega) only [lE,seval])
 refine callN_i [] true (by simp) (by simp) ?_
 simp only [lP,seval]
 refine ⟨_,c126 _ _,?_⟩
 rintro _ _ ⟨⟨k,rfl,hk⟩,rfl⟩
 simp only [lP,seval,lA,seval]
 repeat' (first|(with_reducible first|(apply St.o;constructor)<;>intro _|refine ai ?_|(apply Sq.o;constructor))|((with_reducible refine keep0_i ?_);simp only [lP,seval])|simp (disch:=omega) only [lE,seval])
 simp [hk]
def mc63:MC:=(.seq (.ops [(none,.v (.mov 2 (.c (.raw (.map none)))))]) (.seq (.ops [(none,.e (.mkmap 6)),pM 3 6]) (.seq (.seq (.ops [pM 7 0,pG 8 7,pI 9 0]) (.block 0 (.loop (.seq (.ops [pB 10 9 8]) (.seq (.cond 10 .skip (.exit 0)) (.seq (.block 1 (.seq (.ops [pQ 11 1 7 9,pL 12 11,pM 5 12]) (.ops [pM 13 3,pM 14 5,(none,.e (.mput (.int .i64) (.t 13) (.t 14) (.c (.bool true))))]))) (.ops [pA 15 9 1,pM 9 15]))))))) (.seq (.ops [pM 16 3,pM 2 16]) .ret))))
theorem ok63:FnOk E 63 17 [.tmp 2] mc63:=ofk func63
def mc66:MC:=(.seq (.ops [pK 2 0,pZ 4]) (.seq (.ops [pM 5 1,(none,.v (.fn 6 (.func 115) [] [.t 2])),pW 7 114 5 6,pM 4 7]) .ret))
theorem ok66:FnOk E 66 8 [.tmp 4] mc66:=ofk func66
def mc114:MC:=(.seq (.ops [pZ 4]) (.seq (.ops [pM 5 0,pM 6 1,pW 7 136 5 6,(none,.v (.bin 8 .geq false (.t 7) (.c (.int .i64 0)))),pM 4 8]) .ret))
theorem ok114:FnOk E 114 9 [.tmp 4] mc114:=ofk func114
def mc115:MC:=(.seq (.ops [pZ 3]) (.seq (.ops [pL 4 1,pM 5 0,(none,.p (.look 6 false (.int .i64) (.bool false) (.t 4) (.t 5))),pM 3 6]) .ret))
theorem ok115:FnOk E 115 7 [.tmp 3] mc115:=ofk func115
def mc136:MC:=(.seq (.ops [pI 4 0]) (.seq (.seq (.ops [pM 6 0,pG 7 6,pI 8 0]) (.block 0 (.loop (.seq (.ops [pB 9 8 7]) (.seq (.cond 9 .skip (.exit 0)) (.seq (.block 1 (.seq (.ops [pM 10 8,pM 5 10]) (.seq (.ops [pM 11 1,pM 12 0,pM 13 5,pQ 14 1 12 13,pL 15 14,(none,.e (.callv (some 16) (.t 11) [.t 15]))]) (.cond 16 (.seq (.ops [pM 17 5,pM 4 17]) .ret) .skip)))) (.ops [pA 18 8 1,pM 8 18]))))))) (.seq (.ops [(none,.v (.mov 4 (.c (.int .i64 (-1)))))]) .ret)))
theorem ok136:FnOk E 136 19 [.tmp 4] mc136:=ofk func136
open Classical
theorem findK_ints (x:Int):∀ (ks:List Int) (i:Nat),(x ∉ ks->findK (.int .i64) (.int .i64 x) (ks.map (AV.int .i64)) i=some none)/\(x ∈ ks->∃ j,j<ks.length/\ks.getD j 0=x/\findK (.int .i64) (.int .i64 x) (ks.map (AV.int .i64)) i=some (some (i+j)))
 | [],i=>by simp [findK]
 | k::ks,i=>by
   obtain ⟨h1,h2⟩:=findK_ints x ks (i+1)
   by_cases hk:x=k
   . subst hk
     exact ⟨fun h=>by simp at h,fun _=>⟨0,by simp,by simp,by simp [findK,eqK]⟩⟩
   . refine ⟨fun h=>?_,fun h=>?_⟩
     . simp only [List.mem_cons,not_or] at h
       simp [findK,eqK,hk,h1 h.2]
     . simp only [List.mem_cons,hk,false_or] at h
       obtain ⟨j,hj1,hj2,hj3⟩:=h2 h
       exact ⟨j+1,by simpa using hj1,by simpa using hj2,by simp [findK,eqK,hk,hj3];omega⟩
theorem look_set (ks:List Int) (x:Int):Al.look (.int .i64) (.bool false) (ks.map (AV.int .i64)) (ks.map fun _=>AV.bool true) (.int .i64 x)=some (.bool (decide (x ∈ ks)),decide (x ∈ ks)):=by
 obtain ⟨h1,h2⟩:=findK_ints x ks 0
 by_cases hx:x ∈ ks
 . obtain ⟨j,hj1,hj2,hj3⟩:=h2 hx
   simp [Al.look,keyIs,keysOk,hj3,hj1,hx]
 . simp [Al.look,keyIs,keysOk,h1 hx,hx]
theorem putK_set (ks:List Int) (x:Int) (bs:List Nat) (c:Nat):∃ (ks':List Int) (bs':List Nat) (c':Nat),putK (.int .i64) (ks.map (AV.int .i64)) (ks.map fun _=>AV.bool true) bs c (.int .i64 x) (.bool true)=some (.map (ks'.map (AV.int .i64)) (ks'.map fun _=>AV.bool true) bs' c')/\∀ y,y ∈ ks'↔(y ∈ ks\/y=x):=by
 obtain ⟨h1,h2⟩:=findK_ints x ks 0
 by_cases hx:x ∈ ks
 . obtain ⟨j,hj1,hj2,hj3⟩:=h2 hx
   refine ⟨ks,bs,c,?_,fun y=>⟨.inl,fun h=>h.elim id fun h=>h ▸ hx⟩⟩
   simp only [putK,keyIs,keysOk,Bool.and_self,beq_self_eq_true,if_true,hj3,Nat.zero_add]
   congr 2
   apply List.ext_getElem?
   intro i
   rw [List.getElem?_set]
   split
   . rename_i hij;subst hij;simp [hj1]
   . rfl
 . refine ⟨ks++[x],bs++[c],c+1,?_,fun y=>by simp⟩
   simp [putK,keyIs,keysOk,h1 hx]
def setA (ks:List Int):AV:=.mview (ks.map (AV.int .i64)) (ks.map fun _=>AV.bool true)
theorem vw_trues {H:List AObj} {l:List Nat} {n:Nat} {ks:List Int}:(ks.map fun _=>AV.bool true).map (vw H l n)=ks.map fun _=>AV.bool true:=map_same (fun _=>vw_bool) ks
theorem pa_trues {H:List AObj} {l:List Nat} {bor:Bool} {n:Nat} {ks:List Int}:(ks.map fun _=>AV.bool true).map (pa H l bor n)=ks.map fun _=>AV.bool true:=map_same (fun _=>pa_bool) ks
theorem renL_trues {ρ:Nat->Nat} {ks:List Int}:renL ρ (ks.map fun _=>AV.bool true)=ks.map fun _=>AV.bool true:=renL_map (fun _=>rfl) ks
theorem novL_trues {ks:List Int}:novL (ks.map fun _=>AV.bool true)=true:=novL_map (fun _=>rfl) ks
theorem c115 (ks:List Int) (x:Int):ACalls E.P 115 [.int .i64 x,.vp [setA ks]] [] (fun r H=>r=.bool (decide (x ∈ ks))/\H=[]):=by
 refine ok115.acalls hE hm (by simp) fun N hN=>?_
 unfold mc115 pZ pL pM setA
 repeat' (first|(with_reducible first|(apply St.o;constructor)<;>intro _|refine ai ?_|(apply Sq.o;constructor))|((with_reducible refine keep0_i ?_);simp only [lP,seval])|simp (disch:=omega) only [lE,seval,look_set])
structure Pred {α:Type} (g:FuncId) (first caps:List AV) (mk:α->AV) (p:α->Prop):Prop where
 calls:∀ x,∃ b:Bool,(b=true↔p x)/\ACalls E.P g (first++[mk x]++caps) [] (fun r H=>r=.bool b/\H=[])
 first:∀ H l bor n,first.map (pa H l bor n)=first
 caps:∀ H l bor n,caps.map (pa H l bor n)=caps
theorem c136 (l:List Int) (g:FuncId) (first caps:List AV) (p:Int->Prop) (hp:Pred g first caps (AV.int .i64) p) :
 ACalls E.P 136 [.view 1 (l.map (AV.int .i64)),.fn (.func g) first caps] [] (fun r H=>(∃ k,r=.int .i64 k/\(0<=k↔∃ x,x ∈ l/\p x))/\H=[]):=by
 have hmax:=maxLen_eq
 refine ok136.acalls hE hm (by simp) fun N hN=>?_
 unfold mc136 pI pM pG pB pQ pL pA
 repeat' (first|(with_reducible first|(apply St.o;constructor)<;>intro _|refine ai ?_|(apply Sq.o;constructor))|((with_reducible refine keep0_i ?_);simp only [lP,seval])|simp (disch:=omega) only [lE,seval])
 rename_i hl
 refine loop_i (fun i:Nat=>i<=l.length/\∀ j,j<i->¬ p (l.getD j 0)) (fun i=>⟨[(0,.view 1 (l.map (AV.int .i64))),(1,.fn (.func g) first caps),(7,.int .i64 l.length),(8,.int .i64 i)],[]⟩) (fun i=>l.length - i) 0 ⟨by omega,by omega⟩ (ent [] false (by simp only [lP,seval,hp.first,hp.caps] <;> simp) rfl) ?_
 rintro i ⟨hi,hj⟩
 repeat' (first|(with_reducible first|(apply St.o;constructor)<;>intro _|refine ai ?_|(apply Sq.o;constructor))|((with_reducible refine keep0_i ?_);simp only [lP,seval])|simp (disch:=omega) only [lE,seval])
 . refine callN_i [] true (by simp) (by simp) ?_
   simp only [lP,seval,List.map_append,hp.first,hp.caps]
   obtain ⟨b,hb,hcall⟩:=hp.calls (l.getD i 0)
   refine ⟨_,hcall,?_⟩
   rintro _ _ ⟨rfl,rfl⟩
   simp only [lP,seval,lA,seval]
   repeat' (first|(with_reducible first|(apply St.o;constructor)<;>intro _|refine ai ?_|(apply Sq.o;constructor))|((with_reducible refine keep0_i ?_);simp only [lP,seval])|simp (disch:=omega) only [lE,seval])
   . rename_i h2 h3
     exact ⟨_,rfl,fun _=>⟨_,getD_memI (by omega),hb.1 h3⟩,fun _=>by omega⟩
   . rename_i h2 h3
     refine back_i (i+1) ⟨by omega,fun j hj2=>?_⟩ (by omega) (ent [] false (by simp only [lP,seval,hp.first,hp.caps] <;> simp) rfl)
     by_cases hji:j<i
     . exact hj j hji
     . have:j=i:=by omega
       subst this
       intro hpx
       rw [hb.2 hpx] at h3
       cases h3
 . refine ⟨_,rfl,?_⟩
   simp only [Int.reduceNeg,Int.reduceLE,false_iff]
   rintro ⟨x,hx,hpx⟩
   obtain ⟨j,hj1,hj2⟩:=mem_getD hx
   exact hj j (by omega) (hj2 ▸ hpx)
theorem c114 (l:List Int) (g:FuncId) (first caps:List AV) (p:Int->Prop) (hp:Pred g first caps (AV.int .i64) p) :
 ACalls E.P 114 [.view 1 (l.map (AV.int .i64)),.fn (.func g) first caps] [] (fun r H=>r=.bool (decide (∃ x,x ∈ l/\p x))/\H=[]):=by
 refine ok114.acalls hE hm (by simp) fun N hN=>?_
 unfold mc114 pZ pM pW
 repeat' (first|(with_reducible first|(apply St.o;constructor)<;>intro _|refine ai ?_|(apply Sq.o;constructor))|((with_reducible refine keep0_i ?_);simp only [lP,seval])|simp (disch:=omega) only [lE,seval])
 refine callN_i [] true (by simp) (by simp) ?_
 simp only [lP,seval,hp.first,hp.caps]
 refine ⟨_,c136 _ _ _ _ p hp,?_⟩
 rintro _ _ ⟨⟨k,rfl,hk⟩,rfl⟩
 simp only [lP,seval,lA,seval]
 repeat' (first|(with_reducible first|(apply St.o;constructor)<;>intro _|refine ai ?_|(apply Sq.o;constructor))|((with_reducible refine keep0_i ?_);simp only [lP,seval])|simp (disch:=omega) only [lE,seval])
 simp [hk]
theorem c66 (ks l:List Int):ACalls E.P 66 [setA ks,.view 1 (l.map (AV.int .i64))] [] (fun r H=>r=.bool (decide (∃ x,x ∈ l/\x ∈ ks))/\H=[]):=by
 refine ok66.acalls hE hm (by simp) fun N hN=>?_
 unfold mc66 pK pZ pM pW
 have hp:Pred 115 [] [.vp [setA ks]] (AV.int .i64) (fun x=>x ∈ ks):=⟨fun x=>⟨_,by simp,c115 ks x⟩,by simp,by simp [pa_vp]⟩
 simp only [setA] at hp ⊢
 repeat' (first|(with_reducible first|(apply St.o;constructor)<;>intro _|refine ai ?_|(apply Sq.o;constructor))|((with_reducible refine keep0_i ?_);simp only [lP,seval])|simp (disch:=omega) only [lE,seval])
 refine callN_i [] true (by simp) (by simp) ?_
 simp only [lP,seval]
 refine ⟨_,c114 _ _ _ _ _ hp,?_⟩
 rintro _ _ ⟨rfl,rfl⟩
 simp only [lP,seval,lA,seval]
 repeat' (first|(with_reducible first|(apply St.o;constructor)<;>intro _|refine ai ?_|(apply Sq.o;constructor))|((with_reducible refine keep0_i ?_);simp only [lP,seval])|simp (disch:=omega) only [lE,seval])
 all_goals try (exfalso;omega)
 all_goals simp
theorem c63 (l:List Int):ACalls E.P 63 [.view 1 (l.map (AV.int .i64))] [] (fun r H=>r=.mp 0/\∃ (ks:List Int) (bs:List Nat) (c:Nat),H=[.map (ks.map (AV.int .i64)) (ks.map fun _=>AV.bool true) bs c]/\∀ x,x ∈ ks↔x ∈ l):=by
 have hmax:=maxLen_eq
 refine ok63.acalls hE hm (by simp) fun N hN=>?_
 unfold mc63 pM pG pI pB pQ pL pA
 repeat' (first|(with_reducible first|(apply St.o;constructor)<;>intro _|refine ai ?_|(apply Sq.o;constructor))|simp (disch:=omega) only [lE,seval])
 rename_i hl
 refine loop_i (X:=Nat × List Int × List Nat × Nat) (fun x=>x.1<=l.length/\∀ y,y ∈ x.2.1↔∃ j,j<x.1/\l.getD j 0=y) (fun x=>⟨[(3,.mp 0),(7,.view 1 (l.map (AV.int .i64))),(8,.int .i64 l.length),(9,.int .i64 x.1)],[.map (x.2.1.map (AV.int .i64)) (x.2.1.map fun _=>AV.bool true) x.2.2.1 x.2.2.2]⟩) (fun x=>l.length - x.1) (0,[],[],0) ⟨by simp,by simp⟩ (ent [0] false) ?_
 rintro ⟨i,ks,bs,c⟩ ⟨hi,hks⟩
 simp only at hi hks
 repeat' (first|(with_reducible first|(apply St.o;constructor)<;>intro _|refine ai ?_|(apply Sq.o;constructor))|simp (disch:=omega) only [lE,seval])
 . rename_i h2
   obtain ⟨ks',bs',c',h3,h4⟩:=putK_set ks (l.getD i 0) bs c
   simp only [Int.toNat_natCast,h3]
   repeat' (first|(with_reducible first|(apply St.o;constructor)<;>intro _|refine ai ?_|(apply Sq.o;constructor))|simp (disch:=omega) only [lE,seval])
   refine back_i (i+1,ks',bs',c') ⟨by simp only;omega,fun y=>?_⟩ (by simp only;omega) (ent [0] false (by simp only [lP,seval]<;>(try simp) <;> omega) (by simp only [lP,seval,pa_trues]))
   simp only [h4,hks]
   constructor
   . rintro (⟨j,hj1,hj2⟩ | h)
     . exact ⟨j,by omega,hj2⟩
     . exact ⟨i,by omega,h.symm⟩
   . rintro ⟨j,hj1,hj2⟩
     by_cases hji:j<i
     . exact .inl ⟨j,hji,hj2⟩
     . have:j=i:=by omega
       subst this
       exact .inr hj2.symm
 . refine keep_i [0] false (by simp) (by simp) rfl ?_
   simp only [lP,seval,pa_trues]
   refine ⟨ks,bs,c,rfl,fun x=>?_⟩
   rw [hks]
   constructor
   . rintro ⟨j,hj1,rfl⟩
     exact getD_memI (by omega)
   . intro hx
     obtain ⟨j,hj1,hj2⟩:=mem_getD hx
     exact ⟨j,by omega,hj2⟩
abbrev q62_0:MI:=oZ 2
def mc62:MC:=(.seq (.ops [pK 1 0,(none,q62_0)]) (.seq (.block 0 (.seq (.seq (.ops [pF 4 0 1,pL 5 4,(none,.v (.bin 6 .lss false (.t 5) (.c (.int .i64 0)))),pM 3 6]) (.cond 3 .skip (.seq (.ops [pF 7 0 1,pL 8 7,(none,.v (.bin 9 .gtr false (.t 8) (.c (.int .i64 2)))),pM 3 9]) (.cond 3 .skip (.seq (.ops [pF 10 1 1,pL 11 10,(none,.v (.bin 12 .lss false (.t 11) (.c (.int .i64 0)))),pM 3 12]) (.cond 3 .skip (.seq (.ops [pF 13 1 1,pL 14 13,(none,.v (.bin 15 .gtr false (.t 14) (.c (.int .i64 1073741824)))),pM 3 15]) (.cond 3 .skip (.seq (.ops [pF 16 4 1,pL 17 16,pV 18 113 17,pN 19 18,pM 3 19]) (.cond 3 .skip (.ops [pF 20 5 1,pL 21 20,pV 22 113 21,pN 23 22,pM 3 23]))))))))))) (.cond 3 (.seq (.ops [(none,q62_0)]) .ret) (.seq (.ops [pF 25 0 1,pL 26 25,pE 27 26 2,pM 28 27,gT 28 (oF 29 5 1),gT 28 (oL 30 29),gT 28 (oG 31 30),(some (28,true),.v (.bin 32 .gtr false (.t 31) (.c (.int .i64 0)))),pP 33 28 32,pM 24 33]) (.cond 24 (.seq (.ops [(none,q62_0)]) .ret) (.seq (.ops [pR 35 6 1,pV 36 64 35,pM 34 36]) (.cond 34 (.seq (.ops [pF 37 1 1,pL 38 37,pF 39 3 1,pL 40 39,pB 41 38 40,pM 42 41,gT 42 (oF 43 3 1),gT 42 (oL 44 43),(some (42,true),.v (.bin 45 .leq false (.t 44) (.c (.int .i64 1073741824)))),pP 46 42 45,pM 2 46]) .ret) .skip))))))) (.seq (.ops [pF 47 3 1,pL 48 47,pE 49 48 0,pM 2 49]) .ret)))
theorem ok62:FnOk E 62 50 [.tmp 2] mc62:=ofk func62
def mc65:MC:=(.seq (.ops [pK 2 0,pK 3 1,pZ 4]) (.seq (.ops [pF 5 1 2,pL 6 5,pF 7 3 3,pL 8 7,pB 9 6 8,pM 10 9,gT 10 (oF 11 1 3),gT 10 (oL 12 11),gT 10 (oF 13 3 2),gT 10 (oL 14 13),gT 10 (oB 15 12 14),pP 16 10 15,pM 4 16]) .ret))
theorem ok65:FnOk E 65 17 [.tmp 4] mc65:=ofk func65
open Classical
def Acc.Formed (x:Acc):Prop:=0<=x.mode/\x.mode<=2/\0<=x.snap/\x.snap<=1073741824/\Asc x.reads/\Asc x.writes/\¬ (x.mode=2/\0<x.writes.length) /\
 (x.writer=true->x.snap<x.stamp/\x.stamp<=1073741824)/\(x.writer=false->x.stamp=0)
set_option maxHeartbeats 16000000
theorem c62 (x:Acc):ACalls E.P 62 [accA x] [] (fun r H=>r=.bool (decide x.Formed)/\H=[]):=by
 have h45:=c64 x
 refine ok62.acalls hE hm (by simp) fun N hN=>?_
 unfold mc62 q62_0 pK pF pL pM pV pN pE pP pR pB gT oL oF oZ oG
 simp only [accA_eq] at h45 ⊢
 repeat' (first|(with_reducible first|(apply St.o;constructor)<;>intro _|refine ai ?_|(apply Sq.o;constructor))|((with_reducible apply Sc.o true;constructor);simp only [lP,seval];(first|refine ⟨_,c113 _,?_⟩|refine ⟨_,h45,?_⟩);rintro _ _ ⟨rfl,rfl⟩;simp only [lA,lP,seval])|((with_reducible refine keep0_i ?_);simp only [lP,seval])|simp (disch:=omega) only [lE,seval])
 all_goals try (exfalso;omega)
 all_goals refine congrArg AV.bool (Bool.eq_iff_iff.2 ?_)
 all_goals simp only [decide_eq_true_eq,Bool.false_eq_true,Acc.Formed,Bool.and_eq_false_imp,decide_eq_false_iff_not]
 all_goals grind
theorem c65 (x y:Acc):ACalls E.P 65 [accA x,accA y] [] (fun r H=>r=.bool (decide (x.snap<y.stamp) && decide (y.snap<x.stamp))/\H=[]):=by
 refine ok65.acalls hE hm (by simp) fun N hN=>?_
 unfold mc65 pK pZ pF pL pB pM pP gT oL oF oB
 simp only [accA_eq]
 repeat' (first|(with_reducible first|(apply St.o;constructor)<;>intro _|refine ai ?_|(apply Sq.o;constructor))|((with_reducible refine keep0_i ?_);simp only [lP,seval])|simp (disch:=omega) only [lE,seval])
 all_goals try (exfalso;omega)
 all_goals refine congrArg AV.bool (Bool.eq_iff_iff.2 ?_)
 all_goals simp only [decide_eq_true_eq,Bool.false_eq_true,Bool.and_eq_true]
 all_goals grind
end Go.Proofs.Try
