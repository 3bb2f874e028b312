/-
 A part of the proof.
-/
import Derived.Test.YtfhoeghdioofmaaGreatKhh
set_option linter.unusedSimpArgs false
set_option linter.unusedVariables false
namespace Go.Proofs.Try
open Go.Proofs.Tryz
open Go.Al
set_option maxRecDepth 100000
def mc70:MC:=(.seq (.ops [pZ 7]) (.seq (.ops [pM 8 0,pL 9 3,(none,.v (.bin 10 .eql false (.t 8) (.t 9))),pM 11 10,gF 11 (oM 12 1),gF 11 (oL 13 3),(some (11,false),.v (.bin 14 .eql false (.t 12) (.t 13))),pO 15 11 14,pM 16 15,gF 16 (oM 17 2),gF 16 (oL 18 3),(some (16,false),.v (.bin 19 .eql false (.t 17) (.t 18))),pO 20 16 19,pM 7 20]) .ret))
theorem ok70:FnOk E 70 21 [.tmp 7] mc70:=ofk func70
abbrev q90_0:MI:=oZ 4
def mc90:MC:=(.seq (.ops [pK 2 0,pK 3 1,(none,q90_0)]) (.seq (.ops [pL 8 2,pV 9 68 8,pM 5 9]) (.seq (.seq (.ops [pM 10 5,(none,.v (.eq 11 false .ptr (.t 10) (.c (.raw (.pointer none))))),pM 12 11,gF 12 (oL 13 3),(some (12,false),.v (.bin 14 .lss false (.t 13) (.c (.int .i64 0)))),pO 15 12 14,pM 16 15,gF 16 (oL 17 3),(some (16,false),.v (.bin 18 .gtr false (.t 17) (.c (.int .i64 1073741824)))),pO 19 16 18]) (.cond 19 (.seq (.ops [(none,q90_0)]) .ret) .skip)) (.seq (.seq (.ops [pL 20 2,pG 21 20,pI 22 0]) (.block 0 (.loop (.seq (.ops [pB 23 22 21]) (.seq (.cond 23 .skip (.exit 0)) (.seq (.block 1 (.seq (.ops [pQ 24 6 20 22,pR 25 6 24,(none,.e (.alloc 7 z0)),pS 6 7 25]) (.seq (.ops [pF 26 2 7,pL 27 26,pN 28 27,pM 29 28,gT 29 (oF 30 0 7),gT 29 (oL 31 30),gT 29 (oD 32 31 2),pP 33 29 32,pM 34 33,gT 34 (oF 35 1 7),gT 34 (oL 36 35),gT 34 (oL 37 3),gT 34 (oB 38 36 37),pP 39 34 38]) (.cond 39 (.seq (.ops [(none,q90_0)]) .ret) .skip)))) (.ops [pA 40 22 1,pM 22 40]))))))) (.seq (.ops [pM 41 5,(none,.e (.call (some 42) 121 [.t 41,.c (.int .i64 2)])),(none,.v (.fn 43 (.func 122) [] [.t 2,.t 3])),pW 44 120 42 43,pN 45 44,pM 4 45]) .ret)))))
theorem ok90:FnOk E 90 46 [.tmp 4] mc90:=ofk func90
def mc120:MC:=(.seq (.ops [pZ 4]) (.seq (.ops [pM 5 0,pM 6 1,pW 7 140 5 6,(none,.v (.bin 8 .geq false (.t 7) (.c (.int .i64 0)))),pM 4 8]) .ret))
theorem ok120:FnOk E 120 9 [.tmp 4] mc120:=ofk func120
def mc122:MC:=(.seq (.ops [pK 3 0,pZ 4]) (.seq (.any false (.pure0 none (oL 5 1) (.pure0 none (.p (.aidx 6 2 1 (.t 3) (.c (.int .i64 0)))) (.pure0 none (oL 7 6) (.pure0 none (oQ 8 6 5 7) (.pure0 none (oF 9 3 8) (.pure0 none (oL 10 9) (.pure0 none (oL 11 2) (.pure0 none (.v (.bin 12 .gtr false (.t 10) (.t 11))) (.pure0 none (oM 13 12) (.pure0 (some (13,true)) (oL 14 1) (.pure0 (some (13,true)) (.p (.aidx 15 2 1 (.t 3) (.c (.int .i64 1)))) (.pure0 (some (13,true)) (oL 16 15) (.pure0 (some (13,true)) (oQ 17 6 14 16) (.pure0 (some (13,true)) (oF 18 3 17) (.pure0 (some (13,true)) (oL 19 18) (.pure0 (some (13,true)) (oL 20 2) (.pure0 (some (13,true)) (.v (.bin 21 .leq false (.t 19) (.t 20))) (.pure0 none (oP 22 13 21) (.pure0 none (oM 4 22) .done)))))))))))))))))))) .ret))
theorem ok122:FnOk E 122 23 [.tmp 4] mc122:=ofk func122
def mc140:MC:=(.seq (.ops [pI 4 0]) (.seq (.seq (.ops [pM 6 0,pG 7 6,pI 8 0]) (.block 0 (.loop (.seq (.ops [pB 9 8 7]) (.seq (.cond 9 .skip (.exit 0)) (.seq (.block 1 (.seq (.ops [pM 10 8,pM 5 10]) (.seq (.ops [pM 11 1,pM 12 0,pM 13 5,pQ 14 2 12 13,pR 15 2 14,(none,.e (.callv (some 16) (.t 11) [.t 15]))]) (.cond 16 (.seq (.ops [pM 17 5,pM 4 17]) .ret) .skip)))) (.ops [pA 18 8 1,pM 8 18]))))))) (.seq (.ops [(none,.v (.mov 4 (.c (.int .i64 (-1)))))]) .ret)))
theorem ok140:FnOk E 140 19 [.tmp 4] mc140:=ofk func140
open Classical
set_option maxHeartbeats 16000000
theorem c70 (a b c i:Nat):ACalls E.P 70 [.int .i64 a,.int .i64 b,.int .i64 c,.vp [.int .i64 i]] [] (fun r H=>r=.bool (decide (a=i\/b=i\/c=i))/\H=[]):=by
 refine ok70.acalls hE hm (by simp) fun N hN=>?_
 unfold mc70 pZ pM pL pO gF oM oL
 repeat' (first|(with_reducible first|(apply St.o;constructor)<;>intro _|refine ai ?_|(apply Sq.o;constructor))|((with_reducible refine keep0_i ?_);simp only [lP,seval])|simp (disch:=omega) only [lE,seval])
 all_goals try (exfalso;omega)
 all_goals refine congrArg AV.bool (Bool.eq_iff_iff.2 ?_)
 all_goals simp
 all_goals omega
def Spoil (h:List Acc) (s:Int) (p:Nat × Nat):Prop:=s<(at' h p.1).stamp/\(at' h p.2).stamp<=s
theorem c122 (h:List Acc) (s:Int) (a b:Nat) (ha:a<h.length) (hb:b<h.length):ACalls E.P 122 [.agg [.int .i64 (a:Int),.int .i64 (b:Int)],.vp [.view 6 (h.map accA)],.vp [.int .i64 s]] [] (fun r H=>r=.bool (decide (Spoil h s (a,b)))/\H=[]):=by
 refine ok122.acalls hE hm (by simp) fun N hN=>?_
 unfold mc122 pK pZ oM oL oF oP oQ
 have e1:∀ {m N d k},IdxR E.P m N (h.map accA) (a:Int) d k=rK E.P m N k d (.vp (accC (at' h a))):=IdxR_at ha
 have e2:∀ {m N d k},IdxR E.P m N (h.map accA) (b:Int) d k=rK E.P m N k d (.vp (accC (at' h b))):=IdxR_at hb
 repeat' (first|(with_reducible apply St.o;constructor) <;> intro _|(with_reducible first|refine ai ?_|(apply Sp.o;constructor)|refine mkl_own ?_|refine ap_own ?_|refine base0_i ?_|refine any00_i ?_|refine frz0_i ?_|refine any_i [] ?_)|((with_reducible refine keep0_i ?_);simp only [lP,seval])|simp (disch:=omega) only [lE,seval,e1,e2,accC])
 all_goals try (exfalso;omega)
 all_goals refine congrArg AV.bool (Bool.eq_iff_iff.2 ?_)
 all_goals simp only [Spoil,decide_eq_true_eq,Bool.false_eq_true,false_iff]
 all_goals first | omega | grind
theorem getD_ge {α:Type} [Inhabited α] {l:List α} {i:Nat} (h:i<l.length):l.getD i default=l[i]:=by simp [h]
theorem IdxR_prs {P:Program} {m:Nat} {N:FN} {l:List (Nat × Nat)} {i d:Nat} {c:Kn} (hi:i<l.length):IdxR P m N (l.map pairA) (i:Int) d c=rK P m N c d (.vp [.int .i64 (l.getD i default).1,.int .i64 (l.getD i default).2]):=by
 rw [IdxR_map (f:=pairA) (xs:=l) (dflt:=default) (cs:=fun p=>[.int .i64 p.1,.int .i64 p.2]) (fun _=>rfl) (by omega) (by omega),Int.toNat_natCast]
theorem c140 (h:List Acc) (s:Int) (l:List (Nat × Nat)) (hl:∀ p ∈ l,p.1<h.length/\p.2<h.length):ACalls E.P 140 [.view 2 (l.map pairA),.fn (.func 122) [] [.vp [.view 6 (h.map accA)],.vp [.int .i64 s]]] [] (fun r H=>(∃ k,r=.int .i64 k/\(0<=k↔∃ p,p ∈ l/\Spoil h s p))/\H=[]):=by
 have hmax:=maxLen_eq
 refine ok140.acalls hE hm (by simp) fun N hN=>?_
 unfold mc140 pI pM pG pB pQ pR pA
 repeat' (first|(with_reducible first|(apply St.o;constructor)<;>intro _|refine ai ?_|(apply Sq.o;constructor))|((with_reducible refine keep0_i ?_);simp only [lP,seval])|simp (disch:=omega) only [lE,seval])
 refine loop_i (fun i:Nat=>i<=l.length/\∀ j,j<i->¬ Spoil h s (l.getD j default)) (fun i=>⟨[(0,.view 2 (l.map pairA)),(1,.fn (.func 122) [] [.vp [.view 6 (h.map accA)],.vp [.int .i64 s]]),(7,.int .i64 l.length),(8,.int .i64 i)],[]⟩) (fun i=>l.length - i) 0 ⟨by omega,by omega⟩ (ent [] false (by simp only [lP,seval,pa_accs]<;>(try simp)<;>(try omega)) (by simp only [lP,seval,pa_accs]<;>(try simp)<;>(try omega))) ?_
 rintro i ⟨hi,hj⟩
 by_cases hin:i<l.length
 . have e1:∀ {m N d k},IdxR E.P m N (l.map pairA) (i:Int) d k=rK E.P m N k d (.vp [.int .i64 (l.getD i default).1,.int .i64 (l.getD i default).2]):=IdxR_prs hin
   have hm:l.getD i default ∈ l:=by rw [getD_ge hin];exact List.getElem_mem hin
   generalize hq:l.getD i default=q at *
   have k1:=c122 h s q.1 q.2 (hl q hm).1 (hl q hm).2
   repeat' (first|(with_reducible first|(apply St.o;constructor)<;>intro _|refine ai ?_|(apply Sq.o;constructor))|((with_reducible apply Sc.o true;constructor);simp only [lP,seval,e1];refine ⟨_,k1,?_⟩;rintro _ _ ⟨rfl,rfl⟩;simp only [lA,lP,seval,e1])|((with_reducible refine keep0_i ?_);simp only [lP,seval])|simp (disch:=omega) only [lE,seval,e1])
   all_goals try (exfalso;omega)
   all_goals try (exfalso;omega)
   all_goals clear e1 k1
   . rename_i hsp
     exact ⟨_,rfl,fun _=>⟨q,hm,hsp⟩,fun _=>by omega⟩
   . rename_i hsp
     refine back_i (i+1) ⟨by omega,fun j hj2=>?_⟩ (by omega) (ent [] false (by simp only [lP,seval,pa_accs]<;>(try simp)<;>(try omega)) (by simp only [lP,seval,pa_accs]<;>(try simp)<;>(try omega)))
     by_cases hji:j<i
     . exact hj j hji
     . have:j=i:=by omega
       subst this
       rw [hq];exact hsp
 . repeat' (first|(with_reducible first|(apply St.o;constructor)<;>intro _|refine ai ?_|(apply Sq.o;constructor))|((with_reducible refine keep0_i ?_);simp only [lP,seval])|simp (disch:=omega) only [lE,seval])
   all_goals try (exfalso;omega)
   refine ⟨_,rfl,?_⟩
   constructor
   . intro h;omega
   . rintro ⟨p,hp,hs⟩
     obtain ⟨j,hj1,rfl⟩:=List.getElem_of_mem hp
     refine absurd ?_ (hj j (by omega))
     rw [getD_ge hj1];exact hs
theorem c120 (h:List Acc) (s:Int) (l:List (Nat × Nat)) (hl:∀ p ∈ l,p.1<h.length/\p.2<h.length):ACalls E.P 120 [.view 2 (l.map pairA),.fn (.func 122) [] [.vp [.view 6 (h.map accA)],.vp [.int .i64 s]]] [] (fun r H=>r=.bool (decide (∃ p,p ∈ l/\Spoil h s p))/\H=[]):=by
 refine ok120.acalls hE hm (by simp) fun N hN=>?_
 unfold mc120 pZ pM pW
 have k1:=c140 h s l hl
 repeat' (first|(with_reducible first|(apply St.o;constructor)<;>intro _|refine ai ?_|(apply Sq.o;constructor))|((with_reducible apply Sc.o true;constructor);simp only [lP,seval,pa_pairs,pa_accs];refine ⟨_,k1,?_⟩;rintro _ _ ⟨⟨k,rfl,hk⟩,rfl⟩;simp only [lA,lP,seval,pa_pairs,pa_accs])|((with_reducible refine keep0_i ?_);simp only [lP,seval])|simp (disch:=omega) only [lE,seval,pa_pairs,pa_accs])
 all_goals try (exfalso;omega)
 all_goals simp [<- hk]
theorem mem_pairsTo {p:Nat->Nat->Prop} {n i:Nat} {q:Nat × Nat}:q ∈ pairsTo p n i↔q.1<i/\q.2<n/\p q.1 q.2:=by
 simp only [pairsTo,rowP,List.mem_flatMap,List.mem_range,List.mem_map,List.mem_filter,decide_eq_true_eq]
 constructor
 . rintro ⟨k,hk,j,⟨hj,hp⟩,rfl⟩;exact ⟨hk,hj,hp⟩
 . rintro ⟨h1,h2,h3⟩;exact ⟨q.1,h1,q.2,⟨h2,h3⟩,rfl⟩
structure SafeS (h:List Acc) (s:Int):Prop where
 check:checkS h=0
 lo:0<=s
 hi:s<=1073741824
 old:∀ i,i<h.length->¬ ((at' h i).done=false/\(at' h i).mode≠2/\(at' h i).snap<s)
 anti:¬ ∃ p,p ∈ pairsTo (Anti h) h.length h.length/\Spoil h s p
theorem c90 (h:List Acc) (s:Int):ACalls E.P 90 [.view 6 (h.map accA),.int .i64 s] [] (fun r H=>r=.bool (decide (SafeS h s))/\H=[]):=by
 have hmax:=maxLen_eq
 refine ok90.acalls hE hm (by simp) fun N hN=>?_
 unfold mc90 q90_0 z0 pK pL pV pM pO pG pI pB pQ pR pS pF pN pP pA pW gF gT oL oF oD oB oZ
 have h50:=c68 h
 by_cases hck:checkS h=0
 . have h51:=c121 h 2 (Anti h) (kind_anti h) (checkS_len hck)
   have h73:=c120 h s (pairsTo (Anti h) h.length h.length) (fun p hp=>by have:=mem_pairsTo.1 hp;exact ⟨this.1,this.2.1⟩)
   simp only [graphA,hck,if_true] at h50 h51
   repeat' (first|(with_reducible first|(apply St.o;constructor)<;>intro _|refine ai ?_|(apply Sq.o;constructor))|((with_reducible apply Sc.o false;constructor);simp only [lP,seval,vw_accs];refine ⟨_,h50,?_⟩;rintro _ _ ⟨rfl,rfl⟩;simp only [lA,lP,seval,vw_accs])|simp (disch:=omega) only [lE,seval,vw_accs])
   . have:¬ SafeS h s:=fun hs=>by have:=hs.hi;omega
     repeat' (first|(with_reducible first|(apply St.o;constructor)<;>intro _|refine ai ?_|(apply Sq.o;constructor))|((with_reducible refine keep0_i ?_);simp only [lP,seval])|simp (disch:=omega) only [lE,seval])
     simp [this]
   . refine loop_i (fun i:Nat=>i<=h.length/\∀ j,j<i->¬ ((at' h j).done=false/\(at' h j).mode≠2/\(at' h j).snap<s))
      (fun i=>⟨[(2,.op 0 0),(3,.op 1 0),(5,.vp [.view 6 (h.map accA),.view 1 ((List.range h.length).map (rowA h))]),(20,.view 6 (h.map accA)),(21,.int .i64 h.length),(22,.int .i64 i)],[.box [.view 6 (h.map accA)],.box [.int .i64 s]]⟩) (fun i=>h.length - i) 0 ⟨by omega,by omega⟩ (ent [0,1] false (by simp only [lP,seval,pa_accs]<;>(try simp)<;>(try omega)) (by simp only [lP,seval,pa_accs]<;>(try simp)<;>(try omega))) ?_
     rintro i ⟨hi,hj⟩
     by_cases hin:i<h.length
     . have e1:∀ {m N d k},IdxR E.P m N (h.map accA) (i:Int) d k=rK E.P m N k d (.vp (accC (at' h i))):=IdxR_at hin
       have hold:SafeS h s->_:=fun hs=>hs.old i hin
       have hback:¬ ((at' h i).done=false/\(at' h i).mode≠2/\(at' h i).snap<s)->∀ j,j<i+1->¬ ((at' h j).done=false/\(at' h j).mode≠2/\(at' h j).snap<s):=fun hh j hj2=>by
        by_cases e:j=i
        . subst e;exact hh
        . exact hj j (by omega)
       generalize at' h i=x at *
       repeat' (first|(with_reducible first|(apply St.o;constructor)<;>intro _|refine ai ?_|(apply Sq.o;constructor))|((with_reducible refine keep0_i ?_);simp only [lP,seval])|simp (disch:=omega) only [lE,seval,e1,accC])
       all_goals try (exfalso;omega)
       all_goals try (exfalso;omega)
       all_goals clear e1
       all_goals first
        | (refine back_i (i+1) ⟨by omega,hback (by simp_all)⟩ (by omega) (ent [0,1] false (by simp only [lP,seval,pa_accs]<;>(try simp)<;>(try omega)) (by simp only [lP,seval,pa_accs]<;>(try simp)<;>(try omega))))
        | (have:¬ SafeS h s:=fun hs=>hold hs (by simp_all)
           simp [this])
     . have e:i=h.length:=by omega
       subst e
       repeat' (first|(with_reducible first|(apply St.o;constructor)<;>intro _|refine ai ?_|(apply Sq.o;constructor))|((with_reducible apply Sc.o true;constructor);simp only [lP,seval,vw_accs,vw_pairs,pa_pairs,pa_accs];refine ⟨_,h73,?_⟩;rintro _ _ ⟨rfl,rfl⟩;simp only [lA,lP,seval,vw_accs,vw_pairs,pa_pairs,pa_accs])|((with_reducible apply Sc.o false;constructor);simp only [lP,seval,vw_accs,vw_pairs,pa_pairs,pa_accs];refine ⟨_,h51,?_⟩;rintro _ _ ⟨rfl,rfl⟩;simp only [lA,lP,seval,vw_accs,vw_pairs,pa_pairs,pa_accs])|((with_reducible refine keep0_i ?_);simp only [lP,seval])|simp (disch:=omega) only [lE,seval,vw_accs,vw_pairs,pa_pairs,pa_accs])
       all_goals try (exfalso;omega)
       all_goals try (exfalso;omega)
       have:SafeS h s↔¬ ∃ p,p ∈ pairsTo (Anti h) h.length h.length/\Spoil h s p:=⟨fun hs=>hs.anti,fun hh=>⟨hck,by omega,by omega,hj,hh⟩⟩
       by_cases hh:∃ p,p ∈ pairsTo (Anti h) h.length h.length/\Spoil h s p <;> simp only [this,hh,not_true_eq_false,not_false_eq_true,decide_true,decide_false,Bool.not_true,Bool.not_false]
   . have:¬ SafeS h s:=fun hs=>by have:=hs.lo;omega
     repeat' (first|(with_reducible first|(apply St.o;constructor)<;>intro _|refine ai ?_|(apply Sq.o;constructor))|((with_reducible refine keep0_i ?_);simp only [lP,seval])|simp (disch:=omega) only [lE,seval])
     simp [this]
 . have:¬ SafeS h s:=fun hs=>hck hs.check
   simp only [hck,if_false] at h50
   repeat' (first|(with_reducible first|(apply St.o;constructor)<;>intro _|refine ai ?_|(apply Sq.o;constructor))|((with_reducible apply Sc.o false;constructor);simp only [lP,seval,vw_accs];refine ⟨_,h50,?_⟩;rintro _ _ ⟨rfl,rfl⟩;simp only [lA,lP,seval,vw_accs])|((with_reducible refine keep0_i ?_);simp only [lP,seval])|simp (disch:=omega) only [lE,seval,vw_accs])
   all_goals try (exfalso;omega)
   all_goals simp [this]
def mc67:MC:=(.seq (.ops [pY 2]) (.seq (.seq (.ops [pM 3 0,(none,.v (.eq 4 false .slc (.t 3) (.c (.raw (.slice none 0 0)))))]) (.cond 4 (.seq (.ops [pY 2]) .ret) .skip)) (.seq (.ops [(none,.e (.mkl 5 43 6 0 (.agg z0) [])),pM 6 0,(none,.e (.app 7 43 6 80 (.t 5) (.t 6))),pM 2 7]) .ret)))
theorem ok67:FnOk E 67 8 [.tmp 2] mc67:=ofk func67
open Classical
def withS (h:List Acc) (n:Nat) (s:Int):List Acc:=h.set n { at' h n with done:=true,stamp:=s }
def doneS (h:List Acc) (n:Nat):List Acc:=h.set n { at' h n with done:=true }
theorem accs_get {h:List Acc} {n:Nat} (hn:n<h.length):(h.map accA)[n]?=some (.agg (accC (at' h n))):=by
 simp [hn,accA]
theorem accAt_set {h:List Acc} {n:Nat} {x:Acc} (hn:n<h.length):at' (h.set n x) n=x:=by
 simp [at',hn]
theorem accAt_set_ne {h:List Acc} {n m:Nat} {x:Acc} (hn:m≠n):at' (h.set n x) m=at' h m:=by
 simp [at',List.getElem?_set,Ne.symm hn]
theorem st_done {P:Program} {m:Nat} {N:FN} {h:List Acc} {id n:Nat} {x:AV} {E':TypeId} {fr:List (Nat × AV)} {H:List AObj} {q:Ke} (hn:n<h.length) :
 stE P m N (some (.arr E' 6 (h.map accA))) 1 [.bool true] x id 6 n 2 fr H q=rE P m N q fr (H.set id (.arr E' 6 ((doneS h n).map accA))):=by
 unfold stE doneS
 simp only [accs_get hn]
 simp [accC,accA,setAt,List.map_set]
theorem st_stamp {P:Program} {m:Nat} {N:FN} {h:List Acc} {id n:Nat} {x:AV} {v:Int} {E':TypeId} {fr:List (Nat × AV)} {H:List AObj} {q:Ke} (hn:n<h.length) :
 stE P m N (some (.arr E' 6 (h.map accA))) 1 [.int .i64 v] x id 6 n 3 fr H q=rE P m N q fr (H.set id (.arr E' 6 ((h.set n { at' h n with stamp:=v }).map accA))):=by
 unfold stE
 simp only [accs_get hn]
 simp [accC,accA,setAt,List.map_set]
theorem withS_eq {h:List Acc} {n:Nat} {s:Int} (hn:n<h.length):(doneS h n).set n { at' (doneS h n) n with stamp:=s }=withS h n s:=by
 unfold doneS
 rw [accAt_set hn,List.set_set];rfl
theorem doneS_len {h:List Acc} {n:Nat}:(doneS h n).length=h.length:=by simp [doneS]
theorem st_with {P:Program} {m:Nat} {N:FN} {h:List Acc} {id n:Nat} {x:AV} {v:Int} {E':TypeId} {fr:List (Nat × AV)} {H:List AObj} {q:Ke} (hn:n<h.length) :
 stE P m N (some (.arr E' 6 ((doneS h n).map accA))) 1 [.int .i64 v] x id 6 n 3 fr H q=rE P m N q fr (H.set id (.arr E' 6 ((withS h n v).map accA))):=by
 rw [st_stamp (by rw [doneS_len];exact hn),withS_eq hn]
theorem withS_len {h:List Acc} {n:Nat} {s:Int}:(withS h n s).length=h.length:=by simp [withS]
theorem c67 (h:List Acc) (hn:h≠[]) (hl:h.length<=100):ACalls E.P 67 [.view 6 (h.map accA)] [] (fun r H=>r=.slc 0 6 h.length/\H=[.arr 43 6 (h.map accA)]):=by
 have hmax:=maxLen_eq
 refine ok67.acalls hE hm (by simp) fun N hN=>?_
 unfold mc67 z0 pY pM
 obtain ⟨x,xs,rfl⟩:=List.exists_cons_of_ne_nil hn
 have hl':xs.length+1<=100:=by simpa using hl
 repeat' (first|(with_reducible first|(apply St.o;constructor)<;>intro _|refine ai ?_|(apply Sq.o;constructor))|simp (disch:=omega) only [lE,seval])
 refine keep_i [1] false (by simp) (by simp) rfl ?_
 simp only [lP,seval,accA_eq,paR_some]
 simp [pa_int,pa_bool,pa_view,pa_agg,accA_eq]
def lastTo (h:List Acc):Nat->Int
 | 0=>0
 | m+1=>max (max (lastTo h m) (at' h m).stamp) (at' h m).snap
def lastS (h:List Acc):Int:=lastTo h h.length
theorem max3 (a b c:Int):(if c > (if b > a then b else a) then c else (if b > a then b else a))=max (max a b) c:=by
 split <;> split <;> omega
open Classical
theorem lastTo_ge {h:List Acc}:∀ {m:Nat},0<=lastTo h m/\∀ k,k<m->(at' h k).stamp<=lastTo h m/\(at' h k).snap<=lastTo h m
 | 0=>⟨by simp [lastTo],fun k hk=>by omega⟩
 | m+1=>by
   obtain ⟨h1,h2⟩:=lastTo_ge (h:=h) (m:=m)
   simp only [lastTo]
   refine ⟨by omega,fun k hk=>?_⟩
   by_cases e:k=m
   . subst e;constructor <;> omega
   . obtain ⟨a,b⟩:=h2 k (by omega)
     constructor <;> omega
theorem lastS_ge {h:List Acc} {k:Nat} (hk:k<h.length):(at' h k).stamp<=lastS h/\(at' h k).snap<=lastS h:=lastTo_ge.2 k hk
theorem lastS_nn {h:List Acc}:0<=lastS h:=lastTo_ge.1
theorem check_zero {h:List Acc}:checkS h=0↔¬ Big h/\¬ Bad h/\¬ Clash h:=by
 unfold checkS
 by_cases h1:Big h <;> by_cases h2:Bad h <;> by_cases h3:Clash h <;> simp [h1,h2,h3]
theorem at_with {h:List Acc} {n:Nat} {s:Int} (hn:n<h.length):at' (withS h n s) n={ at' h n with done:=true,stamp:=s }:=accAt_set hn
theorem at_with_ne {h:List Acc} {n m:Nat} {s:Int} (hm:m≠n):at' (withS h n s) m=at' h m:=accAt_set_ne hm
def stampS (h:List Acc) (n:Nat):Int:=if 0<(at' h n).writes.length then lastS h+1 else 0
theorem check_with {h:List Acc} {n:Nat} (hc:checkS h=0) (hn:n<h.length) (hd:(at' h n).done=false) (hle:stampS h n<=1073741824)
 (hw:∀ k,k<h.length->(at' h k).done=true->Meet (at' h n).writes (at' h k).writes->(at' h k).stamp<=(at' h n).snap):checkS (withS h n (stampS h n))=0:=by
 rw [check_zero] at hc ⊢
 obtain ⟨c1,c2,cX3⟩:=hc
 have hform:∀ i,i<h.length->(at' h i).Formed:=fun i hi=>Classical.byContradiction fun hf=>c2 (.inl ⟨i,hi,hf⟩)
 have hlast:=fun k hk=>lastS_ge (h:=h) (k:=k) hk
 have hnn:=lastS_nn (h:=h)
 have hfn:=hform n hn
 refine ⟨?_,?_,?_⟩
 . rintro (hb | ⟨i,hi,hb⟩)
   . exact c1 (.inl (by rwa [withS_len] at hb))
   . rw [withS_len] at hi
     refine c1 (.inr ⟨i,hi,?_⟩)
     by_cases e:i=n
     . subst e;rw [at_with hn] at hb;exact hb
     . rwa [at_with_ne e] at hb
 . rintro (⟨i,hi,hb⟩ | ⟨i,j,hij,hj,hb1,hb2⟩)
   . rw [withS_len] at hi
     by_cases e:i=n
     . subst e
       rw [at_with hn] at hb
       apply hb
       obtain ⟨f1,f2,f3,f4,f5,f6,f7,f8,f9⟩:=hfn
       refine ⟨f1,f2,f3,f4,f5,f6,f7,?_,?_⟩
       . intro hwr
         have:0<(at' h i).writes.length:=by simpa [Acc.writer] using hwr
         have:=hlast i hn
         simp only [stampS,if_pos ‹0<(at' h i).writes.length›] at hle ⊢
         omega
       . intro hwr
         have:¬ 0<(at' h i).writes.length:=by simpa [Acc.writer] using hwr
         simp only [stampS,if_neg this]
     . rw [at_with_ne e] at hb
       exact hb (hform i hi)
   . rw [withS_len] at hj
     have key:∀ a,a<h.length->(at' h a).stamp=stampS h n->0<stampS h n->False:=fun a ha h1 h2=>by
      have:=hlast a ha
      simp only [stampS] at h1 h2
      split at h2
      . rename_i hp;simp only [if_pos hp] at h1;omega
      . omega
     by_cases ei:i=n
     . subst ei
       rw [at_with hn,at_with_ne (by omega)] at hb1
       rw [at_with_ne (by omega)] at hb2
       exact key j hj hb1.symm (by simp only at hb1;omega)
     . by_cases ej:j=n
       . subst ej
         rw [at_with hn,at_with_ne (by omega)] at hb1
         rw [at_with hn] at hb2
         exact key i (by omega) hb1 hb2
       . rw [at_with_ne ei,at_with_ne ej] at hb1
         rw [at_with_ne ej] at hb2
         exact c2 (.inr ⟨i,j,hij,hj,hb1,hb2⟩)
 . rintro ⟨i,j,hji,hi,hcl⟩
   rw [withS_len] at hi
   have hwd:∀ {x:Acc},x.writer=true->x.done=true:=fun {x} hx=>by simp only [Acc.writer,Bool.and_eq_true] at hx;exact hx.1
   by_cases ei:i=n
   . subst ei
     rw [at_with hn,at_with_ne (by omega)] at hcl
     obtain ⟨w1,w2,w3,w4,w5⟩:=hcl
     obtain ⟨x,hx1,hx2⟩:=w5
     have:=hw j (by omega) (hwd w2) ⟨x,by first | exact hx2 | exact hx1,by first | exact hx1 | exact hx2⟩
     simp only at w3
     omega
   . by_cases ej:j=n
     . subst ej
       rw [at_with_ne ei,at_with hn] at hcl
       obtain ⟨w1,w2,w3,w4,w5⟩:=hcl
       have:=hw i hi (hwd w1) w5
       simp only at w4
       omega
     . rw [at_with_ne ei,at_with_ne ej] at hcl
       exact cX3 ⟨i,j,hji,hi,hcl⟩
end Go.Proofs.Try
