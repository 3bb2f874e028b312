/-
 A part of the proof.
-/
import Derived.Test.YtfhoeghdioofmaaGreatKcc
set_option linter.unusedSimpArgs false
set_option linter.unusedVariables false
namespace Go.Proofs.Try
open Go.Proofs.Tryz
open Go.Al
set_option maxRecDepth 100000
abbrev q69_0:List AV:=[.int .i64 0,.int .i64 0,.int .i64 0]
def mc69:MC:=(.seq (.ops [(none,.e (.alloc 4 q69_0)),pZ 5]) (.seq (.seq (.ops [pM 9 0,(none,.v (.nil 10 (.t 9))),pF 11 0 10,pL 12 11,pG 13 12,pI 14 0]) (.block 0 (.loop (.seq (.ops [pB 15 14 13]) (.seq (.cond 15 .skip (.exit 0)) (.seq (.block 1 (.seq (.ops [pM 16 14,pM 6 16]) (.seq (.ops [pM 17 0,(none,.v (.nil 18 (.t 17))),pF 19 0 18,pL 20 19,pG 21 20,pI 22 0]) (.block 2 (.loop (.seq (.ops [pB 23 22 21]) (.seq (.cond 23 .skip (.exit 2)) (.seq (.block 3 (.seq (.ops [pM 24 22,pM 7 24]) (.seq (.ops [pM 25 0,(none,.v (.nil 26 (.t 25))),pF 27 0 26,pL 28 27,pG 29 28,pI 30 0]) (.block 4 (.loop (.seq (.ops [pB 31 30 29]) (.seq (.cond 31 .skip (.exit 4)) (.seq (.block 5 (.seq (.ops [pM 32 30,pM 8 32]) (.seq (.ops [pM 33 0,pM 34 6,pM 35 7,pM 36 8,(none,.e (.call (some 37) 116 [.t 33,.t 34,.t 35,.t 36])),pM 38 37,gT 38 (oM 39 1),gT 38 (oM 40 6),gT 38 (oM 41 7),gT 38 (oM 42 8),(some (38,true),.e (.callv (some 43) (.t 39) [.t 40,.t 41,.t 42])),pP 44 38 43]) (.cond 44 (.seq (.ops [pM 45 6,pM 46 7,pM 47 8,(none,.v (.build 48 q69_0 [(0,1,.t 45),(1,1,.t 46),(2,1,.t 47)])),pS 3 4 48,(none,.v (.mov 5 (.c (.bool true))))]) .ret) .skip)))) (.ops [pA 49 30 1,pM 30 49]))))))))) (.ops [pA 50 22 1,pM 22 50]))))))))) (.ops [pA 51 14 1,pM 14 51]))))))) (.seq (.ops [(none,.v (.build 52 q69_0 [])),pS 3 4 52,pZ 5]) .ret)))
theorem ok69:FnOk E 69 53 [.cell 4 121,.tmp 5] mc69:=ofk func69
abbrev q116_0:MI:=oZ 8
abbrev q116_1:AT:=.alt none (oS 6 9 44) (.alt none (oS 6 10 51) (.alt none (oS 6 11 58) .done .stop) .stop) .stop
def mc116:MC:=(.seq (.ops [(none,q116_0)]) (.seq (.seq (.ops [pM 12 0,(none,.v (.nil 13 (.t 12))),pF 14 1 13,pL 15 14,pM 16 1,pQ 17 1 15 16,pL 18 17,pM 19 2,pQ 20 1 18 19,pL 21 20,(none,.v (.bin 22 .and false (.t 21) (.c (.int .i64 2)))),pE 23 22 0,pM 24 23,gF 24 (oM 25 0),(some (24,false),.v (.nil 26 (.t 25))),gF 24 (oF 27 1 26),gF 24 (oL 28 27),gF 24 (oM 29 2),gF 24 (oQ 30 1 28 29),gF 24 (oL 31 30),gF 24 (oM 32 3),gF 24 (oQ 33 1 31 32),gF 24 (oL 34 33),(some (24,false),.v (.bin 35 .and false (.t 34) (.c (.int .i64 2)))),gF 24 (oE 36 35 0),pO 37 24 36]) (.cond 37 (.seq (.ops [(none,q116_0)]) .ret) .skip)) (.seq (.any true (.pure0 none (oM 38 0) (.pure0 none (.v (.nil 39 (.t 38))) (.pure0 none (oF 40 0 39) (.pure0 none (oL 41 40) (.pure0 none (oM 42 1) (.pure0 none (oQ 43 6 41 42) (.pure0 none (oR 44 6 43) (.pure0 none (oM 45 0) (.pure0 none (.v (.nil 46 (.t 45))) (.pure0 none (oF 47 0 46) (.pure0 none (oL 48 47) (.pure0 none (oM 49 2) (.pure0 none (oQ 50 6 48 49) (.pure0 none (oR 51 6 50) (.pure0 none (oM 52 0) (.pure0 none (.v (.nil 53 (.t 52))) (.pure0 none (oF 54 0 53) (.pure0 none (oL 55 54) (.pure0 none (oM 56 3) (.pure0 none (oQ 57 6 55 56) (.pure0 none (oR 58 6 57) (.alt none (.e (.alloc 9 z0)) (.alt none (.e (.alloc 10 z0)) (.alt none (.e (.alloc 11 z0)) q116_1 .stop) (.alt none (.e (.alloc 11 z0)) (.alt none (.e (.alloc 10 z0)) q116_1 .stop) .stop)) (.alt none (.e (.alloc 10 z0)) (.alt none (.e (.alloc 9 z0)) (.alt none (.e (.alloc 11 z0)) q116_1 .stop) (.alt none (.e (.alloc 11 z0)) (.alt none (.e (.alloc 9 z0)) q116_1 .stop) .stop)) (.alt none (.e (.alloc 11 z0)) (.alt none (.e (.alloc 9 z0)) (.alt none (.e (.alloc 10 z0)) q116_1 .stop) (.alt none (.e (.alloc 10 z0)) (.alt none (.e (.alloc 9 z0)) q116_1 .stop) .stop)) .stop))))))))))))))))))))))))) (.seq (.seq (.ops [pF 59 3 10,pL 60 59,pF 61 3 11,pL 62 61,(none,.v (.bin 63 .leq false (.t 60) (.t 62)))]) (.cond 63 (.seq (.ops [(none,q116_0)]) .ret) .skip)) (.seq (.ops [pM 64 1,pM 65 3,(none,.v (.bin 66 .eql false (.t 64) (.t 65))),pM 67 66,gF 67 (oR 68 6 9),gF 67 (oV 69 64 68),gF 67 (oM 70 69),gT 70 (oF 71 3 11),gT 70 (oL 72 71),gT 70 (oF 73 3 9),gT 70 (oL 74 73),gT 70 (oB 75 72 74),gF 67 (oP 76 70 75),pO 77 67 76,pM 78 77,gF 78 (oR 79 6 9),gF 78 (oV 80 64 79),gF 78 (oN 81 80),gF 78 (oM 82 81),gT 82 (oF 83 3 11),gT 82 (oL 84 83),gT 82 (oF 85 1 9),gT 82 (oL 86 85),(some (82,true),.v (.bin 87 .leq false (.t 84) (.t 86))),gF 78 (oP 88 82 87),pO 89 78 88,pM 8 89]) .ret)))))
theorem ok116:FnOk E 116 90 [.tmp 8] mc116:=ofk func116
open Classical
theorem and_anti (h:List Acc) (i j:Nat):(IntKind.i64.wrap ((BitVec.ofInt IntKind.i64.bits (ebit h i j) &&& BitVec.ofInt IntKind.i64.bits 2).toNat:Nat)=0)=¬ Anti h i j :=
 propext ⟨fun e ha=>(kind_anti h i j).2 ha e,fun hn=>Classical.byContradiction fun e=>hn ((kind_anti h i j).1 e)⟩
theorem ti121:E.TI 121=some ⟨.array 3 3,3,24,[.int .i64 0,.int .i64 0,.int .i64 0],true,true,false⟩:=rfl
set_option maxHeartbeats 16000000
theorem c116 (h:List Acc) (a b c:Nat) (ha:a<h.length) (hb:b<h.length) (hc:c<h.length):ACalls E.P 116 [graphA h,.int .i64 a,.int .i64 b,.int .i64 c] [] (fun r H=>r=.bool (decide (Dang h a b c))/\H=[]):=by
 have hmax:=maxLen_eq
 have e1:∀ {m N d k},IdxR E.P m N (h.map accA) (a:Int) d k=rK E.P m N k d (.vp (accC (at' h a))):=IdxR_at ha
 have e2:∀ {m N d k},IdxR E.P m N (h.map accA) (b:Int) d k=rK E.P m N k d (.vp (accC (at' h b))):=IdxR_at hb
 have e3:∀ {m N d k},IdxR E.P m N (h.map accA) (c:Int) d k=rK E.P m N k d (.vp (accC (at' h c))):=IdxR_at hc
 have r1:∀ {m N d k},IdxR E.P m N ((List.range h.length).map (rowA h)) (a:Int) d k=rK E.P m N k d (.vp [rowA h a]):=IdxR_rows ha
 have r2:∀ {m N d k},IdxR E.P m N ((List.range h.length).map (rowA h)) (b:Int) d k=rK E.P m N k d (.vp [rowA h b]):=IdxR_rows hb
 have g1:∀ {m N d k},IdxR E.P m N ((erow h a).map (AV.int .i64)) (b:Int) d k=rK E.P m N k d (.vp [.int .i64 (ebit h a b)]):=IdxR_erow hb
 have g2:∀ {m N d k},IdxR E.P m N ((erow h b).map (AV.int .i64)) (c:Int) d k=rK E.P m N k d (.vp [.int .i64 (ebit h b c)]):=IdxR_erow hc
 have k1:=c64 (at' h a)
 simp only [accA_eq] at k1
 refine ok116.acalls hE hm (by simp) fun N hN=>?_
 unfold mc116 q116_1 q116_0 z0 pM pF pL pQ pE pO gF gT oM oL oR oF oE oB oZ oP oN oS oQ oV
 simp only [graphA]
 repeat' (first|(with_reducible apply St.o;constructor) <;> intro _|(with_reducible first|refine ai ?_|(apply Sp.o;constructor)|refine mkl_own ?_|refine ap_own ?_|refine base0_i ?_|refine any00_i ?_|refine frz0_i ?_|refine any_i [] ?_)|((with_reducible apply Sc.o true;constructor);simp only [lP,seval,e1,e2,e3,r1,r2,g1,g2,rowA,accC,and_anti];refine ⟨_,k1,?_⟩;rintro _ _ ⟨rfl,rfl⟩;simp only [lA,lP,seval,e1,e2,e3,r1,r2,g1,g2,rowA,accC,and_anti])|((with_reducible refine keep0_i ?_);simp only [lP,seval])|simp (disch:=omega) only [lE,seval,e1,e2,e3,r1,r2,g1,g2,rowA,accC,and_anti])
 all_goals try (exfalso;omega)
 all_goals refine congrArg AV.bool (Bool.eq_iff_iff.2 ?_)
 all_goals clear e1 e2 e3 k1 r1 r2 g1 g2
 all_goals simp only [decide_eq_true_eq,Bool.false_eq_true,Dang,Acc.writer,Anti,AntiE] at *
 all_goals grind
def LexLt (a' b' c' a b c:Nat):Prop:=a'<a\/(a'=a/\(b'<b\/(b'=b/\c'<c)))
def NoneB (p:Nat->Nat->Nat->Prop) (n a b c:Nat):Prop:=∀ a' b' c',a'<n->b'<n->c'<n->LexLt a' b' c' a b c->¬ p a' b' c'
def FirstT (p:Nat->Nat->Nat->Prop) (n:Nat):Option (Nat × Nat × Nat)->Prop
 | none=>∀ a b c,a<n->b<n->c<n->¬ p a b c
 | some (a,b,c)=>a<n/\b<n/\c<n/\p a b c/\NoneB p n a b c
theorem NoneB.zero {p:Nat->Nat->Nat->Prop} {n:Nat}:NoneB p n 0 0 0:=fun a b c _ _ _ h=>by unfold LexLt at h;omega
theorem NoneB.next {p:Nat->Nat->Nat->Prop} {n a b c:Nat} (h:NoneB p n a b c) (hn:¬ p a b c):NoneB p n a b (c+1):=fun a' b' c' h1 h2 h3 h4=>by
 by_cases h5:LexLt a' b' c' a b c
 . exact h a' b' c' h1 h2 h3 h5
 . unfold LexLt at h4 h5
   have:a'=a/\b'=b/\c'=c:=by omega
   obtain ⟨rfl,rfl,rfl⟩:=this
   exact hn
theorem NoneB.row {p:Nat->Nat->Nat->Prop} {n a b:Nat} (h:NoneB p n a b n):NoneB p n a (b+1) 0:=fun a' b' c' h1 h2 h3 h4=>h a' b' c' h1 h2 h3 (by unfold LexLt at *;omega)
theorem NoneB.plane {p:Nat->Nat->Nat->Prop} {n a:Nat} (h:NoneB p n a n 0):NoneB p n (a+1) 0 0:=fun a' b' c' h1 h2 h3 h4=>h a' b' c' h1 h2 h3 (by unfold LexLt at *;omega)
theorem NoneB.all {p:Nat->Nat->Nat->Prop} {n:Nat} (h:NoneB p n n 0 0):FirstT p n none:=fun a b c h1 h2 h3=>h a b c h1 h2 h3 (.inl h1)
def tripA:Option (Nat × Nat × Nat)->AV
 | none=>.tup [.agg [.int .i64 0,.int .i64 0,.int .i64 0],.bool false]
 | some (a,b,c)=>.tup [.agg [.int .i64 a,.int .i64 b,.int .i64 c],.bool true]
structure Pred3 (g:FuncId) (first caps:List AV) (p:Nat->Nat->Nat->Prop):Prop where
 calls:∀ a b c,ACalls E.P g (first++[.int .i64 a,.int .i64 b,.int .i64 c]++caps) [] (fun r H=>r=.bool (decide (p a b c))/\H=[])
 first:∀ H l bor n,first.map (pa H l bor n)=first
 caps:∀ H l bor n,caps.map (pa H l bor n)=caps
theorem c69 (h:List Acc) (hn:h.length<=100) (g:FuncId) (first caps:List AV) (p:Nat->Nat->Nat->Prop) (hp:Pred3 g first caps p) :
 ACalls E.P 69 [graphA h,.fn (.func g) first caps] [] (fun r H=>(∃ t,FirstT (fun a b c=>Dang h a b c/\p a b c) h.length t/\r=tripA t)/\H=[]):=by
 have hmax:=maxLen_eq
 have hpf:=hp.first
 have hpc:=hp.caps
 refine ok69.acalls hE hm (by simp) fun N hN=>?_
 unfold mc69 q69_0 pZ pM pF pL pG pI pB pP pS pA gT oM
 simp only [graphA]
 repeat' (first|(with_reducible first|(apply St.o;constructor)<;>intro _|refine ai ?_|(apply Sq.o;constructor))|simp (disch:=omega) only [lE,seval,ti121])
 refine loop_i (fun a:Nat=>a<=h.length/\NoneB (fun a b c=>Dang h a b c/\p a b c) h.length a 0 0) (fun a=>⟨[(0,graphA h),(1,.fn (.func g) first caps),(4,.op 0 0),(5,.bool false),(13,.int .i64 h.length),(14,.int .i64 a)],[.box [.int .i64 0,.int .i64 0,.int .i64 0]]⟩) (fun a=>h.length - a) 0 ⟨by omega,.zero⟩ (ent [0] false (by simp only [lP,seval,graphA,hpf,hpc]<;>(try simp)<;>(try omega)) (by simp only [lP,seval,graphA,hpf,hpc]<;>(try simp)<;>(try omega))) ?_
 rintro a ⟨ha,hna⟩
 by_cases han:a<h.length
 . simp only [graphA]
   repeat' (first|(with_reducible first|(apply St.o;constructor)<;>intro _|refine ai ?_|(apply Sq.o;constructor))|simp (disch:=omega) only [lE,seval,ti121])
   all_goals try (exfalso;omega)
   all_goals try (exfalso;omega)
   refine loop_i (fun b:Nat=>b<=h.length/\NoneB (fun a b c=>Dang h a b c/\p a b c) h.length a b 0) (fun b=>⟨[(0,graphA h),(1,.fn (.func g) first caps),(4,.op 0 0),(5,.bool false),(6,.int .i64 a),(13,.int .i64 h.length),(14,.int .i64 a),(21,.int .i64 h.length),(22,.int .i64 b)],[.box [.int .i64 0,.int .i64 0,.int .i64 0]]⟩) (fun b=>h.length - b) 0 ⟨by omega,hna⟩ (ent [0] false (by simp only [lP,seval,graphA,hpf,hpc]<;>(try simp)<;>(try omega)) (by simp only [lP,seval,graphA,hpf,hpc]<;>(try simp)<;>(try omega))) ?_
   rintro b ⟨hb,hnb⟩
   by_cases hbn:b<h.length
   . simp only [graphA]
     repeat' (first|(with_reducible first|(apply St.o;constructor)<;>intro _|refine ai ?_|(apply Sq.o;constructor))|simp (disch:=omega) only [lE,seval,ti121])
     all_goals try (exfalso;omega)
     all_goals try (exfalso;omega)
     refine loop_i (fun c:Nat=>c<=h.length/\NoneB (fun a b c=>Dang h a b c/\p a b c) h.length a b c) (fun c=>⟨[(0,graphA h),(1,.fn (.func g) first caps),(4,.op 0 0),(5,.bool false),(6,.int .i64 a),(7,.int .i64 b),(13,.int .i64 h.length),(14,.int .i64 a),(21,.int .i64 h.length),(22,.int .i64 b),(29,.int .i64 h.length),(30,.int .i64 c)],[.box [.int .i64 0,.int .i64 0,.int .i64 0]]⟩) (fun c=>h.length - c) 0 ⟨by omega,hnb⟩ (ent [0] false (by simp only [lP,seval,graphA,hpf,hpc]<;>(try simp)<;>(try omega)) (by simp only [lP,seval,graphA,hpf,hpc]<;>(try simp)<;>(try omega))) ?_
     rintro c ⟨hc,hnc⟩
     by_cases hcn:c<h.length
     . have k1:=c116 h a b c han hbn hcn
       have k2:=hp.calls a b c
       simp only [graphA,List.append_assoc,List.cons_append,List.nil_append] at k1 k2 ⊢
       repeat' (first|(with_reducible first|(apply St.o;constructor)<;>intro _|refine ai ?_|(apply Sq.o;constructor))|((with_reducible apply Sc.o true;constructor);simp only [lP,seval,ti121,hpf,hpc,List.map_append,List.append_assoc];(first|refine ⟨_,k1,?_⟩|refine ⟨_,k2,?_⟩);rintro _ _ ⟨rfl,rfl⟩;simp only [lA,lP,seval,ti121,hpf,hpc,List.map_append,List.append_assoc])|simp (disch:=omega) only [lE,seval,ti121,hpf,hpc,List.map_append,List.append_assoc])
       all_goals try (exfalso;omega)
       all_goals try (exfalso;omega)
       . rename_i h1 h2 h3
         refine keep0_i ?_
         simp only [lP,seval]
         exact ⟨some (a,b,c),⟨han,hbn,hcn,⟨h2,h3⟩,hnc⟩,rfl⟩
       . rename_i h1 h2 h3
         exact back_i (c+1) ⟨by omega,hnc.next fun h=>h3 h.2⟩ (by omega) (ent [0] false (by simp only [lP,seval,graphA,hpf,hpc]<;>(try simp)<;>(try omega)) (by simp only [lP,seval,graphA,hpf,hpc]<;>(try simp)<;>(try omega)))
       . rename_i h1 h2
         exact back_i (c+1) ⟨by omega,hnc.next fun h=>h2 h.1⟩ (by omega) (ent [0] false (by simp only [lP,seval,graphA,hpf,hpc]<;>(try simp)<;>(try omega)) (by simp only [lP,seval,graphA,hpf,hpc]<;>(try simp)<;>(try omega)))
     . have:c=h.length:=by omega
       subst this
       simp only [graphA]
       repeat' (first|(with_reducible first|(apply St.o;constructor)<;>intro _|refine ai ?_|(apply Sq.o;constructor))|simp (disch:=omega) only [lE,seval,ti121])
       all_goals try (exfalso;omega)
       all_goals try (exfalso;omega)
       exact back_i (b+1) ⟨by omega,hnc.row⟩ (by omega) (ent [0] false (by simp only [lP,seval,graphA,hpf,hpc]<;>(try simp)<;>(try omega)) (by simp only [lP,seval,graphA,hpf,hpc]<;>(try simp)<;>(try omega)))
   . have:b=h.length:=by omega
     subst this
     simp only [graphA]
     repeat' (first|(with_reducible first|(apply St.o;constructor)<;>intro _|refine ai ?_|(apply Sq.o;constructor))|simp (disch:=omega) only [lE,seval,ti121])
     all_goals try (exfalso;omega)
     all_goals try (exfalso;omega)
     exact back_i (a+1) ⟨by omega,hnb.plane⟩ (by omega) (ent [0] false (by simp only [lP,seval,graphA,hpf,hpc]<;>(try simp)<;>(try omega)) (by simp only [lP,seval,graphA,hpf,hpc]<;>(try simp)<;>(try omega)))
 . have:a=h.length:=by omega
   subst this
   simp only [graphA]
   repeat' (first|(with_reducible first|(apply St.o;constructor)<;>intro _|refine ai ?_|(apply Sq.o;constructor))|simp (disch:=omega) only [lE,seval,ti121])
   all_goals try (exfalso;omega)
   all_goals try (exfalso;omega)
   refine keep0_i ?_
   simp only [lP,seval]
   exact ⟨none,hna.all,rfl⟩
end Go.Proofs.Try
