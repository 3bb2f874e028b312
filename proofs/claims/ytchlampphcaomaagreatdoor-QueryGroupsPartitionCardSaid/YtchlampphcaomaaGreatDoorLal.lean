/-
 A part of the proof: see the text of the law.
-/
import Derived.Test.YtchlampphcaomaaGreatDoorLak
import Derived.Test.YtchlampphcaomaaGreatDoorPak
set_option linter.unusedSimpArgs false
set_option linter.unusedVariables false
namespace Go.Proofs.Try
open Go.Proofs.Tryz
open Go.Al
set_option maxRecDepth 100000
def mc36:MC:=(.seq (.ops [pI 4 0]) (.seq (.seq (.ops [pI 5 0]) (.block 0 (.loop (.seq (.seq (.ops [pM 7 5,pM 8 0,pG 9 8,pB 10 7 9,pM 11 10,gT 11 (oM 12 5),gT 11 (oM 13 1),gT 11 (oG 14 13),gT 11 (oB 15 12 14),pP 16 11 15]) (.cond 16 .skip (.exit 0))) (.seq (.block 1 (.seq (.any false (.pure0 none (oM 19 0) (.pure0 none (oM 20 5) (.pure0 none (oQ 21 3 19 20) (.pure0 none (oR 22 3 21) (.pure0 none (oM 23 1) (.pure0 none (oM 24 5) (.pure0 none (oQ 25 3 23 24) (.pure0 none (oR 26 3 25) (.alt none (oW 27 38 22 26) (.base (.pure0 none (oM 6 27) .done)) .stop)))))))))) (.seq (.ops [pM 28 6,pD 29 28 0]) (.cond 29 (.seq (.ops [pM 30 6,pM 4 30]) .ret) .skip)))) (.ops [pM 17 5,pA 18 17 1,pM 5 18])))))) (.seq (.ops [pM 31 0,pG 32 31,pM 33 1,pG 34 33,pW 35 67 32 34,pM 4 35]) .ret)))
theorem ok36:FnOk E 36 36 [.tmp 4] mc36:=ofk func36
def mc37:MC:=(.seq (.ops [pI 4 0]) (.seq (.ops [pM 5 0,pM 6 1,(none,.p (.rem 7 (.t 5) (.t 6))),pM 8 1,(none,.v (.bin 9 .add false (.t 7) (.t 8))),pM 10 1,(none,.p (.rem 11 (.t 9) (.t 10))),pM 4 11]) .ret))
theorem ok37:FnOk E 37 12 [.tmp 4] mc37:=ofk func37
set_option maxRecDepth 20000
set_option maxHeartbeats 8000000
theorem c37 (n m:Int) (hm0:m≠0):ACalls E.P 37 [.int .i64 n,.int .i64 m] [] (fun r H=>r=.int .i64 (leastR n m)∧H=[]):=by
 refine ok37.acalls hE hm (by simp) fun N hN=>?_
 unfold mc37 pI pM
 simp only [lA,seval]
 repeat' (first|(with_reducible first|(apply St.o;constructor)<;>intro _|refine And.intro (by omega) ?_|(apply Sq.o;constructor))|simp (disch:=omega) only [lE,seval,hm0,ne_eq,not_false_eq_true])
 all_goals exact keep_n rfl
theorem c36 (l m:List VL):ACalls E.P 36 [rowV l,rowV m] [] (fun r H=>r=.int .i64 (lex19 l m)∧H=[]):=by
 have hmax:=maxLen_eq
 refine ok36.acalls hE hm (by simp) fun N hN=>?_
 unfold mc36 pI pM pG pB pP pD pA pW gT oM oR oB oG oQ oW
 simp only [lA,seval]
 have hv0:lex19 l m=lex19 (l.drop 0) (m.drop 0):=by simp
 generalize lex19 l m=v at *
 refine loop_i (fun i:Nat=>i≤l.length∧i≤m.length∧v=lex19 (l.drop i) (m.drop i)) (fun i=>⟨[(0,rowV l),(1,rowV m),(5,.int .i64 i)],[]⟩) (fun i=>l.length - i) 0 ⟨by omega,by omega,hv0⟩ (ent [] false) ?_
 rintro i ⟨hi,hj,he⟩
 have h67:=c67 l.length m.length
 by_cases hin:i<l.length∧i<m.length
 · obtain ⟨h1,h2⟩:=hin
   have hlt:((i:Int)<(l.length:Int)):=by omega
   have hlt2:((i:Int)<(m.length:Int)):=by omega
   have hk:=c38 (l.getD i default) (m.getD i default)
   rw [lex19_step h1 h2] at he
   simp only [VL.av] at hk
   generalize (l.getD i default).cmp19 (m.getD i default)=c at *
   repeat' (first|(with_reducible first|(apply St.o;constructor)<;>intro _|refine And.intro (by omega) ?_|(apply Sq.o;constructor))|((with_reducible apply Sc.o true;constructor);simp only [lP,seval,IdxR_vls,Int.toNat_natCast,List.length_map,hlt,hlt2,decide_true];refine ⟨_,hk,?_⟩;rintro _ _ ⟨rfl,rfl⟩;simp only [lA,lP,seval,IdxR_vls,Int.toNat_natCast,List.length_map,hlt,hlt2,decide_true])|simp (disch:=omega) only [lE,seval,IdxR_vls,Int.toNat_natCast,List.length_map,hlt,hlt2,decide_true])
   · rename_i hc
     exact keep_n (by rw [he,if_neg hc])
   · rename_i hc
     refine back_i (i+1) ⟨by omega,by omega,by rw [he,if_pos hc]⟩ (by omega) (ent [] false)
 · rw [lex19_end hi hj hin] at he
   by_cases h1:i<l.length
   · have h2:¬ ((i:Int)<(m.length:Int)):=by omega
     have hlt:((i:Int)<(l.length:Int)):=by omega
     repeat' (first|(with_reducible first|(apply St.o;constructor)<;>intro _|refine And.intro (by omega) ?_|(apply Sq.o;constructor))|((with_reducible apply Sc.o true;constructor);simp only [lP,seval,List.length_map,hlt,h2,decide_true,decide_false];refine ⟨_,h67,?_⟩;rintro _ _ ⟨rfl,rfl⟩;simp only [lA,lP,seval,List.length_map,hlt,h2,decide_true,decide_false])|simp (disch:=omega) only [lE,seval,List.length_map,hlt,h2,decide_true,decide_false])
     all_goals exact keep_n he.symm
   · have h2:¬ ((i:Int)<(l.length:Int)):=by omega
     repeat' (first|(with_reducible first|(apply St.o;constructor)<;>intro _|refine And.intro (by omega) ?_|(apply Sq.o;constructor))|((with_reducible apply Sc.o true;constructor);simp only [lP,seval,List.length_map,h2,decide_true,decide_false];refine ⟨_,h67,?_⟩;rintro _ _ ⟨rfl,rfl⟩;simp only [lA,lP,seval,List.length_map,h2,decide_true,decide_false])|simp (disch:=omega) only [lE,seval,List.length_map,h2,decide_true,decide_false])
     all_goals exact keep_n he.symm
end Go.Proofs.Try
