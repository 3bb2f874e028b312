/-
 A part of the proof: see the text of the law.
-/
import Derived.Test.YtchlampphcaomaaGreatDoorLah
set_option linter.unusedSimpArgs false
set_option linter.unusedVariables false
namespace Go.Proofs.Try
open Go.Proofs.Tryz
open Go.Al
set_option maxRecDepth 100000
abbrev q28_0:MI:=oZ 4
def mc28:MC:=(.seq (.ops [pK 2 0,pK 3 1,(none,q28_0)]) (.seq (.ops [pR 8 14 2,pR 9 14 3,pW 10 57 8 9,pM 5 10]) (.seq (.seq (.ops [pM 11 5,pN 12 11]) (.cond 12 (.seq (.ops [(none,q28_0)]) .ret) .skip)) (.seq (.seq (.ops [pI 6 0]) (.block 0 (.loop (.seq (.seq (.ops [pM 13 6,pF 14 2 2,pL 15 14,pG 16 15,pB 17 13 16]) (.cond 17 .skip (.exit 0))) (.seq (.block 1 (.seq (.any false (.pure0 none (oF 20 2 2) (.pure0 none (oL 21 20) (.pure0 none (oM 22 6) (.pure0 none (oQ 23 14 21 22) (.pure0 none (oR 24 14 23) (.pure0 none (oF 25 2 3) (.pure0 none (oL 26 25) (.pure0 none (oM 27 6) (.pure0 none (oQ 28 14 26 27) (.pure0 none (oR 29 14 28) (.alt none (oW 30 28 24 29) (.base (.pure0 none (oM 7 30) .done)) .stop)))))))))))) (.seq (.ops [pM 31 7,pN 32 31]) (.cond 32 (.seq (.ops [(none,q28_0)]) .ret) .skip)))) (.ops [pM 18 6,pA 19 18 1,pM 6 19])))))) (.seq (.ops [(none,.v (.mov 4 (.c (.bool true))))]) .ret)))))
theorem ok28:FnOk E 28 33 [.tmp 4] mc28:=ofk func28
abbrev q57_0:MI:=oZ 4
def mc57:MC:=(.seq (.ops [pK 2 0,pK 3 1,(none,q57_0)]) (.seq (.seq (.ops [pF 7 0 2,pL 8 7,pF 9 0 3,pL 10 9,(none,.v (.bin 11 .neq false (.t 8) (.t 10))),pM 12 11,gF 12 (oF 13 1 2),gF 12 (oL 14 13),gF 12 (oF 15 1 3),gF 12 (oL 16 15),(some (12,false),.v (.bin 17 .neq false (.t 14) (.t 16))),pO 18 12 17,pM 19 18,gF 19 (oF 20 13 2),gF 19 (oL 21 20),gF 19 (oF 22 13 3),gF 19 (oL 23 22),(some (19,false),.v (.bin 24 .neq false (.t 21) (.t 23))),pO 25 19 24,pM 26 25,gF 26 (oF 27 2 2),gF 26 (oL 28 27),gF 26 (oG 29 28),gF 26 (oF 30 2 3),gF 26 (oL 31 30),gF 26 (oG 32 31),(some (26,false),.v (.bin 33 .neq false (.t 29) (.t 32))),pO 34 26 33,pM 35 34,gF 35 (oF 36 11 2),gF 35 (oL 37 36),gF 35 (oG 38 37),gF 35 (oF 39 11 3),gF 35 (oL 40 39),gF 35 (oG 41 40),(some (35,false),.v (.bin 42 .neq false (.t 38) (.t 41))),pO 43 35 42,pM 44 43,gF 44 (oF 45 12 2),gF 44 (oL 46 45),gF 44 (oG 47 46),gF 44 (oF 48 12 3),gF 44 (oL 49 48),gF 44 (oG 50 49),(some (44,false),.v (.bin 51 .neq false (.t 47) (.t 50))),pO 52 44 51]) (.cond 52 (.seq (.ops [(none,q57_0)]) .ret) .skip)) (.seq (.seq (.ops [pI 5 0]) (.block 0 (.loop (.seq (.seq (.ops [pM 53 5,pF 54 11 2,pL 55 54,pG 56 55,pB 57 53 56]) (.cond 57 .skip (.exit 0))) (.seq (.block 1 (.seq (.any false (.pure0 none (oF 60 11 2) (.pure0 none (oL 61 60) (.pure0 none (oM 62 5) (.pure0 none (oQ 63 7 61 62) (.pure0 none (oF 64 0 63) (.pure0 none (oL 65 64) (.pure0 none (oF 66 11 3) (.pure0 none (oL 67 66) (.pure0 none (oM 68 5) (.pure0 none (oQ 69 7 67 68) (.pure0 none (oF 70 0 69) (.pure0 none (oL 71 70) (.pure0 none (.v (.bin 72 .neq false (.t 65) (.t 71))) (.pure0 none (oM 73 72) (.pure0 (some (73,false)) (oF 74 11 2) (.pure0 (some (73,false)) (oL 75 74) (.pure0 (some (73,false)) (oM 76 5) (.pure0 (some (73,false)) (oQ 77 7 75 76) (.pure0 (some (73,false)) (oF 78 1 77) (.pure0 (some (73,false)) (oR 79 6 78) (.pure0 (some (73,false)) (oF 80 11 3) (.pure0 (some (73,false)) (oL 81 80) (.pure0 (some (73,false)) (oM 82 5) (.pure0 (some (73,false)) (oQ 83 7 81 82) (.pure0 (some (73,false)) (oF 84 1 83) (.pure0 (some (73,false)) (oR 85 6 84) (.alt (some (73,false)) (oW 86 89 79 85) (.base (.pure0 (some (73,false)) (oN 87 86) (.pure0 none (oO 88 73 87) .done))) .stop)))))))))))))))))))))))))))) (.cond 88 (.seq (.ops [(none,q57_0)]) .ret) .skip))) (.ops [pM 58 5,pA 59 58 1,pM 5 59])))))) (.seq (.seq (.ops [pI 6 0]) (.block 2 (.loop (.seq (.seq (.ops [pM 89 6,pF 90 12 2,pL 91 90,pG 92 91,pB 93 89 92]) (.cond 93 .skip (.exit 2))) (.seq (.block 3 (.seq (.any false (.pure0 none (oF 96 12 2) (.pure0 none (oL 97 96) (.pure0 none (oM 98 6) (.pure0 none (oQ 99 2 97 98) (.pure0 none (oR 100 2 99) (.pure0 none (oF 101 12 3) (.pure0 none (oL 102 101) (.pure0 none (oM 103 6) (.pure0 none (oQ 104 2 102 103) (.pure0 none (oR 105 2 104) (.pure0 none (.v (.eq 106 true (.agg [(0,false,1,.int),(1,false,1,.bool)]) (.t 100) (.t 105))) .done)))))))))))) (.cond 106 (.seq (.ops [(none,q57_0)]) .ret) .skip))) (.ops [pM 94 6,pA 95 94 1,pM 6 95])))))) (.seq (.ops [pF 107 3 2,pR 108 6 107,pF 109 3 3,pR 110 6 109,pW 111 89 108 110,pM 112 111,gT 112 (oF 113 9 2),gT 112 (oL 114 113),gT 112 (oF 115 9 3),gT 112 (oL 116 115),gT 112 (oW 117 90 114 116),pP 118 112 117,pM 119 118,gT 119 (oF 120 10 2),gT 119 (oL 121 120),gT 119 (oF 122 10 3),gT 119 (oL 123 122),gT 119 (oW 124 25 121 123),pP 125 119 124,pM 4 125]) .ret)))))
theorem ok57:FnOk E 57 126 [.tmp 4] mc57:=ofk func57
set_option maxRecDepth 20000
set_option maxHeartbeats 8000000
def sameP (a b:QY):Prop:=a.kind=b.kind∧a.tab=b.tab∧a.n=b.n∧a.subs.length=b.subs.length∧a.aggs=b.aggs∧a.ord=b.ord∧a.cond=b.cond∧a.cols=b.cols∧a.grp=b.grp
noncomputable def sameB (a b:QY):Bool:=@decide (sameP a b) (Classical.propDecidable _)
theorem sameB_iff {a b:QY}:sameB a b=true↔sameP a b:=by simp [sameB]
theorem sameB_false {a b:QY}:sameB a b=false↔¬ sameP a b:=by simp [sameB]
theorem q_same {a b:QY}:a=b↔sameP a b∧a.subs=b.subs:=by
 rw [q_eq,sameP]
 constructor
 · rintro ⟨h1,h2,h3,h4,h5,h6,h7,h8,h9⟩;exact ⟨⟨h1,h2,h3,by rw [h9],h7,h8,h4,h5,h6⟩,h9⟩
 · rintro ⟨⟨h1,h2,h3,_,h7,h8,h4,h5,h6⟩,h9⟩;exact ⟨h1,h2,h3,h4,h5,h6,h7,h8,h9⟩
theorem ag_eq {a b:AG}:a=b↔a.fn=b.fn∧a.arg=b.arg:=by
 cases a;cases b;simp
theorem c57 (a b:QY):ACalls E.P 57 [a.av,b.av] [] (fun r H=>r=.bool (sameB a b)∧H=[]):=by
 have hmax:=maxLen_eq
 have h89:=c89 a.cond b.cond
 have h90:=c90 a.cols b.cols
 have h25:=c25 a.grp b.grp
 simp only [av_fs] at h89
 refine ok57.acalls hE hm (by simp) fun N hN=>?_
 unfold mc57 q57_0 pK pF pL pM pO pI pG pB pA pR pW pP gF gT oM oL oR oF oZ oO oN oG oQ oW
 simp only [lA,seval,q_av]
 repeat' (first|(with_reducible first|(apply St.o;constructor)<;>intro _|refine And.intro (by omega) ?_|(apply Sq.o;constructor))|simp (disch:=omega) only [lE,seval,strA,List.length_map])
 all_goals first
  | (refine keep_b (sameB_false.2 fun h=>?_).symm
     obtain ⟨h1,h2,h3,h4,h5,h6,_⟩:=h
     have l5:=congrArg List.length h5
     have l6:=congrArg List.length h6
     first | omega | contradiction)
  | skip
 have hk:a.kind=b.kind:=‹_›
 have htb:a.tab=b.tab:=‹_›
 have hn:a.n=b.n:=‹_›
 have hsl:a.subs.length=b.subs.length:=by omega
 have hal:a.aggs.length=b.aggs.length:=by omega
 have hol:a.ord.length=b.ord.length:=by omega
 have fa:∀ i,i<a.aggs.length→a.aggs.getD i default≠b.aggs.getD i default→sameB a b=false:=fun i _ h=>sameB_false.2 fun hs=>h (by rw [hs.2.2.2.2.1])
 have fo:∀ i,i<a.ord.length→a.ord.getD i default≠b.ord.getD i default→sameB a b=false:=fun i _ h=>sameB_false.2 fun hs=>h (by rw [hs.2.2.2.2.2.1])
 refine loop_i (fun i:Nat=>i≤a.aggs.length∧∀ j,j<i→a.aggs.getD j default=b.aggs.getD j default) (fun i=>⟨[(2,.op 0 0),(3,.op 1 0),(5,.int .i64 i)],[.box a.cs,.box b.cs]⟩) (fun i=>a.aggs.length - i) 0 ⟨by omega,by simp⟩ (ent [0,1] false (by simp only [lP,seval,pa_qs,pa_exs,pa_ags,pa_ods,pa_ints]<;>(try simp)<;>(try omega)) (by simp only [lP,seval,pa_qs,pa_exs,pa_ags,pa_ods,pa_ints]<;>(try simp)<;>(try omega))) ?_
 rintro i ⟨hi,hae⟩
 by_cases hin:i<a.aggs.length
 · have hlt:((i:Int)<(a.aggs.length:Int)):=by omega
   have hlb:i<b.aggs.length:=by omega
   have hj:=c89 (a.aggs.getD i default).arg (b.aggs.getD i default).arg
   simp only [av_fs] at hj
   have hff:=fa i hin
   repeat' (first|(with_reducible first|(apply St.o;constructor)<;>intro _|refine And.intro (by omega) ?_|(apply Sq.o;constructor))|((with_reducible apply Sc.o true;constructor);simp only [lP,seval,IdxR_ags,Int.toNat_natCast,List.length_map,hlt,decide_true];refine ⟨_,hj,?_⟩;rintro _ _ ⟨rfl,rfl⟩;simp only [lA,lP,seval,IdxR_ags,Int.toNat_natCast,List.length_map,hlt,decide_true])|simp (disch:=omega) only [lE,seval,IdxR_ags,Int.toNat_natCast,List.length_map,hlt,decide_true])
   · rename_i h1 h2
     exact keep_b (hff fun h=>by rw [h,eqE_iff.2 rfl] at h2;simp at h2).symm
   · rename_i h1 h2
     have h3:(a.aggs.getD i default).arg=(b.aggs.getD i default).arg:=eqE_iff.1 (by simpa using h2)
     refine back_i (i+1) ⟨by omega,fun j hj=>?_⟩ (by omega) (ent [0,1] false (by simp only [lP,seval,pa_qs,pa_exs,pa_ags,pa_ods,pa_ints]<;>(try simp)<;>(try omega)) (by simp only [lP,seval,pa_qs,pa_exs,pa_ags,pa_ods,pa_ints]<;>(try simp)<;>(try omega)))
     by_cases hji:j<i
     · exact hae j hji
     · obtain rfl:j=i:=by omega
       exact ag_eq.2 ⟨h1,h3⟩
   · rename_i h1
     exact keep_b (hff fun h=>h1 (by rw [h])).symm
 · obtain rfl:i=a.aggs.length:=by omega
   have hag:=list_eqG hal hae
   repeat' (first|(with_reducible first|(apply St.o;constructor)<;>intro _|refine And.intro (by omega) ?_|(apply Sq.o;constructor))|simp (disch:=omega) only [lE,seval,List.length_map,Int.lt_irrefl,decide_false])
   refine loop_i (fun i:Nat=>i≤a.ord.length∧∀ j,j<i→a.ord.getD j default=b.ord.getD j default) (fun i=>⟨[(2,.op 0 0),(3,.op 1 0),(6,.int .i64 i)],[.box a.cs,.box b.cs]⟩) (fun i=>a.ord.length - i) 0 ⟨by omega,by simp⟩ (ent [0,1] false (by simp only [lP,seval,pa_qs,pa_exs,pa_ags,pa_ods,pa_ints]<;>(try simp)<;>(try omega)) (by simp only [lP,seval,pa_qs,pa_exs,pa_ags,pa_ods,pa_ints]<;>(try simp)<;>(try omega))) ?_
   rintro k ⟨hk2,hoe⟩
   by_cases hkn:k<a.ord.length
   · have hlt:((k:Int)<(a.ord.length:Int)):=by omega
     have hlb:k<b.ord.length:=by omega
     have hff:=fo k hkn
     repeat' (first|(with_reducible first|(apply St.o;constructor)<;>intro _|refine And.intro (by omega) ?_|(apply Sq.o;constructor))|simp (disch:=omega) only [lE,seval,IdxR_ods,Int.toNat_natCast,List.length_map,hlt,decide_true])
     · rename_i h2
       refine keep_b (hff fun h=>?_).symm
       first | (rw [h] at h2;simp at h2;done) | (simp at h2 h;exact h2 h)
     · rename_i h2
       have h3:a.ord.getD k default=b.ord.getD k default:=od_eq.2 (by simpa using h2)
       refine back_i (k+1) ⟨by omega,fun j hj=>?_⟩ (by omega) (ent [0,1] false (by simp only [lP,seval,pa_qs,pa_exs,pa_ags,pa_ods,pa_ints]<;>(try simp)<;>(try omega)) (by simp only [lP,seval,pa_qs,pa_exs,pa_ags,pa_ods,pa_ints]<;>(try simp)<;>(try omega)))
       by_cases hji:j<k
       · exact hoe j hji
       · obtain rfl:j=k:=by omega
         exact h3
   · obtain rfl:k=a.ord.length:=by omega
     have hod:=list_eqG hol hoe
     clear hoe hae fa fo
     have key:sameB a b=(eqE a.cond b.cond && eqL a.cols b.cols && eqC a.grp b.grp):=by
      rw [Bool.eq_iff_iff,sameB_iff,Bool.and_eq_true,Bool.and_eq_true,eqE_iff,eqL_iff,eqC_iff,sameP]
      constructor
      · rintro ⟨_,_,_,_,_,_,h7,h8,h9⟩;exact ⟨⟨h7,h8⟩,h9⟩
      · rintro ⟨⟨h7,h8⟩,h9⟩;exact ⟨hk,htb,hn,hsl,hag,hod,h7,h8,h9⟩
     rw [key]
     generalize eqE a.cond b.cond=e1 at *
     generalize eqL a.cols b.cols=e2 at *
     generalize eqC a.grp b.grp=e3 at *
     repeat' (first|(with_reducible first|(apply St.o;constructor)<;>intro _|refine And.intro (by omega) ?_|(apply Sq.o;constructor))|((with_reducible apply Sc.o true;constructor);simp only [lP,seval,List.length_map,Int.lt_irrefl,decide_false];(first|refine ⟨_,h89,?_⟩|refine ⟨_,h90,?_⟩|refine ⟨_,h25,?_⟩);rintro _ _ ⟨rfl,rfl⟩;simp only [lA,lP,seval,List.length_map,Int.lt_irrefl,decide_false])|simp (disch:=omega) only [lE,seval,List.length_map,Int.lt_irrefl,decide_false])
     all_goals (refine keep_b ?_;simp_all)
theorem c28 (a b:QY):ACalls E.P 28 [a.av,b.av] [] (fun r H=>r=.bool (eqC a b)∧H=[]):=by
 have hmax:=maxLen_eq
 refine q_ind (p:=fun a=>∀ b:QY,ACalls E.P 28 [a.av,b.av] [] (fun r H=>r=.bool (eqC a b)∧H=[])) (fun a ih b=>?_) a b
 have h57:=c57 a b
 simp only [q_av] at h57
 refine ok28.acalls hE hm (by simp) fun N hN=>?_
 unfold mc28 q28_0 pK pR pW pM pN pI pF pL pG pB pA oM oL oR oF oZ oQ oW
 simp only [lA,seval,q_av]
 by_cases hs:sameB a b=true
 · rw [hs] at h57
   have hsp:=sameB_iff.1 hs
   have hsl:=hsp.2.2.2.1
   repeat' (first|(with_reducible first|(apply St.o;constructor)<;>intro _|refine And.intro (by omega) ?_|(apply Sq.o;constructor))|((with_reducible apply Sc.o true;constructor);simp only [lP,seval];refine ⟨_,h57,?_⟩;rintro _ _ ⟨rfl,rfl⟩;simp only [lA,lP,seval])|simp (disch:=omega) only [lE,seval])
   refine loop_i (fun i:Nat=>i≤a.subs.length∧∀ j,j<i→a.subs.getD j default=b.subs.getD j default) (fun i=>⟨[(2,.op 0 0),(3,.op 1 0),(6,.int .i64 i)],[.box a.cs,.box b.cs]⟩) (fun i=>a.subs.length - i) 0 ⟨by omega,by simp⟩ (ent [0,1] false (by simp only [lP,seval,pa_qs,pa_exs,pa_ags,pa_ods,pa_ints]<;>(try simp)<;>(try omega)) (by simp only [lP,seval,pa_qs,pa_exs,pa_ags,pa_ods,pa_ints]<;>(try simp)<;>(try omega))) ?_
   rintro i ⟨hi,hae⟩
   by_cases hin:i<a.subs.length
   · have hlt:((i:Int)<(a.subs.length:Int)):=by omega
     have hlb:i<b.subs.length:=by omega
     have hk:=ih i hin (b.subs.getD i default)
     simp only [q_av] at hk
     repeat' (first|(with_reducible first|(apply St.o;constructor)<;>intro _|refine And.intro (by omega) ?_|(apply Sq.o;constructor))|((with_reducible apply Sc.o true;constructor);simp only [lP,seval,IdxR_qs,Int.toNat_natCast,List.length_map,hlt,decide_true];refine ⟨_,hk,?_⟩;rintro _ _ ⟨rfl,rfl⟩;simp only [lA,lP,seval,IdxR_qs,Int.toNat_natCast,List.length_map,hlt,decide_true])|simp (disch:=omega) only [lE,seval,IdxR_qs,Int.toNat_natCast,List.length_map,hlt,decide_true])
     · rename_i h2
       have h3:¬ (a.subs.getD i default=b.subs.getD i default):=by rw [← eqC_iff];simpa using h2
       exact keep_b (eqC_false.2 fun h4=>by subst h4;exact h3 rfl).symm
     · rename_i h2
       have h3:a.subs.getD i default=b.subs.getD i default:=by rw [← eqC_iff];simpa using h2
       refine back_i (i+1) ⟨by omega,fun j hj=>?_⟩ (by omega) (ent [0,1] false (by simp only [lP,seval,pa_qs,pa_exs,pa_ags,pa_ods,pa_ints]<;>(try simp)<;>(try omega)) (by simp only [lP,seval,pa_qs,pa_exs,pa_ags,pa_ods,pa_ints]<;>(try simp)<;>(try omega)))
       by_cases hji:j<i
       · exact hae j hji
       · obtain rfl:j=i:=by omega
         exact h3
   · obtain rfl:i=a.subs.length:=by omega
     repeat' (first|(with_reducible first|(apply St.o;constructor)<;>intro _|refine And.intro (by omega) ?_|(apply Sq.o;constructor))|simp (disch:=omega) only [lE,seval,List.length_map,Int.lt_irrefl,decide_false])
     exact keep_b (eqC_iff.2 (q_same.2 ⟨hsp,list_eqG hsl hae⟩)).symm
 · have hs2:sameB a b=false:=by simpa using hs
   rw [hs2] at h57
   repeat' (first|(with_reducible first|(apply St.o;constructor)<;>intro _|refine And.intro (by omega) ?_|(apply Sq.o;constructor))|((with_reducible apply Sc.o true;constructor);simp only [lP,seval];refine ⟨_,h57,?_⟩;rintro _ _ ⟨rfl,rfl⟩;simp only [lA,lP,seval])|simp (disch:=omega) only [lE,seval])
   exact keep_b (eqC_false.2 fun h=>hs (sameB_iff.2 (q_same.1 h).1)).symm
end Go.Proofs.Try
