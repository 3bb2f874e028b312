/-
 A part of the proof: see the text of the law.
-/
import Derived.Test.YtchlampphcaomaaGreatDoorLai
import Derived.Test.YtchlampphcaomaaGreatDoorAlphaK
set_option linter.unusedSimpArgs false
set_option linter.unusedVariables false
namespace Go.Proofs.Try
open Go.Proofs.Tryz
open Go.Al
set_option maxRecDepth 100000
abbrev q48_0:MI:=oZ 2
def mc48:MC:=(.seq (.ops [pK 1 0,(none,q48_0)]) (.seq (.seq (.any false (.pure0 none (oF 7 0 1) (.pure0 none (oL 8 7) (.pure0 none (.v (.bin 9 .lss false (.t 8) (.c (.int .i64 1)))) (.pure0 none (oM 10 9) (.pure0 (some (10,false)) (oF 11 0 1) (.pure0 (some (10,false)) (oL 12 11) (.pure0 (some (10,false)) (.v (.bin 13 .gtr false (.t 12) (.c (.int .i64 8)))) (.pure0 none (oO 14 10 13) (.pure0 none (oM 15 14) (.pure0 (some (15,false)) (oF 16 2 1) (.pure0 (some (15,false)) (oL 17 16) (.pure0 (some (15,false)) (oG 18 17) (.pure0 (some (15,false)) (oF 19 0 1) (.pure0 (some (15,false)) (oL 20 19) (.alt (some (15,false)) (oV 21 85 20) (.base (.pure0 (some (15,false)) (.v (.bin 22 .neq false (.t 18) (.t 21))) (.pure0 none (oO 23 15 22) .done))) .stop)))))))))))))))) (.cond 23 (.seq (.ops [(none,q48_0)]) .ret) .skip)) (.seq (.ops [pF 24 0 1,pL 25 24,pM 3 25]) (.seq (.seq (.ops [pM 26 3,pD 27 26 1,pM 28 27,gT 28 (oF 29 1 1),gT 28 (oL 30 29),(some (28,true),.v (.bin 31 .neq false (.t 30) (.c (.str ⟨#[]⟩)))),pP 32 28 31,pM 33 32,gF 33 (oM 34 3),gF 33 (oD 35 34 2),gF 33 (oM 36 35),gT 36 (oM 37 3),gT 36 (oD 38 37 4),gF 33 (oP 39 36 38),gF 33 (oM 40 39),gT 40 (oF 41 3 1),gT 40 (oR 42 6 41),gT 40 (oV 43 86 42),gT 40 (oN 44 43),gF 33 (oP 45 40 44),pO 46 33 45,pM 47 46,gF 47 (oM 48 3),gF 47 (oD 49 48 3),gF 47 (oM 50 49),gT 50 (oF 51 9 1),gT 50 (oL 52 51),gT 50 (oG 53 52),(some (50,true),.v (.bin 54 .gtr false (.t 53) (.c (.int .i64 0)))),gF 47 (oP 55 50 54),pO 56 47 55]) (.cond 56 (.seq (.ops [(none,q48_0)]) .ret) .skip)) (.seq (.seq (.ops [pM 57 3,pD 58 57 5,pM 59 58,gT 59 (oF 60 10 1),gT 59 (oL 61 60),gT 59 (oG 62 61),gT 59 (oF 63 11 1),gT 59 (oL 64 63),gT 59 (oG 65 64),(some (59,true),.v (.bin 66 .add false (.t 62) (.t 65))),(some (59,true),.v (.bin 67 .gtr false (.t 66) (.c (.int .i64 0)))),pP 68 59 67,pM 69 68,gF 69 (oM 70 3),gF 69 (oD 71 70 6),gF 69 (oM 72 71),gT 72 (oF 73 12 1),gT 72 (oL 74 73),gT 72 (oG 75 74),(some (72,true),.v (.bin 76 .gtr false (.t 75) (.c (.int .i64 0)))),gF 69 (oP 77 72 76),pO 78 69 77,pM 79 78,gF 79 (oM 80 3),gF 79 (oD 81 80 7),gF 79 (oM 82 81),gT 82 (oF 83 13 1),gT 82 (oL 84 83),gT 82 (oD 85 84 0),gF 79 (oP 86 82 85),pO 87 79 86]) (.cond 87 (.seq (.ops [(none,q48_0)]) .ret) .skip)) (.seq (.seq (.ops [pI 4 0]) (.block 0 (.loop (.seq (.seq (.ops [pM 88 4,pF 89 11 1,pL 90 89,pG 91 90,pB 92 88 91]) (.cond 92 .skip (.exit 0))) (.seq (.block 1 (.seq (.ops [pF 95 11 1,pL 96 95,pM 97 4,pQ 98 7 96 97,pF 99 0 98,pL 100 99,pE 101 100 1,pM 102 101,gT 102 (oF 103 11 1),gT 102 (oL 104 103),gT 102 (oM 105 4),gT 102 (oQ 106 7 104 105),gT 102 (oF 107 1 106),gT 102 (oR 108 6 107),gT 102 (oV 109 86 108),gT 102 (oN 110 109),pP 111 102 110]) (.cond 111 (.seq (.ops [(none,q48_0)]) .ret) .skip))) (.ops [pM 93 4,pA 94 93 1,pM 4 94])))))) (.seq (.seq (.ops [pI 5 0]) (.block 2 (.loop (.seq (.seq (.ops [pM 112 5,pF 113 2 1,pL 114 113,pG 115 114,pB 116 112 115]) (.cond 116 .skip (.exit 2))) (.seq (.block 3 (.seq (.ops [pF 119 2 1,pL 120 119,pM 121 5,pQ 122 14 120 121,pR 123 14 122,pV 124 48 123,pM 6 124]) (.seq (.ops [pM 125 6,pN 126 125]) (.cond 126 (.seq (.ops [(none,q48_0)]) .ret) .skip)))) (.ops [pM 117 5,pA 118 117 1,pM 5 118])))))) (.seq (.ops [(none,.v (.mov 2 (.c (.bool true))))]) .ret))))))))
theorem ok48:FnOk E 48 127 [.tmp 2] mc48:=ofk func48
def mc85:MC:=(.seq (.ops [pI 2 0]) (.seq (.seq (.ops [pM 3 0]) (.block 0 (.seq (.ops [pE 5 3 1,pM 4 5]) (.cond 4 (.seq (.ops [pI 2 0]) .ret) (.seq (.ops [pE 7 3 4,pM 6 7]) (.cond 6 (.seq (.ops [pI 2 2]) .ret) .skip)))))) (.seq (.ops [pI 2 1]) .ret)))
theorem ok85:FnOk E 85 8 [.tmp 2] mc85:=ofk func85
def mc86:MC:=(.seq (.ops [pK 1 0,pZ 2]) (.seq (.ops [pF 3 0 1,pL 4 3,pE 5 4 0,pM 6 5,gT 6 (oF 7 1 1),gT 6 (oL 8 7),gT 6 (oE 9 8 0),pP 10 6 9,pM 11 10,gT 11 (oF 12 2 1),gT 11 (oR 13 3 12),(some (11,true),.v (.build 14 z2 [])),(some (11,true),.v (.eq 15 false (.agg [(0,false,1,.int),(1,false,1,.int),(2,false,1,.str)]) (.t 13) (.t 14))),pP 16 11 15,pM 17 16,gT 17 (oF 18 5 1),gT 17 (oL 19 18),gT 17 (oG 20 19),gT 17 (oE 21 20 0),pP 22 17 21,pM 2 22]) .ret))
theorem ok86:FnOk E 86 23 [.tmp 2] mc86:=ofk func86
set_option maxRecDepth 20000
set_option maxHeartbeats 8000000
theorem c85 (k:Int):ACalls E.P 85 [.int .i64 k] [] (fun r H=>r=.int .i64 (subsN k:Int)∧H=[]):=by
 refine ok85.acalls hE hm (by simp) fun N hN=>?_
 unfold mc85 pI pM pE
 simp only [lA,seval]
 repeat' (first|(with_reducible first|(apply St.o;constructor)<;>intro _|refine And.intro (by omega) ?_|(apply Sq.o;constructor))|simp (disch:=omega) only [lE,seval])
 all_goals (refine keep_n ?_;unfold subsN;simp_all)
theorem zr_iff {e:EX}:e.zr=true↔e.op=0∧e.n=0∧e.val.k=0∧e.val.n=0∧e.val.s=⟨#[]⟩∧e.args=[]:=by
 rw [EX.zr,eqC_iff]
 obtain ⟨op,n,k,i,s,args⟩:=e
 simp [EX.zero,EX.op,EX.n,EX.val,EX.args]
theorem c86 (e:EX):ACalls E.P 86 [e.av] [] (fun r H=>r=.bool e.zr∧H=[]):=by
 have hmax:=maxLen_eq
 refine ok86.acalls hE hm (by simp) fun N hN=>?_
 unfold mc86 z2 pK pZ pF pL pE pM pP gT oL oR oF oE oG
 simp only [lA,seval,av_fs]
 repeat' (first|(with_reducible first|(apply St.o;constructor)<;>intro _|refine And.intro (by omega) ?_|(apply Sq.o;constructor))|simp (disch:=omega) only [lE,seval,strA,List.length_map])
 all_goals (refine keep_b ?_;rw [Bool.eq_iff_iff,zr_iff];try simp_all)
theorem spine48:∀ fn,E.P.funcs[48]?=some fn→fn.body.map (Go.Al.spine 7)=some true:=fun fn h=>by
 have e:=func48.symm.trans h
 injection e with e
 subst e
 rfl
theorem c48 (q:QY):q.ok→ACalls E.P 48 [q.av] [] (fun r H=>r=.bool q.formed∧H=[]):=by
 have hmax:=maxLen_eq
 refine q_ind (p:=fun q=>q.ok→ACalls E.P 48 [q.av] [] (fun r H=>r=.bool q.formed∧H=[])) (fun q ih hok=>?_) q
 have hok2:=(ok_eq q).1 hok
 have hg:=hok2.2.2.1
 have ha:=hok2.2.2.2.1
 have k85:=c85 q.kind
 have k86:=c86 q.cond
 simp only [av_fs] at k86
 have hf:¬ q.node=true→q.formed=false:=fun h=>by rw [qformed_eq];simp [h]
 refine ok48.acallsF hE hm (by simp) 7 spine48 fun N hN=>?_
 unfold mc48 q48_0 pK pF pL pM pD pP pO pI pG pB pQ pE pA pR pV pN gT gF oM oL oR oF oD oZ oP oO oN oG oQ oV
 simp only [q_av]
 refine mf_i ?_
 simp only [lA,seval]
 repeat' (first|(with_reducible first|(apply St.o;constructor)<;>intro _|refine And.intro (by omega) ?_|(apply Sq.o;constructor))|simp (disch:=omega) only [lE,seval])
 refine mf_go ?_
 refine mf_cutE (φ:=1≤q.kind∧q.kind≤8∧q.subs.length=subsN q.kind) [(1,.op 0 0)] [.box q.cs] ?_ fun hk=>?_
 · simp only [lA,seval]
   repeat' (first|(with_reducible first|(apply St.o;constructor)<;>intro _|refine And.intro (by omega) ?_|(apply Sq.o;constructor))|((with_reducible apply Sc.o true;constructor);simp only [lP,seval,List.length_map];refine ⟨_,k85,?_⟩;rintro _ _ ⟨rfl,rfl⟩;simp only [lA,lP,seval,List.length_map])|simp (disch:=omega) only [lE,seval,List.length_map])
   all_goals first
    | (exfalso;omega)
    | exact .inl ⟨(ent [0] true (by simp only [lP,seval,pa_qs,pa_exs,pa_ags,pa_ods,pa_ints]<;>(try simp)<;>(try omega)) (by simp only [lP,seval,pa_qs,pa_exs,pa_ags,pa_ods,pa_ints]<;>(try simp)<;>(try omega))),by omega,by omega,by omega⟩
    | exact .inr (keep_b (hf fun h=>by have:=node_iff.1 h;omega).symm)
 obtain ⟨hk1,hk8,hsl⟩:=hk
 refine mf_cut [(1,.op 0 0),(3,.int .i64 q.kind)] [.box q.cs] ?_ ?_
 · simp only [lA,seval]
   repeat' (first|(with_reducible first|(apply St.o;constructor)<;>intro _|refine And.intro (by omega) ?_|(apply Sq.o;constructor))|simp (disch:=omega) only [lE,seval])
   all_goals first
    | exact (ent [0] true (by simp only [lP,seval,pa_qs,pa_exs,pa_ags,pa_ods,pa_ints]<;>(try simp)<;>(try omega)) (by simp only [lP,seval,pa_qs,pa_exs,pa_ags,pa_ods,pa_ints]<;>(try simp)<;>(try omega)))
    | exact ⟨rfl,(ent [0] true (by simp only [lP,seval,pa_qs,pa_exs,pa_ags,pa_ods,pa_ints]<;>(try simp)<;>(try omega)) (by simp only [lP,seval,pa_qs,pa_exs,pa_ags,pa_ods,pa_ints]<;>(try simp)<;>(try omega)))⟩
 refine mf_cutE (φ:=(q.kind≠1→q.tab=⟨#[]⟩)∧(q.kind≠2∧q.kind≠4→q.cond=EX.zero)∧(q.kind≠3→q.cols=[])) [(1,.op 0 0),(3,.int .i64 q.kind)] [.box q.cs] ?_ fun hb1=>?_
 · have hz:q.cond.zr=true↔q.cond=EX.zero:=eqC_iff
   have hz2:q.cond.zr=false↔¬ q.cond=EX.zero:=eqC_false
   have hcl:(q.cols.length=0)↔q.cols=[]:=List.length_eq_zero_iff
   simp only [lA,seval]
   repeat' (first|(with_reducible first|(apply St.o;constructor)<;>intro _|refine And.intro (by omega) ?_|(apply Sq.o;constructor))|((with_reducible apply Sc.o true;constructor);simp only [lP,seval,strA,List.length_map];refine ⟨_,k86,?_⟩;rintro _ _ ⟨rfl,rfl⟩;simp only [lA,lP,seval,strA,List.length_map])|simp (disch:=omega) only [lE,seval,strA,List.length_map])
   all_goals first
    | (exfalso;omega)
    | (refine .inl ⟨(ent [0] true (by simp only [lP,seval,pa_qs,pa_exs,pa_ags,pa_ods,pa_ints]<;>(try simp)<;>(try omega)) (by simp only [lP,seval,pa_qs,pa_exs,pa_ags,pa_ods,pa_ints]<;>(try simp)<;>(try omega))),?_⟩
       refine ⟨?_,?_,?_⟩ <;> intro h <;> first | assumption | (exfalso;omega) | exact hcl.1 (by omega) | exact hz.1 (by simp_all))
    | (refine .inr (keep_b (hf fun h=>?_).symm)
       obtain ⟨_,_,⟨b1,b2,b3,_⟩,_⟩:=node_iff.1 h
       first
        | exact absurd (b1 (by omega)) (by assumption)
        | (have:=hz.2 (b2 ⟨by omega,by omega⟩);simp_all;done)
        | (have:=hcl.2 (b3 (by omega));omega))
 obtain ⟨b1,b2,b3⟩:=hb1
 refine mf_cutE (φ:=(q.kind≠5→q.grp=[]∧q.aggs=[])∧(q.kind≠6→q.ord=[])∧(q.kind≠7→q.n=0)) [(1,.op 0 0)] [.box q.cs] ?_ fun hb2=>?_
 · have hgl:(q.grp.length=0)↔q.grp=[]:=List.length_eq_zero_iff
   have hal:(q.aggs.length=0)↔q.aggs=[]:=List.length_eq_zero_iff
   have hol:(q.ord.length=0)↔q.ord=[]:=List.length_eq_zero_iff
   simp only [lA,seval]
   repeat' (first|(with_reducible first|(apply St.o;constructor)<;>intro _|refine And.intro (by omega) ?_|(apply Sq.o;constructor))|simp (disch:=omega) only [lE,seval,List.length_map])
   all_goals first
    | (exfalso;omega)
    | (refine .inl ⟨(ent [0] true (by simp only [lP,seval,pa_qs,pa_exs,pa_ags,pa_ods,pa_ints]<;>(try simp)<;>(try omega)) (by simp only [lP,seval,pa_qs,pa_exs,pa_ags,pa_ods,pa_ints]<;>(try simp)<;>(try omega))),?_⟩
       refine ⟨?_,?_,?_⟩ <;> intro h <;> first | assumption | (exfalso;omega) | exact hol.1 (by omega) | exact ⟨hgl.1 (by omega),hal.1 (by omega)⟩)
    | (refine .inr (keep_b (hf fun h=>?_).symm)
       obtain ⟨_,_,⟨_,_,_,b4,b5,b6⟩,_⟩:=node_iff.1 h
       first
        | (obtain ⟨x,y⟩:=b4 (by omega);have:=hgl.2 x;have:=hal.2 y;omega)
        | (have:=hol.2 (b5 (by omega));omega)
        | (have:=b6 (by omega);omega)
        | exact absurd (b6 (by omega)) (by assumption))
 obtain ⟨b4,b5,b6⟩:=hb2
 have hbare:q.bare:=⟨b1,b2,b3,b4,b5,b6⟩
 refine mf_cutE (φ:=∀ x ∈ q.aggs,x.odd=false) [(1,.op 0 0)] [.box q.cs] ?_ fun hodd=>?_
 · simp only [lA,seval]
   refine loop_i (fun i:Nat=>i≤q.aggs.length∧∀ x ∈ q.aggs.take i,x.odd=false) (fun i=>⟨[(1,.op 0 0),(4,.int .i64 i)],[.box q.cs]⟩) (fun i=>q.aggs.length - i) 0 ⟨by omega,by simp⟩ (ent [0] false (by simp only [lP,seval,pa_qs,pa_exs,pa_ags,pa_ods,pa_ints]<;>(try simp)<;>(try omega)) (by simp only [lP,seval,pa_qs,pa_exs,pa_ags,pa_ods,pa_ints]<;>(try simp)<;>(try omega))) ?_
   rintro i ⟨hi,hae⟩
   by_cases hin:i<q.aggs.length
   · have hlt:((i:Int)<(q.aggs.length:Int)):=by omega
     have hz:=c86 (q.aggs.getD i default).arg
     simp only [av_fs] at hz
     have hmem:q.aggs.getD i default ∈ q.aggs:=by simp [hin]
     have hoddn:(q.aggs.getD i default).odd=true→q.formed=false:=fun h=>hf fun h2=>by
      have:=(node_iff.1 h2).2.2.2.2 _ hmem
      rw [h] at this;cases this
     have hnext:(q.aggs.getD i default).odd=false→∀ x ∈ q.aggs.take (i+1),x.odd=false:=fun h x hx=>by
      rw [List.take_succ_eq_append_getElem hin] at hx
      rcases List.mem_append.1 hx with hx | hx
      · exact hae x hx
      · rw [List.mem_singleton.1 hx]
        have e:q.aggs.getD i default=q.aggs[i]:=by simp [hin]
        rw [← e];exact h
     have hod:(q.aggs.getD i default).odd=(decide ((q.aggs.getD i default).fn=1) && !(q.aggs.getD i default).arg.zr):=rfl
     generalize hzz:(q.aggs.getD i default).arg.zr=zz at *
     repeat' (first|(with_reducible first|(apply St.o;constructor)<;>intro _|refine And.intro (by omega) ?_|(apply Sq.o;constructor))|((with_reducible apply Sc.o true;constructor);simp only [lP,seval,IdxR_ags,Int.toNat_natCast,List.length_map,hlt,decide_true];refine ⟨_,hz,?_⟩;rintro _ _ ⟨rfl,rfl⟩;simp only [lA,lP,seval,IdxR_ags,Int.toNat_natCast,List.length_map,hlt,decide_true])|simp (disch:=omega) only [lE,seval,IdxR_ags,Int.toNat_natCast,List.length_map,hlt,decide_true])
     all_goals first
      | (refine back_i (i+1) ⟨by omega,hnext (by rw [hod];simp_all)⟩ (by omega) (ent [0] false (by simp only [lP,seval,pa_qs,pa_exs,pa_ags,pa_ods,pa_ints]<;>(try simp)<;>(try omega)) (by simp only [lP,seval,pa_qs,pa_exs,pa_ags,pa_ods,pa_ints]<;>(try simp)<;>(try omega))))
      | exact .inr (keep_b (hoddn (by rw [hod];simp_all)).symm)
   · obtain rfl:i=q.aggs.length:=by omega
     rw [List.take_length] at hae
     repeat' (first|(with_reducible first|(apply St.o;constructor)<;>intro _|refine And.intro (by omega) ?_|(apply Sq.o;constructor))|simp (disch:=omega) only [lE,seval,List.length_map,Int.lt_irrefl,decide_false])
     all_goals exact .inl ⟨(ent [0] true (by simp only [lP,seval,pa_qs,pa_exs,pa_ags,pa_ods,pa_ints]<;>(try simp)<;>(try omega)) (by simp only [lP,seval,pa_qs,pa_exs,pa_ags,pa_ods,pa_ints]<;>(try simp)<;>(try omega))),hae⟩
 have hnode:q.node=true:=node_iff.2 ⟨hk1,hk8,hbare,hsl,hodd⟩
 have hall:q.formed=q.subs.all QY.formed:=by rw [qformed_eq,hnode,Bool.true_and]
 refine mf_i ?_
 simp only [lA,seval]
 refine loop_i (fun i:Nat=>i≤q.subs.length∧∀ x ∈ q.subs.take i,x.formed=true) (fun i=>⟨[(1,.op 0 0),(5,.int .i64 i)],[.box q.cs]⟩) (fun i=>q.subs.length - i) 0 ⟨by omega,by simp⟩ (ent [0] false (by simp only [lP,seval,pa_qs,pa_exs,pa_ags,pa_ods,pa_ints]<;>(try simp)<;>(try omega)) (by simp only [lP,seval,pa_qs,pa_exs,pa_ags,pa_ods,pa_ints]<;>(try simp)<;>(try omega))) ?_
 rintro i ⟨hi,hae⟩
 by_cases hin:i<q.subs.length
 · have hlt:((i:Int)<(q.subs.length:Int)):=by omega
   have hmem:q.subs.getD i default ∈ q.subs:=by simp [hin]
   have hz:=ih i hin (hok2.2.2.2.2.2 _ hmem)
   simp only [q_av] at hz
   have hbad:(q.subs.getD i default).formed=false→q.formed=false:=fun h=>by
    rw [hall,List.all_eq_false]
    exact ⟨_,hmem,by rw [h];simp⟩
   have hnext:(q.subs.getD i default).formed=true→∀ x ∈ q.subs.take (i+1),x.formed=true:=fun h x hx=>by
    rw [List.take_succ_eq_append_getElem hin] at hx
    rcases List.mem_append.1 hx with hx | hx
    · exact hae x hx
    · rw [List.mem_singleton.1 hx]
      have e:q.subs.getD i default=q.subs[i]:=by simp [hin]
      rw [← e];exact h
   generalize hzz:(q.subs.getD i default).formed=zz at *
   repeat' (first|(with_reducible first|(apply St.o;constructor)<;>intro _|refine And.intro (by omega) ?_|(apply Sq.o;constructor))|((with_reducible apply Sc.o true;constructor);simp only [lP,seval,IdxR_qs,Int.toNat_natCast,List.length_map,hlt,decide_true];refine ⟨_,hz,?_⟩;rintro _ _ ⟨rfl,rfl⟩;simp only [lA,lP,seval,IdxR_qs,Int.toNat_natCast,List.length_map,hlt,decide_true])|simp (disch:=omega) only [lE,seval,IdxR_qs,Int.toNat_natCast,List.length_map,hlt,decide_true])
   all_goals first
    | (refine back_i (i+1) ⟨by omega,hnext (by simp_all)⟩ (by omega) (ent [0] false (by simp only [lP,seval,pa_qs,pa_exs,pa_ags,pa_ods,pa_ints]<;>(try simp)<;>(try omega)) (by simp only [lP,seval,pa_qs,pa_exs,pa_ags,pa_ods,pa_ints]<;>(try simp)<;>(try omega))))
    | (simp only [mfQ,lA,seval]
       repeat' (first|(with_reducible first|(apply St.o;constructor)<;>intro _|refine And.intro (by omega) ?_|(apply Sq.o;constructor))|simp (disch:=omega) only [lE,seval])
       exact keep_b (hbad (by simp_all)).symm)
 · obtain rfl:i=q.subs.length:=by omega
   rw [List.take_length] at hae
   have hft:q.formed=true:=by rw [hall,List.all_eq_true];exact hae
   repeat' (first|(with_reducible first|(apply St.o;constructor)<;>intro _|refine And.intro (by omega) ?_|(apply Sq.o;constructor))|simp (disch:=omega) only [lE,seval,List.length_map,Int.lt_irrefl,decide_false])
   refine mf_go (mf_last ?_)
   simp only [lA,seval]
   repeat' (first|(with_reducible first|(apply St.o;constructor)<;>intro _|refine And.intro (by omega) ?_|(apply Sq.o;constructor))|simp (disch:=omega) only [lE,seval])
   exact keep_b hft.symm
end Go.Proofs.Try
