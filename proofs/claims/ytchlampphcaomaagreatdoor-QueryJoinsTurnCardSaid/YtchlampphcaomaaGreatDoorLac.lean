/-
 A part of the proof: see the text of the law.
-/
import Derived.Test.YtchlampphcaomaaGreatDoorLab
set_option linter.unusedSimpArgs false
set_option linter.unusedVariables false
namespace Go.Proofs.Try
open Go.Proofs.Tryz
open Go.Al
set_option maxRecDepth 100000
abbrev q33_0:MI:=oL 48 47
abbrev q33_1:MI:=.e (.call (some 52) 33 [.t 49,.t 50,.t 51])
abbrev q33_2:AT:=.alt none (.e (.app 54 28 6 72 (.t 48) (.t 53))) (.pure0 none (oF 55 5 7) (.alt none (.e (.store 1 false (.t 55) (.t 54))) .done .stop)) .stop
abbrev q33_3:AT:=.alt none (.e (.mkl 53 28 6 1 (.agg z3) [(0,.t 52)])) q33_2 .stop
def mc33:MC:=(.seq (.ops [pK 3 0,(none,.e (.alloc 6 z3))]) (.seq (.ops [pR 10 6 3,(none,.e (.alloc 7 z3)),pS 6 7 10]) (.seq (.ops [pF 11 5 7,(none,.e (.store 1 false (.t 11) (.c (.raw (.slice none 0 0)))))]) (.seq (.seq (.ops [pF 12 0 3,pL 13 12,pE 14 13 1,pM 15 14,gT 15 (oF 16 1 3),gT 15 (oL 17 16),gT 15 (oM 18 1),gT 15 (oB 19 17 18),pP 20 15 19]) (.cond 20 (.ops [pF 21 1 3,pL 22 21,pM 23 2,(none,.v (.bin 24 .add false (.t 22) (.t 23))),pF 25 1 7,(none,.e (.store 1 false (.t 25) (.t 24)))]) .skip)) (.seq (.seq (.ops [pF 26 0 3,pL 27 26,pE 28 27 1,pM 29 28,gT 29 (oF 30 1 3),gT 29 (oL 31 30),gT 29 (oM 32 1),(some (29,true),.v (.bin 33 .geq false (.t 31) (.t 32))),pP 34 29 33]) (.cond 34 (.ops [pF 35 1 3,pL 36 35,pM 37 1,(none,.v (.bin 38 .sub false (.t 36) (.t 37))),pF 39 1 7,(none,.e (.store 1 false (.t 39) (.t 38)))]) .skip)) (.seq (.seq (.ops [pF 40 5 3,pL 41 40,pG 42 41,pI 43 0]) (.block 0 (.loop (.seq (.ops [pB 44 43 42]) (.seq (.cond 44 .skip (.exit 0)) (.seq (.block 1 (.seq (.ops [pQ 45 6 41 43,pR 46 6 45,(none,.e (.alloc 9 z3)),pS 6 9 46]) (.any true (.pure0 none (oF 47 5 7) (.pure0 none (oR 49 6 9) (.pure0 none (oM 50 1) (.pure0 none (oM 51 2) (.alt none q33_0 (.alt none q33_1 q33_3 .stop) (.alt none q33_1 (.alt none q33_0 q33_3 (.alt none (.e (.mkl 53 28 6 1 (.agg z3) [(0,.t 52)])) (.alt none q33_0 q33_2 .stop) .stop)) .stop))))))))) (.ops [pA 56 43 1,pM 43 56]))))))) (.seq (.ops [pR 57 6 7,pS 6 6 57]) .ret)))))))
theorem ok33:FnOk E 33 58 [.cell 6 28] mc33:=ofk func33
set_option maxRecDepth 20000
set_option maxHeartbeats 64000000
theorem c33 (lf rt:Int) (e:EX) (hc:e.formed=true):ACalls E.P 33 [e.av,.int .i64 lf,.int .i64 rt] [] (fun r H=>r=(e.cm (tuI lf rt)).av∧H=[]):=by
 have hmax:=maxLen_eq
 generalize hsz:e.count=sz
 induction sz using Nat.strongRecOn generalizing e with
 | _ sz ih =>
 obtain ⟨op,n,k,i,s,args⟩:=e
 have hca:EX.countL args+1=sz:=by simp only [EX.count] at hsz;omega
 rw [formed_eq,Bool.and_eq_true,List.all_eq_true] at hc
 have hlen:args.length≤2:=fm_len hc.1
 have hrec:∀ x ∈ args,ACalls E.P 33 [x.av,.int .i64 lf,.int .i64 rt] [] (fun r H=>r=(x.cm (tuI lf rt)).av∧H=[]):=fun x hx=>ih x.count (by have:=count_mem hx;omega) x (hc.2 x hx) rfl
 simp only [av_fs] at hrec ⊢
 rw [fs_cm]
 refine ok33.acalls hE hm (by simp) fun N hN=>?_
 unfold mc33 q33_3 q33_2 q33_1 q33_0 z3 pK pR pS pF pL pE pM pP pG pI pB pQ pA gT oM oL oR oF oB
 simp only [lA,seval,EX.fs,EX.op,EX.n,EX.val,EX.args]
 repeat' (first|(with_reducible first|(apply St.o;constructor)<;>intro _|refine And.intro (by omega) ?_|(apply Sq.o;constructor))|((with_reducible refine keep0_i ?_);simp only [lP,seval])|simp (disch:=omega) only [lE,seval,ti28])
 all_goals first | (exfalso;omega) | skip
 all_goals
  first
   | (have hif:(if op=1 then tuI lf rt n else n)=IntKind.i64.wrap (n+rt):=by first | (simp [tuI, *];done) | (rw [if_pos (by omega)];simp only [tuI];rw [if_neg (by omega)]) | (rw [if_pos (by omega)];simp only [tuI];rw [if_pos (by omega)])
      rw [hif]
      refine loop_i (fun j:Nat=>j≤args.length) (fun j=>⟨[(1,.int .i64 lf),(2,.int .i64 rt),(3,.op 0 0),(6,.op 1 0),(7,.op 2 0),(41,.view 6 (args.map EX.av)),(42,.int .i64 args.length),(43,.int .i64 j)],cmF op (IntKind.i64.wrap (n+rt)) k i s args (tuI lf rt) j [.box [.int .i64 op,.int .i64 n,.int .i64 k,.int .i64 i,.str s,.view 6 (args.map EX.av)],.box [.int .i64 0,.int .i64 0,.int .i64 0,.int .i64 0,.str ⟨#[]⟩,.raw (.slice none 0 0)]]⟩) (fun j=>args.length - j) 0 (by omega) (by simp only [cmF,if_true,List.cons_append,List.nil_append];exact (ent [0,1,2] false (by simp only [lP,seval,pa_exs]<;>(try simp)<;>(try omega)) (by simp only [lP,seval,pa_exs]<;>(try simp)<;>(try omega)))) ?_)
   | (have hif:(if op=1 then tuI lf rt n else n)=IntKind.i64.wrap (n - lf):=by first | (simp [tuI, *];done) | (rw [if_pos (by omega)];simp only [tuI];rw [if_neg (by omega)]) | (rw [if_pos (by omega)];simp only [tuI];rw [if_pos (by omega)])
      rw [hif]
      refine loop_i (fun j:Nat=>j≤args.length) (fun j=>⟨[(1,.int .i64 lf),(2,.int .i64 rt),(3,.op 0 0),(6,.op 1 0),(7,.op 2 0),(41,.view 6 (args.map EX.av)),(42,.int .i64 args.length),(43,.int .i64 j)],cmF op (IntKind.i64.wrap (n - lf)) k i s args (tuI lf rt) j [.box [.int .i64 op,.int .i64 n,.int .i64 k,.int .i64 i,.str s,.view 6 (args.map EX.av)],.box [.int .i64 0,.int .i64 0,.int .i64 0,.int .i64 0,.str ⟨#[]⟩,.raw (.slice none 0 0)]]⟩) (fun j=>args.length - j) 0 (by omega) (by simp only [cmF,if_true,List.cons_append,List.nil_append];exact (ent [0,1,2] false (by simp only [lP,seval,pa_exs]<;>(try simp)<;>(try omega)) (by simp only [lP,seval,pa_exs]<;>(try simp)<;>(try omega)))) ?_)
   | (have hif:(if op=1 then tuI lf rt n else n)=n:=by first | (simp [tuI, *];done) | (rw [if_pos (by omega)];simp only [tuI];rw [if_neg (by omega)]) | (rw [if_pos (by omega)];simp only [tuI];rw [if_pos (by omega)])
      rw [hif]
      refine loop_i (fun j:Nat=>j≤args.length) (fun j=>⟨[(1,.int .i64 lf),(2,.int .i64 rt),(3,.op 0 0),(6,.op 1 0),(7,.op 2 0),(41,.view 6 (args.map EX.av)),(42,.int .i64 args.length),(43,.int .i64 j)],cmF op (n) k i s args (tuI lf rt) j [.box [.int .i64 op,.int .i64 n,.int .i64 k,.int .i64 i,.str s,.view 6 (args.map EX.av)],.box [.int .i64 0,.int .i64 0,.int .i64 0,.int .i64 0,.str ⟨#[]⟩,.raw (.slice none 0 0)]]⟩) (fun j=>args.length - j) 0 (by omega) (by simp only [cmF,if_true,List.cons_append,List.nil_append];exact (ent [0,1,2] false (by simp only [lP,seval,pa_exs]<;>(try simp)<;>(try omega)) (by simp only [lP,seval,pa_exs]<;>(try simp)<;>(try omega)))) ?_)
  intro j hj
  by_cases hin:j<args.length
  · have hlt:((j:Int)<(args.length:Int)):=by omega
    have hk:=hrec (args.getD j default) (by simp [hin])
    by_cases h0:j=0
    · subst h0
      simp only [cmF,if_true,List.cons_append,List.nil_append]
      repeat' (first|(with_reducible first|(apply St.o;constructor)<;>intro _|refine And.intro (by omega) ?_|(apply Sq.o;constructor))|((with_reducible apply Sc.o false;constructor);simp only [lP,seval,IdxR_exs,Int.toNat_natCast,List.length_map,hlt,decide_true,ti28,pa_exs,vw_exs];refine ⟨_,hk,?_⟩;rintro _ _ ⟨rfl,rfl⟩;simp only [lA,lP,seval,IdxR_exs,Int.toNat_natCast,List.length_map,hlt,decide_true,ti28,pa_exs,vw_exs])|with_reducible refine any_i [2] ?_|((with_reducible refine keep0_i ?_);simp only [lP,seval])|simp (disch:=omega) only [lE,seval,IdxR_exs,Int.toNat_natCast,List.length_map,hlt,decide_true,ti28,pa_exs,vw_exs])
      all_goals first | (exfalso;omega) | skip
      all_goals
       refine back_i (0+1) (by omega) (by omega) ?_
       simp only [cmF,Nat.succ_ne_zero,if_false,List.cons_append,List.nil_append]
       rw [take_cm hin]
       simp only [List.take_zero,List.map_nil,List.nil_append,EX.fs]
       exact (ent [0,1,2,5] false (by simp only [lP,seval,pa_exs,vw_exs]<;>(try simp)<;>(try omega)) (by simp only [lP,seval,pa_exs,vw_exs]<;>(try simp)<;>(try omega)))
    · simp only [cmF,if_neg h0,List.cons_append,List.nil_append]
      have m3:=mem23.1
      have m2:=mem23.2
      have ht:(args.take j).length=j:=by simp;omega
      have htk:=take_cm (f:=EX.cm (tuI lf rt)) hin
      generalize args.take j=G at ht htk ⊢
      repeat' (first|(with_reducible first|(apply St.o;constructor)<;>intro _|refine And.intro (by omega) ?_|(apply Sq.o;constructor))|((with_reducible apply Sc.o false;constructor);simp only [lP,seval,IdxR_exs,Int.toNat_natCast,List.length_map,ht,hlt,m2,m3,true_or,decide_true,ti28,pa_exs,vw_exs];refine ⟨_,hk,?_⟩;rintro _ _ ⟨rfl,rfl⟩;simp only [lA,lP,seval,IdxR_exs,Int.toNat_natCast,List.length_map,ht,hlt,m2,m3,true_or,decide_true,ti28,pa_exs,vw_exs])|with_reducible refine any_i [2,3] ?_|((with_reducible refine keep0_i ?_);simp only [lP,seval])|simp (disch:=omega) only [lE,seval,IdxR_exs,Int.toNat_natCast,List.length_map,ht,hlt,m2,m3,true_or,decide_true,ti28,pa_exs,vw_exs])
      all_goals first | (exfalso;omega) | skip
      all_goals
       refine back_i (j+1) (by omega) (by omega) ?_
       simp only [cmF,Nat.succ_ne_zero,if_false,List.cons_append,List.nil_append]
       rw [htk]
       simp only [EX.fs]
       exact (ent [0,1,2,6] false (by simp only [lP,seval,pa_exs,vw_exs,List.map_append]<;>(try simp)<;>(try omega)) (by simp only [lP,seval,pa_exs,vw_exs,List.map_append]<;>(try simp)<;>(try omega)))
  · obtain rfl:j=args.length:=by omega
    by_cases h0:args.length=0
    · obtain rfl:args=[]:=List.length_eq_zero_iff.1 h0
      simp only [cmF,if_true,List.length_nil,List.cons_append,List.nil_append]
      repeat' (first|(with_reducible first|(apply St.o;constructor)<;>intro _|refine And.intro (by omega) ?_|(apply Sq.o;constructor))|simp (disch:=omega) only [lE,seval,List.length_map,List.length_nil,Int.lt_irrefl,decide_false,ti28,pa_exs,vw_exs])
      refine keepw_i [] false (by simp) (by simp) rfl (r':=.agg [.int .i64 op,.int .i64 _,.int .i64 k,.int .i64 i,.str s,.view 6 []]) ?_ ⟨rfl,by simp only [lP,seval]⟩
      simp only [lP,seval]
      exact WeakL.agg (.cons (.refl _) (.cons (.refl _) (.cons (.refl _) (.cons (.refl _) (.cons (.refl _) (.cons weak_nil (.refl _)))))))
    · simp only [cmF,if_neg h0,List.take_length,List.cons_append,List.nil_append]
      repeat' (first|(with_reducible first|(apply St.o;constructor)<;>intro _|refine And.intro (by omega) ?_|(apply Sq.o;constructor))|simp (disch:=omega) only [lE,seval,List.length_map,Int.lt_irrefl,decide_false,ti28,pa_exs,vw_exs])
      refine keep_i [] true (by simp) (by simp) rfl ?_
      simp only [lP,seval,pa_exs,vw_exs]
      trace_state
end Go.Proofs.Try
