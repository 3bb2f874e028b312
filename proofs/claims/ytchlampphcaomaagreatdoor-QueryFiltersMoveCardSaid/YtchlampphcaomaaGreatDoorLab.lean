/-
 A part of the proof: see the text of the law.
-/
import Derived.Test.YtchlampphcaomaaGreatDoorLaa
import Derived.Test.YtchlampphcaomaaGreatDoorPae
set_option linter.unusedSimpArgs false
set_option linter.unusedVariables false
namespace Go.Proofs.Try
open Go.Proofs.Tryz
open Go.Al
set_option maxRecDepth 100000
abbrev q20_0:MI:=oL 26 25
abbrev q20_1:AT:=.alt none (.e (.app 31 28 6 72 (.t 26) (.t 30))) (.pure0 none (oF 32 5 5) (.alt none (.e (.store 1 false (.t 32) (.t 31))) .done .stop)) .stop
abbrev q20_2:AT:=.alt none (.e (.mkl 30 28 6 1 (.agg z3) [(0,.t 29)])) q20_1 .stop
def mc20:MC:=(.seq (.ops [pK 2 0,(none,.e (.alloc 4 z3))]) (.seq (.ops [pR 8 6 2,(none,.e (.alloc 5 z3)),pS 6 5 8]) (.seq (.ops [pF 9 5 5,(none,.e (.store 1 false (.t 9) (.c (.raw (.slice none 0 0)))))]) (.seq (.seq (.ops [pF 10 0 2,pL 11 10,pE 12 11 1]) (.cond 12 (.ops [pF 13 1 2,pL 14 13,pM 15 1,(none,.v (.bin 16 .add false (.t 14) (.t 15))),pF 17 1 5,(none,.e (.store 1 false (.t 17) (.t 16)))]) .skip)) (.seq (.seq (.ops [pF 18 5 2,pL 19 18,pG 20 19,pI 21 0]) (.block 0 (.loop (.seq (.ops [pB 22 21 20]) (.seq (.cond 22 .skip (.exit 0)) (.seq (.block 1 (.seq (.ops [pQ 23 6 19 21,pR 24 6 23,(none,.e (.alloc 7 z3)),pS 6 7 24]) (.any true (.pure0 none (oF 25 5 5) (.pure0 none (oR 27 6 7) (.pure0 none (oM 28 1) (.alt none q20_0 (.alt none (oW 29 20 27 28) q20_2 .stop) (.alt none (oW 29 20 27 28) (.alt none q20_0 q20_2 (.alt none (.e (.mkl 30 28 6 1 (.agg z3) [(0,.t 29)])) (.alt none q20_0 q20_1 .stop) .stop)) .stop)))))))) (.ops [pA 33 21 1,pM 21 33]))))))) (.seq (.ops [pR 34 6 5,pS 6 4 34]) .ret))))))
theorem ok20:FnOk E 20 35 [.cell 4 28] mc20:=ofk func20
set_option maxRecDepth 20000
set_option maxHeartbeats 64000000
theorem cmL_map {f:Int→Int}:∀ l:List EX,EX.cmL f l=l.map (EX.cm f)
 | []=>rfl
 | e::es=>by simp [EX.cmL,cmL_map es]
theorem count_mem {e:EX}:∀ {l:List EX},e ∈ l→e.count≤EX.countL l
 | [],h=>by cases h
 | x::l,h=>by
   rcases List.mem_cons.1 h with rfl | h
   · simp only [EX.countL];omega
   · have:=count_mem h
     simp only [EX.countL];omega
theorem fs_cm (f:Int→Int) (op n k i:Int) (s:ByteArray) (args:List EX):((EX.mk op n k i s args).cm f).fs=[.int .i64 op,.int .i64 (if op=1 then f n else n),.int .i64 k,.int .i64 i,.str s,.view 6 ((args.map (EX.cm f)).map EX.av)]:=by
 simp [EX.cm,EX.fs,EX.op,EX.n,EX.val,EX.args,cmL_map]
theorem take_cm {f:EX→EX} {l:List EX} {j:Nat} (h:j<l.length):((l.take (j+1)).map f).map EX.av=((l.take j).map f).map EX.av++[.agg (f (l.getD j default)).fs]:=by
 rw [List.take_succ_eq_append_getElem h,List.map_append,List.map_append]
 simp [h,av_fs]
abbrev cmF (op n k i:Int) (s:ByteArray) (args:List EX) (f:Int→Int) (j:Nat) (l:List AObj):List AObj :=
 if j=0 then l++[.box [.int .i64 op,.int .i64 n,.int .i64 k,.int .i64 i,.str s,.raw (.slice none 0 0)]]
 else l++[.box [.int .i64 op,.int .i64 n,.int .i64 k,.int .i64 i,.str s,.slc 3 6 j],.arr 28 6 (((args.take j).map (EX.cm f)).map EX.av)]
theorem fm_len {op n k i:Int} {s:ByteArray} {args:List EX} (h:(EX.mk op n k i s args).fm=true):args.length≤2:=by
 have h1:=(fm_mk.1 h).1
 unfold ar at h1
 split at h1
 · omega
 split at h1
 · omega
 split at h1 <;> omega
theorem mem23:(3 ∈ [2,3])=True∧(2 ∈ [2,3])=True:=by simp
theorem c20 (by_:Int) (e:EX) (hc:e.formed=true):ACalls E.P 20 [e.av,.int .i64 by_] [] (fun r H=>r=(e.cm (byI by_)).av∧H=[]):=by
 have hmax:=maxLen_eq
 generalize hsz:e.count=sz
 induction sz using Nat.strongRecOn generalizing e with
 | _ sz ih =>
 obtain ⟨op,n,k,i,s,args⟩:=e
 have hca:EX.countL args+1=sz:=by simp only [EX.count] at hsz;omega
 rw [formed_eq,Bool.and_eq_true,List.all_eq_true] at hc
 have hlen:args.length≤2:=fm_len hc.1
 have hrec:∀ x ∈ args,ACalls E.P 20 [x.av,.int .i64 by_] [] (fun r H=>r=(x.cm (byI by_)).av∧H=[]):=fun x hx=>ih x.count (by have:=count_mem hx;omega) x (hc.2 x hx) rfl
 simp only [av_fs] at hrec ⊢
 rw [fs_cm]
 refine ok20.acalls hE hm (by simp) fun N hN=>?_
 unfold mc20 q20_2 q20_1 q20_0 z3 pK pR pS pF pL pE pM pG pI pB pQ pA oM oL oR oF oW
 simp only [lA,seval,EX.fs,EX.op,EX.n,EX.val,EX.args]
 repeat' (first|(with_reducible first|(apply St.o;constructor)<;>intro _|refine And.intro (by omega) ?_|(apply Sq.o;constructor))|((with_reducible refine keep0_i ?_);simp only [lP,seval])|simp (disch:=omega) only [lE,seval,ti28])
 all_goals
  rename_i hop
  first
   | (have hif:(if op=1 then byI by_ n else n)=IntKind.i64.wrap (n+by_):=if_pos hop
      rw [hif]
      refine loop_i (fun j:Nat=>j≤args.length) (fun j=>⟨[(1,.int .i64 by_),(2,.op 0 0),(4,.op 1 0),(5,.op 2 0),(19,.view 6 (args.map EX.av)),(20,.int .i64 args.length),(21,.int .i64 j)],cmF op (IntKind.i64.wrap (n+by_)) k i s args (byI by_) j [.box [.int .i64 op,.int .i64 n,.int .i64 k,.int .i64 i,.str s,.view 6 (args.map EX.av)],.box [.int .i64 0,.int .i64 0,.int .i64 0,.int .i64 0,.str ⟨#[]⟩,.raw (.slice none 0 0)]]⟩) (fun j=>args.length - j) 0 (by omega) (by simp only [cmF,if_true,List.cons_append,List.nil_append];exact (ent [0,1,2] false (by simp only [lP,seval,pa_exs]<;>(try simp)<;>(try omega)) (by simp only [lP,seval,pa_exs]<;>(try simp)<;>(try omega)))) ?_)
   | (have hif:(if op=1 then byI by_ n else n)=n:=if_neg hop
      rw [hif]
      refine loop_i (fun j:Nat=>j≤args.length) (fun j=>⟨[(1,.int .i64 by_),(2,.op 0 0),(4,.op 1 0),(5,.op 2 0),(19,.view 6 (args.map EX.av)),(20,.int .i64 args.length),(21,.int .i64 j)],cmF op n k i s args (byI by_) j [.box [.int .i64 op,.int .i64 n,.int .i64 k,.int .i64 i,.str s,.view 6 (args.map EX.av)],.box [.int .i64 0,.int .i64 0,.int .i64 0,.int .i64 0,.str ⟨#[]⟩,.raw (.slice none 0 0)]]⟩) (fun j=>args.length - j) 0 (by omega) (by simp only [cmF,if_true,List.cons_append,List.nil_append];exact (ent [0,1,2] false (by simp only [lP,seval,pa_exs]<;>(try simp)<;>(try omega)) (by simp only [lP,seval,pa_exs]<;>(try simp)<;>(try omega)))) ?_)
  intro j hj
  by_cases hin:j<args.length
  · have hlt:((j:Int)<(args.length:Int)):=by omega
    have hk:=hrec (args.getD j default) (by simp [hin])
    by_cases h0:j=0
    · subst h0
      simp only [cmF,if_true,List.cons_append,List.nil_append]
      repeat' (first|(with_reducible first|(apply St.o;constructor)<;>intro _|refine And.intro (by omega) ?_|(apply Sq.o;constructor))|((with_reducible apply Sc.o false;constructor);simp only [lP,seval,IdxR_exs,Int.toNat_natCast,List.length_map,hlt,decide_true,ti28,pa_exs,vw_exs];refine ⟨_,hk,?_⟩;rintro _ _ ⟨rfl,rfl⟩;simp only [lA,lP,seval,IdxR_exs,Int.toNat_natCast,List.length_map,hlt,decide_true,ti28,pa_exs,vw_exs])|with_reducible refine any_i [2] ?_|((with_reducible refine keep0_i ?_);simp only [lP,seval])|simp (disch:=omega) only [lE,seval,IdxR_exs,Int.toNat_natCast,List.length_map,hlt,decide_true,ti28,pa_exs,vw_exs])
      all_goals first | (exfalso;omega) | skip
      all_goals
       refine back_i (0+1) (by omega) (by omega) ?_
       simp only [cmF,Nat.succ_ne_zero,if_false,List.cons_append,List.nil_append]
       rw [take_cm hin]
       simp only [List.take_zero,List.map_nil,List.nil_append,EX.fs]
       exact (ent [0,1,2,5] false (by simp only [lP,seval,pa_exs,vw_exs]<;>(try simp)<;>(try omega)) (by simp only [lP,seval,pa_exs,vw_exs]<;>(try simp)<;>(try omega)))
    · simp only [cmF,if_neg h0,List.cons_append,List.nil_append]
      have m3:=mem23.1
      have m2:=mem23.2
      have ht:(args.take j).length=j:=by simp;omega
      have htk:=take_cm (f:=EX.cm (byI by_)) hin
      generalize args.take j=G at ht htk ⊢
      repeat' (first|(with_reducible first|(apply St.o;constructor)<;>intro _|refine And.intro (by omega) ?_|(apply Sq.o;constructor))|((with_reducible apply Sc.o false;constructor);simp only [lP,seval,IdxR_exs,Int.toNat_natCast,List.length_map,ht,hlt,m2,m3,true_or,decide_true,ti28,pa_exs,vw_exs];refine ⟨_,hk,?_⟩;rintro _ _ ⟨rfl,rfl⟩;simp only [lA,lP,seval,IdxR_exs,Int.toNat_natCast,List.length_map,ht,hlt,m2,m3,true_or,decide_true,ti28,pa_exs,vw_exs])|with_reducible refine any_i [2,3] ?_|((with_reducible refine keep0_i ?_);simp only [lP,seval])|simp (disch:=omega) only [lE,seval,IdxR_exs,Int.toNat_natCast,List.length_map,ht,hlt,m2,m3,true_or,decide_true,ti28,pa_exs,vw_exs])
      all_goals first | (exfalso;omega) | skip
      all_goals
       refine back_i (j+1) (by omega) (by omega) ?_
       simp only [cmF,Nat.succ_ne_zero,if_false,List.cons_append,List.nil_append]
       rw [htk]
       simp only [EX.fs]
       exact (ent [0,1,2,6] false (by simp only [lP,seval,pa_exs,vw_exs,List.map_append]<;>(try simp)<;>(try omega)) (by simp only [lP,seval,pa_exs,vw_exs,List.map_append]<;>(try simp)<;>(try omega)))
  · obtain rfl:j=args.length:=by omega
    by_cases h0:args.length=0
    · obtain rfl:args=[]:=List.length_eq_zero_iff.1 h0
      simp only [cmF,if_true,List.length_nil,List.cons_append,List.nil_append]
      repeat' (first|(with_reducible first|(apply St.o;constructor)<;>intro _|refine And.intro (by omega) ?_|(apply Sq.o;constructor))|simp (disch:=omega) only [lE,seval,List.length_map,List.length_nil,Int.lt_irrefl,decide_false,ti28,pa_exs,vw_exs])
      refine keepw_i [] false (by simp) (by simp) rfl (r':=.agg [.int .i64 op,.int .i64 _,.int .i64 k,.int .i64 i,.str s,.view 6 []]) ?_ ⟨rfl,by simp only [lP,seval]⟩
      simp only [lP,seval]
      exact WeakL.agg (.cons (.refl _) (.cons (.refl _) (.cons (.refl _) (.cons (.refl _) (.cons (.refl _) (.cons weak_nil (.refl _)))))))
    · simp only [cmF,if_neg h0,List.take_length,List.cons_append,List.nil_append]
      repeat' (first|(with_reducible first|(apply St.o;constructor)<;>intro _|refine And.intro (by omega) ?_|(apply Sq.o;constructor))|simp (disch:=omega) only [lE,seval,List.length_map,Int.lt_irrefl,decide_false,ti28,pa_exs,vw_exs])
      refine keep_i [] true (by simp) (by simp) rfl ?_
      simp only [lP,seval,pa_exs,vw_exs]
      trace_state
end Go.Proofs.Try
