/-
 A part of the proof: see the text of the law.
-/
import Derived.Test.YtchlampphcaomaaGreatDoorEaz
import Derived.Test.YtchlampphcaomaaGreatDoorEauv
import Derived.Test.YtchlampphcaomaaGreatDoorPah
set_option linter.unusedSimpArgs false
set_option linter.unusedVariables false
namespace Go.Proofs.Try
open Go.Proofs.Tryz
open Go.Al
set_option maxRecDepth 100000
def mc29:MC:=(.seq (.ops [pZ 2]) (.seq (.seq (.ops [pI 3 0]) (.block 0 (.loop (.seq (.seq (.ops [pM 5 3,pM 6 0,pG 7 6,pB 8 5 7]) (.cond 8 .skip (.exit 0))) (.seq (.block 1 (.seq (.ops [pM 11 0,pM 12 3,pQ 13 3 11 12,pR 14 3 13,pV 15 58 14,pM 4 15]) (.seq (.ops [pM 16 4,pN 17 16]) (.cond 17 (.seq (.ops [pZ 2]) .ret) .skip)))) (.ops [pM 9 3,pA 10 9 1,pM 3 10])))))) (.seq (.ops [(none,.v (.mov 2 (.c (.bool true))))]) .ret)))
theorem ok29:FnOk E 29 18 [.tmp 2] mc29:=ofk func29
abbrev q31_0:MI:=oZ 4
def mc31:MC:=(.seq (.ops [(none,q31_0)]) (.seq (.seq (.ops [pM 9 0,pG 10 9,pM 11 1,pG 12 11,(none,.v (.bin 13 .neq false (.t 10) (.t 12)))]) (.cond 13 (.seq (.ops [(none,q31_0)]) .ret) .skip)) (.seq (.ops [pM 14 1,pG 15 14,(none,.e (.mk 16 4 1 1 (.bool false) (.t 15) (.t 15))),pM 5 16]) (.seq (.seq (.ops [pI 6 0]) (.block 0 (.loop (.seq (.seq (.ops [pM 17 6,pM 18 0,pG 19 18,pB 20 17 19]) (.cond 20 .skip (.exit 0))) (.seq (.block 1 (.seq (.ops [pZ 7]) (.seq (.seq (.ops [pI 8 0]) (.block 2 (.loop (.seq (.seq (.ops [pM 23 8,pM 24 1,pG 25 24,pB 26 23 25,pM 27 26,gT 27 (oM 28 7),gT 27 (oN 29 28),pP 30 27 29]) (.cond 30 .skip (.exit 2))) (.seq (.block 3 (.seq (.any false (.pure0 none (oM 33 5) (.pure0 none (oM 34 8) (.pure0 none (oQ 35 1 33 34) (.pure0 none (oL 36 35) (.pure0 none (oN 37 36) (.pure0 none (oM 38 37) (.pure0 (some (38,true)) (oM 39 0) (.pure0 (some (38,true)) (oM 40 6) (.pure0 (some (38,true)) (oQ 41 1 39 40) (.pure0 (some (38,true)) (oL 42 41) (.pure0 (some (38,true)) (oM 43 1) (.pure0 (some (38,true)) (oM 44 8) (.pure0 (some (38,true)) (oQ 45 1 43 44) (.pure0 (some (38,true)) (oL 46 45) (.alt (some (38,true)) (oW 47 65 42 46) (.base (.pure0 none (oP 48 38 47) .done)) .stop)))))))))))))))) (.cond 48 (.seq (.ops [pM 49 5,pM 50 8,pQ 51 1 49 50,(none,.e (.store 1 false (.t 51) (.c (.bool true))))]) (.ops [(none,.v (.mov 7 (.c (.bool true))))])) .skip))) (.ops [pM 31 8,pA 32 31 1,pM 8 32])))))) (.seq (.ops [pM 52 7,pN 53 52]) (.cond 53 (.seq (.ops [(none,q31_0)]) .ret) .skip))))) (.ops [pM 21 6,pA 22 21 1,pM 6 22])))))) (.seq (.ops [(none,.v (.mov 4 (.c (.bool true))))]) .ret)))))
theorem ok31:FnOk E 31 54 [.tmp 4] mc31:=ofk func31
set_option maxRecDepth 20000
set_option maxHeartbeats 64000000
theorem c29 (r:List VL):ACalls E.P 29 [rowV r] [] (fun q H=>q=.bool (decide (∀ v ∈ r,v.Right))∧H=[]):=by
 have hmax:=maxLen_eq
 have h58:=fun v=>c58 v
 refine ok29.acalls hE hm (by simp) fun N hN=>?_
 unfold mc29 pZ pI pM pG pB pQ pR pV pN pA
 simp only [lA,seval]
 refine loop_i (fun i:Nat=>i≤r.length∧∀ v ∈ r.take i,v.Right) (fun i=>⟨[(0,rowV r),(3,.int .i64 i)],[]⟩) (fun i=>r.length - i) 0 ⟨by omega,by simp⟩ (ent [] false) ?_
 rintro i ⟨hi,ha⟩
 by_cases hin:i<r.length
 · have hlt:((i:Int)<(r.length:Int)):=by omega
   have hk:=h58 (r.getD i default)
   simp only [VL.av] at hk
   repeat' (first|(with_reducible first|(apply St.o;constructor)<;>intro _|refine And.intro (by omega) ?_|(apply Sq.o;constructor))|((with_reducible apply Sc.o true;constructor);simp only [lP,seval,IdxR_vls,Int.toNat_natCast,List.length_map,hlt,decide_true];refine ⟨_,hk,?_⟩;rintro _ _ ⟨rfl,rfl⟩;simp only [lA,lP,seval,IdxR_vls,Int.toNat_natCast,List.length_map,hlt,decide_true])|simp (disch:=omega) only [lE,seval,IdxR_vls,Int.toNat_natCast,List.length_map,hlt,decide_true])
   · rename_i h2
     exact keep_b ((decide_eq_false fun h=>h2 (h _ (by simp [hin]))).symm)
   · rename_i h2
     refine back_i (i+1) ⟨by omega,?_⟩ (by omega) (ent [] false)
     rw [List.take_succ_eq_append_getElem hin]
     intro v hv
     rcases List.mem_append.1 hv with hv | hv
     · exact ha v hv
     · rw [List.mem_singleton.1 hv]
       simpa [hin] using h2
 · obtain rfl:i=r.length:=by omega
   rw [List.take_length] at ha
   repeat' (first|(with_reducible first|(apply St.o;constructor)<;>intro _|refine And.intro (by omega) ?_|(apply Sq.o;constructor))|simp (disch:=omega) only [lE,seval,List.length_map,Int.lt_irrefl,decide_false])
   exact keep_b (by simp;exact ha)
theorem stE_bools {P:Program} {m:Nat} {N:FN} {fr:List (Nat × AV)} {H:List AObj} {q:Ke} {xs:List Bool} {b:Bool} {size id sz sz' n off:Nat} {E':TypeId} {cs:List AV} (hn:n<xs.length) :
 stE P m N (some (.arr E' sz' (xs.map AV.bool))) size cs (.bool b) id sz n off fr H q=(sz=sz'∧cs.length=size∧size=1∧off=0∧sz=1∧rE P m N q fr (H.set id (.arr E' sz' ((xs.set n b).map AV.bool)))):=by
 rw [stE_flat (fun _=>trivial) hn,List.map_set]
theorem c31 (l m:Rws) (hl:l.length≤1048576) (hm2:m.length≤1048576):ACalls E.P 31 [rowsV l,rowsV m] [] (fun r H=>r=.bool (eqC (sortL l) (sortL m))∧H=[]):=by
 have hmax:=maxLen_eq
 refine ok31.acalls hE hm (by simp) fun N hN=>?_
 unfold mc31 q31_0 pM pG pI pB pZ pP pQ pA pN gT oM oL oZ oP oN oQ oW
 simp only [lA,seval]
 repeat' (first|(with_reducible first|(apply St.o;constructor)<;>intro _|refine And.intro (by omega) ?_|(apply Sq.o;constructor))|simp (disch:=omega) only [lE,seval,List.length_map])
 · rename_i h
   refine keep_b (eqC_false.2 fun h2=>?_).symm
   have:=((bag_iff l m).1 h2).length_eq
   omega
 rename_i hlen
 have hlen:l.length=m.length:=by omega
 refine loop_i (fun p:Nat × List Bool=>p.1≤l.length∧p.2.length=m.length∧(l.take p.1++remF p.2 m).Perm m) (fun p=>⟨[(0,rowsV l),(1,rowsV m),(5,.slc 0 1 m.length),(6,.int .i64 p.1)],[.arr 4 1 (p.2.map AV.bool)]⟩) (fun p=>l.length - p.1) (0,List.replicate m.length false) ⟨by omega,by simp,by simp [remF_none]⟩
  (ent [0] false (by simp only [lP,seval,pa_rows,List.map_replicate,Int.toNat_natCast]<;>(try simp)<;>(try omega)) (by simp only [lP,seval,pa_rows,List.map_replicate,Int.toNat_natCast]<;>(try simp)<;>(try omega))) ?_
 rintro ⟨i,us⟩ ⟨hi,hus,hp⟩
 simp only at hi hus hp ⊢
 by_cases hin:i<l.length
 · have hlt:((i:Int)<(l.length:Int)):=by omega
   generalize hx:l.getD i default=x at *
   repeat' (first|(with_reducible first|(apply St.o;constructor)<;>intro _|refine And.intro (by omega) ?_|(apply Sq.o;constructor))|simp (disch:=omega) only [lE,seval,List.length_map,hlt,decide_true])
   refine loop_i (fun q:Nat × Bool × List Bool=>q.1≤m.length∧q.2.2.length=m.length∧((q.2.1=false∧q.2.2=us∧∀ j,j<q.1→us.getD j true=true∨m.getD j default≠x)∨(q.2.1=true∧∃ k,k<m.length∧us.getD k true=false∧m.getD k default=x∧q.2.2=us.set k true)))
    (fun q=>⟨[(0,rowsV l),(1,rowsV m),(5,.slc 0 1 m.length),(6,.int .i64 i),(7,.bool q.2.1),(8,.int .i64 q.1)],[.arr 4 1 (q.2.2.map AV.bool)]⟩) (fun q=>m.length - q.1) (0,false,us) ⟨by omega,hus,.inl ⟨rfl,rfl,by simp⟩⟩
    (ent [0] false (by simp only [lP,seval,pa_rows]<;>(try simp)<;>(try omega)) (by simp only [lP,seval,pa_rows]<;>(try simp)<;>(try omega))) ?_
   rintro ⟨k,fd,vs⟩ ⟨hk,hvs,hc⟩
   simp only at hk hvs hc ⊢
   by_cases hkn:k<m.length
   · have hlk:((k:Int)<(m.length:Int)):=by omega
     cases fd with
     | false =>
       obtain ⟨_,rfl,hno⟩:True∧vs=us∧∀ j,j<k→us.getD j true=true∨m.getD j default≠x:=by
        rcases hc with ⟨_,h1,h2⟩ | ⟨h1,_⟩
        · exact ⟨trivial,h1,h2⟩
        · simp at h1
       have hget:(vs.map AV.bool)[k]?=some (.bool (vs.getD k true)):=by simp [show k<vs.length by omega]
       have hk65:=c65 x (m.getD k default)
       have hks:k<vs.length:=by omega
       cases hv:vs.getD k true with
       | true =>
         rw [hv] at hget
         repeat' (first|(with_reducible first|(apply St.o;constructor)<;>intro _|refine And.intro (by omega) ?_|(apply Sq.o;constructor))|((with_reducible apply Sc.o true;constructor);simp only [lP,seval,epR_map,stE_bools,hget,hx,IdxR_rows,Int.toNat_natCast,List.length_map,hlt,hlk,decide_true];refine ⟨_,hk65,?_⟩;rintro _ _ ⟨rfl,rfl⟩;simp only [lA,lP,seval,epR_map,stE_bools,hget,hx,IdxR_rows,Int.toNat_natCast,List.length_map,hlt,hlk,decide_true])|simp (disch:=omega) only [lE,seval,epR_map,stE_bools,hget,hx,IdxR_rows,Int.toNat_natCast,List.length_map,hlt,hlk,decide_true])
         refine back_i (k+1,false,vs) ⟨by omega,hvs,.inl ⟨rfl,rfl,fun j hj=>?_⟩⟩ (by simp only;omega) (ent [0] false (by simp only [lP,seval,pa_rows]<;>(try simp)<;>(try omega)) (by simp only [lP,seval,pa_rows]<;>(try simp)<;>(try omega)))
         by_cases hjk:j<k
         · exact hno j hjk
         · obtain rfl:j=k:=by omega
           exact .inl hv
       | false =>
         rw [hv] at hget
         repeat' (first|(with_reducible first|(apply St.o;constructor)<;>intro _|refine And.intro (by omega) ?_|(apply Sq.o;constructor))|((with_reducible apply Sc.o true;constructor);simp only [lP,seval,epR_map,stE_bools,hget,hx,IdxR_rows,Int.toNat_natCast,List.length_map,hlt,hlk,decide_true];refine ⟨_,hk65,?_⟩;rintro _ _ ⟨rfl,rfl⟩;simp only [lA,lP,seval,epR_map,stE_bools,hget,hx,IdxR_rows,Int.toNat_natCast,List.length_map,hlt,hlk,decide_true])|simp (disch:=omega) only [lE,seval,epR_map,stE_bools,hget,hx,IdxR_rows,Int.toNat_natCast,List.length_map,hlt,hlk,decide_true])
         · rename_i h2
           have h3:m.getD k default=x:=(eqC_iff.1 (by simpa using h2)).symm
           refine back_i (k+1,true,vs.set k true) ⟨by omega,by simpa using hvs,.inr ⟨rfl,k,hkn,hv,h3,rfl⟩⟩ (by simp only;omega) (ent [0] false (by simp only [lP,seval,pa_rows]<;>(try simp)<;>(try omega)) (by simp only [lP,seval,pa_rows]<;>(try simp)<;>(try omega)))
         · rename_i h2
           have h3:¬ (x=m.getD k default):=by rw [← eqC_iff];simpa using h2
           refine back_i (k+1,false,vs) ⟨by omega,hvs,.inl ⟨rfl,rfl,fun j hj=>?_⟩⟩ (by simp only;omega) (ent [0] false (by simp only [lP,seval,pa_rows]<;>(try simp)<;>(try omega)) (by simp only [lP,seval,pa_rows]<;>(try simp)<;>(try omega)))
           by_cases hjk:j<k
           · exact hno j hjk
           · obtain rfl:j=k:=by omega
             exact .inr fun h=>h3 h.symm
     | true =>
       obtain ⟨k0,h1,h2,h3,h4⟩:∃ k0,k0<m.length∧us.getD k0 true=false∧m.getD k0 default=x∧vs=us.set k0 true:=by
        rcases hc with ⟨h1,_⟩ | ⟨_,h1⟩
        · simp at h1
        · exact h1
       repeat' (first|(with_reducible first|(apply St.o;constructor)<;>intro _|refine And.intro (by omega) ?_|(apply Sq.o;constructor))|simp (disch:=omega) only [lE,seval,List.length_map,hlk,decide_true])
       refine back_i (i+1,vs) ⟨by omega,hvs,?_⟩ (by simp only;omega) (ent [0] false (by simp only [lP,seval,pa_rows]<;>(try simp)<;>(try omega)) (by simp only [lP,seval,pa_rows]<;>(try simp)<;>(try omega)))
       rw [h4]
       exact rem_yes hin hus h1 h2 (h3.trans hx.symm) hp
   · obtain rfl:k=m.length:=by omega
     cases fd with
     | false =>
       obtain ⟨_,rfl,hno⟩:True∧vs=us∧∀ j,j<m.length→us.getD j true=true∨m.getD j default≠x:=by
        rcases hc with ⟨_,h1,h2⟩ | ⟨h1,_⟩
        · exact ⟨trivial,h1,h2⟩
        · simp at h1
       repeat' (first|(with_reducible first|(apply St.o;constructor)<;>intro _|refine And.intro (by omega) ?_|(apply Sq.o;constructor))|simp (disch:=omega) only [lE,seval,List.length_map,Int.lt_irrefl,decide_false])
       refine keep_b (eqC_false.2 fun h2=>?_).symm
       refine rem_no hin hus hp ?_ ((bag_iff l m).1 h2)
       rw [remF_mem hus,hx]
       rintro ⟨j,h1,h3,h4⟩
       rcases hno j h1 with h | h
       · rw [h] at h3;cases h3
       · exact h h4
     | true =>
       obtain ⟨k0,h1,h2,h3,h4⟩:∃ k0,k0<m.length∧us.getD k0 true=false∧m.getD k0 default=x∧vs=us.set k0 true:=by
        rcases hc with ⟨h1,_⟩ | ⟨_,h1⟩
        · simp at h1
        · exact h1
       repeat' (first|(with_reducible first|(apply St.o;constructor)<;>intro _|refine And.intro (by omega) ?_|(apply Sq.o;constructor))|simp (disch:=omega) only [lE,seval,List.length_map,Int.lt_irrefl,decide_false])
       refine back_i (i+1,vs) ⟨by omega,hvs,?_⟩ (by simp only;omega) (ent [0] false (by simp only [lP,seval,pa_rows]<;>(try simp)<;>(try omega)) (by simp only [lP,seval,pa_rows]<;>(try simp)<;>(try omega)))
       rw [h4]
       exact rem_yes hin hus h1 h2 (h3.trans hx.symm) hp
 · obtain rfl:i=l.length:=by omega
   rw [List.take_length] at hp
   repeat' (first|(with_reducible first|(apply St.o;constructor)<;>intro _|refine And.intro (by omega) ?_|(apply Sq.o;constructor))|simp (disch:=omega) only [lE,seval,List.length_map,Int.lt_irrefl,decide_false])
   exact keep_b (eqC_iff.2 ((bag_iff l m).2 (rem_end hlen hp))).symm
end Go.Proofs.Try
