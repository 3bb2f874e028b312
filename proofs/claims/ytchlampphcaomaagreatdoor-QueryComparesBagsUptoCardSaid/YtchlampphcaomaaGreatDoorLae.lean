/-
 A part of the proof: see the text of the law.
-/
import Derived.Test.YtchlampphcaomaaGreatDoorEaz
import Derived.Test.YtchlampphcaomaaGreatDoorEauv
import Derived.Test.YtchlampphcaomaaGreatDoorPah
set_option linter.unusedSimpArgs false
set_option linter.unusedVariables false
namespace Go.Proofs.Try
open Go.Proofs.Tryz
open Go.Al
set_option maxRecDepth 100000
def mc29:MC:=(.seq (.ops [(none,.v (.mov 2 (.c (.bool false))))]) (.seq (.seq (.ops [(none,.v (.mov 3 (.c (.int .i64 0))))]) (.block 0 (.loop (.seq (.seq (.ops [(none,.v (.mov 5 (.t 3))),(none,.v (.mov 6 (.t 0))),(none,.p (.len 7 (.t 6))),(none,.v (.bin 8 .lss false (.t 5) (.t 7)))]) (.cond 8 .skip (.exit 0))) (.seq (.block 1 (.seq (.ops [(none,.v (.mov 11 (.t 0))),(none,.v (.mov 12 (.t 3))),(none,.p (.idx 13 3 (.t 11) (.t 12))),(none,.v (.load 14 true 3 (.t 13))),(none,.e (.call (some 15) 58 [.t 14])),(none,.v (.mov 4 (.t 15)))]) (.seq (.ops [(none,.v (.mov 16 (.t 4))),(none,.v (.not 17 (.t 16)))]) (.cond 17 (.seq (.ops [(none,.v (.mov 2 (.c (.bool false))))]) .ret) .skip)))) (.ops [(none,.v (.mov 9 (.t 3))),(none,.v (.bin 10 .add false (.t 9) (.c (.int .i64 1)))),(none,.v (.mov 3 (.t 10)))])))))) (.seq (.ops [(none,.v (.mov 2 (.c (.bool true))))]) .ret)))
theorem ok29:FnOk E 29 18 [.tmp 2] mc29:=ofk func29
abbrev q31_0:MI:=.v (.mov 4 (.c (.bool false)))
def mc31:MC:=(.seq (.ops [(none,q31_0)]) (.seq (.seq (.ops [(none,.v (.mov 9 (.t 0))),(none,.p (.len 10 (.t 9))),(none,.v (.mov 11 (.t 1))),(none,.p (.len 12 (.t 11))),(none,.v (.bin 13 .neq false (.t 10) (.t 12)))]) (.cond 13 (.seq (.ops [(none,q31_0)]) .ret) .skip)) (.seq (.ops [(none,.v (.mov 14 (.t 1))),(none,.p (.len 15 (.t 14))),(none,.e (.mk 16 4 1 1 (.bool false) (.t 15) (.t 15))),(none,.v (.mov 5 (.t 16)))]) (.seq (.seq (.ops [(none,.v (.mov 6 (.c (.int .i64 0))))]) (.block 0 (.loop (.seq (.seq (.ops [(none,.v (.mov 17 (.t 6))),(none,.v (.mov 18 (.t 0))),(none,.p (.len 19 (.t 18))),(none,.v (.bin 20 .lss false (.t 17) (.t 19)))]) (.cond 20 .skip (.exit 0))) (.seq (.block 1 (.seq (.ops [(none,.v (.mov 7 (.c (.bool false))))]) (.seq (.seq (.ops [(none,.v (.mov 8 (.c (.int .i64 0))))]) (.block 2 (.loop (.seq (.seq (.ops [(none,.v (.mov 23 (.t 8))),(none,.v (.mov 24 (.t 1))),(none,.p (.len 25 (.t 24))),(none,.v (.bin 26 .lss false (.t 23) (.t 25))),(none,.v (.mov 27 (.t 26))),(some (27,true),.v (.mov 28 (.t 7))),(some (27,true),.v (.not 29 (.t 28))),(none,.v (.pick 30 (.t 27) (.t 29) (.c (.bool false))))]) (.cond 30 .skip (.exit 2))) (.seq (.block 3 (.seq (.any false (.pure0 none (.v (.mov 33 (.t 5))) (.pure0 none (.v (.mov 34 (.t 8))) (.pure0 none (.p (.idx 35 1 (.t 33) (.t 34))) (.pure0 none (.v (.load 36 false 1 (.t 35))) (.pure0 none (.v (.not 37 (.t 36))) (.pure0 none (.v (.mov 38 (.t 37))) (.pure0 (some (38,true)) (.v (.mov 39 (.t 0))) (.pure0 (some (38,true)) (.v (.mov 40 (.t 6))) (.pure0 (some (38,true)) (.p (.idx 41 1 (.t 39) (.t 40))) (.pure0 (some (38,true)) (.v (.load 42 false 1 (.t 41))) (.pure0 (some (38,true)) (.v (.mov 43 (.t 1))) (.pure0 (some (38,true)) (.v (.mov 44 (.t 8))) (.pure0 (some (38,true)) (.p (.idx 45 1 (.t 43) (.t 44))) (.pure0 (some (38,true)) (.v (.load 46 false 1 (.t 45))) (.alt (some (38,true)) (.e (.call (some 47) 65 [.t 42,.t 46])) (.base (.pure0 none (.v (.pick 48 (.t 38) (.t 47) (.c (.bool false)))) .done)) .stop)))))))))))))))) (.cond 48 (.seq (.ops [(none,.v (.mov 49 (.t 5))),(none,.v (.mov 50 (.t 8))),(none,.p (.idx 51 1 (.t 49) (.t 50))),(none,.e (.store 1 false (.t 51) (.c (.bool true))))]) (.ops [(none,.v (.mov 7 (.c (.bool true))))])) .skip))) (.ops [(none,.v (.mov 31 (.t 8))),(none,.v (.bin 32 .add false (.t 31) (.c (.int .i64 1)))),(none,.v (.mov 8 (.t 32)))])))))) (.seq (.ops [(none,.v (.mov 52 (.t 7))),(none,.v (.not 53 (.t 52)))]) (.cond 53 (.seq (.ops [(none,q31_0)]) .ret) .skip))))) (.ops [(none,.v (.mov 21 (.t 6))),(none,.v (.bin 22 .add false (.t 21) (.c (.int .i64 1)))),(none,.v (.mov 6 (.t 22)))])))))) (.seq (.ops [(none,.v (.mov 4 (.c (.bool true))))]) .ret)))))
theorem ok31:FnOk E 31 54 [.tmp 4] mc31:=ofk func31
end Go.Proofs.Try
namespace Go.Proofs.Try
open Go.Proofs.Tryz
open Go.Al
set_option linter.unusedVariables false
set_option linter.unusedSimpArgs false
set_option maxRecDepth 20000
set_option maxHeartbeats 64000000

theorem c29 (r:List VL):ACalls E.P 29 [rowV r] [] (fun q H=>q=.bool (decide (∀ v ∈ r,v.Right))∧H=[]):=by
 have hmax:=maxLen_eq
 have h58:=fun v=>c58 v
 refine ok29.acalls hE hm (by simp) fun N hN=>?_
 unfold mc29
 simp only [lA,ptrCells,ptrAdd,isNil,seval]
 refine loop_i (fun i:Nat=>i≤r.length∧∀ v ∈ r.take i,v.Right) (fun i=>⟨[(0,rowV r),(3,.int .i64 i)],[]⟩) (fun i=>r.length - i) 0 ⟨by omega,by simp⟩ (Ent.to [] false (by simp) (by simp) rfl (by simp only [lP,seval] <;> (try simp) <;> (try omega)) (by simp only [lP,seval] <;> (try simp) <;> (try omega))) ?_
 rintro i ⟨hi,ha⟩
 by_cases hin:i<r.length
 · have hlt:((i:Int)<(r.length:Int)):=by omega
   have hk:=h58 (r.getD i default)
   simp only [VL.av] at hk
   repeat' (first | (with_reducible apply St.o;constructor) <;> intro _ | (with_reducible first | refine And.intro (by omega) ?_ | (apply Sq.o;constructor)) | ((with_reducible apply Sc.o true;constructor);simp only [lP,seval,IdxR_vls,Int.toNat_natCast,List.length_map,hlt,decide_true];refine ⟨_,hk,?_⟩;rintro _ _ ⟨rfl,rfl⟩;simp only [lA,lP,ptrCells,ptrAdd,isNil,seval,IdxR_vls,Int.toNat_natCast,List.length_map,hlt,decide_true]) | simp (maxSteps:=1000000) (disch:=omega) only [lE,ptrCells,ptrAdd,isNil,seval,IdxR_vls,Int.toNat_natCast,List.length_map,hlt,decide_true])
   · rename_i h2
     exact keep_b ((decide_eq_false fun h=>h2 (h _ (by simp [hin]))).symm)
   · rename_i h2
     refine back_i (i+1) ⟨by omega,?_⟩ (by omega) (Ent.to [] false (by simp) (by simp) rfl (by simp only [lP,seval] <;> (try simp) <;> (try omega)) (by simp only [lP,seval] <;> (try simp) <;> (try omega)))
     rw [List.take_succ_eq_append_getElem hin]
     intro v hv
     rcases List.mem_append.1 hv with hv | hv
     · exact ha v hv
     · rw [List.mem_singleton.1 hv]
       simpa [hin] using h2
 · obtain rfl:i=r.length:=by omega
   rw [List.take_length] at ha
   repeat' (first | (with_reducible apply St.o;constructor) <;> intro _ | (with_reducible first | refine And.intro (by omega) ?_ | (apply Sq.o;constructor)) | simp (maxSteps:=1000000) (disch:=omega) only [lE,ptrCells,ptrAdd,isNil,seval,List.length_map,Int.lt_irrefl,decide_false])
   exact keep_b (by simp;exact ha)
theorem stE_bools {P:Program} {m:Nat} {N:FN} {fr:List (Nat × AV)} {H:List AObj} {q:Ke} {xs:List Bool} {b:Bool} {size id sz sz' n off:Nat} {E':TypeId} {cs:List AV} (hn:n<xs.length) :
 stE P m N (some (.arr E' sz' (xs.map AV.bool))) size cs (.bool b) id sz n off fr H q=(sz=sz'∧cs.length=size∧size=1∧off=0∧sz=1∧rE P m N q fr (H.set id (.arr E' sz' ((xs.set n b).map AV.bool)))):=by
 rw [stE_flat (fun _=>trivial) hn,List.map_set]
theorem c31 (l m:Rws) (hl:l.length≤1048576) (hm2:m.length≤1048576):ACalls E.P 31 [rowsV l,rowsV m] [] (fun r H=>r=.bool (eqC (sortL l) (sortL m))∧H=[]):=by
 have hmax:=maxLen_eq
 refine ok31.acalls hE hm (by simp) fun N hN=>?_
 unfold mc31 q31_0
 simp only [lA,ptrCells,ptrAdd,isNil,seval]
 repeat' (first | (with_reducible apply St.o;constructor) <;> intro _ | (with_reducible first | refine And.intro (by omega) ?_ | (apply Sq.o;constructor)) | simp (maxSteps:=1000000) (disch:=omega) only [lE,ptrCells,ptrAdd,isNil,seval,List.length_map])
 · rename_i h
   refine keep_b (eqC_false.2 fun h2=>?_).symm
   have:=((bag_iff l m).1 h2).length_eq
   omega
 rename_i hlen
 have hlen:l.length=m.length:=by omega
 refine loop_i (fun p:Nat × List Bool=>p.1≤l.length∧p.2.length=m.length∧(l.take p.1++remF p.2 m).Perm m) (fun p=>⟨[(0,rowsV l),(1,rowsV m),(5,.slc 0 1 m.length),(6,.int .i64 p.1)],[.arr 4 1 (p.2.map AV.bool)]⟩) (fun p=>l.length - p.1) (0,List.replicate m.length false) ⟨by omega,by simp,by simp [remF_none]⟩
  (Ent.to [0] false (by simp) (by simp) rfl (by simp only [lP,seval,pa_rows,List.map_replicate,Int.toNat_natCast] <;> (try simp) <;> (try omega)) (by simp only [lP,seval,pa_rows,List.map_replicate,Int.toNat_natCast] <;> (try simp) <;> (try omega))) ?_
 rintro ⟨i,us⟩ ⟨hi,hus,hp⟩
 simp only at hi hus hp ⊢
 by_cases hin:i<l.length
 · have hlt:((i:Int)<(l.length:Int)):=by omega
   generalize hx:l.getD i default=x at *
   repeat' (first | (with_reducible apply St.o;constructor) <;> intro _ | (with_reducible first | refine And.intro (by omega) ?_ | (apply Sq.o;constructor)) | simp (maxSteps:=1000000) (disch:=omega) only [lE,ptrCells,ptrAdd,isNil,seval,List.length_map,hlt,decide_true])
   refine loop_i (fun q:Nat × Bool × List Bool=>q.1≤m.length∧q.2.2.length=m.length∧((q.2.1=false∧q.2.2=us∧∀ j,j<q.1→us.getD j true=true∨m.getD j default≠x)∨(q.2.1=true∧∃ k,k<m.length∧us.getD k true=false∧m.getD k default=x∧q.2.2=us.set k true)))
    (fun q=>⟨[(0,rowsV l),(1,rowsV m),(5,.slc 0 1 m.length),(6,.int .i64 i),(7,.bool q.2.1),(8,.int .i64 q.1)],[.arr 4 1 (q.2.2.map AV.bool)]⟩) (fun q=>m.length - q.1) (0,false,us) ⟨by omega,hus,.inl ⟨rfl,rfl,by simp⟩⟩
    (Ent.to [0] false (by simp) (by simp) rfl (by simp only [lP,seval,pa_rows] <;> (try simp) <;> (try omega)) (by simp only [lP,seval,pa_rows] <;> (try simp) <;> (try omega))) ?_
   rintro ⟨k,fd,vs⟩ ⟨hk,hvs,hc⟩
   simp only at hk hvs hc ⊢
   by_cases hkn:k<m.length
   · have hlk:((k:Int)<(m.length:Int)):=by omega
     cases fd with
     | false =>
       obtain ⟨_,rfl,hno⟩:True∧vs=us∧∀ j,j<k→us.getD j true=true∨m.getD j default≠x:=by
        rcases hc with ⟨_,h1,h2⟩ | ⟨h1,_⟩
        · exact ⟨trivial,h1,h2⟩
        · simp at h1
       have hget:(vs.map AV.bool)[k]?=some (.bool (vs.getD k true)):=by simp [show k<vs.length by omega]
       have hk65:=c65 x (m.getD k default)
       have hks:k<vs.length:=by omega
       cases hv:vs.getD k true with
       | true =>
         rw [hv] at hget
         repeat' (first | (with_reducible apply St.o;constructor) <;> intro _ | (with_reducible first | refine And.intro (by omega) ?_ | (apply Sq.o;constructor)) | ((with_reducible apply Sc.o true;constructor);simp only [lP,seval,epR_map,stE_bools,hget,hx,IdxR_rows,Int.toNat_natCast,List.length_map,hlt,hlk,decide_true];refine ⟨_,hk65,?_⟩;rintro _ _ ⟨rfl,rfl⟩;simp only [lA,lP,ptrCells,ptrAdd,isNil,seval,epR_map,stE_bools,hget,hx,IdxR_rows,Int.toNat_natCast,List.length_map,hlt,hlk,decide_true]) | simp (maxSteps:=1000000) (disch:=omega) only [lE,ptrCells,ptrAdd,isNil,seval,epR_map,stE_bools,hget,hx,IdxR_rows,Int.toNat_natCast,List.length_map,hlt,hlk,decide_true])
         refine back_i (k+1,false,vs) ⟨by omega,hvs,.inl ⟨rfl,rfl,fun j hj=>?_⟩⟩ (by simp only;omega) (Ent.to [0] false (by simp) (by simp) rfl (by simp only [lP,seval,pa_rows] <;> (try simp) <;> (try omega)) (by simp only [lP,seval,pa_rows] <;> (try simp) <;> (try omega)))
         by_cases hjk:j<k
         · exact hno j hjk
         · obtain rfl:j=k:=by omega
           exact .inl hv
       | false =>
         rw [hv] at hget
         repeat' (first | (with_reducible apply St.o;constructor) <;> intro _ | (with_reducible first | refine And.intro (by omega) ?_ | (apply Sq.o;constructor)) | ((with_reducible apply Sc.o true;constructor);simp only [lP,seval,epR_map,stE_bools,hget,hx,IdxR_rows,Int.toNat_natCast,List.length_map,hlt,hlk,decide_true];refine ⟨_,hk65,?_⟩;rintro _ _ ⟨rfl,rfl⟩;simp only [lA,lP,ptrCells,ptrAdd,isNil,seval,epR_map,stE_bools,hget,hx,IdxR_rows,Int.toNat_natCast,List.length_map,hlt,hlk,decide_true]) | simp (maxSteps:=1000000) (disch:=omega) only [lE,ptrCells,ptrAdd,isNil,seval,epR_map,stE_bools,hget,hx,IdxR_rows,Int.toNat_natCast,List.length_map,hlt,hlk,decide_true])
         · rename_i h2
           have h3:m.getD k default=x:=(eqC_iff.1 (by simpa using h2)).symm
           refine back_i (k+1,true,vs.set k true) ⟨by omega,by simpa using hvs,.inr ⟨rfl,k,hkn,hv,h3,rfl⟩⟩ (by simp only;omega) (Ent.to [0] false (by simp) (by simp) rfl (by simp only [lP,seval,pa_rows] <;> (try simp) <;> (try omega)) (by simp only [lP,seval,pa_rows] <;> (try simp) <;> (try omega)))
         · rename_i h2
           have h3:¬ (x=m.getD k default):=by rw [← eqC_iff];simpa using h2
           refine back_i (k+1,false,vs) ⟨by omega,hvs,.inl ⟨rfl,rfl,fun j hj=>?_⟩⟩ (by simp only;omega) (Ent.to [0] false (by simp) (by simp) rfl (by simp only [lP,seval,pa_rows] <;> (try simp) <;> (try omega)) (by simp only [lP,seval,pa_rows] <;> (try simp) <;> (try omega)))
           by_cases hjk:j<k
           · exact hno j hjk
           · obtain rfl:j=k:=by omega
             exact .inr fun h=>h3 h.symm
     | true =>
       obtain ⟨k0,h1,h2,h3,h4⟩:∃ k0,k0<m.length∧us.getD k0 true=false∧m.getD k0 default=x∧vs=us.set k0 true:=by
        rcases hc with ⟨h1,_⟩ | ⟨_,h1⟩
        · simp at h1
        · exact h1
       repeat' (first | (with_reducible apply St.o;constructor) <;> intro _ | (with_reducible first | refine And.intro (by omega) ?_ | (apply Sq.o;constructor)) | simp (maxSteps:=1000000) (disch:=omega) only [lE,ptrCells,ptrAdd,isNil,seval,List.length_map,hlk,decide_true])
       refine back_i (i+1,vs) ⟨by omega,hvs,?_⟩ (by simp only;omega) (Ent.to [0] false (by simp) (by simp) rfl (by simp only [lP,seval,pa_rows] <;> (try simp) <;> (try omega)) (by simp only [lP,seval,pa_rows] <;> (try simp) <;> (try omega)))
       rw [h4]
       exact rem_yes hin hus h1 h2 (h3.trans hx.symm) hp
   · obtain rfl:k=m.length:=by omega
     cases fd with
     | false =>
       obtain ⟨_,rfl,hno⟩:True∧vs=us∧∀ j,j<m.length→us.getD j true=true∨m.getD j default≠x:=by
        rcases hc with ⟨_,h1,h2⟩ | ⟨h1,_⟩
        · exact ⟨trivial,h1,h2⟩
        · simp at h1
       repeat' (first | (with_reducible apply St.o;constructor) <;> intro _ | (with_reducible first | refine And.intro (by omega) ?_ | (apply Sq.o;constructor)) | simp (maxSteps:=1000000) (disch:=omega) only [lE,ptrCells,ptrAdd,isNil,seval,List.length_map,Int.lt_irrefl,decide_false])
       refine keep_b (eqC_false.2 fun h2=>?_).symm
       refine rem_no hin hus hp ?_ ((bag_iff l m).1 h2)
       rw [remF_mem hus,hx]
       rintro ⟨j,h1,h3,h4⟩
       rcases hno j h1 with h | h
       · rw [h] at h3;cases h3
       · exact h h4
     | true =>
       obtain ⟨k0,h1,h2,h3,h4⟩:∃ k0,k0<m.length∧us.getD k0 true=false∧m.getD k0 default=x∧vs=us.set k0 true:=by
        rcases hc with ⟨h1,_⟩ | ⟨_,h1⟩
        · simp at h1
        · exact h1
       repeat' (first | (with_reducible apply St.o;constructor) <;> intro _ | (with_reducible first | refine And.intro (by omega) ?_ | (apply Sq.o;constructor)) | simp (maxSteps:=1000000) (disch:=omega) only [lE,ptrCells,ptrAdd,isNil,seval,List.length_map,Int.lt_irrefl,decide_false])
       refine back_i (i+1,vs) ⟨by omega,hvs,?_⟩ (by simp only;omega) (Ent.to [0] false (by simp) (by simp) rfl (by simp only [lP,seval,pa_rows] <;> (try simp) <;> (try omega)) (by simp only [lP,seval,pa_rows] <;> (try simp) <;> (try omega)))
       rw [h4]
       exact rem_yes hin hus h1 h2 (h3.trans hx.symm) hp
 · obtain rfl:i=l.length:=by omega
   rw [List.take_length] at hp
   repeat' (first | (with_reducible apply St.o;constructor) <;> intro _ | (with_reducible first | refine And.intro (by omega) ?_ | (apply Sq.o;constructor)) | simp (maxSteps:=1000000) (disch:=omega) only [lE,ptrCells,ptrAdd,isNil,seval,List.length_map,Int.lt_irrefl,decide_false])
   exact keep_b (eqC_iff.2 ((bag_iff l m).2 (rem_end hlen hp))).symm
end Go.Proofs.Try

