/-
 A part of the proof: see the text of the law.
-/
import Derived.Test.YtchlampphcaomaaGreatDoorEaz
set_option linter.unusedSimpArgs false
set_option linter.unusedVariables false
namespace Go.Proofs.Try
open Go.Proofs.Tryz
open Go.Al
set_option maxRecDepth 100000
abbrev q3_0:AT:=.alt none (.e (.store 14 true (.t 9) (.t 39))) .done .stop
abbrev q3_1:AT:=.alt none (.e (.call (some 39) 14 [.t 35,.t 38])) q3_0 .stop
def mc3:MC:=(.seq (.ops [(none,.e (.box 5 (.t 1))),(none,.e (.box 6 (.t 2))),(none,.e (.box 7 (.t 3))),(none,.v (.mov 8 (.c (.bool false))))]) (.seq (.seq (.ops [(none,.v (.mov 10 (.t 0))),(none,.v (.load 11 true 14 (.t 5))),(none,.e (.call (some 12) 9 [.t 10,.t 11,.c (.int .i64 12)])),(none,.v (.not 13 (.t 12))),(none,.v (.mov 14 (.t 13))),(some (14,false),.v (.load 15 true 14 (.t 5))),(some (14,false),.e (.call (some 16) 10 [.t 15])),(some (14,false),.v (.bin 17 .gtr false (.t 16) (.c (.int .i64 30)))),(none,.v (.pick 18 (.t 14) (.c (.bool true)) (.t 17))),(none,.v (.mov 19 (.t 18))),(some (19,false),.v (.load 20 true 14 (.t 5))),(some (19,false),.e (.call (some 21) 11 [.t 20])),(some (19,false),.v (.bin 22 .gtr false (.t 21) (.c (.int .i64 2)))),(none,.v (.pick 23 (.t 19) (.c (.bool true)) (.t 22))),(none,.v (.mov 24 (.t 23))),(some (24,false),.v (.load 25 true 6 (.t 6))),(some (24,false),.e (.call (some 26) 12 [.t 25])),(some (24,false),.v (.bin 27 .gtr false (.t 26) (.c (.int .i64 60)))),(none,.v (.pick 28 (.t 24) (.c (.bool true)) (.t 27))),(none,.v (.mov 29 (.t 28))),(some (29,false),.v (.load 30 true 6 (.t 7))),(some (29,false),.e (.call (some 31) 12 [.t 30])),(some (29,false),.v (.bin 32 .gtr false (.t 31) (.c (.int .i64 60)))),(none,.v (.pick 33 (.t 29) (.c (.bool true)) (.t 32)))]) (.cond 33 (.seq (.ops [(none,.e (.call (some 34) 13 [])),(none,.v (.mov 8 (.t 34)))]) .ret) .skip)) (.seq (.any true (.pure0 none (.v (.load 35 true 6 (.t 6))) (.pure0 none (.v (.load 36 true 6 (.t 7))) (.pure0 none (.v (.load 37 true 14 (.t 5))) (.alt none (.e (.call (some 38) 14 [.t 36,.t 37])) (.alt none (.e (.call (some 39) 14 [.t 35,.t 38])) (.alt none (.e (.alloc 9 z0)) q3_0 .stop) (.alt none (.e (.alloc 9 z0)) q3_1 .stop)) (.alt none (.e (.alloc 9 z0)) (.alt none (.e (.call (some 38) 14 [.t 36,.t 37])) q3_1 .stop) .stop)))))) (.seq (.any false (.alt none (.e (.call (some 40) 13 [])) (.base (.pure0 none (.v (.mov 41 (.t 40))) (.pure0 (some (41,true)) (.v (.mov 42 (.t 0))) (.pure0 (some (41,true)) (.v (.load 43 true 14 (.t 9))) (.pure0 (some (41,true)) (.v (.load 44 true 6 (.t 7))) (.pure0 (some (41,true)) (.v (.load 45 true 6 (.t 6))) (.pure0 (some (41,true)) (.v (.load 46 true 14 (.t 5))) (.alt (some (41,true)) (.e (.call (some 47) 14 [.t 45,.t 46])) (.base (.alt (some (41,true)) (.e (.call (some 48) 14 [.t 44,.t 47])) (.base (.alt (some (41,true)) (.e (.call (some 49) 15 [.t 42,.t 43,.t 48])) (.base (.pure0 none (.v (.pick 50 (.t 41) (.t 49) (.c (.bool false)))) (.pure0 none (.v (.mov 51 (.t 50))) (.pure0 (some (51,true)) (.v (.mov 52 (.t 0))) (.pure0 (some (51,true)) (.v (.load 53 true 14 (.t 9))) (.pure0 (some (51,true)) (.v (.load 54 true 6 (.t 6))) (.pure0 (some (51,true)) (.v (.load 55 true 6 (.t 7))) (.pure0 (some (51,true)) (.v (.load 57 true 14 (.t 5))) (.alt (some (51,true)) (.e (.call (some 56) 16 [.c (.int .i64 12),.t 54,.t 55])) (.base (.alt (some (51,true)) (.e (.call (some 58) 14 [.t 56,.t 57])) (.base (.alt (some (51,true)) (.e (.call (some 59) 15 [.t 52,.t 53,.t 58])) (.base (.pure0 none (.v (.pick 60 (.t 51) (.t 59) (.c (.bool false)))) (.pure0 none (.v (.mov 8 (.t 60))) .done))) .stop)) .stop)) .stop))))))))) .stop)) .stop)) .stop)))))))) .stop)) .ret))))
theorem ok3:FnOk E 3 61 [.tmp 8] mc3:=ofk func3
end Go.Proofs.Try
namespace Go.Proofs.Try
open Go.Proofs.Tryz
open Go.Al
set_option linter.unusedVariables false
set_option linter.unusedSimpArgs false
set_option maxRecDepth 20000
set_option maxHeartbeats 64000000

theorem light_ok {db:List DA} {q:QY} {m:Int} (hm:m≤12) (h:lightB db q m=true):DbOk db:=by
 have h1:fewB db m=true:=by
  simp only [lightB,Bool.and_eq_true] at h
  exact h.1.1
 simp only [fewB,decide_eq_true_eq] at h1
 exact ⟨fun d hd=>(h1.2 d hd).1,fun d hd=>by have:=(h1.2 d hd).2.2;omega,fun d hd=>by have:=(h1.2 d hd).2.1;omega,by omega⟩
theorem sameR_i {db:List DA} {p q:QY} (h:(meaning db p).2=0→(meaning db q).2=0→(meaning db p).1=(meaning db q).1):sameR db p q=true:=by
 unfold sameR
 by_cases h1:(meaning db p).2=0
 · by_cases h2:(meaning db q).2=0
   · rw [h h1 h2,eqC_self];simp
   · simp [h2]
 · simp [h1]
theorem k15 {db:List DA} (h:DbOk db) {p q:QY} (hp:p.ok) (hq:q.ok) (hs:sameR db p q=true):ACalls E.P 15 [.view 5 (db.map DA.av),.agg p.ls,.agg q.ls] [] (fun r H=>r=.bool true∧H=[]):=by
 have:=c15 db h p q hp hq
 rw [hs] at this
 simp only [q_av] at this
 exact this
theorem k14 (e:EX) (q:QY):ACalls E.P 14 [.agg e.ls,.agg q.ls] [] (fun r H=>r=.agg (filtQ e q).ls∧H=[]):=by
 have:=c14 e q
 simp only [av_fs,q_av] at this
 exact this
theorem k16 (op:Int) (a b:EX):ACalls E.P 16 [.int .i64 op,.agg a.ls,.agg b.ls] [] (fun r H=>r=.agg (twoX op a b).ls∧H=[]):=by
 have:=c16 op a b
 simp only [av_fs] at this
 exact this
theorem k9 (db:List DA) (q:QY) (m:Int) (hc:∀ d ∈ db,d.t.cols.length≤1000000000000):ACalls E.P 9 [.view 5 (db.map DA.av),.agg q.ls,.int .i64 m] [] (fun r H=>r=.bool (lightB db q m)∧H=[]):=by
 have:=c9 db q m hc
 rw [q_av] at this
 exact this
theorem k10 (q:QY):ACalls E.P 10 [.agg q.ls] [] (fun r H=>r=.int .i64 (IntKind.i64.wrap q.count)∧H=[]):=by
 have:=c10 q
 rw [q_av] at this
 exact this
theorem k11 (q:QY):ACalls E.P 11 [.agg q.ls] [] (fun r H=>r=.int .i64 (IntKind.i64.wrap q.joins)∧H=[]):=by
 have:=c11 q
 rw [q_av] at this
 exact this
theorem k12 (e:EX):ACalls E.P 12 [.agg e.ls] [] (fun r H=>r=.int .i64 (IntKind.i64.wrap e.count)∧H=[]):=by
 have:=c12 e
 rw [av_fs] at this
 exact this
theorem take_qls (q:QY):q.ls.take 14=q.ls:=rfl
theorem take_els (e:EX):e.ls.take 6=e.ls:=rfl
theorem q_ls (q:QY):q.av=.agg q.ls:=q_av q
theorem e_ls (e:EX):e.av=.agg e.ls:=av_fs e
theorem spine3:∀ fn,E.P.funcs[3]?=some fn→fn.body.map (Go.Al.spine 4)=some true:=fun fn h=>by
 have e:=func3.symm.trans h
 injection e with e
 subst e
 rfl
theorem c3 (db:List DA) (hc:∀ d ∈ db,d.t.cols.length≤1000000000000) (q:QY) (hq:q.ok) (a b:EX) (ha:a.okI) (hb:b.okI):ACalls E.P 3 [.view 5 (db.map DA.av),q.av,a.av,b.av] [] (fun r H=>r=.bool true∧H=[]):=by
 have h9:=k9 db q 12 hc
 refine ok3.acallsF hE hm (by simp) 4 spine3 fun N hN=>?_
 unfold mc3 q3_1 q3_0 z0
 simp only [q_ls,e_ls]
 refine mf_i ?_
 simp only [lA,ptrCells,ptrAdd,isNil,seval]
 repeat' (first | (with_reducible apply St.o;constructor) <;> intro _ | (with_reducible first | refine And.intro (by omega) ?_ | (apply Sq.o;constructor)) | simp (maxSteps:=1000000) (disch:=omega) only [lE,ptrCells,ptrAdd,isNil,seval])
 refine mf_go (mf_i ?_)
 by_cases hl:lightB db q 12=true
 · rw [hl] at h9
   have hdb:=light_ok (by omega) hl
   have s1:=k15 hdb (ok_filt ha (ok_filt hb hq)) (ok_filt hb (ok_filt ha hq)) (sameR_i fun x y=>split_1 x y)
   have s2:=k15 hdb (ok_filt ha (ok_filt hb hq)) (ok_filt (okI_two 12 ha hb) hq) (sameR_i fun x y=>split_2 hdb.right x y)
   repeat' (first | (with_reducible apply St.o;constructor) <;> intro _ | (with_reducible first | refine And.intro (by omega) ?_ | (apply Sq.o;constructor)) | ((with_reducible apply Sc.o false;constructor);simp only [lP,seval,pa_els,pa_qls,renL_els,renL_qls,els_len,qls_len,take_qls,take_els,setAll];(first | refine ⟨_,h9,?_⟩ | refine ⟨_,k10 q,?_⟩ | refine ⟨_,k11 q,?_⟩ | refine ⟨_,k12 a,?_⟩ | refine ⟨_,k12 b,?_⟩ | refine ⟨_,c13,?_⟩);rintro _ _ ⟨rfl,rfl⟩;simp only [lA,lP,ptrCells,ptrAdd,isNil,seval,pa_els,pa_qls,renL_els,renL_qls,els_len,qls_len,take_qls,take_els,setAll]) | simp (maxSteps:=1000000) (disch:=omega) only [lE,ptrCells,ptrAdd,isNil,seval,pa_els,pa_qls,renL_els,renL_qls,els_len,qls_len,take_qls,take_els,setAll])
   all_goals first
    | (refine mf_go ?_)
    | (simp only [mfQ,lA,ptrCells,ptrAdd,isNil,seval]
       repeat' (first | (with_reducible apply St.o;constructor) <;> intro _ | (with_reducible first | refine And.intro (by omega) ?_ | (apply Sq.o;constructor)) | simp (maxSteps:=1000000) (disch:=omega) only [lE,ptrCells,ptrAdd,isNil,seval])
       exact keep_b rfl)
   refine mf_cut [(0,.view 5 (db.map DA.av)),(5,.op 0 0),(6,.op 1 0),(7,.op 2 0),(9,.op 3 0)] [.box q.ls,.box a.ls,.box b.ls,.box (filtQ a (filtQ b q)).ls] ?_ ?_
   · repeat' (first | (with_reducible apply St.o;constructor) <;> intro _ | (with_reducible first | refine And.intro (by omega) ?_ | (apply Sq.o;constructor)) | ((with_reducible apply Sc.o false;constructor);simp only [lP,seval,pa_els,pa_qls,renL_els,renL_qls,els_len,qls_len,take_qls,take_els,setAll];refine ⟨_,k14 _ _,?_⟩;rintro _ _ ⟨rfl,rfl⟩;simp only [lA,lP,ptrCells,ptrAdd,isNil,seval,pa_els,pa_qls,renL_els,renL_qls,els_len,qls_len,take_qls,take_els,setAll]) | with_reducible refine any_i [] ?_ | simp (maxSteps:=1000000) (disch:=omega) only [lE,ptrCells,ptrAdd,isNil,seval,pa_els,pa_qls,renL_els,renL_qls,els_len,qls_len,take_qls,take_els,setAll])
     all_goals first
      | exact (Ent.to [0,1,2,3] true (by simp) (by simp) rfl (by simp only [lP,seval,pa_els,pa_qls] <;> (try simp) <;> (try omega)) (by simp only [lP,seval,pa_els,pa_qls] <;> (try simp) <;> (try omega)))
      | exact ⟨rfl,(Ent.to [0,1,2,3] true (by simp) (by simp) rfl (by simp only [lP,seval,pa_els,pa_qls] <;> (try simp) <;> (try omega)) (by simp only [lP,seval,pa_els,pa_qls] <;> (try simp) <;> (try omega)))⟩
   refine mf_i ?_
   repeat' (first | (with_reducible apply St.o;constructor) <;> intro _ | (with_reducible first | refine And.intro (by omega) ?_ | (apply Sq.o;constructor)) | ((with_reducible apply Sc.o false;constructor);simp only [lP,seval,pa_els,pa_qls,renL_els,renL_qls,els_len,qls_len,take_qls,take_els,setAll];(first | refine ⟨_,c13,?_⟩ | refine ⟨_,k14 _ _,?_⟩ | refine ⟨_,k16 _ _ _,?_⟩ | refine ⟨_,s1,?_⟩ | refine ⟨_,s2,?_⟩);rintro _ _ ⟨rfl,rfl⟩;simp only [lA,lP,ptrCells,ptrAdd,isNil,seval,pa_els,pa_qls,renL_els,renL_qls,els_len,qls_len,take_qls,take_els,setAll]) | simp (maxSteps:=1000000) (disch:=omega) only [lE,ptrCells,ptrAdd,isNil,seval,pa_els,pa_qls,renL_els,renL_qls,els_len,qls_len,take_qls,take_els,setAll])
   all_goals
    refine mf_go (mf_last ?_)
    simp only [lA,ptrCells,ptrAdd,isNil,seval]
    repeat' (first | (with_reducible apply St.o;constructor) <;> intro _ | (with_reducible first | refine And.intro (by omega) ?_ | (apply Sq.o;constructor)) | simp (maxSteps:=1000000) (disch:=omega) only [lE,ptrCells,ptrAdd,isNil,seval])
    exact keep_b rfl
 · have hl:lightB db q 12=false:=by simpa using hl
   rw [hl] at h9
   repeat' (first | (with_reducible apply St.o;constructor) <;> intro _ | (with_reducible first | refine And.intro (by omega) ?_ | (apply Sq.o;constructor)) | ((with_reducible apply Sc.o false;constructor);simp only [lP,seval,pa_els,pa_qls,renL_els,renL_qls,els_len,qls_len,take_qls,take_els,setAll];(first | refine ⟨_,h9,?_⟩ | refine ⟨_,c13,?_⟩);rintro _ _ ⟨rfl,rfl⟩;simp only [lA,lP,ptrCells,ptrAdd,isNil,seval,pa_els,pa_qls,renL_els,renL_qls,els_len,qls_len,take_qls,take_els,setAll]) | simp (maxSteps:=1000000) (disch:=omega) only [lE,ptrCells,ptrAdd,isNil,seval,pa_els,pa_qls,renL_els,renL_qls,els_len,qls_len,take_qls,take_els,setAll])
   all_goals
    simp only [mfQ,lA,ptrCells,ptrAdd,isNil,seval]
    repeat' (first | (with_reducible apply St.o;constructor) <;> intro _ | (with_reducible first | refine And.intro (by omega) ?_ | (apply Sq.o;constructor)) | simp (maxSteps:=1000000) (disch:=omega) only [lE,ptrCells,ptrAdd,isNil,seval])
    exact keep_b rfl
end Go.Proofs.Try

