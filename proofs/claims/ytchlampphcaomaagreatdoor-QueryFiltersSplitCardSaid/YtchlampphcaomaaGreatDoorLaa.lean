/-
 A part of the proof: see the text of the law.
-/
import Derived.Test.YtchlampphcaomaaGreatDoorEaz
set_option linter.unusedSimpArgs false
set_option linter.unusedVariables false
namespace Go.Proofs.Try
open Go.Proofs.Tryz
open Go.Al
set_option maxRecDepth 100000
abbrev q3_0:AT:=.alt none (oS 14 9 39) .done .stop
abbrev q3_1:AT:=.alt none (oW 39 14 35 38) q3_0 .stop
def mc3:MC:=(.seq (.ops [pK 5 1,pK 6 2,pK 7 3,pZ 8]) (.seq (.seq (.ops [pM 10 0,pR 11 14 5,(none,.e (.call (some 12) 9 [.t 10,.t 11,.c (.int .i64 12)])),pN 13 12,pM 14 13,gF 14 (oR 15 14 5),gF 14 (oV 16 10 15),(some (14,false),.v (.bin 17 .gtr false (.t 16) (.c (.int .i64 30)))),pO 18 14 17,pM 19 18,gF 19 (oR 20 14 5),gF 19 (oV 21 11 20),(some (19,false),.v (.bin 22 .gtr false (.t 21) (.c (.int .i64 2)))),pO 23 19 22,pM 24 23,gF 24 (oR 25 6 6),gF 24 (oV 26 12 25),(some (24,false),.v (.bin 27 .gtr false (.t 26) (.c (.int .i64 60)))),pO 28 24 27,pM 29 28,gF 29 (oR 30 6 7),gF 29 (oV 31 12 30),(some (29,false),.v (.bin 32 .gtr false (.t 31) (.c (.int .i64 60)))),pO 33 29 32]) (.cond 33 (.seq (.ops [(none,.e (.call (some 34) 13 [])),pM 8 34]) .ret) .skip)) (.seq (.any true (.pure0 none (oR 35 6 6) (.pure0 none (oR 36 6 7) (.pure0 none (oR 37 14 5) (.alt none (oW 38 14 36 37) (.alt none (oW 39 14 35 38) (.alt none (.e (.alloc 9 z0)) q3_0 .stop) (.alt none (.e (.alloc 9 z0)) q3_1 .stop)) (.alt none (.e (.alloc 9 z0)) (.alt none (oW 38 14 36 37) q3_1 .stop) .stop)))))) (.seq (.any false (.alt none (.e (.call (some 40) 13 [])) (.base (.pure0 none (oM 41 40) (.pure0 (some (41,true)) (oM 42 0) (.pure0 (some (41,true)) (oR 43 14 9) (.pure0 (some (41,true)) (oR 44 6 7) (.pure0 (some (41,true)) (oR 45 6 6) (.pure0 (some (41,true)) (oR 46 14 5) (.alt (some (41,true)) (oW 47 14 45 46) (.base (.alt (some (41,true)) (oW 48 14 44 47) (.base (.alt (some (41,true)) (.e (.call (some 49) 15 [.t 42,.t 43,.t 48])) (.base (.pure0 none (oP 50 41 49) (.pure0 none (oM 51 50) (.pure0 (some (51,true)) (oM 52 0) (.pure0 (some (51,true)) (oR 53 14 9) (.pure0 (some (51,true)) (oR 54 6 6) (.pure0 (some (51,true)) (oR 55 6 7) (.pure0 (some (51,true)) (oR 57 14 5) (.alt (some (51,true)) (.e (.call (some 56) 16 [.c (.int .i64 12),.t 54,.t 55])) (.base (.alt (some (51,true)) (oW 58 14 56 57) (.base (.alt (some (51,true)) (.e (.call (some 59) 15 [.t 52,.t 53,.t 58])) (.base (.pure0 none (oP 60 51 59) (.pure0 none (oM 8 60) .done))) .stop)) .stop)) .stop))))))))) .stop)) .stop)) .stop)))))))) .stop)) .ret))))
theorem ok3:FnOk E 3 61 [.tmp 8] mc3:=ofk func3
set_option maxRecDepth 20000
set_option maxHeartbeats 64000000
theorem light_ok {db:List DA} {q:QY} {m:Int} (hm:m≤12) (h:lightB db q m=true):DbOk db:=by
 have h1:fewB db m=true:=by
  simp only [lightB,Bool.and_eq_true] at h
  exact h.1.1
 simp only [fewB,decide_eq_true_eq] at h1
 exact ⟨fun d hd=>(h1.2 d hd).1,fun d hd=>by have:=(h1.2 d hd).2.2;omega,fun d hd=>by have:=(h1.2 d hd).2.1;omega,by omega⟩
theorem sameR_i {db:List DA} {p q:QY} (h:(meaning db p).2=0→(meaning db q).2=0→(meaning db p).1=(meaning db q).1):sameR db p q=true:=by
 unfold sameR
 by_cases h1:(meaning db p).2=0
 · by_cases h2:(meaning db q).2=0
   · rw [h h1 h2,eqC_self];simp
   · simp [h2]
 · simp [h1]
theorem k15 {db:List DA} (h:DbOk db) {p q:QY} (hp:p.ok) (hq:q.ok) (hs:sameR db p q=true):ACalls E.P 15 [.view 5 (db.map DA.av),.agg p.ls,.agg q.ls] [] (fun r H=>r=.bool true∧H=[]):=by
 have:=c15 db h p q hp hq
 rw [hs] at this
 simp only [q_av] at this
 exact this
theorem k14 (e:EX) (q:QY):ACalls E.P 14 [.agg e.ls,.agg q.ls] [] (fun r H=>r=.agg (filtQ e q).ls∧H=[]):=by
 have:=c14 e q
 simp only [av_fs,q_av] at this
 exact this
theorem k16 (op:Int) (a b:EX):ACalls E.P 16 [.int .i64 op,.agg a.ls,.agg b.ls] [] (fun r H=>r=.agg (twoX op a b).ls∧H=[]):=by
 have:=c16 op a b
 simp only [av_fs] at this
 exact this
theorem k9 (db:List DA) (q:QY) (m:Int) (hc:∀ d ∈ db,d.t.cols.length≤5000000000000):ACalls E.P 9 [.view 5 (db.map DA.av),.agg q.ls,.int .i64 m] [] (fun r H=>r=.bool (lightB db q m)∧H=[]):=by
 have:=c9 db q m hc
 rw [q_av] at this
 exact this
theorem k10 (q:QY):ACalls E.P 10 [.agg q.ls] [] (fun r H=>r=.int .i64 (IntKind.i64.wrap q.count)∧H=[]):=by
 have:=c10 q
 rw [q_av] at this
 exact this
theorem k11 (q:QY):ACalls E.P 11 [.agg q.ls] [] (fun r H=>r=.int .i64 (IntKind.i64.wrap q.joins)∧H=[]):=by
 have:=c11 q
 rw [q_av] at this
 exact this
theorem k12 (e:EX):ACalls E.P 12 [.agg e.ls] [] (fun r H=>r=.int .i64 (IntKind.i64.wrap e.count)∧H=[]):=by
 have:=c12 e
 rw [av_fs] at this
 exact this
theorem take_qls (q:QY):q.ls.take 14=q.ls:=rfl
theorem take_els (e:EX):e.ls.take 6=e.ls:=rfl
theorem q_ls (q:QY):q.av=.agg q.ls:=q_av q
theorem e_ls (e:EX):e.av=.agg e.ls:=av_fs e
theorem spine3:∀ fn,E.P.funcs[3]?=some fn→fn.body.map (Go.Al.spine 4)=some true:=fun fn h=>by
 have e:=func3.symm.trans h
 injection e with e
 subst e
 rfl
theorem c3 (db:List DA) (hc:∀ d ∈ db,d.t.cols.length≤5000000000000) (q:QY) (hq:q.ok) (a b:EX) (ha:a.okI) (hb:b.okI):ACalls E.P 3 [.view 5 (db.map DA.av),q.av,a.av,b.av] [] (fun r H=>r=.bool true∧H=[]):=by
 have h9:=k9 db q 12 hc
 refine ok3.acallsF hE hm (by simp) 4 spine3 fun N hN=>?_
 unfold mc3 q3_1 q3_0 z0 pK pZ pM pR pN pO gF oM oR oP oS oV oW
 simp only [q_ls,e_ls]
 refine mf_i ?_
 simp only [lA,seval]
 repeat' (first|(with_reducible first|(apply St.o;constructor)<;>intro _|refine And.intro (by omega) ?_|(apply Sq.o;constructor))|simp (disch:=omega) only [lE,seval])
 refine mf_go (mf_i ?_)
 by_cases hl:lightB db q 12=true
 · rw [hl] at h9
   have hdb:=light_ok (by omega) hl
   have s1:=k15 hdb (ok_filt ha (ok_filt hb hq)) (ok_filt hb (ok_filt ha hq)) (sameR_i fun x y=>split_1 x y)
   have s2:=k15 hdb (ok_filt ha (ok_filt hb hq)) (ok_filt (okI_two 12 ha hb) hq) (sameR_i fun x y=>split_2 hdb.right x y)
   repeat' (first|(with_reducible first|(apply St.o;constructor)<;>intro _|refine And.intro (by omega) ?_|(apply Sq.o;constructor))|((with_reducible apply Sc.o false;constructor);simp only [lP,seval,pa_els,pa_qls,renL_els,renL_qls,els_len,qls_len,take_qls,take_els,setAll];(first|refine ⟨_,h9,?_⟩|refine ⟨_,k10 q,?_⟩|refine ⟨_,k11 q,?_⟩|refine ⟨_,k12 a,?_⟩|refine ⟨_,k12 b,?_⟩|refine ⟨_,c13,?_⟩);rintro _ _ ⟨rfl,rfl⟩;simp only [lA,lP,seval,pa_els,pa_qls,renL_els,renL_qls,els_len,qls_len,take_qls,take_els,setAll])|simp (disch:=omega) only [lE,seval,pa_els,pa_qls,renL_els,renL_qls,els_len,qls_len,take_qls,take_els,setAll])
   all_goals first
    | (refine mf_go ?_)
    | (simp only [mfQ,lA,seval]
       repeat' (first|(with_reducible first|(apply St.o;constructor)<;>intro _|refine And.intro (by omega) ?_|(apply Sq.o;constructor))|simp (disch:=omega) only [lE,seval])
       exact keep_b rfl)
   refine mf_cut [(0,.view 5 (db.map DA.av)),(5,.op 0 0),(6,.op 1 0),(7,.op 2 0),(9,.op 3 0)] [.box q.ls,.box a.ls,.box b.ls,.box (filtQ a (filtQ b q)).ls] ?_ ?_
   · repeat' (first|(with_reducible first|(apply St.o;constructor)<;>intro _|refine And.intro (by omega) ?_|(apply Sq.o;constructor))|((with_reducible apply Sc.o false;constructor);simp only [lP,seval,pa_els,pa_qls,renL_els,renL_qls,els_len,qls_len,take_qls,take_els,setAll];refine ⟨_,k14 _ _,?_⟩;rintro _ _ ⟨rfl,rfl⟩;simp only [lA,lP,seval,pa_els,pa_qls,renL_els,renL_qls,els_len,qls_len,take_qls,take_els,setAll])|with_reducible refine any_i [] ?_|simp (disch:=omega) only [lE,seval,pa_els,pa_qls,renL_els,renL_qls,els_len,qls_len,take_qls,take_els,setAll])
     all_goals first
      | exact (ent [0,1,2,3] true (by simp only [lP,seval,pa_els,pa_qls]<;>(try simp)<;>(try omega)) (by simp only [lP,seval,pa_els,pa_qls]<;>(try simp)<;>(try omega)))
      | exact ⟨rfl,(ent [0,1,2,3] true (by simp only [lP,seval,pa_els,pa_qls]<;>(try simp)<;>(try omega)) (by simp only [lP,seval,pa_els,pa_qls]<;>(try simp)<;>(try omega)))⟩
   refine mf_i ?_
   repeat' (first|(with_reducible first|(apply St.o;constructor)<;>intro _|refine And.intro (by omega) ?_|(apply Sq.o;constructor))|((with_reducible apply Sc.o false;constructor);simp only [lP,seval,pa_els,pa_qls,renL_els,renL_qls,els_len,qls_len,take_qls,take_els,setAll];(first|refine ⟨_,c13,?_⟩|refine ⟨_,k14 _ _,?_⟩|refine ⟨_,k16 _ _ _,?_⟩|refine ⟨_,s1,?_⟩|refine ⟨_,s2,?_⟩);rintro _ _ ⟨rfl,rfl⟩;simp only [lA,lP,seval,pa_els,pa_qls,renL_els,renL_qls,els_len,qls_len,take_qls,take_els,setAll])|simp (disch:=omega) only [lE,seval,pa_els,pa_qls,renL_els,renL_qls,els_len,qls_len,take_qls,take_els,setAll])
   all_goals
    refine mf_go (mf_last ?_)
    simp only [lA,seval]
    repeat' (first|(with_reducible first|(apply St.o;constructor)<;>intro _|refine And.intro (by omega) ?_|(apply Sq.o;constructor))|simp (disch:=omega) only [lE,seval])
    exact keep_b rfl
 · have hl:lightB db q 12=false:=by simpa using hl
   rw [hl] at h9
   repeat' (first|(with_reducible first|(apply St.o;constructor)<;>intro _|refine And.intro (by omega) ?_|(apply Sq.o;constructor))|((with_reducible apply Sc.o false;constructor);simp only [lP,seval,pa_els,pa_qls,renL_els,renL_qls,els_len,qls_len,take_qls,take_els,setAll];(first|refine ⟨_,h9,?_⟩|refine ⟨_,c13,?_⟩);rintro _ _ ⟨rfl,rfl⟩;simp only [lA,lP,seval,pa_els,pa_qls,renL_els,renL_qls,els_len,qls_len,take_qls,take_els,setAll])|simp (disch:=omega) only [lE,seval,pa_els,pa_qls,renL_els,renL_qls,els_len,qls_len,take_qls,take_els,setAll])
   all_goals
    simp only [mfQ,lA,seval]
    repeat' (first|(with_reducible first|(apply St.o;constructor)<;>intro _|refine And.intro (by omega) ?_|(apply Sq.o;constructor))|simp (disch:=omega) only [lE,seval])
    exact keep_b rfl
end Go.Proofs.Try
