/-
 A part of the proof: see the text of the law.
-/
import Derived.Test.YtchlampphcaomaaGreatDoorLac
set_option linter.unusedSimpArgs false
set_option linter.unusedVariables false
namespace Go.Proofs.Try
open Go.Proofs.Tryz
open Go.Al
set_option maxRecDepth 100000
abbrev q4_0:MI:=oW 116 14 111 115
abbrev q4_1:MI:=oW 120 14 118 119
abbrev q4_2:MI:=.e (.call (some 115) 21 [.t 112,.t 113,.t 114])
abbrev q4_3:MI:=.e (.call (some 122) 21 [.t 117,.t 120,.t 121])
abbrev q4_4:AT:=.alt none (oS 14 23 116) .done .stop
abbrev q4_5:AT:=.alt none (oS 14 24 122) .done .stop
def mc4:MC:=(.seq (.ops [pK 7 1,pK 8 2,pK 9 3,pK 10 4,pZ 12]) (.seq (.seq (.any false (.pure0 none (oM 25 0) (.pure0 none (oR 26 14 7) (.alt none (.e (.call (some 27) 9 [.t 25,.t 26,.c (.int .i64 12)])) (.base (.pure0 none (oN 28 27) (.pure0 none (oM 29 28) (.pure0 (some (29,false)) (oM 30 0) (.pure0 (some (29,false)) (oR 31 14 8) (.alt (some (29,false)) (.e (.call (some 32) 9 [.t 30,.t 31,.c (.int .i64 12)])) (.base (.pure0 (some (29,false)) (oN 33 32) (.pure0 none (oO 34 29 33) (.pure0 none (oM 35 34) (.pure0 (some (35,false)) (oR 36 14 7) (.pure0 (some (35,false)) (oR 38 14 8) (.alt (some (35,false)) (oV 37 10 36) (.base (.alt (some (35,false)) (oV 39 10 38) (.base (.pure0 (some (35,false)) (.v (.bin 40 .add false (.t 37) (.t 39))) (.pure0 (some (35,false)) (.v (.bin 41 .gtr false (.t 40) (.c (.int .i64 30)))) (.pure0 none (oO 42 35 41) (.pure0 none (oM 43 42) (.pure0 (some (43,false)) (oR 44 14 7) (.alt (some (43,false)) (oV 45 11 44) (.base (.pure0 (some (43,false)) (.v (.bin 46 .gtr false (.t 45) (.c (.int .i64 1)))) (.pure0 none (oO 47 43 46) (.pure0 none (oM 48 47) (.pure0 (some (48,false)) (oR 49 14 8) (.alt (some (48,false)) (oV 50 11 49) (.base (.pure0 (some (48,false)) (.v (.bin 51 .gtr false (.t 50) (.c (.int .i64 1)))) (.pure0 none (oO 52 48 51) (.pure0 none (oM 53 52) (.pure0 (some (53,false)) (oR 54 6 9) (.alt (some (53,false)) (oV 55 12 54) (.base (.pure0 (some (53,false)) (.v (.bin 56 .gtr false (.t 55) (.c (.int .i64 60)))) (.pure0 none (oO 57 53 56) (.pure0 none (oM 58 57) (.pure0 (some (58,false)) (oR 59 6 10) (.alt (some (58,false)) (oV 60 12 59) (.base (.pure0 (some (58,false)) (.v (.bin 61 .gtr false (.t 60) (.c (.int .i64 60)))) (.pure0 none (oO 62 58 61) .done))) .stop)))))) .stop)))))) .stop)))))) .stop))))))) .stop)) .stop))))))) .stop)))))) .stop)))) (.cond 62 (.seq (.ops [(none,.e (.call (some 63) 13 [])),pM 12 63]) .ret) .skip)) (.seq (.ops [pM 64 0,pV 65 17 64,pM 13 65]) (.seq (.ops [pM 67 13,pR 68 14 7,pW 69 18 67 68,pM 66 69,pX 70 0 66,pX 71 1 66,pM 14 70,pM 15 71]) (.seq (.ops [pM 73 13,pR 74 14 8,pW 75 18 73 74,pM 72 75,pX 76 0 72,pX 77 1 72,pM 16 76,pM 17 77]) (.seq (.seq (.ops [pM 78 15,pD 79 78 0,pM 80 79,gF 80 (oM 81 17),gF 80 (oD 82 81 0),pO 83 80 82]) (.cond 83 (.seq (.ops [(none,.e (.call (some 84) 13 [])),pM 12 84]) .ret) .skip)) (.seq (.ops [pM 85 14,pM 18 85,pI 19 0]) (.seq (.seq (.ops [pM 86 5,pN 87 86]) (.cond 87 (.ops [pM 88 16,pM 89 14,pG 90 89,pM 18 88,pM 19 90]) .skip)) (.seq (.ops [pM 92 18,pR 93 6 10,pW 94 19 92 93,pM 91 94,pX 95 0 91,pX 96 1 91,pM 20 95,pM 21 96]) (.seq (.seq (.ops [pM 97 21,pD 98 97 0,pM 99 98,gF 99 (oM 100 20),gF 99 (oD 101 100 3),gF 99 (oM 102 101),gT 102 (oM 103 20),gT 102 (oD 104 103 0),gF 99 (oP 105 102 104),pO 106 99 105]) (.cond 106 (.seq (.ops [(none,.e (.call (some 107) 13 [])),pM 12 107]) .ret) .skip)) (.seq (.ops [pR 108 6 10,pM 109 19,pW 110 20 108 109,(none,.e (.alloc 22 z3)),pS 6 22 110]) (.seq (.any true (.pure0 none (oR 111 6 22) (.pure0 none (oR 112 6 9) (.pure0 none (oR 113 14 7) (.pure0 none (oR 114 14 8) (.alt none q4_2 (.alt none q4_0 (.alt none (.e (.alloc 23 z0)) q4_4 .stop) (.alt none (.e (.alloc 23 z0)) (.alt none q4_0 q4_4 .stop) .stop)) (.alt none (.e (.alloc 23 z0)) (.alt none q4_2 (.alt none q4_0 q4_4 .stop) .stop) .stop))))))) (.seq (.any true (.pure0 none (oR 117 6 9) (.pure0 none (oR 118 6 10) (.pure0 none (oR 119 14 7) (.pure0 none (oR 121 14 8) (.alt none q4_1 (.alt none q4_3 (.alt none (.e (.alloc 24 z0)) q4_5 .stop) (.alt none (.e (.alloc 24 z0)) (.alt none q4_3 q4_5 .stop) .stop)) (.alt none (.e (.alloc 24 z0)) (.alt none q4_1 (.alt none q4_3 q4_5 .stop) .stop) .stop))))))) (.seq (.seq (.ops [pM 123 5,pN 124 123]) (.cond 124 (.any true (.pure0 none (oR 125 6 9) (.pure0 none (oR 126 14 7) (.pure0 none (oR 127 6 10) (.pure0 none (oR 128 14 8) (.alt none (oW 129 14 127 128) (.alt none (.e (.call (some 130) 21 [.t 125,.t 126,.t 129])) (.alt none (oS 14 24 130) .done .stop) .stop) .stop)))))) .skip)) (.seq (.any false (.alt none (.e (.call (some 131) 13 [])) (.base (.pure0 none (oM 132 131) (.pure0 (some (132,true)) (oM 133 0) (.pure0 (some (132,true)) (oR 134 14 23) (.pure0 (some (132,true)) (oR 135 14 24) (.alt (some (132,true)) (.e (.call (some 136) 15 [.t 133,.t 134,.t 135])) (.base (.pure0 none (oP 137 132 136) (.pure0 none (oM 138 137) (.pure0 (some (138,true)) (oM 139 0) (.pure0 (some (138,true)) (oR 140 14 23) (.pure0 (some (138,true)) (oR 141 6 9) (.pure0 (some (138,true)) (oR 142 6 22) (.pure0 (some (138,true)) (oR 144 14 7) (.pure0 (some (138,true)) (oR 145 14 8) (.alt (some (138,true)) (.e (.call (some 143) 16 [.c (.int .i64 12),.t 141,.t 142])) (.base (.alt (some (138,true)) (.e (.call (some 146) 21 [.t 143,.t 144,.t 145])) (.base (.alt (some (138,true)) (.e (.call (some 147) 15 [.t 139,.t 140,.t 146])) (.base (.pure0 none (oP 148 138 147) (.pure0 none (oM 12 148) .done))) .stop)) .stop)) .stop)))))))))) .stop)))))) .stop)) .ret)))))))))))))))
theorem ok4:FnOk E 4 149 [.tmp 12] mc4:=ofk func4
set_option maxRecDepth 20000
set_option maxHeartbeats 64000000
mutual
theorem okI_cm (f:Int→Int):∀ e:EX,e.okI→(e.cm f).okI
 | .mk op n k i s args,h=>by
   rw [EX.okI] at h
   rw [EX.cm,EX.okI]
   exact ⟨h.1,okIL_cm f args h.2⟩
theorem okIL_cm (f:Int→Int):∀ l:List EX,EX.okIL l→EX.okIL (EX.cmL f l)
 | [],_=>trivial
 | e::es,h=>⟨okI_cm f e h.1,okIL_cm f es h.2⟩
end
theorem schema_len {tb:List TB} (hdb:∀ t ∈ tb,t.cols.length≤1000000) (q:QY):(schema tb q).1.length≤1000000000:=by
 unfold schema
 split
 · simp
 split
 · rename_i h;have:=sch_len hdb q h;omega
 · simp
theorem drop_qls (q:QY):q.ls.drop 14=[]:=rfl
theorem k20 (by_:Int) (e:EX) (hc:e.formed=true):ACalls E.P 20 [.agg e.ls,.int .i64 by_] [] (fun r H=>r=.agg (e.cm (byI by_)).ls∧H=[]):=by
 have:=c20 by_ e hc
 simp only [e_ls] at this
 exact this
theorem k21 (e:EX) (p q:QY):ACalls E.P 21 [.agg e.ls,.agg p.ls,.agg q.ls] [] (fun r H=>r=.agg (joinQ e p q).ls∧H=[]):=by
 have:=c21 e p q
 simp only [e_ls,q_ls] at this
 exact this
theorem k18 (tb:List TB) (hdb:∀ t ∈ tb,t.cols.length≤1000000) (q:QY) (hk:q.ok):ACalls E.P 18 [.view 4 (tb.map TB.av),.agg q.ls] [] (fun r H=>r=.tup [ksV (schema tb q).1,.int .i64 (schema tb q).2]∧H=[]):=by
 have:=c18 tb hdb q hk
 simp only [q_ls] at this
 exact this
theorem k19 (ks:List Int) (e:EX):ACalls E.P 19 [ksV ks,.agg e.ls] [] (fun r H=>r=.tup [.int .i64 (chk ks e).1,.int .i64 (chk ks e).2]∧H=[]):=by
 have:=c19 ks e
 simp only [e_ls] at this
 exact this
theorem spine4:∀ fn,E.P.funcs[4]?=some fn→fn.body.map (Go.Al.spine 15)=some true:=fun fn h=>by
 have e:=func4.symm.trans h
 injection e with e
 subst e
 rfl
theorem c4 (db:List DA) (hc:∀ d ∈ db,d.t.cols.length≤5000000000000) (p q:QY) (hp:p.ok) (hq:q.ok) (on e:EX) (ho:on.okI) (he:e.okI) (left:Bool) :
 ACalls E.P 4 [.view 5 (db.map DA.av),p.av,q.av,on.av,e.av,.bool left] [] (fun r H=>r=.bool true∧H=[]):=by
 have h9:=k9 db p 12 hc
 have h9':=k9 db q 12 hc
 have hmax:=maxLen_eq
 refine ok4.acallsF hE hm (by simp) 15 spine4 fun N hN=>?_
 unfold mc4 q4_5 q4_4 q4_3 q4_2 q4_1 q4_0 z0 z3 pK pZ pM pV pR pW pX pD pO pI pN pG pS gF gT oM oR oD oP oO oN oS oV oW
 simp only [q_ls,e_ls]
 refine mf_i ?_
 simp only [lA,seval]
 repeat' (first|(with_reducible first|(apply St.o;constructor)<;>intro _|refine And.intro (by omega) ?_|(apply Sq.o;constructor))|simp (disch:=omega) only [lE,seval])
 refine mf_go (mf_i ?_)
 by_cases hl:lightB db p 12=true
 case neg =>
  have hl:lightB db p 12=false:=by simpa using hl
  rw [hl] at h9
  repeat' (first|(with_reducible first|(apply St.o;constructor)<;>intro _|refine And.intro (by omega) ?_|(apply Sq.o;constructor))|((with_reducible apply Sc.o false;constructor);simp only [lP,seval,pa_els,pa_qls,renL_els,renL_qls,els_len,qls_len,take_qls,take_els,setAll];(first|refine ⟨_,h9,?_⟩|refine ⟨_,c13,?_⟩);rintro _ _ ⟨rfl,rfl⟩;simp only [lA,lP,seval,pa_els,pa_qls,renL_els,renL_qls,els_len,qls_len,take_qls,take_els,setAll])|simp (disch:=omega) only [lE,seval,pa_els,pa_qls,renL_els,renL_qls,els_len,qls_len,take_qls,take_els,setAll])
  all_goals
   simp only [mfQ,lA,seval]
   repeat' (first|(with_reducible first|(apply St.o;constructor)<;>intro _|refine And.intro (by omega) ?_|(apply Sq.o;constructor))|simp (disch:=omega) only [lE,seval])
   exact keep_b rfl
 by_cases hl2:lightB db q 12=true
 case neg =>
  have hl2:lightB db q 12=false:=by simpa using hl2
  rw [hl] at h9
  rw [hl2] at h9'
  repeat' (first|(with_reducible first|(apply St.o;constructor)<;>intro _|refine And.intro (by omega) ?_|(apply Sq.o;constructor))|((with_reducible apply Sc.o false;constructor);simp only [lP,seval,pa_els,pa_qls,renL_els,renL_qls,els_len,qls_len,take_qls,take_els,setAll];(first|refine ⟨_,h9,?_⟩|refine ⟨_,h9',?_⟩|refine ⟨_,c13,?_⟩);rintro _ _ ⟨rfl,rfl⟩;simp only [lA,lP,seval,pa_els,pa_qls,renL_els,renL_qls,els_len,qls_len,take_qls,take_els,setAll])|simp (disch:=omega) only [lE,seval,pa_els,pa_qls,renL_els,renL_qls,els_len,qls_len,take_qls,take_els,setAll])
  all_goals
   simp only [mfQ,lA,seval]
   repeat' (first|(with_reducible first|(apply St.o;constructor)<;>intro _|refine And.intro (by omega) ?_|(apply Sq.o;constructor))|simp (disch:=omega) only [lE,seval])
   exact keep_b rfl
 rw [hl] at h9
 rw [hl2] at h9'
 have hdb:=light_ok (by omega) hl
 repeat' (first|(with_reducible first|(apply St.o;constructor)<;>intro _|refine And.intro (by omega) ?_|(apply Sq.o;constructor))|((with_reducible apply Sc.o false;constructor);simp only [lP,seval,pa_els,pa_qls,renL_els,renL_qls,els_len,qls_len,take_qls,take_els,setAll];(first|refine ⟨_,h9,?_⟩|refine ⟨_,h9',?_⟩|refine ⟨_,k10 p,?_⟩|refine ⟨_,k10 q,?_⟩|refine ⟨_,k11 p,?_⟩|refine ⟨_,k11 q,?_⟩|refine ⟨_,k12 on,?_⟩|refine ⟨_,k12 e,?_⟩|refine ⟨_,c13,?_⟩);rintro _ _ ⟨rfl,rfl⟩;simp only [lA,lP,seval,pa_els,pa_qls,renL_els,renL_qls,els_len,qls_len,take_qls,take_els,setAll])|simp (disch:=omega) only [lE,seval,pa_els,pa_qls,renL_els,renL_qls,els_len,qls_len,take_qls,take_els,setAll])
 all_goals first
  | (refine mf_go ?_)
  | (simp only [mfQ,lA,seval]
     repeat' (first|(with_reducible first|(apply St.o;constructor)<;>intro _|refine And.intro (by omega) ?_|(apply Sq.o;constructor))|simp (disch:=omega) only [lE,seval])
     exact keep_b rfl)
 have hcol:∀ t ∈ db.map DA.t,t.cols.length≤1000000:=fun t ht=>by obtain ⟨d,hd,rfl⟩:=List.mem_map.1 ht;exact hdb.cols d hd
 have hlen:=hdb.len
 have k17:=c17 db hlen
 have k18p:=k18 (db.map DA.t) hcol p hp
 have k18q:=k18 (db.map DA.t) hcol q hq
 have la:=schema_len hcol p
 have lb:=schema_len hcol q
 refine mf_cut [(0,.view 5 (db.map DA.av)),(5,.bool left),(7,.op 0 0),(8,.op 1 0),(9,.op 2 0),(10,.op 3 0),(13,.view 4 ((db.map DA.t).map TB.av))] [.box p.ls,.box q.ls,.box on.ls,.box e.ls] ?_ ?_
 · repeat' (first|(with_reducible first|(apply St.o;constructor)<;>intro _|refine And.intro (by omega) ?_|(apply Sq.o;constructor))|((with_reducible apply Sc.o false;constructor);simp only [lP,seval,pa_els,pa_qls,renL_els,renL_qls,els_len,qls_len,take_qls,take_els,setAll];refine ⟨_,k17,?_⟩;rintro _ _ ⟨rfl,rfl⟩;simp only [lA,lP,seval,pa_els,pa_qls,renL_els,renL_qls,els_len,qls_len,take_qls,take_els,setAll])|simp (disch:=omega) only [lE,seval,pa_els,pa_qls,renL_els,renL_qls,els_len,qls_len,take_qls,take_els,setAll])
   all_goals first
    | exact (ent [0,1,2,3] true (by simp only [lP,seval,pa_els,pa_qls]<;>(try simp)<;>(try omega)) (by simp only [lP,seval,pa_els,pa_qls]<;>(try simp)<;>(try omega)))
    | exact ⟨rfl,(ent [0,1,2,3] true (by simp only [lP,seval,pa_els,pa_qls]<;>(try simp)<;>(try omega)) (by simp only [lP,seval,pa_els,pa_qls]<;>(try simp)<;>(try omega)))⟩
 refine mf_cut [(0,.view 5 (db.map DA.av)),(5,.bool left),(7,.op 0 0),(8,.op 1 0),(9,.op 2 0),(10,.op 3 0),(13,.view 4 ((db.map DA.t).map TB.av)),(14,ksV (schema (db.map DA.t) p).1),(15,.int .i64 (schema (db.map DA.t) p).2)] [.box p.ls,.box q.ls,.box on.ls,.box e.ls] ?_ ?_
 · repeat' (first|(with_reducible first|(apply St.o;constructor)<;>intro _|refine And.intro (by omega) ?_|(apply Sq.o;constructor))|((with_reducible apply Sc.o false;constructor);simp only [lP,seval,pa_els,pa_qls,renL_els,renL_qls,els_len,qls_len,take_qls,take_els,setAll];refine ⟨_,k18p,?_⟩;rintro _ _ ⟨rfl,rfl⟩;simp only [lA,lP,seval,pa_els,pa_qls,renL_els,renL_qls,els_len,qls_len,take_qls,take_els,setAll])|simp (disch:=omega) only [lE,seval,pa_els,pa_qls,renL_els,renL_qls,els_len,qls_len,take_qls,take_els,setAll])
   all_goals first
    | exact (ent [0,1,2,3] true (by simp only [lP,seval,pa_els,pa_qls]<;>(try simp)<;>(try omega)) (by simp only [lP,seval,pa_els,pa_qls]<;>(try simp)<;>(try omega)))
    | exact ⟨rfl,(ent [0,1,2,3] true (by simp only [lP,seval,pa_els,pa_qls]<;>(try simp)<;>(try omega)) (by simp only [lP,seval,pa_els,pa_qls]<;>(try simp)<;>(try omega)))⟩
 refine mf_cut [(0,.view 5 (db.map DA.av)),(5,.bool left),(7,.op 0 0),(8,.op 1 0),(9,.op 2 0),(10,.op 3 0),(14,ksV (schema (db.map DA.t) p).1),(15,.int .i64 (schema (db.map DA.t) p).2),(16,ksV (schema (db.map DA.t) q).1),(17,.int .i64 (schema (db.map DA.t) q).2)] [.box p.ls,.box q.ls,.box on.ls,.box e.ls] ?_ ?_
 · repeat' (first|(with_reducible first|(apply St.o;constructor)<;>intro _|refine And.intro (by omega) ?_|(apply Sq.o;constructor))|((with_reducible apply Sc.o false;constructor);simp only [lP,seval,pa_els,pa_qls,renL_els,renL_qls,els_len,qls_len,take_qls,take_els,setAll];refine ⟨_,k18q,?_⟩;rintro _ _ ⟨rfl,rfl⟩;simp only [lA,lP,seval,pa_els,pa_qls,renL_els,renL_qls,els_len,qls_len,take_qls,take_els,setAll])|simp (disch:=omega) only [lE,seval,pa_els,pa_qls,renL_els,renL_qls,els_len,qls_len,take_qls,take_els,setAll])
   all_goals first
    | exact (ent [0,1,2,3] true (by simp only [lP,seval,pa_els,pa_qls]<;>(try simp)<;>(try omega)) (by simp only [lP,seval,pa_els,pa_qls]<;>(try simp)<;>(try omega)))
    | exact ⟨rfl,(ent [0,1,2,3] true (by simp only [lP,seval,pa_els,pa_qls]<;>(try simp)<;>(try omega)) (by simp only [lP,seval,pa_els,pa_qls]<;>(try simp)<;>(try omega)))⟩
 have hA:(schema (db.map DA.t) p).2=0→(schema (db.map DA.t) q).2=0→True:=fun _ _=>trivial
 by_cases ha:(schema (db.map DA.t) p).2=0
 case neg =>
  refine mf_i ?_
  repeat' (first|(with_reducible first|(apply St.o;constructor)<;>intro _|refine And.intro (by omega) ?_|(apply Sq.o;constructor))|((with_reducible apply Sc.o false;constructor);simp only [lP,seval,ha,decide_not,decide_true,decide_false,Bool.not_false];refine ⟨_,c13,?_⟩;rintro _ _ ⟨rfl,rfl⟩;simp only [lA,lP,seval,ha,decide_not,decide_true,decide_false,Bool.not_false])|simp (disch:=omega) only [lE,seval,ha,decide_not,decide_true,decide_false,Bool.not_false])
  all_goals
   simp only [mfQ,lA,seval]
   repeat' (first|(with_reducible first|(apply St.o;constructor)<;>intro _|refine And.intro (by omega) ?_|(apply Sq.o;constructor))|simp (disch:=omega) only [lE,seval])
   exact keep_b rfl
 by_cases hb:(schema (db.map DA.t) q).2=0
 case neg =>
  refine mf_i ?_
  repeat' (first|(with_reducible first|(apply St.o;constructor)<;>intro _|refine And.intro (by omega) ?_|(apply Sq.o;constructor))|((with_reducible apply Sc.o false;constructor);simp only [lP,seval,ha,hb,decide_not,decide_true,decide_false,Bool.not_false,Bool.not_true];refine ⟨_,c13,?_⟩;rintro _ _ ⟨rfl,rfl⟩;simp only [lA,lP,seval,ha,hb,decide_not,decide_true,decide_false,Bool.not_false,Bool.not_true])|simp (disch:=omega) only [lE,seval,ha,hb,decide_not,decide_true,decide_false,Bool.not_false,Bool.not_true])
  all_goals
   simp only [mfQ,lA,seval]
   repeat' (first|(with_reducible first|(apply St.o;constructor)<;>intro _|refine And.intro (by omega) ?_|(apply Sq.o;constructor))|simp (disch:=omega) only [lE,seval])
   exact keep_b rfl
 refine mf_i ?_
 repeat' (first|(with_reducible first|(apply St.o;constructor)<;>intro _|refine And.intro (by omega) ?_|(apply Sq.o;constructor))|((with_reducible apply Sc.o false;constructor);simp only [lP,seval,ha,hb,decide_not,decide_true,decide_false,Bool.not_false,Bool.not_true];refine ⟨_,c13,?_⟩;rintro _ _ ⟨rfl,rfl⟩;simp only [lA,lP,seval,ha,hb,decide_not,decide_true,decide_false,Bool.not_false,Bool.not_true])|simp (disch:=omega) only [lE,seval,ha,hb,decide_not,decide_true,decide_false,Bool.not_false,Bool.not_true])
 refine mf_go ?_
 refine mf_cut [(0,.view 5 (db.map DA.av)),(5,.bool left),(7,.op 0 0),(8,.op 1 0),(9,.op 2 0),(10,.op 3 0),(14,ksV (schema (db.map DA.t) p).1),(16,ksV (schema (db.map DA.t) q).1),(18,ksV (schema (db.map DA.t) p).1),(19,.int .i64 0)] [.box p.ls,.box q.ls,.box on.ls,.box e.ls] ?_ ?_
 · repeat' (first|(with_reducible first|(apply St.o;constructor)<;>intro _|refine And.intro (by omega) ?_|(apply Sq.o;constructor))|simp (disch:=omega) only [lE,seval,pa_els,pa_qls,renL_els,renL_qls,els_len,qls_len,take_qls,take_els,setAll])
   all_goals first
    | exact (ent [0,1,2,3] true (by simp only [lP,seval,pa_els,pa_qls]<;>(try simp)<;>(try omega)) (by simp only [lP,seval,pa_els,pa_qls]<;>(try simp)<;>(try omega)))
    | exact ⟨rfl,(ent [0,1,2,3] true (by simp only [lP,seval,pa_els,pa_qls]<;>(try simp)<;>(try omega)) (by simp only [lP,seval,pa_els,pa_qls]<;>(try simp)<;>(try omega)))⟩
 refine mf_cut [(0,.view 5 (db.map DA.av)),(5,.bool left),(7,.op 0 0),(8,.op 1 0),(9,.op 2 0),(10,.op 3 0),(18,ksV (if left=true then (schema (db.map DA.t) p).1 else (schema (db.map DA.t) q).1)),(19,.int .i64 (if left=true then 0 else ((schema (db.map DA.t) p).1.length:Int)))] [.box p.ls,.box q.ls,.box on.ls,.box e.ls] ?_ ?_
 · cases left
   all_goals
    simp only [Bool.false_eq_true,if_false,if_true]
    repeat' (first|(with_reducible first|(apply St.o;constructor)<;>intro _|refine And.intro (by omega) ?_|(apply Sq.o;constructor))|simp (disch:=omega) only [lE,seval,pa_els,pa_qls,renL_els,renL_qls,els_len,qls_len,take_qls,take_els,setAll,List.length_map])
   all_goals first
    | exact (ent [0,1,2,3] true (by simp only [lP,seval,pa_els,pa_qls]<;>(try simp)<;>(try omega)) (by simp only [lP,seval,pa_els,pa_qls]<;>(try simp)<;>(try omega)))
    | exact ⟨rfl,(ent [0,1,2,3] true (by simp only [lP,seval,pa_els,pa_qls]<;>(try simp)<;>(try omega)) (by simp only [lP,seval,pa_els,pa_qls]<;>(try simp)<;>(try omega)))⟩
 generalize hside:(if left=true then (schema (db.map DA.t) p).1 else (schema (db.map DA.t) q).1)=side
 generalize hfrom:(if left=true then 0 else ((schema (db.map DA.t) p).1.length:Int))=from_
 have h19:=k19 side e
 refine mf_cut [(0,.view 5 (db.map DA.av)),(5,.bool left),(7,.op 0 0),(8,.op 1 0),(9,.op 2 0),(10,.op 3 0),(19,.int .i64 from_),(20,.int .i64 (chk side e).1),(21,.int .i64 (chk side e).2)] [.box p.ls,.box q.ls,.box on.ls,.box e.ls] ?_ ?_
 · repeat' (first|(with_reducible first|(apply St.o;constructor)<;>intro _|refine And.intro (by omega) ?_|(apply Sq.o;constructor))|((with_reducible apply Sc.o false;constructor);simp only [lP,seval,pa_els,pa_qls,renL_els,renL_qls,els_len,qls_len,take_qls,take_els,setAll];refine ⟨_,h19,?_⟩;rintro _ _ ⟨rfl,rfl⟩;simp only [lA,lP,seval,pa_els,pa_qls,renL_els,renL_qls,els_len,qls_len,take_qls,take_els,setAll])|simp (disch:=omega) only [lE,seval,pa_els,pa_qls,renL_els,renL_qls,els_len,qls_len,take_qls,take_els,setAll])
   all_goals first
    | exact (ent [0,1,2,3] true (by simp only [lP,seval,pa_els,pa_qls]<;>(try simp)<;>(try omega)) (by simp only [lP,seval,pa_els,pa_qls]<;>(try simp)<;>(try omega)))
    | exact ⟨rfl,(ent [0,1,2,3] true (by simp only [lP,seval,pa_els,pa_qls]<;>(try simp)<;>(try omega)) (by simp only [lP,seval,pa_els,pa_qls]<;>(try simp)<;>(try omega)))⟩
 by_cases hk:(chk side e).2=0
 case neg =>
  refine mf_i ?_
  repeat' (first|(with_reducible first|(apply St.o;constructor)<;>intro _|refine And.intro (by omega) ?_|(apply Sq.o;constructor))|((with_reducible apply Sc.o false;constructor);simp only [lP,seval,hk,decide_not,decide_true,decide_false,Bool.not_false];refine ⟨_,c13,?_⟩;rintro _ _ ⟨rfl,rfl⟩;simp only [lA,lP,seval,hk,decide_not,decide_true,decide_false,Bool.not_false])|simp (disch:=omega) only [lE,seval,hk,decide_not,decide_true,decide_false,Bool.not_false])
  all_goals
   simp only [mfQ,lA,seval]
   repeat' (first|(with_reducible first|(apply St.o;constructor)<;>intro _|refine And.intro (by omega) ?_|(apply Sq.o;constructor))|simp (disch:=omega) only [lE,seval])
   exact keep_b rfl
 refine mf_i ?_
 repeat' (first|(with_reducible first|(apply St.o;constructor)<;>intro _|refine And.intro (by omega) ?_|(apply Sq.o;constructor))|((with_reducible apply Sc.o false;constructor);simp only [lP,seval,hk,decide_not,decide_true,decide_false,Bool.not_false,Bool.not_true];refine ⟨_,c13,?_⟩;rintro _ _ ⟨rfl,rfl⟩;simp only [lA,lP,seval,hk,decide_not,decide_true,decide_false,Bool.not_false,Bool.not_true])|simp (disch:=omega) only [lE,seval,hk,decide_not,decide_true,decide_false,Bool.not_false,Bool.not_true])
 all_goals first
  | (refine mf_go ?_)
  | (simp only [mfQ,lA,seval]
     repeat' (first|(with_reducible first|(apply St.o;constructor)<;>intro _|refine And.intro (by omega) ?_|(apply Sq.o;constructor))|simp (disch:=omega) only [lE,seval])
     exact keep_b rfl)
 all_goals
  generalize hw:e.cm (byI from_)=w
  have k20':=k20 from_ e (chk_ok hk).1
  rw [hw] at k20'
  have how:w.okI:=by rw [← hw];exact okI_cm _ e he
  have hbel:∀ l:Bool,(if l=true then joinQ on (filtQ e p) q else joinQ on p (filtQ e q)).ok:=fun l=>by
   cases l
   · exact ok_join ho hp (ok_filt he hq)
   · exact ok_join ho (ok_filt he hp) hq
  have s1:=k15 hdb (ok_filt how (ok_join ho hp hq)) (hbel left) (sameR_i fun x y=>by
   subst hside hfrom hw
   cases left
   · exact move_right hdb.right ha hb la lb hk x y
   · exact move_left hdb.right ha hb la hk x y)
  have s2:=k15 hdb (ok_filt how (ok_join ho hp hq)) (ok_join (okI_two 12 ho how) hp hq) (sameR_i fun x y=>by
   subst hside
   exact move_in (side:=left) hdb.right ha hb la lb hk (by rw [← hw,← hfrom]) x y)
  refine mf_cut [(0,.view 5 (db.map DA.av)),(5,.bool left),(7,.op 0 0),(8,.op 1 0),(9,.op 2 0),(10,.op 3 0),(22,.op 4 0)] [.box p.ls,.box q.ls,.box on.ls,.box e.ls,.box w.ls] ?_ ?_
  · repeat' (first|(with_reducible first|(apply St.o;constructor)<;>intro _|refine And.intro (by omega) ?_|(apply Sq.o;constructor))|((with_reducible apply Sc.o false;constructor);simp only [lP,seval,pa_els,pa_qls,renL_els,renL_qls,els_len,qls_len,take_qls,take_els,setAll];refine ⟨_,k20',?_⟩;rintro _ _ ⟨rfl,rfl⟩;simp only [lA,lP,seval,pa_els,pa_qls,renL_els,renL_qls,els_len,qls_len,take_qls,take_els,setAll])|simp (disch:=omega) only [lE,seval,pa_els,pa_qls,renL_els,renL_qls,els_len,qls_len,take_qls,take_els,setAll])
    all_goals first
     | exact (ent [0,1,2,3,4] true (by simp only [lP,seval,pa_els,pa_qls]<;>(try simp)<;>(try omega)) (by simp only [lP,seval,pa_els,pa_qls]<;>(try simp)<;>(try omega)))
     | exact ⟨rfl,(ent [0,1,2,3,4] true (by simp only [lP,seval,pa_els,pa_qls]<;>(try simp)<;>(try omega)) (by simp only [lP,seval,pa_els,pa_qls]<;>(try simp)<;>(try omega)))⟩
  refine mf_cut [(0,.view 5 (db.map DA.av)),(5,.bool left),(7,.op 0 0),(8,.op 1 0),(9,.op 2 0),(10,.op 3 0),(22,.op 4 0),(23,.op 5 0)] [.box p.ls,.box q.ls,.box on.ls,.box e.ls,.box w.ls,.box (filtQ w (joinQ on p q)).ls] ?_ ?_
  · repeat' (first|(with_reducible first|(apply St.o;constructor)<;>intro _|refine And.intro (by omega) ?_|(apply Sq.o;constructor))|((with_reducible apply Sc.o false;constructor);simp only [lP,seval,pa_els,pa_qls,renL_els,renL_qls,els_len,qls_len,take_qls,take_els,setAll];(first|refine ⟨_,k14 _ _,?_⟩|refine ⟨_,k21 _ _ _,?_⟩);rintro _ _ ⟨rfl,rfl⟩;simp only [lA,lP,seval,pa_els,pa_qls,renL_els,renL_qls,els_len,qls_len,take_qls,take_els,setAll])|with_reducible refine any_i [] ?_|simp (disch:=omega) only [lE,seval,pa_els,pa_qls,renL_els,renL_qls,els_len,qls_len,take_qls,take_els,setAll])
    all_goals first
     | exact (ent [0,1,2,3,4,5] true (by simp only [lP,seval,pa_els,pa_qls]<;>(try simp)<;>(try omega)) (by simp only [lP,seval,pa_els,pa_qls]<;>(try simp)<;>(try omega)))
     | exact ⟨rfl,(ent [0,1,2,3,4,5] true (by simp only [lP,seval,pa_els,pa_qls]<;>(try simp)<;>(try omega)) (by simp only [lP,seval,pa_els,pa_qls]<;>(try simp)<;>(try omega)))⟩
  refine mf_cut [(0,.view 5 (db.map DA.av)),(5,.bool left),(7,.op 0 0),(8,.op 1 0),(9,.op 2 0),(10,.op 3 0),(22,.op 4 0),(23,.op 5 0),(24,.op 6 0)] [.box p.ls,.box q.ls,.box on.ls,.box e.ls,.box w.ls,.box (filtQ w (joinQ on p q)).ls,.box (joinQ on (filtQ e p) q).ls] ?_ ?_
  · repeat' (first|(with_reducible first|(apply St.o;constructor)<;>intro _|refine And.intro (by omega) ?_|(apply Sq.o;constructor))|((with_reducible apply Sc.o false;constructor);simp only [lP,seval,pa_els,pa_qls,renL_els,renL_qls,els_len,qls_len,take_qls,take_els,setAll];(first|refine ⟨_,k14 _ _,?_⟩|refine ⟨_,k21 _ _ _,?_⟩);rintro _ _ ⟨rfl,rfl⟩;simp only [lA,lP,seval,pa_els,pa_qls,renL_els,renL_qls,els_len,qls_len,take_qls,take_els,setAll])|with_reducible refine any_i [] ?_|simp (disch:=omega) only [lE,seval,pa_els,pa_qls,renL_els,renL_qls,els_len,qls_len,take_qls,take_els,setAll])
    all_goals first
     | exact (ent [0,1,2,3,4,5,6] true (by simp only [lP,seval,pa_els,pa_qls]<;>(try simp)<;>(try omega)) (by simp only [lP,seval,pa_els,pa_qls]<;>(try simp)<;>(try omega)))
     | exact ⟨rfl,(ent [0,1,2,3,4,5,6] true (by simp only [lP,seval,pa_els,pa_qls]<;>(try simp)<;>(try omega)) (by simp only [lP,seval,pa_els,pa_qls]<;>(try simp)<;>(try omega)))⟩
  refine mf_cut [(0,.view 5 (db.map DA.av)),(7,.op 0 0),(8,.op 1 0),(9,.op 2 0),(10,.op 3 0),(22,.op 4 0),(23,.op 5 0),(24,.op 6 0)] [.box p.ls,.box q.ls,.box on.ls,.box e.ls,.box w.ls,.box (filtQ w (joinQ on p q)).ls,.box (if left=true then joinQ on (filtQ e p) q else joinQ on p (filtQ e q)).ls] ?_ ?_
  · cases left
    all_goals
     simp only [Bool.false_eq_true,if_false,if_true]
     repeat' (first|(with_reducible first|(apply St.o;constructor)<;>intro _|refine And.intro (by omega) ?_|(apply Sq.o;constructor))|((with_reducible apply Sc.o false;constructor);simp only [lP,seval,drop_qls,List.append_nil,pa_els,pa_qls,renL_els,renL_qls,els_len,qls_len,take_qls,take_els,setAll];(first|refine ⟨_,k14 _ _,?_⟩|refine ⟨_,k21 _ _ _,?_⟩);rintro _ _ ⟨rfl,rfl⟩;simp only [lA,lP,seval,drop_qls,List.append_nil,pa_els,pa_qls,renL_els,renL_qls,els_len,qls_len,take_qls,take_els,setAll])|with_reducible refine any_i [6] ?_|simp (disch:=omega) only [lE,seval,drop_qls,List.append_nil,pa_els,pa_qls,renL_els,renL_qls,els_len,qls_len,take_qls,take_els,setAll])
    all_goals first
     | exact (ent [0,1,2,3,4,5,6] true (by simp only [lP,seval,pa_els,pa_qls]<;>(try simp)<;>(try omega)) (by simp only [lP,seval,pa_els,pa_qls]<;>(try simp)<;>(try omega)))
     | exact ⟨rfl,(ent [0,1,2,3,4,5,6] true (by simp only [lP,seval,pa_els,pa_qls]<;>(try simp)<;>(try omega)) (by simp only [lP,seval,pa_els,pa_qls]<;>(try simp)<;>(try omega)))⟩
  refine mf_i ?_
  repeat' (first|(with_reducible first|(apply St.o;constructor)<;>intro _|refine And.intro (by omega) ?_|(apply Sq.o;constructor))|((with_reducible apply Sc.o false;constructor);simp only [lP,seval,pa_els,pa_qls,renL_els,renL_qls,els_len,qls_len,take_qls,take_els,setAll];(first|refine ⟨_,c13,?_⟩|refine ⟨_,k16 _ _ _,?_⟩|refine ⟨_,k21 _ _ _,?_⟩|refine ⟨_,s1,?_⟩|refine ⟨_,s2,?_⟩);rintro _ _ ⟨rfl,rfl⟩;simp only [lA,lP,seval,pa_els,pa_qls,renL_els,renL_qls,els_len,qls_len,take_qls,take_els,setAll])|simp (disch:=omega) only [lE,seval,pa_els,pa_qls,renL_els,renL_qls,els_len,qls_len,take_qls,take_els,setAll])
  all_goals
   refine mf_go (mf_last ?_)
   simp only [lA,seval]
   repeat' (first|(with_reducible first|(apply St.o;constructor)<;>intro _|refine And.intro (by omega) ?_|(apply Sq.o;constructor))|simp (disch:=omega) only [lE,seval])
   exact keep_b rfl
end Go.Proofs.Try
