/-
 A part of the proof: see the text of the law.
-/
import Derived.Test.YtchlampphcaomaaGreatDoorLap
set_option linter.unusedSimpArgs false
set_option linter.unusedVariables false
namespace Go.Proofs.Try
open Go.Proofs.Tryz
open Go.Al
set_option maxRecDepth 100000
abbrev q5_0:MI:=oZ 6
def mc5:MC:=(.seq (.ops [pK 4 1,pK 5 2,(none,q5_0)]) (.seq (.seq (.ops [pR 16 14 4,pV 17 10 16,(none,.v (.bin 18 .gtr false (.t 17) (.c (.int .i64 60)))),pM 19 18,gF 19 (oR 20 14 5),gF 19 (oV 21 10 20),(some (19,false),.v (.bin 22 .gtr false (.t 21) (.c (.int .i64 60)))),pO 23 19 22,pM 24 23,gF 24 (oM 25 0),gF 24 (oG 26 25),(some (24,false),.v (.bin 27 .gtr false (.t 26) (.c (.int .i64 4)))),pO 28 24 27]) (.cond 28 (.seq (.ops [(none,.e (.call (some 29) 13 [])),pM 6 29]) .ret) .skip)) (.seq (.seq (.ops [pM 30 0,pG 31 30,pI 32 0]) (.block 0 (.loop (.seq (.ops [pB 33 32 31]) (.seq (.cond 33 .skip (.exit 0)) (.seq (.block 1 (.seq (.ops [pQ 34 5 30 32,pR 35 5 34,(none,.e (.alloc 8 z1)),pS 5 8 35]) (.seq (.ops [pF 36 0 8,pF 37 1 36,pL 38 37,pG 39 38,(none,.v (.bin 40 .gtr false (.t 39) (.c (.int .i64 8))))]) (.cond 40 (.seq (.ops [(none,.e (.call (some 41) 13 [])),pM 6 41]) .ret) .skip)))) (.ops [pA 42 32 1,pM 32 42]))))))) (.seq (.ops [pM 43 0,pV 44 17 43,pM 9 44]) (.seq (.any false (.pure0 none (oR 45 14 4) (.pure0 none (oR 47 14 4) (.alt none (oV 46 22 45) (.base (.alt none (oV 48 23 47) (.base (.pure0 none (oM 10 46) (.pure0 none (oM 11 48) .done))) .stop)) .stop)))) (.seq (.seq (.ops [pM 49 10,pG 50 49,pM 51 11,pG 52 51,(none,.v (.bin 53 .neq false (.t 50) (.t 52)))]) (.cond 53 (.seq (.ops [(none,q5_0)]) .ret) .skip)) (.seq (.seq (.ops [pM 54 10,pG 55 54,pI 56 0]) (.block 2 (.loop (.seq (.ops [pB 57 56 55]) (.seq (.cond 57 .skip (.exit 2)) (.seq (.block 3 (.seq (.ops [pM 58 56,pM 12 58]) (.seq (.any false (.pure0 none (oM 59 10) (.pure0 none (oM 60 12) (.pure0 none (oQ 61 1 59 60) (.pure0 none (oL 62 61) (.pure0 none (oM 63 11) (.pure0 none (oM 64 12) (.pure0 none (oQ 65 1 63 64) (.pure0 none (oL 66 65) (.pure0 none (.v (.bin 67 .neq false (.t 62) (.t 66))) .done)))))))))) (.cond 67 (.seq (.ops [(none,q5_0)]) .ret) .skip)))) (.ops [pA 68 56 1,pM 56 68]))))))) (.seq (.ops [pM 70 9,pR 71 14 4,pW 72 18 70 71,pM 69 72,pX 73 0 69,pX 74 1 69,pM 13 73,pM 14 74]) (.seq (.ops [pM 75 9,pR 76 14 4,pW 77 24 75 76,(none,.e (.alloc 15 z4)),pS 2 15 77]) (.seq (.any false (.alt none (.e (.call (some 78) 13 [])) (.base (.pure0 none (oM 79 78) (.pure0 (some (79,true)) (oM 80 14) (.pure0 (some (79,true)) (oF 81 1 15) (.pure0 (some (79,true)) (oL 82 81) (.pure0 (some (79,true)) (.v (.bin 83 .eql false (.t 80) (.t 82))) (.pure0 none (oP 84 79 83) (.pure0 none (oM 85 84) (.pure0 (some (85,true)) (oM 86 13) (.pure0 (some (85,true)) (oF 87 0 15) (.pure0 (some (85,true)) (oL 88 87) (.alt (some (85,true)) (oW 89 25 86 88) (.base (.pure0 none (oP 90 85 89) (.pure0 none (oM 91 90) (.pure0 (some (91,true)) (oR 92 14 4) (.pure0 (some (91,true)) (oR 94 14 4) (.alt (some (91,true)) (oV 93 26 92) (.base (.alt (some (91,true)) (oV 95 10 94) (.base (.pure0 (some (91,true)) (.v (.bin 96 .eql false (.t 93) (.t 95))) (.pure0 none (oP 97 91 96) (.pure0 none (oM 98 97) (.pure0 (some (98,true)) (oR 99 14 4) (.pure0 (some (98,true)) (oR 100 14 5) (.pure0 (some (98,true)) (oR 102 14 4) (.pure0 (some (98,true)) (oR 103 14 5) (.alt (some (98,true)) (oW 101 27 99 100) (.base (.alt (some (98,true)) (oW 104 28 102 103) (.base (.pure0 (some (98,true)) (.v (.bin 105 .eql true (.t 101) (.t 104))) (.pure0 none (oP 106 98 105) (.pure0 none (oM 107 106) (.pure0 (some (107,true)) (oR 108 14 4) (.pure0 (some (107,true)) (oR 109 14 4) (.alt (some (107,true)) (oW 110 27 108 109) (.base (.pure0 none (oP 111 107 110) (.pure0 none (oM 6 111) .done))) .stop))))))) .stop)) .stop))))))))) .stop)) .stop)))))) .stop)))))))))))) .stop)) .ret))))))))))
theorem ok5:FnOk E 5 112 [.tmp 6] mc5:=ofk func5
set_option maxRecDepth 20000
set_option maxHeartbeats 32000000
theorem k22 (q:QY) (h:q.count≤1048576):ACalls E.P 22 [.agg q.ls] [] (fun r H=>r=.view 1 (q.tabs.map AV.str)∧H=[]):=by
 have:=c22 q h
 simp only [q_ls] at this
 exact this
theorem k23 (q:QY) (h:q.count≤1048576):ACalls E.P 23 [.agg q.ls] [] (fun r H=>r=.view 1 (q.tabs.map AV.str)∧H=[]):=by
 have:=c23 q h
 simp only [q_ls] at this
 exact this
theorem k24 (db:List TB) (hdb:∀ t ∈ db,t.cols.length≤1000000) (q:QY) (hok:q.ok):ACalls E.P 24 [.view 4 (db.map TB.av),.agg q.ls] [] (fun r H=>r=.agg [ksV (schema db q).1,.int .i64 (schema db q).2]∧H=[]):=by
 have:=c24 db hdb q hok
 simp only [q_ls] at this
 exact this
theorem k26 (q:QY):ACalls E.P 26 [.agg q.ls] [] (fun r H=>r=.int .i64 (IntKind.i64.wrap q.count)∧H=[]):=by
 have:=c26 q
 rw [q_av] at this
 exact this
theorem k27 (a b:QY):ACalls E.P 27 [.agg a.ls,.agg b.ls] [] (fun r H=>r=.bool (eqC a b)∧H=[]):=by
 have:=c27 a b
 simp only [q_ls] at this
 exact this
theorem k28 (a b:QY):ACalls E.P 28 [.agg a.ls,.agg b.ls] [] (fun r H=>r=.bool (eqC a b)∧H=[]):=by
 have:=c28 a b
 simp only [q_ls] at this
 exact this
theorem IdxR_strs {P:Program} {m:Nat} {N:FN} {xs:List ByteArray} {n:Int} {d:Nat} {c:Kn} (h0:0≤n) (h1:n<xs.length):IdxR P m N (xs.map AV.str) n d c=rK P m N c d (.vp [.str (xs.getD n.toNat ⟨#[]⟩)]) :=
 IdxR_map (cs:=fun x=>[.str x]) (fun _=>rfl) h0 h1
theorem spine5:∀ fn,E.P.funcs[5]?=some fn→fn.body.map (Go.Al.spine 10)=some true:=fun fn h=>by
 have e:=func5.symm.trans h
 injection e with e
 subst e
 rfl
theorem c5 (db:List DA) (hc:∀ d ∈ db,d.t.cols.length≤1000000000000) (q p:QY) (hq:q.ok) (hp:p.ok) (hqc:q.count≤1048576):ACalls E.P 5 [.view 5 (db.map DA.av),q.av,p.av] [] (fun r H=>r=.bool true∧H=[]):=by
 have hmax:=maxLen_eq
 refine ok5.acallsF hE hm (by simp) 10 spine5 fun N hN=>?_
 unfold mc5 q5_0 z1 z4 pK pR pV pM pO pG pI pB pQ pS pF pL pA pW pX gF oM oL oR oF oZ oP oG oQ oV oW
 simp only [q_ls]
 refine mf_i ?_
 simp only [lA,seval]
 repeat' (first|(with_reducible first|(apply St.o;constructor)<;>intro _|refine And.intro (by omega) ?_|(apply Sq.o;constructor))|simp (disch:=omega) only [lE,seval])
 refine mf_go ?_
 refine mf_cutE (φ:=db.length≤4) [(0,.view 5 (db.map DA.av)),(4,.op 0 0),(5,.op 1 0)] [.box q.ls,.box p.ls] ?_ fun hdl=>?_
 · simp only [lA,seval]
   repeat' (first|(with_reducible first|(apply St.o;constructor)<;>intro _|refine And.intro (by omega) ?_|(apply Sq.o;constructor))|((with_reducible apply Sc.o false;constructor);simp only [lP,seval,pa_els,pa_qls,renL_els,renL_qls,els_len,qls_len,take_qls,take_els,setAll,List.length_map];(first|refine ⟨_,k10 q,?_⟩|refine ⟨_,k10 p,?_⟩|refine ⟨_,c13,?_⟩);rintro _ _ ⟨rfl,rfl⟩;simp only [lA,lP,seval,pa_els,pa_qls,renL_els,renL_qls,els_len,qls_len,take_qls,take_els,setAll,List.length_map])|simp (disch:=omega) only [lE,seval,pa_els,pa_qls,renL_els,renL_qls,els_len,qls_len,take_qls,take_els,setAll,List.length_map])
   all_goals first
    | exact .inl ⟨(ent [0,1] true (by simp only [lP,seval,pa_els,pa_qls]<;>(try simp)<;>(try omega)) (by simp only [lP,seval,pa_els,pa_qls]<;>(try simp)<;>(try omega))),by omega⟩
    | exact .inr (keep_b rfl)
 refine mf_cutE (φ:=∀ d ∈ db,d.t.cols.length≤8) [(0,.view 5 (db.map DA.av)),(4,.op 0 0),(5,.op 1 0)] [.box q.ls,.box p.ls] ?_ fun h8=>?_
 · simp only [lA,seval]
   repeat' (first|(with_reducible first|(apply St.o;constructor)<;>intro _|refine And.intro (by omega) ?_|(apply Sq.o;constructor))|simp (disch:=omega) only [lE,seval,List.length_map])
   refine loop_i (fun i:Nat=>i≤db.length∧∀ d ∈ db.take i,d.t.cols.length≤8) (fun i=>⟨[(0,.view 5 (db.map DA.av)),(4,.op 0 0),(5,.op 1 0),(30,.view 5 (db.map DA.av)),(31,.int .i64 db.length),(32,.int .i64 i)],[.box q.ls,.box p.ls]⟩) (fun i=>db.length - i) 0 ⟨by omega,by simp⟩ (ent [0,1] false (by simp only [lP,seval,pa_els,pa_qls]<;>(try simp)<;>(try omega)) (by simp only [lP,seval,pa_els,pa_qls]<;>(try simp)<;>(try omega))) ?_
   rintro i ⟨hi,hae⟩
   by_cases hin:i<db.length
   · have hlt:((i:Int)<(db.length:Int)):=by omega
     have hnext:(db.getD i default).t.cols.length≤8→∀ x ∈ db.take (i+1),x.t.cols.length≤8:=fun h x hx=>by
      rw [List.take_succ_eq_append_getElem hin] at hx
      rcases List.mem_append.1 hx with hx | hx
      · exact hae x hx
      · rw [List.mem_singleton.1 hx]
        have e:db.getD i default=db[i]:=by simp [hin]
        rw [← e];exact h
     generalize hx:db.getD i default=d at *
     repeat' (first|(with_reducible first|(apply St.o;constructor)<;>intro _|refine And.intro (by omega) ?_|(apply Sq.o;constructor))|((with_reducible apply Sc.o false;constructor);simp only [lP,seval,IdxR_das,DA.cs,TB.cs,hx,Int.toNat_natCast,List.length_map,hlt,decide_true,fillE,setAll];refine ⟨_,c13,?_⟩;rintro _ _ ⟨rfl,rfl⟩;simp only [lA,lP,seval,IdxR_das,DA.cs,TB.cs,hx,Int.toNat_natCast,List.length_map,hlt,decide_true,fillE,setAll])|simp (disch:=omega) only [lE,seval,IdxR_das,DA.cs,TB.cs,hx,Int.toNat_natCast,List.length_map,hlt,decide_true,fillE,setAll])
     all_goals first
      | exact .inr (keep_b rfl)
      | (refine back_i (i+1) ⟨by omega,hnext (by omega)⟩ (by omega) (ent [0,1] false (by simp only [lP,seval,pa_els,pa_qls]<;>(try simp)<;>(try omega)) (by simp only [lP,seval,pa_els,pa_qls]<;>(try simp)<;>(try omega))))
   · obtain rfl:i=db.length:=by omega
     rw [List.take_length] at hae
     repeat' (first|(with_reducible first|(apply St.o;constructor)<;>intro _|refine And.intro (by omega) ?_|(apply Sq.o;constructor))|simp (disch:=omega) only [lE,seval,List.length_map,Int.lt_irrefl,decide_false])
     all_goals exact .inl ⟨(ent [0,1] true (by simp only [lP,seval,pa_els,pa_qls]<;>(try simp)<;>(try omega)) (by simp only [lP,seval,pa_els,pa_qls]<;>(try simp)<;>(try omega))),hae⟩
 have hcol:∀ t ∈ db.map DA.t,t.cols.length≤1000000:=fun t ht=>by obtain ⟨d,hd,rfl⟩:=List.mem_map.1 ht;have:=h8 d hd;omega
 have k17:=c17 db (by omega)
 have k18q:=k18 (db.map DA.t) hcol q hq
 have k24q:=k24 (db.map DA.t) hcol q hq
 have k22q:=k22 q hqc
 have k23q:=k23 q hqc
 have ht:=tabs_le q
 refine mf_cut [(4,.op 0 0),(5,.op 1 0),(9,.view 4 ((db.map DA.t).map TB.av))] [.box q.ls,.box p.ls] ?_ ?_
 · simp only [lA,seval]
   repeat' (first|(with_reducible first|(apply St.o;constructor)<;>intro _|refine And.intro (by omega) ?_|(apply Sq.o;constructor))|((with_reducible apply Sc.o false;constructor);simp only [lP,seval,pa_els,pa_qls,renL_els,renL_qls,els_len,qls_len,take_qls,take_els,setAll];refine ⟨_,k17,?_⟩;rintro _ _ ⟨rfl,rfl⟩;simp only [lA,lP,seval,pa_els,pa_qls,renL_els,renL_qls,els_len,qls_len,take_qls,take_els,setAll])|simp (disch:=omega) only [lE,seval,pa_els,pa_qls,renL_els,renL_qls,els_len,qls_len,take_qls,take_els,setAll])
   all_goals first
    | exact (ent [0,1] true (by simp only [lP,seval,pa_els,pa_qls]<;>(try simp)<;>(try omega)) (by simp only [lP,seval,pa_els,pa_qls]<;>(try simp)<;>(try omega)))
    | exact ⟨rfl,(ent [0,1] true (by simp only [lP,seval,pa_els,pa_qls]<;>(try simp)<;>(try omega)) (by simp only [lP,seval,pa_els,pa_qls]<;>(try simp)<;>(try omega)))⟩
 generalize (db.map DA.t)=tb at *
 generalize q.tabs=T at *
 refine mf_cut [(4,.op 0 0),(5,.op 1 0),(9,.view 4 (tb.map TB.av)),(10,.view 1 (T.map AV.str)),(11,.view 1 (T.map AV.str))] [.box q.ls,.box p.ls] ?_ ?_
 · simp only [lA,seval]
   repeat' (first|(with_reducible first|(apply St.o;constructor)<;>intro _|refine And.intro (by omega) ?_|(apply Sq.o;constructor))|((with_reducible apply Sc.o false;constructor);simp only [lP,seval,pa_els,pa_qls,renL_els,renL_qls,els_len,qls_len,take_qls,take_els,setAll];(first|refine ⟨_,k22q,?_⟩|refine ⟨_,k23q,?_⟩);rintro _ _ ⟨rfl,rfl⟩;simp only [lA,lP,seval,pa_els,pa_qls,renL_els,renL_qls,els_len,qls_len,take_qls,take_els,setAll])|with_reducible refine any_i [] ?_|simp (disch:=omega) only [lE,seval,pa_els,pa_qls,renL_els,renL_qls,els_len,qls_len,take_qls,take_els,setAll])
   all_goals first
    | exact (ent [0,1] true (by simp only [lP,seval,pa_els,pa_qls]<;>(try simp)<;>(try omega)) (by simp only [lP,seval,pa_els,pa_qls]<;>(try simp)<;>(try omega)))
    | exact ⟨rfl,(ent [0,1] true (by simp only [lP,seval,pa_els,pa_qls]<;>(try simp)<;>(try omega)) (by simp only [lP,seval,pa_els,pa_qls]<;>(try simp)<;>(try omega)))⟩
 refine mf_i ?_
 repeat' (first|(with_reducible first|(apply St.o;constructor)<;>intro _|refine And.intro (by omega) ?_|(apply Sq.o;constructor))|simp (disch:=omega) only [lE,seval,ne_eq,not_true_eq_false,decide_false,bne_self_eq_false,List.length_map])
 refine mf_go ?_
 refine mf_cut [(4,.op 0 0),(5,.op 1 0),(9,.view 4 (tb.map TB.av))] [.box q.ls,.box p.ls] ?_ ?_
 · repeat' (first|(with_reducible first|(apply St.o;constructor)<;>intro _|refine And.intro (by omega) ?_|(apply Sq.o;constructor))|simp (disch:=omega) only [lE,seval,List.length_map])
   refine loop_i (fun i:Nat=>i≤T.length) (fun i=>⟨[(4,.op 0 0),(5,.op 1 0),(9,.view 4 (tb.map TB.av)),(10,.view 1 (T.map AV.str)),(11,.view 1 (T.map AV.str)),(55,.int .i64 T.length),(56,.int .i64 i)],[.box q.ls,.box p.ls]⟩) (fun i=>T.length - i) 0 (by omega) (ent [0,1] false (by simp only [lP,seval,pa_els,pa_qls]<;>(try simp)<;>(try omega)) (by simp only [lP,seval,pa_els,pa_qls]<;>(try simp)<;>(try omega))) ?_
   intro i hi
   by_cases hin:i<T.length
   · have hlt:((i:Int)<(T.length:Int)):=by omega
     repeat' (first|(with_reducible first|(apply St.o;constructor)<;>intro _|refine And.intro (by omega) ?_|(apply Sq.o;constructor))|with_reducible refine any_i [] ?_|simp (disch:=omega) only [lE,seval,strA,IdxR_strs,Int.toNat_natCast,List.length_map,hlt,decide_true,ne_eq,not_true_eq_false,decide_false,bne_self_eq_false])
     all_goals first
      | (refine back_i (i+1) (by omega) (by omega) (ent [0,1] false (by simp only [lP,seval,pa_els,pa_qls]<;>(try simp)<;>(try omega)) (by simp only [lP,seval,pa_els,pa_qls]<;>(try simp)<;>(try omega))))
      | (exfalso;simp_all;done)
   · obtain rfl:i=T.length:=by omega
     repeat' (first|(with_reducible first|(apply St.o;constructor)<;>intro _|refine And.intro (by omega) ?_|(apply Sq.o;constructor))|simp (disch:=omega) only [lE,seval,List.length_map,Int.lt_irrefl,decide_false])
     all_goals first
      | exact (ent [0,1] true (by simp only [lP,seval,pa_els,pa_qls]<;>(try simp)<;>(try omega)) (by simp only [lP,seval,pa_els,pa_qls]<;>(try simp)<;>(try omega)))
      | exact ⟨rfl,(ent [0,1] true (by simp only [lP,seval,pa_els,pa_qls]<;>(try simp)<;>(try omega)) (by simp only [lP,seval,pa_els,pa_qls]<;>(try simp)<;>(try omega)))⟩
 generalize schema tb q=k at *
 refine mf_cut [(4,.op 0 0),(5,.op 1 0),(9,.view 4 (tb.map TB.av)),(13,ksV k.1),(14,.int .i64 k.2)] [.box q.ls,.box p.ls] ?_ ?_
 · repeat' (first|(with_reducible first|(apply St.o;constructor)<;>intro _|refine And.intro (by omega) ?_|(apply Sq.o;constructor))|((with_reducible apply Sc.o false;constructor);simp only [lP,seval,pa_els,pa_qls,renL_els,renL_qls,els_len,qls_len,take_qls,take_els,setAll];refine ⟨_,k18q,?_⟩;rintro _ _ ⟨rfl,rfl⟩;simp only [lA,lP,seval,pa_els,pa_qls,renL_els,renL_qls,els_len,qls_len,take_qls,take_els,setAll])|simp (disch:=omega) only [lE,seval,pa_els,pa_qls,renL_els,renL_qls,els_len,qls_len,take_qls,take_els,setAll])
   all_goals first
    | exact (ent [0,1] true (by simp only [lP,seval,pa_els,pa_qls]<;>(try simp)<;>(try omega)) (by simp only [lP,seval,pa_els,pa_qls]<;>(try simp)<;>(try omega)))
    | exact ⟨rfl,(ent [0,1] true (by simp only [lP,seval,pa_els,pa_qls]<;>(try simp)<;>(try omega)) (by simp only [lP,seval,pa_els,pa_qls]<;>(try simp)<;>(try omega)))⟩
 refine mf_cut [(4,.op 0 0),(5,.op 1 0),(13,ksV k.1),(14,.int .i64 k.2),(15,.op 2 0)] [.box q.ls,.box p.ls,.box [ksV k.1,.int .i64 k.2]] ?_ ?_
 · repeat' (first|(with_reducible first|(apply St.o;constructor)<;>intro _|refine And.intro (by omega) ?_|(apply Sq.o;constructor))|((with_reducible apply Sc.o false;constructor);simp only [lP,seval,pa_els,pa_qls,renL_els,renL_qls,els_len,qls_len,take_qls,take_els,fillE,setAll];refine ⟨_,k24q,?_⟩;rintro _ _ ⟨rfl,rfl⟩;simp only [lA,lP,seval,pa_els,pa_qls,renL_els,renL_qls,els_len,qls_len,take_qls,take_els,fillE,setAll])|simp (disch:=omega) only [lE,seval,pa_els,pa_qls,renL_els,renL_qls,els_len,qls_len,take_qls,take_els,fillE,setAll])
   all_goals first
    | exact (ent [0,1,2] true (by simp only [lP,seval,pa_els,pa_qls]<;>(try simp)<;>(try omega)) (by simp only [lP,seval,pa_els,pa_qls]<;>(try simp)<;>(try omega)))
    | exact ⟨rfl,(ent [0,1,2] true (by simp only [lP,seval,pa_els,pa_qls]<;>(try simp)<;>(try omega)) (by simp only [lP,seval,pa_els,pa_qls]<;>(try simp)<;>(try omega)))⟩
 have h25:=c25 k.1 k.1
 rw [eqC_self] at h25
 have h27:=k27 q p
 have h28:=k28 q p
 have h27s:=k27 q q
 rw [eqC_self] at h27s
 have h26:=k26 q
 have h10:=k10 q
 generalize eqC q p=ee at *
 generalize IntKind.i64.wrap (q.count:Int)=nn at *
 refine mf_i ?_
 repeat' (first|(with_reducible first|(apply St.o;constructor)<;>intro _|refine And.intro (by omega) ?_|(apply Sq.o;constructor))|((with_reducible apply Sc.o false;constructor);simp only [lP,seval,pa_els,pa_qls,renL_els,renL_qls,els_len,qls_len,take_qls,take_els,setAll,decide_true];(first|refine ⟨_,c13,?_⟩|refine ⟨_,h25,?_⟩|refine ⟨_,h26,?_⟩|refine ⟨_,h10,?_⟩|refine ⟨_,h27,?_⟩|refine ⟨_,h28,?_⟩|refine ⟨_,h27s,?_⟩);rintro _ _ ⟨rfl,rfl⟩;simp only [lA,lP,seval,pa_els,pa_qls,renL_els,renL_qls,els_len,qls_len,take_qls,take_els,setAll,decide_true])|with_reducible refine any_i [] ?_|simp (disch:=omega) only [lE,seval,pa_els,pa_qls,renL_els,renL_qls,els_len,qls_len,take_qls,take_els,setAll,decide_true])
 all_goals
  refine mf_go (mf_last ?_)
  simp only [lA,seval]
  repeat' (first|(with_reducible first|(apply St.o;constructor)<;>intro _|refine And.intro (by omega) ?_|(apply Sq.o;constructor))|simp (disch:=omega) only [lE,seval])
  exact keep_b rfl
end Go.Proofs.Try
