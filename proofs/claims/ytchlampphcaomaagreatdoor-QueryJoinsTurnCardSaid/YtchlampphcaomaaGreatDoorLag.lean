/-
 A part of the proof: see the text of the law.
-/
import Derived.Test.YtchlampphcaomaaGreatDoorLad
import Derived.Test.YtchlampphcaomaaGreatDoorLaf
import Derived.Test.YtchlampphcaomaaGreatDoorPai
set_option linter.unusedSimpArgs false
set_option linter.unusedVariables false
namespace Go.Proofs.Try
open Go.Proofs.Tryz
open Go.Al
set_option maxRecDepth 100000
abbrev q7_0:MI:=oZ 10
def mc7:MC:=(.seq (.ops [pK 6 1,pK 7 2,pK 8 3,(none,q7_0)]) (.seq (.seq (.any false (.pure0 none (oM 27 0) (.pure0 none (oR 28 14 6) (.alt none (.e (.call (some 29) 9 [.t 27,.t 28,.c (.int .i64 10)])) (.base (.pure0 none (oN 30 29) (.pure0 none (oM 31 30) (.pure0 (some (31,false)) (oM 32 0) (.pure0 (some (31,false)) (oR 33 14 7) (.alt (some (31,false)) (.e (.call (some 34) 9 [.t 32,.t 33,.c (.int .i64 10)])) (.base (.pure0 (some (31,false)) (oN 35 34) (.pure0 none (oO 36 31 35) (.pure0 none (oM 37 36) (.pure0 (some (37,false)) (oR 38 14 6) (.pure0 (some (37,false)) (oR 40 14 7) (.alt (some (37,false)) (oV 39 10 38) (.base (.alt (some (37,false)) (oV 41 10 40) (.base (.pure0 (some (37,false)) (.v (.bin 42 .add false (.t 39) (.t 41))) (.pure0 (some (37,false)) (.v (.bin 43 .gtr false (.t 42) (.c (.int .i64 30)))) (.pure0 none (oO 44 37 43) (.pure0 none (oM 45 44) (.pure0 (some (45,false)) (oR 46 14 6) (.alt (some (45,false)) (oV 47 11 46) (.base (.pure0 (some (45,false)) (.v (.bin 48 .gtr false (.t 47) (.c (.int .i64 1)))) (.pure0 none (oO 49 45 48) (.pure0 none (oM 50 49) (.pure0 (some (50,false)) (oR 51 14 7) (.alt (some (50,false)) (oV 52 11 51) (.base (.pure0 (some (50,false)) (.v (.bin 53 .gtr false (.t 52) (.c (.int .i64 1)))) (.pure0 none (oO 54 50 53) (.pure0 none (oM 55 54) (.pure0 (some (55,false)) (oR 56 6 8) (.alt (some (55,false)) (oV 57 12 56) (.base (.pure0 (some (55,false)) (.v (.bin 58 .gtr false (.t 57) (.c (.int .i64 60)))) (.pure0 none (oO 59 55 58) .done))) .stop)))))) .stop)))))) .stop))))))) .stop)) .stop))))))) .stop)))))) .stop)))) (.cond 59 (.seq (.ops [(none,.e (.call (some 60) 13 [])),pM 10 60]) .ret) .skip)) (.seq (.ops [pM 61 0,pV 62 17 61,pM 11 62]) (.seq (.ops [pM 64 11,pR 65 14 6,pW 66 18 64 65,pM 63 66,pX 67 0 63,pX 68 1 63,pM 12 67,pM 13 68]) (.seq (.ops [pM 70 11,pR 71 14 7,pW 72 18 70 71,pM 69 72,pX 73 0 69,pX 74 1 69,pM 14 73,pM 15 74]) (.seq (.ops [pM 76 11,pR 77 6 8,pR 78 14 6,pR 79 14 7,(none,.e (.call (some 80) 21 [.t 77,.t 78,.t 79])),pW 81 18 76 80,pM 75 81,pX 82 0 75,pX 83 1 75,pM 16 82,pM 17 83]) (.seq (.seq (.ops [pM 84 13,pD 85 84 0,pM 86 85,gF 86 (oM 87 15),gF 86 (oD 88 87 0),pO 89 86 88,pM 90 89,gF 90 (oM 91 17),gF 90 (oD 92 91 0),pO 93 90 92]) (.cond 93 (.seq (.ops [(none,.e (.call (some 94) 13 [])),pM 10 94]) .ret) .skip)) (.seq (.ops [pM 96 0,pR 97 6 8,pR 98 14 6,pR 99 14 7,(none,.e (.call (some 100) 21 [.t 97,.t 98,.t 99])),pW 101 32 96 100,pM 95 101,pX 102 0 95,pX 103 1 95,pM 18 102,pM 19 103]) (.seq (.any false (.pure0 none (oM 105 0) (.pure0 none (oR 106 6 8) (.pure0 none (oM 107 12) (.pure0 none (oG 108 107) (.pure0 none (oM 109 14) (.pure0 none (oG 110 109) (.pure0 none (oR 112 14 7) (.pure0 none (oR 113 14 6) (.alt none (.e (.call (some 111) 33 [.t 106,.t 108,.t 110])) (.base (.alt none (.e (.call (some 114) 21 [.t 111,.t 112,.t 113])) (.base (.alt none (oW 115 32 105 114) (.base (.pure0 none (oM 104 115) (.pure0 none (oX 116 0 104) (.pure0 none (oX 117 1 104) (.pure0 none (oM 20 116) (.pure0 none (oM 21 117) .done)))))) .stop)) .stop)) .stop)))))))))) (.seq (.seq (.ops [pM 118 19,pE 119 118 0,pM 120 21,pE 121 120 0,(none,.v (.bin 122 .neq true (.t 119) (.t 121)))]) (.cond 122 (.seq (.ops [(none,q7_0)]) .ret) .skip)) (.seq (.ops [pY 22]) (.seq (.seq (.ops [pM 123 18,pG 124 123,pI 125 0]) (.block 0 (.loop (.seq (.ops [pB 126 125 124]) (.seq (.cond 126 .skip (.exit 0)) (.seq (.block 1 (.seq (.ops [pQ 127 1 123 125,pL 128 127,pM 24 128]) (.any true (.pure0 none (oM 129 22) (.pure0 none (oM 131 24) (.pure0 none (oM 132 12) (.pure0 none (oG 133 132) (.pure0 none (.p (.cut 134 3 (.t 131) (.t 133) none)) (.pure0 none (oM 136 24) (.pure0 none (oM 137 12) (.pure0 none (oG 138 137) (.pure0 none (.p (.pre 139 3 (.t 136) (some (.t 138)))) (.alt none (.e (.mkl 130 25 3 0 (.agg z2) [])) (.alt none (.e (.app 135 25 3 32 (.t 130) (.t 134))) (.alt none (.e (.app 140 25 3 32 (.t 135) (.t 139))) (.alt none (.e (.mkl 141 69 1 1 (.raw (.slice none 0 0)) [(0,.t 140)])) (.alt none (.e (.app 142 69 1 24 (.t 129) (.t 141))) (.pure1 none (oM 22 142) .done) .stop) .stop) .stop) .stop) .stop))))))))))))) (.ops [pA 143 125 1,pM 125 143]))))))) (.seq (.seq (.ops [pM 144 19,pE 145 144 0,pM 146 145,gT 146 (oM 147 22),gT 146 (oM 148 20),gT 146 (oW 149 30 147 148),gT 146 (oN 150 149),pP 151 146 150]) (.cond 151 (.seq (.ops [(none,q7_0)]) .ret) .skip)) (.seq (.seq (.ops [pM 152 4,(none,.v (.bin 153 .lss false (.t 152) (.c (.int .i64 0)))),pM 154 153,gF 154 (oM 155 0),gF 154 (oG 156 155),gF 154 (oE 157 156 0),pO 158 154 157]) (.cond 158 (.seq (.ops [(none,.e (.call (some 159) 13 [])),pM 10 159]) .ret) .skip)) (.seq (.ops [pM 160 0,pM 161 4,pM 162 0,pG 163 162,(none,.p (.rem 164 (.t 161) (.t 163))),pQ 165 5 160 164,pF 166 0 165,pF 167 0 166,pL 168 167,pV 169 34 168,(none,.e (.alloc 25 z0)),pS 14 25 169]) (.seq (.ops [(none,.e (.call (some 170) 35 [.c (.bool true)])),(none,.v (.build 171 z3 [(0,1,.c (.int .i64 2)),(2,3,.t 170)])),(none,.e (.alloc 26 z3)),pS 6 26 171]) (.seq (.any false (.alt none (.e (.call (some 172) 13 [])) (.base (.pure0 none (oM 173 172) (.pure0 (some (173,true)) (oM 174 0) (.pure0 (some (173,true)) (oR 175 6 26) (.pure0 (some (173,true)) (oR 176 6 8) (.pure0 (some (173,true)) (oR 177 14 6) (.pure0 (some (173,true)) (oR 178 14 7) (.pure0 (some (173,true)) (oR 180 14 25) (.pure0 (some (173,true)) (oR 182 6 8) (.pure0 (some (173,true)) (oR 183 14 6) (.pure0 (some (173,true)) (oR 184 6 26) (.pure0 (some (173,true)) (oR 185 14 7) (.pure0 (some (173,true)) (oR 186 14 25) (.alt (some (173,true)) (.e (.call (some 179) 21 [.t 176,.t 177,.t 178])) (.base (.alt (some (173,true)) (.e (.call (some 181) 21 [.t 175,.t 179,.t 180])) (.base (.alt (some (173,true)) (.e (.call (some 187) 21 [.t 184,.t 185,.t 186])) (.base (.alt (some (173,true)) (.e (.call (some 188) 21 [.t 182,.t 183,.t 187])) (.base (.alt (some (173,true)) (.e (.call (some 189) 15 [.t 174,.t 181,.t 188])) (.base (.pure0 none (oP 190 173 189) (.pure0 none (oM 10 190) .done))) .stop)) .stop)) .stop)) .stop)) .stop)))))))))))))) .stop)) .ret)))))))))))))))))
theorem ok7:FnOk E 7 191 [.tmp 10] mc7:=ofk func7
set_option maxRecDepth 20000
set_option maxHeartbeats 64000000
theorem k33 (lf rt:Int) (e:EX) (hc:e.formed=true):ACalls E.P 33 [.agg e.ls,.int .i64 lf,.int .i64 rt] [] (fun r H=>r=.agg (e.cm (tuI lf rt)).ls∧H=[]):=by
 have:=c33 lf rt e hc
 simp only [e_ls] at this
 exact this
theorem k32 (db:List DA) (h:DbOk db) (q:QY) (hk:q.ok):ACalls E.P 32 [.view 5 (db.map DA.av),.agg q.ls] [] (fun r H=>r=.tup [rwsV (meaning db q).1,.int .i64 (meaning db q).2]∧H=[]):=by
 have:=c32 db h q hk
 simp only [q_ls] at this
 exact this
theorem k34 (s:ByteArray):ACalls E.P 34 [.str s] [] (fun r H=>r=.agg (scanQ s).ls∧H=[]):=by
 have:=c34 s
 simp only [q_ls] at this
 exact this
abbrev yesW:List AV:=[.int .i64 2,.int .i64 0,.int .i64 3,.int .i64 1,.str ⟨#[]⟩,.raw (.slice none 0 0)]
theorem k21y (p q:QY):ACalls E.P 21 [.agg yesW,.agg p.ls,.agg q.ls] [] (fun r H=>r=.agg (joinQ yesX p q).ls∧H=[]) :=
 ACalls.weakL (.cons (WeakL.agg (.cons (.refl _) (.cons (.refl _) (.cons (.refl _) (.cons (.refl _) (.cons (.refl _) (.cons weak_nil (.refl _)))))))) (.cons (.refl _) (.cons (.refl _) (.refl _)))) (k21 yesX p q)
theorem okI_yes:yesX.okI:=by simp [yesX,EX.okI,EX.okIL,inI]
theorem spine7:∀ fn,E.P.funcs[7]?=some fn→fn.body.map (Go.Al.spine 17)=some true:=fun fn h=>by
 have e:=func7.symm.trans h
 injection e with e
 subst e
 rfl
theorem c7 (db:List DA) (hc:∀ d ∈ db,d.t.cols.length≤5000000000000) (p q:QY) (hp:p.ok) (hq:q.ok) (on:EX) (ho:on.okI) (third:Int) :
 ACalls E.P 7 [.view 5 (db.map DA.av),p.av,q.av,on.av,.int .i64 third] [] (fun r H=>r=.bool true∧H=[]):=by
 have h9:=k9 db p 10 hc
 have h9':=k9 db q 10 hc
 have hmax:=maxLen_eq
 refine ok7.acallsF hE hm (by simp) 17 spine7 fun N hN=>?_
 unfold mc7 q7_0 z0 z2 z3 pK pM pV pR pW pX pD pO pE pY pG pI pB pQ pL pA pP pF pS gF gT oM oR oE oD oZ oP oO oX oN oG oV oW
 simp only [q_ls,e_ls]
 refine mf_i ?_
 simp only [lA,seval]
 repeat' (first|(with_reducible first|(apply St.o;constructor)<;>intro _|refine And.intro (by omega) ?_|(apply Sq.o;constructor))|simp (disch:=omega) only [lE,seval])
 refine mf_go (mf_i ?_)
 by_cases hl:lightB db p 10=true
 case neg =>
  have hl:lightB db p 10=false:=by simpa using hl
  rw [hl] at h9
  repeat' (first|(with_reducible first|(apply St.o;constructor)<;>intro _|refine And.intro (by omega) ?_|(apply Sq.o;constructor))|((with_reducible apply Sc.o false;constructor);simp only [lP,seval,pa_els,pa_qls,renL_els,renL_qls,els_len,qls_len,take_qls,take_els,setAll];(first|refine ⟨_,h9,?_⟩|refine ⟨_,c13,?_⟩);rintro _ _ ⟨rfl,rfl⟩;simp only [lA,lP,seval,pa_els,pa_qls,renL_els,renL_qls,els_len,qls_len,take_qls,take_els,setAll])|simp (disch:=omega) only [lE,seval,pa_els,pa_qls,renL_els,renL_qls,els_len,qls_len,take_qls,take_els,setAll])
  all_goals
   simp only [mfQ,lA,seval]
   repeat' (first|(with_reducible first|(apply St.o;constructor)<;>intro _|refine And.intro (by omega) ?_|(apply Sq.o;constructor))|simp (disch:=omega) only [lE,seval])
   exact keep_b rfl
 by_cases hl2:lightB db q 10=true
 case neg =>
  have hl2:lightB db q 10=false:=by simpa using hl2
  rw [hl] at h9
  rw [hl2] at h9'
  repeat' (first|(with_reducible first|(apply St.o;constructor)<;>intro _|refine And.intro (by omega) ?_|(apply Sq.o;constructor))|((with_reducible apply Sc.o false;constructor);simp only [lP,seval,pa_els,pa_qls,renL_els,renL_qls,els_len,qls_len,take_qls,take_els,setAll];(first|refine ⟨_,h9,?_⟩|refine ⟨_,h9',?_⟩|refine ⟨_,c13,?_⟩);rintro _ _ ⟨rfl,rfl⟩;simp only [lA,lP,seval,pa_els,pa_qls,renL_els,renL_qls,els_len,qls_len,take_qls,take_els,setAll])|simp (disch:=omega) only [lE,seval,pa_els,pa_qls,renL_els,renL_qls,els_len,qls_len,take_qls,take_els,setAll])
  all_goals
   simp only [mfQ,lA,seval]
   repeat' (first|(with_reducible first|(apply St.o;constructor)<;>intro _|refine And.intro (by omega) ?_|(apply Sq.o;constructor))|simp (disch:=omega) only [lE,seval])
   exact keep_b rfl
 rw [hl] at h9
 rw [hl2] at h9'
 have hdb:=light_ok (by omega) hl
 repeat' (first|(with_reducible first|(apply St.o;constructor)<;>intro _|refine And.intro (by omega) ?_|(apply Sq.o;constructor))|((with_reducible apply Sc.o false;constructor);simp only [lP,seval,pa_els,pa_qls,renL_els,renL_qls,els_len,qls_len,take_qls,take_els,setAll];(first|refine ⟨_,h9,?_⟩|refine ⟨_,h9',?_⟩|refine ⟨_,k10 p,?_⟩|refine ⟨_,k10 q,?_⟩|refine ⟨_,k11 p,?_⟩|refine ⟨_,k11 q,?_⟩|refine ⟨_,k12 on,?_⟩|refine ⟨_,c13,?_⟩);rintro _ _ ⟨rfl,rfl⟩;simp only [lA,lP,seval,pa_els,pa_qls,renL_els,renL_qls,els_len,qls_len,take_qls,take_els,setAll])|simp (disch:=omega) only [lE,seval,pa_els,pa_qls,renL_els,renL_qls,els_len,qls_len,take_qls,take_els,setAll])
 all_goals first
  | (refine mf_go ?_)
  | (simp only [mfQ,lA,seval]
     repeat' (first|(with_reducible first|(apply St.o;constructor)<;>intro _|refine And.intro (by omega) ?_|(apply Sq.o;constructor))|simp (disch:=omega) only [lE,seval])
     exact keep_b rfl)
 have hcol:∀ t ∈ db.map DA.t,t.cols.length≤1000000:=fun t ht=>by obtain ⟨d,hd,rfl⟩:=List.mem_map.1 ht;exact hdb.cols d hd
 have hlen:=hdb.len
 have k17:=c17 db hlen
 have k18p:=k18 (db.map DA.t) hcol p hp
 have k18q:=k18 (db.map DA.t) hcol q hq
 have okj:=ok_join ho hp hq
 have k18j:=k18 (db.map DA.t) hcol (joinQ on p q) okj
 have la:=schema_len hcol p
 have lb:=schema_len hcol q
 refine mf_cut [(0,.view 5 (db.map DA.av)),(4,.int .i64 third),(6,.op 0 0),(7,.op 1 0),(8,.op 2 0),(11,.view 4 ((db.map DA.t).map TB.av))] [.box p.ls,.box q.ls,.box on.ls] ?_ ?_
 · repeat' (first|(with_reducible first|(apply St.o;constructor)<;>intro _|refine And.intro (by omega) ?_|(apply Sq.o;constructor))|((with_reducible apply Sc.o false;constructor);simp only [lP,seval,pa_els,pa_qls,renL_els,renL_qls,els_len,qls_len,take_qls,take_els,setAll];refine ⟨_,k17,?_⟩;rintro _ _ ⟨rfl,rfl⟩;simp only [lA,lP,seval,pa_els,pa_qls,renL_els,renL_qls,els_len,qls_len,take_qls,take_els,setAll])|simp (disch:=omega) only [lE,seval,pa_els,pa_qls,renL_els,renL_qls,els_len,qls_len,take_qls,take_els,setAll])
   all_goals first
    | exact (ent [0,1,2] true (by simp only [lP,seval,pa_els,pa_qls]<;>(try simp)<;>(try omega)) (by simp only [lP,seval,pa_els,pa_qls]<;>(try simp)<;>(try omega)))
    | exact ⟨rfl,(ent [0,1,2] true (by simp only [lP,seval,pa_els,pa_qls]<;>(try simp)<;>(try omega)) (by simp only [lP,seval,pa_els,pa_qls]<;>(try simp)<;>(try omega)))⟩
 refine mf_cut [(0,.view 5 (db.map DA.av)),(4,.int .i64 third),(6,.op 0 0),(7,.op 1 0),(8,.op 2 0),(11,.view 4 ((db.map DA.t).map TB.av)),(12,ksV (schema (db.map DA.t) p).1),(13,.int .i64 (schema (db.map DA.t) p).2)] [.box p.ls,.box q.ls,.box on.ls] ?_ ?_
 · repeat' (first|(with_reducible first|(apply St.o;constructor)<;>intro _|refine And.intro (by omega) ?_|(apply Sq.o;constructor))|((with_reducible apply Sc.o false;constructor);simp only [lP,seval,pa_els,pa_qls,renL_els,renL_qls,els_len,qls_len,take_qls,take_els,setAll];refine ⟨_,k18p,?_⟩;rintro _ _ ⟨rfl,rfl⟩;simp only [lA,lP,seval,pa_els,pa_qls,renL_els,renL_qls,els_len,qls_len,take_qls,take_els,setAll])|simp (disch:=omega) only [lE,seval,pa_els,pa_qls,renL_els,renL_qls,els_len,qls_len,take_qls,take_els,setAll])
   all_goals first
    | exact (ent [0,1,2] true (by simp only [lP,seval,pa_els,pa_qls]<;>(try simp)<;>(try omega)) (by simp only [lP,seval,pa_els,pa_qls]<;>(try simp)<;>(try omega)))
    | exact ⟨rfl,(ent [0,1,2] true (by simp only [lP,seval,pa_els,pa_qls]<;>(try simp)<;>(try omega)) (by simp only [lP,seval,pa_els,pa_qls]<;>(try simp)<;>(try omega)))⟩
 refine mf_cut [(0,.view 5 (db.map DA.av)),(4,.int .i64 third),(6,.op 0 0),(7,.op 1 0),(8,.op 2 0),(11,.view 4 ((db.map DA.t).map TB.av)),(12,ksV (schema (db.map DA.t) p).1),(13,.int .i64 (schema (db.map DA.t) p).2),(14,ksV (schema (db.map DA.t) q).1),(15,.int .i64 (schema (db.map DA.t) q).2)] [.box p.ls,.box q.ls,.box on.ls] ?_ ?_
 · repeat' (first|(with_reducible first|(apply St.o;constructor)<;>intro _|refine And.intro (by omega) ?_|(apply Sq.o;constructor))|((with_reducible apply Sc.o false;constructor);simp only [lP,seval,pa_els,pa_qls,renL_els,renL_qls,els_len,qls_len,take_qls,take_els,setAll];refine ⟨_,k18q,?_⟩;rintro _ _ ⟨rfl,rfl⟩;simp only [lA,lP,seval,pa_els,pa_qls,renL_els,renL_qls,els_len,qls_len,take_qls,take_els,setAll])|simp (disch:=omega) only [lE,seval,pa_els,pa_qls,renL_els,renL_qls,els_len,qls_len,take_qls,take_els,setAll])
   all_goals first
    | exact (ent [0,1,2] true (by simp only [lP,seval,pa_els,pa_qls]<;>(try simp)<;>(try omega)) (by simp only [lP,seval,pa_els,pa_qls]<;>(try simp)<;>(try omega)))
    | exact ⟨rfl,(ent [0,1,2] true (by simp only [lP,seval,pa_els,pa_qls]<;>(try simp)<;>(try omega)) (by simp only [lP,seval,pa_els,pa_qls]<;>(try simp)<;>(try omega)))⟩
 refine mf_cut [(0,.view 5 (db.map DA.av)),(4,.int .i64 third),(6,.op 0 0),(7,.op 1 0),(8,.op 2 0),(12,ksV (schema (db.map DA.t) p).1),(13,.int .i64 (schema (db.map DA.t) p).2),(14,ksV (schema (db.map DA.t) q).1),(15,.int .i64 (schema (db.map DA.t) q).2),(17,.int .i64 (schema (db.map DA.t) (joinQ on p q)).2)] [.box p.ls,.box q.ls,.box on.ls] ?_ ?_
 · repeat' (first|(with_reducible first|(apply St.o;constructor)<;>intro _|refine And.intro (by omega) ?_|(apply Sq.o;constructor))|((with_reducible apply Sc.o false;constructor);simp only [lP,seval,pa_els,pa_qls,renL_els,renL_qls,els_len,qls_len,take_qls,take_els,setAll];(first|refine ⟨_,k21 _ _ _,?_⟩|refine ⟨_,k18j,?_⟩);rintro _ _ ⟨rfl,rfl⟩;simp only [lA,lP,seval,pa_els,pa_qls,renL_els,renL_qls,els_len,qls_len,take_qls,take_els,setAll])|simp (disch:=omega) only [lE,seval,pa_els,pa_qls,renL_els,renL_qls,els_len,qls_len,take_qls,take_els,setAll])
   all_goals first
    | exact (ent [0,1,2] true (by simp only [lP,seval,pa_els,pa_qls]<;>(try simp)<;>(try omega)) (by simp only [lP,seval,pa_els,pa_qls]<;>(try simp)<;>(try omega)))
    | exact ⟨rfl,(ent [0,1,2] true (by simp only [lP,seval,pa_els,pa_qls]<;>(try simp)<;>(try omega)) (by simp only [lP,seval,pa_els,pa_qls]<;>(try simp)<;>(try omega)))⟩
 by_cases ha:(schema (db.map DA.t) p).2=0
 case neg =>
  refine mf_i ?_
  repeat' (first|(with_reducible first|(apply St.o;constructor)<;>intro _|refine And.intro (by omega) ?_|(apply Sq.o;constructor))|((with_reducible apply Sc.o false;constructor);simp only [lP,seval,ha,decide_not,decide_true,decide_false,Bool.not_false,Bool.not_true];refine ⟨_,c13,?_⟩;rintro _ _ ⟨rfl,rfl⟩;simp only [lA,lP,seval,ha,decide_not,decide_true,decide_false,Bool.not_false,Bool.not_true])|simp (disch:=omega) only [lE,seval,ha,decide_not,decide_true,decide_false,Bool.not_false,Bool.not_true])
  all_goals
   simp only [mfQ,lA,seval]
   repeat' (first|(with_reducible first|(apply St.o;constructor)<;>intro _|refine And.intro (by omega) ?_|(apply Sq.o;constructor))|simp (disch:=omega) only [lE,seval])
   exact keep_b rfl
 by_cases hb:(schema (db.map DA.t) q).2=0
 case neg =>
  refine mf_i ?_
  repeat' (first|(with_reducible first|(apply St.o;constructor)<;>intro _|refine And.intro (by omega) ?_|(apply Sq.o;constructor))|((with_reducible apply Sc.o false;constructor);simp only [lP,seval,ha,hb,decide_not,decide_true,decide_false,Bool.not_false,Bool.not_true];refine ⟨_,c13,?_⟩;rintro _ _ ⟨rfl,rfl⟩;simp only [lA,lP,seval,ha,hb,decide_not,decide_true,decide_false,Bool.not_false,Bool.not_true])|simp (disch:=omega) only [lE,seval,ha,hb,decide_not,decide_true,decide_false,Bool.not_false,Bool.not_true])
  all_goals
   simp only [mfQ,lA,seval]
   repeat' (first|(with_reducible first|(apply St.o;constructor)<;>intro _|refine And.intro (by omega) ?_|(apply Sq.o;constructor))|simp (disch:=omega) only [lE,seval])
   exact keep_b rfl
 by_cases hj:(schema (db.map DA.t) (joinQ on p q)).2=0
 case neg =>
  refine mf_i ?_
  repeat' (first|(with_reducible first|(apply St.o;constructor)<;>intro _|refine And.intro (by omega) ?_|(apply Sq.o;constructor))|((with_reducible apply Sc.o false;constructor);simp only [lP,seval,ha,hb,hj,decide_not,decide_true,decide_false,Bool.not_false,Bool.not_true];refine ⟨_,c13,?_⟩;rintro _ _ ⟨rfl,rfl⟩;simp only [lA,lP,seval,ha,hb,hj,decide_not,decide_true,decide_false,Bool.not_false,Bool.not_true])|simp (disch:=omega) only [lE,seval,ha,hb,hj,decide_not,decide_true,decide_false,Bool.not_false,Bool.not_true])
  all_goals
   simp only [mfQ,lA,seval]
   repeat' (first|(with_reducible first|(apply St.o;constructor)<;>intro _|refine And.intro (by omega) ?_|(apply Sq.o;constructor))|simp (disch:=omega) only [lE,seval])
   exact keep_b rfl
 refine mf_i ?_
 repeat' (first|(with_reducible first|(apply St.o;constructor)<;>intro _|refine And.intro (by omega) ?_|(apply Sq.o;constructor))|((with_reducible apply Sc.o false;constructor);simp only [lP,seval,ha,hb,hj,decide_not,decide_true,decide_false,Bool.not_false,Bool.not_true];refine ⟨_,c13,?_⟩;rintro _ _ ⟨rfl,rfl⟩;simp only [lA,lP,seval,ha,hb,hj,decide_not,decide_true,decide_false,Bool.not_false,Bool.not_true])|simp (disch:=omega) only [lE,seval,ha,hb,hj,decide_not,decide_true,decide_false,Bool.not_false,Bool.not_true])
 refine mf_go ?_
 have kA:=k32 db hdb (joinQ on p q) okj
 refine mf_cut [(0,.view 5 (db.map DA.av)),(4,.int .i64 third),(6,.op 0 0),(7,.op 1 0),(8,.op 2 0),(12,ksV (schema (db.map DA.t) p).1),(14,ksV (schema (db.map DA.t) q).1),(18,rwsV (meaning db (joinQ on p q)).1),(19,.int .i64 (meaning db (joinQ on p q)).2)] [.box p.ls,.box q.ls,.box on.ls] ?_ ?_
 · repeat' (first|(with_reducible first|(apply St.o;constructor)<;>intro _|refine And.intro (by omega) ?_|(apply Sq.o;constructor))|((with_reducible apply Sc.o false;constructor);simp only [lP,seval,pa_els,pa_qls,renL_els,renL_qls,els_len,qls_len,take_qls,take_els,setAll];(first|refine ⟨_,k21 _ _ _,?_⟩|refine ⟨_,kA,?_⟩);rintro _ _ ⟨rfl,rfl⟩;simp only [lA,lP,seval,pa_els,pa_qls,renL_els,renL_qls,els_len,qls_len,take_qls,take_els,setAll])|simp (disch:=omega) only [lE,seval,pa_els,pa_qls,renL_els,renL_qls,els_len,qls_len,take_qls,take_els,setAll])
   all_goals first
    | exact (ent [0,1,2] true (by simp only [lP,seval,pa_els,pa_qls]<;>(try simp)<;>(try omega)) (by simp only [lP,seval,pa_els,pa_qls]<;>(try simp)<;>(try omega)))
    | exact ⟨rfl,(ent [0,1,2] true (by simp only [lP,seval,pa_els,pa_qls]<;>(try simp)<;>(try omega)) (by simp only [lP,seval,pa_els,pa_qls]<;>(try simp)<;>(try omega)))⟩
 obtain ⟨w,hw⟩:∃ w,w=on.cm (tuI (schema (db.map DA.t) p).1.length (schema (db.map DA.t) q).1.length):=⟨_,rfl⟩
 have k33':=k33 (schema (db.map DA.t) p).1.length (schema (db.map DA.t) q).1.length on (chk_ok (truthE_ok (sch_truth (schema_ok hj).2.2.1))).1
 rw [← hw] at k33'
 have how:w.okI:=by rw [hw];exact okI_cm _ on ho
 have kB:=k32 db hdb (joinQ w q p) (ok_join how hq hp)
 refine mf_cut [(0,.view 5 (db.map DA.av)),(4,.int .i64 third),(6,.op 0 0),(7,.op 1 0),(8,.op 2 0),(12,ksV (schema (db.map DA.t) p).1),(18,rwsV (meaning db (joinQ on p q)).1),(19,.int .i64 (meaning db (joinQ on p q)).2),(20,rwsV (meaning db (joinQ w q p)).1),(21,.int .i64 (meaning db (joinQ w q p)).2)] [.box p.ls,.box q.ls,.box on.ls] ?_ ?_
 · repeat' (first|(with_reducible first|(apply St.o;constructor)<;>intro _|refine And.intro (by omega) ?_|(apply Sq.o;constructor))|((with_reducible apply Sc.o false;constructor);simp only [lP,seval,pa_els,pa_qls,renL_els,renL_qls,els_len,qls_len,take_qls,take_els,setAll,List.length_map];(first|refine ⟨_,k33',?_⟩|refine ⟨_,k21 _ _ _,?_⟩|refine ⟨_,kB,?_⟩);rintro _ _ ⟨rfl,rfl⟩;simp only [lA,lP,seval,pa_els,pa_qls,renL_els,renL_qls,els_len,qls_len,take_qls,take_els,setAll,List.length_map])|simp (disch:=omega) only [lE,seval,pa_els,pa_qls,renL_els,renL_qls,els_len,qls_len,take_qls,take_els,setAll,List.length_map])
   all_goals first
    | exact (ent [0,1,2] true (by simp only [lP,seval,pa_els,pa_qls]<;>(try simp)<;>(try omega)) (by simp only [lP,seval,pa_els,pa_qls]<;>(try simp)<;>(try omega)))
    | exact ⟨rfl,(ent [0,1,2] true (by simp only [lP,seval,pa_els,pa_qls]<;>(try simp)<;>(try omega)) (by simp only [lP,seval,pa_els,pa_qls]<;>(try simp)<;>(try omega)))⟩
 have hM1:(meaning db (joinQ on p q)).1.length≤4000:=by
  unfold meaning;split
  · simp
  · exact run_len db _
 have hW1:(meaning db (joinQ w q p)).1.length≤4000:=by
  unfold meaning;split
  · simp
  · exact run_len db _
 have hMW:(meaning db (joinQ w q p)).2=0↔(meaning db (joinQ on p q)).2=0:=⟨fun h=>turn_from hdb.right ha hb hj hw h,fun h=>(turn_to hdb.right ha hb hj hw h).1⟩
 have hrl:∀ r ∈ (meaning db (joinQ on p q)).1,r.length=(schema (db.map DA.t) p).1.length+(schema (db.map DA.t) q).1.length:=by
  by_cases h:(meaning db (joinQ on p q)).2=0
  · exact (turn_to hdb.right ha hb hj hw h).2.2
  · have:(meaning db (joinQ on p q)).1=[]:=by
     unfold meaning at h ⊢
     split
     · rfl
     · rename_i h1
       rw [if_neg h1] at h
       exact run_err db _ h
    rw [this];simp
 have hbag:(meaning db (joinQ on p q)).2=0→eqC (sortL ((meaning db (joinQ on p q)).1.map fun r=>r.drop (schema (db.map DA.t) p).1.length++r.take (schema (db.map DA.t) p).1.length)) (sortL (meaning db (joinQ w q p)).1)=true:=fun h =>
  eqC_iff.2 ((bag_iff _ _).2 (turn_to hdb.right ha hb hj hw h).2.1)
 have hthree:∀ t:QY,sameR db (joinQ yesX (joinQ on p q) t) (joinQ on p (joinQ yesX q t))=true:=fun t=>sameR_i fun x y=>turn_three hdb.right ha hb hj x y
 generalize hks:(schema (db.map DA.t) p).1=ks at *
 have hks2:ks.length≤1000000000:=la
 generalize (meaning db (joinQ on p q)).1=rows at *
 generalize (meaning db (joinQ on p q)).2=er at *
 generalize (meaning db (joinQ w q p)).1=bk at *
 generalize (meaning db (joinQ w q p)).2=er2 at *
 have hdd:decide (er2=0)=decide (er=0):=by simp [hMW]
 refine mf_i ?_
 repeat' (first|(with_reducible first|(apply St.o;constructor)<;>intro _|refine And.intro (by omega) ?_|(apply Sq.o;constructor))|simp (disch:=omega) only [lE,seval,hdd,bne_self_eq_false,Bool.not_true,Bool.not_false])
 refine mf_go (mf_i ?_)
 repeat' (first|(with_reducible first|(apply St.o;constructor)<;>intro _|refine And.intro (by omega) ?_|(apply Sq.o;constructor))|simp (disch:=omega) only [lE,seval])
 refine mf_go ?_
 refine mf_cut [(0,.view 5 (db.map DA.av)),(4,.int .i64 third),(6,.op 0 0),(7,.op 1 0),(8,.op 2 0),(19,.int .i64 er),(20,rwsV bk),(22,rwsV (rows.map fun r=>r.drop ks.length++r.take ks.length))] [.box p.ls,.box q.ls,.box on.ls] ?_ ?_
 · repeat' (first|(with_reducible first|(apply St.o;constructor)<;>intro _|refine And.intro (by omega) ?_|(apply Sq.o;constructor))|simp (disch:=omega) only [lE,seval,List.length_map])
   refine loop_i (fun j:Nat=>j≤rows.length) (fun j=>⟨[(0,.view 5 (db.map DA.av)),(4,.int .i64 third),(6,.op 0 0),(7,.op 1 0),(8,.op 2 0),(12,ksV ks),(19,.int .i64 er),(20,rwsV bk),(22,.slc 3 1 j),(123,rwsV rows),(124,.int .i64 rows.length),(125,.int .i64 j)],[.box p.ls,.box q.ls,.box on.ls,.arr 69 1 (((rows.take j).map fun r=>r.drop ks.length++r.take ks.length).map rowV)]⟩) (fun j=>rows.length - j) 0 (by omega) (Ent.ghost' 22 69 1 (by omega) rfl (ent [0,1,2,3] false (by simp only [lP,seval,pa_els,pa_qls]<;>(try simp)<;>(try omega)) (by simp only [lP,seval,pa_els,pa_qls]<;>(try simp)<;>(try omega)))) ?_
   intro j hj
   by_cases hin:j<rows.length
   · have hlt:((j:Int)<(rows.length:Int)):=by omega
     have hr:=hrl (rows.getD j default) (by simp [hin])
     have ht:(rows.take j).length=j:=by simp;omega
     generalize hx:rows.getD j default=x at *
     repeat' (first|(with_reducible first|(apply St.o;constructor)<;>intro _|refine And.intro (by omega) ?_|(apply Sq.o;constructor))|with_reducible refine any_i [3] ?_|simp (disch:=omega) only [lE,seval,hx,ht,hr,IdxR_rows,fillE,Int.toNat_natCast,List.length_map,List.length_drop,List.length_take,hlt,decide_true])
     have hL:ks.length+(schema (db.map DA.t) q).1.length - ks.length+min ks.length (ks.length+(schema (db.map DA.t) q).1.length)=(x.drop ks.length++x.take ks.length).length:=by rw [List.length_append,List.length_drop,List.length_take,hr]
     have hS:((rows.take (j+1)).map fun r=>r.drop ks.length++r.take ks.length).map rowV=((rows.take j).map fun r=>r.drop ks.length++r.take ks.length).map rowV++[.view 3 ((x.drop ks.length++x.take ks.length).map VL.av)]:=by
      rw [List.take_succ_eq_append_getElem hin,List.map_append,List.map_append]
      have:rows[j]=x:=by rw [← hx];simp [hin]
      rw [this];rfl
     all_goals
      simp only [hL,← List.map_drop,← List.map_take,← List.map_append]
      refine back_i (j+1) (by omega) (by omega) ?_
      rw [hS]
      generalize (rows.take j).map (fun r=>r.drop ks.length++r.take ks.length)=wt at *
      generalize x.drop ks.length++x.take ks.length=y at *
      exact (ent [0,1,2,8] true (by simp only [lP,seval,pa_els,pa_qls,pa_rows,vw_rows,vw_vls,List.map_append,List.length_map,List.take_length]<;>(try simp)<;>(try omega)) (by simp only [lP,seval,pa_els,pa_qls,pa_rows,vw_rows,vw_vls,List.map_append,List.length_map,List.take_length]<;>(try simp)<;>(try omega)))
   · obtain rfl:j=rows.length:=by omega
     repeat' (first|(with_reducible first|(apply St.o;constructor)<;>intro _|refine And.intro (by omega) ?_|(apply Sq.o;constructor))|simp (disch:=omega) only [lE,seval,List.length_map,Int.lt_irrefl,decide_false,List.take_length])
     all_goals
      have hwl:(rows.map fun r=>r.drop ks.length++r.take ks.length).length=rows.length:=by simp
      generalize (rows.map fun r=>r.drop ks.length++r.take ks.length)=wt at *
      first
       | exact (ent [0,1,2] true (by simp only [lP,seval,pa_els,pa_qls,vw_rows,List.length_map,hwl]<;>(try simp)<;>(try omega)) (by simp only [lP,seval,pa_els,pa_qls,vw_rows,List.length_map,hwl]<;>(try simp)<;>(try omega)))
       | exact ⟨rfl,(ent [0,1,2] true (by simp only [lP,seval,pa_els,pa_qls,vw_rows,List.length_map,hwl]<;>(try simp)<;>(try omega)) (by simp only [lP,seval,pa_els,pa_qls,vw_rows,List.length_map,hwl]<;>(try simp)<;>(try omega)))⟩
 have h30:=c30 (rows.map fun r=>r.drop ks.length++r.take ks.length) bk (by simp;omega) (by omega)
 refine mf_cut [(0,.view 5 (db.map DA.av)),(4,.int .i64 third),(6,.op 0 0),(7,.op 1 0),(8,.op 2 0)] [.box p.ls,.box q.ls,.box on.ls] ?_ ?_
 · by_cases her:er=0
   · rw [hbag her] at h30
     repeat' (first|(with_reducible first|(apply St.o;constructor)<;>intro _|refine And.intro (by omega) ?_|(apply Sq.o;constructor))|((with_reducible apply Sc.o false;constructor);simp only [lP,seval,her,decide_true,Bool.not_true];refine ⟨_,h30,?_⟩;rintro _ _ ⟨rfl,rfl⟩;simp only [lA,lP,seval,her,decide_true,Bool.not_true])|simp (disch:=omega) only [lE,seval,her,decide_true,Bool.not_true])
     all_goals first
      | exact (ent [0,1,2] true (by simp only [lP,seval,pa_els,pa_qls]<;>(try simp)<;>(try omega)) (by simp only [lP,seval,pa_els,pa_qls]<;>(try simp)<;>(try omega)))
      | exact ⟨rfl,(ent [0,1,2] true (by simp only [lP,seval,pa_els,pa_qls]<;>(try simp)<;>(try omega)) (by simp only [lP,seval,pa_els,pa_qls]<;>(try simp)<;>(try omega)))⟩
   · repeat' (first|(with_reducible first|(apply St.o;constructor)<;>intro _|refine And.intro (by omega) ?_|(apply Sq.o;constructor))|simp (disch:=omega) only [lE,seval,her,decide_false])
     all_goals first
      | exact (ent [0,1,2] true (by simp only [lP,seval,pa_els,pa_qls]<;>(try simp)<;>(try omega)) (by simp only [lP,seval,pa_els,pa_qls]<;>(try simp)<;>(try omega)))
      | exact ⟨rfl,(ent [0,1,2] true (by simp only [lP,seval,pa_els,pa_qls]<;>(try simp)<;>(try omega)) (by simp only [lP,seval,pa_els,pa_qls]<;>(try simp)<;>(try omega)))⟩
 refine mf_i ?_
 repeat' (first|(with_reducible first|(apply St.o;constructor)<;>intro _|refine And.intro (by omega) ?_|(apply Sq.o;constructor))|((with_reducible apply Sc.o false;constructor);simp only [lP,seval,List.length_map];refine ⟨_,c13,?_⟩;rintro _ _ ⟨rfl,rfl⟩;simp only [lA,lP,seval,List.length_map])|simp (disch:=omega) only [lE,seval,List.length_map])
 all_goals first
  | (refine mf_go ?_)
  | (simp only [mfQ,lA,seval]
     repeat' (first|(with_reducible first|(apply St.o;constructor)<;>intro _|refine And.intro (by omega) ?_|(apply Sq.o;constructor))|simp (disch:=omega) only [lE,seval])
     exact keep_b rfl)
 rename_i ht0 hd0
 have hdl:(0:Int)<db.length:=by omega
 have hix0:0≤third.tmod db.length:=Int.tmod_nonneg _ (by omega)
 have hix1:third.tmod db.length<db.length:=Int.tmod_lt_of_pos _ hdl
 obtain ⟨nm,hnm⟩:∃ nm,nm=(db.getD (third.tmod db.length).toNat default).t.name:=⟨_,rfl⟩
 have hnz:¬ (db.length:Int)=0:=by omega
 refine mf_cut [(0,.view 5 (db.map DA.av)),(6,.op 0 0),(7,.op 1 0),(8,.op 2 0),(25,.op 3 0)] [.box p.ls,.box q.ls,.box on.ls,.box (scanQ nm).ls] ?_ ?_
 · repeat' (first|(with_reducible first|(apply St.o;constructor)<;>intro _|refine And.intro (by omega) ?_|(apply Sq.o;constructor))|((with_reducible apply Sc.o false;constructor);simp only [lP,seval,IdxR_das,DA.cs,hnm,List.length_map,hnz,hix0,hix1,not_false_eq_true,pa_els,pa_qls,renL_els,renL_qls,els_len,qls_len,take_qls,take_els,setAll];refine ⟨_,k34 _,?_⟩;rintro _ _ ⟨rfl,rfl⟩;simp only [lA,lP,seval,IdxR_das,DA.cs,hnm,List.length_map,hnz,hix0,hix1,not_false_eq_true,pa_els,pa_qls,renL_els,renL_qls,els_len,qls_len,take_qls,take_els,setAll])|simp (disch:=omega) only [lE,seval,IdxR_das,DA.cs,hnm,List.length_map,hnz,hix0,hix1,not_false_eq_true,pa_els,pa_qls,renL_els,renL_qls,els_len,qls_len,take_qls,take_els,setAll])
   all_goals first
    | exact (ent [0,1,2,3] true (by simp only [lP,seval,pa_els,pa_qls]<;>(try simp)<;>(try omega)) (by simp only [lP,seval,pa_els,pa_qls]<;>(try simp)<;>(try omega)))
    | exact ⟨rfl,(ent [0,1,2,3] true (by simp only [lP,seval,pa_els,pa_qls]<;>(try simp)<;>(try omega)) (by simp only [lP,seval,pa_els,pa_qls]<;>(try simp)<;>(try omega)))⟩
 have k35:=c35 true
 have hx35:(VL.ofB true).av=.agg [.int .i64 3,.int .i64 1,.str ⟨#[]⟩]:=rfl
 rw [hx35] at k35
 refine mf_cut [(0,.view 5 (db.map DA.av)),(6,.op 0 0),(7,.op 1 0),(8,.op 2 0),(25,.op 3 0),(26,.op 4 0)] [.box p.ls,.box q.ls,.box on.ls,.box (scanQ nm).ls,.box yesW] ?_ ?_
 · repeat' (first|(with_reducible first|(apply St.o;constructor)<;>intro _|refine And.intro (by omega) ?_|(apply Sq.o;constructor))|((with_reducible apply Sc.o false;constructor);simp only [lP,seval,pa_els,pa_qls,renL_els,renL_qls,els_len,qls_len,take_qls,take_els,setAll];refine ⟨_,k35,?_⟩;rintro _ _ ⟨rfl,rfl⟩;simp only [lA,lP,seval,pa_els,pa_qls,renL_els,renL_qls,els_len,qls_len,take_qls,take_els,setAll])|simp (disch:=omega) only [lE,seval,pa_els,pa_qls,renL_els,renL_qls,els_len,qls_len,take_qls,take_els,setAll])
   all_goals first
    | exact (ent [0,1,2,3,4] true (by simp only [lP,seval,pa_els,pa_qls]<;>(try simp)<;>(try omega)) (by simp only [lP,seval,pa_els,pa_qls]<;>(try simp)<;>(try omega)))
    | exact ⟨rfl,(ent [0,1,2,3,4] true (by simp only [lP,seval,pa_els,pa_qls]<;>(try simp)<;>(try omega)) (by simp only [lP,seval,pa_els,pa_qls]<;>(try simp)<;>(try omega)))⟩
 have okt:=ok_scan nm
 have s1:=k15 hdb (ok_join okI_yes okj okt) (ok_join ho hp (ok_join okI_yes hq okt)) (hthree (scanQ nm))
 refine mf_i ?_
 repeat' (first|(with_reducible first|(apply St.o;constructor)<;>intro _|refine And.intro (by omega) ?_|(apply Sq.o;constructor))|((with_reducible apply Sc.o false;constructor);simp only [lP,seval,pa_els,pa_qls,renL_els,renL_qls,els_len,qls_len,take_qls,take_els,setAll];(first|refine ⟨_,c13,?_⟩|refine ⟨_,k21y _ _,?_⟩|refine ⟨_,k21 _ _ _,?_⟩|refine ⟨_,s1,?_⟩);rintro _ _ ⟨rfl,rfl⟩;simp only [lA,lP,seval,pa_els,pa_qls,renL_els,renL_qls,els_len,qls_len,take_qls,take_els,setAll])|simp (disch:=omega) only [lE,seval,pa_els,pa_qls,renL_els,renL_qls,els_len,qls_len,take_qls,take_els,setAll])
 all_goals
  refine mf_go (mf_last ?_)
  simp only [lA,seval]
  repeat' (first|(with_reducible first|(apply St.o;constructor)<;>intro _|refine And.intro (by omega) ?_|(apply Sq.o;constructor))|simp (disch:=omega) only [lE,seval])
  exact keep_b rfl
end Go.Proofs.Try
