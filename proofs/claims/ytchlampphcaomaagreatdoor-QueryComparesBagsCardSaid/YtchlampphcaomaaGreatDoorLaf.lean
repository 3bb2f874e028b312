/-
 A part of the proof: see the text of the law.
-/
import Derived.Test.YtchlampphcaomaaGreatDoorLae
set_option linter.unusedSimpArgs false
set_option linter.unusedVariables false
namespace Go.Proofs.Try
open Go.Proofs.Tryz
open Go.Al
set_option maxRecDepth 100000
def mc6:MC:=(.seq (.ops [pZ 4]) (.seq (.seq (.ops [pM 8 0,pG 9 8,(none,.v (.bin 10 .gtr false (.t 9) (.c (.int .i64 40)))),pM 11 10,gF 11 (oM 12 1),gF 11 (oG 13 12),(some (11,false),.v (.bin 14 .gtr false (.t 13) (.c (.int .i64 40)))),pO 15 11 14]) (.cond 15 (.seq (.ops [(none,.e (.call (some 16) 13 [])),pM 4 16]) .ret) .skip)) (.seq (.ops [pY 5]) (.seq (.seq (.ops [pM 17 0,pG 18 17,pI 19 0]) (.block 0 (.loop (.seq (.ops [pB 20 19 18]) (.seq (.cond 20 .skip (.exit 0)) (.seq (.block 1 (.seq (.ops [pM 21 19,pM 6 21]) (.seq (.seq (.ops [pM 22 0,pM 23 6,pQ 24 1 22 23,pL 25 24,pV 26 29 25,pN 27 26]) (.cond 27 (.seq (.ops [(none,.e (.call (some 28) 13 [])),pM 4 28]) .ret) .skip)) (.ops [pM 29 5,pM 30 0,pM 31 0,pG 32 31,(none,.v (.bin 33 .sub false (.t 32) (.c (.int .i64 1)))),pM 34 6,(none,.v (.bin 35 .sub false (.t 33) (.t 34))),pQ 36 1 30 35,pL 37 36,(none,.e (.mkl 38 69 1 1 (.raw (.slice none 0 0)) [(0,.t 37)])),(none,.e (.app 39 69 1 24 (.t 29) (.t 38))),pM 5 39])))) (.ops [pA 40 19 1,pM 19 40]))))))) (.seq (.seq (.ops [pM 41 1,pG 42 41,pI 43 0]) (.block 2 (.loop (.seq (.ops [pB 44 43 42]) (.seq (.cond 44 .skip (.exit 2)) (.seq (.block 3 (.seq (.ops [pM 45 43,pM 7 45]) (.seq (.ops [pM 46 1,pM 47 7,pQ 48 1 46 47,pL 49 48,pV 50 29 49,pN 51 50]) (.cond 51 (.seq (.ops [(none,.e (.call (some 52) 13 [])),pM 4 52]) .ret) .skip)))) (.ops [pA 53 43 1,pM 43 53]))))))) (.seq (.ops [(none,.e (.call (some 54) 13 [])),pM 55 54,gT 55 (oM 56 0),gT 55 (oM 57 1),gT 55 (oW 58 30 56 57),gT 55 (oM 59 0),gT 55 (oM 60 1),gT 55 (oW 61 31 59 60),(some (55,true),.v (.bin 62 .eql true (.t 58) (.t 61))),pP 63 55 62,pM 64 63,gT 64 (oM 65 0),gT 64 (oM 66 5),gT 64 (oW 67 30 65 66),pP 68 64 67,pM 69 68,gT 69 (oM 70 0),gT 69 (oG 71 70),gT 69 (oE 72 71 0),gT 69 (oM 73 72),gF 73 (oM 74 0),gF 73 (oM 75 0),(some (73,false),.p (.cut 76 1 (.t 75) (.c (.int .i64 1)) none)),gF 73 (oW 77 30 74 76),gF 73 (oN 78 77),gT 69 (oO 79 73 78),pP 80 69 79,pM 4 80]) .ret))))))
theorem ok6:FnOk E 6 81 [.tmp 4] mc6:=ofk func6
set_option maxRecDepth 20000
set_option maxHeartbeats 64000000
theorem rev_take {l:Rws} {i:Nat} (h:i<l.length):(l.reverse.take (i+1)).map rowV=(l.reverse.take i).map rowV++[rowV (l.getD (l.length - 1 - i) default)]:=by
 have hr:i<l.reverse.length:=by simpa using h
 rw [List.take_succ_eq_append_getElem hr,List.map_append]
 have h2:l.length - 1 - i<l.length:=by omega
 simp [List.getElem_reverse,h2]
theorem k13:ACalls E.P 13 [] [] (fun r H=>r=.bool true∧H=[]):=c13
theorem c6 (a b:Rws):ACalls E.P 6 [rowsV a,rowsV b] [] (fun r H=>r=.bool true∧H=[]):=by
 have hmax:=maxLen_eq
 refine ok6.acalls hE hm (by simp) fun N hN=>?_
 unfold mc6 pZ pM pG pO pY pI pB pQ pL pV pN pA pP gF gT oM oE oO oN oG oW
 simp only [lA,seval]
 repeat' (first|(with_reducible first|(apply St.o;constructor)<;>intro _|refine And.intro (by omega) ?_|(apply Sq.o;constructor))|((with_reducible apply Sc.o false;constructor);simp only [lP,seval,List.length_map];refine ⟨_,k13,?_⟩;rintro _ _ ⟨rfl,rfl⟩;simp only [lA,lP,seval,List.length_map])|simp (disch:=omega) only [lE,seval,List.length_map])
 all_goals first | exact keep_b rfl | skip
 rename_i ha hb
 have ha:a.length≤40:=by omega
 have hb:b.length≤40:=by omega
 have h29:=fun r=>c29 r
 refine loop_i (fun i:Nat=>i≤a.length) (fun i=>⟨[(0,rowsV a),(1,rowsV b),(5,.slc 0 1 i),(18,.int .i64 a.length),(19,.int .i64 i)],[.arr 69 1 ((a.reverse.take i).map rowV)]⟩) (fun i=>a.length - i) 0 (by omega) (Ent.ghost' 5 69 1 (by omega) rfl (ent [0] false)) ?_
 intro i hi
 have hlen:((a.reverse.take i).map rowV).length=i:=by simp;omega
 by_cases hin:i<a.length
 · have hlt:((i:Int)<(a.length:Int)):=by omega
   have hix:(a.length:Int) - 1 - i=((a.length - 1 - i:Nat):Int):=by omega
   have hk:=h29 (a.getD i default)
   repeat' (first|(with_reducible first|(apply St.o;constructor)<;>intro _|refine And.intro (by omega) ?_|(apply Sq.o;constructor))|((with_reducible apply Sc.o true;constructor);simp only [lP,seval,IdxR_rows,hix,Int.toNat_natCast,List.length_map,hlt,decide_true,hlen];refine ⟨_,hk,?_⟩;rintro _ _ ⟨rfl,rfl⟩;simp only [lA,lP,seval,IdxR_rows,hix,Int.toNat_natCast,List.length_map,hlt,decide_true,hlen])|((with_reducible apply Sc.o false;constructor);simp only [lP,seval,IdxR_rows,hix,Int.toNat_natCast,List.length_map,hlt,decide_true,hlen];refine ⟨_,k13,?_⟩;rintro _ _ ⟨rfl,rfl⟩;simp only [lA,lP,seval,IdxR_rows,hix,Int.toNat_natCast,List.length_map,hlt,decide_true,hlen])|simp (disch:=omega) only [lE,seval,IdxR_rows,hix,Int.toNat_natCast,List.length_map,hlt,decide_true,hlen])
   · exact keep_b rfl
   · refine back_i (i+1) (by omega) (by omega) ?_
     rw [rev_take hin]
     exact (ent [2] false (by simp only [lP,seval,hlen,pa_rows,List.map_append]<;>(try simp)<;>(try omega)) (by simp only [lP,seval,hlen,pa_rows,List.map_append]<;>(try simp)<;>(try omega)))
 · obtain rfl:i=a.length:=by omega
   have hrev:a.reverse.take a.length=a.reverse:=by rw [show a.length=a.reverse.length by simp,List.take_length]
   rw [hrev]
   repeat' (first|(with_reducible first|(apply St.o;constructor)<;>intro _|refine And.intro (by omega) ?_|(apply Sq.o;constructor))|simp (disch:=omega) only [lE,seval,List.length_map,Int.lt_irrefl,decide_false])
   have h30:=c30 a b (by omega) (by omega)
   have h31:=c31 a b (by omega) (by omega)
   have h30r:=c30 a a.reverse (by omega) (by simp;omega)
   have h30d:=c30 a (a.drop 1) (by omega) (by simp;omega)
   have er:eqC (sortL a) (sortL a.reverse)=true:=eqC_iff.2 ((bag_iff _ _).2 (List.reverse_perm a).symm)
   rw [er] at h30r
   have hrl:(a.reverse.map rowV).length=a.length:=by simp
   refine loop_i (fun i:Nat=>i≤b.length) (fun i=>⟨[(0,rowsV a),(1,rowsV b),(5,.slc 0 1 a.length),(42,.int .i64 b.length),(43,.int .i64 i)],[.arr 69 1 (a.reverse.map rowV)]⟩) (fun i=>b.length - i) 0 (by omega) (ent [0] false (by simp only [lP,seval,pa_rows]<;>(try simp)<;>(try omega)) (by simp only [lP,seval,pa_rows]<;>(try simp)<;>(try omega))) ?_
   intro j hj
   by_cases hjn:j<b.length
   · have hlt:((j:Int)<(b.length:Int)):=by omega
     have hk:=h29 (b.getD j default)
     repeat' (first|(with_reducible first|(apply St.o;constructor)<;>intro _|refine And.intro (by omega) ?_|(apply Sq.o;constructor))|((with_reducible apply Sc.o true;constructor);simp only [lP,seval,IdxR_rows,Int.toNat_natCast,List.length_map,hlt,decide_true];refine ⟨_,hk,?_⟩;rintro _ _ ⟨rfl,rfl⟩;simp only [lA,lP,seval,IdxR_rows,Int.toNat_natCast,List.length_map,hlt,decide_true])|((with_reducible apply Sc.o false;constructor);simp only [lP,seval,IdxR_rows,Int.toNat_natCast,List.length_map,hlt,decide_true];refine ⟨_,k13,?_⟩;rintro _ _ ⟨rfl,rfl⟩;simp only [lA,lP,seval,IdxR_rows,Int.toNat_natCast,List.length_map,hlt,decide_true])|simp (disch:=omega) only [lE,seval,IdxR_rows,Int.toNat_natCast,List.length_map,hlt,decide_true])
     · exact keep_b rfl
     · refine back_i (j+1) (by omega) (by omega) (ent [0] false (by simp only [lP,seval,pa_rows]<;>(try simp)<;>(try omega)) (by simp only [lP,seval,pa_rows]<;>(try simp)<;>(try omega)))
   · obtain rfl:j=b.length:=by omega
     by_cases h0:a.length=0
     · have h0':((a.length:Int)=0):=by omega
       repeat' (first|(with_reducible first|(apply St.o;constructor)<;>intro _|refine And.intro (by omega) ?_|(apply Sq.o;constructor))|((with_reducible apply Sc.o true;constructor);simp only [lP,seval,List.length_map,List.length_reverse,vw_rows,renL_rows,Int.lt_irrefl,decide_false,beq_self_eq_true,h0'];(first|refine ⟨_,h30,?_⟩|refine ⟨_,h31,?_⟩|refine ⟨_,h30r,?_⟩);rintro _ _ ⟨rfl,rfl⟩;simp only [lA,lP,seval,List.length_map,List.length_reverse,vw_rows,renL_rows,Int.lt_irrefl,decide_false,beq_self_eq_true,h0'])|((with_reducible apply Sc.o false;constructor);simp only [lP,seval,List.length_map,List.length_reverse,vw_rows,renL_rows,Int.lt_irrefl,decide_false,beq_self_eq_true,h0'];refine ⟨_,k13,?_⟩;rintro _ _ ⟨rfl,rfl⟩;simp only [lA,lP,seval,List.length_map,List.length_reverse,vw_rows,renL_rows,Int.lt_irrefl,decide_false,beq_self_eq_true,h0'])|simp (disch:=omega) only [lE,seval,List.length_map,List.length_reverse,vw_rows,renL_rows,Int.lt_irrefl,decide_false,beq_self_eq_true,h0'])
       all_goals exact keep_b rfl
     · have h0':¬ ((a.length:Int)=0):=by omega
       have ed:eqC (sortL a) (sortL (a.drop 1))=false:=eqC_false.2 fun h=>by
        have:=((bag_iff _ _).1 h).length_eq
        simp at this
        omega
       rw [ed] at h30d
       have h30d:ACalls E.P 30 [rowsV a,.view 1 ((a.map rowV).drop 1)] [] (fun r H=>r=.bool false∧H=[]):=by rw [← List.map_drop];exact h30d
       repeat' (first|(with_reducible first|(apply St.o;constructor)<;>intro _|refine And.intro (by omega) ?_|(apply Sq.o;constructor))|((with_reducible apply Sc.o true;constructor);simp only [lP,seval,List.length_map,List.length_reverse,List.length_drop,vw_rows,renL_rows,Int.lt_irrefl,decide_false,beq_self_eq_true,h0'];(first|refine ⟨_,h30,?_⟩|refine ⟨_,h31,?_⟩|refine ⟨_,h30r,?_⟩|refine ⟨_,h30d,?_⟩);rintro _ _ ⟨rfl,rfl⟩;simp only [lA,lP,seval,List.length_map,List.length_reverse,List.length_drop,vw_rows,renL_rows,Int.lt_irrefl,decide_false,beq_self_eq_true,h0'])|((with_reducible apply Sc.o false;constructor);simp only [lP,seval,List.length_map,List.length_reverse,List.length_drop,vw_rows,renL_rows,Int.lt_irrefl,decide_false,beq_self_eq_true,h0'];refine ⟨_,k13,?_⟩;rintro _ _ ⟨rfl,rfl⟩;simp only [lA,lP,seval,List.length_map,List.length_reverse,List.length_drop,vw_rows,renL_rows,Int.lt_irrefl,decide_false,beq_self_eq_true,h0'])|simp (disch:=omega) only [lE,seval,List.length_map,List.length_reverse,List.length_drop,vw_rows,renL_rows,Int.lt_irrefl,decide_false,beq_self_eq_true,h0'])
       all_goals exact keep_b rfl
end Go.Proofs.Try
