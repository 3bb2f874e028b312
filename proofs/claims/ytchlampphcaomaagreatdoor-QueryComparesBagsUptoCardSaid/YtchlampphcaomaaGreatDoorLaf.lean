/-
 A part of the proof: see the text of the law.
-/
import Derived.Test.YtchlampphcaomaaGreatDoorLae
set_option linter.unusedSimpArgs false
set_option linter.unusedVariables false
namespace Go.Proofs.Try
open Go.Proofs.Tryz
open Go.Al
set_option maxRecDepth 100000
def mc6:MC:=(.seq (.ops [(none,.v (.mov 4 (.c (.bool false))))]) (.seq (.seq (.ops [(none,.v (.mov 8 (.t 0))),(none,.p (.len 9 (.t 8))),(none,.v (.bin 10 .gtr false (.t 9) (.c (.int .i64 40)))),(none,.v (.mov 11 (.t 10))),(some (11,false),.v (.mov 12 (.t 1))),(some (11,false),.p (.len 13 (.t 12))),(some (11,false),.v (.bin 14 .gtr false (.t 13) (.c (.int .i64 40)))),(none,.v (.pick 15 (.t 11) (.c (.bool true)) (.t 14)))]) (.cond 15 (.seq (.ops [(none,.e (.call (some 16) 13 [])),(none,.v (.mov 4 (.t 16)))]) .ret) .skip)) (.seq (.ops [(none,.v (.mov 5 (.c (.raw (.slice none 0 0)))))]) (.seq (.seq (.ops [(none,.v (.mov 17 (.t 0))),(none,.p (.len 18 (.t 17))),(none,.v (.mov 19 (.c (.int .i64 0))))]) (.block 0 (.loop (.seq (.ops [(none,.v (.bin 20 .lss false (.t 19) (.t 18)))]) (.seq (.cond 20 .skip (.exit 0)) (.seq (.block 1 (.seq (.ops [(none,.v (.mov 21 (.t 19))),(none,.v (.mov 6 (.t 21)))]) (.seq (.seq (.ops [(none,.v (.mov 22 (.t 0))),(none,.v (.mov 23 (.t 6))),(none,.p (.idx 24 1 (.t 22) (.t 23))),(none,.v (.load 25 false 1 (.t 24))),(none,.e (.call (some 26) 29 [.t 25])),(none,.v (.not 27 (.t 26)))]) (.cond 27 (.seq (.ops [(none,.e (.call (some 28) 13 [])),(none,.v (.mov 4 (.t 28)))]) .ret) .skip)) (.ops [(none,.v (.mov 29 (.t 5))),(none,.v (.mov 30 (.t 0))),(none,.v (.mov 31 (.t 0))),(none,.p (.len 32 (.t 31))),(none,.v (.bin 33 .sub false (.t 32) (.c (.int .i64 1)))),(none,.v (.mov 34 (.t 6))),(none,.v (.bin 35 .sub false (.t 33) (.t 34))),(none,.p (.idx 36 1 (.t 30) (.t 35))),(none,.v (.load 37 false 1 (.t 36))),(none,.e (.mkl 38 69 1 1 (.raw (.slice none 0 0)) [(0,.t 37)])),(none,.e (.app 39 69 1 24 (.t 29) (.t 38))),(none,.v (.mov 5 (.t 39)))])))) (.ops [(none,.v (.bin 40 .add false (.t 19) (.c (.int .i64 1)))),(none,.v (.mov 19 (.t 40)))]))))))) (.seq (.seq (.ops [(none,.v (.mov 41 (.t 1))),(none,.p (.len 42 (.t 41))),(none,.v (.mov 43 (.c (.int .i64 0))))]) (.block 2 (.loop (.seq (.ops [(none,.v (.bin 44 .lss false (.t 43) (.t 42)))]) (.seq (.cond 44 .skip (.exit 2)) (.seq (.block 3 (.seq (.ops [(none,.v (.mov 45 (.t 43))),(none,.v (.mov 7 (.t 45)))]) (.seq (.ops [(none,.v (.mov 46 (.t 1))),(none,.v (.mov 47 (.t 7))),(none,.p (.idx 48 1 (.t 46) (.t 47))),(none,.v (.load 49 false 1 (.t 48))),(none,.e (.call (some 50) 29 [.t 49])),(none,.v (.not 51 (.t 50)))]) (.cond 51 (.seq (.ops [(none,.e (.call (some 52) 13 [])),(none,.v (.mov 4 (.t 52)))]) .ret) .skip)))) (.ops [(none,.v (.bin 53 .add false (.t 43) (.c (.int .i64 1)))),(none,.v (.mov 43 (.t 53)))]))))))) (.seq (.ops [(none,.e (.call (some 54) 13 [])),(none,.v (.mov 55 (.t 54))),(some (55,true),.v (.mov 56 (.t 0))),(some (55,true),.v (.mov 57 (.t 1))),(some (55,true),.e (.call (some 58) 30 [.t 56,.t 57])),(some (55,true),.v (.mov 59 (.t 0))),(some (55,true),.v (.mov 60 (.t 1))),(some (55,true),.e (.call (some 61) 31 [.t 59,.t 60])),(some (55,true),.v (.bin 62 .eql true (.t 58) (.t 61))),(none,.v (.pick 63 (.t 55) (.t 62) (.c (.bool false)))),(none,.v (.mov 64 (.t 63))),(some (64,true),.v (.mov 65 (.t 0))),(some (64,true),.v (.mov 66 (.t 5))),(some (64,true),.e (.call (some 67) 30 [.t 65,.t 66])),(none,.v (.pick 68 (.t 64) (.t 67) (.c (.bool false)))),(none,.v (.mov 69 (.t 68))),(some (69,true),.v (.mov 70 (.t 0))),(some (69,true),.p (.len 71 (.t 70))),(some (69,true),.v (.bin 72 .eql false (.t 71) (.c (.int .i64 0)))),(some (69,true),.v (.mov 73 (.t 72))),(some (73,false),.v (.mov 74 (.t 0))),(some (73,false),.v (.mov 75 (.t 0))),(some (73,false),.p (.cut 76 1 (.t 75) (.c (.int .i64 1)) none)),(some (73,false),.e (.call (some 77) 30 [.t 74,.t 76])),(some (73,false),.v (.not 78 (.t 77))),(some (69,true),.v (.pick 79 (.t 73) (.c (.bool true)) (.t 78))),(none,.v (.pick 80 (.t 69) (.t 79) (.c (.bool false)))),(none,.v (.mov 4 (.t 80)))]) .ret))))))
theorem ok6:FnOk E 6 81 [.tmp 4] mc6:=ofk func6
end Go.Proofs.Try
namespace Go.Proofs.Try
open Go.Proofs.Tryz
open Go.Al
set_option linter.unusedVariables false
set_option linter.unusedSimpArgs false
set_option maxRecDepth 20000
set_option maxHeartbeats 64000000

theorem rev_take {l:Rws} {i:Nat} (h:i<l.length):(l.reverse.take (i+1)).map rowV=(l.reverse.take i).map rowV++[rowV (l.getD (l.length - 1 - i) default)]:=by
 have hr:i<l.reverse.length:=by simpa using h
 rw [List.take_succ_eq_append_getElem hr,List.map_append]
 have h2:l.length - 1 - i<l.length:=by omega
 simp [List.getElem_reverse,h2]
theorem k13:ACalls E.P 13 [] [] (fun r H=>r=.bool true∧H=[]):=c13
theorem c6 (a b:Rws):ACalls E.P 6 [rowsV a,rowsV b] [] (fun r H=>r=.bool true∧H=[]):=by
 have hmax:=maxLen_eq
 refine ok6.acalls hE hm (by simp) fun N hN=>?_
 unfold mc6
 simp only [lA,ptrCells,ptrAdd,isNil,seval]
 repeat' (first | (with_reducible apply St.o;constructor) <;> intro _ | (with_reducible first | refine And.intro (by omega) ?_ | (apply Sq.o;constructor)) | ((with_reducible apply Sc.o false;constructor);simp only [lP,seval,List.length_map];refine ⟨_,k13,?_⟩;rintro _ _ ⟨rfl,rfl⟩;simp only [lA,lP,ptrCells,ptrAdd,isNil,seval,List.length_map]) | simp (maxSteps:=1000000) (disch:=omega) only [lE,ptrCells,ptrAdd,isNil,seval,List.length_map])
 all_goals first | exact keep_b rfl | skip
 rename_i ha hb
 have ha:a.length≤40:=by omega
 have hb:b.length≤40:=by omega
 have h29:=fun r=>c29 r
 refine loop_i (fun i:Nat=>i≤a.length) (fun i=>⟨[(0,rowsV a),(1,rowsV b),(5,.slc 0 1 i),(18,.int .i64 a.length),(19,.int .i64 i)],[.arr 69 1 ((a.reverse.take i).map rowV)]⟩) (fun i=>a.length - i) 0 (by omega) (Ent.ghost' 5 69 1 (by omega) rfl (Ent.to [0] false (by simp) (by simp) rfl (by simp only [lP,seval] <;> (try simp) <;> (try omega)) (by simp only [lP,seval] <;> (try simp) <;> (try omega)))) ?_
 intro i hi
 have hlen:((a.reverse.take i).map rowV).length=i:=by simp;omega
 by_cases hin:i<a.length
 · have hlt:((i:Int)<(a.length:Int)):=by omega
   have hix:(a.length:Int) - 1 - i=((a.length - 1 - i:Nat):Int):=by omega
   have hk:=h29 (a.getD i default)
   repeat' (first | (with_reducible apply St.o;constructor) <;> intro _ | (with_reducible first | refine And.intro (by omega) ?_ | (apply Sq.o;constructor)) | ((with_reducible apply Sc.o true;constructor);simp only [lP,seval,IdxR_rows,hix,Int.toNat_natCast,List.length_map,hlt,decide_true,hlen];refine ⟨_,hk,?_⟩;rintro _ _ ⟨rfl,rfl⟩;simp only [lA,lP,ptrCells,ptrAdd,isNil,seval,IdxR_rows,hix,Int.toNat_natCast,List.length_map,hlt,decide_true,hlen]) | ((with_reducible apply Sc.o false;constructor);simp only [lP,seval,IdxR_rows,hix,Int.toNat_natCast,List.length_map,hlt,decide_true,hlen];refine ⟨_,k13,?_⟩;rintro _ _ ⟨rfl,rfl⟩;simp only [lA,lP,ptrCells,ptrAdd,isNil,seval,IdxR_rows,hix,Int.toNat_natCast,List.length_map,hlt,decide_true,hlen]) | simp (maxSteps:=1000000) (disch:=omega) only [lE,ptrCells,ptrAdd,isNil,seval,IdxR_rows,hix,Int.toNat_natCast,List.length_map,hlt,decide_true,hlen])
   · exact keep_b rfl
   · refine back_i (i+1) (by omega) (by omega) ?_
     rw [rev_take hin]
     exact (Ent.to [2] false (by simp) (by simp) rfl (by simp only [lP,seval,hlen,pa_rows,List.map_append] <;> (try simp) <;> (try omega)) (by simp only [lP,seval,hlen,pa_rows,List.map_append] <;> (try simp) <;> (try omega)))
 · obtain rfl:i=a.length:=by omega
   have hrev:a.reverse.take a.length=a.reverse:=by rw [show a.length=a.reverse.length by simp,List.take_length]
   rw [hrev]
   repeat' (first | (with_reducible apply St.o;constructor) <;> intro _ | (with_reducible first | refine And.intro (by omega) ?_ | (apply Sq.o;constructor)) | simp (maxSteps:=1000000) (disch:=omega) only [lE,ptrCells,ptrAdd,isNil,seval,List.length_map,Int.lt_irrefl,decide_false])
   have h30:=c30 a b (by omega) (by omega)
   have h31:=c31 a b (by omega) (by omega)
   have h30r:=c30 a a.reverse (by omega) (by simp;omega)
   have h30d:=c30 a (a.drop 1) (by omega) (by simp;omega)
   have er:eqC (sortL a) (sortL a.reverse)=true:=eqC_iff.2 ((bag_iff _ _).2 (List.reverse_perm a).symm)
   rw [er] at h30r
   have hrl:(a.reverse.map rowV).length=a.length:=by simp
   refine loop_i (fun i:Nat=>i≤b.length) (fun i=>⟨[(0,rowsV a),(1,rowsV b),(5,.slc 0 1 a.length),(42,.int .i64 b.length),(43,.int .i64 i)],[.arr 69 1 (a.reverse.map rowV)]⟩) (fun i=>b.length - i) 0 (by omega) (Ent.to [0] false (by simp) (by simp) rfl (by simp only [lP,seval,pa_rows] <;> (try simp) <;> (try omega)) (by simp only [lP,seval,pa_rows] <;> (try simp) <;> (try omega))) ?_
   intro j hj
   by_cases hjn:j<b.length
   · have hlt:((j:Int)<(b.length:Int)):=by omega
     have hk:=h29 (b.getD j default)
     repeat' (first | (with_reducible apply St.o;constructor) <;> intro _ | (with_reducible first | refine And.intro (by omega) ?_ | (apply Sq.o;constructor)) | ((with_reducible apply Sc.o true;constructor);simp only [lP,seval,IdxR_rows,Int.toNat_natCast,List.length_map,hlt,decide_true];refine ⟨_,hk,?_⟩;rintro _ _ ⟨rfl,rfl⟩;simp only [lA,lP,ptrCells,ptrAdd,isNil,seval,IdxR_rows,Int.toNat_natCast,List.length_map,hlt,decide_true]) | ((with_reducible apply Sc.o false;constructor);simp only [lP,seval,IdxR_rows,Int.toNat_natCast,List.length_map,hlt,decide_true];refine ⟨_,k13,?_⟩;rintro _ _ ⟨rfl,rfl⟩;simp only [lA,lP,ptrCells,ptrAdd,isNil,seval,IdxR_rows,Int.toNat_natCast,List.length_map,hlt,decide_true]) | simp (maxSteps:=1000000) (disch:=omega) only [lE,ptrCells,ptrAdd,isNil,seval,IdxR_rows,Int.toNat_natCast,List.length_map,hlt,decide_true])
     · exact keep_b rfl
     · refine back_i (j+1) (by omega) (by omega) (Ent.to [0] false (by simp) (by simp) rfl (by simp only [lP,seval,pa_rows] <;> (try simp) <;> (try omega)) (by simp only [lP,seval,pa_rows] <;> (try simp) <;> (try omega)))
   · obtain rfl:j=b.length:=by omega
     by_cases h0:a.length=0
     · have h0':((a.length:Int)=0):=by omega
       repeat' (first | (with_reducible apply St.o;constructor) <;> intro _ | (with_reducible first | refine And.intro (by omega) ?_ | (apply Sq.o;constructor)) | ((with_reducible apply Sc.o true;constructor);simp only [lP,seval,List.length_map,List.length_reverse,vw_rows,renL_rows,Int.lt_irrefl,decide_false,beq_self_eq_true,h0'];(first | refine ⟨_,h30,?_⟩ | refine ⟨_,h31,?_⟩ | refine ⟨_,h30r,?_⟩);rintro _ _ ⟨rfl,rfl⟩;simp only [lA,lP,ptrCells,ptrAdd,isNil,seval,List.length_map,List.length_reverse,vw_rows,renL_rows,Int.lt_irrefl,decide_false,beq_self_eq_true,h0']) | ((with_reducible apply Sc.o false;constructor);simp only [lP,seval,List.length_map,List.length_reverse,vw_rows,renL_rows,Int.lt_irrefl,decide_false,beq_self_eq_true,h0'];refine ⟨_,k13,?_⟩;rintro _ _ ⟨rfl,rfl⟩;simp only [lA,lP,ptrCells,ptrAdd,isNil,seval,List.length_map,List.length_reverse,vw_rows,renL_rows,Int.lt_irrefl,decide_false,beq_self_eq_true,h0']) | simp (maxSteps:=1000000) (disch:=omega) only [lE,ptrCells,ptrAdd,isNil,seval,List.length_map,List.length_reverse,vw_rows,renL_rows,Int.lt_irrefl,decide_false,beq_self_eq_true,h0'])
       all_goals exact keep_b rfl
     · have h0':¬ ((a.length:Int)=0):=by omega
       have ed:eqC (sortL a) (sortL (a.drop 1))=false:=eqC_false.2 fun h=>by
        have:=((bag_iff _ _).1 h).length_eq
        simp at this
        omega
       rw [ed] at h30d
       have h30d:ACalls E.P 30 [rowsV a,.view 1 ((a.map rowV).drop 1)] [] (fun r H=>r=.bool false∧H=[]):=by rw [← List.map_drop];exact h30d
       repeat' (first | (with_reducible apply St.o;constructor) <;> intro _ | (with_reducible first | refine And.intro (by omega) ?_ | (apply Sq.o;constructor)) | ((with_reducible apply Sc.o true;constructor);simp only [lP,seval,List.length_map,List.length_reverse,List.length_drop,vw_rows,renL_rows,Int.lt_irrefl,decide_false,beq_self_eq_true,h0'];(first | refine ⟨_,h30,?_⟩ | refine ⟨_,h31,?_⟩ | refine ⟨_,h30r,?_⟩ | refine ⟨_,h30d,?_⟩);rintro _ _ ⟨rfl,rfl⟩;simp only [lA,lP,ptrCells,ptrAdd,isNil,seval,List.length_map,List.length_reverse,List.length_drop,vw_rows,renL_rows,Int.lt_irrefl,decide_false,beq_self_eq_true,h0']) | ((with_reducible apply Sc.o false;constructor);simp only [lP,seval,List.length_map,List.length_reverse,List.length_drop,vw_rows,renL_rows,Int.lt_irrefl,decide_false,beq_self_eq_true,h0'];refine ⟨_,k13,?_⟩;rintro _ _ ⟨rfl,rfl⟩;simp only [lA,lP,ptrCells,ptrAdd,isNil,seval,List.length_map,List.length_reverse,List.length_drop,vw_rows,renL_rows,Int.lt_irrefl,decide_false,beq_self_eq_true,h0']) | simp (maxSteps:=1000000) (disch:=omega) only [lE,ptrCells,ptrAdd,isNil,seval,List.length_map,List.length_reverse,List.length_drop,vw_rows,renL_rows,Int.lt_irrefl,decide_false,beq_self_eq_true,h0'])
       all_goals exact keep_b rfl
end Go.Proofs.Try

