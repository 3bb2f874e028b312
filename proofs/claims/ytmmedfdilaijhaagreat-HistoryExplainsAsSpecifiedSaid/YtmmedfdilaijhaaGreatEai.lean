/-
  A part of the proof: see the text of the law.
-/
import Derived.Test.YtmmedfdilaijhaaGreatEag
set_option linter.unusedSimpArgs false
set_option linter.unusedVariables false
namespace Go.Proofs.Try
open Go.Proofs.Tryz
open Go.Al
set_option maxRecDepth 100000
def mc40 : MC :=
(.seq (.ops [(none,.e (.box 1 (.t 0))),
(none,.v (.mov 2 (.c (.bool false))))])
(.seq (.ops [(none,.v (.fld 4 0 (.t 1))),
(none,.v (.load 5 false 1 (.t 4))),
(none,.v (.build 6 [(.int .i64 0),(.int .i64 0),(.int .i64 0),(.raw (.slice none 0 0)),(.raw (.slice none 0 0))] [(0,1,(.t 5))])),
(none,.e (.alloc 3 [(.int .i64 0),(.int .i64 0),(.int .i64 0),(.raw (.slice none 0 0)),(.raw (.slice none 0 0))])),
(none,.e (.store 5 true (.t 3) (.t 6)))])
(.seq (.seq (.ops [(none,.v (.fld 7 0 (.t 1))),
(none,.v (.load 8 false 1 (.t 7)))])
(.block 0 (.seq (.ops [(none,.v (.bin 10 .eql false (.t 8) (.c (.int .i64 1)))),
(none,.v (.mov 9 (.t 10)))])
(.cond 9
(.any true (.pure0 none (.v (.fld 11 1 (.t 1)))
(.pure0 none (.v (.load 12 false 1 (.t 11)))
(.pure0 none (.v (.fld 13 3 (.t 1)))
(.pure0 none (.v (.load 14 false 1 (.t 13)))
(.pure0 none (.v (.fld 15 1 (.t 3)))
(.alt none (.e (.store 1 false (.t 15) (.t 12)))
(.pure0 none (.v (.fld 16 3 (.t 3)))
(.alt none (.e (.store 1 false (.t 16) (.t 14)))
.done
.stop))
.stop)))))))
(.seq (.ops [(none,.v (.bin 18 .eql false (.t 8) (.c (.int .i64 2)))),
(none,.v (.mov 17 (.t 18)))])
(.cond 17
(.any true (.pure0 none (.v (.fld 19 1 (.t 1)))
(.pure0 none (.v (.load 20 false 1 (.t 19)))
(.pure0 none (.v (.fld 21 2 (.t 1)))
(.pure0 none (.v (.load 22 false 1 (.t 21)))
(.pure0 none (.v (.fld 23 1 (.t 3)))
(.alt none (.e (.store 1 false (.t 23) (.t 20)))
(.pure0 none (.v (.fld 24 2 (.t 3)))
(.alt none (.e (.store 1 false (.t 24) (.t 22)))
.done
.stop))
.stop)))))))
(.seq (.ops [(none,.v (.bin 26 .eql false (.t 8) (.c (.int .i64 3)))),
(none,.v (.mov 25 (.t 26)))])
(.cond 25
(.ops [(none,.v (.fld 27 1 (.t 1))),
(none,.v (.load 28 false 1 (.t 27))),
(none,.v (.fld 29 1 (.t 3))),
(none,.e (.store 1 false (.t 29) (.t 28)))])
(.seq (.ops [(none,.v (.bin 31 .eql false (.t 8) (.c (.int .i64 5)))),
(none,.v (.mov 30 (.t 31)))])
(.cond 30
(.any true (.pure0 none (.v (.fld 32 2 (.t 1)))
(.pure0 none (.v (.load 33 false 1 (.t 32)))
(.pure0 none (.v (.fld 34 4 (.t 1)))
(.pure0 none (.v (.load 35 false 1 (.t 34)))
(.pure0 none (.v (.fld 36 2 (.t 3)))
(.alt none (.e (.store 1 false (.t 36) (.t 33)))
(.pure0 none (.v (.fld 37 4 (.t 3)))
(.alt none (.e (.store 1 false (.t 37) (.t 35)))
.done
.stop))
.stop)))))))
(.seq (.ops [(none,.v (.bin 39 .eql false (.t 8) (.c (.int .i64 4)))),
(none,.v (.mov 38 (.t 39)))])
(.cond 38
.skip
(.seq (.ops [(none,.v (.mov 2 (.c (.bool false))))])
.ret)))))))))))))
(.seq (.ops [(none,.v (.fld 40 1 (.t 3))),
(none,.v (.load 41 false 1 (.t 40))),
(none,.v (.fld 42 1 (.t 1))),
(none,.v (.load 43 false 1 (.t 42))),
(none,.v (.bin 44 .eql false (.t 41) (.t 43))),
(none,.v (.mov 45 (.t 44))),
(some (45,true),.v (.fld 46 2 (.t 3))),
(some (45,true),.v (.load 47 false 1 (.t 46))),
(some (45,true),.v (.fld 48 2 (.t 1))),
(some (45,true),.v (.load 49 false 1 (.t 48))),
(some (45,true),.v (.bin 50 .eql false (.t 47) (.t 49))),
(none,.v (.pick 51 (.t 45) (.t 50) (.c (.bool false)))),
(none,.v (.mov 52 (.t 51))),
(some (52,true),.v (.fld 53 3 (.t 3))),
(some (52,true),.v (.load 54 false 1 (.t 53))),
(some (52,true),.p (.len 55 (.t 54))),
(some (52,true),.v (.fld 56 3 (.t 1))),
(some (52,true),.v (.load 57 false 1 (.t 56))),
(some (52,true),.p (.len 58 (.t 57))),
(some (52,true),.v (.bin 59 .eql false (.t 55) (.t 58))),
(none,.v (.pick 60 (.t 52) (.t 59) (.c (.bool false)))),
(none,.v (.mov 61 (.t 60))),
(some (61,true),.v (.fld 62 4 (.t 3))),
(some (61,true),.v (.load 63 false 1 (.t 62))),
(some (61,true),.p (.len 64 (.t 63))),
(some (61,true),.v (.fld 65 4 (.t 1))),
(some (61,true),.v (.load 66 false 1 (.t 65))),
(some (61,true),.p (.len 67 (.t 66))),
(some (61,true),.v (.bin 68 .eql false (.t 64) (.t 67))),
(none,.v (.pick 69 (.t 61) (.t 68) (.c (.bool false)))),
(none,.v (.mov 2 (.t 69)))])
.ret))))
theorem ok40 : FnOk E 40 70 [.tmp 2] mc40 := .of func40 (by kernel_rfl) (by kernel_rfl) (by kernel_rfl) (by kernel_rfl) (by kernel_rfl)
def mc44 : MC :=
(.seq (.ops [(none,.e (.box 2 (.t 0))),
(none,.v (.mov 3 (.c (.bool false))))])
(.seq (.ops [(none,.v (.fld 4 0 (.t 2))),
(none,.v (.load 5 false 1 (.t 4))),
(none,.v (.bin 6 .lss false (.t 5) (.c (.int .i64 0)))),
(none,.v (.mov 7 (.t 6))),
(some (7,false),.v (.fld 8 0 (.t 2))),
(some (7,false),.v (.load 9 false 1 (.t 8))),
(some (7,false),.v (.bin 10 .gtr false (.t 9) (.c (.int .i64 255)))),
(none,.v (.pick 11 (.t 7) (.c (.bool true)) (.t 10))),
(none,.v (.mov 12 (.t 11))),
(some (12,false),.v (.fld 13 1 (.t 2))),
(some (12,false),.v (.load 14 false 1 (.t 13))),
(some (12,false),.e (.call (some 15) 42 [(.t 14)])),
(some (12,false),.v (.not 16 (.t 15))),
(none,.v (.pick 17 (.t 12) (.c (.bool true)) (.t 16))),
(none,.v (.mov 18 (.t 17))),
(some (18,false),.v (.fld 19 2 (.t 2))),
(some (18,false),.v (.load 20 false 1 (.t 19))),
(some (18,false),.v (.bin 21 .lss false (.t 20) (.c (.int .i64 1)))),
(none,.v (.pick 22 (.t 18) (.c (.bool true)) (.t 21))),
(none,.v (.mov 23 (.t 22))),
(some (23,false),.v (.fld 24 2 (.t 2))),
(some (23,false),.v (.load 25 false 1 (.t 24))),
(some (23,false),.v (.fld 26 2 (.t 1))),
(some (23,false),.v (.load 27 false 1 (.t 26))),
(some (23,false),.v (.bin 28 .gtr false (.t 25) (.t 27))),
(none,.v (.pick 29 (.t 23) (.c (.bool true)) (.t 28))),
(none,.v (.mov 3 (.t 29)))])
.ret))
theorem ok44 : FnOk E 44 30 [.tmp 3] mc44 := .of func44 (by kernel_rfl) (by kernel_rfl) (by kernel_rfl) (by kernel_rfl) (by kernel_rfl)
def mc63 : MC :=
(.seq (.ops [(none,.v (.mov 3 (.c (.bool false))))])
(.seq (.ops [(none,.v (.mov 4 (.t 0))),
(none,.v (.fld 5 1 (.t 1))),
(none,.v (.load 6 false 1 (.t 5))),
(none,.v (.bin 7 .eql false (.t 4) (.t 6))),
(none,.v (.mov 3 (.t 7)))])
.ret))
theorem ok63 : FnOk E 63 8 [.tmp 3] mc63 := .of func63 (by kernel_rfl) (by kernel_rfl) (by kernel_rfl) (by kernel_rfl) (by kernel_rfl)
end Go.Proofs.Try
namespace Go.Proofs.Try
open Go.Proofs.Tryz
open Go.Al
set_option linter.unusedVariables false
set_option linter.unusedSimpArgs false
set_option maxRecDepth 20000
set_option maxHeartbeats 8000000

theorem c44 (r : Hd) (x : Hap) : ACalls E.P 44 [r.av, .vp x.cs] [] (fun q H => q = .bool (!okH x.st r) ∧ H = []) := by
  have h27 := c42 r.r
  refine ok44.acalls hE hm (by simp) fun N hN => ?_
  unfold mc44
  simp only [lA,ptrCells,ptrAdd,isNil,readsV,readsP,isCall,wrote,srcOf,seval,hd_av]
  repeat' (first | (with_reducible apply St.o; constructor) <;> intro _ | (with_reducible first | refine LenR_i fun _ => ?_ | refine And.intro (by omega) ?_ | (apply Sp.o; constructor) | refine mkl_own ?_ | refine frz0_i ?_) | ((with_reducible apply Sc.o true; constructor); simp only [lP,seval]; refine ⟨_,h27,?_⟩; rintro _ _ ⟨rfl,rfl⟩; simp only [lA,lP,ptrCells,ptrAdd,isNil,readsV,readsP,isCall,wrote,srcOf,seval]) | simp (maxSteps := 1000000) (disch := omega) only [lE,ptrCells,ptrAdd,isNil,readsV,readsP,isCall,wrote,srcOf,seval])
  all_goals (refine keep_b ?_; clear h27; simp_all [okH]; try omega)
theorem c63 (r : Int) (x : Hap) : ACalls E.P 63 [.int .i64 r, .vp x.cs] [] (fun q H => q = .bool (decide (r = x.tx)) ∧ H = []) := by
  refine ok63.acalls hE hm (by simp) fun N hN => ?_
  unfold mc63
  simp only [lA,ptrCells,ptrAdd,isNil,readsV,readsP,isCall,wrote,srcOf,seval]
  repeat' (first | (with_reducible apply St.o; constructor) <;> intro _ | (with_reducible first | refine LenR_i fun _ => ?_ | refine And.intro (by omega) ?_ | (apply Sp.o; constructor) | refine mkl_own ?_ | refine frz0_i ?_) | simp (maxSteps := 1000000) (disch := omega) only [lE,ptrCells,ptrAdd,isNil,readsV,readsP,isCall,wrote,srcOf,seval])
  all_goals exact keep_b rfl
def plainB (x : Hap) : Bool :=
  if x.k = 1 then decide (x.st = 0) && decide (x.rs.length = 0)
  else if x.k = 2 then decide (x.ws.length = 0) && decide (x.rs.length = 0)
  else if x.k = 3 then decide (x.st = 0) && (decide (x.ws.length = 0) && decide (x.rs.length = 0))
  else if x.k = 5 then decide (x.tx = 0) && decide (x.ws.length = 0)
  else if x.k = 4 then decide (x.tx = 0) && (decide (x.st = 0) && (decide (x.ws.length = 0) && decide (x.rs.length = 0)))
  else false
theorem z1 (n : Nat) : ((0 : Int) = n) = (n = 0) := by
  apply propext; omega
theorem z2 (n : Int) : ((0 : Int) = n) = (n = 0) := by
  apply propext; omega
theorem c40 (x : Hap) : ACalls E.P 40 [x.av] [] (fun q H => q = .bool (plainB x) ∧ H = []) := by
  have hmax := maxLen_eq
  obtain ⟨k, tx, st, ws, rs⟩ := x
  have hcase : k = 1 ∨ k = 2 ∨ k = 3 ∨ k = 4 ∨ k = 5 ∨ (¬ k = 1 ∧ ¬ k = 2 ∧ ¬ k = 3 ∧ ¬ k = 4 ∧ ¬ k = 5) := by omega
  have p1 : plainB ⟨1, tx, st, ws, rs⟩ = (decide (st = 0) && decide (rs.length = 0)) := rfl
  have p2 : plainB ⟨2, tx, st, ws, rs⟩ = (decide (ws.length = 0) && decide (rs.length = 0)) := rfl
  have p3 : plainB ⟨3, tx, st, ws, rs⟩ = (decide (st = 0) && (decide (ws.length = 0) && decide (rs.length = 0))) := rfl
  have p4 : plainB ⟨4, tx, st, ws, rs⟩ = (decide (tx = 0) && (decide (st = 0) && (decide (ws.length = 0) && decide (rs.length = 0)))) := rfl
  have p5 : plainB ⟨5, tx, st, ws, rs⟩ = (decide (tx = 0) && decide (ws.length = 0)) := rfl
  rcases hcase with rfl | rfl | rfl | rfl | rfl | ⟨k1, k2, k3, k4, k5⟩
  all_goals
    refine ok40.acalls hE hm (by simp) fun N hN => ?_
    unfold mc40
    simp only [lA,ptrCells,ptrAdd,isNil,readsV,readsP,isCall,wrote,srcOf,seval,hap_av]
  · repeat' (first | (with_reducible apply St.o; constructor) <;> intro _ | ((with_reducible refine mkl_view ?_ ?_ ?_); (focus decide); (focus rfl)) | (with_reducible first | refine LenR_i fun _ => ?_ | refine And.intro (by omega) ?_ | (apply Sp.o; constructor) | refine mkl_own ?_ | refine frz0_i ?_) | with_reducible refine any_i [1] ?_ | simp (maxSteps := 1000000) (disch := omega) only [lE,ptrCells,ptrAdd,isNil,readsV,readsP,isCall,wrote,srcOf,seval,List.mem_singleton,z1,z2,fillE,setAll,List.length_map])
    all_goals first
      | (exfalso; omega)
      | (refine keep_b ?_; rw [Bool.eq_iff_iff]; simp only [p1,p2,p3,p4,p5,Bool.and_eq_true,decide_eq_true_eq,Bool.false_eq_true,true_iff]; omega)
      | (refine keep_b (Eq.symm (Bool.eq_false_iff.2 ?_))
         simp only [p1,p2,p3,p4,p5,ne_eq,Bool.and_eq_true,decide_eq_true_eq]
         omega)
  · repeat' (first | (with_reducible apply St.o; constructor) <;> intro _ | ((with_reducible refine mkl_view ?_ ?_ ?_); (focus decide); (focus rfl)) | (with_reducible first | refine LenR_i fun _ => ?_ | refine And.intro (by omega) ?_ | (apply Sp.o; constructor) | refine mkl_own ?_ | refine frz0_i ?_) | with_reducible refine any_i [1] ?_ | simp (maxSteps := 1000000) (disch := omega) only [lE,ptrCells,ptrAdd,isNil,readsV,readsP,isCall,wrote,srcOf,seval,List.mem_singleton,z1,z2,fillE,setAll,List.length_map])
    all_goals first
      | (exfalso; omega)
      | (refine keep_b ?_; rw [Bool.eq_iff_iff]; simp only [p1,p2,p3,p4,p5,Bool.and_eq_true,decide_eq_true_eq,Bool.false_eq_true,true_iff]; omega)
      | (refine keep_b (Eq.symm (Bool.eq_false_iff.2 ?_))
         simp only [p1,p2,p3,p4,p5,ne_eq,Bool.and_eq_true,decide_eq_true_eq]
         omega)
  · repeat' (first | (with_reducible apply St.o; constructor) <;> intro _ | ((with_reducible refine mkl_view ?_ ?_ ?_); (focus decide); (focus rfl)) | (with_reducible first | refine LenR_i fun _ => ?_ | refine And.intro (by omega) ?_ | (apply Sp.o; constructor) | refine mkl_own ?_ | refine frz0_i ?_) | simp (maxSteps := 1000000) (disch := omega) only [lE,ptrCells,ptrAdd,isNil,readsV,readsP,isCall,wrote,srcOf,seval,z1,z2,fillE,setAll,List.length_map])
    all_goals first
      | (exfalso; omega)
      | (refine keep_b ?_; rw [Bool.eq_iff_iff]; simp only [p1,p2,p3,p4,p5,Bool.and_eq_true,decide_eq_true_eq,Bool.false_eq_true,true_iff]; omega)
      | (refine keep_b (Eq.symm (Bool.eq_false_iff.2 ?_))
         simp only [p1,p2,p3,p4,p5,ne_eq,Bool.and_eq_true,decide_eq_true_eq]
         omega)
  · repeat' (first | (with_reducible apply St.o; constructor) <;> intro _ | ((with_reducible refine mkl_view ?_ ?_ ?_); (focus decide); (focus rfl)) | (with_reducible first | refine LenR_i fun _ => ?_ | refine And.intro (by omega) ?_ | (apply Sp.o; constructor) | refine mkl_own ?_ | refine frz0_i ?_) | simp (maxSteps := 1000000) (disch := omega) only [lE,ptrCells,ptrAdd,isNil,readsV,readsP,isCall,wrote,srcOf,seval,z1,z2,fillE,setAll,List.length_map])
    all_goals first
      | (exfalso; omega)
      | (refine keep_b ?_; rw [Bool.eq_iff_iff]; simp only [p1,p2,p3,p4,p5,Bool.and_eq_true,decide_eq_true_eq,Bool.false_eq_true,true_iff]; omega)
      | (refine keep_b (Eq.symm (Bool.eq_false_iff.2 ?_))
         simp only [p1,p2,p3,p4,p5,ne_eq,Bool.and_eq_true,decide_eq_true_eq]
         omega)
  · repeat' (first | (with_reducible apply St.o; constructor) <;> intro _ | ((with_reducible refine mkl_view ?_ ?_ ?_); (focus decide); (focus rfl)) | (with_reducible first | refine LenR_i fun _ => ?_ | refine And.intro (by omega) ?_ | (apply Sp.o; constructor) | refine mkl_own ?_ | refine frz0_i ?_) | with_reducible refine any_i [1] ?_ | simp (maxSteps := 1000000) (disch := omega) only [lE,ptrCells,ptrAdd,isNil,readsV,readsP,isCall,wrote,srcOf,seval,List.mem_singleton,z1,z2,fillE,setAll,List.length_map])
    all_goals first
      | (exfalso; omega)
      | (refine keep_b ?_; rw [Bool.eq_iff_iff]; simp only [p1,p2,p3,p4,p5,Bool.and_eq_true,decide_eq_true_eq,Bool.false_eq_true,true_iff]; omega)
      | (refine keep_b (Eq.symm (Bool.eq_false_iff.2 ?_))
         simp only [p1,p2,p3,p4,p5,ne_eq,Bool.and_eq_true,decide_eq_true_eq]
         omega)
  · repeat' (first | (with_reducible apply St.o; constructor) <;> intro _ | (with_reducible first | refine LenR_i fun _ => ?_ | refine And.intro (by omega) ?_ | (apply Sp.o; constructor) | refine mkl_own ?_ | refine frz0_i ?_) | with_reducible refine any_i [1] ?_ | simp (maxSteps := 1000000) (disch := omega) only [lE,ptrCells,ptrAdd,isNil,readsV,readsP,isCall,wrote,srcOf,seval,List.mem_singleton,z1,z2,fillE,setAll,List.length_map,k1,k2,k3,k4,k5])
    all_goals first
      | (exfalso; omega)
      | (refine keep_b ?_
         simp only [plainB,k1,k2,k3,k4,k5,if_false])
end Go.Proofs.Try

