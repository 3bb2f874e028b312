/-
  A part of the proof: see the text of the law.
-/
import Derived.Test.YtmmedfdilaijhaaGreatEaa
import Derived.Test.YtmmedfdilaijhaaGreatPaa
set_option linter.unusedSimpArgs false
set_option linter.unusedVariables false
namespace Go.Proofs.Try
open Go.Proofs.Tryz
open Go.Al
set_option maxRecDepth 100000
def mc11 : MC :=
(.seq (.ops [(none,.v (.mov 2 (.c (.bool false))))])
(.seq (.seq (.ops [(none,.v (.mov 3 (.c (.int .i64 0))))])
(.block 0 (.loop (.seq (.seq (.ops [(none,.v (.mov 5 (.t 3))),
(none,.v (.mov 6 (.t 0))),
(none,.p (.len 7 (.t 6))),
(none,.v (.bin 8 .lss false (.t 5) (.t 7)))])
(.cond 8
.skip
(.exit 0)))
(.seq (.block 1 (.seq (.any false (.pure0 none (.v (.mov 11 (.t 0)))
(.pure0 none (.v (.mov 12 (.t 3)))
(.pure0 none (.p (.pre 13 5 (.t 11) (some (.t 12))))
(.pure0 none (.v (.mov 14 (.t 0)))
(.pure0 none (.v (.mov 15 (.t 3)))
(.pure0 none (.p (.idx 16 5 (.t 14) (.t 15)))
(.pure0 none (.v (.load 17 true 5 (.t 16)))
(.alt none (.e (.call (some 18) 38 [(.t 13),(.t 17)]))
(.base (.pure0 none (.v (.mov 4 (.t 18)))
.done))
.stop)))))))))
(.seq (.ops [(none,.v (.mov 19 (.t 4))),
(none,.v (.not 20 (.t 19)))])
(.cond 20
(.seq (.ops [(none,.v (.mov 2 (.c (.bool false))))])
.ret)
.skip))))
(.ops [(none,.v (.mov 9 (.t 3))),
(none,.v (.bin 10 .add false (.t 9) (.c (.int .i64 1)))),
(none,.v (.mov 3 (.t 10)))]))))))
(.seq (.ops [(none,.v (.mov 21 (.t 0))),
(none,.p (.len 22 (.t 21))),
(none,.v (.bin 23 .leq false (.t 22) (.c (.int .i64 400)))),
(none,.v (.mov 2 (.t 23)))])
.ret)))
theorem ok11 : FnOk E 11 24 [.tmp 2] mc11 := .of func11 (by kernel_rfl) (by kernel_rfl) (by kernel_rfl) (by kernel_rfl) (by kernel_rfl)
def mc38 : MC :=
(.seq (.ops [(none,.e (.box 3 (.t 1))),
(none,.v (.mov 4 (.c (.bool false))))])
(.seq (.seq (.ops [(none,.v (.fld 6 0 (.t 3))),
(none,.v (.load 7 false 1 (.t 6))),
(none,.v (.bin 8 .neq false (.t 7) (.c (.int .i64 1)))),
(none,.v (.mov 9 (.t 8))),
(some (9,true),.v (.fld 10 3 (.t 3))),
(some (9,true),.v (.load 11 false 1 (.t 10))),
(some (9,true),.p (.len 12 (.t 11))),
(some (9,true),.v (.bin 13 .gtr false (.t 12) (.c (.int .i64 0)))),
(none,.v (.pick 14 (.t 9) (.t 13) (.c (.bool false)))),
(none,.v (.mov 15 (.t 14))),
(some (15,false),.v (.fld 16 0 (.t 3))),
(some (15,false),.v (.load 17 false 1 (.t 16))),
(some (15,false),.v (.bin 18 .neq false (.t 17) (.c (.int .i64 5)))),
(some (15,false),.v (.mov 19 (.t 18))),
(some (19,true),.v (.fld 20 4 (.t 3))),
(some (19,true),.v (.load 21 false 1 (.t 20))),
(some (19,true),.p (.len 22 (.t 21))),
(some (19,true),.v (.bin 23 .gtr false (.t 22) (.c (.int .i64 0)))),
(some (15,false),.v (.pick 24 (.t 19) (.t 23) (.c (.bool false)))),
(none,.v (.pick 25 (.t 15) (.c (.bool true)) (.t 24)))])
(.cond 25
(.seq (.ops [(none,.v (.mov 4 (.c (.bool false))))])
.ret)
.skip))
(.seq (.seq (.ops [(none,.v (.fld 26 0 (.t 3))),
(none,.v (.load 27 false 1 (.t 26))),
(none,.v (.bin 28 .neq false (.t 27) (.c (.int .i64 2)))),
(none,.v (.mov 29 (.t 28))),
(some (29,true),.v (.fld 30 0 (.t 3))),
(some (29,true),.v (.load 31 false 1 (.t 30))),
(some (29,true),.v (.bin 32 .neq false (.t 31) (.c (.int .i64 5)))),
(none,.v (.pick 33 (.t 29) (.t 32) (.c (.bool false)))),
(none,.v (.mov 34 (.t 33))),
(some (34,true),.v (.fld 35 2 (.t 3))),
(some (34,true),.v (.load 36 false 1 (.t 35))),
(some (34,true),.v (.bin 37 .neq false (.t 36) (.c (.int .i64 0)))),
(none,.v (.pick 38 (.t 34) (.t 37) (.c (.bool false)))),
(none,.v (.mov 39 (.t 38))),
(some (39,false),.v (.fld 40 0 (.t 3))),
(some (39,false),.v (.load 41 false 1 (.t 40))),
(some (39,false),.v (.bin 42 .eql false (.t 41) (.c (.int .i64 4)))),
(some (39,false),.v (.mov 43 (.t 42))),
(some (43,false),.v (.fld 44 0 (.t 3))),
(some (43,false),.v (.load 45 false 1 (.t 44))),
(some (43,false),.v (.bin 46 .eql false (.t 45) (.c (.int .i64 5)))),
(some (39,false),.v (.pick 47 (.t 43) (.c (.bool true)) (.t 46))),
(some (39,false),.v (.mov 48 (.t 47))),
(some (48,true),.v (.fld 49 1 (.t 3))),
(some (48,true),.v (.load 50 false 1 (.t 49))),
(some (48,true),.v (.bin 51 .neq false (.t 50) (.c (.int .i64 0)))),
(some (39,false),.v (.pick 52 (.t 48) (.t 51) (.c (.bool false)))),
(none,.v (.pick 53 (.t 39) (.c (.bool true)) (.t 52)))])
(.cond 53
(.seq (.ops [(none,.v (.mov 4 (.c (.bool false))))])
.ret)
.skip))
(.seq (.ops [(none,.v (.mov 54 (.t 0))),
(none,.v (.fld 55 1 (.t 3))),
(none,.v (.load 56 false 1 (.t 55))),
(none,.e (.call (some 57) 64 [(.t 54),(.t 56)])),
(none,.v (.mov 5 (.t 57)))])
(.seq (.seq (.ops [(none,.v (.fld 58 0 (.t 3))),
(none,.v (.load 59 false 1 (.t 58)))])
(.block 0 (.seq (.ops [(none,.v (.bin 61 .eql false (.t 59) (.c (.int .i64 1)))),
(none,.v (.mov 60 (.t 61)))])
(.cond 60
(.seq (.ops [(none,.v (.fld 62 1 (.t 3))),
(none,.v (.load 63 false 1 (.t 62))),
(none,.v (.bin 64 .geq false (.t 63) (.c (.int .i64 1)))),
(none,.v (.mov 65 (.t 64))),
(some (65,true),.v (.mov 66 (.t 0))),
(some (65,true),.v (.fld 67 1 (.t 3))),
(some (65,true),.v (.load 68 false 1 (.t 67))),
(some (65,true),.e (.call (some 69) 65 [(.t 66),(.t 68)])),
(some (65,true),.v (.bin 70 .lss false (.t 69) (.c (.int .i64 0)))),
(none,.v (.pick 71 (.t 65) (.t 70) (.c (.bool false)))),
(none,.v (.mov 72 (.t 71))),
(some (72,true),.v (.fld 73 3 (.t 3))),
(some (72,true),.v (.load 74 false 1 (.t 73))),
(some (72,true),.e (.call (some 75) 66 [(.t 74)])),
(none,.v (.pick 76 (.t 72) (.t 75) (.c (.bool false)))),
(none,.v (.mov 4 (.t 76)))])
.ret)
(.seq (.ops [(none,.v (.bin 78 .eql false (.t 59) (.c (.int .i64 2)))),
(none,.v (.mov 77 (.t 78)))])
(.cond 77
(.seq (.any false (.pure0 none (.v (.mov 79 (.t 5)))
(.pure0 none (.v (.mov 80 (.t 79)))
(.pure0 (some (80,true)) (.v (.fld 81 2 (.t 3)))
(.pure0 (some (80,true)) (.v (.load 82 false 1 (.t 81)))
(.alt (some (80,true)) (.e (.call (some 83) 67 [(.t 82)]))
(.base (.pure0 none (.v (.pick 84 (.t 80) (.t 83) (.c (.bool false))))
(.pure0 none (.v (.mov 85 (.t 84)))
(.pure0 (some (85,true)) (.v (.fld 86 2 (.t 3)))
(.pure0 (some (85,true)) (.v (.load 87 false 1 (.t 86)))
(.pure0 (some (85,true)) (.v (.mov 88 (.t 0)))
(.alt (some (85,true)) (.e (.call (some 89) 68 [(.t 88)]))
(.base (.pure0 (some (85,true)) (.v (.bin 90 .gtr false (.t 87) (.t 89)))
(.pure0 none (.v (.pick 91 (.t 85) (.t 90) (.c (.bool false))))
(.pure0 none (.v (.mov 4 (.t 91)))
.done))))
.stop)))))))
.stop))))))
.ret)
(.seq (.ops [(none,.v (.bin 93 .eql false (.t 59) (.c (.int .i64 3)))),
(none,.v (.mov 92 (.t 93)))])
(.cond 92
(.seq (.ops [(none,.v (.mov 94 (.t 5))),
(none,.v (.mov 4 (.t 94)))])
.ret)
(.seq (.ops [(none,.v (.bin 96 .eql false (.t 59) (.c (.int .i64 5)))),
(none,.v (.mov 95 (.t 96)))])
(.cond 95
(.seq (.ops [(none,.v (.fld 97 2 (.t 3))),
(none,.v (.load 98 false 1 (.t 97))),
(none,.v (.bin 99 .geq false (.t 98) (.c (.int .i64 0)))),
(none,.v (.mov 100 (.t 99))),
(some (100,true),.v (.fld 101 2 (.t 3))),
(some (100,true),.v (.load 102 false 1 (.t 101))),
(some (100,true),.v (.bin 103 .leq false (.t 102) (.c (.int .i64 1073741824)))),
(none,.v (.pick 104 (.t 100) (.t 103) (.c (.bool false)))),
(none,.v (.mov 105 (.t 104))),
(some (105,true),.v (.fld 106 4 (.t 3))),
(some (105,true),.v (.load 107 false 1 (.t 106))),
(some (105,true),.v (.fld 108 2 (.t 3))),
(some (105,true),.v (.load 109 false 1 (.t 108))),
(some (105,true),.e (.call (some 110) 69 [(.t 107),(.t 109)])),
(none,.v (.pick 111 (.t 105) (.t 110) (.c (.bool false)))),
(none,.v (.mov 4 (.t 111)))])
.ret)
.skip))))))))))
(.seq (.ops [(none,.v (.fld 112 0 (.t 3))),
(none,.v (.load 113 false 1 (.t 112))),
(none,.v (.bin 114 .eql false (.t 113) (.c (.int .i64 4)))),
(none,.v (.mov 4 (.t 114)))])
.ret))))))
theorem ok38 : FnOk E 38 115 [.tmp 4] mc38 := .of func38 (by kernel_rfl) (by kernel_rfl) (by kernel_rfl) (by kernel_rfl) (by kernel_rfl)
end Go.Proofs.Try
namespace Go.Proofs.Try
open Go.Proofs.Tryz
open Go.Al
set_option linter.unusedVariables false
set_option linter.unusedSimpArgs false
set_option maxRecDepth 20000
set_option maxHeartbeats 8000000

theorem c38 (h : List Hap) (x : Hap) : ACalls E.P 38 [.view 5 (h.map Hap.av), x.av] [] (fun r H => r = .bool (eventOk h x) ∧ H = []) := by
  have hmax := maxLen_eq
  have h32 := c64 h x.tx
  have h33 := c65 h x.tx
  have h34 := c66 x.ws
  have h35 := c67 x.st
  have h36 := c68 h
  have h37 := c69 x.rs x.st
  obtain ⟨k, tx, st, ws, rs⟩ := x
  simp only at *
  have hcase : k = 1 ∨ k = 2 ∨ k = 3 ∨ k = 4 ∨ k = 5 ∨ (¬ k = 1 ∧ ¬ k = 2 ∧ ¬ k = 3 ∧ ¬ k = 4 ∧ ¬ k = 5) := by omega
  rcases hcase with rfl | rfl | rfl | rfl | rfl | ⟨k1, k2, k3, k4, k5⟩
  all_goals
    refine ok38.acalls hE hm (by simp) fun N hN => ?_
    unfold mc38
    simp only [lA,ptrCells,ptrAdd,isNil,readsV,readsP,isCall,wrote,srcOf,seval,hap_av]
  · repeat' (first | (with_reducible apply St.o; constructor) <;> intro _ | ((with_reducible refine mkl_view ?_ ?_ ?_); (focus decide); (focus rfl)) | (with_reducible first | refine LenR_i fun _ => ?_ | refine And.intro (by omega) ?_ | (apply Sp.o; constructor) | refine mkl_own ?_ | refine frz0_i ?_ | refine any_i [] ?_) | ((with_reducible apply Sc.o true; constructor); simp only [lP,seval,List.length_map]; (first | refine ⟨_,h33,?_⟩ | refine ⟨_,h34,?_⟩ | refine ⟨_,h32,?_⟩); rintro _ _ ⟨rfl,rfl⟩; simp only [lA,lP,ptrCells,ptrAdd,isNil,readsV,readsP,isCall,wrote,srcOf,seval,List.length_map]) | simp (maxSteps := 1000000) (disch := omega) only [lE,ptrCells,ptrAdd,isNil,readsV,readsP,isCall,wrote,srcOf,seval,List.length_map])
    all_goals first
      | (exfalso; omega)
      | (clear h32 h33 h34 h35 h36 h37
         refine keep_b ?_
         simp only [eventOk]
         simp [*]
         done)
      | (clear h32 h33 h34 h35 h36 h37
         refine keep_b ?_
         simp only [eventOk]
         simp_all
         done)
      | (clear h32 h33 h34 h35 h36 h37
         refine keep_b ?_
         simp only [eventOk]
         simp_all
         omega)
  · repeat' (first | (with_reducible apply St.o; constructor) <;> intro _ | ((with_reducible refine mkl_view ?_ ?_ ?_); (focus decide); (focus rfl)) | (with_reducible first | refine LenR_i fun _ => ?_ | refine And.intro (by omega) ?_ | (apply Sp.o; constructor) | refine mkl_own ?_ | refine frz0_i ?_ | refine any_i [] ?_) | ((with_reducible apply Sc.o true; constructor); simp only [lP,seval,List.length_map]; (first | refine ⟨_,h32,?_⟩ | refine ⟨_,h35,?_⟩ | refine ⟨_,h36,?_⟩); rintro _ _ ⟨rfl,rfl⟩; simp only [lA,lP,ptrCells,ptrAdd,isNil,readsV,readsP,isCall,wrote,srcOf,seval,List.length_map]) | simp (maxSteps := 1000000) (disch := omega) only [lE,ptrCells,ptrAdd,isNil,readsV,readsP,isCall,wrote,srcOf,seval,List.length_map])
    all_goals first
      | (exfalso; omega)
      | (clear h32 h33 h34 h35 h36 h37
         refine keep_b ?_
         simp only [eventOk]
         simp [*]
         done)
      | (clear h32 h33 h34 h35 h36 h37
         refine keep_b ?_
         simp only [eventOk]
         simp_all
         done)
      | (clear h32 h33 h34 h35 h36 h37
         refine keep_b ?_
         simp only [eventOk]
         simp_all
         omega)
  · repeat' (first | (with_reducible apply St.o; constructor) <;> intro _ | ((with_reducible refine mkl_view ?_ ?_ ?_); (focus decide); (focus rfl)) | (with_reducible first | refine LenR_i fun _ => ?_ | refine And.intro (by omega) ?_ | (apply Sp.o; constructor) | refine mkl_own ?_ | refine frz0_i ?_ | refine any_i [] ?_) | ((with_reducible apply Sc.o true; constructor); simp only [lP,seval,List.length_map]; refine ⟨_,h32,?_⟩; rintro _ _ ⟨rfl,rfl⟩; simp only [lA,lP,ptrCells,ptrAdd,isNil,readsV,readsP,isCall,wrote,srcOf,seval,List.length_map]) | simp (maxSteps := 1000000) (disch := omega) only [lE,ptrCells,ptrAdd,isNil,readsV,readsP,isCall,wrote,srcOf,seval,List.length_map])
    all_goals first
      | (exfalso; omega)
      | (clear h32 h33 h34 h35 h36 h37
         refine keep_b ?_
         simp only [eventOk]
         simp [*]
         done)
      | (clear h32 h33 h34 h35 h36 h37
         refine keep_b ?_
         simp only [eventOk]
         simp_all
         done)
      | (clear h32 h33 h34 h35 h36 h37
         refine keep_b ?_
         simp only [eventOk]
         simp_all
         omega)
  · repeat' (first | (with_reducible apply St.o; constructor) <;> intro _ | ((with_reducible refine mkl_view ?_ ?_ ?_); (focus decide); (focus rfl)) | (with_reducible first | refine LenR_i fun _ => ?_ | refine And.intro (by omega) ?_ | (apply Sp.o; constructor) | refine mkl_own ?_ | refine frz0_i ?_ | refine any_i [] ?_) | ((with_reducible apply Sc.o true; constructor); simp only [lP,seval,List.length_map]; refine ⟨_,h32,?_⟩; rintro _ _ ⟨rfl,rfl⟩; simp only [lA,lP,ptrCells,ptrAdd,isNil,readsV,readsP,isCall,wrote,srcOf,seval,List.length_map]) | simp (maxSteps := 1000000) (disch := omega) only [lE,ptrCells,ptrAdd,isNil,readsV,readsP,isCall,wrote,srcOf,seval,List.length_map])
    all_goals first
      | (exfalso; omega)
      | (clear h32 h33 h34 h35 h36 h37
         refine keep_b ?_
         simp only [eventOk]
         simp [*]
         done)
      | (clear h32 h33 h34 h35 h36 h37
         refine keep_b ?_
         simp only [eventOk]
         simp_all
         done)
      | (clear h32 h33 h34 h35 h36 h37
         refine keep_b ?_
         simp only [eventOk]
         simp_all
         omega)
  · repeat' (first | (with_reducible apply St.o; constructor) <;> intro _ | ((with_reducible refine mkl_view ?_ ?_ ?_); (focus decide); (focus rfl)) | (with_reducible first | refine LenR_i fun _ => ?_ | refine And.intro (by omega) ?_ | (apply Sp.o; constructor) | refine mkl_own ?_ | refine frz0_i ?_ | refine any_i [] ?_) | ((with_reducible apply Sc.o true; constructor); simp only [lP,seval,List.length_map]; (first | refine ⟨_,h32,?_⟩ | refine ⟨_,h37,?_⟩); rintro _ _ ⟨rfl,rfl⟩; simp only [lA,lP,ptrCells,ptrAdd,isNil,readsV,readsP,isCall,wrote,srcOf,seval,List.length_map]) | simp (maxSteps := 1000000) (disch := omega) only [lE,ptrCells,ptrAdd,isNil,readsV,readsP,isCall,wrote,srcOf,seval,List.length_map])
    all_goals first
      | (exfalso; omega)
      | (clear h32 h33 h34 h35 h36 h37
         refine keep_b ?_
         simp only [eventOk]
         simp [*]
         done)
      | (clear h32 h33 h34 h35 h36 h37
         refine keep_b ?_
         simp only [eventOk]
         simp_all
         done)
      | (clear h32 h33 h34 h35 h36 h37
         refine keep_b ?_
         simp only [eventOk]
         simp_all
         omega)
  · repeat' (first | (with_reducible apply St.o; constructor) <;> intro _ | (with_reducible first | refine LenR_i fun _ => ?_ | refine And.intro (by omega) ?_ | (apply Sp.o; constructor) | refine mkl_own ?_ | refine frz0_i ?_ | refine any_i [] ?_) | ((with_reducible apply Sc.o true; constructor); simp only [lP,seval,List.length_map,k1,k2,k3,k4,k5]; refine ⟨_,h32,?_⟩; rintro _ _ ⟨rfl,rfl⟩; simp only [lA,lP,ptrCells,ptrAdd,isNil,readsV,readsP,isCall,wrote,srcOf,seval,List.length_map,k1,k2,k3,k4,k5]) | simp (maxSteps := 1000000) (disch := omega) only [lE,ptrCells,ptrAdd,isNil,readsV,readsP,isCall,wrote,srcOf,seval,List.length_map,k1,k2,k3,k4,k5])
    all_goals first
      | (exfalso; omega)
      | (clear h32 h33 h34 h35 h36 h37
         refine keep_b ?_
         simp only [eventOk]
         simp [*]
         done)
      | (clear h32 h33 h34 h35 h36 h37
         refine keep_b ?_
         simp only [eventOk]
         simp_all
         done)
      | (clear h32 h33 h34 h35 h36 h37
         refine keep_b ?_
         simp only [eventOk]
         simp_all
         omega)
theorem c11 (h : List Hap) : ACalls E.P 11 [.view 5 (h.map Hap.av)] [] (fun r H => r = .bool (rightB h) ∧ H = []) := by
  have hmax := maxLen_eq
  have h11 : ∀ i, ACalls E.P 38 [.view 5 ((h.map Hap.av).take i), .agg (h.getD i default).cs] [] (fun r H => r = .bool (eventOk (h.take i) (h.getD i default)) ∧ H = []) := fun i => by
    have := c38 (h.take i) (h.getD i default)
    rwa [List.map_take, hap_av] at this
  refine ok11.acalls hE hm (by simp) fun N hN => ?_
  unfold mc11
  simp only [lA,ptrCells,ptrAdd,isNil,readsV,readsP,isCall,wrote,srcOf,seval]
  refine loop_i (fun i : Nat => i ≤ h.length ∧ ∀ k,k < i → eventOk (h.take k) (h.getD k default) = true) (fun i => ⟨[(0, .view 5 (h.map Hap.av)),(3, .int .i64 i)], []⟩) (fun i => h.length - i) 0 ⟨by omega,by omega⟩ (Ent.to [] false (by simp) (by simp) rfl (by simp only [lP,seval] <;> (try simp) <;> (try omega)) (by simp only [lP,seval] <;> (try simp) <;> (try omega))) ?_
  rintro i ⟨hi, hn⟩
  by_cases hil : i < h.length
  · have h11i := h11 i
    have hbad : eventOk (h.take i) (h.getD i default) = false → rightB h = false := fun hb => by
      unfold rightB
      rw [decide_eq_false, Bool.false_and]
      intro q
      rw [q i hil] at hb; cases hb
    have hgood : eventOk (h.take i) (h.getD i default) = true → ∀ k, k < i + 1 → eventOk (h.take k) (h.getD k default) = true := fun hq k hk => by
      by_cases hki : k < i
      · exact hn k hki
      · have : k = i := by omega
        subst this
        exact hq
    generalize eventOk (h.take i) (h.getD i default) = e at *
    generalize hx : h.getD i default = x at *
    repeat' (first | (with_reducible apply St.o; constructor) <;> intro _ | (with_reducible first | refine LenR_i fun _ => ?_ | refine And.intro (by omega) ?_ | (apply Sp.o; constructor) | refine mkl_own ?_ | refine frz0_i ?_ | refine any_i [] ?_) | ((with_reducible apply Sc.o true; constructor); simp only [lP,seval,IdxR_haps,hx,Int.toNat_natCast,List.length_map]; refine ⟨_,h11i,?_⟩; rintro _ _ ⟨rfl,rfl⟩; simp only [lA,lP,ptrCells,ptrAdd,isNil,readsV,readsP,isCall,wrote,srcOf,seval,IdxR_haps,hx,Int.toNat_natCast,List.length_map]) | simp (maxSteps := 1000000) (disch := omega) only [lE,ptrCells,ptrAdd,isNil,readsV,readsP,isCall,wrote,srcOf,seval,IdxR_haps,hx,Int.toNat_natCast,List.length_map])
    all_goals try (exfalso; omega)
    · rename_i he
      exact keep_b (hbad (by simpa using he)).symm
    · rename_i he
      exact back_i (i + 1) ⟨by omega,hgood (by simpa using he)⟩ (by omega) (Ent.to [] false (by simp) (by simp) rfl (by simp only [lP,seval] <;> (try simp) <;> (try omega)) (by simp only [lP,seval] <;> (try simp) <;> (try omega)))
  · have hie : i = h.length := by omega
    subst hie
    repeat' (first | (with_reducible apply St.o; constructor) <;> intro _ | (with_reducible first | refine LenR_i fun _ => ?_ | refine And.intro (by omega) ?_ | (apply Sp.o; constructor) | refine mkl_own ?_ | refine frz0_i ?_) | simp (maxSteps := 1000000) (disch := omega) only [lE,ptrCells,ptrAdd,isNil,readsV,readsP,isCall,wrote,srcOf,seval,List.length_map,Int.lt_irrefl,decide_false])
    refine keep_b ?_
    unfold rightB
    rw [decide_eq_true hn, Bool.true_and, decide_eq_decide]
    omega
end Go.Proofs.Try


namespace Go.Proofs.Try
open Go.Proofs.Tryz
open Go.Al
set_option maxRecDepth 100000
def mc4 : MC :=
(.seq (.ops [(none,.v (.mov 2 (.c (.bool false))))])
(.seq (.seq (.ops [(none,.v (.mov 5 (.t 0))),
(none,.p (.len 6 (.t 5))),
(none,.v (.mov 7 (.c (.int .i64 0))))])
(.block 0 (.loop (.seq (.ops [(none,.v (.bin 8 .lss false (.t 7) (.t 6)))])
(.seq (.cond 8
.skip
(.exit 0))
(.seq (.block 1 (.seq (.ops [(none,.p (.idx 9 5 (.t 5) (.t 7))),
(none,.v (.load 10 true 5 (.t 9))),
(none,.e (.alloc 4 [(.int .i64 0),(.int .i64 0),(.int .i64 0),(.raw (.slice none 0 0)),(.raw (.slice none 0 0))])),
(none,.e (.store 5 true (.t 4) (.t 10)))])
(.seq (.ops [(none,.v (.fld 11 3 (.t 4))),
(none,.v (.load 12 false 1 (.t 11))),
(none,.p (.len 13 (.t 12))),
(none,.v (.bin 14 .gtr false (.t 13) (.c (.int .i64 66)))),
(none,.v (.mov 15 (.t 14))),
(some (15,false),.v (.fld 16 4 (.t 4))),
(some (15,false),.v (.load 17 false 1 (.t 16))),
(some (15,false),.p (.len 18 (.t 17))),
(some (15,false),.v (.bin 19 .gtr false (.t 18) (.c (.int .i64 60)))),
(none,.v (.pick 20 (.t 15) (.c (.bool true)) (.t 19)))])
(.cond 20
(.seq (.ops [(none,.v (.mov 2 (.c (.bool false))))])
.ret)
.skip))))
(.ops [(none,.v (.bin 21 .add false (.t 7) (.c (.int .i64 1)))),
(none,.v (.mov 7 (.t 21)))])))))))
(.seq (.ops [(none,.v (.mov 22 (.t 0))),
(none,.p (.len 23 (.t 22))),
(none,.v (.bin 24 .leq false (.t 23) (.c (.int .i64 410)))),
(none,.v (.mov 2 (.t 24)))])
.ret)))
theorem ok4 : FnOk E 4 25 [.tmp 2] mc4 := .of func4 (by kernel_rfl) (by kernel_rfl) (by kernel_rfl) (by kernel_rfl) (by kernel_rfl)
def mc19 : MC :=
(.seq (.ops [(none,.v (.mov 2 (.c (.int .i64 0))))])
(.seq (.ops [(none,.v (.mov 3 (.c (.int .i64 0))))])
(.seq (.seq (.ops [(none,.v (.mov 6 (.t 0))),
(none,.p (.len 7 (.t 6))),
(none,.v (.mov 8 (.c (.int .i64 0))))])
(.block 0 (.loop (.seq (.ops [(none,.v (.bin 9 .lss false (.t 8) (.t 7)))])
(.seq (.cond 9
.skip
(.exit 0))
(.seq (.block 1 (.seq (.ops [(none,.p (.idx 10 5 (.t 6) (.t 8))),
(none,.v (.load 11 true 5 (.t 10))),
(none,.e (.alloc 5 [(.int .i64 0),(.int .i64 0),(.int .i64 0),(.raw (.slice none 0 0)),(.raw (.slice none 0 0))])),
(none,.e (.store 5 true (.t 5) (.t 11)))])
(.seq (.ops [(none,.v (.fld 12 0 (.t 5))),
(none,.v (.load 13 false 1 (.t 12))),
(none,.v (.bin 14 .eql false (.t 13) (.c (.int .i64 2)))),
(none,.v (.mov 15 (.t 14))),
(some (15,false),.v (.fld 16 0 (.t 5))),
(some (15,false),.v (.load 17 false 1 (.t 16))),
(some (15,false),.v (.bin 18 .eql false (.t 17) (.c (.int .i64 5)))),
(none,.v (.pick 19 (.t 15) (.c (.bool true)) (.t 18)))])
(.cond 19
(.ops [(none,.v (.mov 20 (.t 3))),
(none,.v (.fld 21 2 (.t 5))),
(none,.v (.load 22 false 1 (.t 21))),
(none,.v (.max 23 [(.t 20),(.t 22)])),
(none,.v (.mov 3 (.t 23)))])
.skip))))
(.ops [(none,.v (.bin 24 .add false (.t 8) (.c (.int .i64 1)))),
(none,.v (.mov 8 (.t 24)))])))))))
(.seq (.ops [(none,.v (.mov 25 (.t 3))),
(none,.v (.mov 2 (.t 25)))])
.ret))))
theorem ok19 : FnOk E 19 26 [.tmp 2] mc19 := .of func19 (by kernel_rfl) (by kernel_rfl) (by kernel_rfl) (by kernel_rfl) (by kernel_rfl)
def mc46 : MC :=
(.seq (.ops [(none,.e (.box 2 (.t 0))),
(none,.e (.box 3 (.t 1))),
(none,.v (.mov 4 (.c (.int .i64 0))))])
(.seq (.any false (.pure0 none (.v (.fld 5 0 (.t 2)))
(.pure0 none (.v (.load 6 false 1 (.t 5)))
(.pure0 none (.v (.fld 7 0 (.t 3)))
(.pure0 none (.v (.load 8 false 1 (.t 7)))
(.pure0 none (.v (.fld 10 1 (.t 2)))
(.pure0 none (.v (.load 11 false 1 (.t 10)))
(.pure0 none (.v (.fld 12 1 (.t 3)))
(.pure0 none (.v (.load 13 false 1 (.t 12)))
(.alt none (.e (.call (some 9) 72 [(.t 6),(.t 8)]))
(.base (.alt none (.e (.call (some 14) 72 [(.t 11),(.t 13)]))
(.base (.alt none (.e (.mkl 15 3 1 2 (.int .i64 0) [(0,(.t 9)),(1,(.t 14))]))
(.base (.alt none (.e (.call (some 16) 71 [(.t 15)]))
(.base (.pure0 none (.v (.mov 4 (.t 16)))
.done))
.stop))
.stop))
.stop))
.stop))))))))))
.ret))
theorem ok46 : FnOk E 46 17 [.tmp 4] mc46 := .of func46 (by kernel_rfl) (by kernel_rfl) (by kernel_rfl) (by kernel_rfl) (by kernel_rfl)
def mc71 : MC :=
(.seq (.ops [(none,.v (.mov 2 (.c (.int .i64 0))))])
(.seq (.ops [(none,.v (.mov 3 (.c (.int .i64 0))))])
(.seq (.seq (.ops [(none,.v (.mov 6 (.t 0))),
(none,.p (.len 7 (.t 6))),
(none,.v (.mov 8 (.c (.int .i64 0))))])
(.block 0 (.loop (.seq (.ops [(none,.v (.bin 9 .lss false (.t 8) (.t 7)))])
(.seq (.cond 9
.skip
(.exit 0))
(.seq (.block 1 (.seq (.ops [(none,.p (.idx 10 1 (.t 6) (.t 8))),
(none,.v (.load 11 false 1 (.t 10))),
(none,.v (.mov 5 (.t 11)))])
(.seq (.ops [(none,.v (.mov 12 (.t 5))),
(none,.v (.mov 13 (.t 3))),
(none,.v (.bin 14 .neq false (.t 12) (.t 13)))])
(.cond 14
(.seq (.ops [(none,.v (.mov 15 (.t 5))),
(none,.v (.mov 2 (.t 15)))])
.ret)
.skip))))
(.ops [(none,.v (.bin 16 .add false (.t 8) (.c (.int .i64 1)))),
(none,.v (.mov 8 (.t 16)))])))))))
(.seq (.ops [(none,.v (.mov 17 (.t 3))),
(none,.v (.mov 2 (.t 17)))])
.ret))))
theorem ok71 : FnOk E 71 18 [.tmp 2] mc71 := .of func71 (by kernel_rfl) (by kernel_rfl) (by kernel_rfl) (by kernel_rfl) (by kernel_rfl)
def mc72 : MC :=
(.seq (.ops [(none,.v (.mov 4 (.c (.int .i64 0))))])
(.seq (.ops [(none,.v (.mov 7 (.t 0))),
(none,.e (.call (some 8) 81 [(.t 7)])),
(none,.v (.mov 5 (.t 8)))])
(.seq (.ops [(none,.v (.mov 9 (.t 1))),
(none,.e (.call (some 10) 81 [(.t 9)])),
(none,.v (.mov 6 (.t 10)))])
(.seq (.seq (.ops [(none,.v (.mov 11 (.t 5)))])
(.cond 11
(.seq (.seq (.ops [(none,.v (.mov 12 (.t 6)))])
(.cond 12
(.seq (.ops [(none,.v (.mov 4 (.c (.int .i64 0))))])
.ret)
.skip))
(.seq (.ops [(none,.v (.mov 4 (.c (.int .i64 (-1)))))])
.ret))
.skip))
(.seq (.seq (.ops [(none,.v (.mov 13 (.t 6)))])
(.cond 13
(.seq (.ops [(none,.v (.mov 4 (.c (.int .i64 1))))])
.ret)
.skip))
(.seq (.seq (.ops [(none,.v (.mov 14 (.t 0))),
(none,.v (.mov 15 (.t 1))),
(none,.v (.bin 16 .lss false (.t 14) (.t 15)))])
(.cond 16
(.seq (.ops [(none,.v (.mov 4 (.c (.int .i64 (-1)))))])
.ret)
.skip))
(.seq (.seq (.ops [(none,.v (.mov 17 (.t 0))),
(none,.v (.mov 18 (.t 1))),
(none,.v (.bin 19 .gtr false (.t 17) (.t 18)))])
(.cond 19
(.seq (.ops [(none,.v (.mov 4 (.c (.int .i64 1))))])
.ret)
.skip))
(.seq (.ops [(none,.v (.mov 4 (.c (.int .i64 0))))])
.ret))))))))
theorem ok72 : FnOk E 72 20 [.tmp 4] mc72 := .of func72 (by kernel_rfl) (by kernel_rfl) (by kernel_rfl) (by kernel_rfl) (by kernel_rfl)
def mc81 : MC :=
(.seq (.ops [(none,.v (.mov 2 (.c (.bool false))))])
(.seq (.ops [(none,.v (.mov 3 (.t 0))),
(none,.v (.mov 4 (.t 0))),
(none,.v (.bin 5 .neq false (.t 3) (.t 4))),
(none,.v (.mov 2 (.t 5)))])
.ret))
theorem ok81 : FnOk E 81 6 [.tmp 2] mc81 := .of func81 (by kernel_rfl) (by kernel_rfl) (by kernel_rfl) (by kernel_rfl) (by kernel_rfl)
end Go.Proofs.Try
namespace Go.Proofs.Try
open Go.Proofs.Tryz
open Go.Al
set_option linter.unusedVariables false
set_option linter.unusedSimpArgs false
set_option maxRecDepth 20000
set_option maxHeartbeats 8000000

theorem vl_eq (x y : VL) : (decide (x.k = y.k) && (decide (x.n = y.n) && (decide (x.s = y.s) && true))) = decide (x = y) := by
  obtain ⟨a, b, c⟩ := x
  obtain ⟨d, e, f⟩ := y
  simp only [Bool.and_true,VL.mk.injEq,Bool.decide_and]
theorem IdxR_int {P : Program} {m : Nat} {N : FN} {xs : List Int} {n : Int} {d : Nat} {c : Kn} (h0 : 0 ≤ n) (h1 : n < xs.length) : IdxR P m N (xs.map (AV.int .i64)) n d c = rK P m N c d (.vp [.int .i64 (xs.getD n.toNat default)]) :=
  IdxR_map (cs := fun r => [.int .i64 r]) (fun _ => rfl) h0 h1
theorem c4 (h : List Hap) : ACalls E.P 4 [.view 5 (h.map Hap.av)] [] (fun r H => r = .bool (fewB h) ∧ H = []) := by
  have hmax := maxLen_eq
  refine ok4.acalls hE hm (by simp) fun N hN => ?_
  unfold mc4
  simp only [lA,ptrCells,ptrAdd,isNil,readsV,readsP,isCall,wrote,srcOf,seval]
  refine LenR_i fun hl => ?_
  rw [List.length_map, hmax] at hl
  simp only [lA,ptrCells,ptrAdd,isNil,readsV,readsP,isCall,wrote,srcOf,seval,List.length_map]
  refine loop_i (fun i : Nat => i ≤ h.length ∧ ∀ x ∈ h.take i,x.ws.length ≤ 66 ∧ x.rs.length ≤ 60) (fun i => ⟨[(0, .view 5 (h.map Hap.av)),(5, .view 5 (h.map Hap.av)),(6, .int .i64 h.length),(7, .int .i64 i)], []⟩) (fun i => h.length - i) 0 ⟨by omega,by simp⟩ (Ent.to [] false (by simp) (by simp) rfl (by simp only [lP,seval] <;> (try simp) <;> (try omega)) (by simp only [lP,seval] <;> (try simp) <;> (try omega))) ?_
  rintro i ⟨hi, hn⟩
  by_cases hil : i < h.length
  · have hbad : ¬ ((h.getD i default).ws.length ≤ 66 ∧ (h.getD i default).rs.length ≤ 60) → fewB h = false := fun hb => by
      unfold fewB
      rw [decide_eq_false, Bool.false_and]
      exact fun q => hb (q _ (getD_mem hil))
    have hgood : ((h.getD i default).ws.length ≤ 66 ∧ (h.getD i default).rs.length ≤ 60) → ∀ x ∈ h.take (i + 1), x.ws.length ≤ 66 ∧ x.rs.length ≤ 60 := fun q => all_step hil hn q
    generalize hx : h.getD i default = x at *
    repeat' (first | (with_reducible apply St.o; constructor) <;> intro _ | (with_reducible first | refine LenR_i fun _ => ?_ | refine And.intro (by omega) ?_ | (apply Sp.o; constructor) | refine mkl_own ?_ | refine frz0_i ?_) | simp (maxSteps := 1000000) (disch := omega) only [lE,ptrCells,ptrAdd,isNil,readsV,readsP,isCall,wrote,srcOf,seval,IdxR_haps,hx,Int.toNat_natCast,List.length_map,fillE,List.length_cons,List.length_nil])
    all_goals first
      | (exfalso; omega)
      | (refine keep_b (hbad ?_).symm; omega)
      | (refine back_i (i + 1) ⟨by omega,hgood ?_⟩ (by omega) (Ent.to [] false (by simp) (by simp) rfl (by simp only [lP,seval] <;> (try simp) <;> (try omega)) (by simp only [lP,seval] <;> (try simp) <;> (try omega))); omega)
  · have hie : i = h.length := by omega
    subst hie
    rw [List.take_length] at hn
    repeat' (first | (with_reducible apply St.o; constructor) <;> intro _ | (with_reducible first | refine LenR_i fun _ => ?_ | refine And.intro (by omega) ?_ | (apply Sp.o; constructor) | refine mkl_own ?_ | refine frz0_i ?_) | simp (maxSteps := 1000000) (disch := omega) only [lE,ptrCells,ptrAdd,isNil,readsV,readsP,isCall,wrote,srcOf,seval,List.length_map,Int.lt_irrefl,decide_false])
    refine keep_b ?_
    unfold fewB
    rw [decide_eq_true hn, Bool.true_and, decide_eq_decide]
    omega
theorem c19 (h : List Hap) : ACalls E.P 19 [.view 5 (h.map Hap.av)] [] (fun r H => r = .int .i64 (lenH h) ∧ H = []) := by
  have hmax := maxLen_eq
  refine ok19.acalls hE hm (by simp) fun N hN => ?_
  unfold mc19
  simp only [lA,ptrCells,ptrAdd,isNil,readsV,readsP,isCall,wrote,srcOf,seval]
  refine LenR_i fun hl => ?_
  rw [List.length_map, hmax] at hl
  simp only [lA,ptrCells,ptrAdd,isNil,readsV,readsP,isCall,wrote,srcOf,seval,List.length_map]
  refine loop_i (fun i : Nat => i ≤ h.length) (fun i => ⟨[(3, .int .i64 (lenH (h.take i))),(6, .view 5 (h.map Hap.av)),(7, .int .i64 h.length),(8, .int .i64 i)], []⟩) (fun i => h.length - i) 0 (by omega) (Ent.to [] false (by simp) (by simp) rfl (by simp only [lP,seval,List.take_zero,lenH,List.foldl_nil] <;> (try simp) <;> (try omega)) (by simp only [lP,seval,List.take_zero,lenH,List.foldl_nil] <;> (try simp) <;> (try omega))) ?_
  rintro i hi
  by_cases hil : i < h.length
  · have hnx := lenH_next hil
    generalize lenH (h.take i) = n at *
    generalize hx : h.getD i default = x at *
    have hm : max n x.st = if x.st > n then x.st else n := by split <;> omega
    rw [hm] at hnx
    repeat' (first | (with_reducible apply St.o; constructor) <;> intro _ | (with_reducible first | refine LenR_i fun _ => ?_ | refine And.intro (by omega) ?_ | (apply Sp.o; constructor) | refine mkl_own ?_ | refine frz0_i ?_) | simp (maxSteps := 1000000) (disch := omega) only [lE,ptrCells,ptrAdd,isNil,readsV,readsP,isCall,wrote,srcOf,seval,IdxR_haps,hx,Int.toNat_natCast,List.length_map,fillE,List.length_cons,List.length_nil])
    all_goals try (exfalso; omega)
    all_goals first
      | (rw [if_pos (by omega)] at hnx; exact back_i (i + 1) (by omega) (by omega) (Ent.to [] false (by simp) (by simp) rfl (by simp only [lP,seval,hnx] <;> (try simp) <;> (try omega)) (by simp only [lP,seval,hnx] <;> (try simp) <;> (try omega))))
      | (rw [if_neg (by omega)] at hnx; exact back_i (i + 1) (by omega) (by omega) (Ent.to [] false (by simp) (by simp) rfl (by simp only [lP,seval,hnx] <;> (try simp) <;> (try omega)) (by simp only [lP,seval,hnx] <;> (try simp) <;> (try omega))))
  · have hie : i = h.length := by omega
    subst hie
    rw [List.take_length]
    repeat' (first | (with_reducible apply St.o; constructor) <;> intro _ | (with_reducible first | refine LenR_i fun _ => ?_ | refine And.intro (by omega) ?_ | (apply Sp.o; constructor) | refine mkl_own ?_ | refine frz0_i ?_) | simp (maxSteps := 1000000) (disch := omega) only [lE,ptrCells,ptrAdd,isNil,readsV,readsP,isCall,wrote,srcOf,seval,List.length_map,Int.lt_irrefl,decide_false])
    exact keep_n rfl
theorem c81 (a : Int) : ACalls E.P 81 [.int .i64 a] [] (fun r H => r = .bool false ∧ H = []) := by
  refine ok81.acalls hE hm (by simp) fun N hN => ?_
  unfold mc81
  simp only [lA,ptrCells,ptrAdd,isNil,readsV,readsP,isCall,wrote,srcOf,seval]
  repeat' (first | (with_reducible apply St.o; constructor) <;> intro _ | (with_reducible first | refine LenR_i fun _ => ?_ | refine And.intro (by omega) ?_ | (apply Sp.o; constructor) | refine mkl_own ?_ | refine frz0_i ?_) | ((with_reducible refine keep0_i ?_); simp only [lP,seval]) | simp (maxSteps := 1000000) (disch := omega) only [lE,ptrCells,ptrAdd,isNil,readsV,readsP,isCall,wrote,srcOf,seval])
  all_goals simp
theorem c72 (a b : Int) : ACalls E.P 72 [.int .i64 a, .int .i64 b] [] (fun r H => r = .int .i64 (sgn a b) ∧ H = []) := by
  refine ok72.acalls hE hm (by simp) fun N hN => ?_
  unfold mc72
  simp only [lA,ptrCells,ptrAdd,isNil,readsV,readsP,isCall,wrote,srcOf,seval]
  repeat' (first | (with_reducible apply St.o; constructor) <;> intro _ | (with_reducible first | refine LenR_i fun _ => ?_ | refine And.intro (by omega) ?_ | (apply Sp.o; constructor) | refine mkl_own ?_ | refine frz0_i ?_) | ((with_reducible apply Sc.o true; constructor); simp only [lP,seval]; (first | refine ⟨_,c81 a,?_⟩ | refine ⟨_,c81 b,?_⟩); rintro _ _ ⟨rfl,rfl⟩; simp only [lA,lP,ptrCells,ptrAdd,isNil,readsV,readsP,isCall,wrote,srcOf,seval]) | ((with_reducible refine keep0_i ?_); simp only [lP,seval]) | simp (maxSteps := 1000000) (disch := omega) only [lE,ptrCells,ptrAdd,isNil,readsV,readsP,isCall,wrote,srcOf,seval])
  all_goals (simp only [sgn,AV.int.injEq,true_and]; (repeat' split) <;> omega)
theorem c71 (l : List Int) : ACalls E.P 71 [.view 1 (l.map (AV.int .i64))] [] (fun r H => r = .int .i64 (orI l) ∧ H = []) := by
  have hmax := maxLen_eq
  refine ok71.acalls hE hm (by simp) fun N hN => ?_
  unfold mc71
  simp only [lA,ptrCells,ptrAdd,isNil,readsV,readsP,isCall,wrote,srcOf,seval]
  refine LenR_i fun hl => ?_
  rw [List.length_map, hmax] at hl
  simp only [lA,ptrCells,ptrAdd,isNil,readsV,readsP,isCall,wrote,srcOf,seval,List.length_map]
  refine loop_i (fun i : Nat => i ≤ l.length ∧ orI l = orI (l.drop i)) (fun i => ⟨[(3, .int .i64 0),(6, .view 1 (l.map (AV.int .i64))),(7, .int .i64 l.length),(8, .int .i64 i)], []⟩) (fun i => l.length - i) 0 ⟨by omega,by simp⟩ (Ent.to [] false (by simp) (by simp) rfl (by simp only [lP,seval] <;> (try simp) <;> (try omega)) (by simp only [lP,seval] <;> (try simp) <;> (try omega))) ?_
  rintro i ⟨hi, ho⟩
  by_cases hil : i < l.length
  · have hd := orI_drop hil
    rw [← ho] at hd
    generalize hx : l.getD i default = x at *
    have hx0 : l.getD i 0 = x := hx
    repeat' (first | (with_reducible apply St.o; constructor) <;> intro _ | (with_reducible first | refine LenR_i fun _ => ?_ | refine And.intro (by omega) ?_ | (apply Sp.o; constructor) | refine mkl_own ?_ | refine frz0_i ?_) | simp (maxSteps := 1000000) (disch := omega) only [lE,ptrCells,ptrAdd,isNil,readsV,readsP,isCall,wrote,srcOf,seval,IdxR_int,hx,hx0,Int.toNat_natCast,List.length_map])
    all_goals try (exfalso; omega)
    · rename_i h1
      rw [if_neg h1] at hd
      exact keep_n hd.symm
    · rename_i h1
      rw [if_pos h1] at hd
      exact back_i (i + 1) ⟨by omega,hd⟩ (by omega) (Ent.to [] false (by simp) (by simp) rfl (by simp only [lP,seval] <;> (try simp) <;> (try omega)) (by simp only [lP,seval] <;> (try simp) <;> (try omega)))
  · have hie : i = l.length := by omega
    subst hie
    repeat' (first | (with_reducible apply St.o; constructor) <;> intro _ | (with_reducible first | refine LenR_i fun _ => ?_ | refine And.intro (by omega) ?_ | (apply Sp.o; constructor) | refine mkl_own ?_ | refine frz0_i ?_) | simp (maxSteps := 1000000) (disch := omega) only [lE,ptrCells,ptrAdd,isNil,readsV,readsP,isCall,wrote,srcOf,seval,List.length_map,Int.lt_irrefl,decide_false])
    exact keep_n (by rw [ho, List.drop_eq_nil_of_le (by omega)]; rfl)
theorem c46 (a b : Hd) : ACalls E.P 46 [a.av, b.av] [] (fun r H => r = .int .i64 (a.cmp b) ∧ H = []) := by
  have h1 := c72 a.t b.t
  have h2 := c72 a.r b.r
  have h3 := c71 [sgn a.t b.t, sgn a.r b.r]
  simp only [List.map_cons,List.map_nil] at h3
  refine ok46.acalls hE hm (by simp) fun N hN => ?_
  unfold mc46
  simp only [lA,ptrCells,ptrAdd,isNil,readsV,readsP,isCall,wrote,srcOf,seval,hd_av]
  repeat' (first | (with_reducible apply St.o; constructor) <;> intro _ | ((with_reducible refine mkl_view ?_ ?_ ?_); (focus decide); (focus rfl)) | (with_reducible first | refine LenR_i fun _ => ?_ | refine And.intro (by omega) ?_ | (apply Sp.o; constructor) | refine mkl_own ?_ | refine frz0_i ?_ | refine any_i [] ?_) | ((with_reducible apply Sc.o true; constructor); simp only [lP,seval,fillE,setAll]; (first | refine ⟨_,h1,?_⟩ | refine ⟨_,h2,?_⟩ | refine ⟨_,h3,?_⟩); rintro _ _ ⟨rfl,rfl⟩; simp only [lA,lP,ptrCells,ptrAdd,isNil,readsV,readsP,isCall,wrote,srcOf,seval,fillE,setAll]) | simp (maxSteps := 1000000) (disch := omega) only [lE,ptrCells,ptrAdd,isNil,readsV,readsP,isCall,wrote,srcOf,seval,fillE,setAll])
  all_goals exact keep_n rfl
end Go.Proofs.Try

