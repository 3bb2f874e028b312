/-
  A part of the proof: see the text of the law.
-/
import Derived.Test.YtmmedfdilaijhaaEab
set_option linter.unusedSimpArgs false
set_option linter.unusedVariables false
namespace Go.Proofs.Try
open Go.Al
set_option maxRecDepth 100000
/-- alum/alumref30.Right -/
def mc6 : MC :=
 (.seq (.ops [(none, (.v (.mov 2 (.c (.bool false)))))])
 (.seq (.seq (.ops [(none, (.v (.mov 3 (.c (.int .i64 0)))))])
 (.block 0 (.loop (.seq (.seq (.ops [(none, (.v (.mov 5 (.t 3)))),
 (none, (.v (.mov 6 (.t 0)))),
 (none, (.p (.len 7 (.t 6)))),
 (none, (.v (.bin 8 .lss false (.t 5) (.t 7))))])
 (.cond 8
 .skip
 (.exit 0)))
 (.seq (.block 1 (.seq (.any false (.pure0 none (.v (.mov 11 (.t 0)))
 (.pure0 none (.v (.mov 12 (.t 3)))
 (.pure0 none (.p (.pre 13 5 (.t 11) (some (.t 12))))
 (.pure0 none (.v (.mov 14 (.t 0)))
 (.pure0 none (.v (.mov 15 (.t 3)))
 (.pure0 none (.p (.idx 16 5 (.t 14) (.t 15)))
 (.pure0 none (.v (.load 17 true 5 (.t 16)))
 (.alt none (.e (.call (some 18) 11 [(.t 13), (.t 17)]))
 (.base (.pure0 none (.v (.mov 4 (.t 18)))
 .done))
 .stop)))))))))
 (.seq (.ops [(none, (.v (.mov 19 (.t 4)))),
 (none, (.v (.not 20 (.t 19))))])
 (.cond 20
 (.seq (.ops [(none, (.v (.mov 2 (.c (.bool false)))))])
 .ret)
 .skip))))
 (.ops [(none, (.v (.mov 9 (.t 3)))),
 (none, (.v (.bin 10 .add false (.t 9) (.c (.int .i64 1))))),
 (none, (.v (.mov 3 (.t 10))))]))))))
 (.seq (.ops [(none, (.v (.mov 21 (.t 0)))),
 (none, (.p (.len 22 (.t 21)))),
 (none, (.v (.bin 23 .leq false (.t 22) (.c (.int .i64 400))))),
 (none, (.v (.mov 2 (.t 23))))])
 .ret)))
theorem ok6 : FnOk E 6 24 [.tmp 2] mc6 := .of func6 (by kernel_rfl) (by kernel_rfl) (by kernel_rfl) (by kernel_rfl) (by kernel_rfl)
/-- alum/alumref30.event -/
def mc11 : MC :=
 (.seq (.ops [(none, (.e (.box 3 (.t 1)))),
 (none, (.v (.mov 4 (.c (.bool false)))))])
 (.seq (.seq (.ops [(none, (.v (.fld 6 0 (.t 3)))),
 (none, (.v (.load 7 false 1 (.t 6)))),
 (none, (.v (.bin 8 .neq false (.t 7) (.c (.int .i64 1))))),
 (none, (.v (.mov 9 (.t 8)))),
 ((some (9, true)), (.v (.fld 10 3 (.t 3)))),
 ((some (9, true)), (.v (.load 11 false 1 (.t 10)))),
 ((some (9, true)), (.p (.len 12 (.t 11)))),
 ((some (9, true)), (.v (.bin 13 .gtr false (.t 12) (.c (.int .i64 0))))),
 (none, (.v (.pick 14 (.t 9) (.t 13) (.c (.bool false))))),
 (none, (.v (.mov 15 (.t 14)))),
 ((some (15, false)), (.v (.fld 16 0 (.t 3)))),
 ((some (15, false)), (.v (.load 17 false 1 (.t 16)))),
 ((some (15, false)), (.v (.bin 18 .neq false (.t 17) (.c (.int .i64 5))))),
 ((some (15, false)), (.v (.mov 19 (.t 18)))),
 ((some (19, true)), (.v (.fld 20 4 (.t 3)))),
 ((some (19, true)), (.v (.load 21 false 1 (.t 20)))),
 ((some (19, true)), (.p (.len 22 (.t 21)))),
 ((some (19, true)), (.v (.bin 23 .gtr false (.t 22) (.c (.int .i64 0))))),
 ((some (15, false)), (.v (.pick 24 (.t 19) (.t 23) (.c (.bool false))))),
 (none, (.v (.pick 25 (.t 15) (.c (.bool true)) (.t 24))))])
 (.cond 25
 (.seq (.ops [(none, (.v (.mov 4 (.c (.bool false)))))])
 .ret)
 .skip))
 (.seq (.seq (.ops [(none, (.v (.fld 26 0 (.t 3)))),
 (none, (.v (.load 27 false 1 (.t 26)))),
 (none, (.v (.bin 28 .neq false (.t 27) (.c (.int .i64 2))))),
 (none, (.v (.mov 29 (.t 28)))),
 ((some (29, true)), (.v (.fld 30 0 (.t 3)))),
 ((some (29, true)), (.v (.load 31 false 1 (.t 30)))),
 ((some (29, true)), (.v (.bin 32 .neq false (.t 31) (.c (.int .i64 5))))),
 (none, (.v (.pick 33 (.t 29) (.t 32) (.c (.bool false))))),
 (none, (.v (.mov 34 (.t 33)))),
 ((some (34, true)), (.v (.fld 35 2 (.t 3)))),
 ((some (34, true)), (.v (.load 36 false 1 (.t 35)))),
 ((some (34, true)), (.v (.bin 37 .neq false (.t 36) (.c (.int .i64 0))))),
 (none, (.v (.pick 38 (.t 34) (.t 37) (.c (.bool false))))),
 (none, (.v (.mov 39 (.t 38)))),
 ((some (39, false)), (.v (.fld 40 0 (.t 3)))),
 ((some (39, false)), (.v (.load 41 false 1 (.t 40)))),
 ((some (39, false)), (.v (.bin 42 .eql false (.t 41) (.c (.int .i64 4))))),
 ((some (39, false)), (.v (.mov 43 (.t 42)))),
 ((some (43, false)), (.v (.fld 44 0 (.t 3)))),
 ((some (43, false)), (.v (.load 45 false 1 (.t 44)))),
 ((some (43, false)), (.v (.bin 46 .eql false (.t 45) (.c (.int .i64 5))))),
 ((some (39, false)), (.v (.pick 47 (.t 43) (.c (.bool true)) (.t 46)))),
 ((some (39, false)), (.v (.mov 48 (.t 47)))),
 ((some (48, true)), (.v (.fld 49 1 (.t 3)))),
 ((some (48, true)), (.v (.load 50 false 1 (.t 49)))),
 ((some (48, true)), (.v (.bin 51 .neq false (.t 50) (.c (.int .i64 0))))),
 ((some (39, false)), (.v (.pick 52 (.t 48) (.t 51) (.c (.bool false))))),
 (none, (.v (.pick 53 (.t 39) (.c (.bool true)) (.t 52))))])
 (.cond 53
 (.seq (.ops [(none, (.v (.mov 4 (.c (.bool false)))))])
 .ret)
 .skip))
 (.seq (.ops [(none, (.v (.mov 54 (.t 0)))),
 (none, (.v (.fld 55 1 (.t 3)))),
 (none, (.v (.load 56 false 1 (.t 55)))),
 (none, (.e (.call (some 57) 32 [(.t 54), (.t 56)]))),
 (none, (.v (.mov 5 (.t 57))))])
 (.seq (.seq (.ops [(none, (.v (.fld 58 0 (.t 3)))),
 (none, (.v (.load 59 false 1 (.t 58))))])
 (.block 0 (.seq (.ops [(none, (.v (.bin 61 .eql false (.t 59) (.c (.int .i64 1))))),
 (none, (.v (.mov 60 (.t 61))))])
 (.cond 60
 (.seq (.ops [(none, (.v (.fld 62 1 (.t 3)))),
 (none, (.v (.load 63 false 1 (.t 62)))),
 (none, (.v (.bin 64 .geq false (.t 63) (.c (.int .i64 1))))),
 (none, (.v (.mov 65 (.t 64)))),
 ((some (65, true)), (.v (.mov 66 (.t 0)))),
 ((some (65, true)), (.v (.fld 67 1 (.t 3)))),
 ((some (65, true)), (.v (.load 68 false 1 (.t 67)))),
 ((some (65, true)), (.e (.call (some 69) 33 [(.t 66), (.t 68)]))),
 ((some (65, true)), (.v (.bin 70 .lss false (.t 69) (.c (.int .i64 0))))),
 (none, (.v (.pick 71 (.t 65) (.t 70) (.c (.bool false))))),
 (none, (.v (.mov 72 (.t 71)))),
 ((some (72, true)), (.v (.fld 73 3 (.t 3)))),
 ((some (72, true)), (.v (.load 74 false 1 (.t 73)))),
 ((some (72, true)), (.e (.call (some 75) 34 [(.t 74)]))),
 (none, (.v (.pick 76 (.t 72) (.t 75) (.c (.bool false))))),
 (none, (.v (.mov 4 (.t 76))))])
 .ret)
 (.seq (.ops [(none, (.v (.bin 78 .eql false (.t 59) (.c (.int .i64 2))))),
 (none, (.v (.mov 77 (.t 78))))])
 (.cond 77
 (.seq (.any false (.pure0 none (.v (.mov 79 (.t 5)))
 (.pure0 none (.v (.mov 80 (.t 79)))
 (.pure0 (some (80, true)) (.v (.fld 81 2 (.t 3)))
 (.pure0 (some (80, true)) (.v (.load 82 false 1 (.t 81)))
 (.alt (some (80, true)) (.e (.call (some 83) 35 [(.t 82)]))
 (.base (.pure0 none (.v (.pick 84 (.t 80) (.t 83) (.c (.bool false))))
 (.pure0 none (.v (.mov 85 (.t 84)))
 (.pure0 (some (85, true)) (.v (.fld 86 2 (.t 3)))
 (.pure0 (some (85, true)) (.v (.load 87 false 1 (.t 86)))
 (.pure0 (some (85, true)) (.v (.mov 88 (.t 0)))
 (.alt (some (85, true)) (.e (.call (some 89) 36 [(.t 88)]))
 (.base (.pure0 (some (85, true)) (.v (.bin 90 .gtr false (.t 87) (.t 89)))
 (.pure0 none (.v (.pick 91 (.t 85) (.t 90) (.c (.bool false))))
 (.pure0 none (.v (.mov 4 (.t 91)))
 .done))))
 .stop)))))))
 .stop))))))
 .ret)
 (.seq (.ops [(none, (.v (.bin 93 .eql false (.t 59) (.c (.int .i64 3))))),
 (none, (.v (.mov 92 (.t 93))))])
 (.cond 92
 (.seq (.ops [(none, (.v (.mov 94 (.t 5)))),
 (none, (.v (.mov 4 (.t 94))))])
 .ret)
 (.seq (.ops [(none, (.v (.bin 96 .eql false (.t 59) (.c (.int .i64 5))))),
 (none, (.v (.mov 95 (.t 96))))])
 (.cond 95
 (.seq (.ops [(none, (.v (.fld 97 2 (.t 3)))),
 (none, (.v (.load 98 false 1 (.t 97)))),
 (none, (.v (.bin 99 .geq false (.t 98) (.c (.int .i64 0))))),
 (none, (.v (.mov 100 (.t 99)))),
 ((some (100, true)), (.v (.fld 101 2 (.t 3)))),
 ((some (100, true)), (.v (.load 102 false 1 (.t 101)))),
 ((some (100, true)), (.v (.bin 103 .leq false (.t 102) (.c (.int .i64 1073741824))))),
 (none, (.v (.pick 104 (.t 100) (.t 103) (.c (.bool false))))),
 (none, (.v (.mov 105 (.t 104)))),
 ((some (105, true)), (.v (.fld 106 4 (.t 3)))),
 ((some (105, true)), (.v (.load 107 false 1 (.t 106)))),
 ((some (105, true)), (.v (.fld 108 2 (.t 3)))),
 ((some (105, true)), (.v (.load 109 false 1 (.t 108)))),
 ((some (105, true)), (.e (.call (some 110) 37 [(.t 107), (.t 109)]))),
 (none, (.v (.pick 111 (.t 105) (.t 110) (.c (.bool false))))),
 (none, (.v (.mov 4 (.t 111))))])
 .ret)
 .skip))))))))))
 (.seq (.ops [(none, (.v (.fld 112 0 (.t 3)))),
 (none, (.v (.load 113 false 1 (.t 112)))),
 (none, (.v (.bin 114 .eql false (.t 113) (.c (.int .i64 4))))),
 (none, (.v (.mov 4 (.t 114))))])
 .ret))))))
theorem ok11 : FnOk E 11 115 [.tmp 4] mc11 := .of func11 (by kernel_rfl) (by kernel_rfl) (by kernel_rfl) (by kernel_rfl) (by kernel_rfl)
end Go.Proofs.Try
namespace Go.Proofs.Try
open Go.Al
set_option linter.unusedVariables false
set_option linter.unusedSimpArgs false
set_option maxRecDepth 20000
set_option maxHeartbeats 8000000

theorem c11 (h : List Hap) (x : Hap) : ACalls E.P 11 [.view 5 (h.map Hap.av), x.av] [] (fun r H => r = .bool (eventOk h x) ∧ H = []) := by
  have hmax := maxLen_eq
  have h32 := c32 h x.tx
  have h33 := c33 h x.tx
  have h34 := c34 x.ws
  have h35 := c35 x.st
  have h36 := c36 h
  have h37 := c37 x.rs x.st
  obtain ⟨k, tx, st, ws, rs⟩ := x
  simp only at *
  have hcase : k = 1 ∨ k = 2 ∨ k = 3 ∨ k = 4 ∨ k = 5 ∨ (¬ k = 1 ∧ ¬ k = 2 ∧ ¬ k = 3 ∧ ¬ k = 4 ∧ ¬ k = 5) := by omega
  rcases hcase with rfl | rfl | rfl | rfl | rfl | ⟨k1, k2, k3, k4, k5⟩
  all_goals
    refine ok11.acalls hE hm (by simp) fun N hN => ?_
    unfold mc11
    simp only [lA, ptrCells, ptrAdd, isNil, readsV, readsP, isCall, wrote, srcOf, seval, hap_av]
  · repeat' (first
     | (with_reducible apply St.o; constructor) <;> intro _
     | ((with_reducible refine mkl_view ?_ ?_ ?_); (focus decide); (focus rfl))
     | with_reducible first | refine LenR_i fun _ => ?_ | refine And.intro (by omega) ?_ | (apply Sp.o; constructor) | refine mkl_own ?_ | refine frz0_i ?_ | refine any_i [] ?_
     | ((with_reducible apply Sc.o true; constructor); simp only [lP, seval, List.length_map]; (first | refine ⟨_, h33, ?_⟩ | refine ⟨_, h34, ?_⟩ | refine ⟨_, h32, ?_⟩); rintro _ _ ⟨rfl, rfl⟩; simp only [lA, lP, ptrCells, ptrAdd, isNil, readsV, readsP, isCall, wrote, srcOf, seval, List.length_map])
     | simp (maxSteps := 1000000) (disch := omega) only [lE, ptrCells, ptrAdd, isNil, readsV, readsP, isCall, wrote, srcOf, seval, List.length_map])
    all_goals first
      | (exfalso; omega)
      | (clear h32 h33 h34 h35 h36 h37
         refine keep_b ?_
         simp only [eventOk]
         simp [*]
         done)
      | (clear h32 h33 h34 h35 h36 h37
         refine keep_b ?_
         simp only [eventOk]
         simp_all
         done)
      | (clear h32 h33 h34 h35 h36 h37
         refine keep_b ?_
         simp only [eventOk]
         simp_all
         omega)
  · repeat' (first
     | (with_reducible apply St.o; constructor) <;> intro _
     | ((with_reducible refine mkl_view ?_ ?_ ?_); (focus decide); (focus rfl))
     | with_reducible first | refine LenR_i fun _ => ?_ | refine And.intro (by omega) ?_ | (apply Sp.o; constructor) | refine mkl_own ?_ | refine frz0_i ?_ | refine any_i [] ?_
     | ((with_reducible apply Sc.o true; constructor); simp only [lP, seval, List.length_map]; (first | refine ⟨_, h32, ?_⟩ | refine ⟨_, h35, ?_⟩ | refine ⟨_, h36, ?_⟩); rintro _ _ ⟨rfl, rfl⟩; simp only [lA, lP, ptrCells, ptrAdd, isNil, readsV, readsP, isCall, wrote, srcOf, seval, List.length_map])
     | simp (maxSteps := 1000000) (disch := omega) only [lE, ptrCells, ptrAdd, isNil, readsV, readsP, isCall, wrote, srcOf, seval, List.length_map])
    all_goals first
      | (exfalso; omega)
      | (clear h32 h33 h34 h35 h36 h37
         refine keep_b ?_
         simp only [eventOk]
         simp [*]
         done)
      | (clear h32 h33 h34 h35 h36 h37
         refine keep_b ?_
         simp only [eventOk]
         simp_all
         done)
      | (clear h32 h33 h34 h35 h36 h37
         refine keep_b ?_
         simp only [eventOk]
         simp_all
         omega)
  · repeat' (first
     | (with_reducible apply St.o; constructor) <;> intro _
     | ((with_reducible refine mkl_view ?_ ?_ ?_); (focus decide); (focus rfl))
     | with_reducible first | refine LenR_i fun _ => ?_ | refine And.intro (by omega) ?_ | (apply Sp.o; constructor) | refine mkl_own ?_ | refine frz0_i ?_ | refine any_i [] ?_
     | ((with_reducible apply Sc.o true; constructor); simp only [lP, seval, List.length_map]; refine ⟨_, h32, ?_⟩; rintro _ _ ⟨rfl, rfl⟩; simp only [lA, lP, ptrCells, ptrAdd, isNil, readsV, readsP, isCall, wrote, srcOf, seval, List.length_map])
     | simp (maxSteps := 1000000) (disch := omega) only [lE, ptrCells, ptrAdd, isNil, readsV, readsP, isCall, wrote, srcOf, seval, List.length_map])
    all_goals first
      | (exfalso; omega)
      | (clear h32 h33 h34 h35 h36 h37
         refine keep_b ?_
         simp only [eventOk]
         simp [*]
         done)
      | (clear h32 h33 h34 h35 h36 h37
         refine keep_b ?_
         simp only [eventOk]
         simp_all
         done)
      | (clear h32 h33 h34 h35 h36 h37
         refine keep_b ?_
         simp only [eventOk]
         simp_all
         omega)
  · repeat' (first
     | (with_reducible apply St.o; constructor) <;> intro _
     | ((with_reducible refine mkl_view ?_ ?_ ?_); (focus decide); (focus rfl))
     | with_reducible first | refine LenR_i fun _ => ?_ | refine And.intro (by omega) ?_ | (apply Sp.o; constructor) | refine mkl_own ?_ | refine frz0_i ?_ | refine any_i [] ?_
     | ((with_reducible apply Sc.o true; constructor); simp only [lP, seval, List.length_map]; refine ⟨_, h32, ?_⟩; rintro _ _ ⟨rfl, rfl⟩; simp only [lA, lP, ptrCells, ptrAdd, isNil, readsV, readsP, isCall, wrote, srcOf, seval, List.length_map])
     | simp (maxSteps := 1000000) (disch := omega) only [lE, ptrCells, ptrAdd, isNil, readsV, readsP, isCall, wrote, srcOf, seval, List.length_map])
    all_goals first
      | (exfalso; omega)
      | (clear h32 h33 h34 h35 h36 h37
         refine keep_b ?_
         simp only [eventOk]
         simp [*]
         done)
      | (clear h32 h33 h34 h35 h36 h37
         refine keep_b ?_
         simp only [eventOk]
         simp_all
         done)
      | (clear h32 h33 h34 h35 h36 h37
         refine keep_b ?_
         simp only [eventOk]
         simp_all
         omega)
  · repeat' (first
     | (with_reducible apply St.o; constructor) <;> intro _
     | ((with_reducible refine mkl_view ?_ ?_ ?_); (focus decide); (focus rfl))
     | with_reducible first | refine LenR_i fun _ => ?_ | refine And.intro (by omega) ?_ | (apply Sp.o; constructor) | refine mkl_own ?_ | refine frz0_i ?_ | refine any_i [] ?_
     | ((with_reducible apply Sc.o true; constructor); simp only [lP, seval, List.length_map]; (first | refine ⟨_, h32, ?_⟩ | refine ⟨_, h37, ?_⟩); rintro _ _ ⟨rfl, rfl⟩; simp only [lA, lP, ptrCells, ptrAdd, isNil, readsV, readsP, isCall, wrote, srcOf, seval, List.length_map])
     | simp (maxSteps := 1000000) (disch := omega) only [lE, ptrCells, ptrAdd, isNil, readsV, readsP, isCall, wrote, srcOf, seval, List.length_map])
    all_goals first
      | (exfalso; omega)
      | (clear h32 h33 h34 h35 h36 h37
         refine keep_b ?_
         simp only [eventOk]
         simp [*]
         done)
      | (clear h32 h33 h34 h35 h36 h37
         refine keep_b ?_
         simp only [eventOk]
         simp_all
         done)
      | (clear h32 h33 h34 h35 h36 h37
         refine keep_b ?_
         simp only [eventOk]
         simp_all
         omega)
  · repeat' (first
     | (with_reducible apply St.o; constructor) <;> intro _
     | with_reducible first | refine LenR_i fun _ => ?_ | refine And.intro (by omega) ?_ | (apply Sp.o; constructor) | refine mkl_own ?_ | refine frz0_i ?_ | refine any_i [] ?_
     | ((with_reducible apply Sc.o true; constructor); simp only [lP, seval, List.length_map, k1, k2, k3, k4, k5]; refine ⟨_, h32, ?_⟩; rintro _ _ ⟨rfl, rfl⟩; simp only [lA, lP, ptrCells, ptrAdd, isNil, readsV, readsP, isCall, wrote, srcOf, seval, List.length_map, k1, k2, k3, k4, k5])
     | simp (maxSteps := 1000000) (disch := omega) only [lE, ptrCells, ptrAdd, isNil, readsV, readsP, isCall, wrote, srcOf, seval, List.length_map, k1, k2, k3, k4, k5])
    all_goals first
      | (exfalso; omega)
      | (clear h32 h33 h34 h35 h36 h37
         refine keep_b ?_
         simp only [eventOk]
         simp [*]
         done)
      | (clear h32 h33 h34 h35 h36 h37
         refine keep_b ?_
         simp only [eventOk]
         simp_all
         done)
      | (clear h32 h33 h34 h35 h36 h37
         refine keep_b ?_
         simp only [eventOk]
         simp_all
         omega)
theorem c6 (h : List Hap) : ACalls E.P 6 [.view 5 (h.map Hap.av)] [] (fun r H => r = .bool (rightB h) ∧ H = []) := by
  have hmax := maxLen_eq
  have h11 : ∀ i, ACalls E.P 11 [.view 5 ((h.map Hap.av).take i), .agg (h.getD i default).cs] [] (fun r H => r = .bool (eventOk (h.take i) (h.getD i default)) ∧ H = []) := fun i => by
    have := c11 (h.take i) (h.getD i default)
    rwa [List.map_take, hap_av] at this
  refine ok6.acalls hE hm (by simp) fun N hN => ?_
  unfold mc6
  simp only [lA, ptrCells, ptrAdd, isNil, readsV, readsP, isCall, wrote, srcOf, seval]
  refine loop_i (fun i : Nat => i ≤ h.length ∧ ∀ k, k < i → eventOk (h.take k) (h.getD k default) = true) (fun i => ⟨[(0, .view 5 (h.map Hap.av)), (3, .int .i64 i)], []⟩) (fun i => h.length - i) 0 ⟨by omega, by omega⟩ (Ent.to [] false (by simp) (by simp) rfl (by simp only [lP, seval] <;> (try simp) <;> (try omega)) (by simp only [lP, seval] <;> (try simp) <;> (try omega))) ?_
  rintro i ⟨hi, hn⟩
  by_cases hil : i < h.length
  · have h11i := h11 i
    have hbad : eventOk (h.take i) (h.getD i default) = false → rightB h = false := fun hb => by
      unfold rightB
      rw [decide_eq_false, Bool.false_and]
      intro q
      rw [q i hil] at hb; cases hb
    have hgood : eventOk (h.take i) (h.getD i default) = true → ∀ k, k < i + 1 → eventOk (h.take k) (h.getD k default) = true := fun hq k hk => by
      by_cases hki : k < i
      · exact hn k hki
      · have : k = i := by omega
        subst this
        exact hq
    generalize eventOk (h.take i) (h.getD i default) = e at *
    generalize hx : h.getD i default = x at *
    repeat' (first
     | (with_reducible apply St.o; constructor) <;> intro _
     | with_reducible first | refine LenR_i fun _ => ?_ | refine And.intro (by omega) ?_ | (apply Sp.o; constructor) | refine mkl_own ?_ | refine frz0_i ?_ | refine any_i [] ?_
     | ((with_reducible apply Sc.o true; constructor); simp only [lP, seval, IdxR_haps, hx, Int.toNat_natCast, List.length_map]; refine ⟨_, h11i, ?_⟩; rintro _ _ ⟨rfl, rfl⟩; simp only [lA, lP, ptrCells, ptrAdd, isNil, readsV, readsP, isCall, wrote, srcOf, seval, IdxR_haps, hx, Int.toNat_natCast, List.length_map])
     | simp (maxSteps := 1000000) (disch := omega) only [lE, ptrCells, ptrAdd, isNil, readsV, readsP, isCall, wrote, srcOf, seval, IdxR_haps, hx, Int.toNat_natCast, List.length_map])
    all_goals try (exfalso; omega)
    · rename_i he
      exact keep_b (hbad (by simpa using he)).symm
    · rename_i he
      exact back_i (i + 1) ⟨by omega, hgood (by simpa using he)⟩ (by omega) (Ent.to [] false (by simp) (by simp) rfl (by simp only [lP, seval] <;> (try simp) <;> (try omega)) (by simp only [lP, seval] <;> (try simp) <;> (try omega)))
  · have hie : i = h.length := by omega
    subst hie
    repeat' (first
     | (with_reducible apply St.o; constructor) <;> intro _
     | with_reducible first | refine LenR_i fun _ => ?_ | refine And.intro (by omega) ?_ | (apply Sp.o; constructor) | refine mkl_own ?_ | refine frz0_i ?_
     | simp (maxSteps := 1000000) (disch := omega) only [lE, ptrCells, ptrAdd, isNil, readsV, readsP, isCall, wrote, srcOf, seval, List.length_map, Int.lt_irrefl, decide_false])
    refine keep_b ?_
    unfold rightB
    rw [decide_eq_true hn, Bool.true_and, decide_eq_decide]
    omega
end Go.Proofs.Try
