/-
  A part of the proof: see the text of the law.
-/
import Derived.Test.YtlokeliagcaepaaEah
set_option linter.unusedSimpArgs false
set_option linter.unusedVariables false
namespace Go.Proofs.Try
open Go.Al
set_option maxRecDepth 100000
/-- alum/stats.within -/
def mc60 : MC :=
 (.seq (.ops [(none, (.e (.box 2 (.t 0)))),
 (none, (.e (.box 3 (.t 1)))),
 (none, (.v (.mov 4 (.c (.int .i64 0))))),
 (none, (.v (.mov 5 (.c (.int .i64 0)))))])
 (.seq (.any false (.pure0 none (.v (.load 8 true 11 (.t 3)))
 (.pure0 none (.v (.fld 9 0 (.t 2)))
 (.pure0 none (.v (.load 10 true 3 (.t 9)))
 (.pure0 none (.v (.load 12 true 11 (.t 3)))
 (.pure0 none (.v (.fld 13 3 (.t 2)))
 (.pure0 none (.v (.load 14 true 3 (.t 13)))
 (.alt none (.e (.call (some 11) 31 [(.t 8), (.t 10)]))
 (.base (.alt none (.e (.call (some 15) 31 [(.t 12), (.t 14)]))
 (.base (.pure0 none (.v (.mov 6 (.t 11)))
 (.pure0 none (.v (.mov 7 (.t 15)))
 .done)))
 .stop))
 .stop))))))))
 (.seq (.block 0 (.seq (.ops [(none, (.v (.mov 17 (.t 6)))),
 (none, (.v (.mov 18 (.t 17)))),
 ((some (18, true)), (.v (.mov 19 (.t 7)))),
 (none, (.v (.pick 20 (.t 18) (.t 19) (.c (.bool false))))),
 (none, (.v (.mov 16 (.t 20))))])
 (.cond 16
 (.seq (.any false (.pure0 none (.v (.fld 21 6 (.t 2)))
 (.pure0 none (.v (.load 22 false 1 (.t 21)))
 (.pure0 none (.v (.fld 23 6 (.t 2)))
 (.pure0 none (.v (.load 24 false 1 (.t 23)))
 (.pure0 none (.v (.mov 4 (.t 22)))
 (.pure0 none (.v (.mov 5 (.t 24)))
 .done)))))))
 .ret)
 (.seq (.ops [(none, (.v (.load 26 true 9 (.t 2)))),
 (none, (.v (.load 27 true 11 (.t 3)))),
 (none, (.e (.call (some 28) 72 [(.t 26), (.t 27)]))),
 (none, (.v (.mov 25 (.t 28))))])
 (.cond 25
 (.seq (.ops [(none, (.v (.mov 4 (.c (.int .i64 0))))),
 (none, (.v (.mov 5 (.c (.int .i64 0)))))])
 .ret)
 (.seq (.ops [(none, (.v (.fld 30 3 (.t 3)))),
 (none, (.v (.load 31 true 3 (.t 30)))),
 (none, (.v (.fld 32 6 (.t 3)))),
 (none, (.v (.load 33 true 3 (.t 32)))),
 (none, (.v (.eq 34 false (.agg [(0, false, 1, .int), (1, false, 1, .int), (2, false, 1, .str)]) (.t 31) (.t 33)))),
 (none, (.v (.mov 35 (.t 34)))),
 ((some (35, true)), (.v (.fld 36 3 (.t 3)))),
 ((some (35, true)), (.v (.fld 37 0 (.t 36)))),
 ((some (35, true)), (.v (.load 38 false 1 (.t 37)))),
 ((some (35, true)), (.v (.bin 39 .neq false (.t 38) (.c (.int .i64 0))))),
 (none, (.v (.pick 40 (.t 35) (.t 39) (.c (.bool false))))),
 (none, (.v (.mov 29 (.t 40))))])
 (.cond 29
 (.seq (.seq (.ops [(none, (.v (.mov 41 (.t 6)))),
 (none, (.v (.mov 42 (.t 41)))),
 ((some (42, false)), (.v (.mov 43 (.t 7)))),
 (none, (.v (.pick 44 (.t 42) (.c (.bool true)) (.t 43))))])
 (.cond 44
 (.seq (.any false (.pure0 none (.v (.fld 45 6 (.t 2)))
 (.pure0 none (.v (.load 46 false 1 (.t 45)))
 (.pure0 none (.v (.fld 47 7 (.t 2)))
 (.pure0 none (.v (.load 48 false 1 (.t 47)))
 (.pure0 none (.v (.bin 49 .sub false (.t 46) (.t 48)))
 (.pure0 none (.v (.bin 50 .add false (.t 49) (.c (.int .i64 1))))
 (.pure0 none (.v (.mov 4 (.c (.int .i64 1))))
 (.pure0 none (.v (.mov 5 (.t 50)))
 .done)))))))))
 .ret)
 .skip))
 (.seq (.any false (.pure0 none (.v (.fld 51 6 (.t 2)))
 (.pure0 none (.v (.load 52 false 1 (.t 51)))
 (.pure0 none (.v (.fld 53 7 (.t 2)))
 (.pure0 none (.v (.load 54 false 1 (.t 53)))
 (.pure0 none (.v (.bin 55 .sub false (.t 54) (.c (.int .i64 1))))
 (.pure0 none (.v (.max 56 [(.c (.int .i64 2)), (.t 55)]))
 (.pure0 none (.v (.bin 57 .sub false (.t 52) (.t 56)))
 (.pure0 none (.v (.max 58 [(.c (.int .i64 0)), (.t 57)]))
 (.pure0 none (.v (.mov 4 (.c (.int .i64 0))))
 (.pure0 none (.v (.mov 5 (.t 58)))
 .done)))))))))))
 .ret))
 .skip)))))))
 (.seq (.any false (.pure0 none (.v (.mov 59 (.t 6)))
 (.pure0 none (.v (.mov 60 (.t 59)))
 (.pure0 (some (60, false)) (.v (.mov 61 (.t 7)))
 (.pure0 none (.v (.pick 62 (.t 60) (.c (.bool true)) (.t 61)))
 (.pure0 none (.v (.fld 64 6 (.t 2)))
 (.pure0 none (.v (.load 65 false 1 (.t 64)))
 (.pure0 none (.v (.mov 66 (.t 6)))
 (.pure0 none (.v (.not 67 (.t 66)))
 (.pure0 none (.v (.mov 70 (.t 7)))
 (.pure0 none (.v (.not 71 (.t 70)))
 (.alt none (.e (.call (some 63) 54 [(.t 62)]))
 (.base (.alt none (.e (.call (some 68) 54 [(.t 67)]))
 (.base (.pure0 none (.v (.bin 69 .sub false (.t 65) (.t 68)))
 (.alt none (.e (.call (some 72) 54 [(.t 71)]))
 (.base (.pure0 none (.v (.bin 73 .sub false (.t 69) (.t 72)))
 (.pure0 none (.v (.mov 4 (.t 63)))
 (.pure0 none (.v (.mov 5 (.t 73)))
 .done))))
 .stop)))
 .stop))
 .stop))))))))))))
 .ret))))
theorem ok60 : FnOk E 60 74 [.tmp 4, .tmp 5] mc60 := .of func60 (by kernel_rfl) (by kernel_rfl) (by kernel_rfl) (by kernel_rfl) (by kernel_rfl)
/-- alum/alumref39.one -/
def mc61 : MC :=
 (.seq (.ops [(none, (.e (.box 2 (.t 0)))),
 (none, (.e (.box 3 (.t 1)))),
 (none, (.e (.alloc 4 [(.int .i64 0), (.int .i64 0)])))])
 (.seq (.ops [(none, (.v (.load 8 true 11 (.t 3)))),
 (none, (.v (.fld 9 0 (.t 2)))),
 (none, (.v (.load 10 true 3 (.t 9)))),
 (none, (.e (.call (some 11) 73 [(.t 8), (.t 10)]))),
 (none, (.v (.mov 5 (.t 11))))])
 (.seq (.ops [(none, (.v (.load 12 true 11 (.t 3)))),
 (none, (.v (.fld 13 3 (.t 2)))),
 (none, (.v (.load 14 true 3 (.t 13)))),
 (none, (.e (.call (some 15) 73 [(.t 12), (.t 14)]))),
 (none, (.v (.mov 6 (.t 15))))])
 (.seq (.seq (.ops [(none, (.v (.mov 16 (.t 5)))),
 (none, (.v (.mov 17 (.t 16)))),
 ((some (17, true)), (.v (.mov 18 (.t 6)))),
 (none, (.v (.pick 19 (.t 17) (.t 18) (.c (.bool false)))))])
 (.cond 19
 (.seq (.ops [(none, (.v (.fld 20 6 (.t 2)))),
 (none, (.v (.load 21 false 1 (.t 20)))),
 (none, (.v (.fld 22 6 (.t 2)))),
 (none, (.v (.load 23 false 1 (.t 22)))),
 (none, (.v (.build 24 [(.int .i64 0), (.int .i64 0)] [(0, 1, (.t 21)), (1, 1, (.t 23))]))),
 (none, (.e (.store 2 true (.t 4) (.t 24))))])
 .ret)
 .skip))
 (.seq (.seq (.ops [(none, (.v (.load 25 true 9 (.t 2)))),
 (none, (.v (.load 26 true 11 (.t 3)))),
 (none, (.e (.call (some 27) 74 [(.t 25), (.t 26)])))])
 (.cond 27
 (.seq (.ops [(none, (.v (.build 28 [(.int .i64 0), (.int .i64 0)] []))),
 (none, (.e (.store 2 true (.t 4) (.t 28))))])
 .ret)
 .skip))
 (.seq (.ops [(none, (.v (.fld 29 6 (.t 2)))),
 (none, (.v (.load 30 false 1 (.t 29)))),
 (none, (.v (.build 31 [(.int .i64 0), (.int .i64 0)] [(1, 1, (.t 30))]))),
 (none, (.e (.alloc 7 [(.int .i64 0), (.int .i64 0)]))),
 (none, (.e (.store 2 true (.t 7) (.t 31))))])
 (.seq (.seq (.ops [(none, (.v (.mov 32 (.t 5)))),
 (none, (.v (.mov 33 (.t 32)))),
 ((some (33, false)), (.v (.mov 34 (.t 6)))),
 (none, (.v (.pick 35 (.t 33) (.c (.bool true)) (.t 34))))])
 (.cond 35
 (.ops [(none, (.v (.fld 36 0 (.t 7)))),
 (none, (.e (.store 1 false (.t 36) (.c (.int .i64 1)))))])
 .skip))
 (.seq (.seq (.ops [(none, (.v (.fld 37 3 (.t 3)))),
 (none, (.v (.load 38 true 3 (.t 37)))),
 (none, (.v (.fld 39 6 (.t 3)))),
 (none, (.v (.load 40 true 3 (.t 39)))),
 (none, (.v (.eq 41 false (.agg [(0, false, 1, .int), (1, false, 1, .int), (2, false, 1, .str)]) (.t 38) (.t 40)))),
 (none, (.v (.mov 42 (.t 41)))),
 ((some (42, true)), (.v (.fld 43 3 (.t 3)))),
 ((some (42, true)), (.v (.fld 44 0 (.t 43)))),
 ((some (42, true)), (.v (.load 45 false 1 (.t 44)))),
 ((some (42, true)), (.v (.bin 46 .neq false (.t 45) (.c (.int .i64 0))))),
 (none, (.v (.pick 47 (.t 42) (.t 46) (.c (.bool false)))))])
 (.cond 47
 (.seq (.ops [(none, (.v (.fld 48 6 (.t 2)))),
 (none, (.v (.load 49 false 1 (.t 48)))),
 (none, (.v (.fld 50 7 (.t 2)))),
 (none, (.v (.load 51 false 1 (.t 50)))),
 (none, (.v (.bin 52 .sub false (.t 49) (.t 51)))),
 (none, (.v (.bin 53 .add false (.t 52) (.c (.int .i64 1))))),
 (none, (.v (.fld 54 1 (.t 7)))),
 (none, (.e (.store 1 false (.t 54) (.t 53))))])
 (.seq (.seq (.ops [(none, (.v (.mov 55 (.t 5)))),
 (none, (.v (.not 56 (.t 55)))),
 (none, (.v (.mov 57 (.t 56)))),
 ((some (57, true)), (.v (.mov 58 (.t 6)))),
 ((some (57, true)), (.v (.not 59 (.t 58)))),
 (none, (.v (.pick 60 (.t 57) (.t 59) (.c (.bool false)))))])
 (.cond 60
 (.ops [(none, (.v (.fld 61 6 (.t 2)))),
 (none, (.v (.load 62 false 1 (.t 61)))),
 (none, (.v (.fld 63 7 (.t 2)))),
 (none, (.v (.load 64 false 1 (.t 63)))),
 (none, (.v (.bin 65 .sub false (.t 64) (.c (.int .i64 1))))),
 (none, (.v (.max 66 [(.c (.int .i64 2)), (.t 65)]))),
 (none, (.v (.bin 67 .sub false (.t 62) (.t 66)))),
 (none, (.v (.max 68 [(.c (.int .i64 0)), (.t 67)]))),
 (none, (.v (.fld 69 1 (.t 7)))),
 (none, (.e (.store 1 false (.t 69) (.t 68))))])
 .skip))
 (.seq (.ops [(none, (.v (.load 70 true 2 (.t 7)))),
 (none, (.e (.store 2 true (.t 4) (.t 70))))])
 .ret)))
 .skip))
 (.seq (.seq (.ops [(none, (.v (.mov 71 (.t 5)))),
 (none, (.v (.not 72 (.t 71))))])
 (.cond 72
 (.ops [(none, (.v (.fld 73 1 (.t 7)))),
 (none, (.v (.load 74 false 1 (.t 73)))),
 (none, (.v (.bin 75 .sub false (.t 74) (.c (.int .i64 1))))),
 (none, (.v (.fld 76 1 (.t 7)))),
 (none, (.e (.store 1 false (.t 76) (.t 75))))])
 .skip))
 (.seq (.seq (.ops [(none, (.v (.mov 77 (.t 6)))),
 (none, (.v (.not 78 (.t 77))))])
 (.cond 78
 (.ops [(none, (.v (.fld 79 1 (.t 7)))),
 (none, (.v (.load 80 false 1 (.t 79)))),
 (none, (.v (.bin 81 .sub false (.t 80) (.c (.int .i64 1))))),
 (none, (.v (.fld 82 1 (.t 7)))),
 (none, (.e (.store 1 false (.t 82) (.t 81))))])
 .skip))
 (.seq (.ops [(none, (.v (.load 83 true 2 (.t 7)))),
 (none, (.e (.store 2 true (.t 4) (.t 83))))])
 .ret)))))))))))
theorem ok61 : FnOk E 61 84 [.cell 4 46] mc61 := .of func61 (by kernel_rfl) (by kernel_rfl) (by kernel_rfl) (by kernel_rfl) (by kernel_rfl)
end Go.Proofs.Try
namespace Go.Proofs.Try
open Go.Al
set_option linter.unusedVariables false
set_option linter.unusedSimpArgs false
set_option maxRecDepth 20000
set_option maxHeartbeats 8000000

def Bar.small (b : Bar) : Prop := 0 ≤ b.rows ∧ b.rows ≤ 16777216 ∧ 0 ≤ b.least ∧ b.least ≤ 16777216
theorem maxI (a b : Int) : (if a < b then b else a) = max a b := by split <;> omega
theorem c60 (b : Bar) (x : RG) (hb : b.small) : ACalls E.P 60 [b.av, x.av] [] (fun r H => r = .tup [.int .i64 (b.within x).1, .int .i64 (b.within x).2] ∧ H = []) := by
  have h31a := c31 x b.lo
  have h31b := c31 x b.hi
  have h72 := c72 b x
  have h54a := c54 (x.has b.lo || x.has b.hi)
  have h54b := c54 (!x.has b.lo)
  have h54c := c54 (!x.has b.hi)
  simp only [vl_av, rg_av, bar_av] at h31a h31b h72
  have hw : ∀ p : Int × Int, p = b.within x → AV.tup [.int .i64 p.1, .int .i64 p.2] = AV.tup [.int .i64 (b.within x).1, .int .i64 (b.within x).2] := fun p h => by rw [h]
  simp only [Bar.within] at hw ⊢
  generalize x.has b.lo = u at *
  generalize x.has b.hi = v at *
  generalize b.apart x = w at *
  obtain ⟨g1, g2, g3, g4⟩ := hb
  refine ok60.acalls hE hm (by simp) fun N hN => ?_
  unfold mc60
  simp only [lA, ptrCells, ptrAdd, isNil, readsV, readsP, isCall, wrote, srcOf, seval, rg_av, bar_av]
  cases u <;> cases v <;> cases w
  all_goals (
    simp only [Bool.not_true, Bool.not_false, Bool.or_false, Bool.or_true, Bool.or_self, if_true, if_false, Bool.false_eq_true] at h54a h54b h54c
    repeat' (first
     | (with_reducible apply St.o; constructor) <;> intro _
     | with_reducible first | refine LenR_i fun _ => ?_ | refine And.intro (by omega) ?_ | (apply Sp.o; constructor) | refine mkl_own ?_ | refine frz0_i ?_
     | ((with_reducible apply Sc.o true; constructor); simp only [lP, seval, vl_eq, vl_eq2, maxI]; (first | refine ⟨_, h31a, ?_⟩ | refine ⟨_, h31b, ?_⟩ | refine ⟨_, h72, ?_⟩ | refine ⟨_, h54a, ?_⟩ | refine ⟨_, h54b, ?_⟩ | refine ⟨_, h54c, ?_⟩); rintro _ _ ⟨rfl, rfl⟩; simp only [lA, lP, ptrCells, ptrAdd, isNil, readsV, readsP, isCall, wrote, srcOf, seval, vl_eq, vl_eq2, maxI])
     | ((with_reducible refine keep0_i ?_); simp only [lP, seval])
     | simp (maxSteps := 1000000) (disch := omega) only [lE, ptrCells, ptrAdd, isNil, readsV, readsP, isCall, wrote, srcOf, seval, vl_eq, vl_eq2, maxI])
    skip)
  all_goals first | (simp [cntB, *]; done) | (rename_i q1 q2; rw [q1] at q2; simp [cntB, q1, q2]; done)
theorem c61 (b : Bar) (x : RG) (hb : b.small) : ACalls E.P 61 [b.av, x.av] [] (fun r H => r = .agg [.int .i64 (b.one x).1, .int .i64 (b.one x).2] ∧ H = []) := by
  have h31a := c73 x b.lo
  have h31b := c73 x b.hi
  have h72 := c74 b x
  simp only [vl_av, rg_av, bar_av] at h31a h31b h72
  simp only [Bar.one]
  generalize x.has19 b.lo = u at *
  generalize x.has19 b.hi = v at *
  generalize b.apart19 x = w at *
  obtain ⟨g1, g2, g3, g4⟩ := hb
  refine ok61.acalls hE hm (by simp) fun N hN => ?_
  unfold mc61
  simp only [lA, ptrCells, ptrAdd, isNil, readsV, readsP, isCall, wrote, srcOf, seval, rg_av, bar_av]
  cases u <;> cases v <;> cases w
  all_goals (
    repeat' (first
     | (with_reducible apply St.o; constructor) <;> intro _
     | with_reducible first | refine LenR_i fun _ => ?_ | refine And.intro (by omega) ?_ | (apply Sp.o; constructor) | refine mkl_own ?_ | refine frz0_i ?_ | refine any_i [] ?_
     | ((with_reducible apply Sc.o true; constructor); simp only [lP, seval, vl_eq, vl_eq2, maxI, ti46]; (first | refine ⟨_, h31a, ?_⟩ | refine ⟨_, h31b, ?_⟩ | refine ⟨_, h72, ?_⟩); rintro _ _ ⟨rfl, rfl⟩; simp only [lA, lP, ptrCells, ptrAdd, isNil, readsV, readsP, isCall, wrote, srcOf, seval, vl_eq, vl_eq2, maxI, ti46])
     | ((with_reducible refine keep0_i ?_); simp only [lP, seval])
     | simp (maxSteps := 1000000) (disch := omega) only [lE, ptrCells, ptrAdd, isNil, readsV, readsP, isCall, wrote, srcOf, seval, vl_eq, vl_eq2, maxI, ti46])
    skip)
  all_goals try (exfalso; omega)
  all_goals first | (simp [cntB, *]; done) | (rename_i q1 q2; rw [q1] at q2; simp [cntB, q1, q2]; done)
end Go.Proofs.Try
