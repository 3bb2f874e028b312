/-
  A part of the proof: see the text of the law.
-/
import Derived.Test.YtlokeliagcaepaaEag
set_option linter.unusedSimpArgs false
set_option linter.unusedVariables false
namespace Go.Proofs.Try
open Go.Al
set_option maxRecDepth 100000
/-- alum/stats.apart -/
def mc72 : MC :=
 (.seq (.ops [(none, (.e (.box 2 (.t 0)))),
 (none, (.e (.box 3 (.t 1)))),
 (none, (.v (.mov 4 (.c (.bool false)))))])
 (.seq (.seq (.ops [(none, (.v (.fld 7 3 (.t 3)))),
 (none, (.v (.fld 8 0 (.t 7)))),
 (none, (.v (.load 9 false 1 (.t 8)))),
 (none, (.v (.bin 10 .neq false (.t 9) (.c (.int .i64 0)))))])
 (.cond 10
 (.seq (.ops [(none, (.v (.fld 11 3 (.t 2)))),
 (none, (.v (.load 12 true 3 (.t 11)))),
 (none, (.v (.fld 13 3 (.t 3)))),
 (none, (.v (.load 14 true 3 (.t 13)))),
 (none, (.e (.call (some 15) 43 [(.t 12), (.t 14)]))),
 (none, (.v (.mov 5 (.t 15))))])
 (.seq (.ops [(none, (.v (.fld 16 3 (.t 3)))),
 (none, (.v (.fld 17 0 (.t 16)))),
 (none, (.v (.load 18 false 1 (.t 17)))),
 (none, (.v (.fld 19 0 (.t 2)))),
 (none, (.v (.fld 20 0 (.t 19)))),
 (none, (.v (.load 21 false 1 (.t 20)))),
 (none, (.v (.bin 22 .neq false (.t 18) (.t 21)))),
 (none, (.v (.mov 23 (.t 22)))),
 ((some (23, false)), (.v (.mov 24 (.t 5)))),
 ((some (23, false)), (.v (.bin 25 .lss false (.t 24) (.c (.int .i64 0))))),
 (none, (.v (.pick 26 (.t 23) (.c (.bool true)) (.t 25)))),
 (none, (.v (.mov 27 (.t 26)))),
 ((some (27, false)), (.v (.mov 28 (.t 5)))),
 ((some (27, false)), (.v (.bin 29 .eql false (.t 28) (.c (.int .i64 0))))),
 ((some (27, false)), (.v (.mov 30 (.t 29)))),
 ((some (30, true)), (.v (.fld 31 9 (.t 3)))),
 ((some (30, true)), (.v (.load 32 false 1 (.t 31)))),
 ((some (30, true)), (.v (.not 33 (.t 32)))),
 ((some (27, false)), (.v (.pick 34 (.t 30) (.t 33) (.c (.bool false))))),
 (none, (.v (.pick 35 (.t 27) (.c (.bool true)) (.t 34))))])
 (.cond 35
 (.seq (.ops [(none, (.v (.mov 4 (.c (.bool true)))))])
 .ret)
 .skip)))
 .skip))
 (.seq (.seq (.ops [(none, (.v (.fld 36 6 (.t 3)))),
 (none, (.v (.fld 37 0 (.t 36)))),
 (none, (.v (.load 38 false 1 (.t 37)))),
 (none, (.v (.bin 39 .neq false (.t 38) (.c (.int .i64 0)))))])
 (.cond 39
 (.seq (.ops [(none, (.v (.fld 40 0 (.t 2)))),
 (none, (.v (.load 41 true 3 (.t 40)))),
 (none, (.v (.fld 42 6 (.t 3)))),
 (none, (.v (.load 43 true 3 (.t 42)))),
 (none, (.e (.call (some 44) 43 [(.t 41), (.t 43)]))),
 (none, (.v (.mov 6 (.t 44))))])
 (.seq (.ops [(none, (.v (.fld 45 6 (.t 3)))),
 (none, (.v (.fld 46 0 (.t 45)))),
 (none, (.v (.load 47 false 1 (.t 46)))),
 (none, (.v (.fld 48 0 (.t 2)))),
 (none, (.v (.fld 49 0 (.t 48)))),
 (none, (.v (.load 50 false 1 (.t 49)))),
 (none, (.v (.bin 51 .neq false (.t 47) (.t 50)))),
 (none, (.v (.mov 52 (.t 51)))),
 ((some (52, false)), (.v (.mov 53 (.t 6)))),
 ((some (52, false)), (.v (.bin 54 .gtr false (.t 53) (.c (.int .i64 0))))),
 (none, (.v (.pick 55 (.t 52) (.c (.bool true)) (.t 54)))),
 (none, (.v (.mov 56 (.t 55)))),
 ((some (56, false)), (.v (.mov 57 (.t 6)))),
 ((some (56, false)), (.v (.bin 58 .eql false (.t 57) (.c (.int .i64 0))))),
 ((some (56, false)), (.v (.mov 59 (.t 58)))),
 ((some (59, true)), (.v (.fld 60 10 (.t 3)))),
 ((some (59, true)), (.v (.load 61 false 1 (.t 60)))),
 ((some (59, true)), (.v (.not 62 (.t 61)))),
 ((some (56, false)), (.v (.pick 63 (.t 59) (.t 62) (.c (.bool false))))),
 (none, (.v (.pick 64 (.t 56) (.c (.bool true)) (.t 63))))])
 (.cond 64
 (.seq (.ops [(none, (.v (.mov 4 (.c (.bool true)))))])
 .ret)
 .skip)))
 .skip))
 (.seq (.ops [(none, (.v (.mov 4 (.c (.bool false)))))])
 .ret))))
theorem ok72 : FnOk E 72 65 [.tmp 4] mc72 := .of func72 (by kernel_rfl) (by kernel_rfl) (by kernel_rfl) (by kernel_rfl) (by kernel_rfl)
/-- alum/alumref36.In -/
def mc73 : MC :=
 (.seq (.ops [(none, (.e (.box 2 (.t 0)))),
 (none, (.e (.box 3 (.t 1)))),
 (none, (.v (.mov 4 (.c (.bool false)))))])
 (.seq (.seq (.ops [(none, (.v (.fld 7 0 (.t 2)))),
 (none, (.v (.load 8 false 1 (.t 7)))),
 (none, (.v (.mov 9 (.t 8)))),
 ((some (9, false)), (.v (.fld 10 2 (.t 2)))),
 ((some (9, false)), (.v (.load 11 false 1 (.t 10)))),
 (none, (.v (.pick 12 (.t 9) (.c (.bool true)) (.t 11))))])
 (.cond 12
 (.seq (.ops [(none, (.v (.fld 13 2 (.t 2)))),
 (none, (.v (.load 14 false 1 (.t 13)))),
 (none, (.v (.mov 4 (.t 14))))])
 .ret)
 .skip))
 (.seq (.seq (.ops [(none, (.v (.fld 15 0 (.t 3)))),
 (none, (.v (.load 16 false 1 (.t 15)))),
 (none, (.v (.bin 17 .eql false (.t 16) (.c (.int .i64 0)))))])
 (.cond 17
 (.seq (.ops [(none, (.v (.fld 18 1 (.t 2)))),
 (none, (.v (.load 19 false 1 (.t 18)))),
 (none, (.v (.mov 4 (.t 19))))])
 .ret)
 .skip))
 (.seq (.seq (.ops [(none, (.v (.fld 20 1 (.t 2)))),
 (none, (.v (.load 21 false 1 (.t 20))))])
 (.cond 21
 (.seq (.ops [(none, (.v (.mov 4 (.c (.bool false)))))])
 .ret)
 .skip))
 (.seq (.ops [(none, (.v (.fld 22 3 (.t 2)))),
 (none, (.v (.fld 23 0 (.t 22)))),
 (none, (.v (.load 24 false 1 (.t 23)))),
 (none, (.v (.bin 25 .eql false (.t 24) (.c (.int .i64 0))))),
 (none, (.v (.mov 26 (.t 25)))),
 ((some (26, false)), (.v (.fld 27 0 (.t 3)))),
 ((some (26, false)), (.v (.load 28 false 1 (.t 27)))),
 ((some (26, false)), (.v (.fld 29 3 (.t 2)))),
 ((some (26, false)), (.v (.fld 30 0 (.t 29)))),
 ((some (26, false)), (.v (.load 31 false 1 (.t 30)))),
 ((some (26, false)), (.v (.bin 32 .eql false (.t 28) (.t 31)))),
 ((some (26, false)), (.v (.mov 33 (.t 32)))),
 ((some (33, true)), (.v (.load 34 true 3 (.t 3)))),
 ((some (33, true)), (.v (.fld 35 3 (.t 2)))),
 ((some (33, true)), (.v (.load 36 true 3 (.t 35)))),
 ((some (33, true)), (.e (.call (some 37) 47 [(.t 34), (.t 36)]))),
 ((some (33, true)), (.v (.bin 38 .gtr false (.t 37) (.c (.int .i64 0))))),
 ((some (33, true)), (.v (.mov 39 (.t 38)))),
 ((some (39, false)), (.v (.load 40 true 3 (.t 3)))),
 ((some (39, false)), (.v (.fld 41 3 (.t 2)))),
 ((some (39, false)), (.v (.load 42 true 3 (.t 41)))),
 ((some (39, false)), (.v (.eq 43 false (.agg [(0, false, 1, .int), (1, false, 1, .int), (2, false, 1, .str)]) (.t 40) (.t 42)))),
 ((some (39, false)), (.v (.mov 44 (.t 43)))),
 ((some (44, true)), (.v (.fld 45 9 (.t 2)))),
 ((some (44, true)), (.v (.load 46 false 1 (.t 45)))),
 ((some (39, false)), (.v (.pick 47 (.t 44) (.t 46) (.c (.bool false))))),
 ((some (33, true)), (.v (.pick 48 (.t 39) (.c (.bool true)) (.t 47)))),
 ((some (26, false)), (.v (.pick 49 (.t 33) (.t 48) (.c (.bool false))))),
 (none, (.v (.pick 50 (.t 26) (.c (.bool true)) (.t 49)))),
 (none, (.v (.mov 5 (.t 50))))])
 (.seq (.ops [(none, (.v (.fld 51 6 (.t 2)))),
 (none, (.v (.fld 52 0 (.t 51)))),
 (none, (.v (.load 53 false 1 (.t 52)))),
 (none, (.v (.bin 54 .eql false (.t 53) (.c (.int .i64 0))))),
 (none, (.v (.mov 55 (.t 54)))),
 ((some (55, false)), (.v (.fld 56 0 (.t 3)))),
 ((some (55, false)), (.v (.load 57 false 1 (.t 56)))),
 ((some (55, false)), (.v (.fld 58 6 (.t 2)))),
 ((some (55, false)), (.v (.fld 59 0 (.t 58)))),
 ((some (55, false)), (.v (.load 60 false 1 (.t 59)))),
 ((some (55, false)), (.v (.bin 61 .eql false (.t 57) (.t 60)))),
 ((some (55, false)), (.v (.mov 62 (.t 61)))),
 ((some (62, true)), (.v (.load 63 true 3 (.t 3)))),
 ((some (62, true)), (.v (.fld 64 6 (.t 2)))),
 ((some (62, true)), (.v (.load 65 true 3 (.t 64)))),
 ((some (62, true)), (.e (.call (some 66) 47 [(.t 63), (.t 65)]))),
 ((some (62, true)), (.v (.bin 67 .lss false (.t 66) (.c (.int .i64 0))))),
 ((some (62, true)), (.v (.mov 68 (.t 67)))),
 ((some (68, false)), (.v (.load 69 true 3 (.t 3)))),
 ((some (68, false)), (.v (.fld 70 6 (.t 2)))),
 ((some (68, false)), (.v (.load 71 true 3 (.t 70)))),
 ((some (68, false)), (.v (.eq 72 false (.agg [(0, false, 1, .int), (1, false, 1, .int), (2, false, 1, .str)]) (.t 69) (.t 71)))),
 ((some (68, false)), (.v (.mov 73 (.t 72)))),
 ((some (73, true)), (.v (.fld 74 10 (.t 2)))),
 ((some (73, true)), (.v (.load 75 false 1 (.t 74)))),
 ((some (68, false)), (.v (.pick 76 (.t 73) (.t 75) (.c (.bool false))))),
 ((some (62, true)), (.v (.pick 77 (.t 68) (.c (.bool true)) (.t 76)))),
 ((some (55, false)), (.v (.pick 78 (.t 62) (.t 77) (.c (.bool false))))),
 (none, (.v (.pick 79 (.t 55) (.c (.bool true)) (.t 78)))),
 (none, (.v (.mov 6 (.t 79))))])
 (.seq (.ops [(none, (.v (.mov 80 (.t 5)))),
 (none, (.v (.mov 81 (.t 80)))),
 ((some (81, true)), (.v (.mov 82 (.t 6)))),
 (none, (.v (.pick 83 (.t 81) (.t 82) (.c (.bool false))))),
 (none, (.v (.mov 4 (.t 83))))])
 .ret)))))))
theorem ok73 : FnOk E 73 84 [.tmp 4] mc73 := .of func73 (by kernel_rfl) (by kernel_rfl) (by kernel_rfl) (by kernel_rfl) (by kernel_rfl)
/-- alum/alumref39.apart -/
def mc74 : MC :=
 (.seq (.ops [(none, (.e (.box 2 (.t 0)))),
 (none, (.e (.box 3 (.t 1)))),
 (none, (.v (.mov 4 (.c (.bool false)))))])
 (.seq (.seq (.ops [(none, (.v (.fld 5 3 (.t 3)))),
 (none, (.v (.fld 6 0 (.t 5)))),
 (none, (.v (.load 7 false 1 (.t 6)))),
 (none, (.v (.bin 8 .neq false (.t 7) (.c (.int .i64 0))))),
 (none, (.v (.mov 9 (.t 8)))),
 ((some (9, true)), (.v (.fld 10 3 (.t 3)))),
 ((some (9, true)), (.v (.fld 11 0 (.t 10)))),
 ((some (9, true)), (.v (.load 12 false 1 (.t 11)))),
 ((some (9, true)), (.v (.fld 13 0 (.t 2)))),
 ((some (9, true)), (.v (.fld 14 0 (.t 13)))),
 ((some (9, true)), (.v (.load 15 false 1 (.t 14)))),
 ((some (9, true)), (.v (.bin 16 .neq false (.t 12) (.t 15)))),
 (none, (.v (.pick 17 (.t 9) (.t 16) (.c (.bool false))))),
 (none, (.v (.mov 18 (.t 17)))),
 ((some (18, false)), (.v (.fld 19 6 (.t 3)))),
 ((some (18, false)), (.v (.fld 20 0 (.t 19)))),
 ((some (18, false)), (.v (.load 21 false 1 (.t 20)))),
 ((some (18, false)), (.v (.bin 22 .neq false (.t 21) (.c (.int .i64 0))))),
 ((some (18, false)), (.v (.mov 23 (.t 22)))),
 ((some (23, true)), (.v (.fld 24 6 (.t 3)))),
 ((some (23, true)), (.v (.fld 25 0 (.t 24)))),
 ((some (23, true)), (.v (.load 26 false 1 (.t 25)))),
 ((some (23, true)), (.v (.fld 27 0 (.t 2)))),
 ((some (23, true)), (.v (.fld 28 0 (.t 27)))),
 ((some (23, true)), (.v (.load 29 false 1 (.t 28)))),
 ((some (23, true)), (.v (.bin 30 .neq false (.t 26) (.t 29)))),
 ((some (18, false)), (.v (.pick 31 (.t 23) (.t 30) (.c (.bool false))))),
 (none, (.v (.pick 32 (.t 18) (.c (.bool true)) (.t 31))))])
 (.cond 32
 (.seq (.ops [(none, (.v (.mov 4 (.c (.bool true)))))])
 .ret)
 .skip))
 (.seq (.seq (.ops [(none, (.v (.fld 33 3 (.t 3)))),
 (none, (.v (.fld 34 0 (.t 33)))),
 (none, (.v (.load 35 false 1 (.t 34)))),
 (none, (.v (.bin 36 .neq false (.t 35) (.c (.int .i64 0))))),
 (none, (.v (.mov 37 (.t 36)))),
 ((some (37, true)), (.v (.fld 38 3 (.t 2)))),
 ((some (37, true)), (.v (.load 39 true 3 (.t 38)))),
 ((some (37, true)), (.v (.fld 40 3 (.t 3)))),
 ((some (37, true)), (.v (.load 41 true 3 (.t 40)))),
 ((some (37, true)), (.e (.call (some 42) 47 [(.t 39), (.t 41)]))),
 ((some (37, true)), (.v (.bin 43 .lss false (.t 42) (.c (.int .i64 0))))),
 ((some (37, true)), (.v (.mov 44 (.t 43)))),
 ((some (44, false)), (.v (.fld 45 3 (.t 2)))),
 ((some (44, false)), (.v (.load 46 true 3 (.t 45)))),
 ((some (44, false)), (.v (.fld 47 3 (.t 3)))),
 ((some (44, false)), (.v (.load 48 true 3 (.t 47)))),
 ((some (44, false)), (.v (.eq 49 false (.agg [(0, false, 1, .int), (1, false, 1, .int), (2, false, 1, .str)]) (.t 46) (.t 48)))),
 ((some (44, false)), (.v (.mov 50 (.t 49)))),
 ((some (50, true)), (.v (.fld 51 9 (.t 3)))),
 ((some (50, true)), (.v (.load 52 false 1 (.t 51)))),
 ((some (50, true)), (.v (.not 53 (.t 52)))),
 ((some (44, false)), (.v (.pick 54 (.t 50) (.t 53) (.c (.bool false))))),
 ((some (37, true)), (.v (.pick 55 (.t 44) (.c (.bool true)) (.t 54)))),
 (none, (.v (.pick 56 (.t 37) (.t 55) (.c (.bool false)))))])
 (.cond 56
 (.seq (.ops [(none, (.v (.mov 4 (.c (.bool true)))))])
 .ret)
 .skip))
 (.seq (.ops [(none, (.v (.fld 57 6 (.t 3)))),
 (none, (.v (.fld 58 0 (.t 57)))),
 (none, (.v (.load 59 false 1 (.t 58)))),
 (none, (.v (.bin 60 .neq false (.t 59) (.c (.int .i64 0))))),
 (none, (.v (.mov 61 (.t 60)))),
 ((some (61, true)), (.v (.fld 62 0 (.t 2)))),
 ((some (61, true)), (.v (.load 63 true 3 (.t 62)))),
 ((some (61, true)), (.v (.fld 64 6 (.t 3)))),
 ((some (61, true)), (.v (.load 65 true 3 (.t 64)))),
 ((some (61, true)), (.e (.call (some 66) 47 [(.t 63), (.t 65)]))),
 ((some (61, true)), (.v (.bin 67 .gtr false (.t 66) (.c (.int .i64 0))))),
 ((some (61, true)), (.v (.mov 68 (.t 67)))),
 ((some (68, false)), (.v (.fld 69 0 (.t 2)))),
 ((some (68, false)), (.v (.load 70 true 3 (.t 69)))),
 ((some (68, false)), (.v (.fld 71 6 (.t 3)))),
 ((some (68, false)), (.v (.load 72 true 3 (.t 71)))),
 ((some (68, false)), (.v (.eq 73 false (.agg [(0, false, 1, .int), (1, false, 1, .int), (2, false, 1, .str)]) (.t 70) (.t 72)))),
 ((some (68, false)), (.v (.mov 74 (.t 73)))),
 ((some (74, true)), (.v (.fld 75 10 (.t 3)))),
 ((some (74, true)), (.v (.load 76 false 1 (.t 75)))),
 ((some (74, true)), (.v (.not 77 (.t 76)))),
 ((some (68, false)), (.v (.pick 78 (.t 74) (.t 77) (.c (.bool false))))),
 ((some (61, true)), (.v (.pick 79 (.t 68) (.c (.bool true)) (.t 78)))),
 (none, (.v (.pick 80 (.t 61) (.t 79) (.c (.bool false))))),
 (none, (.v (.mov 4 (.t 80))))])
 .ret))))
theorem ok74 : FnOk E 74 81 [.tmp 4] mc74 := .of func74 (by kernel_rfl) (by kernel_rfl) (by kernel_rfl) (by kernel_rfl) (by kernel_rfl)
end Go.Proofs.Try
namespace Go.Proofs.Try
open Go.Al
set_option linter.unusedVariables false
set_option linter.unusedSimpArgs false
set_option maxRecDepth 20000
set_option maxHeartbeats 8000000

theorem c73 (x : RG) (v : VL) : ACalls E.P 73 [x.av, v.av] [] (fun r H => r = .bool (x.has19 v) ∧ H = []) := by
  have h1 := c47 v x.lo
  have h2 := c47 v x.hi
  simp only [vl_av] at h1 h2
  obtain ⟨e, nl, all, lo, hi, li, ri⟩ := x
  simp only [rg_av, vl_av]
  simp only [] at h1 h2
  have key : ∀ b, b = RG.has19 ⟨e, nl, all, lo, hi, li, ri⟩ v → (AV.bool b = AV.bool (RG.has19 ⟨e, nl, all, lo, hi, li, ri⟩ v)) := fun b h => by rw [h]
  refine ok73.acalls hE hm (by simp) fun N hN => ?_
  unfold mc73
  simp only [lA, ptrCells, ptrAdd, isNil, readsV, readsP, isCall, wrote, srcOf, seval]
  repeat' (first
   | (with_reducible apply St.o; constructor) <;> intro _
   | with_reducible first | refine LenR_i fun _ => ?_ | refine And.intro (by omega) ?_ | (apply Sp.o; constructor) | refine mkl_own ?_ | refine frz0_i ?_
   | ((with_reducible apply Sc.o true; constructor); simp only [lP, seval, vl_eq, vl_eq2]; (first | refine ⟨_, h1, ?_⟩ | refine ⟨_, h2, ?_⟩); rintro _ _ ⟨rfl, rfl⟩; simp only [lA, lP, ptrCells, ptrAdd, isNil, readsV, readsP, isCall, wrote, srcOf, seval, vl_eq, vl_eq2])
   | ((with_reducible refine keep0_i ?_); simp only [lP, seval])
   | simp (maxSteps := 1000000) (disch := omega) only [lE, ptrCells, ptrAdd, isNil, readsV, readsP, isCall, wrote, srcOf, seval, vl_eq, vl_eq2])
  all_goals clear h1 h2
  all_goals
    apply key
    clear key
    simp only [RG.has19, vl_eq] at *
    generalize v.cmp19 lo = c at *
    generalize v.cmp19 hi = d at *
    try simp_all
  all_goals (intros; exfalso; omega)
theorem c72 (b : Bar) (x : RG) : ACalls E.P 72 [b.av, x.av] [] (fun r H => r = .bool (b.apart x) ∧ H = []) := by
  have h1 := c43 b.hi x.lo
  have h2 := c43 b.lo x.hi
  simp only [vl_av] at h1 h2
  obtain ⟨e, nl, all, lo, hi, li, ri⟩ := x
  simp only [rg_av, bar_av]
  simp only [] at h1 h2
  have key : ∀ q, q = Bar.apart b ⟨e, nl, all, lo, hi, li, ri⟩ → (AV.bool q = AV.bool (Bar.apart b ⟨e, nl, all, lo, hi, li, ri⟩)) := fun b h => by rw [h]
  refine ok72.acalls hE hm (by simp) fun N hN => ?_
  unfold mc72
  simp only [lA, ptrCells, ptrAdd, isNil, readsV, readsP, isCall, wrote, srcOf, seval]
  repeat' (first
   | (with_reducible apply St.o; constructor) <;> intro _
   | with_reducible first | refine LenR_i fun _ => ?_ | refine And.intro (by omega) ?_ | (apply Sp.o; constructor) | refine mkl_own ?_ | refine frz0_i ?_
   | ((with_reducible apply Sc.o true; constructor); simp only [lP, seval]; (first | refine ⟨_, h1, ?_⟩ | refine ⟨_, h2, ?_⟩); rintro _ _ ⟨rfl, rfl⟩; simp only [lA, lP, ptrCells, ptrAdd, isNil, readsV, readsP, isCall, wrote, srcOf, seval])
   | ((with_reducible refine keep0_i ?_); simp only [lP, seval])
   | simp (maxSteps := 1000000) (disch := omega) only [lE, ptrCells, ptrAdd, isNil, readsV, readsP, isCall, wrote, srcOf, seval])
  all_goals clear h1 h2
  all_goals
    apply key
    clear key
    simp only [Bar.apart]
    generalize b.hi.cmp lo = c at *
    generalize b.lo.cmp hi = d at *
    try simp_all
  all_goals (intros; exfalso; omega)
theorem c74 (b : Bar) (x : RG) : ACalls E.P 74 [b.av, x.av] [] (fun r H => r = .bool (b.apart19 x) ∧ H = []) := by
  have h1 := c47 b.hi x.lo
  have h2 := c47 b.lo x.hi
  simp only [vl_av] at h1 h2
  obtain ⟨e, nl, all, lo, hi, li, ri⟩ := x
  simp only [rg_av, bar_av]
  simp only [] at h1 h2
  have key : ∀ q, q = Bar.apart19 b ⟨e, nl, all, lo, hi, li, ri⟩ → (AV.bool q = AV.bool (Bar.apart19 b ⟨e, nl, all, lo, hi, li, ri⟩)) := fun b h => by rw [h]
  refine ok74.acalls hE hm (by simp) fun N hN => ?_
  unfold mc74
  simp only [lA, ptrCells, ptrAdd, isNil, readsV, readsP, isCall, wrote, srcOf, seval]
  repeat' (first
   | (with_reducible apply St.o; constructor) <;> intro _
   | with_reducible first | refine LenR_i fun _ => ?_ | refine And.intro (by omega) ?_ | (apply Sp.o; constructor) | refine mkl_own ?_ | refine frz0_i ?_
   | ((with_reducible apply Sc.o true; constructor); simp only [lP, seval, vl_eq, vl_eq2]; (first | refine ⟨_, h1, ?_⟩ | refine ⟨_, h2, ?_⟩); rintro _ _ ⟨rfl, rfl⟩; simp only [lA, lP, ptrCells, ptrAdd, isNil, readsV, readsP, isCall, wrote, srcOf, seval, vl_eq, vl_eq2])
   | ((with_reducible refine keep0_i ?_); simp only [lP, seval])
   | simp (maxSteps := 1000000) (disch := omega) only [lE, ptrCells, ptrAdd, isNil, readsV, readsP, isCall, wrote, srcOf, seval, vl_eq, vl_eq2])
  all_goals clear h1 h2
  all_goals try (exfalso; omega)
  all_goals
    apply key
    clear key
    simp only [Bar.apart19, vl_eq] at *
    generalize b.hi.cmp19 lo = c at *
    generalize b.lo.cmp19 hi = d at *
    try simp_all
  all_goals first
    | (rename_i q1 q2
       rw [decide_eq_false (show ¬ c < 0 by omega), decide_eq_false (show ¬ 0 < d by omega)]; simp; done)
    | (intros; exfalso; omega)
end Go.Proofs.Try
