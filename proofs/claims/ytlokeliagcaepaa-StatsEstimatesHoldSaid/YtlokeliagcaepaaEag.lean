/-
  A part of the proof: see the text of the law.
-/
import Derived.Test.YtlokeliagcaepaaEaf
import Derived.Test.YtlokeliagcaepaaPab
set_option linter.unusedSimpArgs false
set_option linter.unusedVariables false
namespace Go.Proofs.Try
open Go.Al
set_option maxRecDepth 100000
/-- alum/alumref36.RightRange -/
def mc26 : MC :=
 (.seq (.ops [(none, (.e (.box 1 (.t 0)))),
 (none, (.v (.mov 2 (.c (.bool false)))))])
 (.seq (.ops [(none, (.v (.load 7 true 11 (.t 1)))),
 (none, (.e (.alloc 3 [(.bool false), (.bool false), (.bool false), (.int .i64 0), (.int .i64 0), (.str ⟨#[]⟩), (.int .i64 0), (.int .i64 0), (.str ⟨#[]⟩), (.bool false), (.bool false)]))),
 (none, (.e (.store 11 true (.t 3) (.t 7))))])
 (.seq (.ops [(none, (.v (.fld 8 0 (.t 3)))),
 (none, (.e (.store 1 false (.t 8) (.c (.bool false)))))])
 (.seq (.ops [(none, (.v (.fld 9 1 (.t 3)))),
 (none, (.e (.store 1 false (.t 9) (.c (.bool false)))))])
 (.seq (.ops [(none, (.v (.fld 10 2 (.t 3)))),
 (none, (.e (.store 1 false (.t 10) (.c (.bool false)))))])
 (.seq (.seq (.ops [(none, (.v (.fld 11 0 (.t 1)))),
 (none, (.v (.load 12 false 1 (.t 11)))),
 (none, (.v (.mov 13 (.t 12)))),
 ((some (13, false)), (.v (.fld 14 1 (.t 1)))),
 ((some (13, false)), (.v (.load 15 false 1 (.t 14)))),
 (none, (.v (.pick 16 (.t 13) (.c (.bool true)) (.t 15)))),
 (none, (.v (.mov 17 (.t 16)))),
 ((some (17, false)), (.v (.fld 18 2 (.t 1)))),
 ((some (17, false)), (.v (.load 19 false 1 (.t 18)))),
 (none, (.v (.pick 20 (.t 17) (.c (.bool true)) (.t 19))))])
 (.cond 20
 (.seq (.ops [(none, (.v (.fld 21 0 (.t 1)))),
 (none, (.v (.load 22 false 1 (.t 21)))),
 (none, (.v (.fld 23 1 (.t 1)))),
 (none, (.v (.load 24 false 1 (.t 23)))),
 (none, (.v (.bin 25 .neq true (.t 22) (.t 24)))),
 (none, (.v (.mov 26 (.t 25)))),
 ((some (26, true)), (.v (.fld 27 2 (.t 1)))),
 ((some (26, true)), (.v (.load 28 false 1 (.t 27)))),
 ((some (26, true)), (.v (.not 29 (.t 28)))),
 (none, (.v (.pick 30 (.t 26) (.t 29) (.c (.bool false))))),
 (none, (.v (.mov 31 (.t 30)))),
 ((some (31, false)), (.v (.fld 32 0 (.t 1)))),
 ((some (31, false)), (.v (.load 33 false 1 (.t 32)))),
 ((some (31, false)), (.v (.not 34 (.t 33)))),
 ((some (31, false)), (.v (.mov 35 (.t 34)))),
 ((some (35, true)), (.v (.fld 36 1 (.t 1)))),
 ((some (35, true)), (.v (.load 37 false 1 (.t 36)))),
 ((some (35, true)), (.v (.not 38 (.t 37)))),
 ((some (31, false)), (.v (.pick 39 (.t 35) (.t 38) (.c (.bool false))))),
 (none, (.v (.pick 40 (.t 31) (.c (.bool true)) (.t 39)))),
 (none, (.v (.mov 4 (.t 40))))])
 (.seq (.ops [(none, (.v (.mov 41 (.t 4)))),
 (none, (.v (.mov 42 (.t 41)))),
 ((some (42, true)), (.v (.load 43 true 11 (.t 3)))),
 ((some (42, true)), (.v (.build 44 [(.bool false), (.bool false), (.bool false), (.int .i64 0), (.int .i64 0), (.str ⟨#[]⟩), (.int .i64 0), (.int .i64 0), (.str ⟨#[]⟩), (.bool false), (.bool false)] []))),
 ((some (42, true)), (.v (.eq 45 false (.agg [(0, false, 1, .bool), (1, false, 1, .bool), (2, false, 1, .bool), (3, true, 3, (.agg [(0, false, 1, .int), (1, false, 1, .int), (2, false, 1, .str)])), (6, true, 3, (.agg [(0, false, 1, .int), (1, false, 1, .int), (2, false, 1, .str)])), (9, false, 1, .bool), (10, false, 1, .bool)]) (.t 43) (.t 44)))),
 (none, (.v (.pick 46 (.t 42) (.t 45) (.c (.bool false))))),
 (none, (.v (.mov 2 (.t 46))))])
 .ret))
 .skip))
 (.seq (.ops [(none, (.v (.fld 47 3 (.t 1)))),
 (none, (.v (.load 48 true 3 (.t 47)))),
 (none, (.e (.call (some 49) 58 [(.t 48)]))),
 (none, (.v (.mov 5 (.t 49))))])
 (.seq (.ops [(none, (.v (.fld 50 6 (.t 1)))),
 (none, (.v (.load 51 true 3 (.t 50)))),
 (none, (.e (.call (some 52) 58 [(.t 51)]))),
 (none, (.v (.mov 6 (.t 52))))])
 (.seq (.seq (.ops [(none, (.v (.mov 53 (.t 5)))),
 (none, (.v (.not 54 (.t 53)))),
 (none, (.v (.mov 55 (.t 54)))),
 ((some (55, false)), (.v (.mov 56 (.t 6)))),
 ((some (55, false)), (.v (.not 57 (.t 56)))),
 (none, (.v (.pick 58 (.t 55) (.c (.bool true)) (.t 57)))),
 (none, (.v (.mov 59 (.t 58)))),
 ((some (59, false)), (.v (.fld 60 9 (.t 1)))),
 ((some (59, false)), (.v (.load 61 false 1 (.t 60)))),
 ((some (59, false)), (.v (.mov 62 (.t 61)))),
 ((some (62, true)), (.v (.fld 63 3 (.t 1)))),
 ((some (62, true)), (.v (.fld 64 0 (.t 63)))),
 ((some (62, true)), (.v (.load 65 false 1 (.t 64)))),
 ((some (62, true)), (.v (.bin 66 .eql false (.t 65) (.c (.int .i64 0))))),
 ((some (59, false)), (.v (.pick 67 (.t 62) (.t 66) (.c (.bool false))))),
 (none, (.v (.pick 68 (.t 59) (.c (.bool true)) (.t 67)))),
 (none, (.v (.mov 69 (.t 68)))),
 ((some (69, false)), (.v (.fld 70 10 (.t 1)))),
 ((some (69, false)), (.v (.load 71 false 1 (.t 70)))),
 ((some (69, false)), (.v (.mov 72 (.t 71)))),
 ((some (72, true)), (.v (.fld 73 6 (.t 1)))),
 ((some (72, true)), (.v (.fld 74 0 (.t 73)))),
 ((some (72, true)), (.v (.load 75 false 1 (.t 74)))),
 ((some (72, true)), (.v (.bin 76 .eql false (.t 75) (.c (.int .i64 0))))),
 ((some (69, false)), (.v (.pick 77 (.t 72) (.t 76) (.c (.bool false))))),
 (none, (.v (.pick 78 (.t 69) (.c (.bool true)) (.t 77))))])
 (.cond 78
 (.seq (.ops [(none, (.v (.mov 2 (.c (.bool false)))))])
 .ret)
 .skip))
 (.seq (.seq (.ops [(none, (.v (.fld 79 3 (.t 1)))),
 (none, (.v (.fld 80 0 (.t 79)))),
 (none, (.v (.load 81 false 1 (.t 80)))),
 (none, (.v (.bin 82 .neq false (.t 81) (.c (.int .i64 0))))),
 (none, (.v (.mov 83 (.t 82)))),
 ((some (83, true)), (.v (.fld 84 6 (.t 1)))),
 ((some (83, true)), (.v (.fld 85 0 (.t 84)))),
 ((some (83, true)), (.v (.load 86 false 1 (.t 85)))),
 ((some (83, true)), (.v (.bin 87 .neq false (.t 86) (.c (.int .i64 0))))),
 (none, (.v (.pick 88 (.t 83) (.t 87) (.c (.bool false))))),
 (none, (.v (.mov 89 (.t 88)))),
 ((some (89, true)), (.v (.fld 90 3 (.t 1)))),
 ((some (89, true)), (.v (.fld 91 0 (.t 90)))),
 ((some (89, true)), (.v (.load 92 false 1 (.t 91)))),
 ((some (89, true)), (.v (.fld 93 6 (.t 1)))),
 ((some (89, true)), (.v (.fld 94 0 (.t 93)))),
 ((some (89, true)), (.v (.load 95 false 1 (.t 94)))),
 ((some (89, true)), (.v (.bin 96 .neq false (.t 92) (.t 95)))),
 (none, (.v (.pick 97 (.t 89) (.t 96) (.c (.bool false)))))])
 (.cond 97
 (.seq (.ops [(none, (.v (.mov 2 (.c (.bool false)))))])
 .ret)
 .skip))
 (.seq (.ops [(none, (.v (.load 98 true 11 (.t 1)))),
 (none, (.e (.call (some 99) 59 [(.t 98)]))),
 (none, (.v (.not 100 (.t 99)))),
 (none, (.v (.mov 2 (.t 100))))])
 .ret)))))))))))
theorem ok26 : FnOk E 26 101 [.tmp 2] mc26 := .of func26 (by kernel_rfl) (by kernel_rfl) (by kernel_rfl) (by kernel_rfl) (by kernel_rfl)
/-- alum/expr.In -/
def mc31 : MC :=
 (.seq (.ops [(none, (.e (.box 2 (.t 0)))),
 (none, (.e (.box 3 (.t 1)))),
 (none, (.v (.mov 4 (.c (.bool false)))))])
 (.seq (.block 0 (.seq (.ops [(none, (.v (.fld 8 0 (.t 2)))),
 (none, (.v (.load 9 false 1 (.t 8)))),
 (none, (.v (.mov 10 (.t 9)))),
 ((some (10, false)), (.v (.fld 11 2 (.t 2)))),
 ((some (10, false)), (.v (.load 12 false 1 (.t 11)))),
 (none, (.v (.pick 13 (.t 10) (.c (.bool true)) (.t 12)))),
 (none, (.v (.mov 7 (.t 13))))])
 (.cond 7
 (.seq (.ops [(none, (.v (.fld 14 2 (.t 2)))),
 (none, (.v (.load 15 false 1 (.t 14)))),
 (none, (.v (.mov 4 (.t 15))))])
 .ret)
 (.seq (.ops [(none, (.v (.fld 17 1 (.t 2)))),
 (none, (.v (.load 18 false 1 (.t 17)))),
 (none, (.v (.mov 19 (.t 18)))),
 ((some (19, false)), (.v (.fld 20 0 (.t 3)))),
 ((some (19, false)), (.v (.load 21 false 1 (.t 20)))),
 ((some (19, false)), (.v (.bin 22 .eql false (.t 21) (.c (.int .i64 0))))),
 (none, (.v (.pick 23 (.t 19) (.c (.bool true)) (.t 22)))),
 (none, (.v (.mov 16 (.t 23))))])
 (.cond 16
 (.seq (.ops [(none, (.v (.fld 24 1 (.t 2)))),
 (none, (.v (.load 25 false 1 (.t 24)))),
 (none, (.v (.mov 26 (.t 25)))),
 ((some (26, true)), (.v (.fld 27 0 (.t 3)))),
 ((some (26, true)), (.v (.load 28 false 1 (.t 27)))),
 ((some (26, true)), (.v (.bin 29 .eql false (.t 28) (.c (.int .i64 0))))),
 (none, (.v (.pick 30 (.t 26) (.t 29) (.c (.bool false))))),
 (none, (.v (.mov 4 (.t 30))))])
 .ret)
 .skip)))))
 (.seq (.seq (.ops [(none, (.v (.fld 31 3 (.t 2)))),
 (none, (.v (.fld 32 0 (.t 31)))),
 (none, (.v (.load 33 false 1 (.t 32)))),
 (none, (.v (.bin 34 .neq false (.t 33) (.c (.int .i64 0)))))])
 (.cond 34
 (.seq (.ops [(none, (.v (.load 35 true 3 (.t 3)))),
 (none, (.v (.fld 36 3 (.t 2)))),
 (none, (.v (.load 37 true 3 (.t 36)))),
 (none, (.e (.call (some 38) 43 [(.t 35), (.t 37)]))),
 (none, (.v (.mov 5 (.t 38))))])
 (.seq (.ops [(none, (.v (.fld 39 0 (.t 3)))),
 (none, (.v (.load 40 false 1 (.t 39)))),
 (none, (.v (.fld 41 3 (.t 2)))),
 (none, (.v (.fld 42 0 (.t 41)))),
 (none, (.v (.load 43 false 1 (.t 42)))),
 (none, (.v (.bin 44 .neq false (.t 40) (.t 43)))),
 (none, (.v (.mov 45 (.t 44)))),
 ((some (45, false)), (.v (.mov 46 (.t 5)))),
 ((some (45, false)), (.v (.bin 47 .lss false (.t 46) (.c (.int .i64 0))))),
 (none, (.v (.pick 48 (.t 45) (.c (.bool true)) (.t 47)))),
 (none, (.v (.mov 49 (.t 48)))),
 ((some (49, false)), (.v (.mov 50 (.t 5)))),
 ((some (49, false)), (.v (.bin 51 .eql false (.t 50) (.c (.int .i64 0))))),
 ((some (49, false)), (.v (.mov 52 (.t 51)))),
 ((some (52, true)), (.v (.fld 53 9 (.t 2)))),
 ((some (52, true)), (.v (.load 54 false 1 (.t 53)))),
 ((some (52, true)), (.v (.not 55 (.t 54)))),
 ((some (49, false)), (.v (.pick 56 (.t 52) (.t 55) (.c (.bool false))))),
 (none, (.v (.pick 57 (.t 49) (.c (.bool true)) (.t 56))))])
 (.cond 57
 (.seq (.ops [(none, (.v (.mov 4 (.c (.bool false)))))])
 .ret)
 .skip)))
 .skip))
 (.seq (.seq (.ops [(none, (.v (.fld 58 6 (.t 2)))),
 (none, (.v (.fld 59 0 (.t 58)))),
 (none, (.v (.load 60 false 1 (.t 59)))),
 (none, (.v (.bin 61 .neq false (.t 60) (.c (.int .i64 0)))))])
 (.cond 61
 (.seq (.ops [(none, (.v (.load 62 true 3 (.t 3)))),
 (none, (.v (.fld 63 6 (.t 2)))),
 (none, (.v (.load 64 true 3 (.t 63)))),
 (none, (.e (.call (some 65) 43 [(.t 62), (.t 64)]))),
 (none, (.v (.mov 6 (.t 65))))])
 (.seq (.ops [(none, (.v (.fld 66 0 (.t 3)))),
 (none, (.v (.load 67 false 1 (.t 66)))),
 (none, (.v (.fld 68 6 (.t 2)))),
 (none, (.v (.fld 69 0 (.t 68)))),
 (none, (.v (.load 70 false 1 (.t 69)))),
 (none, (.v (.bin 71 .neq false (.t 67) (.t 70)))),
 (none, (.v (.mov 72 (.t 71)))),
 ((some (72, false)), (.v (.mov 73 (.t 6)))),
 ((some (72, false)), (.v (.bin 74 .gtr false (.t 73) (.c (.int .i64 0))))),
 (none, (.v (.pick 75 (.t 72) (.c (.bool true)) (.t 74)))),
 (none, (.v (.mov 76 (.t 75)))),
 ((some (76, false)), (.v (.mov 77 (.t 6)))),
 ((some (76, false)), (.v (.bin 78 .eql false (.t 77) (.c (.int .i64 0))))),
 ((some (76, false)), (.v (.mov 79 (.t 78)))),
 ((some (79, true)), (.v (.fld 80 10 (.t 2)))),
 ((some (79, true)), (.v (.load 81 false 1 (.t 80)))),
 ((some (79, true)), (.v (.not 82 (.t 81)))),
 ((some (76, false)), (.v (.pick 83 (.t 79) (.t 82) (.c (.bool false))))),
 (none, (.v (.pick 84 (.t 76) (.c (.bool true)) (.t 83))))])
 (.cond 84
 (.seq (.ops [(none, (.v (.mov 4 (.c (.bool false)))))])
 .ret)
 .skip)))
 .skip))
 (.seq (.ops [(none, (.v (.mov 4 (.c (.bool true)))))])
 .ret)))))
theorem ok31 : FnOk E 31 85 [.tmp 4] mc31 := .of func31 (by kernel_rfl) (by kernel_rfl) (by kernel_rfl) (by kernel_rfl) (by kernel_rfl)
/-- alum/alumref36.void -/
def mc59 : MC :=
 (.seq (.ops [(none, (.e (.box 1 (.t 0)))),
 (none, (.v (.mov 2 (.c (.bool false)))))])
 (.seq (.seq (.ops [(none, (.v (.fld 4 3 (.t 1)))),
 (none, (.v (.fld 5 0 (.t 4)))),
 (none, (.v (.load 6 false 1 (.t 5)))),
 (none, (.v (.bin 7 .eql false (.t 6) (.c (.int .i64 0))))),
 (none, (.v (.mov 8 (.t 7)))),
 ((some (8, false)), (.v (.fld 9 6 (.t 1)))),
 ((some (8, false)), (.v (.fld 10 0 (.t 9)))),
 ((some (8, false)), (.v (.load 11 false 1 (.t 10)))),
 ((some (8, false)), (.v (.bin 12 .eql false (.t 11) (.c (.int .i64 0))))),
 (none, (.v (.pick 13 (.t 8) (.c (.bool true)) (.t 12))))])
 (.cond 13
 (.seq (.ops [(none, (.v (.mov 2 (.c (.bool false)))))])
 .ret)
 .skip))
 (.seq (.ops [(none, (.v (.fld 14 3 (.t 1)))),
 (none, (.v (.load 15 true 3 (.t 14)))),
 (none, (.v (.fld 16 6 (.t 1)))),
 (none, (.v (.load 17 true 3 (.t 16)))),
 (none, (.e (.call (some 18) 47 [(.t 15), (.t 17)]))),
 (none, (.v (.mov 3 (.t 18))))])
 (.seq (.ops [(none, (.v (.mov 19 (.t 3)))),
 (none, (.v (.bin 20 .gtr false (.t 19) (.c (.int .i64 0))))),
 (none, (.v (.mov 21 (.t 20)))),
 ((some (21, false)), (.v (.mov 22 (.t 3)))),
 ((some (21, false)), (.v (.bin 23 .eql false (.t 22) (.c (.int .i64 0))))),
 ((some (21, false)), (.v (.mov 24 (.t 23)))),
 ((some (24, true)), (.v (.fld 25 9 (.t 1)))),
 ((some (24, true)), (.v (.load 26 false 1 (.t 25)))),
 ((some (24, true)), (.v (.mov 27 (.t 26)))),
 ((some (27, true)), (.v (.fld 28 10 (.t 1)))),
 ((some (27, true)), (.v (.load 29 false 1 (.t 28)))),
 ((some (24, true)), (.v (.pick 30 (.t 27) (.t 29) (.c (.bool false))))),
 ((some (24, true)), (.v (.not 31 (.t 30)))),
 ((some (21, false)), (.v (.pick 32 (.t 24) (.t 31) (.c (.bool false))))),
 (none, (.v (.pick 33 (.t 21) (.c (.bool true)) (.t 32)))),
 (none, (.v (.mov 2 (.t 33))))])
 .ret))))
theorem ok59 : FnOk E 59 34 [.tmp 2] mc59 := .of func59 (by kernel_rfl) (by kernel_rfl) (by kernel_rfl) (by kernel_rfl) (by kernel_rfl)
end Go.Proofs.Try
namespace Go.Proofs.Try
open Go.Al
set_option linter.unusedVariables false
set_option linter.unusedSimpArgs false
set_option maxRecDepth 20000
set_option maxHeartbeats 8000000

abbrev RG.cs (x : RG) : List AV := [.bool x.e, .bool x.nl, .bool x.all, .int .i64 x.lo.k, .int .i64 x.lo.n, .str x.lo.s, .int .i64 x.hi.k, .int .i64 x.hi.n, .str x.hi.s, .bool x.li, .bool x.ri]
def RG.av (x : RG) : AV := .agg x.cs
theorem rg_av (x : RG) : x.av = .agg x.cs := rfl
theorem ti42 : E.TI 42 = some ⟨.struct [(0, 4), (1, 4), (2, 4), (3, 40), (6, 40), (9, 4), (10, 4)], 11, 80, [.bool false, .bool false, .bool false, .int .i64 0, .int .i64 0, .string ByteArray.empty, .int .i64 0, .int .i64 0, .string ByteArray.empty, .bool false, .bool false], true, true, false⟩ := rfl
theorem c31 (x : RG) (v : VL) : ACalls E.P 31 [x.av, v.av] [] (fun r H => r = .bool (x.has v) ∧ H = []) := by
  have h1 := c43 v x.lo
  have h2 := c43 v x.hi
  simp only [vl_av] at h1 h2
  obtain ⟨e, nl, all, lo, hi, li, ri⟩ := x
  simp only [rg_av, vl_av]
  simp only [] at h1 h2
  have key : ∀ b, b = RG.has ⟨e, nl, all, lo, hi, li, ri⟩ v → (AV.bool b = AV.bool (RG.has ⟨e, nl, all, lo, hi, li, ri⟩ v)) := fun b h => by rw [h]
  refine ok31.acalls hE hm (by simp) fun N hN => ?_
  unfold mc31
  simp only [lA, ptrCells, ptrAdd, isNil, readsV, readsP, isCall, wrote, srcOf, seval]
  repeat' (first
   | (with_reducible apply St.o; constructor) <;> intro _
   | with_reducible first | refine LenR_i fun _ => ?_ | refine And.intro (by omega) ?_ | (apply Sp.o; constructor) | refine mkl_own ?_ | refine frz0_i ?_
   | ((with_reducible apply Sc.o true; constructor); simp only [lP, seval]; (first | refine ⟨_, h1, ?_⟩ | refine ⟨_, h2, ?_⟩); rintro _ _ ⟨rfl, rfl⟩; simp only [lA, lP, ptrCells, ptrAdd, isNil, readsV, readsP, isCall, wrote, srcOf, seval])
   | ((with_reducible refine keep0_i ?_); simp only [lP, seval])
   | simp (maxSteps := 1000000) (disch := omega) only [lE, ptrCells, ptrAdd, isNil, readsV, readsP, isCall, wrote, srcOf, seval])
  all_goals clear h1 h2
  all_goals
    apply key
    clear key
    simp only [RG.has]
    generalize v.cmp lo = c at *
    generalize v.cmp hi = d at *
    try simp_all
  all_goals trace_state

theorem c59 (x : RG) : ACalls E.P 59 [x.av] [] (fun r H => r = .bool x.void19 ∧ H = []) := by
  obtain ⟨e, nl, all, lo, hi, li, ri⟩ := x
  have h47 : ACalls E.P 47 [.agg lo.cs, .agg hi.cs] [] (fun r H => r = .int .i64 (lo.cmp19 hi) ∧ H = []) := c47 lo hi
  have key : ∀ b, b = RG.void19 ⟨e, nl, all, lo, hi, li, ri⟩ → (AV.bool b = AV.bool (RG.void19 ⟨e, nl, all, lo, hi, li, ri⟩)) := fun b h => by rw [h]
  simp only [rg_av]
  refine ok59.acalls hE hm (by simp) fun N hN => ?_
  unfold mc59
  simp only [lA, ptrCells, ptrAdd, isNil, readsV, readsP, isCall, wrote, srcOf, seval]
  repeat' (first
   | (with_reducible apply St.o; constructor) <;> intro _
   | with_reducible first | refine LenR_i fun _ => ?_ | refine And.intro (by omega) ?_ | (apply Sp.o; constructor) | refine mkl_own ?_ | refine frz0_i ?_
   | ((with_reducible apply Sc.o true; constructor); simp only [lP, seval, ti42]; refine ⟨_, h47, ?_⟩; rintro _ _ ⟨rfl, rfl⟩; simp only [lA, lP, ptrCells, ptrAdd, isNil, readsV, readsP, isCall, wrote, srcOf, seval, ti42])
   | ((with_reducible refine keep0_i ?_); simp only [lP, seval])
   | simp (maxSteps := 1000000) (disch := omega) only [lE, ptrCells, ptrAdd, isNil, readsV, readsP, isCall, wrote, srcOf, seval, ti42])
  all_goals clear h47
  all_goals
    apply key
    clear key
    simp only [RG.void19]
    simp [*]
theorem c26 (x : RG) : ACalls E.P 26 [x.av] [] (fun r H => r = .bool x.rt ∧ H = []) := by
  have h59 := c59 x
  obtain ⟨e, nl, all, lo, hi, li, ri⟩ := x
  have h58 : ∀ v : VL, ACalls E.P 58 [.agg v.cs] [] (fun r H => r = .bool (decide v.Right) ∧ H = []) := c58
  have h58a := h58 lo
  have h58b := h58 hi
  have key : ∀ b, b = RG.rt ⟨e, nl, all, lo, hi, li, ri⟩ → (AV.bool b = AV.bool (RG.rt ⟨e, nl, all, lo, hi, li, ri⟩)) := fun b h => by rw [h]
  simp only [rg_av] at *
  refine ok26.acalls hE hm (by simp) fun N hN => ?_
  unfold mc26
  simp only [lA, ptrCells, ptrAdd, isNil, readsV, readsP, isCall, wrote, srcOf, seval]
  cases e <;> cases nl <;> cases all
  all_goals
    repeat' (first
     | (with_reducible apply St.o; constructor) <;> intro _
     | with_reducible first | refine LenR_i fun _ => ?_ | refine And.intro (by omega) ?_ | (apply Sp.o; constructor) | refine mkl_own ?_ | refine frz0_i ?_
     | ((with_reducible apply Sc.o true; constructor); simp only [lP, seval, ti42, strA, flatEq]; (first | refine ⟨_, h58a, ?_⟩ | refine ⟨_, h58b, ?_⟩ | refine ⟨_, h59, ?_⟩); rintro _ _ ⟨rfl, rfl⟩; simp only [lA, lP, ptrCells, ptrAdd, isNil, readsV, readsP, isCall, wrote, srcOf, seval, ti42, strA, flatEq])
     | ((with_reducible refine keep0_i ?_); simp only [lP, seval])
     | simp (maxSteps := 1000000) (disch := omega) only [lE, ptrCells, ptrAdd, isNil, readsV, readsP, isCall, wrote, srcOf, seval, ti42, strA, flatEq])
  all_goals clear h59 h58 h58a h58b
  all_goals
    apply key
    clear key
    simp only [RG.rt, null_iff]
    first
      | (simp_all; done)
      | (simp [*]; done)
      | trace_state
end Go.Proofs.Try
