/-
  A part of the proof: see the text of the law.
-/
import Derived.Test.YtjiijjfpmaligaaDoorCax
import Derived.Test.YtjiijjfpmaligaaDoorCbe
import Derived.Test.YtjiijjfpmaligaaDoorCar
import Derived.Test.YtjiijjfpmaligaaDoorCbw
import Derived.Test.YtjiijjfpmaligaaDoorCbk
import Derived.Test.YtjiijjfpmaligaaDoorCbf
set_option linter.unusedSimpArgs false
set_option linter.unusedVariables false
namespace Go.Proofs.Try
open Go.Proofs.Tryd
open Go.Al
set_option maxRecDepth 100000
/-- alum/alumref36.Plain -/
def mc27 : MC :=
 (.seq (.ops [(none, (.e (.box 2 (.t 0)))),
 (none, (.v (.mov 4 (.c (.bool false)))))])
 (.seq (.ops [(none, (.v (.load 8 true 6 (.t 2)))),
 (none, (.e (.call (some 9) 29 [(.t 8)]))),
 (none, (.v (.mov 5 (.t 9))))])
 (.seq (.seq (.ops [(none, (.v (.mov 6 (.c (.int .i64 0)))))])
 (.block 0 (.loop (.seq (.seq (.ops [(none, (.v (.mov 10 (.t 6)))),
 (none, (.v (.mov 11 (.t 5)))),
 (none, (.p (.len 12 (.t 11)))),
 (none, (.v (.bin 13 .lss false (.t 10) (.t 12))))])
 (.cond 13
 .skip
 (.exit 0)))
 (.seq (.block 1 (.seq (.ops [(none, (.v (.mov 16 (.t 5)))),
 (none, (.v (.mov 17 (.t 6)))),
 (none, (.p (.idx 18 6 (.t 16) (.t 17)))),
 (none, (.v (.load 19 true 6 (.t 18)))),
 (none, (.v (.mov 20 (.t 1)))),
 (none, (.e (.call (some 21) 68 [(.t 19), (.t 20)]))),
 (none, (.v (.mov 7 (.t 21))))])
 (.seq (.ops [(none, (.v (.mov 22 (.t 7)))),
 (none, (.v (.not 23 (.t 22))))])
 (.cond 23
 (.seq (.ops [(none, (.v (.mov 4 (.c (.bool false)))))])
 .ret)
 .skip))))
 (.ops [(none, (.v (.mov 14 (.t 6)))),
 (none, (.v (.bin 15 .add false (.t 14) (.c (.int .i64 1))))),
 (none, (.v (.mov 6 (.t 15))))]))))))
 (.seq (.ops [(none, (.v (.mov 4 (.c (.bool true)))))])
 .ret))))
theorem ok27 : FnOk E 27 24 [.tmp 4] mc27 := .of func27 (by kernel_rfl) (by kernel_rfl) (by kernel_rfl) (by kernel_rfl) (by kernel_rfl)
/-- alum/alumref36.plain -/
def mc68 : MC :=
 (.seq (.ops [(none, (.e (.box 2 (.t 0)))),
 (none, (.v (.mov 4 (.c (.bool false)))))])
 (.seq (.seq (.ops [(none, (.v (.fld 5 0 (.t 2)))),
 (none, (.v (.load 6 false 1 (.t 5)))),
 (none, (.v (.bin 7 .eql false (.t 6) (.c (.int .i64 14)))))])
 (.cond 7
 (.seq (.ops [(none, (.v (.fld 8 5 (.t 2)))),
 (none, (.v (.load 9 false 1 (.t 8)))),
 (none, (.p (.idx 10 6 (.t 9) (.c (.int .i64 0))))),
 (none, (.v (.fld 11 0 (.t 10)))),
 (none, (.v (.load 12 false 1 (.t 11)))),
 (none, (.v (.bin 13 .eql false (.t 12) (.c (.int .i64 15))))),
 (none, (.v (.mov 14 (.t 13)))),
 ((some (14, true)), (.v (.fld 15 5 (.t 2)))),
 ((some (14, true)), (.v (.load 16 false 1 (.t 15)))),
 ((some (14, true)), (.p (.idx 17 6 (.t 16) (.c (.int .i64 0))))),
 ((some (14, true)), (.v (.fld 18 5 (.t 17)))),
 ((some (14, true)), (.v (.load 19 false 1 (.t 18)))),
 ((some (14, true)), (.p (.idx 20 6 (.t 19) (.c (.int .i64 0))))),
 ((some (14, true)), (.v (.load 21 true 6 (.t 20)))),
 ((some (14, true)), (.v (.mov 22 (.t 1)))),
 ((some (14, true)), (.e (.call (some 23) 98 [(.t 21), (.t 22)]))),
 (none, (.v (.pick 24 (.t 14) (.t 23) (.c (.bool false))))),
 (none, (.v (.mov 4 (.t 24))))])
 .ret)
 .skip))
 (.seq (.seq (.ops [(none, (.v (.fld 25 0 (.t 2)))),
 (none, (.v (.load 26 false 1 (.t 25)))),
 (none, (.v (.bin 27 .eql false (.t 26) (.c (.int .i64 15)))))])
 (.cond 27
 (.seq (.ops [(none, (.v (.fld 28 5 (.t 2)))),
 (none, (.v (.load 29 false 1 (.t 28)))),
 (none, (.p (.idx 30 6 (.t 29) (.c (.int .i64 0))))),
 (none, (.v (.load 31 true 6 (.t 30)))),
 (none, (.v (.mov 32 (.t 1)))),
 (none, (.e (.call (some 33) 98 [(.t 31), (.t 32)]))),
 (none, (.v (.mov 4 (.t 33))))])
 .ret)
 .skip))
 (.seq (.seq (.ops [(none, (.v (.fld 34 0 (.t 2)))),
 (none, (.v (.load 35 false 1 (.t 34)))),
 (none, (.e (.call (some 36) 58 [(.t 35)]))),
 (none, (.v (.not 37 (.t 36)))),
 (none, (.v (.mov 38 (.t 37)))),
 ((some (38, false)), (.v (.fld 39 0 (.t 2)))),
 ((some (38, false)), (.v (.load 40 false 1 (.t 39)))),
 ((some (38, false)), (.v (.bin 41 .eql false (.t 40) (.c (.int .i64 7))))),
 (none, (.v (.pick 42 (.t 38) (.c (.bool true)) (.t 41))))])
 (.cond 42
 (.seq (.ops [(none, (.v (.mov 4 (.c (.bool false)))))])
 .ret)
 .skip))
 (.seq (.ops [(none, (.v (.fld 43 5 (.t 2)))),
 (none, (.v (.load 44 false 1 (.t 43)))),
 (none, (.p (.idx 45 6 (.t 44) (.c (.int .i64 0))))),
 (none, (.v (.load 46 true 6 (.t 45)))),
 (none, (.v (.mov 47 (.t 1)))),
 (none, (.e (.call (some 48) 98 [(.t 46), (.t 47)]))),
 (none, (.v (.mov 49 (.t 48)))),
 ((some (49, true)), (.v (.fld 50 5 (.t 2)))),
 ((some (49, true)), (.v (.load 51 false 1 (.t 50)))),
 ((some (49, true)), (.p (.idx 52 6 (.t 51) (.c (.int .i64 1))))),
 ((some (49, true)), (.v (.fld 53 0 (.t 52)))),
 ((some (49, true)), (.v (.load 54 false 1 (.t 53)))),
 ((some (49, true)), (.v (.bin 55 .eql false (.t 54) (.c (.int .i64 2))))),
 (none, (.v (.pick 56 (.t 49) (.t 55) (.c (.bool false))))),
 (none, (.v (.mov 57 (.t 56)))),
 ((some (57, false)), (.v (.fld 58 5 (.t 2)))),
 ((some (57, false)), (.v (.load 59 false 1 (.t 58)))),
 ((some (57, false)), (.p (.idx 60 6 (.t 59) (.c (.int .i64 1))))),
 ((some (57, false)), (.v (.load 61 true 6 (.t 60)))),
 ((some (57, false)), (.v (.mov 62 (.t 1)))),
 ((some (57, false)), (.e (.call (some 63) 98 [(.t 61), (.t 62)]))),
 ((some (57, false)), (.v (.mov 64 (.t 63)))),
 ((some (64, true)), (.v (.fld 65 5 (.t 2)))),
 ((some (64, true)), (.v (.load 66 false 1 (.t 65)))),
 ((some (64, true)), (.p (.idx 67 6 (.t 66) (.c (.int .i64 0))))),
 ((some (64, true)), (.v (.fld 68 0 (.t 67)))),
 ((some (64, true)), (.v (.load 69 false 1 (.t 68)))),
 ((some (64, true)), (.v (.bin 70 .eql false (.t 69) (.c (.int .i64 2))))),
 ((some (57, false)), (.v (.pick 71 (.t 64) (.t 70) (.c (.bool false))))),
 (none, (.v (.pick 72 (.t 57) (.c (.bool true)) (.t 71)))),
 (none, (.v (.mov 4 (.t 72))))])
 .ret)))))
theorem ok68 : FnOk E 68 73 [.tmp 4] mc68 := .of func68 (by kernel_rfl) (by kernel_rfl) (by kernel_rfl) (by kernel_rfl) (by kernel_rfl)
/-- alum/alumref36.column -/
def mc98 : MC :=
 (.seq (.ops [(none, (.e (.box 2 (.t 0)))),
 (none, (.v (.mov 4 (.c (.bool false)))))])
 (.seq (.ops [(none, (.v (.fld 5 0 (.t 2)))),
 (none, (.v (.load 6 false 1 (.t 5)))),
 (none, (.v (.bin 7 .eql false (.t 6) (.c (.int .i64 1))))),
 (none, (.v (.mov 8 (.t 7)))),
 ((some (8, true)), (.v (.fld 9 1 (.t 2)))),
 ((some (8, true)), (.v (.load 10 false 1 (.t 9)))),
 ((some (8, true)), (.v (.mov 11 (.t 1)))),
 ((some (8, true)), (.v (.bin 12 .eql false (.t 10) (.t 11)))),
 (none, (.v (.pick 13 (.t 8) (.t 12) (.c (.bool false))))),
 (none, (.v (.mov 4 (.t 13))))])
 .ret))
theorem ok98 : FnOk E 98 14 [.tmp 4] mc98 := .of func98 (by kernel_rfl) (by kernel_rfl) (by kernel_rfl) (by kernel_rfl) (by kernel_rfl)
end Go.Proofs.Try
namespace Go.Proofs.Try
open Go.Al
set_option linter.unusedVariables false
set_option linter.unusedSimpArgs false
set_option maxRecDepth 20000
set_option maxHeartbeats 16000000

/-! ### plain conjuncts -/
def T.plain (c : Int) : T → Bool
  | .un op a => if op = 14 then a.inNull c else a.isCol c
  | .bin op a b => (cmpB op && !decide (op = 7)) && ((a.isCol c && b.isVal) || (b.isCol c && a.isVal))
  | _ => false
theorem c98 (e : EX) (c : Int) : ACalls E.P 98 [e.av, .int .i64 c] [] (fun r H => r = .bool (isColE e c) ∧ H = []) := by
  refine ok98.acalls hE hm (by simp) fun N hN => ?_
  unfold mc98
  simp only [lA, ptrCells, ptrAdd, isNil, readsV, readsP, isCall, wrote, srcOf, seval, av_fs]
  repeat' (first
   | (with_reducible apply St.o; constructor) <;> intro _
   | with_reducible first | refine LenR_i fun _ => ?_ | refine And.intro (by omega) ?_ | (apply Sp.o; constructor) | refine frz0_i ?_
   | ((with_reducible refine keep0_i ?_); simp only [lP, seval])
   | simp (maxSteps := 1000000) (disch := omega) only [lE, ptrCells, ptrAdd, isNil, readsV, readsP, isCall, wrote, srcOf, seval])
  all_goals (rename_i h; simp [isColE, h])
theorem c68 (t : T) (c : Int) (hw : t.wf) : ACalls E.P 68 [t.ex.av, .int .i64 c] [] (fun r H => r = .bool (t.plain c) ∧ H = []) := by
  have hmax := maxLen_eq
  have h58 : ∀ o, ACalls E.P 58 [.int .i64 o] [] (fun r H => r = .bool (cmpB o) ∧ H = []) := c58
  have h98 : ∀ a : T, a.wf → ACalls E.P 98 [.agg a.ex.fs, .int .i64 c] [] (fun r H => r = .bool (a.isCol c) ∧ H = []) := fun a ha => by
    have := c98 a.ex c; rwa [tv_fs, isCol_ex ha] at this
  rw [tv_fs]
  refine ok68.acalls hE hm (by simp) fun N hN => ?_
  unfold mc68
  have c1 : cmpB 1 = false := rfl
  have c2 : cmpB 2 = false := rfl
  cases t with
  | col n =>
    simp only [lA, ptrCells, ptrAdd, isNil, readsV, readsP, isCall, wrote, srcOf, seval, fsL_col]
    repeat' (first
     | (with_reducible apply St.o; constructor) <;> intro _
     | with_reducible first | refine LenR_i fun _ => ?_ | refine And.intro (by omega) ?_ | (apply Sp.o; constructor) | refine frz0_i ?_
     | ((with_reducible apply Sc.o true; constructor); simp only [lP, seval, c1, fsL_col]; refine ⟨_, h58 _, ?_⟩; rintro _ _ ⟨rfl, rfl⟩; simp only [lA, lP, ptrCells, ptrAdd, isNil, readsV, readsP, isCall, wrote, srcOf, seval, c1, fsL_col])
     | ((with_reducible refine keep0_i ?_); simp only [lP, seval])
     | simp (maxSteps := 1000000) (disch := omega) only [lE, ptrCells, ptrAdd, isNil, readsV, readsP, isCall, wrote, srcOf, seval, c1, fsL_col])
    all_goals rfl
  | val v =>
    simp only [lA, ptrCells, ptrAdd, isNil, readsV, readsP, isCall, wrote, srcOf, seval, fsL_val]
    repeat' (first
     | (with_reducible apply St.o; constructor) <;> intro _
     | with_reducible first | refine LenR_i fun _ => ?_ | refine And.intro (by omega) ?_ | (apply Sp.o; constructor) | refine frz0_i ?_
     | ((with_reducible apply Sc.o true; constructor); simp only [lP, seval, c2, fsL_val]; refine ⟨_, h58 _, ?_⟩; rintro _ _ ⟨rfl, rfl⟩; simp only [lA, lP, ptrCells, ptrAdd, isNil, readsV, readsP, isCall, wrote, srcOf, seval, c2, fsL_val])
     | ((with_reducible refine keep0_i ?_); simp only [lP, seval])
     | simp (maxSteps := 1000000) (disch := omega) only [lE, ptrCells, ptrAdd, isNil, readsV, readsP, isCall, wrote, srcOf, seval, c2, fsL_val])
    all_goals rfl
  | un op a =>
    have h98a := h98 a hw.2
    rcases hw.1 with rfl | rfl
    · cases a with
      | col n =>
        simp only [lA, ptrCells, ptrAdd, isNil, readsV, readsP, isCall, wrote, srcOf, seval, fsL_un, fsL_col] at h98a ⊢
        repeat' (first
         | (with_reducible apply St.o; constructor) <;> intro _
         | with_reducible first | refine LenR_i fun _ => ?_ | refine And.intro (by omega) ?_ | (apply Sp.o; constructor) | refine frz0_i ?_
         | ((with_reducible apply Sc.o true; constructor); simp only [lP, seval, IdxR_0, fsL_un, fsL_col, decide_false]; refine ⟨_, h58 _, ?_⟩; rintro _ _ ⟨rfl, rfl⟩; simp only [lA, lP, ptrCells, ptrAdd, isNil, readsV, readsP, isCall, wrote, srcOf, seval, IdxR_0, fsL_un, fsL_col, decide_false])
         | ((with_reducible refine keep0_i ?_); simp only [lP, seval])
         | simp (maxSteps := 1000000) (disch := omega) only [lE, ptrCells, ptrAdd, isNil, readsV, readsP, isCall, wrote, srcOf, seval, IdxR_0, fsL_un, fsL_col, decide_false])
        all_goals clear h58 h98 h98a
        all_goals simp [T.plain, T.inNull]
      | val v =>
        simp only [lA, ptrCells, ptrAdd, isNil, readsV, readsP, isCall, wrote, srcOf, seval, fsL_un, fsL_val] at h98a ⊢
        repeat' (first
         | (with_reducible apply St.o; constructor) <;> intro _
         | with_reducible first | refine LenR_i fun _ => ?_ | refine And.intro (by omega) ?_ | (apply Sp.o; constructor) | refine frz0_i ?_
         | ((with_reducible apply Sc.o true; constructor); simp only [lP, seval, IdxR_0, fsL_un, fsL_val, decide_false]; refine ⟨_, h58 _, ?_⟩; rintro _ _ ⟨rfl, rfl⟩; simp only [lA, lP, ptrCells, ptrAdd, isNil, readsV, readsP, isCall, wrote, srcOf, seval, IdxR_0, fsL_un, fsL_val, decide_false])
         | ((with_reducible refine keep0_i ?_); simp only [lP, seval])
         | simp (maxSteps := 1000000) (disch := omega) only [lE, ptrCells, ptrAdd, isNil, readsV, readsP, isCall, wrote, srcOf, seval, IdxR_0, fsL_un, fsL_val, decide_false])
        all_goals clear h58 h98 h98a
        all_goals simp [T.plain, T.inNull]
      | un o x =>
        have h98x := h98 x hw.2.2
        simp only [lA, ptrCells, ptrAdd, isNil, readsV, readsP, isCall, wrote, srcOf, seval, fsL_un] at h98a ⊢
        repeat' (first
         | (with_reducible apply St.o; constructor) <;> intro _
         | with_reducible first | refine LenR_i fun _ => ?_ | refine And.intro (by omega) ?_ | (apply Sp.o; constructor) | refine frz0_i ?_
         | ((with_reducible apply Sc.o true; constructor); simp only [lP, seval, IdxR_0, fsL_un, ti27, decide_false]; (first | refine ⟨_, h58 _, ?_⟩ | refine ⟨_, h98x, ?_⟩); rintro _ _ ⟨rfl, rfl⟩; simp only [lA, lP, ptrCells, ptrAdd, isNil, readsV, readsP, isCall, wrote, srcOf, seval, IdxR_0, fsL_un, ti27, decide_false])
         | ((with_reducible refine keep0_i ?_); simp only [lP, seval])
         | simp (maxSteps := 1000000) (disch := omega) only [lE, ptrCells, ptrAdd, isNil, readsV, readsP, isCall, wrote, srcOf, seval, IdxR_0, fsL_un, ti27, decide_false])
        all_goals clear h58 h98 h98a h98x
        all_goals simp [T.plain, T.inNull, *]
      | bin o x y =>
        have o15 : o ≠ 15 := by have := hw.2.1; omega
        simp only [lA, ptrCells, ptrAdd, isNil, readsV, readsP, isCall, wrote, srcOf, seval, fsL_un, fsL_bin] at h98a ⊢
        repeat' (first
         | (with_reducible apply St.o; constructor) <;> intro _
         | with_reducible first | refine LenR_i fun _ => ?_ | refine And.intro (by omega) ?_ | (apply Sp.o; constructor) | refine frz0_i ?_
         | ((with_reducible apply Sc.o true; constructor); simp only [lP, seval, o15, IdxR_0, fsL_un, fsL_bin, decide_false]; refine ⟨_, h58 _, ?_⟩; rintro _ _ ⟨rfl, rfl⟩; simp only [lA, lP, ptrCells, ptrAdd, isNil, readsV, readsP, isCall, wrote, srcOf, seval, o15, IdxR_0, fsL_un, fsL_bin, decide_false])
         | ((with_reducible refine keep0_i ?_); simp only [lP, seval])
         | simp (maxSteps := 1000000) (disch := omega) only [lE, ptrCells, ptrAdd, isNil, readsV, readsP, isCall, wrote, srcOf, seval, o15, IdxR_0, fsL_un, fsL_bin, decide_false])
        all_goals clear h58 h98 h98a
        all_goals first
          | contradiction
          | simp [T.plain, T.inNull]
    · simp only [lA, ptrCells, ptrAdd, isNil, readsV, readsP, isCall, wrote, srcOf, seval, fsL_un]
      repeat' (first
       | (with_reducible apply St.o; constructor) <;> intro _
       | with_reducible first | refine LenR_i fun _ => ?_ | refine And.intro (by omega) ?_ | (apply Sp.o; constructor) | refine frz0_i ?_
       | ((with_reducible apply Sc.o true; constructor); simp only [lP, seval, IdxR_0, fsL_un, ti27, decide_false]; refine ⟨_, h98a, ?_⟩; rintro _ _ ⟨rfl, rfl⟩; simp only [lA, lP, ptrCells, ptrAdd, isNil, readsV, readsP, isCall, wrote, srcOf, seval, IdxR_0, fsL_un, ti27, decide_false])
       | ((with_reducible refine keep0_i ?_); simp only [lP, seval])
       | simp (maxSteps := 1000000) (disch := omega) only [lE, ptrCells, ptrAdd, isNil, readsV, readsP, isCall, wrote, srcOf, seval, IdxR_0, fsL_un, ti27, decide_false])
      all_goals clear h58 h98 h98a
      all_goals simp [T.plain]
  | bin op a b =>
    have n14 : op ≠ 14 := by have := hw.1; omega
    have n15 : op ≠ 15 := by have := hw.1; omega
    have h98a := h98 a hw.2.1
    have h98b := h98 b hw.2.2
    have hb2 := op2_ex hw.2.2
    have ha2 := op2_ex hw.2.1
    simp only [lA, ptrCells, ptrAdd, isNil, readsV, readsP, isCall, wrote, srcOf, seval, fsL_bin, n14, n15, decide_false]
    repeat' (first
     | (with_reducible apply St.o; constructor) <;> intro _
     | with_reducible first | refine LenR_i fun _ => ?_ | refine And.intro (by omega) ?_ | (apply Sp.o; constructor) | refine frz0_i ?_
     | ((with_reducible apply Sc.o true; constructor); simp only [lP, seval, n14, n15, ha2, hb2, IdxR_0, IdxR_1, fsL_bin, ti27, decide_false]; (first | refine ⟨_, h58 _, ?_⟩ | refine ⟨_, h98a, ?_⟩ | refine ⟨_, h98b, ?_⟩); rintro _ _ ⟨rfl, rfl⟩; simp only [lA, lP, ptrCells, ptrAdd, isNil, readsV, readsP, isCall, wrote, srcOf, seval, n14, n15, ha2, hb2, IdxR_0, IdxR_1, fsL_bin, ti27, decide_false])
     | ((with_reducible refine keep0_i ?_); simp only [lP, seval])
     | simp (maxSteps := 1000000) (disch := omega) only [lE, ptrCells, ptrAdd, isNil, readsV, readsP, isCall, wrote, srcOf, seval, n14, n15, ha2, hb2, IdxR_0, IdxR_1, fsL_bin, ti27, decide_false])
    all_goals clear h58 h98 h98a h98b
    all_goals (clear ha2 hb2 hmax hw c1 c2; simp_all [T.plain])
theorem c27 (t : T) (c : Int) (hw : t.wf) (hs : t.size ≤ 1048576) : ACalls E.P 27 [t.ex.av, .int .i64 c] [] (fun r H => r = .bool (t.conj.all (T.plain c)) ∧ H = []) := by
  have hmax := maxLen_eq
  have h29 := lendT rfl (c29 t hw hs)
  have hcw := conj_wf t hw
  generalize t.conj = l at *
  simp only [tv_fs] at h29 ⊢
  refine ok27.acalls hE hm (by simp) fun N hN => ?_
  unfold mc27
  simp only [lA, ptrCells, ptrAdd, isNil, readsV, readsP, isCall, wrote, srcOf, seval]
  repeat' (first
   | (with_reducible apply St.o; constructor) <;> intro _
   | with_reducible first | refine LenR_i fun _ => ?_ | refine And.intro (by omega) ?_ | (apply Sp.o; constructor) | refine frz0_i ?_
   | ((with_reducible apply Sc.o false; constructor); simp only [lP, seval, ti27, renL_Ts, List.length_map, pa_exs, vw_exs]; refine ⟨_, h29, ?_⟩; rintro _ _ ⟨rfl, rfl⟩; simp only [lA, lP, ptrCells, ptrAdd, isNil, readsV, readsP, isCall, wrote, srcOf, seval, ti27, renL_Ts, List.length_map, pa_exs, vw_exs])
   | ((with_reducible refine keep0_i ?_); simp only [lP, seval])
   | simp (maxSteps := 1000000) (disch := omega) only [lE, ptrCells, ptrAdd, isNil, readsV, readsP, isCall, wrote, srcOf, seval, ti27, renL_Ts, List.length_map, pa_exs, vw_exs])
  refine loop_i (fun j : Nat => j ≤ l.length ∧ ∀ i, i < j → (l.getD i default).plain c = true) (fun j => ⟨[(1, .int .i64 c), (2, .op 0 0), (5, .view 6 (l.map avT)), (6, .int .i64 j)], [.box t.ex.fs]⟩) (fun j => l.length - j) 0 ⟨by omega, by omega⟩
    (Ent.to [0] false (by simp) (by simp) rfl (by simp only [lP, seval, pa_Ts, vw_Ts, pa_exs] <;> (try simp) <;> (try omega)) (by simp only [lP, seval, pa_Ts, vw_Ts, pa_exs] <;> (try simp) <;> (try omega))) ?_
  rintro j ⟨hj, hall⟩
  by_cases hin : j < l.length
  · have hlt : ((j : Int) < (l.length : Int)) := by omega
    have hxw : (l.getD j default).wf := hcw _ (by simp [hin])
    have h68 := c68 _ c hxw
    simp only [tv_fs] at h68
    by_cases hp : (l.getD j default).plain c = true
    · repeat' (first
       | (with_reducible apply St.o; constructor) <;> intro _
       | with_reducible first | refine LenR_i fun _ => ?_ | refine And.intro (by omega) ?_ | (apply Sp.o; constructor) | refine frz0_i ?_
       | ((with_reducible apply Sc.o true; constructor); simp only [lP, seval, IdxR_Ts, Int.toNat_natCast, List.length_map, hlt, decide_true, ti27, hp]; refine ⟨_, h68, ?_⟩; rintro _ _ ⟨rfl, rfl⟩; simp only [lA, lP, ptrCells, ptrAdd, isNil, readsV, readsP, isCall, wrote, srcOf, seval, IdxR_Ts, Int.toNat_natCast, List.length_map, hlt, decide_true, ti27, hp])
       | ((with_reducible refine keep0_i ?_); simp only [lP, seval])
       | simp (maxSteps := 1000000) (disch := omega) only [lE, ptrCells, ptrAdd, isNil, readsV, readsP, isCall, wrote, srcOf, seval, IdxR_Ts, Int.toNat_natCast, List.length_map, hlt, decide_true, ti27, hp])
      all_goals
        refine back_i (j + 1) ⟨by omega, fun i hi => ?_⟩ (by omega) (Ent.to [0] false (by simp) (by simp) rfl (by simp only [lP, seval, pa_Ts, vw_Ts, pa_exs] <;> (try simp) <;> (try omega)) (by simp only [lP, seval, pa_Ts, vw_Ts, pa_exs] <;> (try simp) <;> (try omega)))
        by_cases h : i < j
        · exact hall i h
        · obtain rfl : i = j := by omega
          exact hp
    · have hf : l.all (T.plain c) = false := all_not hin default (by simpa using hp)
      have hp : (l.getD j default).plain c = false := by simpa using hp
      repeat' (first
       | (with_reducible apply St.o; constructor) <;> intro _
       | with_reducible first | refine LenR_i fun _ => ?_ | refine And.intro (by omega) ?_ | (apply Sp.o; constructor) | refine frz0_i ?_
       | ((with_reducible apply Sc.o true; constructor); simp only [lP, seval, IdxR_Ts, Int.toNat_natCast, List.length_map, hlt, decide_true, ti27, hp]; refine ⟨_, h68, ?_⟩; rintro _ _ ⟨rfl, rfl⟩; simp only [lA, lP, ptrCells, ptrAdd, isNil, readsV, readsP, isCall, wrote, srcOf, seval, IdxR_Ts, Int.toNat_natCast, List.length_map, hlt, decide_true, ti27, hp])
       | ((with_reducible refine keep0_i ?_); simp only [lP, seval])
       | simp (maxSteps := 1000000) (disch := omega) only [lE, ptrCells, ptrAdd, isNil, readsV, readsP, isCall, wrote, srcOf, seval, IdxR_Ts, Int.toNat_natCast, List.length_map, hlt, decide_true, ti27, hp])
      all_goals rw [hf]
  · obtain rfl : j = l.length := by omega
    have ht : l.all (T.plain c) = true := List.all_eq_true.2 fun x hx => by
      obtain ⟨i, hi⟩ := List.getElem?_of_mem hx
      have := hall i (List.getElem?_eq_some_iff.1 hi).1
      rwa [List.getD_eq_getElem?_getD, hi] at this
    repeat' (first
     | (with_reducible apply St.o; constructor) <;> intro _
     | with_reducible first | refine LenR_i fun _ => ?_ | refine And.intro (by omega) ?_ | (apply Sp.o; constructor) | refine frz0_i ?_
     | ((with_reducible refine keep0_i ?_); simp only [lP, seval])
     | simp (maxSteps := 1000000) (disch := omega) only [lE, ptrCells, ptrAdd, isNil, readsV, readsP, isCall, wrote, srcOf, seval, List.length_map, Int.lt_irrefl, decide_false])
    all_goals rw [ht]
end Go.Proofs.Try

namespace Go.Proofs.Try
open Go.Al
set_option linter.unusedVariables false
set_option linter.unusedSimpArgs false
set_option maxRecDepth 20000
set_option maxHeartbeats 8000000

/-! ### bounds: what they let through -/
theorem meet_ofK {k : Int} {a b : RG} (ha : a.ofK k = true) (hb : b.ofK k = true) : (a.meet b).ofK k = true := by
  unfold RG.meet
  split
  · simp [RG.ofK, RG.empty, null_k]
  split
  · exact hb
  split
  · exact ha
  split
  · simp [RG.ofK, null_k]
  split
  · simp [RG.ofK, RG.empty, null_k]
  · simp only [RG.ofK, Bool.and_eq_true, decide_eq_true_eq] at ha hb ⊢
    simp only [RG.meet2]
    constructor
    · split
      · exact hb.1
      · exact ha.1
    · split
      · exact hb.2
      · exact ha.2
/-- A value at a column, and the ranges of conjuncts: for a value that is null, or of the kind. -/
def okR (v : VL) (x : RG) : Prop := ¬ (x.e = true ∧ x.all = true) ∧ (v.k ≠ 0 → x.rt = true ∧ x.ofK v.k = true)
theorem has_null {x : RG} {v : VL} (hv : v.k = 0) : x.has v = if (x.e || x.all) = true then x.all else x.nl := by
  unfold RG.has
  split
  · rfl
  · rw [if_pos (.inr hv)]; simp [hv]
theorem meet_ok {v : VL} (hv : v.Right) {a b : RG} (ha : okR v a) (hb : okR v b) : okR v (a.meet b) ∧ (a.meet b).has v = (a.has v && b.has v) := by
  have he : ¬ ((a.meet b).e = true ∧ (a.meet b).all = true) := by
    unfold RG.meet
    split
    · simp [RG.empty]
    split
    · exact hb.1
    split
    · exact ha.1
    split
    · simp
    split
    · simp [RG.empty]
    · exact ha.1
  by_cases h0 : v.k = 0
  · refine ⟨⟨he, fun h => absurd h0 h⟩, ?_⟩
    rw [has_null h0, has_null h0, has_null h0]
    have h1 := ha.1
    have h2 := hb.1
    obtain ⟨ae, an, aa, al, ah, ai, aj⟩ := a
    obtain ⟨be, bn, ba, bl, bh, bi, bj⟩ := b
    unfold RG.meet
    simp only at h1 h2
    generalize hm : RG.meet2 _ _ = m
    have m1 : m.e = ae := by rw [← hm]; rfl
    have m2 : m.nl = an := by rw [← hm]; rfl
    have m3 : m.all = aa := by rw [← hm]; rfl
    by_cases hvd : m.void <;> cases ae <;> cases be <;> cases aa <;> cases ba <;> cases an <;> cases bn <;> simp [RG.empty, hvd, m1, m2, m3] at h1 h2 ⊢
  · obtain ⟨a1, a2⟩ := ha.2 h0
    obtain ⟨b1, b2⟩ := hb.2 h0
    have hm := meet_law a1 b1 a2 b2 hv
    exact ⟨⟨he, fun _ => ⟨hm.2.1, meet_ofK a2 b2⟩⟩, hm.1⟩
theorem fold_meet {v : VL} (hv : v.Right) {c : Int} : ∀ (l : List T) (o : RG), okR v o → (∀ x ∈ l, okR v (x.bnd c)) → (l.foldl (fun o x => o.meet (x.bnd c)) o).has v = (o.has v && l.all fun x => (x.bnd c).has v)
  | [], o, ho, _ => by simp
  | x :: l, o, ho, h => by
    obtain ⟨h1, h2⟩ := meet_ok hv ho (h x (by simp))
    rw [List.foldl_cons, fold_meet hv l _ h1 (fun y hy => h y (by simp [hy])), h2, List.all_cons, Bool.and_assoc]
theorem full_ok (v : VL) : okR v RG.fullR := ⟨by simp [RG.fullR], fun _ => ⟨by simp [RG.rt, RG.fullR], by simp [RG.ofK, RG.fullR, null_k]⟩⟩
theorem empty_ok (v : VL) : okR v RG.empty := ⟨by simp [RG.empty], fun _ => ⟨empty_rt, by simp [RG.ofK, RG.empty, null_k]⟩⟩
theorem null_ok (v : VL) : okR v RG.nullR := ⟨by simp [RG.nullR], fun _ => ⟨by simp [RG.rt, RG.nullR], by simp [RG.ofK, RG.nullR, null_k]⟩⟩
theorem some_ok (v : VL) : okR v RG.someR := ⟨by simp [RG.someR], fun _ => ⟨by simp [RG.rt, RG.someR, RG.void19, null_right, null_k], by simp [RG.ofK, RG.someR, null_k]⟩⟩
theorem cmp19_self (u : VL) (hu : u.Right) : u.cmp19 u = 0 := by
  rw [← VL.cmp_eq hu hu rfl]; exact vl_cmp.self u
theorem cmpR_ok {v u : VL} {op : Int} (hu : u.Right) (h0 : u.k ≠ 0) (hk : v.k ≠ 0 → u.k = v.k) : okR v (cmpR op u) := by
  refine ⟨?_, fun hv => ?_⟩
  · unfold cmpR; (repeat' split) <;> simp [RG.fullR]
  · have := hk hv
    unfold cmpR
    (repeat' split) <;> simp [RG.rt, RG.ofK, RG.fullR, RG.void19, hu, null_right, null_k, h0, this, cmp19_self u hu, hv]
/-- A comparison of the column with a constant. -/
theorem cmp_has {op : Int} (hc : cmpB op = true) {v u : VL} (hv : v.Right) (hu : u.Right) (h0 : u.k ≠ 0) (hk : v.k ≠ 0 → u.k = v.k) : (VL.test VL.cmp19 op v u = (VL.ofB true, 0) → (cmpR op u).has v = true) ∧ (op ≠ 7 → (cmpR op u).has v = true → VL.test VL.cmp19 op v u = (VL.ofB true, 0)) ∧ (VL.test VL.cmp19 op v u).2 = 0 := by
  have hr := cmp_rng hc
  unfold VL.test
  rw [if_neg (by omega)]
  by_cases hz : v.k = 0
  · rw [if_pos (.inl hz)]
    refine ⟨fun h => ?_, fun h7 h => ?_, rfl⟩
    · have := congrArg (fun p : VL × Int => p.1.k) h
      simp [VL.null, VL.ofB] at this
    · rw [has_null hz] at h
      rcases cmp_cases hc with rfl | rfl | rfl | rfl | rfl | rfl <;> simp [cmpR, RG.fullR] at h
      exact absurd rfl h7
  · have hku := hk hz
    have ht : ∀ b : Bool, ((VL.ofB b, (0 : Int)) = (VL.ofB true, 0)) ↔ b = true := fun b => by cases b <;> simp [VL.ofB]
    rw [if_neg (by omega), if_neg (by omega), ht]
    rw [← VL.cmp_eq hv hu hku.symm]
    refine ⟨?_, ?_, rfl⟩
    · intro h
      rcases cmp_cases hc with rfl | rfl | rfl | rfl | rfl | rfl <;> simp [tst] at h <;> simp [cmpR, RG.has, RG.fullR, hz, null_k, h0, hku] <;> omega
    · intro h7 h
      rcases cmp_cases hc with rfl | rfl | rfl | rfl | rfl | rfl <;> simp [tst] <;> simp [cmpR, RG.has, RG.fullR, hz, null_k, h0, hku] at h <;> omega
/-- A conjunct that is true: the value is in its range. -/
theorem bnd_true {ks : List Int} {r : List VL} (ho : OfR ks r) {c : Int} (hc : 0 ≤ c ∧ c < r.length) {x : T} (hw : x.wf) (hk : (x.kind ks).2 = 0) :
    okR (r.getD c.toNat default) (x.bnd c) ∧ (x.eval r = (VL.ofB true, 0) → (x.bnd c).has (r.getD c.toNat default) = true) := by
  have hin := ho.2.2 c.toNat (by omega)
  have hcol : ∀ {a : T}, a.isCol c = true → a = .col c := fun {a} h => by
    cases a <;> simp [T.isCol] at h; rw [h]
  have hff : ∀ v, RG.fullR.has v = true := fun v => rfl
  generalize hv : r.getD c.toNat default = v at *
  have hvr : v.Right := by have := hin.1; rwa [hv] at this
  have hvk : v.k = 0 ∨ v.k = ks.getD c.toNat 0 := by have := hin.2; rwa [hv] at this
  cases x with
  | col n => exact ⟨full_ok v, fun _ => rfl⟩
  | val w =>
    simp only [T.bnd]
    split
    · exact ⟨full_ok v, fun _ => rfl⟩
    · rename_i hne
      refine ⟨empty_ok v, fun h => ?_⟩
      exact absurd (congrArg Prod.fst h) hne
  | un op a =>
    simp only [T.bnd]
    split
    · rename_i h
      obtain ⟨rfl, ha⟩ := h
      rw [hcol ha, un_eval]
      refine ⟨null_ok v, fun h => ?_⟩
      have hce : (T.col c).eval r = (v, 0) := by rw [T.eval, hv]
      rw [hce] at h
      simp [eN] at h
      rw [has_null (by
        by_cases h0 : v.k = 0
        · exact h0
        · simp [h0, VL.ofB] at h)]
      rfl
    split
    · rename_i h
      obtain ⟨rfl, ha⟩ := h
      refine ⟨some_ok v, fun h => ?_⟩
      cases a <;> simp [T.inNull] at ha
      rename_i o y
      obtain ⟨rfl, hy⟩ := ha
      rw [hcol hy] at h
      rw [un_eval, un_eval] at h
      have hce : (T.col c).eval r = (v, 0) := by rw [T.eval, hv]
      rw [hce] at h
      by_cases h0 : v.k = 0
      · simp [eN, h0, VL.not19, VL.logical, VL.ofB] at h
      · simp [RG.someR, RG.has, h0, null_k]
    · exact ⟨full_ok v, fun _ => rfl⟩
  | bin op a b =>
    simp only [T.bnd]
    split
    · rename_i hcm
      obtain ⟨k1, k2, k3⟩ := (kind_bin hw.1).1 hk
      split
      · rename_i hb
        refine ⟨empty_ok v, fun h => ?_⟩
        rw [bin_eval, isC_eval (t := b) hb] at h
        split at h
        · simp only [if_true, eN_cmp hcm] at h
          have hr := cmp_rng hcm
          unfold VL.test at h
          rw [if_neg (by omega), if_pos (.inr rfl)] at h
          simp [VL.null, VL.ofB] at h
        · simp [VL.null, VL.ofB] at h
      · rename_i hbn
        split
        · rename_i ha
          have ha := hcol ha
          subst ha
          cases b with
          | val u =>
            obtain ⟨_, hu⟩ := kind_ok ks (.val u) trivial k2
            have hu : u.Right := hu
            have hu0 : u.k ≠ 0 := fun h0 => hbn (by
              have := null_of hu h0
              subst this
              exact VL.same_iff.2 rfl)
            have hkk := k3.2.1 hcm
            rw [val_kind hu] at hkk
            have hck : ((T.col c).kind ks).1 = ks.getD c.toNat 0 := by
              simp only [T.kind, kN, if_pos] at k1 ⊢
              split at k1
              · simp at k1
              · rename_i hh; rw [if_neg hh]
            rw [hck] at hkk
            simp only at hkk
            have hku : v.k ≠ 0 → u.k = v.k := fun h => by omega
            refine ⟨cmpR_ok hu hu0 hku, fun h => ?_⟩
            rw [bin_eval] at h
            have hce : (T.col c).eval r = (v, 0) := by rw [T.eval, hv]
            rw [hce] at h
            have hue : (T.val u).eval r = (u, 0) := rfl
            rw [hue] at h
            simp only [if_true, eN_cmp hcm] at h
            exact (cmp_has hcm hvr hu hu0 hku).1 h
          | _ => exact ⟨full_ok v, fun _ => rfl⟩
        · exact ⟨full_ok v, fun _ => rfl⟩
    · exact ⟨full_ok v, fun _ => rfl⟩
theorem null_ne (b : Bool) : (VL.null = VL.ofB b) = False := eq_false fun h => by have := congrArg VL.k h; simp [VL.null, VL.ofB] at this
theorem ofB_ne : (VL.ofB false = VL.ofB true) = False := eq_false fun h => by have := congrArg VL.n h; simp [VL.ofB] at this
theorem andE_true {p q : VL × Int} (hp : goodE p) (hq : goodE q) : andE p q = (VL.ofB true, 0) ↔ p = (VL.ofB true, 0) ∧ q = (VL.ofB true, 0) := by
  rcases hp with rfl | ⟨a, rfl⟩ | rfl <;> rcases hq with rfl | ⟨b, rfl⟩ | rfl <;> (try cases a) <;> (try cases b) <;> simp [andE, decF_bb, decF_nb, decF_bn, decF_nn, e360, null_ne, ofB_ne]
theorem conj_true {ks : List Int} {r : List VL} (ho : OfR ks r) : ∀ t : T, BT ks t → (t.eval r = (VL.ofB true, 0) ↔ ∀ x ∈ t.conj, x.eval r = (VL.ofB true, 0))
  | .col n, _ => by simp [T.conj]
  | .val v, _ => by simp [T.conj]
  | .un op a, _ => by simp [T.conj]
  | .bin op a b, h => by
    unfold T.conj
    split
    · rename_i hoo
      subst hoo
      obtain ⟨ha, hb⟩ := bt_and.1 h
      rw [and_eval, andE_true (bt_good ho ha) (bt_good ho hb), conj_true ho a ha, conj_true ho b hb]
      constructor
      · rintro ⟨h1, h2⟩ x hx
        rcases List.mem_append.1 hx with hx | hx
        · exact h1 x hx
        · exact h2 x hx
      · intro h; exact ⟨fun x hx => h x (by simp [hx]), fun x hx => h x (by simp [hx])⟩
    · simp
/-- If it holds, the value of the column is in the bounds. -/
theorem bounds_in {ks : List Int} {r : List VL} (ho : OfR ks r) {c : Int} (hc : 0 ≤ c ∧ c < r.length) {t : T} (hb : BT ks t) (h : t.eval r = (VL.ofB true, 0)) : (t.bounds c).has (r.getD c.toNat default) = true := by
  obtain ⟨s1, s2, s3⟩ := simp_sub t hb.1 hb.2.1
  have hbs : BT ks t.simp := ⟨s1, s2, by have := hb.2.2; omega⟩
  have hin := (ho.2.2 c.toNat (by omega)).1
  have hcb := conj_bt t.simp hbs
  rw [← simp_eval ho t hb.1 hb.2.1] at h
  have hct := (conj_true ho t.simp hbs).1 h
  unfold T.bounds
  rw [fold_meet hin _ _ (full_ok _) (fun x hx => (bnd_true ho hc (hcb x hx).1 (hcb x hx).2.1).1)]
  rw [Bool.and_eq_true]
  refine ⟨rfl, List.all_eq_true.2 fun x hx => ?_⟩
  exact (bnd_true ho hc (hcb x hx).1 (hcb x hx).2.1).2 (hct x hx)
end Go.Proofs.Try

namespace Go.Proofs.Try
open Go.Proofs.Tryd
open Go.Al
set_option maxRecDepth 100000
/-- alum/alumlaw36.ExprBoundsHold -/
def mc6 : MC :=
 (.seq (.ops [(none, (.e (.box 5 (.t 1)))),
 (none, (.v (.mov 8 (.c (.bool false)))))])
 (.seq (.ops [(none, (.v (.mov 17 (.t 0)))),
 (none, (.v (.mov 18 (.t 2)))),
 (none, (.e (.call (some 19) 11 [(.t 17), (.t 18)]))),
 (none, (.v (.mov 9 (.t 19))))])
 (.seq (.seq (.ops [(none, (.v (.mov 20 (.t 9)))),
 (none, (.v (.not 21 (.t 20)))),
 (none, (.v (.mov 22 (.t 21)))),
 ((some (22, false)), (.v (.load 23 true 6 (.t 5)))),
 ((some (22, false)), (.e (.call (some 24) 19 [(.t 23)]))),
 ((some (22, false)), (.v (.bin 25 .gtr false (.t 24) (.c (.int .i64 300))))),
 (none, (.v (.pick 26 (.t 22) (.c (.bool true)) (.t 25)))),
 (none, (.v (.mov 27 (.t 26)))),
 ((some (27, false)), (.v (.mov 28 (.t 2)))),
 ((some (27, false)), (.p (.len 29 (.t 28)))),
 ((some (27, false)), (.v (.bin 30 .eql false (.t 29) (.c (.int .i64 0))))),
 (none, (.v (.pick 31 (.t 27) (.c (.bool true)) (.t 30))))])
 (.cond 31
 (.seq (.ops [(none, (.e (.call (some 32) 13 []))),
 (none, (.v (.mov 8 (.t 32))))])
 .ret)
 .skip))
 (.seq (.ops [(none, (.v (.mov 34 (.t 0)))),
 (none, (.v (.load 35 true 6 (.t 5)))),
 (none, (.e (.call (some 36) 16 [(.t 34), (.t 35)]))),
 (none, (.v (.mov 33 (.t 36)))),
 (none, (.v (.ext 37 0 (.t 33)))),
 (none, (.v (.ext 38 1 (.t 33)))),
 (none, (.v (.mov 10 (.t 37)))),
 (none, (.v (.mov 11 (.t 38))))])
 (.seq (.seq (.ops [(none, (.v (.mov 39 (.t 11)))),
 (none, (.v (.bin 40 .neq false (.t 39) (.c (.int .i64 0))))),
 (none, (.v (.mov 41 (.t 40)))),
 ((some (41, false)), (.v (.mov 42 (.t 10)))),
 ((some (41, false)), (.v (.bin 43 .neq false (.t 42) (.c (.int .i64 3))))),
 (none, (.v (.pick 44 (.t 41) (.c (.bool true)) (.t 43))))])
 (.cond 44
 (.seq (.ops [(none, (.e (.call (some 45) 13 []))),
 (none, (.v (.mov 8 (.t 45))))])
 .ret)
 .skip))
 (.seq (.ops [(none, (.v (.mov 46 (.t 3)))),
 (none, (.v (.conv 47 .i64 (.t 46)))),
 (none, (.v (.mov 48 (.t 2)))),
 (none, (.p (.len 49 (.t 48)))),
 (none, (.p (.rem 50 (.t 47) (.t 49)))),
 (none, (.v (.mov 12 (.t 50))))])
 (.seq (.ops [(none, (.v (.load 52 true 6 (.t 5)))),
 (none, (.v (.mov 53 (.t 2)))),
 (none, (.e (.call (some 54) 17 [(.t 52), (.t 53)]))),
 (none, (.v (.mov 51 (.t 54)))),
 (none, (.v (.ext 55 0 (.t 51)))),
 (none, (.v (.ext 56 1 (.t 51)))),
 (none, (.v (.mov 13 (.t 55)))),
 (none, (.v (.mov 14 (.t 56))))])
 (.seq (.any false (.pure0 none (.v (.load 57 true 6 (.t 5)))
 (.pure0 none (.v (.mov 58 (.t 12)))
 (.pure0 none (.v (.mov 60 (.t 2)))
 (.pure0 none (.v (.mov 61 (.t 12)))
 (.pure0 none (.p (.idx 62 3 (.t 60) (.t 61)))
 (.pure0 none (.v (.load 63 true 3 (.t 62)))
 (.alt none (.e (.call (some 59) 26 [(.t 57), (.t 58)]))
 (.base (.alt none (.e (.call (some 64) 25 [(.t 59), (.t 63)]))
 (.base (.pure0 none (.v (.mov 15 (.t 64)))
 .done))
 .stop))
 .stop))))))))
 (.seq (.ops [(none, (.v (.load 65 true 6 (.t 5)))),
 (none, (.v (.mov 66 (.t 12)))),
 (none, (.e (.call (some 67) 27 [(.t 65), (.t 66)]))),
 (none, (.v (.mov 16 (.t 67))))])
 (.seq (.ops [(none, (.e (.call (some 68) 13 []))),
 (none, (.v (.mov 69 (.t 68)))),
 ((some (69, true)), (.v (.mov 70 (.t 13)))),
 ((some (69, true)), (.v (.not 71 (.t 70)))),
 ((some (69, true)), (.v (.mov 72 (.t 71)))),
 ((some (72, false)), (.v (.mov 73 (.t 15)))),
 ((some (69, true)), (.v (.pick 74 (.t 72) (.c (.bool true)) (.t 73)))),
 (none, (.v (.pick 75 (.t 69) (.t 74) (.c (.bool false))))),
 (none, (.v (.mov 76 (.t 75)))),
 ((some (76, true)), (.v (.mov 77 (.t 16)))),
 ((some (76, true)), (.v (.not 78 (.t 77)))),
 ((some (76, true)), (.v (.mov 79 (.t 78)))),
 ((some (79, false)), (.v (.mov 80 (.t 14)))),
 ((some (79, false)), (.v (.bin 81 .eql false (.t 80) (.c (.int .i64 0))))),
 ((some (79, false)), (.v (.mov 82 (.t 81)))),
 ((some (82, true)), (.v (.mov 83 (.t 13)))),
 ((some (82, true)), (.v (.mov 84 (.t 15)))),
 ((some (82, true)), (.v (.bin 85 .eql true (.t 83) (.t 84)))),
 ((some (79, false)), (.v (.pick 86 (.t 82) (.t 85) (.c (.bool false))))),
 ((some (76, true)), (.v (.pick 87 (.t 79) (.c (.bool true)) (.t 86)))),
 (none, (.v (.pick 88 (.t 76) (.t 87) (.c (.bool false))))),
 (none, (.v (.mov 8 (.t 88))))])
 .ret))))))))))
theorem ok6 : FnOk E 6 89 [.tmp 8] mc6 := .of func6 (by kernel_rfl) (by kernel_rfl) (by kernel_rfl) (by kernel_rfl) (by kernel_rfl)
end Go.Proofs.Try
namespace Go.Proofs.Try
open Go.Al
set_option linter.unusedVariables false
set_option linter.unusedSimpArgs false
set_option maxRecDepth 20000
set_option maxHeartbeats 16000000

theorem simpB_cv {op c : Int} {u : VL} (hc : cmpB op = true) : simpB op (.col c) (.val u) = .bin op (.col c) (.val u) := by
  have hr := cmp_rng hc
  unfold simpB
  rw [if_neg (by simp [T.isVal])]
  unfold restB
  rw [if_neg (by omega), if_neg (by simp [T.isVal]), if_neg (by omega), if_neg (by omega)]
theorem simpB_vc {op c : Int} {u : VL} (hc : cmpB op = true) : simpB op (.val u) (.col c) = .bin (trn op) (.col c) (.val u) := by
  have hr := cmp_rng hc
  unfold simpB
  rw [if_neg (by simp [T.isVal])]
  unfold restB
  rw [if_neg (by omega), if_pos ⟨hc, by simp [T.isVal]⟩]
theorem trn_ne {op : Int} (hc : cmpB op = true) (h : op ≠ 7) : trn op ≠ 7 := by
  rcases cmp_cases hc with rfl | rfl | rfl | rfl | rfl | rfl <;> simp [trn] <;> exact absurd rfl h
theorem isCol_of {a : T} {c : Int} (h : a.isCol c = true) : a = .col c := by
  cases a <;> simp [T.isCol] at h; rw [h]
/-- A comparison of a column with a constant. -/
theorem cmp_plain {ks : List Int} {r : List VL} (ho : OfR ks r) {c : Int} (hc : 0 ≤ c ∧ c < r.length) {op : Int} {u : VL} (hcm : cmpB op = true) (h7 : op ≠ 7) (hw : (T.bin op (.col c) (.val u)).wf) (hk : ((T.bin op (.col c) (.val u)).kind ks).2 = 0)
    (h : ((T.bin op (.col c) (.val u)).bnd c).has (r.getD c.toNat default) = true) : (T.bin op (.col c) (.val u)).eval r = (VL.ofB true, 0) := by
  have hin := ho.2.2 c.toNat (by omega)
  generalize hv : r.getD c.toNat default = v at *
  have hvr : v.Right := by have := hin.1; rwa [hv] at this
  have hvk : v.k = 0 ∨ v.k = ks.getD c.toNat 0 := by have := hin.2; rwa [hv] at this
  obtain ⟨k1, k2, k3⟩ := (kind_bin hw.1).1 hk
  obtain ⟨_, hu⟩ := kind_ok ks (.val u) trivial k2
  have hu : u.Right := hu
  simp only [T.bnd, hcm, if_true] at h
  split at h
  · simp [RG.empty, RG.has] at h
  · rename_i hbn
    have hu0 : u.k ≠ 0 := fun h0 => hbn (by
      have := null_of hu h0
      subst this
      exact VL.same_iff.2 rfl)
    rw [if_pos (by simp [T.isCol])] at h
    have hkk := k3.2.1 hcm
    rw [val_kind hu] at hkk
    have hck : ((T.col c).kind ks).1 = ks.getD c.toNat 0 := by
      simp only [T.kind, kN, if_pos] at k1 ⊢
      split at k1
      · simp at k1
      · rename_i hh; rw [if_neg hh]
    rw [hck] at hkk
    simp only at hkk
    have hku : v.k ≠ 0 → u.k = v.k := fun h => by omega
    have hce : (T.col c).eval r = (v, 0) := by rw [T.eval, hv]
    have hue : (T.val u).eval r = (u, 0) := rfl
    rw [bin_eval, hce, hue]
    simp only [if_true, eN_cmp hcm]
    exact (cmp_has hcm hvr hu hu0 hku).2.1 h7 h
theorem plain_facts {ks : List Int} {r : List VL} (ho : OfR ks r) {c : Int} (hc : 0 ≤ c ∧ c < r.length) {x : T} (hw : x.wf) (hk : (x.kind ks).2 = 0) (hp : x.plain c = true) :
    x.fails = false ∧ x.simp.isVal = false ∧ x.simp.ex.op ≠ 12 ∧ ((x.simp.bnd c).has (r.getD c.toNat default) = true → x.simp.eval r = (VL.ofB true, 0)) := by
  cases x with
  | col n => simp [T.plain] at hp
  | val v => simp [T.plain] at hp
  | un op a =>
    rcases hw.1 with rfl | rfl
    · simp only [T.plain, if_true] at hp
      cases a with
      | un o y =>
        simp only [T.inNull, Bool.and_eq_true, decide_eq_true_eq] at hp
        obtain ⟨rfl, hy⟩ := hp
        rw [isCol_of hy]
        have hs : (T.un 14 (.un 15 (.col c))).simp = .un 14 (.un 15 (.col c)) := by simp [T.simp, simpU, T.isVal, negT]
        rw [hs]
        refine ⟨by simp [T.fails, ariB], rfl, by simp [T.ex, EX.op], fun h => ?_⟩
        have hce : (T.col c).eval r = (r.getD c.toNat default, 0) := by rw [T.eval]
        rw [un_eval, un_eval, hce]
        generalize r.getD c.toNat default = v at *
        by_cases h0 : v.k = 0
        · simp [T.bnd, T.inNull, T.isCol, RG.someR, RG.has, h0] at h
        · simp [eN, h0, VL.not19, VL.logical, VL.ofB]
      | _ => simp [T.inNull] at hp
    · have hy : a.isCol c = true := by simpa [T.plain] using hp
      rw [isCol_of hy]
      have hs : (T.un 15 (.col c)).simp = .un 15 (.col c) := by simp [T.simp, simpU, T.isVal]
      rw [hs]
      refine ⟨by simp [T.fails, ariB], rfl, by simp [T.ex, EX.op], fun h => ?_⟩
      have hce : (T.col c).eval r = (r.getD c.toNat default, 0) := by rw [T.eval]
      rw [un_eval, hce]
      generalize r.getD c.toNat default = v at *
      by_cases h0 : v.k = 0
      · simp [eN, h0]
      · simp [T.bnd, T.isCol, RG.nullR, RG.has, h0] at h
  | bin op a b =>
    simp only [T.plain, Bool.and_eq_true, Bool.or_eq_true, Bool.not_eq_true', decide_eq_false_iff_not] at hp
    obtain ⟨⟨hcm, h7⟩, hp⟩ := hp
    have hr := cmp_rng hcm
    have hari : ariB op = false := by simp only [ariB, decide_eq_false_iff_not]; omega
    rcases hp with ⟨ha, hb⟩ | ⟨hb, ha⟩
    · obtain ⟨u, rfl⟩ := val_of hb
      rw [isCol_of ha] at hw hk ⊢
      have hs : (T.bin op (.col c) (.val u)).simp = .bin op (.col c) (.val u) := simpB_cv hcm
      rw [hs]
      exact ⟨by simp [T.fails, hari], rfl, by simp only [T.ex, EX.op]; omega, cmp_plain ho hc hcm h7 hw hk⟩
    · obtain ⟨u, rfl⟩ := val_of ha
      rw [isCol_of hb] at hw hk ⊢
      have hs : (T.bin op (.val u) (.col c)).simp = .bin (trn op) (.col c) (.val u) := simpB_vc hcm
      obtain ⟨j1, j2, _⟩ := simp_sub _ hw hk
      rw [hs] at j1 j2 ⊢
      have hr2 := cmp_rng (trn_cmp hcm)
      exact ⟨by simp [T.fails, hari], rfl, by simp only [T.ex, EX.op]; omega, cmp_plain ho hc (trn_cmp hcm) (trn_ne hcm h7) j1 j2⟩
theorem isC_not {t : T} {v : VL} (h : t.isVal = false) : t.isC v = false := by cases t <;> simp [T.isVal, T.isC] at h ⊢
theorem simp_conj {ks : List Int} {r : List VL} (ho : OfR ks r) {c : Int} (hc : 0 ≤ c ∧ c < r.length) : ∀ t : T, BT ks t → (∀ x ∈ t.conj, x.plain c = true) → t.simp.conj = t.conj.map T.simp ∧ t.simp.isVal = false ∧ t.fails = false := by
  have one : ∀ t : T, BT ks t → t.conj = [t] → (∀ x ∈ t.conj, x.plain c = true) → t.simp.conj = t.conj.map T.simp ∧ t.simp.isVal = false ∧ t.fails = false := fun t h h1 h2 => by
    rw [h1] at h2 ⊢
    obtain ⟨f1, f2, f3, _⟩ := plain_facts ho hc h.1 h.2.1 (h2 t (by simp))
    exact ⟨conj_one f3, f2, f1⟩
  intro t
  induction t with
  | col n => intro h hp; exact one _ h rfl hp
  | val v => intro h hp; exact one _ h rfl hp
  | un op a _ => intro h hp; exact one _ h rfl hp
  | bin op a b iha ihb =>
    intro h hp
    by_cases hoo : op = 12
    · subst hoo
      obtain ⟨ha, hb⟩ := bt_and.1 h
      have hcj : (T.bin 12 a b).conj = a.conj ++ b.conj := by simp [T.conj]
      rw [hcj] at hp ⊢
      obtain ⟨a1, a2, a3⟩ := iha ha (fun x hx => hp x (by simp [hx]))
      obtain ⟨b1, b2, b3⟩ := ihb hb (fun x hx => hp x (by simp [hx]))
      have hs : (T.bin 12 a b).simp = .bin 12 a.simp b.simp := by
        rw [T.simp]
        unfold simpB
        rw [if_neg (by simp [a2])]
        unfold restB
        simp [isC_not a2, isC_not b2]
      rw [hs]
      refine ⟨?_, rfl, by simp [T.fails, a3, b3, ariB]⟩
      have : (T.bin 12 a.simp b.simp).conj = a.simp.conj ++ b.simp.conj := by simp [T.conj]
      rw [this, a1, b1, List.map_append]
    · exact one _ h (by unfold T.conj; rw [if_neg hoo]) hp
/-- Where all conjuncts are plain: exactly then. -/
theorem bounds_plain {ks : List Int} {r : List VL} (ho : OfR ks r) {c : Int} (hc : 0 ≤ c ∧ c < r.length) {t : T} (hb : BT ks t) (hp : ∀ x ∈ t.conj, x.plain c = true) :
    (t.eval r).2 = 0 ∧ ((t.bounds c).has (r.getD c.toNat default) = true → t.eval r = (VL.ofB true, 0)) := by
  obtain ⟨s1, s2, s3⟩ := simp_sub t hb.1 hb.2.1
  have hbs : BT ks t.simp := ⟨s1, s2, by have := hb.2.2; omega⟩
  have hin := (ho.2.2 c.toNat (by omega)).1
  have hcb := conj_bt t.simp hbs
  have hct := conj_bt t hb
  obtain ⟨q1, q2, q3⟩ := simp_conj ho hc t hb hp
  constructor
  · rcases eval_typed ho hb.1 hb.2.1 with ⟨h1, _⟩ | ⟨_, h2⟩
    · exact h1
    · rw [q3] at h2; cases h2
  · intro h
    unfold T.bounds at h
    rw [fold_meet hin _ _ (full_ok _) (fun x hx => (bnd_true ho hc (hcb x hx).1 (hcb x hx).2.1).1), Bool.and_eq_true, List.all_eq_true, q1] at h
    refine (conj_true ho t hb).2 fun x hx => ?_
    have hx2 := h.2 x.simp (List.mem_map_of_mem hx)
    rw [← simp_eval ho x (hct x hx).1 (hct x hx).2.1]
    exact (plain_facts ho hc (hct x hx).1 (hct x hx).2.1 (hp x hx)).2.2.2 hx2
theorem holds_iff {r : List VL} {t : T} : t.holds r = true ↔ t.eval r = (VL.ofB true, 0) := by
  unfold T.holds
  rw [Bool.and_eq_true, decide_eq_true_eq]
  constructor
  · rintro ⟨h1, h2⟩
    refine Prod.ext ?_ h1
    simp only [VL.is, decide_eq_true_eq] at h2
    exact vl_ext h2.1 h2.2.1 h2.2.2
  · intro h; rw [h]; exact ⟨rfl, rfl⟩
theorem c6 (h13 : Sane) (ks : List Int) (e : EX) (hI : e.okI) (r : List VL) (n : Int) (hn : 0 ≤ n ∧ n < 256) (hs : e.count ≤ 1048576) : ACalls E.P 6 [ksV ks, e.av, rowV r, .int .u8 n] [] (fun r H => r = .bool true ∧ H = []) := by
  have hmax := maxLen_eq
  have h11 := c11 ks r
  have h19 := c19 e
  have h16 := c16 ks e hI
  rw [wrap_small hs] at h19
  simp only [av_fs] at h19 h16
  refine ok6.acalls hE hm (by simp) fun N hN => ?_
  unfold mc6
  simp only [lA, ptrCells, ptrAdd, isNil, readsV, readsP, isCall, wrote, srcOf, seval, av_fs]
  by_cases ho' : ¬ OfR ks r
  · repeat' (first
     | (with_reducible apply St.o; constructor) <;> intro _
     | with_reducible first | refine LenR_i fun _ => ?_ | refine And.intro (by omega) ?_ | (apply Sp.o; constructor) | refine frz0_i ?_
     | ((with_reducible apply Sc.o true; constructor); simp only [lP, seval, ho']; (first | refine ⟨_, h11, ?_⟩ | refine ⟨_, h13, ?_⟩); rintro _ _ ⟨rfl, rfl⟩; simp only [lA, lP, ptrCells, ptrAdd, isNil, readsV, readsP, isCall, wrote, srcOf, seval, ho'])
     | ((with_reducible refine keep0_i ?_); simp only [lP, seval])
     | simp (maxSteps := 1000000) (disch := omega) only [lE, ptrCells, ptrAdd, isNil, readsV, readsP, isCall, wrote, srcOf, seval, ho'])
  have ho := Classical.not_not.1 ho'
  clear ho'
  by_cases h300 : ((300 : Int) < (e.count : Int))
  · repeat' (first
     | (with_reducible apply St.o; constructor) <;> intro _
     | with_reducible first | refine LenR_i fun _ => ?_ | refine And.intro (by omega) ?_ | (apply Sp.o; constructor) | refine frz0_i ?_
     | ((with_reducible apply Sc.o true; constructor); simp only [lP, seval, ho, h300, decide_true, decide_false]; (first | refine ⟨_, h11, ?_⟩ | refine ⟨_, h19, ?_⟩ | refine ⟨_, h13, ?_⟩); rintro _ _ ⟨rfl, rfl⟩; simp only [lA, lP, ptrCells, ptrAdd, isNil, readsV, readsP, isCall, wrote, srcOf, seval, ho, h300, decide_true, decide_false])
     | ((with_reducible refine keep0_i ?_); simp only [lP, seval])
     | simp (maxSteps := 1000000) (disch := omega) only [lE, ptrCells, ptrAdd, isNil, readsV, readsP, isCall, wrote, srcOf, seval, ho, h300, decide_true, decide_false])
  by_cases hr0 : ((r.length : Int) = 0)
  · repeat' (first
     | (with_reducible apply St.o; constructor) <;> intro _
     | with_reducible first | refine LenR_i fun _ => ?_ | refine And.intro (by omega) ?_ | (apply Sp.o; constructor) | refine frz0_i ?_
     | ((with_reducible apply Sc.o true; constructor); simp only [lP, seval, ho, h300, hr0, decide_true, decide_false, List.length_map]; (first | refine ⟨_, h11, ?_⟩ | refine ⟨_, h19, ?_⟩ | refine ⟨_, h13, ?_⟩); rintro _ _ ⟨rfl, rfl⟩; simp only [lA, lP, ptrCells, ptrAdd, isNil, readsV, readsP, isCall, wrote, srcOf, seval, ho, h300, hr0, decide_true, decide_false, List.length_map])
     | ((with_reducible refine keep0_i ?_); simp only [lP, seval])
     | simp (maxSteps := 1000000) (disch := omega) only [lE, ptrCells, ptrAdd, isNil, readsV, readsP, isCall, wrote, srcOf, seval, ho, h300, hr0, decide_true, decide_false, List.length_map])
  by_cases hc' : ¬ (chk ks e).2 = 0
  · repeat' (first
     | (with_reducible apply St.o; constructor) <;> intro _
     | with_reducible first | refine LenR_i fun _ => ?_ | refine And.intro (by omega) ?_ | (apply Sp.o; constructor) | refine frz0_i ?_
     | ((with_reducible apply Sc.o true; constructor); simp only [lP, seval, ho, h300, hr0, hc', decide_true, decide_false, List.length_map]; (first | refine ⟨_, h11, ?_⟩ | refine ⟨_, h19, ?_⟩ | refine ⟨_, h16, ?_⟩ | refine ⟨_, h13, ?_⟩); rintro _ _ ⟨rfl, rfl⟩; simp only [lA, lP, ptrCells, ptrAdd, isNil, readsV, readsP, isCall, wrote, srcOf, seval, ho, h300, hr0, hc', decide_true, decide_false, List.length_map])
     | ((with_reducible refine keep0_i ?_); simp only [lP, seval])
     | simp (maxSteps := 1000000) (disch := omega) only [lE, ptrCells, ptrAdd, isNil, readsV, readsP, isCall, wrote, srcOf, seval, ho, h300, hr0, hc', decide_true, decide_false, List.length_map])
  have hc := Classical.not_not.1 hc'
  clear hc'
  by_cases hk3' : ¬ (chk ks e).1 = 3
  · repeat' (first
     | (with_reducible apply St.o; constructor) <;> intro _
     | with_reducible first | refine LenR_i fun _ => ?_ | refine And.intro (by omega) ?_ | (apply Sp.o; constructor) | refine frz0_i ?_
     | ((with_reducible apply Sc.o true; constructor); simp only [lP, seval, ho, h300, hr0, hc, hk3', decide_true, decide_false, List.length_map]; (first | refine ⟨_, h11, ?_⟩ | refine ⟨_, h19, ?_⟩ | refine ⟨_, h16, ?_⟩ | refine ⟨_, h13, ?_⟩); rintro _ _ ⟨rfl, rfl⟩; simp only [lA, lP, ptrCells, ptrAdd, isNil, readsV, readsP, isCall, wrote, srcOf, seval, ho, h300, hr0, hc, hk3', decide_true, decide_false, List.length_map])
     | ((with_reducible refine keep0_i ?_); simp only [lP, seval])
     | simp (maxSteps := 1000000) (disch := omega) only [lE, ptrCells, ptrAdd, isNil, readsV, readsP, isCall, wrote, srcOf, seval, ho, h300, hr0, hc, hk3', decide_true, decide_false, List.length_map])
  have hk3 := Classical.not_not.1 hk3'
  clear hk3'
  obtain ⟨hf, hk, hck⟩ := chk_ok hc
  obtain ⟨t1, t2, _⟩ := ex_tr e hf
  obtain ⟨hfit, hvals⟩ := kind_ok ks e.tr t2 hk
  rw [← ho.2.1] at hfit
  have hsz : e.tr.size = e.count := by rw [← T.count_ex, t1]
  have hbt : BT ks e.tr := ⟨t2, hk, .inl (by rw [← hck]; exact hk3)⟩
  obtain ⟨m, hm1, hm2⟩ : ∃ m : Int, n.tmod (r.length : Int) = m ∧ (0 ≤ m ∧ m < r.length) := by
    refine ⟨_, rfl, ?_⟩
    rw [Int.tmod_eq_emod_of_nonneg hn.1]
    exact ⟨Int.emod_nonneg _ hr0, Int.emod_lt_of_pos _ (by omega)⟩
  have h17 := c17 (ofR_right ho) e.tr t2 hfit hvals
  have h26 := c26 e.tr m t2 hvals (by have := simp_size e.tr; omega)
  have h25 := c25 (e.tr.bounds m) (r.getD m.toNat default)
  have h27 := c27 e.tr m t2 (by omega)
  have hin : e.tr.holds r = true → (e.tr.bounds m).has (r.getD m.toNat default) = true := fun h => bounds_in ho hm2 hbt (holds_iff.1 h)
  have hpl : e.tr.conj.all (T.plain m) = true → (e.tr.eval r).2 = 0 ∧ ((e.tr.bounds m).has (r.getD m.toNat default) = true → e.tr.holds r = true) := fun h => by
    have := bounds_plain ho hm2 hbt (List.all_eq_true.1 h)
    exact ⟨this.1, fun h => holds_iff.2 (this.2 h)⟩
  rw [t1] at h17 h26 h27
  simp only [av_fs, rg_av] at h17 h26 h25 h27
  generalize (e.tr.bounds m).has (r.getD m.toNat default) = bh at *
  generalize e.tr.bounds m = bd at *
  generalize e.tr.conj.all (T.plain m) = pl at *
  generalize e.tr.holds r = hd at *
  generalize (e.tr.eval r).2 = er at *
  clear hfit hvals hsz t1 t2 hf hck
  repeat' (first
   | (with_reducible apply St.o; constructor) <;> intro _
   | with_reducible first | refine LenR_i fun _ => ?_ | refine And.intro (by omega) ?_ | (apply Sp.o; constructor) | refine frz0_i ?_
   | ((with_reducible apply Sc.o true; constructor); simp only [lP, seval, ho, h300, hr0, hc, hk3, hm1, IdxR_vls, decide_true, decide_false, List.length_map, ti24, strA]; (first | refine ⟨_, h11, ?_⟩ | refine ⟨_, h19, ?_⟩ | refine ⟨_, h16, ?_⟩ | refine ⟨_, h17, ?_⟩ | refine ⟨_, h26, ?_⟩ | refine ⟨_, h25, ?_⟩ | refine ⟨_, h27, ?_⟩ | refine ⟨_, h13, ?_⟩); rintro _ _ ⟨rfl, rfl⟩; simp only [lA, lP, ptrCells, ptrAdd, isNil, readsV, readsP, isCall, wrote, srcOf, seval, ho, h300, hr0, hc, hk3, hm1, IdxR_vls, decide_true, decide_false, List.length_map, ti24, strA])
   | ((with_reducible refine keep0_i ?_); simp only [lP, seval])
   | simp (maxSteps := 1000000) (disch := omega) only [lE, ptrCells, ptrAdd, isNil, readsV, readsP, isCall, wrote, srcOf, seval, ho, h300, hr0, hc, hk3, hm1, IdxR_vls, decide_true, decide_false, List.length_map, ti24, strA])
  all_goals (clear h11 h19 h16 h17 h26 h25 h27 h13 hs hmax hn hm1 hm2 hbt hk hk3 hc hr0 h300 ho hI; cases hd <;> cases bh <;> cases pl <;> first | rfl | grind)
end Go.Proofs.Try
