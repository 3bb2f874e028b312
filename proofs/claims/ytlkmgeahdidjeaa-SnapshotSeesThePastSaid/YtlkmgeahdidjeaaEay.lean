/-
  A part of the proof: see the text of the law.
-/
import Derived.Test.YtlkmgeahdidjeaaEax
import Derived.Test.YtlkmgeahdidjeaaEao
import Derived.Test.YtlkmgeahdidjeaaEaq
import Derived.Test.YtlkmgeahdidjeaaPae
import Derived.Test.YtlkmgeahdidjeaaPaf
import Derived.Test.YtlkmgeahdidjeaaAlphaK
set_option linter.unusedSimpArgs false
set_option linter.unusedVariables false
namespace Go.Proofs.Try
open Go.Al
set_option maxRecDepth 100000
/-- alum/alumlaw25.sanity -/
def mc8 : MC :=
 (.seq (.ops [(none, (.v (.mov 0 (.c (.bool false)))))])
 (.seq (.ops [(none, (.v (.build 11 [(.int .i64 0), (.int .i64 0), (.str ⟨#[]⟩)] [(0, 1, (.c (.int .i64 2))), (2, 1, (.c (.str ⟨#[97]⟩)))]))),
 (none, (.e (.mkl 12 53 3 1 (.agg [(.int .i64 0), (.int .i64 0), (.str ⟨#[]⟩)]) [(0, (.t 11))]))),
 (none, (.v (.build 13 [(.int .i64 0), (.int .i64 0), (.bool false), (.raw (.slice none 0 0))] [(0, 1, (.c (.int .i64 1))), (1, 1, (.c (.int .i64 2))), (3, 1, (.t 12))]))),
 (none, (.e (.alloc 1 [(.int .i64 0), (.int .i64 0), (.bool false), (.raw (.slice none 0 0))]))),
 (none, (.e (.store 4 true (.t 1) (.t 13))))])
 (.seq (.ops [(none, (.v (.build 14 [(.int .i64 0), (.int .i64 0), (.str ⟨#[]⟩)] [(0, 1, (.c (.int .i64 2))), (2, 1, (.c (.str ⟨#[98]⟩)))]))),
 (none, (.e (.mkl 15 53 3 1 (.agg [(.int .i64 0), (.int .i64 0), (.str ⟨#[]⟩)]) [(0, (.t 14))]))),
 (none, (.v (.build 16 [(.int .i64 0), (.int .i64 0), (.bool false), (.raw (.slice none 0 0))] [(0, 1, (.c (.int .i64 1))), (1, 1, (.c (.int .i64 5))), (3, 1, (.t 15))]))),
 (none, (.e (.alloc 2 [(.int .i64 0), (.int .i64 0), (.bool false), (.raw (.slice none 0 0))]))),
 (none, (.e (.store 4 true (.t 2) (.t 16))))])
 (.seq (.ops [(none, (.v (.load 17 true 4 (.t 2)))),
 (none, (.v (.load 18 true 4 (.t 1)))),
 (none, (.v (.build 19 [(.int .i64 0), (.int .i64 0), (.bool false), (.raw (.slice none 0 0))] [(0, 1, (.c (.int .i64 2))), (1, 1, (.c (.int .i64 3))), (2, 1, (.c (.bool true)))]))),
 (none, (.e (.mkl 20 29 4 3 (.agg [(.int .i64 0), (.int .i64 0), (.bool false), (.raw (.slice none 0 0))]) [(0, (.t 17)), (1, (.t 18)), (2, (.t 19))]))),
 (none, (.v (.mov 3 (.t 20))))])
 (.seq (.ops [(none, (.v (.mov 22 (.t 3)))),
 (none, (.e (.call (some 23) 12 [(.t 22), (.c (.int .i64 1)), (.c (.int .i64 4))]))),
 (none, (.v (.mov 21 (.t 23)))),
 (none, (.v (.ext 24 0 (.t 21)))),
 (none, (.v (.ext 25 1 (.t 21)))),
 (none, (.e (.alloc 4 [(.int .i64 0), (.int .i64 0), (.bool false), (.raw (.slice none 0 0))]))),
 (none, (.e (.store 4 true (.t 4) (.t 24)))),
 (none, (.v (.mov 5 (.t 25))))])
 (.seq (.ops [(none, (.v (.mov 27 (.t 3)))),
 (none, (.e (.call (some 28) 12 [(.t 27), (.c (.int .i64 1)), (.c (.int .i64 1))]))),
 (none, (.v (.mov 26 (.t 28)))),
 (none, (.v (.ext 29 0 (.t 26)))),
 (none, (.v (.ext 30 1 (.t 26)))),
 (none, (.e (.alloc 6 [(.int .i64 0), (.int .i64 0), (.bool false), (.raw (.slice none 0 0))]))),
 (none, (.e (.store 4 true (.t 6) (.t 29)))),
 (none, (.v (.mov 7 (.t 30))))])
 (.seq (.ops [(none, (.v (.mov 32 (.t 3)))),
 (none, (.e (.call (some 33) 12 [(.t 32), (.c (.int .i64 2)), (.c (.int .i64 9))]))),
 (none, (.v (.mov 31 (.t 33)))),
 (none, (.v (.ext 34 0 (.t 31)))),
 (none, (.v (.ext 35 1 (.t 31)))),
 (none, (.e (.alloc 8 [(.int .i64 0), (.int .i64 0), (.bool false), (.raw (.slice none 0 0))]))),
 (none, (.e (.store 4 true (.t 8) (.t 34)))),
 (none, (.v (.mov 9 (.t 35))))])
 (.seq (.any false (.pure0 none (.v (.mov 36 (.t 5)))
 (.pure0 none (.v (.mov 37 (.t 36)))
 (.pure0 (some (37, true)) (.v (.load 38 true 4 (.t 4)))
 (.pure0 (some (37, true)) (.v (.load 39 true 4 (.t 1)))
 (.alt (some (37, true)) (.e (.call (some 40) 14 [(.t 38), (.t 39)]))
 (.base (.pure0 none (.v (.pick 41 (.t 37) (.t 40) (.c (.bool false))))
 (.pure0 none (.v (.mov 42 (.t 41)))
 (.pure0 (some (42, true)) (.v (.mov 43 (.t 7)))
 (.pure0 (some (42, true)) (.v (.not 44 (.t 43)))
 (.pure0 none (.v (.pick 45 (.t 42) (.t 44) (.c (.bool false))))
 (.pure0 none (.v (.mov 46 (.t 45)))
 (.pure0 (some (46, true)) (.v (.mov 47 (.t 9)))
 (.pure0 (some (46, true)) (.v (.not 48 (.t 47)))
 (.pure0 none (.v (.pick 49 (.t 46) (.t 48) (.c (.bool false))))
 (.pure0 none (.v (.mov 50 (.t 49)))
 (.pure0 (some (50, true)) (.v (.mov 51 (.t 3)))
 (.pure0 (some (50, true)) (.v (.load 53 true 4 (.t 2)))
 (.alt (some (50, true)) (.e (.call (some 52) 21 [(.t 51), (.c (.int .i64 9))]))
 (.base (.alt (some (50, true)) (.e (.mkl 54 29 4 1 (.agg [(.int .i64 0), (.int .i64 0), (.bool false), (.raw (.slice none 0 0))]) [(0, (.t 53))]))
 (.base (.alt (some (50, true)) (.e (.call (some 55) 20 [(.t 52), (.t 54)]))
 (.base (.pure0 none (.v (.pick 56 (.t 50) (.t 55) (.c (.bool false))))
 (.pure0 none (.v (.mov 57 (.t 56)))
 (.pure0 (some (57, true)) (.v (.mov 58 (.t 3)))
 (.alt (some (57, true)) (.e (.call (some 59) 24 [(.t 58), (.c (.int .i64 2)), (.c (.int .i64 5))]))
 (.base (.alt (some (57, true)) (.e (.mkl 60 3 1 2 (.int .i64 0) [(0, (.c (.int .i64 1))), (1, (.c (.int .i64 2)))]))
 (.base (.alt (some (57, true)) (.e (.call (some 61) 23 [(.t 59), (.t 60)]))
 (.base (.pure0 none (.v (.pick 62 (.t 57) (.t 61) (.c (.bool false))))
 (.pure0 none (.v (.mov 63 (.t 62)))
 (.pure0 (some (63, true)) (.v (.mov 64 (.t 3)))
 (.alt (some (63, true)) (.e (.call (some 65) 17 [(.t 64), (.c (.int .i64 1)), (.c (.int .i64 4))]))
 (.base (.pure0 none (.v (.pick 66 (.t 63) (.t 65) (.c (.bool false))))
 (.pure0 none (.v (.mov 10 (.t 66)))
 .done)))
 .stop)))))
 .stop))
 .stop))
 (.alt (some (57, true)) (.e (.mkl 60 3 1 2 (.int .i64 0) [(0, (.c (.int .i64 1))), (1, (.c (.int .i64 2)))]))
 (.base (.alt (some (57, true)) (.e (.call (some 59) 24 [(.t 58), (.c (.int .i64 2)), (.c (.int .i64 5))]))
 (.base (.alt (some (57, true)) (.e (.call (some 61) 23 [(.t 59), (.t 60)]))
 (.base (.pure0 none (.v (.pick 62 (.t 57) (.t 61) (.c (.bool false))))
 (.pure0 none (.v (.mov 63 (.t 62)))
 (.pure0 (some (63, true)) (.v (.mov 64 (.t 3)))
 (.alt (some (63, true)) (.e (.call (some 65) 17 [(.t 64), (.c (.int .i64 1)), (.c (.int .i64 4))]))
 (.base (.pure0 none (.v (.pick 66 (.t 63) (.t 65) (.c (.bool false))))
 (.pure0 none (.v (.mov 10 (.t 66)))
 .done)))
 .stop)))))
 .stop))
 .stop))
 .stop))))))
 .stop))
 .stop))
 (.alt (some (50, true)) (.e (.mkl 54 29 4 1 (.agg [(.int .i64 0), (.int .i64 0), (.bool false), (.raw (.slice none 0 0))]) [(0, (.t 53))]))
 (.base (.alt (some (50, true)) (.e (.call (some 52) 21 [(.t 51), (.c (.int .i64 9))]))
 (.base (.alt (some (50, true)) (.e (.call (some 55) 20 [(.t 52), (.t 54)]))
 (.base (.pure0 none (.v (.pick 56 (.t 50) (.t 55) (.c (.bool false))))
 (.pure0 none (.v (.mov 57 (.t 56)))
 (.pure0 (some (57, true)) (.v (.mov 58 (.t 3)))
 (.alt (some (57, true)) (.e (.call (some 59) 24 [(.t 58), (.c (.int .i64 2)), (.c (.int .i64 5))]))
 (.base (.alt (some (57, true)) (.e (.mkl 60 3 1 2 (.int .i64 0) [(0, (.c (.int .i64 1))), (1, (.c (.int .i64 2)))]))
 (.base (.alt (some (57, true)) (.e (.call (some 61) 23 [(.t 59), (.t 60)]))
 (.base (.pure0 none (.v (.pick 62 (.t 57) (.t 61) (.c (.bool false))))
 (.pure0 none (.v (.mov 63 (.t 62)))
 (.pure0 (some (63, true)) (.v (.mov 64 (.t 3)))
 (.alt (some (63, true)) (.e (.call (some 65) 17 [(.t 64), (.c (.int .i64 1)), (.c (.int .i64 4))]))
 (.base (.pure0 none (.v (.pick 66 (.t 63) (.t 65) (.c (.bool false))))
 (.pure0 none (.v (.mov 10 (.t 66)))
 .done)))
 .stop)))))
 .stop))
 .stop))
 (.alt (some (57, true)) (.e (.mkl 60 3 1 2 (.int .i64 0) [(0, (.c (.int .i64 1))), (1, (.c (.int .i64 2)))]))
 (.base (.alt (some (57, true)) (.e (.call (some 59) 24 [(.t 58), (.c (.int .i64 2)), (.c (.int .i64 5))]))
 (.base (.alt (some (57, true)) (.e (.call (some 61) 23 [(.t 59), (.t 60)]))
 (.base (.pure0 none (.v (.pick 62 (.t 57) (.t 61) (.c (.bool false))))
 (.pure0 none (.v (.mov 63 (.t 62)))
 (.pure0 (some (63, true)) (.v (.mov 64 (.t 3)))
 (.alt (some (63, true)) (.e (.call (some 65) 17 [(.t 64), (.c (.int .i64 1)), (.c (.int .i64 4))]))
 (.base (.pure0 none (.v (.pick 66 (.t 63) (.t 65) (.c (.bool false))))
 (.pure0 none (.v (.mov 10 (.t 66)))
 .done)))
 .stop)))))
 .stop))
 .stop))
 .stop))))))
 .stop))
 .stop))
 .stop)))))))))))))))
 .stop))))))
 (.seq (.any false (.pure0 none (.v (.mov 67 (.t 10)))
 (.pure0 none (.v (.mov 68 (.t 67)))
 (.pure0 (some (68, true)) (.v (.mov 69 (.t 3)))
 (.alt (some (68, true)) (.e (.call (some 70) 15 [(.t 69)]))
 (.base (.pure0 (some (68, true)) (.v (.bin 71 .eql false (.t 70) (.c (.int .i64 5))))
 (.pure0 none (.v (.pick 72 (.t 68) (.t 71) (.c (.bool false))))
 (.pure0 none (.v (.mov 73 (.t 72)))
 (.pure0 (some (73, true)) (.v (.mov 74 (.t 3)))
 (.alt (some (73, true)) (.e (.call (some 75) 9 [(.t 74)]))
 (.base (.pure0 none (.v (.pick 76 (.t 73) (.t 75) (.c (.bool false))))
 (.pure0 none (.v (.mov 77 (.t 76)))
 (.pure0 (some (77, true)) (.v (.mov 78 (.t 3)))
 (.pure0 (some (77, true)) (.v (.load 81 true 4 (.t 1)))
 (.pure0 (some (77, true)) (.v (.load 82 true 4 (.t 2)))
 (.alt (some (77, true)) (.e (.mkl 79 3 1 1 (.int .i64 0) [(0, (.c (.int .i64 3)))]))
 (.base (.alt (some (77, true)) (.e (.call (some 80) 26 [(.t 78), (.t 79)]))
 (.base (.alt (some (77, true)) (.e (.mkl 83 29 4 2 (.agg [(.int .i64 0), (.int .i64 0), (.bool false), (.raw (.slice none 0 0))]) [(0, (.t 81)), (1, (.t 82))]))
 (.base (.alt (some (77, true)) (.e (.call (some 84) 20 [(.t 80), (.t 83)]))
 (.base (.pure0 none (.v (.pick 85 (.t 77) (.t 84) (.c (.bool false))))
 (.pure0 none (.v (.mov 86 (.t 85)))
 (.pure0 (some (86, true)) (.v (.mov 87 (.t 3)))
 (.pure0 (some (86, true)) (.v (.load 89 true 4 (.t 2)))
 (.alt (some (86, true)) (.e (.call (some 88) 26 [(.t 87), (.c (.raw (.slice none 0 0)))]))
 (.base (.alt (some (86, true)) (.e (.mkl 90 29 4 1 (.agg [(.int .i64 0), (.int .i64 0), (.bool false), (.raw (.slice none 0 0))]) [(0, (.t 89))]))
 (.base (.alt (some (86, true)) (.e (.call (some 91) 20 [(.t 88), (.t 90)]))
 (.base (.pure0 none (.v (.pick 92 (.t 86) (.t 91) (.c (.bool false))))
 (.pure0 none (.v (.mov 93 (.t 92)))
 (.pure0 (some (93, true)) (.v (.mov 94 (.t 3)))
 (.alt (some (93, true)) (.e (.call (some 95) 22 [(.t 94), (.c (.int .i64 9))]))
 (.base (.pure0 (some (93, true)) (.v (.bin 96 .eql false (.t 95) (.c (.int .i64 1))))
 (.pure0 none (.v (.pick 97 (.t 93) (.t 96) (.c (.bool false))))
 (.pure0 none (.v (.mov 0 (.t 97)))
 .done))))
 .stop)))))
 .stop))
 .stop))
 (.alt (some (86, true)) (.e (.mkl 90 29 4 1 (.agg [(.int .i64 0), (.int .i64 0), (.bool false), (.raw (.slice none 0 0))]) [(0, (.t 89))]))
 (.base (.alt (some (86, true)) (.e (.call (some 88) 26 [(.t 87), (.c (.raw (.slice none 0 0)))]))
 (.base (.alt (some (86, true)) (.e (.call (some 91) 20 [(.t 88), (.t 90)]))
 (.base (.pure0 none (.v (.pick 92 (.t 86) (.t 91) (.c (.bool false))))
 (.pure0 none (.v (.mov 93 (.t 92)))
 (.pure0 (some (93, true)) (.v (.mov 94 (.t 3)))
 (.alt (some (93, true)) (.e (.call (some 95) 22 [(.t 94), (.c (.int .i64 9))]))
 (.base (.pure0 (some (93, true)) (.v (.bin 96 .eql false (.t 95) (.c (.int .i64 1))))
 (.pure0 none (.v (.pick 97 (.t 93) (.t 96) (.c (.bool false))))
 (.pure0 none (.v (.mov 0 (.t 97)))
 .done))))
 .stop)))))
 .stop))
 .stop))
 .stop)))))))
 .stop))
 .stop))
 (.alt (some (77, true)) (.e (.mkl 83 29 4 2 (.agg [(.int .i64 0), (.int .i64 0), (.bool false), (.raw (.slice none 0 0))]) [(0, (.t 81)), (1, (.t 82))]))
 (.base (.alt (some (77, true)) (.e (.call (some 80) 26 [(.t 78), (.t 79)]))
 (.base (.alt (some (77, true)) (.e (.call (some 84) 20 [(.t 80), (.t 83)]))
 (.base (.pure0 none (.v (.pick 85 (.t 77) (.t 84) (.c (.bool false))))
 (.pure0 none (.v (.mov 86 (.t 85)))
 (.pure0 (some (86, true)) (.v (.mov 87 (.t 3)))
 (.pure0 (some (86, true)) (.v (.load 89 true 4 (.t 2)))
 (.alt (some (86, true)) (.e (.call (some 88) 26 [(.t 87), (.c (.raw (.slice none 0 0)))]))
 (.base (.alt (some (86, true)) (.e (.mkl 90 29 4 1 (.agg [(.int .i64 0), (.int .i64 0), (.bool false), (.raw (.slice none 0 0))]) [(0, (.t 89))]))
 (.base (.alt (some (86, true)) (.e (.call (some 91) 20 [(.t 88), (.t 90)]))
 (.base (.pure0 none (.v (.pick 92 (.t 86) (.t 91) (.c (.bool false))))
 (.pure0 none (.v (.mov 93 (.t 92)))
 (.pure0 (some (93, true)) (.v (.mov 94 (.t 3)))
 (.alt (some (93, true)) (.e (.call (some 95) 22 [(.t 94), (.c (.int .i64 9))]))
 (.base (.pure0 (some (93, true)) (.v (.bin 96 .eql false (.t 95) (.c (.int .i64 1))))
 (.pure0 none (.v (.pick 97 (.t 93) (.t 96) (.c (.bool false))))
 (.pure0 none (.v (.mov 0 (.t 97)))
 .done))))
 .stop)))))
 .stop))
 .stop))
 (.alt (some (86, true)) (.e (.mkl 90 29 4 1 (.agg [(.int .i64 0), (.int .i64 0), (.bool false), (.raw (.slice none 0 0))]) [(0, (.t 89))]))
 (.base (.alt (some (86, true)) (.e (.call (some 88) 26 [(.t 87), (.c (.raw (.slice none 0 0)))]))
 (.base (.alt (some (86, true)) (.e (.call (some 91) 20 [(.t 88), (.t 90)]))
 (.base (.pure0 none (.v (.pick 92 (.t 86) (.t 91) (.c (.bool false))))
 (.pure0 none (.v (.mov 93 (.t 92)))
 (.pure0 (some (93, true)) (.v (.mov 94 (.t 3)))
 (.alt (some (93, true)) (.e (.call (some 95) 22 [(.t 94), (.c (.int .i64 9))]))
 (.base (.pure0 (some (93, true)) (.v (.bin 96 .eql false (.t 95) (.c (.int .i64 1))))
 (.pure0 none (.v (.pick 97 (.t 93) (.t 96) (.c (.bool false))))
 (.pure0 none (.v (.mov 0 (.t 97)))
 .done))))
 .stop)))))
 .stop))
 .stop))
 .stop)))))))
 .stop))
 .stop))
 .stop)))
 (.alt (some (77, true)) (.e (.mkl 83 29 4 2 (.agg [(.int .i64 0), (.int .i64 0), (.bool false), (.raw (.slice none 0 0))]) [(0, (.t 81)), (1, (.t 82))]))
 (.base (.alt (some (77, true)) (.e (.mkl 79 3 1 1 (.int .i64 0) [(0, (.c (.int .i64 3)))]))
 (.base (.alt (some (77, true)) (.e (.call (some 80) 26 [(.t 78), (.t 79)]))
 (.base (.alt (some (77, true)) (.e (.call (some 84) 20 [(.t 80), (.t 83)]))
 (.base (.pure0 none (.v (.pick 85 (.t 77) (.t 84) (.c (.bool false))))
 (.pure0 none (.v (.mov 86 (.t 85)))
 (.pure0 (some (86, true)) (.v (.mov 87 (.t 3)))
 (.pure0 (some (86, true)) (.v (.load 89 true 4 (.t 2)))
 (.alt (some (86, true)) (.e (.call (some 88) 26 [(.t 87), (.c (.raw (.slice none 0 0)))]))
 (.base (.alt (some (86, true)) (.e (.mkl 90 29 4 1 (.agg [(.int .i64 0), (.int .i64 0), (.bool false), (.raw (.slice none 0 0))]) [(0, (.t 89))]))
 (.base (.alt (some (86, true)) (.e (.call (some 91) 20 [(.t 88), (.t 90)]))
 (.base (.pure0 none (.v (.pick 92 (.t 86) (.t 91) (.c (.bool false))))
 (.pure0 none (.v (.mov 93 (.t 92)))
 (.pure0 (some (93, true)) (.v (.mov 94 (.t 3)))
 (.alt (some (93, true)) (.e (.call (some 95) 22 [(.t 94), (.c (.int .i64 9))]))
 (.base (.pure0 (some (93, true)) (.v (.bin 96 .eql false (.t 95) (.c (.int .i64 1))))
 (.pure0 none (.v (.pick 97 (.t 93) (.t 96) (.c (.bool false))))
 (.pure0 none (.v (.mov 0 (.t 97)))
 .done))))
 .stop)))))
 .stop))
 .stop))
 (.alt (some (86, true)) (.e (.mkl 90 29 4 1 (.agg [(.int .i64 0), (.int .i64 0), (.bool false), (.raw (.slice none 0 0))]) [(0, (.t 89))]))
 (.base (.alt (some (86, true)) (.e (.call (some 88) 26 [(.t 87), (.c (.raw (.slice none 0 0)))]))
 (.base (.alt (some (86, true)) (.e (.call (some 91) 20 [(.t 88), (.t 90)]))
 (.base (.pure0 none (.v (.pick 92 (.t 86) (.t 91) (.c (.bool false))))
 (.pure0 none (.v (.mov 93 (.t 92)))
 (.pure0 (some (93, true)) (.v (.mov 94 (.t 3)))
 (.alt (some (93, true)) (.e (.call (some 95) 22 [(.t 94), (.c (.int .i64 9))]))
 (.base (.pure0 (some (93, true)) (.v (.bin 96 .eql false (.t 95) (.c (.int .i64 1))))
 (.pure0 none (.v (.pick 97 (.t 93) (.t 96) (.c (.bool false))))
 (.pure0 none (.v (.mov 0 (.t 97)))
 .done))))
 .stop)))))
 .stop))
 .stop))
 .stop)))))))
 .stop))
 .stop))
 .stop))
 .stop))))))))
 .stop))))))
 .stop)))))
 .ret)))))))))
theorem ok8 : FnOk E 8 98 [.tmp 0] mc8 := .of func8 (by kernel_rfl) (by kernel_rfl) (by kernel_rfl) (by kernel_rfl) (by kernel_rfl)
end Go.Proofs.Try
namespace Go.Proofs.Try
open Go.Al
set_option linter.unusedVariables false
set_option linter.unusedSimpArgs false
set_option maxRecDepth 20000
set_option maxHeartbeats 16000000

/-! ### the examples of the chapter -/
def exA : Ver := ⟨1, 2, false, [⟨2, 0, ⟨#[97]⟩⟩]⟩
def exB : Ver := ⟨1, 5, false, [⟨2, 0, ⟨#[98]⟩⟩]⟩
def exL : List Ver := [exB, exA, ⟨2, 3, true, []⟩]
theorem exL_good : goodL exL := by decide
theorem ex_vis1 : vis exL 1 4 = (exA, true) := by decide
theorem ex_vis2 : vis exL 1 1 = (Ver0, false) := by decide
theorem ex_vis3 : vis exL 2 9 = (Ver0, false) := by decide
theorem ex_rows : snapRows exL 9 = [exB] := by rw [rows_ref exL_good.2]; decide
theorem ex_chg : changed exL 2 5 = [1, 2] := by rw [changed_ref]; decide
theorem ex_newer : newer exL 1 4 = true := by decide
theorem ex_last : last exL = 5 := by decide
theorem ex_trim1 : snapTrim exL [3] = [exA, exB] := by rw [trim_ref exL_good.2]; decide
theorem ex_trim2 : snapTrim exL [] = [exB] := by rw [trim_ref exL_good.2]; decide
theorem exL_av : exL.map Ver.av = [.agg exB.cs, .agg exA.cs, .agg [.int .i64 2, .int .i64 3, .bool true, .view 3 []]] := rfl
def exF : List (Nat × AV) := [(1, .op 0 0), (2, .op 1 0), (3, .view 4 [.agg exB.cs, .agg exA.cs, .agg [.int .i64 2, .int .i64 3, .bool true, .raw (.slice none 0 0)]])]
theorem exF_ent {m : Nat} {N : FN} {H : List AObj} : Ent m N ⟨exF, H⟩ ⟨[(1, .op 0 0), (2, .op 1 0), (3, .view 4 (exL.map Ver.av))], H⟩ :=
  (Ent.weak (fr := exF) 3 (x := .view 4 [.agg exB.cs, .agg exA.cs, .agg [.int .i64 2, .int .i64 3, .bool true, .raw (.slice none 0 0)]]) (y := .view 4 (exL.map Ver.av)) rfl
    (WeakL.view (.cons (.refl _) (.cons (.refl _) (.cons (WeakL.agg (.cons (.refl _) (.cons (.refl _) (.cons (.refl _) (.cons weak_nil (.refl _)))))) (.refl _)))))).trans (Ent.fr (by simp [FrSub, Go.Al.get, exF]))
theorem spine8 : ∀ fn, E.P.funcs[8]? = some fn → fn.body.map (Go.Al.spine 4) = some true := fun fn h => by
  have e := func8.symm.trans h
  injection e with e
  subst e
  rfl
theorem c8 : ACalls E.P 8 [] [] (fun r H => r = .bool true ∧ H = []) := by
  have hmax := maxLen_eq
  have h12a := c12 exL 1 4
  have h12b := c12 exL 1 1
  have h12c := c12 exL 2 9
  rw [ex_vis1] at h12a
  rw [ex_vis2] at h12b
  rw [ex_vis3] at h12c
  have h14 := c14 exA exA
  have h21 := c21 exL 9 exL_good.2 (by decide)
  rw [ex_rows] at h21
  have h20a := c20 [exB] [exB]
  have h24 := c24 exL 2 5 (by decide)
  rw [ex_chg] at h24
  have h23 := c23 [1, 2] [1, 2]
  have h17 := c17 exL 1 4
  rw [ex_newer] at h17
  have h15 := c15 exL
  rw [ex_last] at h15
  have h9 := c9 exL
  rw [decide_eq_true exL_good] at h9
  have h26a := c26 exL [3] exL_good.2 (by decide) (by decide)
  rw [ex_trim1] at h26a
  have h26b := c26 exL [] exL_good.2 (by decide) (by decide)
  rw [ex_trim2] at h26b
  have h20b := c20 [exA, exB] [exA, exB]
  have h22 := c22 exL 9 exL_good.2 (by decide)
  rw [ex_rows] at h22
  simp only [decide_true, ver_av, List.map_cons, List.map_nil] at h14 h20a h20b h23 h21 h24 h26a h26b h22
  have hz26a : ACalls E.P 26 [.view 4 (exL.map Ver.av), .slc 0 1 1] [.arr 3 1 [.int .i64 3]] (fun r H => r = .view 4 [.agg exA.cs, .agg exB.cs] ∧ H = [.dead]) :=
    ACalls.passZ [] 8 (by simp) .nil (by simp only [lP, seval]; exact h26a) (fun r H' h => by
      obtain ⟨rfl, rfl⟩ := h
      exact ⟨rfl, rfl⟩)
  have hn26b : ACalls E.P 26 [.view 4 (exL.map Ver.av), .raw (.slice none 0 0)] [] (fun r H => r = .view 4 [.agg exB.cs] ∧ H = []) :=
    ⟨h26b.1, fun γ σ w vs hi hv => h26b.2 γ σ w vs hi ((WeakL.cons (.refl _) (WeakL.cons weak_nil (.refl _))) γ σ vs hv)⟩
  refine ok8.acallsF hE hm (by simp) 4 spine8 fun N hN => ?_
  unfold mc8
  refine mf_i ?_
  simp only [lA, ptrCells, ptrAdd, isNil, readsV, readsP, isCall, wrote, srcOf, seval]
  refine mf_go (mf_i ?_)
  repeat' (first
   | (with_reducible apply St.o; constructor) <;> intro _
   | ((with_reducible refine mkl_view ?_ ?_ ?_); (focus decide); (focus rfl))
   | with_reducible first | refine LenR_i fun _ => ?_ | refine And.intro (by omega) ?_ | (apply Sp.o; constructor) | refine mkl_own ?_ | refine frz0_i ?_
   | simp (maxSteps := 1000000) (disch := omega) only [lE, ptrCells, ptrAdd, isNil, readsV, readsP, isCall, wrote, srcOf, seval, fillE, setAll])
  refine mf_go (mf_i ?_)
  repeat' (first
   | (with_reducible apply St.o; constructor) <;> intro _
   | ((with_reducible refine mkl_view ?_ ?_ ?_); (focus decide); (focus rfl))
   | with_reducible first | refine LenR_i fun _ => ?_ | refine And.intro (by omega) ?_ | (apply Sp.o; constructor) | refine mkl_own ?_ | refine frz0_i ?_
   | simp (maxSteps := 1000000) (disch := omega) only [lE, ptrCells, ptrAdd, isNil, readsV, readsP, isCall, wrote, srcOf, seval, fillE, setAll])
  refine mf_go (mf_i ?_)
  repeat' (first
   | (with_reducible apply St.o; constructor) <;> intro _
   | ((with_reducible refine mkl_view ?_ ?_ ?_); (focus decide); (focus rfl))
   | with_reducible first | refine LenR_i fun _ => ?_ | refine And.intro (by omega) ?_ | (apply Sp.o; constructor) | refine mkl_own ?_ | refine frz0_i ?_
   | simp (maxSteps := 1000000) (disch := omega) only [lE, ptrCells, ptrAdd, isNil, readsV, readsP, isCall, wrote, srcOf, seval, fillE, setAll])
  refine mf_to (fr' := [(1, .op 0 0), (2, .op 1 0), (3, .view 4 (exL.map Ver.av))]) (H' := [.box exA.cs, .box exB.cs]) (Ent.trans (Ent.fr (fr' := exF) ⟨rfl, rfl, rfl, trivial⟩) exF_ent) (mf_last ?_)
  simp only [lA, ptrCells, ptrAdd, isNil, readsV, readsP, isCall, wrote, srcOf, seval]
  repeat' (first
   | (with_reducible apply St.o; constructor) <;> intro _
   | ((with_reducible refine mkl_view ?_ ?_ ?_); (focus decide); (focus rfl))
   | with_reducible first | refine LenR_i fun _ => ?_ | refine And.intro (by omega) ?_ | (apply Sp.o; constructor) | refine mkl_own ?_ | refine frz0_i ?_
   | ((with_reducible apply Sc.o true; constructor); simp only [lP, seval, fillE, setAll, ren_ver, ver_av]; (first | refine ⟨_, h14, ?_⟩ | refine ⟨_, h20a, ?_⟩ | refine ⟨_, h23, ?_⟩ | refine ⟨_, h17, ?_⟩ | refine ⟨_, h15, ?_⟩ | refine ⟨_, h9, ?_⟩ | refine ⟨_, h20b, ?_⟩ | refine ⟨_, h22, ?_⟩); rintro _ _ ⟨rfl, rfl⟩; simp only [lA, lP, ptrCells, ptrAdd, isNil, readsV, readsP, isCall, wrote, srcOf, seval, fillE, setAll, ren_ver, ver_av])
   | ((with_reducible apply Sc.o false; constructor); simp only [lP, seval, fillE, setAll, ren_ver, ver_av]; (first | refine ⟨_, h12a, ?_⟩ | refine ⟨_, h12b, ?_⟩ | refine ⟨_, h12c, ?_⟩ | refine ⟨_, h21, ?_⟩ | refine ⟨_, h24, ?_⟩ | refine ⟨_, h26a, ?_⟩ | refine ⟨_, hn26b, ?_⟩); rintro _ _ ⟨rfl, rfl⟩; simp only [lA, lP, ptrCells, ptrAdd, isNil, readsV, readsP, isCall, wrote, srcOf, seval, fillE, setAll, ren_ver, ver_av])
   | simp (maxSteps := 1000000) (disch := omega) only [lE, ptrCells, ptrAdd, isNil, readsV, readsP, isCall, wrote, srcOf, seval, fillE, setAll, ren_ver, ver_av])
  all_goals exact keep0_i ⟨rfl, rfl⟩
end Go.Proofs.Try
