/-
  A part of the proof: see the text of the law.
-/
import Derived.Test.YthbajphbhoiceaaEnv
set_option linter.unusedSimpArgs false
set_option linter.unusedVariables false
namespace Go.Proofs.Try
open Go.Al
set_option linter.unusedVariables false
set_option maxRecDepth 100000
theorem maxLen_eq : maxLen = 9223372036854775807 := by simp [maxLen]
/-- alum/alumlaw26.sanity -/
def mc16 : MC :=
 (.seq (.ops [(none, (.v (.mov 0 (.c (.bool false)))))])
 (.seq (.ops [(none, (.e (.call (some 15) 42 []))),
  (none, (.v (.mov 1 (.t 15))))])
 (.seq (.ops [(none, (.v (.build 16 [(.int .i64 0), (.int .i64 0)] [(0, 1, (.c (.int .i64 0))), (1, 1, (.c (.int .i64 1)))]))),
  (none, (.v (.build 17 [(.int .i64 0), (.int .i64 0)] [(0, 1, (.c (.int .i64 1))), (1, 1, (.c (.int .i64 0)))]))),
  (none, (.e (.mkl 18 45 2 2 (.agg [(.int .i64 0), (.int .i64 0)]) [(0, (.t 16)), (1, (.t 17))]))),
  (none, (.v (.mov 2 (.t 18))))])
 (.seq (.ops [(none, (.v (.mov 20 (.t 1)))),
  (none, (.e (.call (some 21) 25 [(.t 20)]))),
  (none, (.v (.mov 19 (.t 21)))),
  (none, (.v (.ext 22 0 (.t 19)))),
  (none, (.v (.ext 23 1 (.t 19)))),
  (none, (.e (.alloc 3 [(.int .i64 0), (.int .i64 0), (.int .i64 0)]))),
  (none, (.e (.store 3 true (.t 3) (.t 22)))),
  (none, (.v (.mov 4 (.t 23))))])
 (.seq (.ops [(none, (.v (.mov 25 (.t 1)))),
  (none, (.e (.call (some 26) 27 [(.t 25)]))),
  (none, (.v (.mov 24 (.t 26)))),
  (none, (.v (.ext 27 0 (.t 24)))),
  (none, (.v (.ext 28 1 (.t 24)))),
  (none, (.v (.mov 5 (.t 27)))),
  (none, (.v (.mov 6 (.t 28))))])
 (.seq (.ops [(none, (.e (.call (some 29) 42 []))),
  (none, (.v (.mov 7 (.t 29))))])
 (.seq (.ops [(none, (.v (.mov 30 (.t 7)))),
  (none, (.p (.idx 31 6 (.t 30) (.c (.int .i64 1))))),
  (none, (.v (.fld 32 2 (.t 31)))),
  (none, (.e (.store 1 false (.t 32) (.c (.bool false)))))])
 (.seq (.ops [(none, (.v (.mov 33 (.t 7)))),
  (none, (.p (.idx 34 6 (.t 33) (.c (.int .i64 1))))),
  (none, (.v (.fld 35 3 (.t 34)))),
  (none, (.e (.store 1 false (.t 35) (.c (.int .i64 0)))))])
 (.seq (.ops [(none, (.v (.mov 37 (.t 7)))),
  (none, (.e (.call (some 38) 34 [(.t 37), (.c (.int .i64 1))]))),
  (none, (.v (.mov 36 (.t 38)))),
  (none, (.v (.ext 39 0 (.t 36)))),
  (none, (.v (.ext 40 1 (.t 36)))),
  (none, (.v (.mov 8 (.t 39)))),
  (none, (.v (.mov 9 (.t 40))))])
 (.seq (.ops [(none, (.v (.mov 41 (.t 7)))),
  (none, (.p (.idx 42 6 (.t 41) (.c (.int .i64 1))))),
  (none, (.v (.fld 43 0 (.t 42)))),
  (none, (.e (.store 1 false (.t 43) (.c (.int .i64 0)))))])
 (.seq (.ops [(none, (.v (.mov 45 (.t 7)))),
  (none, (.e (.call (some 46) 34 [(.t 45), (.c (.int .i64 1))]))),
  (none, (.v (.mov 44 (.t 46)))),
  (none, (.v (.ext 47 0 (.t 44)))),
  (none, (.v (.ext 48 1 (.t 44)))),
  (none, (.v (.mov 10 (.t 47)))),
  (none, (.v (.mov 11 (.t 48))))])
 (.seq (.ops [(none, (.v (.mov 49 (.t 1)))),
  (none, (.e (.call (some 50) 36 [(.t 49), (.c (.int .i64 0))]))),
  (none, (.v (.mov 51 (.t 50)))),
  ((some (51, true)), (.v (.mov 52 (.t 1)))),
  ((some (51, true)), (.e (.call (some 53) 36 [(.t 52), (.c (.int .i64 1))]))),
  ((some (51, true)), (.v (.not 54 (.t 53)))),
  (none, (.v (.pick 55 (.t 51) (.t 54) (.c (.bool false))))),
  (none, (.v (.mov 56 (.t 55)))),
  ((some (56, true)), (.v (.mov 57 (.t 1)))),
  ((some (56, true)), (.e (.call (some 58) 36 [(.t 57), (.c (.int .i64 2))]))),
  (none, (.v (.pick 59 (.t 56) (.t 58) (.c (.bool false))))),
  (none, (.v (.mov 12 (.t 59))))])
 (.seq (.ops [(none, (.v (.mov 61 (.t 1)))),
  (none, (.p (.pre 62 6 (.t 61) (some (.c (.int .i64 1)))))),
  (none, (.e (.call (some 63) 27 [(.t 62)]))),
  (none, (.v (.mov 60 (.t 63)))),
  (none, (.v (.ext 64 0 (.t 60)))),
  (none, (.v (.ext 65 1 (.t 60)))),
  (none, (.v (.mov 13 (.t 64)))),
  (none, (.v (.mov 14 (.t 65))))])
 (.seq (.ops [(none, (.v (.mov 66 (.t 1)))),
  (none, (.e (.call (some 67) 18 [(.t 66)]))),
  (none, (.v (.bin 68 .eql false (.t 67) (.c (.int .i64 0))))),
  (none, (.v (.mov 69 (.t 68)))),
  ((some (69, true)), (.v (.mov 70 (.t 1)))),
  ((some (69, true)), (.e (.call (some 71) 21 [(.t 70)]))),
  ((some (69, true)), (.v (.mov 72 (.t 2)))),
  ((some (69, true)), (.e (.call (some 73) 20 [(.t 71), (.t 72)]))),
  (none, (.v (.pick 74 (.t 69) (.t 73) (.c (.bool false))))),
  (none, (.v (.mov 75 (.t 74)))),
  ((some (75, true)), (.v (.mov 76 (.t 1)))),
  ((some (75, true)), (.e (.call (some 77) 23 [(.t 76)]))),
  ((some (75, true)), (.v (.mov 78 (.t 2)))),
  ((some (75, true)), (.e (.call (some 79) 20 [(.t 77), (.t 78)]))),
  (none, (.v (.pick 80 (.t 75) (.t 79) (.c (.bool false))))),
  (none, (.v (.mov 81 (.t 80)))),
  ((some (81, true)), (.v (.mov 82 (.t 4)))),
  (none, (.v (.pick 83 (.t 81) (.t 82) (.c (.bool false))))),
  (none, (.v (.mov 84 (.t 83)))),
  ((some (84, true)), (.v (.load 85 true 3 (.t 3)))),
  ((some (84, true)), (.v (.build 86 [(.int .i64 0), (.int .i64 0), (.int .i64 0)] [(0, 1, (.c (.int .i64 0))), (1, 1, (.c (.int .i64 1))), (2, 1, (.c (.int .i64 0)))]))),
  ((some (84, true)), (.v (.eq 87 false (.agg [(0, false, 1, .int), (1, false, 1, .int), (2, false, 1, .int)]) (.t 85) (.t 86)))),
  (none, (.v (.pick 88 (.t 84) (.t 87) (.c (.bool false))))),
  (none, (.v (.mov 89 (.t 88)))),
  ((some (89, true)), (.v (.mov 90 (.t 6)))),
  ((some (89, true)), (.v (.not 91 (.t 90)))),
  (none, (.v (.pick 92 (.t 89) (.t 91) (.c (.bool false))))),
  (none, (.v (.mov 93 (.t 92)))),
  ((some (93, true)), (.v (.mov 94 (.t 1)))),
  ((some (93, true)), (.e (.call (some 95) 30 [(.t 94)]))),
  ((some (93, true)), (.e (.mkl 96 3 1 2 (.int .i64 0) [(0, (.c (.int .i64 0))), (1, (.c (.int .i64 1)))]))),
  ((some (93, true)), (.e (.call (some 97) 29 [(.t 95), (.t 96)]))),
  (none, (.v (.pick 98 (.t 93) (.t 97) (.c (.bool false))))),
  (none, (.v (.mov 99 (.t 98)))),
  ((some (99, true)), (.v (.mov 100 (.t 9)))),
  ((some (99, true)), (.v (.bin 101 .eql false (.t 100) (.c (.int .i64 272))))),
  (none, (.v (.pick 102 (.t 99) (.t 101) (.c (.bool false))))),
  (none, (.v (.mov 103 (.t 102)))),
  ((some (103, true)), (.v (.mov 104 (.t 10)))),
  ((some (103, true)), (.v (.bin 105 .eql false (.t 104) (.c (.int .i64 2))))),
  (none, (.v (.pick 106 (.t 103) (.t 105) (.c (.bool false))))),
  (none, (.v (.mov 107 (.t 106)))),
  ((some (107, true)), (.v (.mov 108 (.t 11)))),
  ((some (107, true)), (.v (.bin 109 .eql false (.t 108) (.c (.int .i64 0))))),
  (none, (.v (.pick 110 (.t 107) (.t 109) (.c (.bool false))))),
  (none, (.v (.mov 111 (.t 110)))),
  ((some (111, true)), (.v (.mov 112 (.t 12)))),
  (none, (.v (.pick 113 (.t 111) (.t 112) (.c (.bool false))))),
  (none, (.v (.mov 114 (.t 113)))),
  ((some (114, true)), (.v (.mov 115 (.t 13)))),
  ((some (114, true)), (.e (.mkl 116 3 1 1 (.int .i64 0) [(0, (.c (.int .i64 0)))]))),
  ((some (114, true)), (.e (.call (some 117) 29 [(.t 115), (.t 116)]))),
  (none, (.v (.pick 118 (.t 114) (.t 117) (.c (.bool false))))),
  (none, (.v (.mov 119 (.t 118)))),
  ((some (119, true)), (.v (.mov 120 (.t 14)))),
  (none, (.v (.pick 121 (.t 119) (.t 120) (.c (.bool false))))),
  (none, (.v (.mov 122 (.t 121)))),
  ((some (122, true)), (.v (.mov 123 (.t 1)))),
  ((some (122, true)), (.p (.pre 124 6 (.t 123) (some (.c (.int .i64 1)))))),
  ((some (122, true)), (.v (.mov 125 (.t 13)))),
  ((some (122, true)), (.e (.call (some 126) 32 [(.t 124), (.t 125)]))),
  (none, (.v (.pick 127 (.t 122) (.t 126) (.c (.bool false))))),
  (none, (.v (.mov 0 (.t 127))))])
 .ret))))))))))))))
theorem ok16 : FnOk E 16 128 [.tmp 0] mc16 := .of func16 (by kernel_rfl) (by kernel_rfl) (by kernel_rfl) (by kernel_rfl) (by kernel_rfl)
/-- alum/alumref26.Few -/
def mc17 : MC :=
 (.seq (.ops [(none, (.v (.mov 2 (.c (.bool false)))))])
 (.seq (.seq (.ops [(none, (.v (.mov 4 (.t 0)))),
  (none, (.p (.len 5 (.t 4)))),
  (none, (.v (.bin 6 .gtr false (.t 5) (.c (.int .i64 9)))))])
 (.cond 6
  (.seq (.ops [(none, (.v (.mov 7 (.t 0)))),
   (none, (.p (.len 8 (.t 7)))),
   (none, (.v (.bin 9 .gtr false (.t 8) (.c (.int .i64 100))))),
   (none, (.v (.mov 10 (.t 9)))),
   ((some (10, true)), (.v (.mov 11 (.t 0)))),
   ((some (10, true)), (.p (.len 12 (.t 11)))),
   ((some (10, true)), (.v (.bin 13 .leq false (.t 12) (.c (.int .i64 102))))),
   (none, (.v (.pick 14 (.t 10) (.t 13) (.c (.bool false))))),
   (none, (.v (.mov 2 (.t 14))))])
  .ret)
  .skip))
 (.seq (.seq (.ops [(none, (.v (.mov 3 (.c (.int .i64 0)))))])
 (.block 0 (.loop (.seq (.seq (.ops [(none, (.v (.mov 15 (.t 3)))),
    (none, (.v (.mov 16 (.t 0)))),
    (none, (.p (.len 17 (.t 16)))),
    (none, (.v (.bin 18 .lss false (.t 15) (.t 17))))])
   (.cond 18
    .skip
    (.exit 0)))
   (.seq (.block 1 (.seq (.ops [(none, (.v (.mov 21 (.t 0)))),
     (none, (.v (.mov 22 (.t 3)))),
     (none, (.p (.idx 23 6 (.t 21) (.t 22)))),
     (none, (.v (.fld 24 4 (.t 23)))),
     (none, (.v (.load 25 false 1 (.t 24)))),
     (none, (.p (.len 26 (.t 25)))),
     (none, (.v (.bin 27 .gtr false (.t 26) (.c (.int .i64 10))))),
     (none, (.v (.mov 28 (.t 27)))),
     ((some (28, true)), (.v (.mov 29 (.t 0)))),
     ((some (28, true)), (.v (.mov 30 (.t 3)))),
     ((some (28, true)), (.p (.idx 31 6 (.t 29) (.t 30)))),
     ((some (28, true)), (.v (.fld 32 4 (.t 31)))),
     ((some (28, true)), (.v (.load 33 false 1 (.t 32)))),
     ((some (28, true)), (.p (.len 34 (.t 33)))),
     ((some (28, true)), (.v (.bin 35 .leq false (.t 34) (.c (.int .i64 64))))),
     (none, (.v (.pick 36 (.t 28) (.t 35) (.c (.bool false))))),
     (none, (.v (.mov 37 (.t 36)))),
     ((some (37, false)), (.v (.mov 38 (.t 0)))),
     ((some (37, false)), (.v (.mov 39 (.t 3)))),
     ((some (37, false)), (.p (.idx 40 6 (.t 38) (.t 39)))),
     ((some (37, false)), (.v (.fld 41 5 (.t 40)))),
     ((some (37, false)), (.v (.load 42 false 1 (.t 41)))),
     ((some (37, false)), (.p (.len 43 (.t 42)))),
     ((some (37, false)), (.v (.bin 44 .gtr false (.t 43) (.c (.int .i64 10))))),
     ((some (37, false)), (.v (.mov 45 (.t 44)))),
     ((some (45, true)), (.v (.mov 46 (.t 0)))),
     ((some (45, true)), (.v (.mov 47 (.t 3)))),
     ((some (45, true)), (.p (.idx 48 6 (.t 46) (.t 47)))),
     ((some (45, true)), (.v (.fld 49 5 (.t 48)))),
     ((some (45, true)), (.v (.load 50 false 1 (.t 49)))),
     ((some (45, true)), (.p (.len 51 (.t 50)))),
     ((some (45, true)), (.v (.bin 52 .leq false (.t 51) (.c (.int .i64 64))))),
     ((some (37, false)), (.v (.pick 53 (.t 45) (.t 52) (.c (.bool false))))),
     (none, (.v (.pick 54 (.t 37) (.c (.bool true)) (.t 53)))),
     (none, (.v (.mov 55 (.t 54)))),
     ((some (55, false)), (.v (.mov 56 (.t 0)))),
     ((some (55, false)), (.v (.mov 57 (.t 3)))),
     ((some (55, false)), (.p (.idx 58 6 (.t 56) (.t 57)))),
     ((some (55, false)), (.v (.fld 59 4 (.t 58)))),
     ((some (55, false)), (.v (.load 60 false 1 (.t 59)))),
     ((some (55, false)), (.p (.len 61 (.t 60)))),
     ((some (55, false)), (.v (.bin 62 .gtr false (.t 61) (.c (.int .i64 66))))),
     (none, (.v (.pick 63 (.t 55) (.c (.bool true)) (.t 62)))),
     (none, (.v (.mov 64 (.t 63)))),
     ((some (64, false)), (.v (.mov 65 (.t 0)))),
     ((some (64, false)), (.v (.mov 66 (.t 3)))),
     ((some (64, false)), (.p (.idx 67 6 (.t 65) (.t 66)))),
     ((some (64, false)), (.v (.fld 68 5 (.t 67)))),
     ((some (64, false)), (.v (.load 69 false 1 (.t 68)))),
     ((some (64, false)), (.p (.len 70 (.t 69)))),
     ((some (64, false)), (.v (.bin 71 .gtr false (.t 70) (.c (.int .i64 66))))),
     (none, (.v (.pick 72 (.t 64) (.c (.bool true)) (.t 71))))])
    (.cond 72
     (.seq (.ops [(none, (.v (.mov 2 (.c (.bool false)))))])
     .ret)
     .skip)))
   (.ops [(none, (.v (.mov 19 (.t 3)))),
    (none, (.v (.bin 20 .add false (.t 19) (.c (.int .i64 1))))),
    (none, (.v (.mov 3 (.t 20))))]))))))
 (.seq (.ops [(none, (.v (.mov 2 (.c (.bool true)))))])
 .ret))))
theorem ok17 : FnOk E 17 73 [.tmp 2] mc17 := .of func17 (by kernel_rfl) (by kernel_rfl) (by kernel_rfl) (by kernel_rfl) (by kernel_rfl)
/-- alum/conflict.Check -/
def mc18 : MC :=
 (.seq (.ops [(none, (.v (.mov 2 (.c (.int .i64 0)))))])
 (.seq (.seq (.ops [(none, (.v (.mov 13 (.t 0)))),
  (none, (.p (.len 14 (.t 13)))),
  (none, (.v (.bin 15 .gtr false (.t 14) (.c (.int .i64 100)))))])
 (.cond 15
  (.seq (.ops [(none, (.v (.mov 2 (.c (.int .i64 2)))))])
  .ret)
  .skip))
 (.seq (.seq (.ops [(none, (.v (.mov 16 (.t 0)))),
  (none, (.p (.len 17 (.t 16)))),
  (none, (.v (.mov 18 (.c (.int .i64 0)))))])
 (.block 0 (.loop (.seq (.ops [(none, (.v (.bin 19 .lss false (.t 18) (.t 17))))])
   (.seq (.cond 19
    .skip
    (.exit 0))
   (.seq (.block 1 (.seq (.ops [(none, (.p (.idx 20 6 (.t 16) (.t 18)))),
     (none, (.v (.load 21 true 6 (.t 20)))),
     (none, (.e (.alloc 4 [(.int .i64 0), (.int .i64 0), (.bool false), (.int .i64 0), (.raw (.slice none 0 0)), (.raw (.slice none 0 0))]))),
     (none, (.e (.store 6 true (.t 4) (.t 21))))])
    (.seq (.ops [(none, (.v (.fld 22 4 (.t 4)))),
     (none, (.v (.load 23 false 1 (.t 22)))),
     (none, (.p (.len 24 (.t 23)))),
     (none, (.v (.fld 25 5 (.t 4)))),
     (none, (.v (.load 26 false 1 (.t 25)))),
     (none, (.p (.len 27 (.t 26)))),
     (none, (.v (.max 28 [(.t 24), (.t 27)]))),
     (none, (.v (.bin 29 .gtr false (.t 28) (.c (.int .i64 64)))))])
    (.cond 29
     (.seq (.ops [(none, (.v (.mov 2 (.c (.int .i64 2)))))])
     .ret)
     .skip))))
   (.ops [(none, (.v (.bin 30 .add false (.t 18) (.c (.int .i64 1))))),
    (none, (.v (.mov 18 (.t 30))))])))))))
 (.seq (.ops [(none, (.e (.mkmap 31))),
  (none, (.v (.mov 5 (.t 31))))])
 (.seq (.seq (.ops [(none, (.v (.mov 32 (.t 0)))),
  (none, (.p (.len 33 (.t 32)))),
  (none, (.v (.mov 34 (.c (.int .i64 0)))))])
 (.block 2 (.loop (.seq (.ops [(none, (.v (.bin 35 .lss false (.t 34) (.t 33))))])
   (.seq (.cond 35
    .skip
    (.exit 2))
   (.seq (.block 3 (.seq (.ops [(none, (.p (.idx 36 6 (.t 32) (.t 34)))),
     (none, (.v (.load 37 true 6 (.t 36)))),
     (none, (.e (.alloc 7 [(.int .i64 0), (.int .i64 0), (.bool false), (.int .i64 0), (.raw (.slice none 0 0)), (.raw (.slice none 0 0))]))),
     (none, (.e (.store 6 true (.t 7) (.t 37))))])
    (.seq (.seq (.ops [(none, (.v (.load 38 true 6 (.t 7)))),
     (none, (.e (.call (some 39) 43 [(.t 38)]))),
     (none, (.v (.not 40 (.t 39)))),
     (none, (.v (.mov 41 (.t 40)))),
     ((some (41, false)), (.v (.mov 42 (.t 5)))),
     ((some (41, false)), (.v (.fld 43 3 (.t 7)))),
     ((some (41, false)), (.v (.load 44 false 1 (.t 43)))),
     ((some (41, false)), (.p (.look 45 false (.int .i64) (.bool false) (.t 42) (.t 44)))),
     (none, (.v (.pick 46 (.t 41) (.c (.bool true)) (.t 45))))])
    (.cond 46
     (.seq (.ops [(none, (.v (.mov 2 (.c (.int .i64 1)))))])
     .ret)
     .skip))
    (.seq (.ops [(none, (.v (.fld 47 3 (.t 7)))),
     (none, (.v (.load 48 false 1 (.t 47)))),
     (none, (.v (.bin 49 .gtr false (.t 48) (.c (.int .i64 0)))))])
    (.cond 49
     (.ops [(none, (.v (.mov 50 (.t 5)))),
      (none, (.v (.fld 51 3 (.t 7)))),
      (none, (.v (.load 52 false 1 (.t 51)))),
      (none, (.e (.mput (.int .i64) (.t 50) (.t 52) (.c (.bool true)))))])
     .skip)))))
   (.ops [(none, (.v (.bin 53 .add false (.t 34) (.c (.int .i64 1))))),
    (none, (.v (.mov 34 (.t 53))))])))))))
 (.seq (.seq (.ops [(none, (.v (.mov 54 (.t 0)))),
  (none, (.p (.len 55 (.t 54)))),
  (none, (.v (.mov 56 (.c (.int .i64 0)))))])
 (.block 4 (.loop (.seq (.ops [(none, (.v (.bin 57 .lss false (.t 56) (.t 55))))])
   (.seq (.cond 57
    .skip
    (.exit 4))
   (.seq (.block 5 (.seq (.ops [(none, (.v (.mov 58 (.t 56)))),
     (none, (.p (.idx 59 6 (.t 54) (.t 56)))),
     (none, (.v (.load 60 true 6 (.t 59)))),
     (none, (.e (.alloc 9 [(.int .i64 0), (.int .i64 0), (.bool false), (.int .i64 0), (.raw (.slice none 0 0)), (.raw (.slice none 0 0))]))),
     (none, (.v (.mov 8 (.t 58)))),
     (none, (.e (.store 6 true (.t 9) (.t 60))))])
    (.seq (.ops [(none, (.v (.fld 61 5 (.t 9)))),
     (none, (.v (.load 62 false 1 (.t 61)))),
     (none, (.e (.call (some 63) 44 [(.t 62)]))),
     (none, (.v (.mov 10 (.t 63))))])
    (.seq (.ops [(none, (.v (.mov 64 (.t 0)))),
     (none, (.v (.mov 65 (.t 8)))),
     (none, (.p (.pre 66 6 (.t 64) (some (.t 65))))),
     (none, (.p (.len 67 (.t 66)))),
     (none, (.v (.mov 68 (.c (.int .i64 0)))))])
    (.block 6 (.loop (.seq (.ops [(none, (.v (.bin 69 .lss false (.t 68) (.t 67))))])
      (.seq (.cond 69
       .skip
       (.exit 6))
      (.seq (.block 7 (.seq (.ops [(none, (.p (.idx 70 6 (.t 66) (.t 68)))),
        (none, (.v (.load 71 true 6 (.t 70)))),
        (none, (.e (.alloc 12 [(.int .i64 0), (.int .i64 0), (.bool false), (.int .i64 0), (.raw (.slice none 0 0)), (.raw (.slice none 0 0))]))),
        (none, (.e (.store 6 true (.t 12) (.t 71))))])
       (.seq (.ops [(none, (.v (.load 72 true 6 (.t 9)))),
        (none, (.e (.call (some 73) 45 [(.t 72)]))),
        (none, (.v (.mov 74 (.t 73)))),
        ((some (74, true)), (.v (.load 75 true 6 (.t 12)))),
        ((some (74, true)), (.e (.call (some 76) 45 [(.t 75)]))),
        (none, (.v (.pick 77 (.t 74) (.t 76) (.c (.bool false))))),
        (none, (.v (.mov 78 (.t 77)))),
        ((some (78, true)), (.v (.load 79 true 6 (.t 9)))),
        ((some (78, true)), (.v (.load 80 true 6 (.t 12)))),
        ((some (78, true)), (.e (.call (some 81) 46 [(.t 79), (.t 80)]))),
        (none, (.v (.pick 82 (.t 78) (.t 81) (.c (.bool false))))),
        (none, (.v (.mov 83 (.t 82)))),
        ((some (83, true)), (.v (.mov 84 (.t 10)))),
        ((some (83, true)), (.v (.fld 85 5 (.t 12)))),
        ((some (83, true)), (.v (.load 86 false 1 (.t 85)))),
        ((some (83, true)), (.e (.call (some 87) 47 [(.t 84), (.t 86)]))),
        (none, (.v (.pick 88 (.t 83) (.t 87) (.c (.bool false)))))])
       (.cond 88
        (.seq (.ops [(none, (.v (.mov 2 (.c (.int .i64 3)))))])
        .ret)
        .skip))))
      (.ops [(none, (.v (.bin 89 .add false (.t 68) (.c (.int .i64 1))))),
       (none, (.v (.mov 68 (.t 89))))]))))))))))
   (.ops [(none, (.v (.bin 90 .add false (.t 56) (.c (.int .i64 1))))),
    (none, (.v (.mov 56 (.t 90))))])))))))
 (.seq (.ops [(none, (.v (.mov 2 (.c (.int .i64 0)))))])
 .ret)))))))
theorem ok18 : FnOk E 18 91 [.tmp 2] mc18 := .of func18 (by kernel_rfl) (by kernel_rfl) (by kernel_rfl) (by kernel_rfl) (by kernel_rfl)
/-- alum/alumref26.Check -/
def mc19 : MC :=
 (.seq (.ops [(none, (.v (.mov 2 (.c (.int .i64 0)))))])
 (.seq (.seq (.ops [(none, (.v (.mov 10 (.t 0)))),
  (none, (.p (.len 11 (.t 10)))),
  (none, (.v (.bin 12 .gtr false (.t 11) (.c (.int .i64 100)))))])
 (.cond 12
  (.seq (.ops [(none, (.v (.mov 2 (.c (.int .i64 2)))))])
  .ret)
  .skip))
 (.seq (.seq (.ops [(none, (.v (.mov 3 (.c (.int .i64 0)))))])
 (.block 0 (.loop (.seq (.seq (.ops [(none, (.v (.mov 13 (.t 3)))),
    (none, (.v (.mov 14 (.t 0)))),
    (none, (.p (.len 15 (.t 14)))),
    (none, (.v (.bin 16 .lss false (.t 13) (.t 15))))])
   (.cond 16
    .skip
    (.exit 0)))
   (.seq (.block 1 (.seq (.ops [(none, (.v (.mov 19 (.t 0)))),
     (none, (.v (.mov 20 (.t 3)))),
     (none, (.p (.idx 21 6 (.t 19) (.t 20)))),
     (none, (.v (.fld 22 4 (.t 21)))),
     (none, (.v (.load 23 false 1 (.t 22)))),
     (none, (.p (.len 24 (.t 23)))),
     (none, (.v (.bin 25 .gtr false (.t 24) (.c (.int .i64 64))))),
     (none, (.v (.mov 26 (.t 25)))),
     ((some (26, false)), (.v (.mov 27 (.t 0)))),
     ((some (26, false)), (.v (.mov 28 (.t 3)))),
     ((some (26, false)), (.p (.idx 29 6 (.t 27) (.t 28)))),
     ((some (26, false)), (.v (.fld 30 5 (.t 29)))),
     ((some (26, false)), (.v (.load 31 false 1 (.t 30)))),
     ((some (26, false)), (.p (.len 32 (.t 31)))),
     ((some (26, false)), (.v (.bin 33 .gtr false (.t 32) (.c (.int .i64 64))))),
     (none, (.v (.pick 34 (.t 26) (.c (.bool true)) (.t 33))))])
    (.cond 34
     (.seq (.ops [(none, (.v (.mov 2 (.c (.int .i64 2)))))])
     .ret)
     .skip)))
   (.ops [(none, (.v (.mov 17 (.t 3)))),
    (none, (.v (.bin 18 .add false (.t 17) (.c (.int .i64 1))))),
    (none, (.v (.mov 3 (.t 18))))]))))))
 (.seq (.seq (.ops [(none, (.v (.mov 4 (.c (.int .i64 0)))))])
 (.block 2 (.loop (.seq (.seq (.ops [(none, (.v (.mov 35 (.t 4)))),
    (none, (.v (.mov 36 (.t 0)))),
    (none, (.p (.len 37 (.t 36)))),
    (none, (.v (.bin 38 .lss false (.t 35) (.t 37))))])
   (.cond 38
    .skip
    (.exit 2)))
   (.seq (.block 3 (.seq (.ops [(none, (.v (.mov 41 (.t 0)))),
     (none, (.v (.mov 42 (.t 4)))),
     (none, (.p (.idx 43 6 (.t 41) (.t 42)))),
     (none, (.v (.load 44 true 6 (.t 43)))),
     (none, (.e (.call (some 45) 48 [(.t 44)]))),
     (none, (.v (.mov 5 (.t 45))))])
    (.seq (.seq (.ops [(none, (.v (.mov 46 (.t 5)))),
     (none, (.v (.not 47 (.t 46))))])
    (.cond 47
     (.seq (.ops [(none, (.v (.mov 2 (.c (.int .i64 1)))))])
     .ret)
     .skip))
    (.seq (.ops [(none, (.v (.mov 6 (.c (.int .i64 0)))))])
    (.block 4 (.loop (.seq (.seq (.ops [(none, (.v (.mov 48 (.t 6)))),
       (none, (.v (.mov 49 (.t 4)))),
       (none, (.v (.bin 50 .lss false (.t 48) (.t 49))))])
      (.cond 50
       .skip
       (.exit 4)))
      (.seq (.block 5 (.seq (.any false (.pure0 none (.v (.mov 53 (.t 0)))
        (.pure0 none (.v (.mov 54 (.t 4)))
        (.pure0 none (.p (.idx 55 6 (.t 53) (.t 54)))
        (.pure0 none (.v (.fld 56 3 (.t 55)))
        (.pure0 none (.v (.load 57 false 1 (.t 56)))
        (.pure0 none (.v (.bin 58 .neq false (.t 57) (.c (.int .i64 0))))
        (.pure0 none (.v (.mov 59 (.t 58)))
        (.pure0 (some (59, true)) (.v (.mov 60 (.t 0)))
        (.pure0 (some (59, true)) (.v (.mov 61 (.t 4)))
        (.pure0 (some (59, true)) (.p (.idx 62 6 (.t 60) (.t 61)))
        (.pure0 (some (59, true)) (.v (.fld 63 3 (.t 62)))
        (.pure0 (some (59, true)) (.v (.load 64 false 1 (.t 63)))
        (.pure0 (some (59, true)) (.v (.mov 65 (.t 0)))
        (.pure0 (some (59, true)) (.v (.mov 66 (.t 6)))
        (.pure0 (some (59, true)) (.p (.idx 67 6 (.t 65) (.t 66)))
        (.pure0 (some (59, true)) (.v (.fld 68 3 (.t 67)))
        (.pure0 (some (59, true)) (.v (.load 69 false 1 (.t 68)))
        (.pure0 (some (59, true)) (.v (.bin 70 .eql false (.t 64) (.t 69)))
        (.pure0 none (.v (.pick 71 (.t 59) (.t 70) (.c (.bool false))))
        .done))))))))))))))))))))
       (.cond 71
        (.seq (.ops [(none, (.v (.mov 2 (.c (.int .i64 1)))))])
        .ret)
        .skip)))
      (.ops [(none, (.v (.mov 51 (.t 6)))),
       (none, (.v (.bin 52 .add false (.t 51) (.c (.int .i64 1))))),
       (none, (.v (.mov 6 (.t 52))))])))))))))
   (.ops [(none, (.v (.mov 39 (.t 4)))),
    (none, (.v (.bin 40 .add false (.t 39) (.c (.int .i64 1))))),
    (none, (.v (.mov 4 (.t 40))))]))))))
 (.seq (.seq (.ops [(none, (.v (.mov 7 (.c (.int .i64 0)))))])
 (.block 6 (.loop (.seq (.seq (.ops [(none, (.v (.mov 72 (.t 7)))),
    (none, (.v (.mov 73 (.t 0)))),
    (none, (.p (.len 74 (.t 73)))),
    (none, (.v (.bin 75 .lss false (.t 72) (.t 74))))])
   (.cond 75
    .skip
    (.exit 6)))
   (.seq (.block 7 (.seq (.ops [(none, (.v (.mov 8 (.c (.int .i64 0)))))])
    (.block 8 (.loop (.seq (.seq (.ops [(none, (.v (.mov 78 (.t 8)))),
       (none, (.v (.mov 79 (.t 7)))),
       (none, (.v (.bin 80 .lss false (.t 78) (.t 79))))])
      (.cond 80
       .skip
       (.exit 8)))
      (.seq (.block 9 (.seq (.any false (.pure0 none (.v (.mov 83 (.t 0)))
        (.pure0 none (.v (.mov 84 (.t 7)))
        (.pure0 none (.p (.idx 85 6 (.t 83) (.t 84)))
        (.pure0 none (.v (.fld 86 2 (.t 85)))
        (.pure0 none (.v (.load 87 false 1 (.t 86)))
        (.pure0 none (.v (.mov 88 (.t 87)))
        (.pure0 (some (88, true)) (.v (.mov 89 (.t 0)))
        (.pure0 (some (88, true)) (.v (.mov 90 (.t 8)))
        (.pure0 (some (88, true)) (.p (.idx 91 6 (.t 89) (.t 90)))
        (.pure0 (some (88, true)) (.v (.fld 92 2 (.t 91)))
        (.pure0 (some (88, true)) (.v (.load 93 false 1 (.t 92)))
        (.pure0 none (.v (.pick 94 (.t 88) (.t 93) (.c (.bool false))))
        (.pure0 none (.v (.mov 95 (.t 94)))
        (.pure0 (some (95, true)) (.v (.mov 96 (.t 0)))
        (.pure0 (some (95, true)) (.v (.mov 97 (.t 7)))
        (.pure0 (some (95, true)) (.p (.idx 98 6 (.t 96) (.t 97)))
        (.pure0 (some (95, true)) (.v (.fld 99 5 (.t 98)))
        (.pure0 (some (95, true)) (.v (.load 100 false 1 (.t 99)))
        (.pure0 (some (95, true)) (.v (.mov 101 (.t 0)))
        (.pure0 (some (95, true)) (.v (.mov 102 (.t 8)))
        (.pure0 (some (95, true)) (.p (.idx 103 6 (.t 101) (.t 102)))
        (.pure0 (some (95, true)) (.v (.fld 104 5 (.t 103)))
        (.pure0 (some (95, true)) (.v (.load 105 false 1 (.t 104)))
        (.alt (some (95, true)) (.e (.call (some 106) 49 [(.t 100), (.t 105)]))
         (.base (.pure0 none (.v (.pick 107 (.t 95) (.t 106) (.c (.bool false))))
         (.pure0 none (.v (.mov 9 (.t 107)))
         .done)))
         .stop)))))))))))))))))))))))))
       (.seq (.any false (.pure0 none (.v (.mov 108 (.t 9)))
        (.pure0 none (.v (.mov 109 (.t 108)))
        (.pure0 (some (109, true)) (.v (.mov 110 (.t 0)))
        (.pure0 (some (109, true)) (.v (.mov 111 (.t 7)))
        (.pure0 (some (109, true)) (.p (.idx 112 6 (.t 110) (.t 111)))
        (.pure0 (some (109, true)) (.v (.fld 113 1 (.t 112)))
        (.pure0 (some (109, true)) (.v (.load 114 false 1 (.t 113)))
        (.pure0 (some (109, true)) (.v (.mov 115 (.t 0)))
        (.pure0 (some (109, true)) (.v (.mov 116 (.t 8)))
        (.pure0 (some (109, true)) (.p (.idx 117 6 (.t 115) (.t 116)))
        (.pure0 (some (109, true)) (.v (.fld 118 3 (.t 117)))
        (.pure0 (some (109, true)) (.v (.load 119 false 1 (.t 118)))
        (.pure0 (some (109, true)) (.v (.bin 120 .lss false (.t 114) (.t 119)))
        (.pure0 none (.v (.pick 121 (.t 109) (.t 120) (.c (.bool false))))
        (.pure0 none (.v (.mov 122 (.t 121)))
        (.pure0 (some (122, true)) (.v (.mov 123 (.t 0)))
        (.pure0 (some (122, true)) (.v (.mov 124 (.t 8)))
        (.pure0 (some (122, true)) (.p (.idx 125 6 (.t 123) (.t 124)))
        (.pure0 (some (122, true)) (.v (.fld 126 1 (.t 125)))
        (.pure0 (some (122, true)) (.v (.load 127 false 1 (.t 126)))
        (.pure0 (some (122, true)) (.v (.mov 128 (.t 0)))
        (.pure0 (some (122, true)) (.v (.mov 129 (.t 7)))
        (.pure0 (some (122, true)) (.p (.idx 130 6 (.t 128) (.t 129)))
        (.pure0 (some (122, true)) (.v (.fld 131 3 (.t 130)))
        (.pure0 (some (122, true)) (.v (.load 132 false 1 (.t 131)))
        (.pure0 (some (122, true)) (.v (.bin 133 .lss false (.t 127) (.t 132)))
        (.pure0 none (.v (.pick 134 (.t 122) (.t 133) (.c (.bool false))))
        .done))))))))))))))))))))))))))))
       (.cond 134
        (.seq (.ops [(none, (.v (.mov 2 (.c (.int .i64 3)))))])
        .ret)
        .skip))))
      (.ops [(none, (.v (.mov 81 (.t 8)))),
       (none, (.v (.bin 82 .add false (.t 81) (.c (.int .i64 1))))),
       (none, (.v (.mov 8 (.t 82))))])))))))
   (.ops [(none, (.v (.mov 76 (.t 7)))),
    (none, (.v (.bin 77 .add false (.t 76) (.c (.int .i64 1))))),
    (none, (.v (.mov 7 (.t 77))))]))))))
 (.seq (.ops [(none, (.v (.mov 2 (.c (.int .i64 0)))))])
 .ret))))))
theorem ok19 : FnOk E 19 135 [.tmp 2] mc19 := .of func19 (by kernel_rfl) (by kernel_rfl) (by kernel_rfl) (by kernel_rfl) (by kernel_rfl)
/-- alum/alumlaw26.same -/
def mc20 : MC :=
 (.seq (.ops [(none, (.v (.mov 4 (.c (.bool false)))))])
 (.seq (.seq (.ops [(none, (.v (.mov 6 (.t 0)))),
  (none, (.p (.len 7 (.t 6)))),
  (none, (.v (.mov 8 (.t 1)))),
  (none, (.p (.len 9 (.t 8)))),
  (none, (.v (.bin 10 .neq false (.t 7) (.t 9))))])
 (.cond 10
  (.seq (.ops [(none, (.v (.mov 4 (.c (.bool false)))))])
  .ret)
  .skip))
 (.seq (.seq (.ops [(none, (.v (.mov 5 (.c (.int .i64 0)))))])
 (.block 0 (.loop (.seq (.seq (.ops [(none, (.v (.mov 11 (.t 5)))),
    (none, (.v (.mov 12 (.t 0)))),
    (none, (.p (.len 13 (.t 12)))),
    (none, (.v (.bin 14 .lss false (.t 11) (.t 13))))])
   (.cond 14
    .skip
    (.exit 0)))
   (.seq (.block 1 (.seq (.any false (.pure0 none (.v (.mov 17 (.t 0)))
     (.pure0 none (.v (.mov 18 (.t 5)))
     (.pure0 none (.p (.idx 19 2 (.t 17) (.t 18)))
     (.pure0 none (.v (.load 20 true 2 (.t 19)))
     (.pure0 none (.v (.mov 21 (.t 1)))
     (.pure0 none (.v (.mov 22 (.t 5)))
     (.pure0 none (.p (.idx 23 2 (.t 21) (.t 22)))
     (.pure0 none (.v (.load 24 true 2 (.t 23)))
     (.pure0 none (.v (.eq 25 true (.agg [(0, false, 1, .int), (1, false, 1, .int)]) (.t 20) (.t 24)))
     .done))))))))))
    (.cond 25
     (.seq (.ops [(none, (.v (.mov 4 (.c (.bool false)))))])
     .ret)
     .skip)))
   (.ops [(none, (.v (.mov 15 (.t 5)))),
    (none, (.v (.bin 16 .add false (.t 15) (.c (.int .i64 1))))),
    (none, (.v (.mov 5 (.t 16))))]))))))
 (.seq (.ops [(none, (.v (.mov 4 (.c (.bool true)))))])
 .ret))))
theorem ok20 : FnOk E 20 26 [.tmp 4] mc20 := .of func20 (by kernel_rfl) (by kernel_rfl) (by kernel_rfl) (by kernel_rfl) (by kernel_rfl)
/-- alum/conflict.Anti -/
def mc21 : MC :=
 (.seq (.ops [(none, (.v (.mov 2 (.c (.raw (.slice none 0 0))))))])
 (.seq (.ops [(none, (.v (.mov 3 (.t 0)))),
  (none, (.e (.call (some 4) 50 [(.t 3)]))),
  (none, (.e (.call (some 5) 51 [(.t 4), (.c (.int .i64 2))]))),
  (none, (.v (.mov 2 (.t 5))))])
 .ret))
theorem ok21 : FnOk E 21 6 [.tmp 2] mc21 := .of func21 (by kernel_rfl) (by kernel_rfl) (by kernel_rfl) (by kernel_rfl) (by kernel_rfl)
/-- alum/alumref26.Anti -/
def mc22 : MC :=
 (.seq (.ops [(none, (.v (.mov 2 (.c (.raw (.slice none 0 0))))))])
 (.seq (.ops [(none, (.v (.mov 3 (.c (.raw (.slice none 0 0))))))])
 (.seq (.seq (.ops [(none, (.v (.mov 7 (.t 0)))),
  (none, (.e (.call (some 8) 19 [(.t 7)]))),
  (none, (.v (.bin 9 .neq false (.t 8) (.c (.int .i64 0)))))])
 (.cond 9
  (.seq (.ops [(none, (.v (.mov 10 (.t 3)))),
   (none, (.v (.mov 2 (.t 10))))])
  .ret)
  .skip))
 (.seq (.seq (.ops [(none, (.v (.mov 4 (.c (.int .i64 0)))))])
 (.block 0 (.loop (.seq (.seq (.ops [(none, (.v (.mov 11 (.t 4)))),
    (none, (.v (.mov 12 (.t 0)))),
    (none, (.p (.len 13 (.t 12)))),
    (none, (.v (.bin 14 .lss false (.t 11) (.t 13))))])
   (.cond 14
    .skip
    (.exit 0)))
   (.seq (.block 1 (.seq (.ops [(none, (.v (.mov 5 (.c (.int .i64 0)))))])
    (.block 2 (.loop (.seq (.seq (.ops [(none, (.v (.mov 17 (.t 5)))),
       (none, (.v (.mov 18 (.t 0)))),
       (none, (.p (.len 19 (.t 18)))),
       (none, (.v (.bin 20 .lss false (.t 17) (.t 19))))])
      (.cond 20
       .skip
       (.exit 2)))
      (.seq (.block 3 (.seq (.ops [(none, (.v (.mov 23 (.t 0)))),
        (none, (.v (.mov 24 (.t 4)))),
        (none, (.v (.mov 25 (.t 5)))),
        (none, (.e (.call (some 26) 52 [(.t 23), (.t 24), (.t 25)]))),
        (none, (.v (.mov 6 (.t 26))))])
       (.seq (.ops [(none, (.v (.mov 27 (.t 6))))])
       (.cond 27
        (.ops [(none, (.v (.mov 28 (.t 3)))),
         (none, (.v (.mov 29 (.t 4)))),
         (none, (.v (.mov 30 (.t 5)))),
         (none, (.v (.build 31 [(.int .i64 0), (.int .i64 0)] [(0, 1, (.t 29)), (1, 1, (.t 30))]))),
         (none, (.e (.mkl 32 45 2 1 (.agg [(.int .i64 0), (.int .i64 0)]) [(0, (.t 31))]))),
         (none, (.e (.app 33 45 2 16 (.t 28) (.t 32)))),
         (none, (.v (.mov 3 (.t 33))))])
        .skip))))
      (.ops [(none, (.v (.mov 21 (.t 5)))),
       (none, (.v (.bin 22 .add false (.t 21) (.c (.int .i64 1))))),
       (none, (.v (.mov 5 (.t 22))))])))))))
   (.ops [(none, (.v (.mov 15 (.t 4)))),
    (none, (.v (.bin 16 .add false (.t 15) (.c (.int .i64 1))))),
    (none, (.v (.mov 4 (.t 16))))]))))))
 (.seq (.ops [(none, (.v (.mov 34 (.t 3)))),
  (none, (.v (.mov 2 (.t 34))))])
 .ret)))))
theorem ok22 : FnOk E 22 35 [.tmp 2] mc22 := .of func22 (by kernel_rfl) (by kernel_rfl) (by kernel_rfl) (by kernel_rfl) (by kernel_rfl)
/-- alum/conflict.Depends -/
def mc23 : MC :=
 (.seq (.ops [(none, (.v (.mov 2 (.c (.raw (.slice none 0 0))))))])
 (.seq (.ops [(none, (.v (.mov 3 (.t 0)))),
  (none, (.e (.call (some 4) 50 [(.t 3)]))),
  (none, (.e (.call (some 5) 51 [(.t 4), (.c (.int .i64 3))]))),
  (none, (.v (.mov 2 (.t 5))))])
 .ret))
theorem ok23 : FnOk E 23 6 [.tmp 2] mc23 := .of func23 (by kernel_rfl) (by kernel_rfl) (by kernel_rfl) (by kernel_rfl) (by kernel_rfl)
/-- alum/alumref26.Depends -/
def mc24 : MC :=
 (.seq (.ops [(none, (.v (.mov 2 (.c (.raw (.slice none 0 0))))))])
 (.seq (.ops [(none, (.v (.mov 3 (.c (.raw (.slice none 0 0))))))])
 (.seq (.seq (.ops [(none, (.v (.mov 7 (.t 0)))),
  (none, (.e (.call (some 8) 19 [(.t 7)]))),
  (none, (.v (.bin 9 .neq false (.t 8) (.c (.int .i64 0)))))])
 (.cond 9
  (.seq (.ops [(none, (.v (.mov 10 (.t 3)))),
   (none, (.v (.mov 2 (.t 10))))])
  .ret)
  .skip))
 (.seq (.seq (.ops [(none, (.v (.mov 4 (.c (.int .i64 0)))))])
 (.block 0 (.loop (.seq (.seq (.ops [(none, (.v (.mov 11 (.t 4)))),
    (none, (.v (.mov 12 (.t 0)))),
    (none, (.p (.len 13 (.t 12)))),
    (none, (.v (.bin 14 .lss false (.t 11) (.t 13))))])
   (.cond 14
    .skip
    (.exit 0)))
   (.seq (.block 1 (.seq (.ops [(none, (.v (.mov 5 (.c (.int .i64 0)))))])
    (.block 2 (.loop (.seq (.seq (.ops [(none, (.v (.mov 17 (.t 5)))),
       (none, (.v (.mov 18 (.t 0)))),
       (none, (.p (.len 19 (.t 18)))),
       (none, (.v (.bin 20 .lss false (.t 17) (.t 19))))])
      (.cond 20
       .skip
       (.exit 2)))
      (.seq (.block 3 (.seq (.ops [(none, (.v (.mov 23 (.t 0)))),
        (none, (.v (.mov 24 (.t 4)))),
        (none, (.v (.mov 25 (.t 5)))),
        (none, (.e (.call (some 26) 53 [(.t 23), (.t 24), (.t 25)]))),
        (none, (.v (.mov 6 (.t 26))))])
       (.seq (.ops [(none, (.v (.mov 27 (.t 6))))])
       (.cond 27
        (.ops [(none, (.v (.mov 28 (.t 3)))),
         (none, (.v (.mov 29 (.t 4)))),
         (none, (.v (.mov 30 (.t 5)))),
         (none, (.v (.build 31 [(.int .i64 0), (.int .i64 0)] [(0, 1, (.t 29)), (1, 1, (.t 30))]))),
         (none, (.e (.mkl 32 45 2 1 (.agg [(.int .i64 0), (.int .i64 0)]) [(0, (.t 31))]))),
         (none, (.e (.app 33 45 2 16 (.t 28) (.t 32)))),
         (none, (.v (.mov 3 (.t 33))))])
        .skip))))
      (.ops [(none, (.v (.mov 21 (.t 5)))),
       (none, (.v (.bin 22 .add false (.t 21) (.c (.int .i64 1))))),
       (none, (.v (.mov 5 (.t 22))))])))))))
   (.ops [(none, (.v (.mov 15 (.t 4)))),
    (none, (.v (.bin 16 .add false (.t 15) (.c (.int .i64 1))))),
    (none, (.v (.mov 4 (.t 16))))]))))))
 (.seq (.ops [(none, (.v (.mov 34 (.t 3)))),
  (none, (.v (.mov 2 (.t 34))))])
 .ret)))))
theorem ok24 : FnOk E 24 35 [.tmp 2] mc24 := .of func24 (by kernel_rfl) (by kernel_rfl) (by kernel_rfl) (by kernel_rfl) (by kernel_rfl)
/-- alum/conflict.Dangerous -/
def mc25 : MC :=
 (.seq (.ops [(none, (.e (.alloc 2 [(.int .i64 0), (.int .i64 0), (.int .i64 0)]))),
  (none, (.v (.mov 3 (.c (.bool false)))))])
 (.seq (.ops [(none, (.v (.mov 5 (.t 0)))),
  (none, (.e (.call (some 6) 50 [(.t 5)]))),
  (none, (.v (.mov 4 (.t 6))))])
 (.seq (.seq (.ops [(none, (.v (.mov 7 (.t 4)))),
  (none, (.v (.eq 8 false .ptr (.t 7) (.c (.raw (.pointer none))))))])
 (.cond 8
  (.seq (.ops [(none, (.v (.build 9 [(.int .i64 0), (.int .i64 0), (.int .i64 0)] []))),
   (none, (.e (.store 3 true (.t 2) (.t 9)))),
   (none, (.v (.mov 3 (.c (.bool false)))))])
  .ret)
  .skip))
 (.seq (.ops [(none, (.v (.mov 10 (.t 4)))),
  (none, (.e (.call (some 11) 54 [(.t 10), (.c (.fn (.func 55) [] []))]))),
  (none, (.v (.ext 12 0 (.t 11)))),
  (none, (.v (.ext 13 1 (.t 11)))),
  (none, (.e (.store 3 true (.t 2) (.t 12)))),
  (none, (.v (.mov 3 (.t 13))))])
 .ret))))
theorem ok25 : FnOk E 25 14 [.cell 2 30, .tmp 3] mc25 := .of func25 (by kernel_rfl) (by kernel_rfl) (by kernel_rfl) (by kernel_rfl) (by kernel_rfl)
/-- alum/alumref26.Dangerous -/
def mc26 : MC :=
 (.seq (.ops [(none, (.e (.alloc 2 [(.int .i64 0), (.int .i64 0), (.int .i64 0)]))),
  (none, (.v (.mov 3 (.c (.bool false)))))])
 (.seq (.seq (.ops [(none, (.v (.mov 8 (.t 0)))),
  (none, (.e (.call (some 9) 19 [(.t 8)]))),
  (none, (.v (.bin 10 .neq false (.t 9) (.c (.int .i64 0)))))])
 (.cond 10
  (.seq (.ops [(none, (.v (.build 11 [(.int .i64 0), (.int .i64 0), (.int .i64 0)] []))),
   (none, (.e (.store 3 true (.t 2) (.t 11)))),
   (none, (.v (.mov 3 (.c (.bool false)))))])
  .ret)
  .skip))
 (.seq (.seq (.ops [(none, (.v (.mov 4 (.c (.int .i64 0)))))])
 (.block 0 (.loop (.seq (.seq (.ops [(none, (.v (.mov 12 (.t 4)))),
    (none, (.v (.mov 13 (.t 0)))),
    (none, (.p (.len 14 (.t 13)))),
    (none, (.v (.bin 15 .lss false (.t 12) (.t 14))))])
   (.cond 15
    .skip
    (.exit 0)))
   (.seq (.block 1 (.seq (.ops [(none, (.v (.mov 5 (.c (.int .i64 0)))))])
    (.block 2 (.loop (.seq (.seq (.ops [(none, (.v (.mov 18 (.t 5)))),
       (none, (.v (.mov 19 (.t 0)))),
       (none, (.p (.len 20 (.t 19)))),
       (none, (.v (.bin 21 .lss false (.t 18) (.t 20))))])
      (.cond 21
       .skip
       (.exit 2)))
      (.seq (.block 3 (.seq (.ops [(none, (.v (.mov 6 (.c (.int .i64 0)))))])
       (.block 4 (.loop (.seq (.seq (.ops [(none, (.v (.mov 24 (.t 6)))),
          (none, (.v (.mov 25 (.t 0)))),
          (none, (.p (.len 26 (.t 25)))),
          (none, (.v (.bin 27 .lss false (.t 24) (.t 26))))])
         (.cond 27
          .skip
          (.exit 4)))
         (.seq (.block 5 (.seq (.ops [(none, (.v (.mov 30 (.t 0)))),
           (none, (.v (.mov 31 (.t 4)))),
           (none, (.v (.mov 32 (.t 5)))),
           (none, (.v (.mov 33 (.t 6)))),
           (none, (.e (.call (some 34) 56 [(.t 30), (.t 31), (.t 32), (.t 33)]))),
           (none, (.v (.mov 7 (.t 34))))])
          (.seq (.ops [(none, (.v (.mov 35 (.t 7))))])
          (.cond 35
           (.seq (.ops [(none, (.v (.mov 36 (.t 4)))),
            (none, (.v (.mov 37 (.t 5)))),
            (none, (.v (.mov 38 (.t 6)))),
            (none, (.v (.build 39 [(.int .i64 0), (.int .i64 0), (.int .i64 0)] [(0, 1, (.t 36)), (1, 1, (.t 37)), (2, 1, (.t 38))]))),
            (none, (.e (.store 3 true (.t 2) (.t 39)))),
            (none, (.v (.mov 3 (.c (.bool true)))))])
           .ret)
           .skip))))
         (.ops [(none, (.v (.mov 28 (.t 6)))),
          (none, (.v (.bin 29 .add false (.t 28) (.c (.int .i64 1))))),
          (none, (.v (.mov 6 (.t 29))))])))))))
      (.ops [(none, (.v (.mov 22 (.t 5)))),
       (none, (.v (.bin 23 .add false (.t 22) (.c (.int .i64 1))))),
       (none, (.v (.mov 5 (.t 23))))])))))))
   (.ops [(none, (.v (.mov 16 (.t 4)))),
    (none, (.v (.bin 17 .add false (.t 16) (.c (.int .i64 1))))),
    (none, (.v (.mov 4 (.t 17))))]))))))
 (.seq (.ops [(none, (.v (.build 40 [(.int .i64 0), (.int .i64 0), (.int .i64 0)] []))),
  (none, (.e (.store 3 true (.t 2) (.t 40)))),
  (none, (.v (.mov 3 (.c (.bool false)))))])
 .ret))))
theorem ok26 : FnOk E 26 41 [.cell 2 30, .tmp 3] mc26 := .of func26 (by kernel_rfl) (by kernel_rfl) (by kernel_rfl) (by kernel_rfl) (by kernel_rfl)
/-- alum/conflict.Serial -/
def mc27 : MC :=
 (.seq (.ops [(none, (.v (.mov 2 (.c (.raw (.slice none 0 0)))))),
  (none, (.v (.mov 3 (.c (.bool false)))))])
 (.seq (.ops [(none, (.v (.mov 5 (.t 0)))),
  (none, (.e (.call (some 6) 50 [(.t 5)]))),
  (none, (.v (.mov 4 (.t 6))))])
 (.seq (.seq (.ops [(none, (.v (.mov 7 (.t 4)))),
  (none, (.v (.eq 8 false .ptr (.t 7) (.c (.raw (.pointer none))))))])
 (.cond 8
  (.seq (.ops [(none, (.v (.mov 2 (.c (.raw (.slice none 0 0)))))),
   (none, (.v (.mov 3 (.c (.bool false)))))])
  .ret)
  .skip))
 (.seq (.ops [(none, (.v (.mov 9 (.t 4)))),
  (none, (.e (.call (some 10) 57 [(.t 9)]))),
  (none, (.v (.ext 11 0 (.t 10)))),
  (none, (.v (.ext 12 1 (.t 10)))),
  (none, (.v (.mov 2 (.t 11)))),
  (none, (.v (.mov 3 (.t 12))))])
 .ret))))
theorem ok27 : FnOk E 27 13 [.tmp 2, .tmp 3] mc27 := .of func27 (by kernel_rfl) (by kernel_rfl) (by kernel_rfl) (by kernel_rfl) (by kernel_rfl)
/-- alum/alumref26.Serial -/
def mc28 : MC :=
 (.seq (.ops [(none, (.v (.mov 2 (.c (.raw (.slice none 0 0)))))),
  (none, (.v (.mov 3 (.c (.bool false)))))])
 (.seq (.seq (.ops [(none, (.v (.mov 8 (.t 0)))),
  (none, (.e (.call (some 9) 19 [(.t 8)]))),
  (none, (.v (.bin 10 .neq false (.t 9) (.c (.int .i64 0)))))])
 (.cond 10
  (.seq (.ops [(none, (.v (.mov 2 (.c (.raw (.slice none 0 0)))))),
   (none, (.v (.mov 3 (.c (.bool false)))))])
  .ret)
  .skip))
 (.seq (.ops [(none, (.v (.mov 4 (.c (.raw (.slice none 0 0))))))])
 (.seq (.ops [(none, (.v (.mov 11 (.t 0)))),
  (none, (.p (.len 12 (.t 11)))),
  (none, (.e (.mk 13 4 1 1 (.bool false) (.t 12) (.t 12)))),
  (none, (.v (.mov 5 (.t 13))))])
 (.seq (.ops [(none, (.v (.mov 14 (.t 0)))),
  (none, (.e (.call (some 15) 58 [(.t 14)]))),
  (none, (.v (.mov 6 (.t 15))))])
 (.seq (.block 0 (.loop (.seq (.seq (.ops [(none, (.v (.mov 16 (.t 4)))),
    (none, (.p (.len 17 (.t 16)))),
    (none, (.v (.mov 18 (.t 6)))),
    (none, (.v (.bin 19 .lss false (.t 17) (.t 18))))])
   (.cond 19
    .skip
    (.exit 0)))
   (.block 1 (.seq (.ops [(none, (.v (.mov 20 (.t 0)))),
     (none, (.v (.mov 21 (.t 5)))),
     (none, (.e (.call (some 22) 59 [(.t 20), (.t 21)]))),
     (none, (.v (.mov 7 (.t 22))))])
    (.seq (.seq (.ops [(none, (.v (.mov 23 (.t 7)))),
     (none, (.v (.bin 24 .lss false (.t 23) (.c (.int .i64 0)))))])
    (.cond 24
     (.seq (.ops [(none, (.v (.mov 2 (.c (.raw (.slice none 0 0)))))),
      (none, (.v (.mov 3 (.c (.bool false)))))])
     .ret)
     .skip))
    (.seq (.ops [(none, (.v (.mov 25 (.t 5)))),
     (none, (.v (.mov 26 (.t 7)))),
     (none, (.p (.idx 27 1 (.t 25) (.t 26)))),
     (none, (.e (.store 1 false (.t 27) (.c (.bool true)))))])
    (.ops [(none, (.v (.mov 28 (.t 4)))),
     (none, (.v (.mov 29 (.t 7)))),
     (none, (.e (.mkl 30 3 1 1 (.int .i64 0) [(0, (.t 29))]))),
     (none, (.e (.app 31 3 1 8 (.t 28) (.t 30)))),
     (none, (.v (.mov 4 (.t 31))))]))))))))
 (.seq (.ops [(none, (.v (.mov 32 (.t 4)))),
  (none, (.v (.mov 2 (.t 32)))),
  (none, (.v (.mov 3 (.c (.bool true)))))])
 .ret)))))))
theorem ok28 : FnOk E 28 33 [.tmp 2, .tmp 3] mc28 := .of func28 (by kernel_rfl) (by kernel_rfl) (by kernel_rfl) (by kernel_rfl) (by kernel_rfl)
/-- alum/alumlaw26.sameInts -/
def mc29 : MC :=
 (.seq (.ops [(none, (.v (.mov 4 (.c (.bool false)))))])
 (.seq (.seq (.ops [(none, (.v (.mov 6 (.t 0)))),
  (none, (.p (.len 7 (.t 6)))),
  (none, (.v (.mov 8 (.t 1)))),
  (none, (.p (.len 9 (.t 8)))),
  (none, (.v (.bin 10 .neq false (.t 7) (.t 9))))])
 (.cond 10
  (.seq (.ops [(none, (.v (.mov 4 (.c (.bool false)))))])
  .ret)
  .skip))
 (.seq (.seq (.ops [(none, (.v (.mov 5 (.c (.int .i64 0)))))])
 (.block 0 (.loop (.seq (.seq (.ops [(none, (.v (.mov 11 (.t 5)))),
    (none, (.v (.mov 12 (.t 0)))),
    (none, (.p (.len 13 (.t 12)))),
    (none, (.v (.bin 14 .lss false (.t 11) (.t 13))))])
   (.cond 14
    .skip
    (.exit 0)))
   (.seq (.block 1 (.seq (.any false (.pure0 none (.v (.mov 17 (.t 0)))
     (.pure0 none (.v (.mov 18 (.t 5)))
     (.pure0 none (.p (.idx 19 1 (.t 17) (.t 18)))
     (.pure0 none (.v (.load 20 false 1 (.t 19)))
     (.pure0 none (.v (.mov 21 (.t 1)))
     (.pure0 none (.v (.mov 22 (.t 5)))
     (.pure0 none (.p (.idx 23 1 (.t 21) (.t 22)))
     (.pure0 none (.v (.load 24 false 1 (.t 23)))
     (.pure0 none (.v (.bin 25 .neq false (.t 20) (.t 24)))
     .done))))))))))
    (.cond 25
     (.seq (.ops [(none, (.v (.mov 4 (.c (.bool false)))))])
     .ret)
     .skip)))
   (.ops [(none, (.v (.mov 15 (.t 5)))),
    (none, (.v (.bin 16 .add false (.t 15) (.c (.int .i64 1))))),
    (none, (.v (.mov 5 (.t 16))))]))))))
 (.seq (.ops [(none, (.v (.mov 4 (.c (.bool true)))))])
 .ret))))
theorem ok29 : FnOk E 29 26 [.tmp 4] mc29 := .of func29 (by kernel_rfl) (by kernel_rfl) (by kernel_rfl) (by kernel_rfl) (by kernel_rfl)
/-- alum/conflict.Cycle -/
def mc30 : MC :=
 (.seq (.ops [(none, (.v (.mov 2 (.c (.raw (.slice none 0 0))))))])
 (.seq (.ops [(none, (.v (.mov 12 (.t 0)))),
  (none, (.e (.call (some 13) 50 [(.t 12)]))),
  (none, (.v (.mov 3 (.t 13))))])
 (.seq (.seq (.ops [(none, (.v (.mov 14 (.t 3)))),
  (none, (.v (.eq 15 false .ptr (.t 14) (.c (.raw (.pointer none))))))])
 (.cond 15
  (.seq (.ops [(none, (.v (.mov 2 (.c (.raw (.slice none 0 0))))))])
  .ret)
  .skip))
 (.seq (.ops [(none, (.v (.mov 4 (.c (.raw (.slice none 0 0)))))),
  (none, (.v (.mov 5 (.c (.raw (.slice none 0 0))))))])
 (.seq (.ops [(none, (.v (.mov 6 (.c (.int .i64 0)))))])
 (.seq .skip
 (.seq (.seq (.ops [(none, (.v (.mov 16 (.t 0)))),
  (none, (.p (.len 17 (.t 16)))),
  (none, (.v (.mov 18 (.c (.int .i64 0)))))])
 (.block 0 (.loop (.seq (.ops [(none, (.v (.bin 19 .lss false (.t 18) (.t 17))))])
   (.seq (.cond 19
    .skip
    (.exit 0))
   (.seq (.block 1 (.seq (.ops [(none, (.v (.mov 20 (.t 18)))),
     (none, (.v (.mov 7 (.t 20))))])
    (.seq (.ops [(none, (.v (.mov 21 (.t 3)))),
     (none, (.v (.mov 22 (.t 7)))),
     (none, (.e (.call (some 23) 60 [(.t 21), (.t 22)]))),
     (none, (.v (.mov 8 (.t 23))))])
    (.seq (.ops [(none, (.v (.mov 24 (.t 8)))),
     (none, (.v (.mov 25 (.t 7)))),
     (none, (.p (.idx 26 1 (.t 24) (.t 25)))),
     (none, (.v (.load 27 false 1 (.t 26)))),
     (none, (.v (.mov 9 (.t 27))))])
    (.block 2 (.seq (.ops [(none, (.v (.mov 33 (.t 9)))),
      (none, (.v (.bin 34 .eql false (.t 33) (.c (.int .i64 0))))),
      (none, (.v (.mov 35 (.t 34)))),
      ((some (35, false)), (.v (.mov 36 (.t 6)))),
      ((some (35, false)), (.v (.bin 37 .gtr false (.t 36) (.c (.int .i64 0))))),
      ((some (35, false)), (.v (.mov 38 (.t 37)))),
      ((some (38, true)), (.v (.mov 39 (.t 9)))),
      ((some (38, true)), (.v (.mov 40 (.t 6)))),
      ((some (38, true)), (.v (.bin 41 .geq false (.t 39) (.t 40)))),
      ((some (35, false)), (.v (.pick 42 (.t 38) (.t 41) (.c (.bool false))))),
      (none, (.v (.pick 43 (.t 35) (.c (.bool true)) (.t 42)))),
      (none, (.v (.mov 32 (.t 43))))])
     (.cond 32
      (.exit 1)
      (.seq (.ops [(none, (.v (.mov 45 (.t 9)))),
       (none, (.v (.bin 46 .eql false (.t 45) (.c (.int .i64 2))))),
       (none, (.v (.mov 44 (.t 46))))])
      (.cond 44
       (.seq (.ops [(none, (.v (.mov 47 (.t 9)))),
        (none, (.v (.mov 48 (.t 7)))),
        (none, (.e (.mkl 49 3 1 1 (.int .i64 0) [(0, (.t 48))]))),
        (none, (.v (.mov 50 (.t 8)))),
        (none, (.v (.mov 6 (.t 47)))),
        (none, (.v (.mov 4 (.t 49)))),
        (none, (.v (.mov 5 (.t 50))))])
       (.exit 0))
       (.ops [(none, (.v (.mov 28 (.t 9)))),
        (none, (.v (.mov 29 (.t 7)))),
        (none, (.e (.mkl 30 3 1 1 (.int .i64 0) [(0, (.t 29))]))),
        (none, (.v (.mov 31 (.t 8)))),
        (none, (.v (.mov 6 (.t 28)))),
        (none, (.v (.mov 4 (.t 30)))),
        (none, (.v (.mov 5 (.t 31))))]))))))))))
   (.ops [(none, (.v (.bin 51 .add false (.t 18) (.c (.int .i64 1))))),
    (none, (.v (.mov 18 (.t 51))))])))))))
 (.seq (.block 3 (.loop (.seq (.seq (.ops [(none, (.v (.mov 52 (.t 4)))),
    (none, (.p (.len 53 (.t 52)))),
    (none, (.v (.mov 54 (.t 6)))),
    (none, (.v (.bin 55 .lss false (.t 53) (.t 54))))])
   (.cond 55
    .skip
    (.exit 3)))
   (.block 4 (.seq (.ops [(none, (.v (.mov 56 (.t 4)))),
     (none, (.v (.mov 57 (.t 4)))),
     (none, (.p (.len 58 (.t 57)))),
     (none, (.v (.bin 59 .sub false (.t 58) (.c (.int .i64 1))))),
     (none, (.p (.idx 60 1 (.t 56) (.t 59)))),
     (none, (.v (.load 61 false 1 (.t 60)))),
     (none, (.v (.mov 10 (.t 61))))])
    (.seq (.ops [(none, (.v (.mov 62 (.t 4)))),
     (none, (.p (.idx 63 1 (.t 62) (.c (.int .i64 0))))),
     (none, (.v (.load 64 false 1 (.t 63)))),
     (none, (.v (.bin 65 .add false (.t 64) (.c (.int .i64 1))))),
     (none, (.v (.mov 11 (.t 65))))])
    (.block 5 (.loop (.seq (.seq (.ops [(none, (.v (.mov 66 (.t 11)))),
       (none, (.v (.mov 67 (.t 0)))),
       (none, (.p (.len 68 (.t 67)))),
       (none, (.v (.bin 69 .lss false (.t 66) (.t 68))))])
      (.cond 69
       .skip
       (.exit 5)))
      (.seq (.block 6 (.seq (.ops [(none, (.v (.mov 72 (.t 3)))),
        (none, (.v (.nil 73 (.t 72)))),
        (none, (.v (.fld 74 1 (.t 73)))),
        (none, (.v (.load 75 false 1 (.t 74)))),
        (none, (.v (.mov 76 (.t 10)))),
        (none, (.p (.idx 77 1 (.t 75) (.t 76)))),
        (none, (.v (.load 78 false 1 (.t 77)))),
        (none, (.v (.mov 79 (.t 11)))),
        (none, (.p (.idx 80 1 (.t 78) (.t 79)))),
        (none, (.v (.load 81 false 1 (.t 80)))),
        (none, (.v (.bin 82 .neq false (.t 81) (.c (.int .i64 0))))),
        (none, (.v (.mov 83 (.t 82)))),
        ((some (83, true)), (.v (.mov 84 (.t 5)))),
        ((some (83, true)), (.v (.mov 85 (.t 11)))),
        ((some (83, true)), (.p (.idx 86 1 (.t 84) (.t 85)))),
        ((some (83, true)), (.v (.load 87 false 1 (.t 86)))),
        ((some (83, true)), (.v (.mov 88 (.t 6)))),
        ((some (83, true)), (.v (.mov 89 (.t 4)))),
        ((some (83, true)), (.p (.len 90 (.t 89)))),
        ((some (83, true)), (.v (.bin 91 .sub false (.t 88) (.t 90)))),
        ((some (83, true)), (.v (.bin 92 .eql false (.t 87) (.t 91)))),
        (none, (.v (.pick 93 (.t 83) (.t 92) (.c (.bool false)))))])
       (.cond 93
        (.seq (.ops [(none, (.v (.mov 94 (.t 4)))),
         (none, (.v (.mov 95 (.t 11)))),
         (none, (.e (.mkl 96 3 1 1 (.int .i64 0) [(0, (.t 95))]))),
         (none, (.e (.app 97 3 1 8 (.t 94) (.t 96)))),
         (none, (.v (.mov 4 (.t 97))))])
        (.exit 5))
        .skip)))
      (.ops [(none, (.v (.mov 70 (.t 11)))),
       (none, (.v (.bin 71 .add false (.t 70) (.c (.int .i64 1))))),
       (none, (.v (.mov 11 (.t 71))))])))))))))))
 (.seq (.ops [(none, (.v (.mov 98 (.t 4)))),
  (none, (.v (.mov 2 (.t 98))))])
 .ret)))))))))
theorem ok30 : FnOk E 30 99 [.tmp 2] mc30 := .of func30 (by kernel_rfl) (by kernel_rfl) (by kernel_rfl) (by kernel_rfl) (by kernel_rfl)
/-- alum/alumref26.Cycle -/
def mc31 : MC :=
 (.seq (.ops [(none, (.v (.mov 2 (.c (.raw (.slice none 0 0))))))])
 (.seq (.seq (.ops [(none, (.v (.mov 10 (.t 0)))),
  (none, (.e (.call (some 11) 19 [(.t 10)]))),
  (none, (.v (.bin 12 .neq false (.t 11) (.c (.int .i64 0)))))])
 (.cond 12
  (.seq (.ops [(none, (.v (.mov 2 (.c (.raw (.slice none 0 0))))))])
  .ret)
  .skip))
 (.seq (.ops [(none, (.v (.mov 3 (.c (.int .i64 0)))))])
 (.seq (.ops [(none, (.v (.mov 4 (.c (.int .i64 0)))))])
 (.seq (.seq (.ops [(none, (.v (.mov 5 (.c (.int .i64 0)))))])
 (.block 0 (.loop (.seq (.seq (.ops [(none, (.v (.mov 13 (.t 5)))),
    (none, (.v (.mov 14 (.t 0)))),
    (none, (.p (.len 15 (.t 14)))),
    (none, (.v (.bin 16 .lss false (.t 13) (.t 15))))])
   (.cond 16
    .skip
    (.exit 0)))
   (.seq (.block 1 (.seq (.ops [(none, (.v (.mov 19 (.t 0)))),
     (none, (.v (.mov 20 (.t 5)))),
     (none, (.e (.call (some 21) 61 [(.t 19), (.t 20)]))),
     (none, (.v (.mov 22 (.t 5)))),
     (none, (.p (.idx 23 1 (.t 21) (.t 22)))),
     (none, (.v (.load 24 false 1 (.t 23)))),
     (none, (.v (.mov 6 (.t 24))))])
    (.seq (.ops [(none, (.v (.mov 25 (.t 6)))),
     (none, (.v (.bin 26 .gtr false (.t 25) (.c (.int .i64 0))))),
     (none, (.v (.mov 27 (.t 26)))),
     ((some (27, true)), (.v (.mov 28 (.t 3)))),
     ((some (27, true)), (.v (.bin 29 .eql false (.t 28) (.c (.int .i64 0))))),
     ((some (27, true)), (.v (.mov 30 (.t 29)))),
     ((some (30, false)), (.v (.mov 31 (.t 6)))),
     ((some (30, false)), (.v (.mov 32 (.t 3)))),
     ((some (30, false)), (.v (.bin 33 .lss false (.t 31) (.t 32)))),
     ((some (27, true)), (.v (.pick 34 (.t 30) (.c (.bool true)) (.t 33)))),
     (none, (.v (.pick 35 (.t 27) (.t 34) (.c (.bool false)))))])
    (.cond 35
     (.seq (.ops [(none, (.v (.mov 36 (.t 6)))),
      (none, (.v (.mov 3 (.t 36))))])
     (.ops [(none, (.v (.mov 37 (.t 5)))),
      (none, (.v (.mov 4 (.t 37))))]))
     .skip))))
   (.ops [(none, (.v (.mov 17 (.t 5)))),
    (none, (.v (.bin 18 .add false (.t 17) (.c (.int .i64 1))))),
    (none, (.v (.mov 5 (.t 18))))]))))))
 (.seq (.seq (.ops [(none, (.v (.mov 38 (.t 3)))),
  (none, (.v (.bin 39 .eql false (.t 38) (.c (.int .i64 0)))))])
 (.cond 39
  (.seq (.ops [(none, (.v (.mov 2 (.c (.raw (.slice none 0 0))))))])
  .ret)
  .skip))
 (.seq (.ops [(none, (.v (.mov 40 (.t 4)))),
  (none, (.e (.mkl 41 3 1 1 (.int .i64 0) [(0, (.t 40))]))),
  (none, (.v (.mov 7 (.t 41))))])
 (.seq (.ops [(none, (.v (.mov 42 (.t 0)))),
  (none, (.v (.mov 43 (.t 4)))),
  (none, (.e (.call (some 44) 61 [(.t 42), (.t 43)]))),
  (none, (.v (.mov 8 (.t 44))))])
 (.seq (.block 2 (.loop (.seq (.seq (.ops [(none, (.v (.mov 45 (.t 7)))),
    (none, (.p (.len 46 (.t 45)))),
    (none, (.v (.mov 47 (.t 3)))),
    (none, (.v (.bin 48 .lss false (.t 46) (.t 47))))])
   (.cond 48
    .skip
    (.exit 2)))
   (.block 3 (.seq (.ops [(none, (.v (.mov 49 (.t 0)))),
     (none, (.v (.mov 50 (.t 4)))),
     (none, (.v (.mov 51 (.t 7)))),
     (none, (.v (.mov 52 (.t 7)))),
     (none, (.p (.len 53 (.t 52)))),
     (none, (.v (.bin 54 .sub false (.t 53) (.c (.int .i64 1))))),
     (none, (.p (.idx 55 1 (.t 51) (.t 54)))),
     (none, (.v (.load 56 false 1 (.t 55)))),
     (none, (.v (.mov 57 (.t 8)))),
     (none, (.v (.mov 58 (.t 3)))),
     (none, (.v (.mov 59 (.t 7)))),
     (none, (.p (.len 60 (.t 59)))),
     (none, (.v (.bin 61 .sub false (.t 58) (.t 60)))),
     (none, (.e (.call (some 62) 62 [(.t 49), (.t 50), (.t 56), (.t 57), (.t 61)]))),
     (none, (.v (.mov 9 (.t 62))))])
    (.ops [(none, (.v (.mov 63 (.t 7)))),
     (none, (.v (.mov 64 (.t 9)))),
     (none, (.e (.mkl 65 3 1 1 (.int .i64 0) [(0, (.t 64))]))),
     (none, (.e (.app 66 3 1 8 (.t 63) (.t 65)))),
     (none, (.v (.mov 7 (.t 66))))]))))))
 (.seq (.ops [(none, (.v (.mov 67 (.t 7)))),
  (none, (.v (.mov 2 (.t 67))))])
 .ret))))))))))
theorem ok31 : FnOk E 31 68 [.tmp 2] mc31 := .of func31 (by kernel_rfl) (by kernel_rfl) (by kernel_rfl) (by kernel_rfl) (by kernel_rfl)
/-- alum/conflict.Equivalent -/
def mc32 : MC :=
 (.seq (.ops [(none, (.e (.box 2 (.t 0)))),
  (none, (.v (.mov 4 (.c (.bool false)))))])
 (.seq (.seq (.ops [(none, (.v (.load 20 false 1 (.t 2)))),
  (none, (.e (.call (some 21) 18 [(.t 20)]))),
  (none, (.v (.bin 22 .neq false (.t 21) (.c (.int .i64 0)))))])
 (.cond 22
  (.seq (.ops [(none, (.v (.mov 4 (.c (.bool false)))))])
  .ret)
  .skip))
 (.seq (.ops [(none, (.e (.mkmap 23))),
  (none, (.v (.mov 5 (.t 23))))])
 (.seq (.seq (.ops [(none, (.v (.mov 24 (.t 1)))),
  (none, (.p (.len 25 (.t 24)))),
  (none, (.v (.mov 26 (.c (.int .i64 0)))))])
 (.block 0 (.loop (.seq (.ops [(none, (.v (.bin 27 .lss false (.t 26) (.t 25))))])
   (.seq (.cond 27
    .skip
    (.exit 0))
   (.seq (.block 1 (.seq (.ops [(none, (.p (.idx 28 1 (.t 24) (.t 26)))),
     (none, (.v (.load 29 false 1 (.t 28)))),
     (none, (.v (.mov 7 (.t 29))))])
    (.seq (.seq (.ops [(none, (.v (.mov 30 (.t 7)))),
     (none, (.v (.bin 31 .lss false (.t 30) (.c (.int .i64 0))))),
     (none, (.v (.mov 32 (.t 31)))),
     ((some (32, false)), (.v (.mov 33 (.t 7)))),
     ((some (32, false)), (.v (.load 34 false 1 (.t 2)))),
     ((some (32, false)), (.p (.len 35 (.t 34)))),
     ((some (32, false)), (.v (.bin 36 .geq false (.t 33) (.t 35)))),
     (none, (.v (.pick 37 (.t 32) (.c (.bool true)) (.t 36)))),
     (none, (.v (.mov 38 (.t 37)))),
     ((some (38, false)), (.v (.load 39 false 1 (.t 2)))),
     ((some (38, false)), (.v (.mov 40 (.t 7)))),
     ((some (38, false)), (.p (.idx 41 6 (.t 39) (.t 40)))),
     ((some (38, false)), (.v (.fld 42 2 (.t 41)))),
     ((some (38, false)), (.v (.load 43 false 1 (.t 42)))),
     ((some (38, false)), (.v (.not 44 (.t 43)))),
     (none, (.v (.pick 45 (.t 38) (.c (.bool true)) (.t 44)))),
     (none, (.v (.mov 46 (.t 45)))),
     ((some (46, false)), (.v (.mov 47 (.t 5)))),
     ((some (46, false)), (.v (.mov 48 (.t 7)))),
     ((some (46, false)), (.p (.look 49 false (.int .i64) (.bool false) (.t 47) (.t 48)))),
     (none, (.v (.pick 50 (.t 46) (.c (.bool true)) (.t 49))))])
    (.cond 50
     (.seq (.ops [(none, (.v (.mov 4 (.c (.bool false)))))])
     .ret)
     .skip))
    (.ops [(none, (.v (.mov 51 (.t 5)))),
     (none, (.v (.mov 52 (.t 7)))),
     (none, (.e (.mput (.int .i64) (.t 51) (.t 52) (.c (.bool true)))))]))))
   (.ops [(none, (.v (.bin 53 .add false (.t 26) (.c (.int .i64 1))))),
    (none, (.v (.mov 26 (.t 53))))])))))))
 (.seq (.seq (.ops [(none, (.v (.load 54 false 1 (.t 2)))),
  (none, (.p (.len 55 (.t 54)))),
  (none, (.v (.mov 56 (.c (.int .i64 0)))))])
 (.block 2 (.loop (.seq (.ops [(none, (.v (.bin 57 .lss false (.t 56) (.t 55))))])
   (.seq (.cond 57
    .skip
    (.exit 2))
   (.seq (.block 3 (.seq (.ops [(none, (.v (.mov 58 (.t 56)))),
     (none, (.p (.idx 59 6 (.t 54) (.t 56)))),
     (none, (.v (.load 60 true 6 (.t 59)))),
     (none, (.e (.alloc 9 [(.int .i64 0), (.int .i64 0), (.bool false), (.int .i64 0), (.raw (.slice none 0 0)), (.raw (.slice none 0 0))]))),
     (none, (.v (.mov 8 (.t 58)))),
     (none, (.e (.store 6 true (.t 9) (.t 60))))])
    (.seq (.ops [(none, (.v (.fld 61 2 (.t 9)))),
     (none, (.v (.load 62 false 1 (.t 61)))),
     (none, (.v (.mov 63 (.t 62)))),
     ((some (63, true)), (.v (.mov 64 (.t 5)))),
     ((some (63, true)), (.v (.mov 65 (.t 8)))),
     ((some (63, true)), (.p (.look 66 false (.int .i64) (.bool false) (.t 64) (.t 65)))),
     ((some (63, true)), (.v (.not 67 (.t 66)))),
     (none, (.v (.pick 68 (.t 63) (.t 67) (.c (.bool false)))))])
    (.cond 68
     (.seq (.ops [(none, (.v (.mov 4 (.c (.bool false)))))])
     .ret)
     .skip))))
   (.ops [(none, (.v (.bin 69 .add false (.t 56) (.c (.int .i64 1))))),
    (none, (.v (.mov 56 (.t 69))))])))))))
 (.seq (.ops [(none, (.v (.fn 70 (.func 63) [] [(.t 2)]))),
  (none, (.v (.mov 10 (.t 70))))])
 (.seq (.ops [(none, (.e (.mkmap 71))),
  (none, (.e (.alloc 11 [(.raw (.map none))]))),
  (none, (.e (.store 1 false (.t 11) (.t 71))))])
 (.seq (.ops [(none, (.v (.fn 72 (.func 65) [] [(.t 11)]))),
  (none, (.v (.mov 12 (.t 72))))])
 (.seq (.seq (.ops [(none, (.v (.mov 73 (.t 1)))),
  (none, (.p (.len 74 (.t 73)))),
  (none, (.v (.mov 75 (.c (.int .i64 0)))))])
 (.block 4 (.loop (.seq (.ops [(none, (.v (.bin 76 .lss false (.t 75) (.t 74))))])
   (.seq (.cond 76
    .skip
    (.exit 4))
   (.seq (.block 5 (.seq (.ops [(none, (.p (.idx 77 1 (.t 73) (.t 75)))),
     (none, (.v (.load 78 false 1 (.t 77)))),
     (none, (.v (.mov 14 (.t 78))))])
    (.seq (.seq (.ops [(none, (.v (.load 79 false 1 (.t 2)))),
     (none, (.v (.mov 80 (.t 14)))),
     (none, (.p (.idx 81 6 (.t 79) (.t 80)))),
     (none, (.v (.fld 82 4 (.t 81)))),
     (none, (.v (.load 83 false 1 (.t 82)))),
     (none, (.p (.len 84 (.t 83)))),
     (none, (.v (.mov 85 (.c (.int .i64 0)))))])
    (.block 6 (.loop (.seq (.ops [(none, (.v (.bin 86 .lss false (.t 85) (.t 84))))])
      (.seq (.cond 86
       .skip
       (.exit 6))
      (.seq (.block 7 (.seq (.ops [(none, (.p (.idx 87 1 (.t 83) (.t 85)))),
        (none, (.v (.load 88 false 1 (.t 87)))),
        (none, (.v (.mov 16 (.t 88))))])
       (.seq (.any false (.pure0 none (.v (.mov 89 (.t 12)))
        (.pure0 none (.v (.mov 90 (.t 16)))
        (.pure0 none (.v (.mov 92 (.t 10)))
        (.pure0 none (.v (.mov 93 (.t 16)))
        (.pure0 none (.v (.load 94 false 1 (.t 2)))
        (.pure0 none (.v (.mov 95 (.t 14)))
        (.pure0 none (.p (.idx 96 6 (.t 94) (.t 95)))
        (.pure0 none (.v (.fld 97 1 (.t 96)))
        (.pure0 none (.v (.load 98 false 1 (.t 97)))
        (.alt none (.e (.callv (some 91) (.t 89) [(.t 90)]))
         (.base (.alt none (.e (.callv (some 99) (.t 92) [(.t 93), (.t 98)]))
          (.base (.pure0 none (.v (.bin 100 .neq false (.t 91) (.t 99)))
          .done))
          .stop))
         .stop)))))))))))
       (.cond 100
        (.seq (.ops [(none, (.v (.mov 4 (.c (.bool false)))))])
        .ret)
        .skip))))
      (.ops [(none, (.v (.bin 101 .add false (.t 85) (.c (.int .i64 1))))),
       (none, (.v (.mov 85 (.t 101))))])))))))
    (.seq (.ops [(none, (.v (.load 102 false 1 (.t 2)))),
     (none, (.v (.mov 103 (.t 14)))),
     (none, (.p (.idx 104 6 (.t 102) (.t 103)))),
     (none, (.v (.fld 105 5 (.t 104)))),
     (none, (.v (.load 106 false 1 (.t 105)))),
     (none, (.p (.len 107 (.t 106)))),
     (none, (.v (.mov 108 (.c (.int .i64 0)))))])
    (.block 8 (.loop (.seq (.ops [(none, (.v (.bin 109 .lss false (.t 108) (.t 107))))])
      (.seq (.cond 109
       .skip
       (.exit 8))
      (.seq (.block 9 (.seq (.ops [(none, (.p (.idx 110 1 (.t 106) (.t 108)))),
        (none, (.v (.load 111 false 1 (.t 110)))),
        (none, (.v (.mov 18 (.t 111))))])
       (.ops [(none, (.v (.load 112 false 1 (.t 11)))),
        (none, (.v (.mov 113 (.t 18)))),
        (none, (.v (.mov 114 (.t 14)))),
        (none, (.e (.mput (.int .i64) (.t 112) (.t 113) (.t 114))))])))
      (.ops [(none, (.v (.bin 115 .add false (.t 108) (.c (.int .i64 1))))),
       (none, (.v (.mov 108 (.t 115))))]))))))))))
   (.ops [(none, (.v (.bin 116 .add false (.t 75) (.c (.int .i64 1))))),
    (none, (.v (.mov 75 (.t 116))))])))))))
 (.seq (.seq (.ops [(none, (.v (.load 117 false 1 (.t 11)))),
  (none, (.e (.rng 118 (.t 117))))])
 (.block 10 (.loop (.seq (.ops [(none, (.e (.nxt 119 (.t 118)))),
    (none, (.v (.ext 120 0 (.t 119))))])
   (.seq (.cond 120
    .skip
    (.exit 10))
   (.block 11 (.seq (.ops [(none, (.p (.ent 121 (.t 118)))),
     (none, (.v (.ext 122 0 (.t 121)))),
     (none, (.v (.mov 19 (.t 122))))])
    (.seq (.ops [(none, (.v (.mov 123 (.t 12)))),
     (none, (.v (.mov 124 (.t 19)))),
     (none, (.e (.callv (some 125) (.t 123) [(.t 124)]))),
     (none, (.v (.mov 126 (.t 10)))),
     (none, (.v (.mov 127 (.t 19)))),
     (none, (.e (.callv (some 128) (.t 126) [(.t 127), (.c (.int .i64 1073741824))]))),
     (none, (.v (.bin 129 .neq false (.t 125) (.t 128))))])
    (.cond 129
     (.seq (.ops [(none, (.v (.mov 4 (.c (.bool false)))))])
     .ret)
     .skip)))))))))
 (.seq (.ops [(none, (.v (.mov 4 (.c (.bool true)))))])
 .ret)))))))))))
theorem ok32 : FnOk E 32 130 [.tmp 4] mc32 := .of func32 (by kernel_rfl) (by kernel_rfl) (by kernel_rfl) (by kernel_rfl) (by kernel_rfl)
/-- alum/alumref26.Equivalent -/
def mc33 : MC :=
 (.seq (.ops [(none, (.v (.mov 4 (.c (.bool false)))))])
 (.seq (.ops [(none, (.v (.mov 10 (.t 0)))),
  (none, (.v (.mov 11 (.t 1)))),
  (none, (.e (.call (some 12) 66 [(.t 10), (.t 11)]))),
  (none, (.v (.mov 5 (.t 12))))])
 (.seq (.seq (.ops [(none, (.v (.mov 13 (.t 0)))),
  (none, (.e (.call (some 14) 19 [(.t 13)]))),
  (none, (.v (.bin 15 .neq false (.t 14) (.c (.int .i64 0))))),
  (none, (.v (.mov 16 (.t 15)))),
  ((some (16, false)), (.v (.mov 17 (.t 5)))),
  ((some (16, false)), (.v (.not 18 (.t 17)))),
  (none, (.v (.pick 19 (.t 16) (.c (.bool true)) (.t 18))))])
 (.cond 19
  (.seq (.ops [(none, (.v (.mov 4 (.c (.bool false)))))])
  .ret)
  .skip))
 (.seq (.seq (.ops [(none, (.v (.mov 6 (.c (.int .i64 0)))))])
 (.block 0 (.loop (.seq (.seq (.ops [(none, (.v (.mov 20 (.t 6)))),
    (none, (.v (.mov 21 (.t 1)))),
    (none, (.p (.len 22 (.t 21)))),
    (none, (.v (.bin 23 .lss false (.t 20) (.t 22))))])
   (.cond 23
    .skip
    (.exit 0)))
   (.seq (.block 1 (.seq (.ops [(none, (.v (.mov 26 (.t 0)))),
     (none, (.v (.mov 27 (.t 1)))),
     (none, (.v (.mov 28 (.t 6)))),
     (none, (.p (.idx 29 1 (.t 27) (.t 28)))),
     (none, (.v (.load 30 false 1 (.t 29)))),
     (none, (.p (.idx 31 6 (.t 26) (.t 30)))),
     (none, (.v (.load 32 true 6 (.t 31)))),
     (none, (.e (.alloc 7 [(.int .i64 0), (.int .i64 0), (.bool false), (.int .i64 0), (.raw (.slice none 0 0)), (.raw (.slice none 0 0))]))),
     (none, (.e (.store 6 true (.t 7) (.t 32))))])
    (.seq (.seq (.ops [(none, (.v (.mov 8 (.c (.int .i64 0)))))])
    (.block 2 (.loop (.seq (.seq (.ops [(none, (.v (.mov 33 (.t 8)))),
       (none, (.v (.fld 34 4 (.t 7)))),
       (none, (.v (.load 35 false 1 (.t 34)))),
       (none, (.p (.len 36 (.t 35)))),
       (none, (.v (.bin 37 .lss false (.t 33) (.t 36))))])
      (.cond 37
       .skip
       (.exit 2)))
      (.seq (.block 3 (.seq (.any false (.pure0 none (.v (.mov 40 (.t 0)))
        (.pure0 none (.v (.mov 41 (.t 1)))
        (.pure0 none (.v (.mov 42 (.t 6)))
        (.pure0 none (.v (.fld 43 4 (.t 7)))
        (.pure0 none (.v (.load 44 false 1 (.t 43)))
        (.pure0 none (.v (.mov 45 (.t 8)))
        (.pure0 none (.p (.idx 46 1 (.t 44) (.t 45)))
        (.pure0 none (.v (.load 47 false 1 (.t 46)))
        (.pure0 none (.v (.mov 49 (.t 0)))
        (.pure0 none (.v (.fld 50 1 (.t 7)))
        (.pure0 none (.v (.load 51 false 1 (.t 50)))
        (.pure0 none (.v (.fld 52 4 (.t 7)))
        (.pure0 none (.v (.load 53 false 1 (.t 52)))
        (.pure0 none (.v (.mov 54 (.t 8)))
        (.pure0 none (.p (.idx 55 1 (.t 53) (.t 54)))
        (.pure0 none (.v (.load 56 false 1 (.t 55)))
        (.alt none (.e (.call (some 48) 67 [(.t 40), (.t 41), (.t 42), (.t 47)]))
         (.base (.alt none (.e (.call (some 57) 68 [(.t 49), (.t 51), (.t 56)]))
          (.base (.pure0 none (.v (.bin 58 .neq false (.t 48) (.t 57)))
          .done))
          .stop))
         .stop))))))))))))))))))
       (.cond 58
        (.seq (.ops [(none, (.v (.mov 4 (.c (.bool false)))))])
        .ret)
        .skip)))
      (.ops [(none, (.v (.mov 38 (.t 8)))),
       (none, (.v (.bin 39 .add false (.t 38) (.c (.int .i64 1))))),
       (none, (.v (.mov 8 (.t 39))))]))))))
    (.seq (.ops [(none, (.v (.mov 9 (.c (.int .i64 0)))))])
    (.block 4 (.loop (.seq (.seq (.ops [(none, (.v (.mov 59 (.t 9)))),
       (none, (.v (.fld 60 5 (.t 7)))),
       (none, (.v (.load 61 false 1 (.t 60)))),
       (none, (.p (.len 62 (.t 61)))),
       (none, (.v (.bin 63 .lss false (.t 59) (.t 62))))])
      (.cond 63
       .skip
       (.exit 4)))
      (.seq (.block 5 (.seq (.any false (.pure0 none (.v (.mov 66 (.t 0)))
        (.pure0 none (.v (.mov 67 (.t 1)))
        (.pure0 none (.v (.mov 68 (.t 1)))
        (.pure0 none (.p (.len 69 (.t 68)))
        (.pure0 none (.v (.fld 70 5 (.t 7)))
        (.pure0 none (.v (.load 71 false 1 (.t 70)))
        (.pure0 none (.v (.mov 72 (.t 9)))
        (.pure0 none (.p (.idx 73 1 (.t 71) (.t 72)))
        (.pure0 none (.v (.load 74 false 1 (.t 73)))
        (.pure0 none (.v (.mov 76 (.t 0)))
        (.pure0 none (.v (.fld 77 5 (.t 7)))
        (.pure0 none (.v (.load 78 false 1 (.t 77)))
        (.pure0 none (.v (.mov 79 (.t 9)))
        (.pure0 none (.p (.idx 80 1 (.t 78) (.t 79)))
        (.pure0 none (.v (.load 81 false 1 (.t 80)))
        (.alt none (.e (.call (some 75) 67 [(.t 66), (.t 67), (.t 69), (.t 74)]))
         (.base (.alt none (.e (.call (some 82) 68 [(.t 76), (.c (.int .i64 1073741824)), (.t 81)]))
          (.base (.pure0 none (.v (.bin 83 .neq false (.t 75) (.t 82)))
          .done))
          .stop))
         .stop)))))))))))))))))
       (.cond 83
        (.seq (.ops [(none, (.v (.mov 4 (.c (.bool false)))))])
        .ret)
        .skip)))
      (.ops [(none, (.v (.mov 64 (.t 9)))),
       (none, (.v (.bin 65 .add false (.t 64) (.c (.int .i64 1))))),
       (none, (.v (.mov 9 (.t 65))))])))))))))
   (.ops [(none, (.v (.mov 24 (.t 6)))),
    (none, (.v (.bin 25 .add false (.t 24) (.c (.int .i64 1))))),
    (none, (.v (.mov 6 (.t 25))))]))))))
 (.seq (.ops [(none, (.v (.mov 4 (.c (.bool true)))))])
 .ret)))))
theorem ok33 : FnOk E 33 84 [.tmp 4] mc33 := .of func33 (by kernel_rfl) (by kernel_rfl) (by kernel_rfl) (by kernel_rfl) (by kernel_rfl)
/-- alum/conflict.Admit -/
def mc34 : MC :=
 (.seq (.ops [(none, (.e (.box 3 (.t 1)))),
  (none, (.v (.mov 4 (.c (.int .i64 0))))),
  (none, (.v (.mov 5 (.c (.int .i64 0)))))])
 (.seq (.seq (.ops [(none, (.v (.mov 16 (.t 0)))),
  (none, (.e (.call (some 17) 18 [(.t 16)]))),
  (none, (.v (.mov 6 (.t 17))))])
 (.seq (.ops [(none, (.v (.mov 18 (.t 6)))),
  (none, (.v (.bin 19 .neq false (.t 18) (.c (.int .i64 0)))))])
 (.cond 19
  (.seq (.ops [(none, (.v (.mov 20 (.t 6)))),
   (none, (.v (.mov 4 (.c (.int .i64 0))))),
   (none, (.v (.mov 5 (.t 20))))])
  .ret)
  .skip)))
 (.seq (.seq (.ops [(none, (.v (.load 21 false 1 (.t 3)))),
  (none, (.v (.bin 22 .lss false (.t 21) (.c (.int .i64 0))))),
  (none, (.v (.mov 23 (.t 22)))),
  ((some (23, false)), (.v (.load 24 false 1 (.t 3)))),
  ((some (23, false)), (.v (.mov 25 (.t 0)))),
  ((some (23, false)), (.p (.len 26 (.t 25)))),
  ((some (23, false)), (.v (.bin 27 .geq false (.t 24) (.t 26)))),
  (none, (.v (.pick 28 (.t 23) (.c (.bool true)) (.t 27)))),
  (none, (.v (.mov 29 (.t 28)))),
  ((some (29, false)), (.v (.mov 30 (.t 0)))),
  ((some (29, false)), (.v (.load 31 false 1 (.t 3)))),
  ((some (29, false)), (.p (.idx 32 6 (.t 30) (.t 31)))),
  ((some (29, false)), (.v (.fld 33 2 (.t 32)))),
  ((some (29, false)), (.v (.load 34 false 1 (.t 33)))),
  (none, (.v (.pick 35 (.t 29) (.c (.bool true)) (.t 34))))])
 (.cond 35
  (.seq (.ops [(none, (.v (.mov 4 (.c (.int .i64 0))))),
   (none, (.v (.mov 5 (.c (.int .i64 1)))))])
  .ret)
  .skip))
 (.seq (.ops [(none, (.v (.mov 7 (.c (.int .i64 0)))))])
 (.seq (.seq (.ops [(none, (.v (.mov 36 (.t 0)))),
  (none, (.v (.load 37 false 1 (.t 3)))),
  (none, (.p (.idx 38 6 (.t 36) (.t 37)))),
  (none, (.v (.load 39 true 6 (.t 38)))),
  (none, (.e (.alloc 8 [(.int .i64 0), (.int .i64 0), (.bool false), (.int .i64 0), (.raw (.slice none 0 0)), (.raw (.slice none 0 0))]))),
  (none, (.e (.store 6 true (.t 8) (.t 39))))])
 (.seq (.ops [(none, (.v (.fld 40 5 (.t 8)))),
  (none, (.v (.load 41 false 1 (.t 40)))),
  (none, (.p (.len 42 (.t 41)))),
  (none, (.v (.bin 43 .gtr false (.t 42) (.c (.int .i64 0)))))])
 (.cond 43
  (.seq (.ops [(none, (.v (.fld 44 5 (.t 8)))),
   (none, (.v (.load 45 false 1 (.t 44)))),
   (none, (.e (.call (some 46) 44 [(.t 45)]))),
   (none, (.v (.mov 9 (.t 46))))])
  (.seq (.ops [(none, (.v (.mov 10 (.c (.bool true)))))])
  (.seq (.seq (.ops [(none, (.v (.mov 47 (.t 0)))),
   (none, (.p (.len 48 (.t 47)))),
   (none, (.v (.mov 49 (.c (.int .i64 0)))))])
  (.block 0 (.loop (.seq (.ops [(none, (.v (.bin 50 .lss false (.t 49) (.t 48))))])
    (.seq (.cond 50
     .skip
     (.exit 0))
    (.seq (.block 1 (.seq (.ops [(none, (.p (.idx 51 6 (.t 47) (.t 49)))),
      (none, (.v (.load 52 true 6 (.t 51)))),
      (none, (.e (.alloc 12 [(.int .i64 0), (.int .i64 0), (.bool false), (.int .i64 0), (.raw (.slice none 0 0)), (.raw (.slice none 0 0))]))),
      (none, (.e (.store 6 true (.t 12) (.t 52))))])
     (.seq (.ops [(none, (.v (.mov 53 (.t 7)))),
      (none, (.v (.fld 54 3 (.t 12)))),
      (none, (.v (.load 55 false 1 (.t 54)))),
      (none, (.v (.fld 56 1 (.t 12)))),
      (none, (.v (.load 57 false 1 (.t 56)))),
      (none, (.v (.max 58 [(.t 53), (.t 55), (.t 57)]))),
      (none, (.v (.mov 7 (.t 58))))])
     (.ops [(none, (.v (.mov 59 (.t 10)))),
      (none, (.v (.mov 60 (.t 59)))),
      ((some (60, true)), (.v (.load 61 true 6 (.t 12)))),
      ((some (60, true)), (.e (.call (some 62) 45 [(.t 61)]))),
      ((some (60, true)), (.v (.mov 63 (.t 62)))),
      ((some (63, true)), (.v (.fld 64 3 (.t 12)))),
      ((some (63, true)), (.v (.load 65 false 1 (.t 64)))),
      ((some (63, true)), (.v (.fld 66 1 (.t 8)))),
      ((some (63, true)), (.v (.load 67 false 1 (.t 66)))),
      ((some (63, true)), (.v (.bin 68 .gtr false (.t 65) (.t 67)))),
      ((some (60, true)), (.v (.pick 69 (.t 63) (.t 68) (.c (.bool false))))),
      ((some (60, true)), (.v (.mov 70 (.t 69)))),
      ((some (70, true)), (.v (.mov 71 (.t 9)))),
      ((some (70, true)), (.v (.fld 72 5 (.t 12)))),
      ((some (70, true)), (.v (.load 73 false 1 (.t 72)))),
      ((some (70, true)), (.e (.call (some 74) 47 [(.t 71), (.t 73)]))),
      ((some (60, true)), (.v (.pick 75 (.t 70) (.t 74) (.c (.bool false))))),
      ((some (60, true)), (.v (.not 76 (.t 75)))),
      (none, (.v (.pick 77 (.t 60) (.t 76) (.c (.bool false))))),
      (none, (.v (.mov 10 (.t 77))))]))))
    (.ops [(none, (.v (.bin 78 .add false (.t 49) (.c (.int .i64 1))))),
     (none, (.v (.mov 49 (.t 78))))])))))))
  (.seq (.ops [(none, (.v (.mov 79 (.t 7)))),
   (none, (.v (.bin 80 .add false (.t 79) (.c (.int .i64 1))))),
   (none, (.v (.mov 7 (.t 80))))])
  (.seq (.seq (.ops [(none, (.v (.mov 81 (.t 7)))),
   (none, (.v (.bin 82 .gtr false (.t 81) (.c (.int .i64 1073741824)))))])
  (.cond 82
   (.seq (.ops [(none, (.v (.mov 4 (.c (.int .i64 0))))),
    (none, (.v (.mov 5 (.c (.int .i64 2)))))])
   .ret)
   .skip))
  (.seq (.ops [(none, (.v (.mov 83 (.t 10)))),
   (none, (.v (.not 84 (.t 83))))])
  (.cond 84
   (.seq (.ops [(none, (.v (.mov 4 (.c (.int .i64 0))))),
    (none, (.v (.mov 5 (.c (.int .i64 271)))))])
   .ret)
   .skip)))))))
  .skip)))
 (.seq (.seq (.ops [(none, (.v (.mov 85 (.t 0)))),
  (none, (.v (.load 86 false 1 (.t 3)))),
  (none, (.p (.idx 87 6 (.t 85) (.t 86)))),
  (none, (.v (.fld 88 0 (.t 87)))),
  (none, (.v (.load 89 false 1 (.t 88)))),
  (none, (.v (.bin 90 .eql false (.t 89) (.c (.int .i64 1)))))])
 (.cond 90
  (.seq (.ops [(none, (.v (.mov 91 (.t 0)))),
   (none, (.e (.call (some 92) 69 [(.t 91)]))),
   (none, (.v (.mov 13 (.t 92))))])
  (.seq (.any true (.pure0 none (.v (.mov 93 (.t 13)))
   (.pure0 none (.v (.load 94 false 1 (.t 3)))
   (.pure0 none (.v (.mov 95 (.t 13)))
   (.pure0 none (.v (.load 96 false 1 (.t 3)))
   (.pure0 none (.v (.mov 97 (.t 7)))
   (.pure0 none (.p (.idx 98 6 (.t 93) (.t 94)))
   (.pure0 none (.v (.fld 99 2 (.t 98)))
   (.alt none (.e (.store 1 false (.t 99) (.c (.bool true))))
    (.pure0 none (.p (.idx 100 6 (.t 95) (.t 96)))
    (.pure0 none (.v (.fld 101 3 (.t 100)))
    (.alt none (.e (.store 1 false (.t 101) (.t 97)))
     .done
     .stop)))
    .stop)))))))))
  (.seq (.ops [(none, (.v (.mov 103 (.t 13)))),
   (none, (.e (.call (some 104) 50 [(.t 103)]))),
   (none, (.v (.fn 105 (.func 70) [] [(.t 3)]))),
   (none, (.e (.call (some 106) 54 [(.t 104), (.t 105)]))),
   (none, (.v (.mov 102 (.t 106)))),
   (none, (.v (.ext 107 0 (.t 102)))),
   (none, (.v (.ext 108 1 (.t 102)))),
   (none, (.e (.alloc 14 [(.int .i64 0), (.int .i64 0), (.int .i64 0)]))),
   (none, (.e (.store 3 true (.t 14) (.t 107)))),
   (none, (.v (.mov 15 (.t 108))))])
  (.seq (.ops [(none, (.v (.mov 109 (.t 15))))])
  (.cond 109
   (.seq (.ops [(none, (.v (.mov 4 (.c (.int .i64 0))))),
    (none, (.v (.mov 5 (.c (.int .i64 272)))))])
   .ret)
   .skip)))))
  .skip))
 (.seq (.ops [(none, (.v (.mov 110 (.t 7)))),
  (none, (.v (.mov 4 (.t 110)))),
  (none, (.v (.mov 5 (.c (.int .i64 0)))))])
 .ret)))))))
theorem ok34 : FnOk E 34 111 [.tmp 4, .tmp 5] mc34 := .of func34 (by kernel_rfl) (by kernel_rfl) (by kernel_rfl) (by kernel_rfl) (by kernel_rfl)
/-- alum/alumref26.Admit -/
def mc35 : MC :=
 (.seq (.ops [(none, (.v (.mov 4 (.c (.int .i64 0))))),
  (none, (.v (.mov 5 (.c (.int .i64 0)))))])
 (.seq (.ops [(none, (.v (.mov 15 (.t 0)))),
  (none, (.e (.call (some 16) 19 [(.t 15)]))),
  (none, (.v (.mov 6 (.t 16))))])
 (.seq (.seq (.ops [(none, (.v (.mov 17 (.t 6)))),
  (none, (.v (.bin 18 .neq false (.t 17) (.c (.int .i64 0)))))])
 (.cond 18
  (.seq (.ops [(none, (.v (.mov 19 (.t 6)))),
   (none, (.v (.mov 4 (.c (.int .i64 0))))),
   (none, (.v (.mov 5 (.t 19))))])
  .ret)
  .skip))
 (.seq (.seq (.ops [(none, (.v (.mov 20 (.t 1)))),
  (none, (.v (.bin 21 .lss false (.t 20) (.c (.int .i64 0))))),
  (none, (.v (.mov 22 (.t 21)))),
  ((some (22, false)), (.v (.mov 23 (.t 1)))),
  ((some (22, false)), (.v (.mov 24 (.t 0)))),
  ((some (22, false)), (.p (.len 25 (.t 24)))),
  ((some (22, false)), (.v (.bin 26 .geq false (.t 23) (.t 25)))),
  (none, (.v (.pick 27 (.t 22) (.c (.bool true)) (.t 26)))),
  (none, (.v (.mov 28 (.t 27)))),
  ((some (28, false)), (.v (.mov 29 (.t 0)))),
  ((some (28, false)), (.v (.mov 30 (.t 1)))),
  ((some (28, false)), (.p (.idx 31 6 (.t 29) (.t 30)))),
  ((some (28, false)), (.v (.fld 32 2 (.t 31)))),
  ((some (28, false)), (.v (.load 33 false 1 (.t 32)))),
  (none, (.v (.pick 34 (.t 28) (.c (.bool true)) (.t 33))))])
 (.cond 34
  (.seq (.ops [(none, (.v (.mov 4 (.c (.int .i64 0))))),
   (none, (.v (.mov 5 (.c (.int .i64 1)))))])
  .ret)
  .skip))
 (.seq (.ops [(none, (.v (.mov 7 (.c (.int .i64 0)))))])
 (.seq (.seq (.ops [(none, (.v (.mov 35 (.t 0)))),
  (none, (.v (.mov 36 (.t 1)))),
  (none, (.p (.idx 37 6 (.t 35) (.t 36)))),
  (none, (.v (.fld 38 5 (.t 37)))),
  (none, (.v (.load 39 false 1 (.t 38)))),
  (none, (.p (.len 40 (.t 39)))),
  (none, (.v (.bin 41 .gtr false (.t 40) (.c (.int .i64 0)))))])
 (.cond 41
  (.ops [(none, (.v (.mov 42 (.t 0)))),
   (none, (.e (.call (some 43) 71 [(.t 42)]))),
   (none, (.v (.bin 44 .add false (.t 43) (.c (.int .i64 1))))),
   (none, (.v (.mov 7 (.t 44))))])
  .skip))
 (.seq (.seq (.ops [(none, (.v (.mov 45 (.t 7)))),
  (none, (.v (.bin 46 .gtr false (.t 45) (.c (.int .i64 1073741824)))))])
 (.cond 46
  (.seq (.ops [(none, (.v (.mov 4 (.c (.int .i64 0))))),
   (none, (.v (.mov 5 (.c (.int .i64 2)))))])
  .ret)
  .skip))
 (.seq (.seq (.ops [(none, (.v (.mov 8 (.c (.int .i64 0)))))])
 (.block 0 (.loop (.seq (.seq (.ops [(none, (.v (.mov 47 (.t 8)))),
    (none, (.v (.mov 48 (.t 0)))),
    (none, (.p (.len 49 (.t 48)))),
    (none, (.v (.bin 50 .lss false (.t 47) (.t 49))))])
   (.cond 50
    .skip
    (.exit 0)))
   (.seq (.block 1 (.seq (.any false (.pure0 none (.v (.mov 53 (.t 0)))
     (.pure0 none (.v (.mov 54 (.t 8)))
     (.pure0 none (.p (.idx 55 6 (.t 53) (.t 54)))
     (.pure0 none (.v (.fld 56 2 (.t 55)))
     (.pure0 none (.v (.load 57 false 1 (.t 56)))
     (.pure0 none (.v (.mov 58 (.t 57)))
     (.pure0 (some (58, true)) (.v (.mov 59 (.t 0)))
     (.pure0 (some (58, true)) (.v (.mov 60 (.t 1)))
     (.pure0 (some (58, true)) (.p (.idx 61 6 (.t 59) (.t 60)))
     (.pure0 (some (58, true)) (.v (.fld 62 5 (.t 61)))
     (.pure0 (some (58, true)) (.v (.load 63 false 1 (.t 62)))
     (.pure0 (some (58, true)) (.v (.mov 64 (.t 0)))
     (.pure0 (some (58, true)) (.v (.mov 65 (.t 8)))
     (.pure0 (some (58, true)) (.p (.idx 66 6 (.t 64) (.t 65)))
     (.pure0 (some (58, true)) (.v (.fld 67 5 (.t 66)))
     (.pure0 (some (58, true)) (.v (.load 68 false 1 (.t 67)))
     (.alt (some (58, true)) (.e (.call (some 69) 49 [(.t 63), (.t 68)]))
      (.base (.pure0 none (.v (.pick 70 (.t 58) (.t 69) (.c (.bool false))))
      (.pure0 none (.v (.mov 9 (.t 70)))
      .done)))
      .stop))))))))))))))))))
    (.seq (.any false (.pure0 none (.v (.mov 71 (.t 9)))
     (.pure0 none (.v (.mov 72 (.t 71)))
     (.pure0 (some (72, true)) (.v (.mov 73 (.t 0)))
     (.pure0 (some (72, true)) (.v (.mov 74 (.t 8)))
     (.pure0 (some (72, true)) (.p (.idx 75 6 (.t 73) (.t 74)))
     (.pure0 (some (72, true)) (.v (.fld 76 3 (.t 75)))
     (.pure0 (some (72, true)) (.v (.load 77 false 1 (.t 76)))
     (.pure0 (some (72, true)) (.v (.mov 78 (.t 0)))
     (.pure0 (some (72, true)) (.v (.mov 79 (.t 1)))
     (.pure0 (some (72, true)) (.p (.idx 80 6 (.t 78) (.t 79)))
     (.pure0 (some (72, true)) (.v (.fld 81 1 (.t 80)))
     (.pure0 (some (72, true)) (.v (.load 82 false 1 (.t 81)))
     (.pure0 (some (72, true)) (.v (.bin 83 .gtr false (.t 77) (.t 82)))
     (.pure0 none (.v (.pick 84 (.t 72) (.t 83) (.c (.bool false))))
     .done)))))))))))))))
    (.cond 84
     (.seq (.ops [(none, (.v (.mov 4 (.c (.int .i64 0))))),
      (none, (.v (.mov 5 (.c (.int .i64 271)))))])
     .ret)
     .skip))))
   (.ops [(none, (.v (.mov 51 (.t 8)))),
    (none, (.v (.bin 52 .add false (.t 51) (.c (.int .i64 1))))),
    (none, (.v (.mov 8 (.t 52))))]))))))
 (.seq (.seq (.ops [(none, (.v (.mov 85 (.t 0)))),
  (none, (.v (.mov 86 (.t 1)))),
  (none, (.p (.idx 87 6 (.t 85) (.t 86)))),
  (none, (.v (.fld 88 0 (.t 87)))),
  (none, (.v (.load 89 false 1 (.t 88)))),
  (none, (.v (.bin 90 .eql false (.t 89) (.c (.int .i64 1)))))])
 (.cond 90
  (.seq (.ops [(none, (.v (.mov 91 (.t 0)))),
   (none, (.v (.mov 92 (.t 1)))),
   (none, (.v (.mov 93 (.t 7)))),
   (none, (.e (.call (some 94) 72 [(.t 91), (.t 92), (.t 93)]))),
   (none, (.v (.mov 10 (.t 94))))])
  (.seq (.ops [(none, (.v (.mov 11 (.c (.int .i64 0)))))])
  (.block 2 (.loop (.seq (.seq (.ops [(none, (.v (.mov 95 (.t 11)))),
     (none, (.v (.mov 96 (.t 0)))),
     (none, (.p (.len 97 (.t 96)))),
     (none, (.v (.bin 98 .lss false (.t 95) (.t 97))))])
    (.cond 98
     .skip
     (.exit 2)))
    (.seq (.block 3 (.seq (.ops [(none, (.v (.mov 12 (.c (.int .i64 0)))))])
     (.block 4 (.loop (.seq (.seq (.ops [(none, (.v (.mov 101 (.t 12)))),
        (none, (.v (.mov 102 (.t 0)))),
        (none, (.p (.len 103 (.t 102)))),
        (none, (.v (.bin 104 .lss false (.t 101) (.t 103))))])
       (.cond 104
        .skip
        (.exit 4)))
       (.seq (.block 5 (.seq (.ops [(none, (.v (.mov 13 (.c (.int .i64 0)))))])
        (.block 6 (.loop (.seq (.seq (.ops [(none, (.v (.mov 107 (.t 13)))),
           (none, (.v (.mov 108 (.t 0)))),
           (none, (.p (.len 109 (.t 108)))),
           (none, (.v (.bin 110 .lss false (.t 107) (.t 109))))])
          (.cond 110
           .skip
           (.exit 6)))
          (.seq (.block 7 (.seq (.seq (.ops [(none, (.v (.mov 113 (.t 11)))),
            (none, (.v (.mov 114 (.t 1)))),
            (none, (.v (.bin 115 .neq false (.t 113) (.t 114)))),
            (none, (.v (.mov 116 (.t 115)))),
            ((some (116, true)), (.v (.mov 117 (.t 12)))),
            ((some (116, true)), (.v (.mov 118 (.t 1)))),
            ((some (116, true)), (.v (.bin 119 .neq false (.t 117) (.t 118)))),
            (none, (.v (.pick 120 (.t 116) (.t 119) (.c (.bool false))))),
            (none, (.v (.mov 121 (.t 120)))),
            ((some (121, true)), (.v (.mov 122 (.t 13)))),
            ((some (121, true)), (.v (.mov 123 (.t 1)))),
            ((some (121, true)), (.v (.bin 124 .neq false (.t 122) (.t 123)))),
            (none, (.v (.pick 125 (.t 121) (.t 124) (.c (.bool false)))))])
           (.cond 125
            (.exit 7)
            .skip))
           (.seq (.ops [(none, (.v (.mov 126 (.t 10)))),
            (none, (.v (.mov 127 (.t 11)))),
            (none, (.v (.mov 128 (.t 12)))),
            (none, (.v (.mov 129 (.t 13)))),
            (none, (.e (.call (some 130) 56 [(.t 126), (.t 127), (.t 128), (.t 129)]))),
            (none, (.v (.mov 14 (.t 130))))])
           (.seq (.ops [(none, (.v (.mov 131 (.t 14))))])
           (.cond 131
            (.seq (.ops [(none, (.v (.mov 4 (.c (.int .i64 0))))),
             (none, (.v (.mov 5 (.c (.int .i64 272)))))])
            .ret)
            .skip)))))
          (.ops [(none, (.v (.mov 111 (.t 13)))),
           (none, (.v (.bin 112 .add false (.t 111) (.c (.int .i64 1))))),
           (none, (.v (.mov 13 (.t 112))))])))))))
       (.ops [(none, (.v (.mov 105 (.t 12)))),
        (none, (.v (.bin 106 .add false (.t 105) (.c (.int .i64 1))))),
        (none, (.v (.mov 12 (.t 106))))])))))))
    (.ops [(none, (.v (.mov 99 (.t 11)))),
     (none, (.v (.bin 100 .add false (.t 99) (.c (.int .i64 1))))),
     (none, (.v (.mov 11 (.t 100))))])))))))
  .skip))
 (.seq (.ops [(none, (.v (.mov 132 (.t 7)))),
  (none, (.v (.mov 4 (.t 132)))),
  (none, (.v (.mov 5 (.c (.int .i64 0)))))])
 .ret))))))))))
theorem ok35 : FnOk E 35 133 [.tmp 4, .tmp 5] mc35 := .of func35 (by kernel_rfl) (by kernel_rfl) (by kernel_rfl) (by kernel_rfl) (by kernel_rfl)
/-- alum/conflict.Safe -/
def mc36 : MC :=
 (.seq (.ops [(none, (.e (.box 2 (.t 0)))),
  (none, (.e (.box 3 (.t 1)))),
  (none, (.v (.mov 4 (.c (.bool false)))))])
 (.seq (.ops [(none, (.v (.load 8 false 1 (.t 2)))),
  (none, (.e (.call (some 9) 50 [(.t 8)]))),
  (none, (.v (.mov 5 (.t 9))))])
 (.seq (.seq (.ops [(none, (.v (.mov 10 (.t 5)))),
  (none, (.v (.eq 11 false .ptr (.t 10) (.c (.raw (.pointer none)))))),
  (none, (.v (.mov 12 (.t 11)))),
  ((some (12, false)), (.v (.load 13 false 1 (.t 3)))),
  ((some (12, false)), (.v (.bin 14 .lss false (.t 13) (.c (.int .i64 0))))),
  (none, (.v (.pick 15 (.t 12) (.c (.bool true)) (.t 14)))),
  (none, (.v (.mov 16 (.t 15)))),
  ((some (16, false)), (.v (.load 17 false 1 (.t 3)))),
  ((some (16, false)), (.v (.bin 18 .gtr false (.t 17) (.c (.int .i64 1073741824))))),
  (none, (.v (.pick 19 (.t 16) (.c (.bool true)) (.t 18))))])
 (.cond 19
  (.seq (.ops [(none, (.v (.mov 4 (.c (.bool false)))))])
  .ret)
  .skip))
 (.seq (.seq (.ops [(none, (.v (.load 20 false 1 (.t 2)))),
  (none, (.p (.len 21 (.t 20)))),
  (none, (.v (.mov 22 (.c (.int .i64 0)))))])
 (.block 0 (.loop (.seq (.ops [(none, (.v (.bin 23 .lss false (.t 22) (.t 21))))])
   (.seq (.cond 23
    .skip
    (.exit 0))
   (.seq (.block 1 (.seq (.ops [(none, (.p (.idx 24 6 (.t 20) (.t 22)))),
     (none, (.v (.load 25 true 6 (.t 24)))),
     (none, (.e (.alloc 7 [(.int .i64 0), (.int .i64 0), (.bool false), (.int .i64 0), (.raw (.slice none 0 0)), (.raw (.slice none 0 0))]))),
     (none, (.e (.store 6 true (.t 7) (.t 25))))])
    (.seq (.ops [(none, (.v (.fld 26 2 (.t 7)))),
     (none, (.v (.load 27 false 1 (.t 26)))),
     (none, (.v (.not 28 (.t 27)))),
     (none, (.v (.mov 29 (.t 28)))),
     ((some (29, true)), (.v (.fld 30 0 (.t 7)))),
     ((some (29, true)), (.v (.load 31 false 1 (.t 30)))),
     ((some (29, true)), (.v (.bin 32 .neq false (.t 31) (.c (.int .i64 2))))),
     (none, (.v (.pick 33 (.t 29) (.t 32) (.c (.bool false))))),
     (none, (.v (.mov 34 (.t 33)))),
     ((some (34, true)), (.v (.fld 35 1 (.t 7)))),
     ((some (34, true)), (.v (.load 36 false 1 (.t 35)))),
     ((some (34, true)), (.v (.load 37 false 1 (.t 3)))),
     ((some (34, true)), (.v (.bin 38 .lss false (.t 36) (.t 37)))),
     (none, (.v (.pick 39 (.t 34) (.t 38) (.c (.bool false)))))])
    (.cond 39
     (.seq (.ops [(none, (.v (.mov 4 (.c (.bool false)))))])
     .ret)
     .skip))))
   (.ops [(none, (.v (.bin 40 .add false (.t 22) (.c (.int .i64 1))))),
    (none, (.v (.mov 22 (.t 40))))])))))))
 (.seq (.ops [(none, (.v (.mov 41 (.t 5)))),
  (none, (.e (.call (some 42) 51 [(.t 41), (.c (.int .i64 2))]))),
  (none, (.v (.fn 43 (.func 74) [] [(.t 2), (.t 3)]))),
  (none, (.e (.call (some 44) 73 [(.t 42), (.t 43)]))),
  (none, (.v (.not 45 (.t 44)))),
  (none, (.v (.mov 4 (.t 45))))])
 .ret)))))
theorem ok36 : FnOk E 36 46 [.tmp 4] mc36 := .of func36 (by kernel_rfl) (by kernel_rfl) (by kernel_rfl) (by kernel_rfl) (by kernel_rfl)
/-- alum/alumref26.Safe -/
def mc37 : MC :=
 (.seq (.ops [(none, (.v (.mov 4 (.c (.bool false)))))])
 (.seq (.seq (.ops [(none, (.v (.mov 9 (.t 0)))),
  (none, (.e (.call (some 10) 19 [(.t 9)]))),
  (none, (.v (.bin 11 .neq false (.t 10) (.c (.int .i64 0))))),
  (none, (.v (.mov 12 (.t 11)))),
  ((some (12, false)), (.v (.mov 13 (.t 1)))),
  ((some (12, false)), (.v (.bin 14 .lss false (.t 13) (.c (.int .i64 0))))),
  (none, (.v (.pick 15 (.t 12) (.c (.bool true)) (.t 14)))),
  (none, (.v (.mov 16 (.t 15)))),
  ((some (16, false)), (.v (.mov 17 (.t 1)))),
  ((some (16, false)), (.v (.bin 18 .gtr false (.t 17) (.c (.int .i64 1073741824))))),
  (none, (.v (.pick 19 (.t 16) (.c (.bool true)) (.t 18))))])
 (.cond 19
  (.seq (.ops [(none, (.v (.mov 4 (.c (.bool false)))))])
  .ret)
  .skip))
 (.seq (.seq (.ops [(none, (.v (.mov 5 (.c (.int .i64 0)))))])
 (.block 0 (.loop (.seq (.seq (.ops [(none, (.v (.mov 20 (.t 5)))),
    (none, (.v (.mov 21 (.t 0)))),
    (none, (.p (.len 22 (.t 21)))),
    (none, (.v (.bin 23 .lss false (.t 20) (.t 22))))])
   (.cond 23
    .skip
    (.exit 0)))
   (.seq (.block 1 (.seq (.seq (.ops [(none, (.v (.mov 26 (.t 0)))),
     (none, (.v (.mov 27 (.t 5)))),
     (none, (.p (.idx 28 6 (.t 26) (.t 27)))),
     (none, (.v (.fld 29 2 (.t 28)))),
     (none, (.v (.load 30 false 1 (.t 29)))),
     (none, (.v (.not 31 (.t 30)))),
     (none, (.v (.mov 32 (.t 31)))),
     ((some (32, true)), (.v (.mov 33 (.t 0)))),
     ((some (32, true)), (.v (.mov 34 (.t 5)))),
     ((some (32, true)), (.p (.idx 35 6 (.t 33) (.t 34)))),
     ((some (32, true)), (.v (.fld 36 0 (.t 35)))),
     ((some (32, true)), (.v (.load 37 false 1 (.t 36)))),
     ((some (32, true)), (.v (.bin 38 .neq false (.t 37) (.c (.int .i64 2))))),
     (none, (.v (.pick 39 (.t 32) (.t 38) (.c (.bool false))))),
     (none, (.v (.mov 40 (.t 39)))),
     ((some (40, true)), (.v (.mov 41 (.t 0)))),
     ((some (40, true)), (.v (.mov 42 (.t 5)))),
     ((some (40, true)), (.p (.idx 43 6 (.t 41) (.t 42)))),
     ((some (40, true)), (.v (.fld 44 1 (.t 43)))),
     ((some (40, true)), (.v (.load 45 false 1 (.t 44)))),
     ((some (40, true)), (.v (.mov 46 (.t 1)))),
     ((some (40, true)), (.v (.bin 47 .lss false (.t 45) (.t 46)))),
     (none, (.v (.pick 48 (.t 40) (.t 47) (.c (.bool false)))))])
    (.cond 48
     (.seq (.ops [(none, (.v (.mov 4 (.c (.bool false)))))])
     .ret)
     .skip))
    (.seq (.ops [(none, (.v (.mov 6 (.c (.int .i64 0)))))])
    (.block 2 (.loop (.seq (.seq (.ops [(none, (.v (.mov 49 (.t 6)))),
       (none, (.v (.mov 50 (.t 0)))),
       (none, (.p (.len 51 (.t 50)))),
       (none, (.v (.bin 52 .lss false (.t 49) (.t 51))))])
      (.cond 52
       .skip
       (.exit 2)))
      (.seq (.block 3 (.seq (.ops [(none, (.v (.mov 55 (.t 0)))),
        (none, (.v (.mov 56 (.t 5)))),
        (none, (.v (.mov 57 (.t 6)))),
        (none, (.e (.call (some 58) 52 [(.t 55), (.t 56), (.t 57)]))),
        (none, (.v (.mov 7 (.t 58))))])
       (.seq (.ops [(none, (.v (.mov 59 (.t 0)))),
        (none, (.v (.mov 60 (.t 5)))),
        (none, (.p (.idx 61 6 (.t 59) (.t 60)))),
        (none, (.v (.load 62 true 6 (.t 61)))),
        (none, (.e (.call (some 63) 75 [(.t 62)]))),
        (none, (.v (.mov 8 (.t 63))))])
       (.seq (.ops [(none, (.v (.mov 64 (.t 7)))),
        (none, (.v (.mov 65 (.t 64)))),
        ((some (65, true)), (.v (.mov 66 (.t 8)))),
        (none, (.v (.pick 67 (.t 65) (.t 66) (.c (.bool false))))),
        (none, (.v (.mov 68 (.t 67)))),
        ((some (68, true)), (.v (.mov 69 (.t 0)))),
        ((some (68, true)), (.v (.mov 70 (.t 5)))),
        ((some (68, true)), (.p (.idx 71 6 (.t 69) (.t 70)))),
        ((some (68, true)), (.v (.fld 72 3 (.t 71)))),
        ((some (68, true)), (.v (.load 73 false 1 (.t 72)))),
        ((some (68, true)), (.v (.mov 74 (.t 1)))),
        ((some (68, true)), (.v (.bin 75 .gtr false (.t 73) (.t 74)))),
        (none, (.v (.pick 76 (.t 68) (.t 75) (.c (.bool false))))),
        (none, (.v (.mov 77 (.t 76)))),
        ((some (77, true)), (.v (.mov 78 (.t 0)))),
        ((some (77, true)), (.v (.mov 79 (.t 6)))),
        ((some (77, true)), (.p (.idx 80 6 (.t 78) (.t 79)))),
        ((some (77, true)), (.v (.fld 81 3 (.t 80)))),
        ((some (77, true)), (.v (.load 82 false 1 (.t 81)))),
        ((some (77, true)), (.v (.mov 83 (.t 1)))),
        ((some (77, true)), (.v (.bin 84 .leq false (.t 82) (.t 83)))),
        (none, (.v (.pick 85 (.t 77) (.t 84) (.c (.bool false)))))])
       (.cond 85
        (.seq (.ops [(none, (.v (.mov 4 (.c (.bool false)))))])
        .ret)
        .skip)))))
      (.ops [(none, (.v (.mov 53 (.t 6)))),
       (none, (.v (.bin 54 .add false (.t 53) (.c (.int .i64 1))))),
       (none, (.v (.mov 6 (.t 54))))]))))))))
   (.ops [(none, (.v (.mov 24 (.t 5)))),
    (none, (.v (.bin 25 .add false (.t 24) (.c (.int .i64 1))))),
    (none, (.v (.mov 5 (.t 25))))]))))))
 (.seq (.ops [(none, (.v (.mov 4 (.c (.bool true)))))])
 .ret))))
theorem ok37 : FnOk E 37 86 [.tmp 4] mc37 := .of func37 (by kernel_rfl) (by kernel_rfl) (by kernel_rfl) (by kernel_rfl) (by kernel_rfl)
/-- alum/alumlaw26.forward -/
def mc38 : MC :=
 (.seq (.ops [(none, (.v (.mov 4 (.c (.bool false)))))])
 (.seq (.ops [(none, (.v (.mov 11 (.t 0)))),
  (none, (.p (.len 12 (.t 11)))),
  (none, (.e (.mk 13 3 1 8 (.int .i64 0) (.t 12) (.t 12)))),
  (none, (.v (.mov 5 (.t 13))))])
 (.seq (.seq (.ops [(none, (.v (.mov 6 (.c (.int .i64 0)))))])
 (.block 0 (.loop (.seq (.seq (.ops [(none, (.v (.mov 14 (.t 6)))),
    (none, (.v (.mov 15 (.t 1)))),
    (none, (.p (.len 16 (.t 15)))),
    (none, (.v (.bin 17 .lss false (.t 14) (.t 16))))])
   (.cond 17
    .skip
    (.exit 0)))
   (.seq (.block 1 (.seq (.seq (.ops [(none, (.v (.mov 20 (.t 1)))),
     (none, (.v (.mov 21 (.t 6)))),
     (none, (.p (.idx 22 1 (.t 20) (.t 21)))),
     (none, (.v (.load 23 false 1 (.t 22)))),
     (none, (.v (.bin 24 .lss false (.t 23) (.c (.int .i64 0))))),
     (none, (.v (.mov 25 (.t 24)))),
     ((some (25, false)), (.v (.mov 26 (.t 1)))),
     ((some (25, false)), (.v (.mov 27 (.t 6)))),
     ((some (25, false)), (.p (.idx 28 1 (.t 26) (.t 27)))),
     ((some (25, false)), (.v (.load 29 false 1 (.t 28)))),
     ((some (25, false)), (.v (.mov 30 (.t 0)))),
     ((some (25, false)), (.p (.len 31 (.t 30)))),
     ((some (25, false)), (.v (.bin 32 .geq false (.t 29) (.t 31)))),
     (none, (.v (.pick 33 (.t 25) (.c (.bool true)) (.t 32))))])
    (.cond 33
     (.seq (.ops [(none, (.v (.mov 4 (.c (.bool false)))))])
     .ret)
     .skip))
    (.ops [(none, (.v (.mov 34 (.t 5)))),
     (none, (.v (.mov 35 (.t 1)))),
     (none, (.v (.mov 36 (.t 6)))),
     (none, (.p (.idx 37 1 (.t 35) (.t 36)))),
     (none, (.v (.load 38 false 1 (.t 37)))),
     (none, (.v (.mov 39 (.t 6)))),
     (none, (.p (.idx 40 1 (.t 34) (.t 38)))),
     (none, (.e (.store 1 false (.t 40) (.t 39))))])))
   (.ops [(none, (.v (.mov 18 (.t 6)))),
    (none, (.v (.bin 19 .add false (.t 18) (.c (.int .i64 1))))),
    (none, (.v (.mov 6 (.t 19))))]))))))
 (.seq (.ops [(none, (.v (.mov 41 (.t 0)))),
  (none, (.e (.call (some 42) 23 [(.t 41)]))),
  (none, (.v (.mov 7 (.t 42))))])
 (.seq (.seq (.ops [(none, (.v (.mov 8 (.c (.int .i64 0)))))])
 (.block 2 (.loop (.seq (.seq (.ops [(none, (.v (.mov 43 (.t 8)))),
    (none, (.v (.mov 44 (.t 7)))),
    (none, (.p (.len 45 (.t 44)))),
    (none, (.v (.bin 46 .lss false (.t 43) (.t 45))))])
   (.cond 46
    .skip
    (.exit 2)))
   (.seq (.block 3 (.seq (.ops [(none, (.v (.mov 49 (.t 7)))),
     (none, (.v (.mov 50 (.t 8)))),
     (none, (.p (.idx 51 2 (.t 49) (.t 50)))),
     (none, (.p (.aidx 52 2 1 (.t 51) (.c (.int .i64 0))))),
     (none, (.v (.load 53 false 1 (.t 52)))),
     (none, (.v (.mov 9 (.t 53))))])
    (.seq (.ops [(none, (.v (.mov 54 (.t 7)))),
     (none, (.v (.mov 55 (.t 8)))),
     (none, (.p (.idx 56 2 (.t 54) (.t 55)))),
     (none, (.p (.aidx 57 2 1 (.t 56) (.c (.int .i64 1))))),
     (none, (.v (.load 58 false 1 (.t 57)))),
     (none, (.v (.mov 10 (.t 58))))])
    (.seq (.any false (.pure0 none (.v (.mov 59 (.t 9)))
     (.pure0 none (.v (.bin 60 .lss false (.t 59) (.c (.int .i64 0))))
     (.pure0 none (.v (.mov 61 (.t 60)))
     (.pure0 (some (61, false)) (.v (.mov 62 (.t 9)))
     (.pure0 (some (61, false)) (.v (.mov 63 (.t 0)))
     (.pure0 (some (61, false)) (.p (.len 64 (.t 63)))
     (.pure0 (some (61, false)) (.v (.bin 65 .geq false (.t 62) (.t 64)))
     (.pure0 none (.v (.pick 66 (.t 61) (.c (.bool true)) (.t 65)))
     (.pure0 none (.v (.mov 67 (.t 66)))
     (.pure0 (some (67, false)) (.v (.mov 68 (.t 10)))
     (.pure0 (some (67, false)) (.v (.bin 69 .lss false (.t 68) (.c (.int .i64 0))))
     (.pure0 none (.v (.pick 70 (.t 67) (.c (.bool true)) (.t 69)))
     (.pure0 none (.v (.mov 71 (.t 70)))
     (.pure0 (some (71, false)) (.v (.mov 72 (.t 10)))
     (.pure0 (some (71, false)) (.v (.mov 73 (.t 0)))
     (.pure0 (some (71, false)) (.p (.len 74 (.t 73)))
     (.pure0 (some (71, false)) (.v (.bin 75 .geq false (.t 72) (.t 74)))
     (.pure0 none (.v (.pick 76 (.t 71) (.c (.bool true)) (.t 75)))
     (.pure0 none (.v (.mov 77 (.t 76)))
     (.pure0 (some (77, false)) (.v (.mov 78 (.t 5)))
     (.pure0 (some (77, false)) (.v (.mov 79 (.t 9)))
     (.pure0 (some (77, false)) (.p (.idx 80 1 (.t 78) (.t 79)))
     (.pure0 (some (77, false)) (.v (.load 81 false 1 (.t 80)))
     (.pure0 (some (77, false)) (.v (.mov 82 (.t 5)))
     (.pure0 (some (77, false)) (.v (.mov 83 (.t 10)))
     (.pure0 (some (77, false)) (.p (.idx 84 1 (.t 82) (.t 83)))
     (.pure0 (some (77, false)) (.v (.load 85 false 1 (.t 84)))
     (.pure0 (some (77, false)) (.v (.bin 86 .geq false (.t 81) (.t 85)))
     (.pure0 none (.v (.pick 87 (.t 77) (.c (.bool true)) (.t 86)))
     .done))))))))))))))))))))))))))))))
    (.cond 87
     (.seq (.ops [(none, (.v (.mov 4 (.c (.bool false)))))])
     .ret)
     .skip)))))
   (.ops [(none, (.v (.mov 47 (.t 8)))),
    (none, (.v (.bin 48 .add false (.t 47) (.c (.int .i64 1))))),
    (none, (.v (.mov 8 (.t 48))))]))))))
 (.seq (.ops [(none, (.v (.mov 4 (.c (.bool true)))))])
 .ret))))))
theorem ok38 : FnOk E 38 88 [.tmp 4] mc38 := .of func38 (by kernel_rfl) (by kernel_rfl) (by kernel_rfl) (by kernel_rfl) (by kernel_rfl)
/-- alum/alumlaw26.commits -/
def mc39 : MC :=
 (.seq (.ops [(none, (.v (.mov 8 (.c (.raw (.slice none 0 0)))))),
  (none, (.v (.mov 9 (.c (.bool false)))))])
 (.seq (.ops [(none, (.e (.mkl 15 44 6 0 (.agg [(.int .i64 0), (.int .i64 0), (.bool false), (.int .i64 0), (.raw (.slice none 0 0)), (.raw (.slice none 0 0))]) []))),
  (none, (.v (.mov 16 (.t 0)))),
  (none, (.e (.app 17 44 6 80 (.t 15) (.t 16)))),
  (none, (.v (.mov 10 (.t 17))))])
 (.seq (.seq (.ops [(none, (.v (.mov 11 (.c (.int .i64 0)))))])
 (.block 0 (.loop (.seq (.seq (.ops [(none, (.v (.mov 18 (.t 11)))),
    (none, (.v (.mov 19 (.t 1)))),
    (none, (.p (.len 20 (.t 19)))),
    (none, (.v (.bin 21 .lss false (.t 18) (.t 20))))])
   (.cond 21
    .skip
    (.exit 0)))
   (.seq (.block 1 (.seq (.ops [(none, (.v (.mov 24 (.t 10)))),
     (none, (.v (.mov 25 (.t 1)))),
     (none, (.v (.mov 26 (.t 11)))),
     (none, (.p (.idx 27 4 (.t 25) (.t 26)))),
     (none, (.v (.load 28 true 4 (.t 27)))),
     (none, (.e (.call (some 29) 41 [(.t 24), (.t 28)]))),
     (none, (.e (.alloc 12 [(.int .i64 0), (.int .i64 0), (.bool false), (.int .i64 0), (.raw (.slice none 0 0)), (.raw (.slice none 0 0))]))),
     (none, (.e (.store 6 true (.t 12) (.t 29))))])
    (.seq (.seq (.ops [(none, (.v (.mov 30 (.t 2)))),
     (none, (.v (.bin 31 .lss false (.t 30) (.c (.int .i64 3)))))])
    (.cond 31
     (.ops [(none, (.v (.mov 32 (.t 2)))),
      (none, (.v (.fld 33 0 (.t 12)))),
      (none, (.e (.store 1 false (.t 33) (.t 32))))])
     .skip))
    (.seq (.ops [(none, (.v (.fld 34 1 (.t 12)))),
     (none, (.v (.load 35 false 1 (.t 34)))),
     (none, (.v (.mov 36 (.t 3)))),
     (none, (.v (.max 37 [(.t 35), (.t 36)]))),
     (none, (.v (.fld 38 1 (.t 12)))),
     (none, (.e (.store 1 false (.t 38) (.t 37))))])
    (.seq (.ops [(none, (.v (.mov 39 (.t 10)))),
     (none, (.v (.load 40 true 6 (.t 12)))),
     (none, (.e (.mkl 41 44 6 1 (.agg [(.int .i64 0), (.int .i64 0), (.bool false), (.int .i64 0), (.raw (.slice none 0 0)), (.raw (.slice none 0 0))]) [(0, (.t 40))]))),
     (none, (.e (.app 42 44 6 80 (.t 39) (.t 41)))),
     (none, (.v (.mov 10 (.t 42))))])
    (.seq (.ops [(none, (.v (.mov 44 (.t 10)))),
     (none, (.v (.mov 45 (.t 10)))),
     (none, (.p (.len 46 (.t 45)))),
     (none, (.v (.bin 47 .sub false (.t 46) (.c (.int .i64 1))))),
     (none, (.e (.call (some 48) 40 [(.t 44), (.t 47)]))),
     (none, (.v (.mov 43 (.t 48)))),
     (none, (.v (.ext 49 0 (.t 43)))),
     (none, (.v (.ext 50 1 (.t 43)))),
     (none, (.v (.mov 13 (.t 49)))),
     (none, (.v (.mov 14 (.t 50))))])
    (.seq (.seq (.ops [(none, (.v (.mov 51 (.t 14)))),
     (none, (.v (.not 52 (.t 51))))])
    (.cond 52
     (.seq (.ops [(none, (.v (.mov 8 (.c (.raw (.slice none 0 0)))))),
      (none, (.v (.mov 9 (.c (.bool false)))))])
     .ret)
     .skip))
    (.ops [(none, (.v (.mov 53 (.t 13)))),
     (none, (.v (.mov 10 (.t 53))))]))))))))
   (.ops [(none, (.v (.mov 22 (.t 11)))),
    (none, (.v (.bin 23 .add false (.t 22) (.c (.int .i64 1))))),
    (none, (.v (.mov 11 (.t 23))))]))))))
 (.seq (.ops [(none, (.v (.mov 54 (.t 10)))),
  (none, (.v (.mov 8 (.t 54)))),
  (none, (.v (.mov 9 (.c (.bool true)))))])
 .ret))))
theorem ok39 : FnOk E 39 55 [.tmp 8, .tmp 9] mc39 := .of func39 (by kernel_rfl) (by kernel_rfl) (by kernel_rfl) (by kernel_rfl) (by kernel_rfl)
/-- alum/alumlaw26.commit -/
def mc40 : MC :=
 (.seq (.ops [(none, (.v (.mov 4 (.c (.raw (.slice none 0 0)))))),
  (none, (.v (.mov 5 (.c (.bool false)))))])
 (.seq (.ops [(none, (.v (.mov 9 (.t 0)))),
  (none, (.v (.mov 10 (.t 1)))),
  (none, (.e (.call (some 11) 34 [(.t 9), (.t 10)]))),
  (none, (.v (.mov 8 (.t 11)))),
  (none, (.v (.ext 12 0 (.t 8)))),
  (none, (.v (.ext 13 1 (.t 8)))),
  (none, (.v (.mov 6 (.t 12)))),
  (none, (.v (.mov 7 (.t 13))))])
 (.seq (.seq (.ops [(none, (.v (.mov 14 (.t 7)))),
  (none, (.v (.bin 15 .neq false (.t 14) (.c (.int .i64 0)))))])
 (.cond 15
  (.seq (.ops [(none, (.v (.mov 16 (.t 0)))),
   (none, (.v (.mov 17 (.t 7)))),
   (none, (.v (.bin 18 .eql false (.t 17) (.c (.int .i64 271))))),
   (none, (.v (.mov 19 (.t 18)))),
   ((some (19, false)), (.v (.mov 20 (.t 7)))),
   ((some (19, false)), (.v (.bin 21 .eql false (.t 20) (.c (.int .i64 272))))),
   (none, (.v (.pick 22 (.t 19) (.c (.bool true)) (.t 21)))),
   (none, (.v (.mov 4 (.t 16)))),
   (none, (.v (.mov 5 (.t 22))))])
  .ret)
  .skip))
 (.seq (.seq (.any false (.pure0 none (.v (.mov 23 (.t 6)))
  (.pure0 none (.v (.mov 24 (.t 0)))
  (.pure0 none (.v (.mov 25 (.t 1)))
  (.pure0 none (.p (.idx 26 6 (.t 24) (.t 25)))
  (.pure0 none (.v (.fld 27 1 (.t 26)))
  (.pure0 none (.v (.load 28 false 1 (.t 27)))
  (.pure0 none (.v (.bin 29 .gtr false (.t 23) (.t 28)))
  (.pure0 none (.v (.mov 30 (.t 0)))
  (.pure0 none (.v (.mov 31 (.t 1)))
  (.pure0 none (.p (.idx 32 6 (.t 30) (.t 31)))
  (.pure0 none (.v (.fld 33 5 (.t 32)))
  (.pure0 none (.v (.load 34 false 1 (.t 33)))
  (.pure0 none (.p (.len 35 (.t 34)))
  (.pure0 none (.v (.bin 36 .gtr false (.t 35) (.c (.int .i64 0))))
  (.pure0 none (.v (.bin 37 .neq true (.t 29) (.t 36)))
  .done))))))))))))))))
 (.cond 37
  (.seq (.ops [(none, (.v (.mov 4 (.c (.raw (.slice none 0 0)))))),
   (none, (.v (.mov 5 (.c (.bool false)))))])
  .ret)
  .skip))
 (.seq (.ops [(none, (.v (.mov 38 (.t 0)))),
  (none, (.v (.mov 39 (.t 1)))),
  (none, (.v (.mov 40 (.t 6)))),
  (none, (.e (.call (some 41) 72 [(.t 38), (.t 39), (.t 40)]))),
  (none, (.v (.mov 4 (.t 41)))),
  (none, (.v (.mov 5 (.c (.bool true)))))])
 .ret)))))
theorem ok40 : FnOk E 40 42 [.tmp 4, .tmp 5] mc40 := .of func40 (by kernel_rfl) (by kernel_rfl) (by kernel_rfl) (by kernel_rfl) (by kernel_rfl)
/-- alum/alumref26.Begun -/
def mc41 : MC :=
 (.seq (.ops [(none, (.e (.box 3 (.t 1)))),
  (none, (.e (.alloc 4 [(.int .i64 0), (.int .i64 0), (.bool false), (.int .i64 0), (.raw (.slice none 0 0)), (.raw (.slice none 0 0))])))])
 (.seq (.any true (.pure0 none (.v (.fld 6 1 (.t 3)))
  (.pure0 none (.v (.load 7 false 1 (.t 6)))
  (.pure0 none (.v (.conv 8 .i64 (.t 7)))
  (.pure0 none (.p (.rem 9 (.t 8) (.c (.int .i64 3))))
  (.pure0 none (.v (.mov 10 (.t 0)))
  (.pure0 none (.v (.fld 12 0 (.t 3)))
  (.pure0 none (.v (.load 13 false 1 (.t 12)))
  (.pure0 none (.v (.conv 14 .i64 (.t 13)))
  (.pure0 none (.p (.rem 15 (.t 14) (.c (.int .i64 6))))
  (.pure0 none (.v (.fld 18 2 (.t 3)))
  (.pure0 none (.v (.load 19 false 1 (.t 18)))
  (.pure0 none (.v (.fld 21 3 (.t 3)))
  (.pure0 none (.v (.load 22 false 1 (.t 21)))
  (.alt none (.e (.call (some 11) 71 [(.t 10)]))
   (.pure1 none (.v (.bin 16 .sub false (.t 11) (.t 15)))
   (.pure1 none (.v (.max 17 [(.c (.int .i64 0)), (.t 16)]))
   (.alt none (.e (.call (some 20) 76 [(.t 19)]))
    (.alt none (.e (.call (some 23) 76 [(.t 22)]))
     (.pure1 none (.v (.build 24 [(.int .i64 0), (.int .i64 0), (.bool false), (.int .i64 0), (.raw (.slice none 0 0)), (.raw (.slice none 0 0))] [(0, 1, (.t 9)), (1, 1, (.t 17)), (4, 1, (.t 20)), (5, 1, (.t 23))]))
     (.alt none (.e (.alloc 5 [(.int .i64 0), (.int .i64 0), (.bool false), (.int .i64 0), (.raw (.slice none 0 0)), (.raw (.slice none 0 0))]))
      (.alt none (.e (.store 6 true (.t 5) (.t 24)))
       .done
       .stop)
      .stop))
     (.alt none (.e (.alloc 5 [(.int .i64 0), (.int .i64 0), (.bool false), (.int .i64 0), (.raw (.slice none 0 0)), (.raw (.slice none 0 0))]))
     (.alt none (.e (.call (some 23) 76 [(.t 22)]))
      (.pure1 none (.v (.build 24 [(.int .i64 0), (.int .i64 0), (.bool false), (.int .i64 0), (.raw (.slice none 0 0)), (.raw (.slice none 0 0))] [(0, 1, (.t 9)), (1, 1, (.t 17)), (4, 1, (.t 20)), (5, 1, (.t 23))]))
      (.alt none (.e (.store 6 true (.t 5) (.t 24)))
       .done
       .stop))
      .stop)
     .stop))
    (.alt none (.e (.alloc 5 [(.int .i64 0), (.int .i64 0), (.bool false), (.int .i64 0), (.raw (.slice none 0 0)), (.raw (.slice none 0 0))]))
    (.alt none (.e (.call (some 20) 76 [(.t 19)]))
     (.alt none (.e (.call (some 23) 76 [(.t 22)]))
      (.pure1 none (.v (.build 24 [(.int .i64 0), (.int .i64 0), (.bool false), (.int .i64 0), (.raw (.slice none 0 0)), (.raw (.slice none 0 0))] [(0, 1, (.t 9)), (1, 1, (.t 17)), (4, 1, (.t 20)), (5, 1, (.t 23))]))
      (.alt none (.e (.store 6 true (.t 5) (.t 24)))
       .done
       .stop))
      .stop)
     .stop)
    .stop))))
   (.alt none (.e (.alloc 5 [(.int .i64 0), (.int .i64 0), (.bool false), (.int .i64 0), (.raw (.slice none 0 0)), (.raw (.slice none 0 0))]))
   (.alt none (.e (.call (some 11) 71 [(.t 10)]))
    (.pure1 none (.v (.bin 16 .sub false (.t 11) (.t 15)))
    (.pure1 none (.v (.max 17 [(.c (.int .i64 0)), (.t 16)]))
    (.alt none (.e (.call (some 20) 76 [(.t 19)]))
     (.alt none (.e (.call (some 23) 76 [(.t 22)]))
      (.pure1 none (.v (.build 24 [(.int .i64 0), (.int .i64 0), (.bool false), (.int .i64 0), (.raw (.slice none 0 0)), (.raw (.slice none 0 0))] [(0, 1, (.t 9)), (1, 1, (.t 17)), (4, 1, (.t 20)), (5, 1, (.t 23))]))
      (.alt none (.e (.store 6 true (.t 5) (.t 24)))
       .done
       .stop))
      .stop)
     .stop)))
    .stop)
   .stop))))))))))))))))
 (.seq (.seq (.ops [(none, (.v (.fld 25 0 (.t 5)))),
  (none, (.v (.load 26 false 1 (.t 25)))),
  (none, (.v (.bin 27 .eql false (.t 26) (.c (.int .i64 2)))))])
 (.cond 27
  (.ops [(none, (.v (.fld 28 5 (.t 5)))),
   (none, (.e (.store 1 false (.t 28) (.c (.raw (.slice none 0 0))))))])
  .skip))
 (.seq (.ops [(none, (.v (.load 29 true 6 (.t 5)))),
  (none, (.e (.store 6 true (.t 4) (.t 29))))])
 .ret))))
theorem ok41 : FnOk E 41 30 [.cell 4 44] mc41 := .of func41 (by kernel_rfl) (by kernel_rfl) (by kernel_rfl) (by kernel_rfl) (by kernel_rfl)
/-- alum/alumlaw26.skew -/
def mc42 : MC :=
 (.seq (.ops [(none, (.v (.mov 0 (.c (.raw (.slice none 0 0))))))])
 (.seq (.ops [(none, (.e (.mkl 1 3 1 1 (.int .i64 0) [(0, (.c (.int .i64 1)))]))),
  (none, (.e (.mkl 2 3 1 1 (.int .i64 0) [(0, (.c (.int .i64 2)))]))),
  (none, (.v (.build 3 [(.int .i64 0), (.int .i64 0), (.bool false), (.int .i64 0), (.raw (.slice none 0 0)), (.raw (.slice none 0 0))] [(0, 1, (.c (.int .i64 1))), (2, 1, (.c (.bool true))), (3, 1, (.c (.int .i64 1))), (4, 1, (.t 1)), (5, 1, (.t 2))]))),
  (none, (.e (.mkl 4 3 1 1 (.int .i64 0) [(0, (.c (.int .i64 2)))]))),
  (none, (.e (.mkl 5 3 1 1 (.int .i64 0) [(0, (.c (.int .i64 1)))]))),
  (none, (.v (.build 6 [(.int .i64 0), (.int .i64 0), (.bool false), (.int .i64 0), (.raw (.slice none 0 0)), (.raw (.slice none 0 0))] [(0, 1, (.c (.int .i64 1))), (2, 1, (.c (.bool true))), (3, 1, (.c (.int .i64 2))), (4, 1, (.t 4)), (5, 1, (.t 5))]))),
  (none, (.e (.mkl 7 44 6 2 (.agg [(.int .i64 0), (.int .i64 0), (.bool false), (.int .i64 0), (.raw (.slice none 0 0)), (.raw (.slice none 0 0))]) [(0, (.t 3)), (1, (.t 6))]))),
  (none, (.v (.mov 0 (.t 7))))])
 .ret))
theorem ok42 : FnOk E 42 8 [.tmp 0] mc42 := .of func42 (by kernel_rfl) (by kernel_rfl) (by kernel_rfl) (by kernel_rfl) (by kernel_rfl)
/-- alum/conflict.formed -/
def mc43 : MC :=
 (.seq (.ops [(none, (.e (.box 1 (.t 0)))),
  (none, (.v (.mov 2 (.c (.bool false)))))])
 (.seq (.block 0 (.seq (.seq (.ops [(none, (.v (.fld 4 0 (.t 1)))),
   (none, (.v (.load 5 false 1 (.t 4)))),
   (none, (.v (.bin 6 .lss false (.t 5) (.c (.int .i64 0))))),
   (none, (.v (.mov 3 (.t 6))))])
  (.cond 3
   .skip
   (.seq (.ops [(none, (.v (.fld 7 0 (.t 1)))),
    (none, (.v (.load 8 false 1 (.t 7)))),
    (none, (.v (.bin 9 .gtr false (.t 8) (.c (.int .i64 2))))),
    (none, (.v (.mov 3 (.t 9))))])
   (.cond 3
    .skip
    (.seq (.ops [(none, (.v (.fld 10 1 (.t 1)))),
     (none, (.v (.load 11 false 1 (.t 10)))),
     (none, (.v (.bin 12 .lss false (.t 11) (.c (.int .i64 0))))),
     (none, (.v (.mov 3 (.t 12))))])
    (.cond 3
     .skip
     (.seq (.ops [(none, (.v (.fld 13 1 (.t 1)))),
      (none, (.v (.load 14 false 1 (.t 13)))),
      (none, (.v (.bin 15 .gtr false (.t 14) (.c (.int .i64 1073741824))))),
      (none, (.v (.mov 3 (.t 15))))])
     (.cond 3
      .skip
      (.seq (.ops [(none, (.v (.fld 16 4 (.t 1)))),
       (none, (.v (.load 17 false 1 (.t 16)))),
       (none, (.e (.call (some 18) 77 [(.t 17)]))),
       (none, (.v (.not 19 (.t 18)))),
       (none, (.v (.mov 3 (.t 19))))])
      (.cond 3
       .skip
       (.ops [(none, (.v (.fld 20 5 (.t 1)))),
        (none, (.v (.load 21 false 1 (.t 20)))),
        (none, (.e (.call (some 22) 77 [(.t 21)]))),
        (none, (.v (.not 23 (.t 22)))),
        (none, (.v (.mov 3 (.t 23))))])))))))))))
  (.cond 3
   (.seq (.ops [(none, (.v (.mov 2 (.c (.bool false)))))])
   .ret)
   (.seq (.ops [(none, (.v (.fld 25 0 (.t 1)))),
    (none, (.v (.load 26 false 1 (.t 25)))),
    (none, (.v (.bin 27 .eql false (.t 26) (.c (.int .i64 2))))),
    (none, (.v (.mov 28 (.t 27)))),
    ((some (28, true)), (.v (.fld 29 5 (.t 1)))),
    ((some (28, true)), (.v (.load 30 false 1 (.t 29)))),
    ((some (28, true)), (.p (.len 31 (.t 30)))),
    ((some (28, true)), (.v (.bin 32 .gtr false (.t 31) (.c (.int .i64 0))))),
    (none, (.v (.pick 33 (.t 28) (.t 32) (.c (.bool false))))),
    (none, (.v (.mov 24 (.t 33))))])
   (.cond 24
    (.seq (.ops [(none, (.v (.mov 2 (.c (.bool false)))))])
    .ret)
    (.seq (.ops [(none, (.v (.load 35 true 6 (.t 1)))),
     (none, (.e (.call (some 36) 45 [(.t 35)]))),
     (none, (.v (.mov 34 (.t 36))))])
    (.cond 34
     (.seq (.ops [(none, (.v (.fld 37 1 (.t 1)))),
      (none, (.v (.load 38 false 1 (.t 37)))),
      (none, (.v (.fld 39 3 (.t 1)))),
      (none, (.v (.load 40 false 1 (.t 39)))),
      (none, (.v (.bin 41 .lss false (.t 38) (.t 40)))),
      (none, (.v (.mov 42 (.t 41)))),
      ((some (42, true)), (.v (.fld 43 3 (.t 1)))),
      ((some (42, true)), (.v (.load 44 false 1 (.t 43)))),
      ((some (42, true)), (.v (.bin 45 .leq false (.t 44) (.c (.int .i64 1073741824))))),
      (none, (.v (.pick 46 (.t 42) (.t 45) (.c (.bool false))))),
      (none, (.v (.mov 2 (.t 46))))])
     .ret)
     .skip)))))))
 (.seq (.ops [(none, (.v (.fld 47 3 (.t 1)))),
  (none, (.v (.load 48 false 1 (.t 47)))),
  (none, (.v (.bin 49 .eql false (.t 48) (.c (.int .i64 0))))),
  (none, (.v (.mov 2 (.t 49))))])
 .ret)))
theorem ok43 : FnOk E 43 50 [.tmp 2] mc43 := .of func43 (by kernel_rfl) (by kernel_rfl) (by kernel_rfl) (by kernel_rfl) (by kernel_rfl)
/-- alum/conflict.of[int] -/
def mc44 : MC :=
 (.seq (.ops [(none, (.v (.mov 2 (.c (.raw (.map none))))))])
 (.seq (.ops [(none, (.e (.mkmap 6))),
  (none, (.v (.mov 3 (.t 6))))])
 (.seq (.seq (.ops [(none, (.v (.mov 7 (.t 0)))),
  (none, (.p (.len 8 (.t 7)))),
  (none, (.v (.mov 9 (.c (.int .i64 0)))))])
 (.block 0 (.loop (.seq (.ops [(none, (.v (.bin 10 .lss false (.t 9) (.t 8))))])
   (.seq (.cond 10
    .skip
    (.exit 0))
   (.seq (.block 1 (.seq (.ops [(none, (.p (.idx 11 1 (.t 7) (.t 9)))),
     (none, (.v (.load 12 false 1 (.t 11)))),
     (none, (.v (.mov 5 (.t 12))))])
    (.ops [(none, (.v (.mov 13 (.t 3)))),
     (none, (.v (.mov 14 (.t 5)))),
     (none, (.e (.mput (.int .i64) (.t 13) (.t 14) (.c (.bool true)))))])))
   (.ops [(none, (.v (.bin 15 .add false (.t 9) (.c (.int .i64 1))))),
    (none, (.v (.mov 9 (.t 15))))])))))))
 (.seq (.ops [(none, (.v (.mov 16 (.t 3)))),
  (none, (.v (.mov 2 (.t 16))))])
 .ret))))
theorem ok44 : FnOk E 44 17 [.tmp 2] mc44 := .of func44 (by kernel_rfl) (by kernel_rfl) (by kernel_rfl) (by kernel_rfl) (by kernel_rfl)
/-- alum/conflict.writes -/
def mc45 : MC :=
 (.seq (.ops [(none, (.e (.box 1 (.t 0)))),
  (none, (.v (.mov 2 (.c (.bool false)))))])
 (.seq (.ops [(none, (.v (.fld 3 2 (.t 1)))),
  (none, (.v (.load 4 false 1 (.t 3)))),
  (none, (.v (.mov 5 (.t 4)))),
  ((some (5, true)), (.v (.fld 6 5 (.t 1)))),
  ((some (5, true)), (.v (.load 7 false 1 (.t 6)))),
  ((some (5, true)), (.p (.len 8 (.t 7)))),
  ((some (5, true)), (.v (.bin 9 .gtr false (.t 8) (.c (.int .i64 0))))),
  (none, (.v (.pick 10 (.t 5) (.t 9) (.c (.bool false))))),
  (none, (.v (.mov 2 (.t 10))))])
 .ret))
theorem ok45 : FnOk E 45 11 [.tmp 2] mc45 := .of func45 (by kernel_rfl) (by kernel_rfl) (by kernel_rfl) (by kernel_rfl) (by kernel_rfl)
/-- alum/conflict.concurrent -/
def mc46 : MC :=
 (.seq (.ops [(none, (.e (.box 2 (.t 0)))),
  (none, (.e (.box 3 (.t 1)))),
  (none, (.v (.mov 4 (.c (.bool false)))))])
 (.seq (.ops [(none, (.v (.fld 5 1 (.t 2)))),
  (none, (.v (.load 6 false 1 (.t 5)))),
  (none, (.v (.fld 7 3 (.t 3)))),
  (none, (.v (.load 8 false 1 (.t 7)))),
  (none, (.v (.bin 9 .lss false (.t 6) (.t 8)))),
  (none, (.v (.mov 10 (.t 9)))),
  ((some (10, true)), (.v (.fld 11 1 (.t 3)))),
  ((some (10, true)), (.v (.load 12 false 1 (.t 11)))),
  ((some (10, true)), (.v (.fld 13 3 (.t 2)))),
  ((some (10, true)), (.v (.load 14 false 1 (.t 13)))),
  ((some (10, true)), (.v (.bin 15 .lss false (.t 12) (.t 14)))),
  (none, (.v (.pick 16 (.t 10) (.t 15) (.c (.bool false))))),
  (none, (.v (.mov 4 (.t 16))))])
 .ret))
theorem ok46 : FnOk E 46 17 [.tmp 4] mc46 := .of func46 (by kernel_rfl) (by kernel_rfl) (by kernel_rfl) (by kernel_rfl) (by kernel_rfl)
/-- (alum/conflict.set[int]).meets -/
def mc47 : MC :=
 (.seq (.ops [(none, (.e (.box 2 (.t 0)))),
  (none, (.v (.mov 4 (.c (.bool false)))))])
 (.seq (.ops [(none, (.v (.mov 5 (.t 1)))),
  (none, (.v (.fn 6 (.func 79) [] [(.t 2)]))),
  (none, (.e (.call (some 7) 78 [(.t 5), (.t 6)]))),
  (none, (.v (.mov 4 (.t 7))))])
 .ret))
theorem ok47 : FnOk E 47 8 [.tmp 4] mc47 := .of func47 (by kernel_rfl) (by kernel_rfl) (by kernel_rfl) (by kernel_rfl) (by kernel_rfl)
/-- alum/alumref26.formed -/
def mc48 : MC :=
 (.seq (.ops [(none, (.e (.box 1 (.t 0)))),
  (none, (.v (.mov 2 (.c (.bool false)))))])
 (.seq (.ops [(none, (.v (.fld 5 4 (.t 1)))),
  (none, (.v (.load 6 false 1 (.t 5)))),
  (none, (.e (.call (some 7) 80 [(.t 6)]))),
  (none, (.v (.mov 3 (.t 7))))])
 (.seq (.ops [(none, (.v (.fld 8 5 (.t 1)))),
  (none, (.v (.load 9 false 1 (.t 8)))),
  (none, (.e (.call (some 10) 80 [(.t 9)]))),
  (none, (.v (.mov 4 (.t 10))))])
 (.seq (.seq (.ops [(none, (.v (.fld 11 0 (.t 1)))),
  (none, (.v (.load 12 false 1 (.t 11)))),
  (none, (.v (.bin 13 .lss false (.t 12) (.c (.int .i64 0))))),
  (none, (.v (.mov 14 (.t 13)))),
  ((some (14, false)), (.v (.fld 15 0 (.t 1)))),
  ((some (14, false)), (.v (.load 16 false 1 (.t 15)))),
  ((some (14, false)), (.v (.bin 17 .gtr false (.t 16) (.c (.int .i64 2))))),
  (none, (.v (.pick 18 (.t 14) (.c (.bool true)) (.t 17)))),
  (none, (.v (.mov 19 (.t 18)))),
  ((some (19, false)), (.v (.fld 20 1 (.t 1)))),
  ((some (19, false)), (.v (.load 21 false 1 (.t 20)))),
  ((some (19, false)), (.v (.bin 22 .lss false (.t 21) (.c (.int .i64 0))))),
  (none, (.v (.pick 23 (.t 19) (.c (.bool true)) (.t 22)))),
  (none, (.v (.mov 24 (.t 23)))),
  ((some (24, false)), (.v (.fld 25 1 (.t 1)))),
  ((some (24, false)), (.v (.load 26 false 1 (.t 25)))),
  ((some (24, false)), (.v (.bin 27 .gtr false (.t 26) (.c (.int .i64 1073741824))))),
  (none, (.v (.pick 28 (.t 24) (.c (.bool true)) (.t 27)))),
  (none, (.v (.mov 29 (.t 28)))),
  ((some (29, false)), (.v (.mov 30 (.t 3)))),
  ((some (29, false)), (.v (.not 31 (.t 30)))),
  (none, (.v (.pick 32 (.t 29) (.c (.bool true)) (.t 31)))),
  (none, (.v (.mov 33 (.t 32)))),
  ((some (33, false)), (.v (.mov 34 (.t 4)))),
  ((some (33, false)), (.v (.not 35 (.t 34)))),
  (none, (.v (.pick 36 (.t 33) (.c (.bool true)) (.t 35))))])
 (.cond 36
  (.seq (.ops [(none, (.v (.mov 2 (.c (.bool false)))))])
  .ret)
  .skip))
 (.seq (.seq (.ops [(none, (.v (.fld 37 0 (.t 1)))),
  (none, (.v (.load 38 false 1 (.t 37)))),
  (none, (.v (.bin 39 .eql false (.t 38) (.c (.int .i64 2))))),
  (none, (.v (.mov 40 (.t 39)))),
  ((some (40, true)), (.v (.fld 41 5 (.t 1)))),
  ((some (40, true)), (.v (.load 42 false 1 (.t 41)))),
  ((some (40, true)), (.p (.len 43 (.t 42)))),
  ((some (40, true)), (.v (.bin 44 .gtr false (.t 43) (.c (.int .i64 0))))),
  (none, (.v (.pick 45 (.t 40) (.t 44) (.c (.bool false)))))])
 (.cond 45
  (.seq (.ops [(none, (.v (.mov 2 (.c (.bool false)))))])
  .ret)
  .skip))
 (.seq (.seq (.ops [(none, (.v (.fld 46 2 (.t 1)))),
  (none, (.v (.load 47 false 1 (.t 46)))),
  (none, (.v (.mov 48 (.t 47)))),
  ((some (48, true)), (.v (.fld 49 5 (.t 1)))),
  ((some (48, true)), (.v (.load 50 false 1 (.t 49)))),
  ((some (48, true)), (.p (.len 51 (.t 50)))),
  ((some (48, true)), (.v (.bin 52 .gtr false (.t 51) (.c (.int .i64 0))))),
  (none, (.v (.pick 53 (.t 48) (.t 52) (.c (.bool false)))))])
 (.cond 53
  (.seq (.ops [(none, (.v (.fld 54 3 (.t 1)))),
   (none, (.v (.load 55 false 1 (.t 54)))),
   (none, (.v (.fld 56 1 (.t 1)))),
   (none, (.v (.load 57 false 1 (.t 56)))),
   (none, (.v (.bin 58 .gtr false (.t 55) (.t 57)))),
   (none, (.v (.mov 59 (.t 58)))),
   ((some (59, true)), (.v (.fld 60 3 (.t 1)))),
   ((some (59, true)), (.v (.load 61 false 1 (.t 60)))),
   ((some (59, true)), (.v (.bin 62 .leq false (.t 61) (.c (.int .i64 1073741824))))),
   (none, (.v (.pick 63 (.t 59) (.t 62) (.c (.bool false))))),
   (none, (.v (.mov 2 (.t 63))))])
  .ret)
  .skip))
 (.seq (.ops [(none, (.v (.fld 64 3 (.t 1)))),
  (none, (.v (.load 65 false 1 (.t 64)))),
  (none, (.v (.bin 66 .eql false (.t 65) (.c (.int .i64 0))))),
  (none, (.v (.mov 2 (.t 66))))])
 .ret)))))))
theorem ok48 : FnOk E 48 67 [.tmp 2] mc48 := .of func48 (by kernel_rfl) (by kernel_rfl) (by kernel_rfl) (by kernel_rfl) (by kernel_rfl)
/-- alum/alumref26.meet -/
def mc49 : MC :=
 (.seq (.ops [(none, (.v (.mov 4 (.c (.bool false)))))])
 (.seq (.seq (.ops [(none, (.v (.mov 5 (.c (.int .i64 0)))))])
 (.block 0 (.loop (.seq (.seq (.ops [(none, (.v (.mov 7 (.t 5)))),
    (none, (.v (.mov 8 (.t 0)))),
    (none, (.p (.len 9 (.t 8)))),
    (none, (.v (.bin 10 .lss false (.t 7) (.t 9))))])
   (.cond 10
    .skip
    (.exit 0)))
   (.seq (.block 1 (.seq (.ops [(none, (.v (.mov 13 (.t 1)))),
     (none, (.v (.mov 14 (.t 0)))),
     (none, (.v (.mov 15 (.t 5)))),
     (none, (.p (.idx 16 1 (.t 14) (.t 15)))),
     (none, (.v (.load 17 false 1 (.t 16)))),
     (none, (.e (.call (some 18) 81 [(.t 13), (.t 17)]))),
     (none, (.v (.mov 6 (.t 18))))])
    (.seq (.ops [(none, (.v (.mov 19 (.t 6))))])
    (.cond 19
     (.seq (.ops [(none, (.v (.mov 4 (.c (.bool true)))))])
     .ret)
     .skip))))
   (.ops [(none, (.v (.mov 11 (.t 5)))),
    (none, (.v (.bin 12 .add false (.t 11) (.c (.int .i64 1))))),
    (none, (.v (.mov 5 (.t 12))))]))))))
 (.seq (.ops [(none, (.v (.mov 4 (.c (.bool false)))))])
 .ret)))
theorem ok49 : FnOk E 49 20 [.tmp 4] mc49 := .of func49 (by kernel_rfl) (by kernel_rfl) (by kernel_rfl) (by kernel_rfl) (by kernel_rfl)
/-- alum/conflict.graphOf -/
def mc50 : MC :=
 (.seq (.ops [(none, (.v (.mov 2 (.c (.raw (.pointer none))))))])
 (.seq (.seq (.ops [(none, (.v (.mov 10 (.t 0)))),
  (none, (.e (.call (some 11) 18 [(.t 10)]))),
  (none, (.v (.bin 12 .neq false (.t 11) (.c (.int .i64 0)))))])
 (.cond 12
  (.seq (.ops [(none, (.v (.mov 2 (.c (.raw (.pointer none))))))])
  .ret)
  .skip))
 (.seq (.ops [(none, (.v (.mov 13 (.t 0)))),
  (none, (.v (.mov 14 (.t 0)))),
  (none, (.p (.len 15 (.t 14)))),
  (none, (.e (.mk 16 33 1 24 (.raw (.slice none 0 0)) (.t 15) (.t 15)))),
  (none, (.v (.build 17 [(.raw (.slice none 0 0)), (.raw (.slice none 0 0))] [(0, 1, (.t 13)), (1, 1, (.t 16))]))),
  (none, (.e (.box 18 (.t 17)))),
  (none, (.v (.mov 3 (.t 18))))])
 (.seq (.seq (.ops [(none, (.v (.mov 19 (.t 0)))),
  (none, (.p (.len 20 (.t 19)))),
  (none, (.v (.mov 21 (.c (.int .i64 0)))))])
 (.block 0 (.loop (.seq (.ops [(none, (.v (.bin 22 .lss false (.t 21) (.t 20))))])
   (.seq (.cond 22
    .skip
    (.exit 0))
   (.seq (.block 1 (.seq (.ops [(none, (.v (.mov 23 (.t 21)))),
     (none, (.p (.idx 24 6 (.t 19) (.t 21)))),
     (none, (.v (.load 25 true 6 (.t 24)))),
     (none, (.e (.alloc 5 [(.int .i64 0), (.int .i64 0), (.bool false), (.int .i64 0), (.raw (.slice none 0 0)), (.raw (.slice none 0 0))]))),
     (none, (.v (.mov 4 (.t 23)))),
     (none, (.e (.store 6 true (.t 5) (.t 25))))])
    (.seq (.any true (.pure0 none (.v (.mov 26 (.t 3)))
     (.pure0 none (.v (.nil 27 (.t 26)))
     (.pure0 none (.v (.fld 28 1 (.t 27)))
     (.pure0 none (.v (.load 29 false 1 (.t 28)))
     (.pure0 none (.v (.mov 30 (.t 4)))
     (.pure0 none (.v (.mov 31 (.t 0)))
     (.pure0 none (.p (.len 32 (.t 31)))
     (.alt none (.e (.mk 33 3 1 8 (.int .i64 0) (.t 32) (.t 32)))
      (.pure0 none (.p (.idx 34 1 (.t 29) (.t 30)))
      (.alt none (.e (.store 1 false (.t 34) (.t 33)))
       .done
       .stop))
      .stop)))))))))
    (.seq (.any false (.pure0 none (.v (.fld 35 4 (.t 5)))
     (.pure0 none (.v (.load 36 false 1 (.t 35)))
     (.pure0 none (.v (.fld 38 5 (.t 5)))
     (.pure0 none (.v (.load 39 false 1 (.t 38)))
     (.alt none (.e (.call (some 37) 44 [(.t 36)]))
      (.base (.alt none (.e (.call (some 40) 44 [(.t 39)]))
       (.base (.pure0 none (.v (.mov 6 (.t 37)))
       (.pure0 none (.v (.mov 7 (.t 40)))
       .done)))
       .stop))
      .stop))))))
    (.seq (.ops [(none, (.v (.mov 41 (.t 0)))),
     (none, (.p (.len 42 (.t 41)))),
     (none, (.v (.mov 43 (.c (.int .i64 0)))))])
    (.block 2 (.loop (.seq (.ops [(none, (.v (.bin 44 .lss false (.t 43) (.t 42))))])
      (.seq (.cond 44
       .skip
       (.exit 2))
      (.seq (.block 3 (.seq (.ops [(none, (.v (.mov 45 (.t 43)))),
        (none, (.p (.idx 46 6 (.t 41) (.t 43)))),
        (none, (.v (.load 47 true 6 (.t 46)))),
        (none, (.e (.alloc 9 [(.int .i64 0), (.int .i64 0), (.bool false), (.int .i64 0), (.raw (.slice none 0 0)), (.raw (.slice none 0 0))]))),
        (none, (.v (.mov 8 (.t 45)))),
        (none, (.e (.store 6 true (.t 9) (.t 47))))])
       (.seq (.seq (.ops [(none, (.v (.mov 48 (.t 4)))),
        (none, (.v (.mov 49 (.t 8)))),
        (none, (.v (.bin 50 .eql false (.t 48) (.t 49)))),
        (none, (.v (.mov 51 (.t 50)))),
        ((some (51, false)), (.v (.fld 52 2 (.t 5)))),
        ((some (51, false)), (.v (.load 53 false 1 (.t 52)))),
        ((some (51, false)), (.v (.not 54 (.t 53)))),
        (none, (.v (.pick 55 (.t 51) (.c (.bool true)) (.t 54)))),
        (none, (.v (.mov 56 (.t 55)))),
        ((some (56, false)), (.v (.fld 57 2 (.t 9)))),
        ((some (56, false)), (.v (.load 58 false 1 (.t 57)))),
        ((some (56, false)), (.v (.not 59 (.t 58)))),
        (none, (.v (.pick 60 (.t 56) (.c (.bool true)) (.t 59))))])
       (.cond 60
        (.exit 3)
        .skip))
       (.seq (.seq (.ops [(none, (.v (.fld 61 3 (.t 5)))),
        (none, (.v (.load 62 false 1 (.t 61)))),
        (none, (.v (.fld 63 3 (.t 9)))),
        (none, (.v (.load 64 false 1 (.t 63)))),
        (none, (.v (.bin 65 .lss false (.t 62) (.t 64)))),
        (none, (.v (.mov 66 (.t 65)))),
        ((some (66, true)), (.v (.mov 67 (.t 7)))),
        ((some (66, true)), (.v (.fld 68 5 (.t 9)))),
        ((some (66, true)), (.v (.load 69 false 1 (.t 68)))),
        ((some (66, true)), (.e (.call (some 70) 47 [(.t 67), (.t 69)]))),
        (none, (.v (.pick 71 (.t 66) (.t 70) (.c (.bool false))))),
        (none, (.v (.mov 72 (.t 71)))),
        ((some (72, false)), (.v (.fld 73 3 (.t 5)))),
        ((some (72, false)), (.v (.load 74 false 1 (.t 73)))),
        ((some (72, false)), (.v (.fld 75 1 (.t 9)))),
        ((some (72, false)), (.v (.load 76 false 1 (.t 75)))),
        ((some (72, false)), (.v (.bin 77 .leq false (.t 74) (.t 76)))),
        ((some (72, false)), (.v (.mov 78 (.t 77)))),
        ((some (78, true)), (.v (.mov 79 (.t 7)))),
        ((some (78, true)), (.v (.fld 80 4 (.t 9)))),
        ((some (78, true)), (.v (.load 81 false 1 (.t 80)))),
        ((some (78, true)), (.e (.call (some 82) 47 [(.t 79), (.t 81)]))),
        ((some (72, false)), (.v (.pick 83 (.t 78) (.t 82) (.c (.bool false))))),
        (none, (.v (.pick 84 (.t 72) (.c (.bool true)) (.t 83))))])
       (.cond 84
        (.ops [(none, (.v (.mov 85 (.t 3)))),
         (none, (.v (.nil 86 (.t 85)))),
         (none, (.v (.fld 87 1 (.t 86)))),
         (none, (.v (.load 88 false 1 (.t 87)))),
         (none, (.v (.mov 89 (.t 4)))),
         (none, (.p (.idx 90 1 (.t 88) (.t 89)))),
         (none, (.v (.load 91 false 1 (.t 90)))),
         (none, (.v (.mov 92 (.t 8)))),
         (none, (.p (.idx 93 1 (.t 91) (.t 92)))),
         (none, (.v (.load 94 false 1 (.t 93)))),
         (none, (.v (.bin 95 .or false (.t 94) (.c (.int .i64 1))))),
         (none, (.p (.idx 96 1 (.t 91) (.t 92)))),
         (none, (.e (.store 1 false (.t 96) (.t 95))))])
        .skip))
       (.seq (.ops [(none, (.v (.fld 97 3 (.t 9)))),
        (none, (.v (.load 98 false 1 (.t 97)))),
        (none, (.v (.fld 99 1 (.t 5)))),
        (none, (.v (.load 100 false 1 (.t 99)))),
        (none, (.v (.bin 101 .gtr false (.t 98) (.t 100)))),
        (none, (.v (.mov 102 (.t 101)))),
        ((some (102, true)), (.v (.mov 103 (.t 6)))),
        ((some (102, true)), (.v (.fld 104 5 (.t 9)))),
        ((some (102, true)), (.v (.load 105 false 1 (.t 104)))),
        ((some (102, true)), (.e (.call (some 106) 47 [(.t 103), (.t 105)]))),
        (none, (.v (.pick 107 (.t 102) (.t 106) (.c (.bool false)))))])
       (.cond 107
        (.ops [(none, (.v (.mov 108 (.t 3)))),
         (none, (.v (.nil 109 (.t 108)))),
         (none, (.v (.fld 110 1 (.t 109)))),
         (none, (.v (.load 111 false 1 (.t 110)))),
         (none, (.v (.mov 112 (.t 4)))),
         (none, (.p (.idx 113 1 (.t 111) (.t 112)))),
         (none, (.v (.load 114 false 1 (.t 113)))),
         (none, (.v (.mov 115 (.t 8)))),
         (none, (.p (.idx 116 1 (.t 114) (.t 115)))),
         (none, (.v (.load 117 false 1 (.t 116)))),
         (none, (.v (.bin 118 .or false (.t 117) (.c (.int .i64 2))))),
         (none, (.p (.idx 119 1 (.t 114) (.t 115)))),
         (none, (.e (.store 1 false (.t 119) (.t 118))))])
        .skip))))))
      (.ops [(none, (.v (.bin 120 .add false (.t 43) (.c (.int .i64 1))))),
       (none, (.v (.mov 43 (.t 120))))])))))))))))
   (.ops [(none, (.v (.bin 121 .add false (.t 21) (.c (.int .i64 1))))),
    (none, (.v (.mov 21 (.t 121))))])))))))
 (.seq (.ops [(none, (.v (.mov 122 (.t 3)))),
  (none, (.v (.mov 2 (.t 122))))])
 .ret)))))
theorem ok50 : FnOk E 50 123 [.tmp 2] mc50 := .of func50 (by kernel_rfl) (by kernel_rfl) (by kernel_rfl) (by kernel_rfl) (by kernel_rfl)
/-- (*alum/conflict.graph).pairs -/
def mc51 : MC :=
 (.seq (.ops [(none, (.v (.mov 4 (.c (.raw (.slice none 0 0))))))])
 (.seq (.ops [(none, (.v (.mov 5 (.c (.raw (.slice none 0 0))))))])
 (.seq (.seq (.ops [(none, (.v (.mov 9 (.t 0)))),
  (none, (.v (.eq 10 false .ptr (.t 9) (.c (.raw (.pointer none))))))])
 (.cond 10
  (.seq (.ops [(none, (.v (.mov 11 (.t 5)))),
   (none, (.v (.mov 4 (.t 11))))])
  .ret)
  .skip))
 (.seq (.seq (.ops [(none, (.v (.mov 12 (.t 0)))),
  (none, (.v (.nil 13 (.t 12)))),
  (none, (.v (.fld 14 0 (.t 13)))),
  (none, (.v (.load 15 false 1 (.t 14)))),
  (none, (.p (.len 16 (.t 15)))),
  (none, (.v (.mov 17 (.c (.int .i64 0)))))])
 (.block 0 (.loop (.seq (.ops [(none, (.v (.bin 18 .lss false (.t 17) (.t 16))))])
   (.seq (.cond 18
    .skip
    (.exit 0))
   (.seq (.block 1 (.seq (.ops [(none, (.v (.mov 19 (.t 17)))),
     (none, (.v (.mov 6 (.t 19))))])
    (.seq (.ops [(none, (.v (.mov 20 (.t 0)))),
     (none, (.v (.nil 21 (.t 20)))),
     (none, (.v (.fld 22 1 (.t 21)))),
     (none, (.v (.load 23 false 1 (.t 22)))),
     (none, (.v (.mov 24 (.t 6)))),
     (none, (.p (.idx 25 1 (.t 23) (.t 24)))),
     (none, (.v (.load 26 false 1 (.t 25)))),
     (none, (.p (.len 27 (.t 26)))),
     (none, (.v (.mov 28 (.c (.int .i64 0)))))])
    (.block 2 (.loop (.seq (.ops [(none, (.v (.bin 29 .lss false (.t 28) (.t 27))))])
      (.seq (.cond 29
       .skip
       (.exit 2))
      (.seq (.block 3 (.seq (.ops [(none, (.v (.mov 30 (.t 28)))),
        (none, (.p (.idx 31 1 (.t 26) (.t 28)))),
        (none, (.v (.load 32 false 1 (.t 31)))),
        (none, (.v (.mov 7 (.t 30)))),
        (none, (.v (.mov 8 (.t 32))))])
       (.seq (.ops [(none, (.v (.mov 33 (.t 8)))),
        (none, (.v (.mov 34 (.t 1)))),
        (none, (.v (.bin 35 .and false (.t 33) (.t 34)))),
        (none, (.v (.bin 36 .neq false (.t 35) (.c (.int .i64 0)))))])
       (.cond 36
        (.ops [(none, (.v (.mov 37 (.t 5)))),
         (none, (.v (.mov 38 (.t 6)))),
         (none, (.v (.mov 39 (.t 7)))),
         (none, (.v (.build 40 [(.int .i64 0), (.int .i64 0)] [(0, 1, (.t 38)), (1, 1, (.t 39))]))),
         (none, (.e (.mkl 41 45 2 1 (.agg [(.int .i64 0), (.int .i64 0)]) [(0, (.t 40))]))),
         (none, (.e (.app 42 45 2 16 (.t 37) (.t 41)))),
         (none, (.v (.mov 5 (.t 42))))])
        .skip))))
      (.ops [(none, (.v (.bin 43 .add false (.t 28) (.c (.int .i64 1))))),
       (none, (.v (.mov 28 (.t 43))))])))))))))
   (.ops [(none, (.v (.bin 44 .add false (.t 17) (.c (.int .i64 1))))),
    (none, (.v (.mov 17 (.t 44))))])))))))
 (.seq (.ops [(none, (.v (.mov 45 (.t 5)))),
  (none, (.v (.mov 4 (.t 45))))])
 .ret)))))
theorem ok51 : FnOk E 51 46 [.tmp 4] mc51 := .of func51 (by kernel_rfl) (by kernel_rfl) (by kernel_rfl) (by kernel_rfl) (by kernel_rfl)
/-- alum/alumref26.anti -/
def mc52 : MC :=
 (.seq (.ops [(none, (.v (.mov 6 (.c (.bool false)))))])
 (.seq (.any false (.pure0 none (.v (.mov 7 (.t 1)))
  (.pure0 none (.v (.mov 8 (.t 2)))
  (.pure0 none (.v (.bin 9 .neq false (.t 7) (.t 8)))
  (.pure0 none (.v (.mov 10 (.t 9)))
  (.pure0 (some (10, true)) (.v (.mov 11 (.t 0)))
  (.pure0 (some (10, true)) (.v (.mov 12 (.t 1)))
  (.pure0 (some (10, true)) (.p (.idx 13 6 (.t 11) (.t 12)))
  (.pure0 (some (10, true)) (.v (.fld 14 2 (.t 13)))
  (.pure0 (some (10, true)) (.v (.load 15 false 1 (.t 14)))
  (.pure0 none (.v (.pick 16 (.t 10) (.t 15) (.c (.bool false))))
  (.pure0 none (.v (.mov 17 (.t 16)))
  (.pure0 (some (17, true)) (.v (.mov 18 (.t 0)))
  (.pure0 (some (17, true)) (.v (.mov 19 (.t 2)))
  (.pure0 (some (17, true)) (.p (.idx 20 6 (.t 18) (.t 19)))
  (.pure0 (some (17, true)) (.v (.fld 21 2 (.t 20)))
  (.pure0 (some (17, true)) (.v (.load 22 false 1 (.t 21)))
  (.pure0 none (.v (.pick 23 (.t 17) (.t 22) (.c (.bool false))))
  (.pure0 none (.v (.mov 24 (.t 23)))
  (.pure0 (some (24, true)) (.v (.mov 25 (.t 0)))
  (.pure0 (some (24, true)) (.v (.mov 26 (.t 1)))
  (.pure0 (some (24, true)) (.p (.idx 27 6 (.t 25) (.t 26)))
  (.pure0 (some (24, true)) (.v (.fld 28 4 (.t 27)))
  (.pure0 (some (24, true)) (.v (.load 29 false 1 (.t 28)))
  (.pure0 (some (24, true)) (.v (.mov 30 (.t 0)))
  (.pure0 (some (24, true)) (.v (.mov 31 (.t 2)))
  (.pure0 (some (24, true)) (.p (.idx 32 6 (.t 30) (.t 31)))
  (.pure0 (some (24, true)) (.v (.fld 33 5 (.t 32)))
  (.pure0 (some (24, true)) (.v (.load 34 false 1 (.t 33)))
  (.alt (some (24, true)) (.e (.call (some 35) 49 [(.t 29), (.t 34)]))
   (.base (.pure0 none (.v (.pick 36 (.t 24) (.t 35) (.c (.bool false))))
   (.pure0 none (.v (.mov 37 (.t 36)))
   (.pure0 (some (37, true)) (.v (.mov 38 (.t 0)))
   (.pure0 (some (37, true)) (.v (.mov 39 (.t 2)))
   (.pure0 (some (37, true)) (.p (.idx 40 6 (.t 38) (.t 39)))
   (.pure0 (some (37, true)) (.v (.fld 41 3 (.t 40)))
   (.pure0 (some (37, true)) (.v (.load 42 false 1 (.t 41)))
   (.pure0 (some (37, true)) (.v (.mov 43 (.t 0)))
   (.pure0 (some (37, true)) (.v (.mov 44 (.t 1)))
   (.pure0 (some (37, true)) (.p (.idx 45 6 (.t 43) (.t 44)))
   (.pure0 (some (37, true)) (.v (.fld 46 1 (.t 45)))
   (.pure0 (some (37, true)) (.v (.load 47 false 1 (.t 46)))
   (.pure0 (some (37, true)) (.v (.bin 48 .gtr false (.t 42) (.t 47)))
   (.pure0 none (.v (.pick 49 (.t 37) (.t 48) (.c (.bool false))))
   (.pure0 none (.v (.mov 6 (.t 49)))
   .done))))))))))))))))
   .stop))))))))))))))))))))))))))))))
 .ret))
theorem ok52 : FnOk E 52 50 [.tmp 6] mc52 := .of func52 (by kernel_rfl) (by kernel_rfl) (by kernel_rfl) (by kernel_rfl) (by kernel_rfl)
/-- alum/alumref26.Edge -/
def mc53 : MC :=
 (.seq (.ops [(none, (.v (.mov 6 (.c (.bool false)))))])
 (.seq (.seq (.ops [(none, (.v (.mov 10 (.t 1)))),
  (none, (.v (.mov 11 (.t 2)))),
  (none, (.v (.bin 12 .eql false (.t 10) (.t 11)))),
  (none, (.v (.mov 13 (.t 12)))),
  ((some (13, false)), (.v (.mov 14 (.t 0)))),
  ((some (13, false)), (.v (.mov 15 (.t 1)))),
  ((some (13, false)), (.p (.idx 16 6 (.t 14) (.t 15)))),
  ((some (13, false)), (.v (.fld 17 2 (.t 16)))),
  ((some (13, false)), (.v (.load 18 false 1 (.t 17)))),
  ((some (13, false)), (.v (.not 19 (.t 18)))),
  (none, (.v (.pick 20 (.t 13) (.c (.bool true)) (.t 19)))),
  (none, (.v (.mov 21 (.t 20)))),
  ((some (21, false)), (.v (.mov 22 (.t 0)))),
  ((some (21, false)), (.v (.mov 23 (.t 2)))),
  ((some (21, false)), (.p (.idx 24 6 (.t 22) (.t 23)))),
  ((some (21, false)), (.v (.fld 25 2 (.t 24)))),
  ((some (21, false)), (.v (.load 26 false 1 (.t 25)))),
  ((some (21, false)), (.v (.not 27 (.t 26)))),
  (none, (.v (.pick 28 (.t 21) (.c (.bool true)) (.t 27))))])
 (.cond 28
  (.seq (.ops [(none, (.v (.mov 6 (.c (.bool false)))))])
  .ret)
  .skip))
 (.seq (.any false (.pure0 none (.v (.mov 29 (.t 0)))
  (.pure0 none (.v (.mov 30 (.t 1)))
  (.pure0 none (.p (.idx 31 6 (.t 29) (.t 30)))
  (.pure0 none (.v (.fld 32 5 (.t 31)))
  (.pure0 none (.v (.load 33 false 1 (.t 32)))
  (.pure0 none (.v (.mov 34 (.t 0)))
  (.pure0 none (.v (.mov 35 (.t 2)))
  (.pure0 none (.p (.idx 36 6 (.t 34) (.t 35)))
  (.pure0 none (.v (.fld 37 5 (.t 36)))
  (.pure0 none (.v (.load 38 false 1 (.t 37)))
  (.alt none (.e (.call (some 39) 49 [(.t 33), (.t 38)]))
   (.base (.pure0 none (.v (.mov 40 (.t 39)))
   (.pure0 (some (40, true)) (.v (.mov 41 (.t 0)))
   (.pure0 (some (40, true)) (.v (.mov 42 (.t 1)))
   (.pure0 (some (40, true)) (.p (.idx 43 6 (.t 41) (.t 42)))
   (.pure0 (some (40, true)) (.v (.fld 44 3 (.t 43)))
   (.pure0 (some (40, true)) (.v (.load 45 false 1 (.t 44)))
   (.pure0 (some (40, true)) (.v (.mov 46 (.t 0)))
   (.pure0 (some (40, true)) (.v (.mov 47 (.t 2)))
   (.pure0 (some (40, true)) (.p (.idx 48 6 (.t 46) (.t 47)))
   (.pure0 (some (40, true)) (.v (.fld 49 3 (.t 48)))
   (.pure0 (some (40, true)) (.v (.load 50 false 1 (.t 49)))
   (.pure0 (some (40, true)) (.v (.bin 51 .lss false (.t 45) (.t 50)))
   (.pure0 none (.v (.pick 52 (.t 40) (.t 51) (.c (.bool false))))
   (.pure0 none (.v (.mov 7 (.t 52)))
   .done)))))))))))))))
   .stop))))))))))))
 (.seq (.any false (.pure0 none (.v (.mov 53 (.t 0)))
  (.pure0 none (.v (.mov 54 (.t 1)))
  (.pure0 none (.p (.idx 55 6 (.t 53) (.t 54)))
  (.pure0 none (.v (.fld 56 5 (.t 55)))
  (.pure0 none (.v (.load 57 false 1 (.t 56)))
  (.pure0 none (.v (.mov 58 (.t 0)))
  (.pure0 none (.v (.mov 59 (.t 2)))
  (.pure0 none (.p (.idx 60 6 (.t 58) (.t 59)))
  (.pure0 none (.v (.fld 61 4 (.t 60)))
  (.pure0 none (.v (.load 62 false 1 (.t 61)))
  (.alt none (.e (.call (some 63) 49 [(.t 57), (.t 62)]))
   (.base (.pure0 none (.v (.mov 64 (.t 63)))
   (.pure0 (some (64, true)) (.v (.mov 65 (.t 0)))
   (.pure0 (some (64, true)) (.v (.mov 66 (.t 1)))
   (.pure0 (some (64, true)) (.p (.idx 67 6 (.t 65) (.t 66)))
   (.pure0 (some (64, true)) (.v (.fld 68 3 (.t 67)))
   (.pure0 (some (64, true)) (.v (.load 69 false 1 (.t 68)))
   (.pure0 (some (64, true)) (.v (.mov 70 (.t 0)))
   (.pure0 (some (64, true)) (.v (.mov 71 (.t 2)))
   (.pure0 (some (64, true)) (.p (.idx 72 6 (.t 70) (.t 71)))
   (.pure0 (some (64, true)) (.v (.fld 73 1 (.t 72)))
   (.pure0 (some (64, true)) (.v (.load 74 false 1 (.t 73)))
   (.pure0 (some (64, true)) (.v (.bin 75 .leq false (.t 69) (.t 74)))
   (.pure0 none (.v (.pick 76 (.t 64) (.t 75) (.c (.bool false))))
   (.pure0 none (.v (.mov 8 (.t 76)))
   .done)))))))))))))))
   .stop))))))))))))
 (.seq (.ops [(none, (.v (.mov 77 (.t 0)))),
  (none, (.v (.mov 78 (.t 1)))),
  (none, (.v (.mov 79 (.t 2)))),
  (none, (.e (.call (some 80) 52 [(.t 77), (.t 78), (.t 79)]))),
  (none, (.v (.mov 9 (.t 80))))])
 (.seq (.ops [(none, (.v (.mov 81 (.t 7)))),
  (none, (.v (.mov 82 (.t 81)))),
  ((some (82, false)), (.v (.mov 83 (.t 8)))),
  (none, (.v (.pick 84 (.t 82) (.c (.bool true)) (.t 83)))),
  (none, (.v (.mov 85 (.t 84)))),
  ((some (85, false)), (.v (.mov 86 (.t 9)))),
  (none, (.v (.pick 87 (.t 85) (.c (.bool true)) (.t 86)))),
  (none, (.v (.mov 6 (.t 87))))])
 .ret))))))
theorem ok53 : FnOk E 53 88 [.tmp 6] mc53 := .of func53 (by kernel_rfl) (by kernel_rfl) (by kernel_rfl) (by kernel_rfl) (by kernel_rfl)
/-- (*alum/conflict.graph).structure -/
def mc54 : MC :=
 (.seq (.ops [(none, (.e (.alloc 4 [(.int .i64 0), (.int .i64 0), (.int .i64 0)]))),
  (none, (.v (.mov 5 (.c (.bool false)))))])
 (.seq (.seq (.ops [(none, (.v (.mov 9 (.t 0)))),
  (none, (.v (.nil 10 (.t 9)))),
  (none, (.v (.fld 11 0 (.t 10)))),
  (none, (.v (.load 12 false 1 (.t 11)))),
  (none, (.p (.len 13 (.t 12)))),
  (none, (.v (.mov 14 (.c (.int .i64 0)))))])
 (.block 0 (.loop (.seq (.ops [(none, (.v (.bin 15 .lss false (.t 14) (.t 13))))])
   (.seq (.cond 15
    .skip
    (.exit 0))
   (.seq (.block 1 (.seq (.ops [(none, (.v (.mov 16 (.t 14)))),
     (none, (.v (.mov 6 (.t 16))))])
    (.seq (.ops [(none, (.v (.mov 17 (.t 0)))),
     (none, (.v (.nil 18 (.t 17)))),
     (none, (.v (.fld 19 0 (.t 18)))),
     (none, (.v (.load 20 false 1 (.t 19)))),
     (none, (.p (.len 21 (.t 20)))),
     (none, (.v (.mov 22 (.c (.int .i64 0)))))])
    (.block 2 (.loop (.seq (.ops [(none, (.v (.bin 23 .lss false (.t 22) (.t 21))))])
      (.seq (.cond 23
       .skip
       (.exit 2))
      (.seq (.block 3 (.seq (.ops [(none, (.v (.mov 24 (.t 22)))),
        (none, (.v (.mov 7 (.t 24))))])
       (.seq (.ops [(none, (.v (.mov 25 (.t 0)))),
        (none, (.v (.nil 26 (.t 25)))),
        (none, (.v (.fld 27 0 (.t 26)))),
        (none, (.v (.load 28 false 1 (.t 27)))),
        (none, (.p (.len 29 (.t 28)))),
        (none, (.v (.mov 30 (.c (.int .i64 0)))))])
       (.block 4 (.loop (.seq (.ops [(none, (.v (.bin 31 .lss false (.t 30) (.t 29))))])
         (.seq (.cond 31
          .skip
          (.exit 4))
         (.seq (.block 5 (.seq (.ops [(none, (.v (.mov 32 (.t 30)))),
           (none, (.v (.mov 8 (.t 32))))])
          (.seq (.ops [(none, (.v (.mov 33 (.t 0)))),
           (none, (.v (.mov 34 (.t 6)))),
           (none, (.v (.mov 35 (.t 7)))),
           (none, (.v (.mov 36 (.t 8)))),
           (none, (.e (.call (some 37) 82 [(.t 33), (.t 34), (.t 35), (.t 36)]))),
           (none, (.v (.mov 38 (.t 37)))),
           ((some (38, true)), (.v (.mov 39 (.t 1)))),
           ((some (38, true)), (.v (.mov 40 (.t 6)))),
           ((some (38, true)), (.v (.mov 41 (.t 7)))),
           ((some (38, true)), (.v (.mov 42 (.t 8)))),
           ((some (38, true)), (.e (.callv (some 43) (.t 39) [(.t 40), (.t 41), (.t 42)]))),
           (none, (.v (.pick 44 (.t 38) (.t 43) (.c (.bool false)))))])
          (.cond 44
           (.seq (.ops [(none, (.v (.mov 45 (.t 6)))),
            (none, (.v (.mov 46 (.t 7)))),
            (none, (.v (.mov 47 (.t 8)))),
            (none, (.v (.build 48 [(.int .i64 0), (.int .i64 0), (.int .i64 0)] [(0, 1, (.t 45)), (1, 1, (.t 46)), (2, 1, (.t 47))]))),
            (none, (.e (.store 3 true (.t 4) (.t 48)))),
            (none, (.v (.mov 5 (.c (.bool true)))))])
           .ret)
           .skip))))
         (.ops [(none, (.v (.bin 49 .add false (.t 30) (.c (.int .i64 1))))),
          (none, (.v (.mov 30 (.t 49))))])))))))))
      (.ops [(none, (.v (.bin 50 .add false (.t 22) (.c (.int .i64 1))))),
       (none, (.v (.mov 22 (.t 50))))])))))))))
   (.ops [(none, (.v (.bin 51 .add false (.t 14) (.c (.int .i64 1))))),
    (none, (.v (.mov 14 (.t 51))))])))))))
 (.seq (.ops [(none, (.v (.build 52 [(.int .i64 0), (.int .i64 0), (.int .i64 0)] []))),
  (none, (.e (.store 3 true (.t 4) (.t 52)))),
  (none, (.v (.mov 5 (.c (.bool false)))))])
 .ret)))
theorem ok54 : FnOk E 54 53 [.cell 4 30, .tmp 5] mc54 := .of func54 (by kernel_rfl) (by kernel_rfl) (by kernel_rfl) (by kernel_rfl) (by kernel_rfl)
/-- alum/conflict.Dangerous$1 -/
def mc55 : MC :=
 (.seq (.ops [(none, (.v (.mov 6 (.c (.bool false)))))])
 (.seq (.ops [(none, (.v (.mov 6 (.c (.bool true)))))])
 .ret))
theorem ok55 : FnOk E 55 7 [.tmp 6] mc55 := .of func55 (by kernel_rfl) (by kernel_rfl) (by kernel_rfl) (by kernel_rfl) (by kernel_rfl)
/-- alum/alumref26.Structure -/
def mc56 : MC :=
 (.seq (.ops [(none, (.v (.mov 8 (.c (.bool false)))))])
 (.seq (.ops [(none, (.v (.mov 11 (.t 0)))),
  (none, (.v (.mov 12 (.t 1)))),
  (none, (.v (.mov 13 (.t 2)))),
  (none, (.e (.call (some 14) 52 [(.t 11), (.t 12), (.t 13)]))),
  (none, (.v (.mov 9 (.t 14))))])
 (.seq (.ops [(none, (.v (.mov 15 (.t 0)))),
  (none, (.v (.mov 16 (.t 2)))),
  (none, (.v (.mov 17 (.t 3)))),
  (none, (.e (.call (some 18) 52 [(.t 15), (.t 16), (.t 17)]))),
  (none, (.v (.mov 10 (.t 18))))])
 (.seq (.seq (.any false (.pure0 none (.v (.mov 19 (.t 9)))
  (.pure0 none (.v (.not 20 (.t 19)))
  (.pure0 none (.v (.mov 21 (.t 20)))
  (.pure0 (some (21, false)) (.v (.mov 22 (.t 10)))
  (.pure0 (some (21, false)) (.v (.not 23 (.t 22)))
  (.pure0 none (.v (.pick 24 (.t 21) (.c (.bool true)) (.t 23)))
  (.pure0 none (.v (.mov 25 (.t 24)))
  (.pure0 (some (25, false)) (.v (.mov 26 (.t 0)))
  (.pure0 (some (25, false)) (.v (.mov 27 (.t 3)))
  (.pure0 (some (25, false)) (.p (.idx 28 6 (.t 26) (.t 27)))
  (.pure0 (some (25, false)) (.v (.fld 29 3 (.t 28)))
  (.pure0 (some (25, false)) (.v (.load 30 false 1 (.t 29)))
  (.pure0 (some (25, false)) (.v (.mov 31 (.t 0)))
  (.pure0 (some (25, false)) (.v (.mov 32 (.t 2)))
  (.pure0 (some (25, false)) (.p (.idx 33 6 (.t 31) (.t 32)))
  (.pure0 (some (25, false)) (.v (.fld 34 3 (.t 33)))
  (.pure0 (some (25, false)) (.v (.load 35 false 1 (.t 34)))
  (.pure0 (some (25, false)) (.v (.bin 36 .geq false (.t 30) (.t 35)))
  (.pure0 none (.v (.pick 37 (.t 25) (.c (.bool true)) (.t 36)))
  .done))))))))))))))))))))
 (.cond 37
  (.seq (.ops [(none, (.v (.mov 8 (.c (.bool false)))))])
  .ret)
  .skip))
 (.seq (.seq (.ops [(none, (.v (.mov 38 (.t 1)))),
  (none, (.v (.mov 39 (.t 3)))),
  (none, (.v (.bin 40 .eql false (.t 38) (.t 39))))])
 (.cond 40
  (.seq (.ops [(none, (.v (.mov 8 (.c (.bool true)))))])
  .ret)
  .skip))
 (.seq (.seq (.ops [(none, (.v (.mov 41 (.t 0)))),
  (none, (.v (.mov 42 (.t 1)))),
  (none, (.p (.idx 43 6 (.t 41) (.t 42)))),
  (none, (.v (.fld 44 5 (.t 43)))),
  (none, (.v (.load 45 false 1 (.t 44)))),
  (none, (.p (.len 46 (.t 45)))),
  (none, (.v (.bin 47 .gtr false (.t 46) (.c (.int .i64 0)))))])
 (.cond 47
  (.seq (.any false (.pure0 none (.v (.mov 48 (.t 0)))
   (.pure0 none (.v (.mov 49 (.t 3)))
   (.pure0 none (.p (.idx 50 6 (.t 48) (.t 49)))
   (.pure0 none (.v (.fld 51 3 (.t 50)))
   (.pure0 none (.v (.load 52 false 1 (.t 51)))
   (.pure0 none (.v (.mov 53 (.t 0)))
   (.pure0 none (.v (.mov 54 (.t 1)))
   (.pure0 none (.p (.idx 55 6 (.t 53) (.t 54)))
   (.pure0 none (.v (.fld 56 3 (.t 55)))
   (.pure0 none (.v (.load 57 false 1 (.t 56)))
   (.pure0 none (.v (.bin 58 .lss false (.t 52) (.t 57)))
   (.pure0 none (.v (.mov 8 (.t 58)))
   .done)))))))))))))
  .ret)
  .skip))
 (.seq (.any false (.pure0 none (.v (.mov 59 (.t 0)))
  (.pure0 none (.v (.mov 60 (.t 3)))
  (.pure0 none (.p (.idx 61 6 (.t 59) (.t 60)))
  (.pure0 none (.v (.fld 62 3 (.t 61)))
  (.pure0 none (.v (.load 63 false 1 (.t 62)))
  (.pure0 none (.v (.mov 64 (.t 0)))
  (.pure0 none (.v (.mov 65 (.t 1)))
  (.pure0 none (.p (.idx 66 6 (.t 64) (.t 65)))
  (.pure0 none (.v (.fld 67 1 (.t 66)))
  (.pure0 none (.v (.load 68 false 1 (.t 67)))
  (.pure0 none (.v (.bin 69 .leq false (.t 63) (.t 68)))
  (.pure0 none (.v (.mov 8 (.t 69)))
  .done)))))))))))))
 .ret)))))))
theorem ok56 : FnOk E 56 70 [.tmp 8] mc56 := .of func56 (by kernel_rfl) (by kernel_rfl) (by kernel_rfl) (by kernel_rfl) (by kernel_rfl)
/-- (*alum/conflict.graph).order -/
def mc57 : MC :=
 (.seq (.ops [(none, (.v (.mov 2 (.c (.raw (.slice none 0 0)))))),
  (none, (.v (.mov 3 (.c (.bool false)))))])
 (.seq (.ops [(none, (.e (.mkmap 13))),
  (none, (.v (.mov 4 (.t 13))))])
 (.seq (.seq (.ops [(none, (.v (.mov 14 (.t 0)))),
  (none, (.v (.nil 15 (.t 14)))),
  (none, (.v (.fld 16 0 (.t 15)))),
  (none, (.v (.load 17 false 1 (.t 16)))),
  (none, (.p (.len 18 (.t 17)))),
  (none, (.v (.mov 19 (.c (.int .i64 0)))))])
 (.block 0 (.loop (.seq (.ops [(none, (.v (.bin 20 .lss false (.t 19) (.t 18))))])
   (.seq (.cond 20
    .skip
    (.exit 0))
   (.seq (.block 1 (.seq (.ops [(none, (.v (.mov 21 (.t 19)))),
     (none, (.p (.idx 22 6 (.t 17) (.t 19)))),
     (none, (.v (.load 23 true 6 (.t 22)))),
     (none, (.e (.alloc 6 [(.int .i64 0), (.int .i64 0), (.bool false), (.int .i64 0), (.raw (.slice none 0 0)), (.raw (.slice none 0 0))]))),
     (none, (.v (.mov 5 (.t 21)))),
     (none, (.e (.store 6 true (.t 6) (.t 23))))])
    (.seq (.seq (.ops [(none, (.v (.fld 24 2 (.t 6)))),
     (none, (.v (.load 25 false 1 (.t 24)))),
     (none, (.v (.not 26 (.t 25))))])
    (.cond 26
     (.exit 1)
     .skip))
    (.seq (.ops [(none, (.v (.mov 27 (.t 4)))),
     (none, (.v (.mov 28 (.t 5)))),
     (none, (.e (.mput (.int .i64) (.t 27) (.t 28) (.c (.int .i64 0)))))])
    (.seq (.ops [(none, (.v (.mov 29 (.t 0)))),
     (none, (.v (.nil 30 (.t 29)))),
     (none, (.v (.fld 31 0 (.t 30)))),
     (none, (.v (.load 32 false 1 (.t 31)))),
     (none, (.p (.len 33 (.t 32)))),
     (none, (.v (.mov 34 (.c (.int .i64 0)))))])
    (.block 2 (.loop (.seq (.ops [(none, (.v (.bin 35 .lss false (.t 34) (.t 33))))])
      (.seq (.cond 35
       .skip
       (.exit 2))
      (.seq (.block 3 (.seq (.ops [(none, (.v (.mov 36 (.t 34)))),
        (none, (.v (.mov 7 (.t 36))))])
       (.seq (.ops [(none, (.v (.mov 37 (.t 0)))),
        (none, (.v (.nil 38 (.t 37)))),
        (none, (.v (.fld 39 1 (.t 38)))),
        (none, (.v (.load 40 false 1 (.t 39)))),
        (none, (.v (.mov 41 (.t 7)))),
        (none, (.p (.idx 42 1 (.t 40) (.t 41)))),
        (none, (.v (.load 43 false 1 (.t 42)))),
        (none, (.v (.mov 44 (.t 5)))),
        (none, (.p (.idx 45 1 (.t 43) (.t 44)))),
        (none, (.v (.load 46 false 1 (.t 45)))),
        (none, (.v (.bin 47 .neq false (.t 46) (.c (.int .i64 0)))))])
       (.cond 47
        (.ops [(none, (.v (.mov 48 (.t 4)))),
         (none, (.v (.mov 49 (.t 5)))),
         (none, (.p (.look 50 false (.int .i64) (.int .i64 0) (.t 48) (.t 49)))),
         (none, (.v (.bin 51 .add false (.t 50) (.c (.int .i64 1))))),
         (none, (.e (.mput (.int .i64) (.t 48) (.t 49) (.t 51))))])
        .skip))))
      (.ops [(none, (.v (.bin 52 .add false (.t 34) (.c (.int .i64 1))))),
       (none, (.v (.mov 34 (.t 52))))])))))))))))
   (.ops [(none, (.v (.bin 53 .add false (.t 19) (.c (.int .i64 1))))),
    (none, (.v (.mov 19 (.t 53))))])))))))
 (.seq (.ops [(none, (.v (.mov 8 (.c (.raw (.slice none 0 0))))))])
 (.seq (.block 4 (.loop (.seq (.seq (.ops [(none, (.v (.mov 54 (.t 4)))),
    (none, (.p (.mlen 55 (.t 54)))),
    (none, (.v (.bin 56 .gtr false (.t 55) (.c (.int .i64 0)))))])
   (.cond 56
    .skip
    (.exit 4)))
   (.block 5 (.seq (.ops [(none, (.v (.mov 9 (.c (.int .i64 (-1))))))])
    (.seq (.seq (.ops [(none, (.v (.mov 57 (.t 4)))),
     (none, (.e (.rng 58 (.t 57))))])
    (.block 6 (.loop (.seq (.ops [(none, (.e (.nxt 59 (.t 58)))),
       (none, (.v (.ext 60 0 (.t 59))))])
      (.seq (.cond 60
       .skip
       (.exit 6))
      (.block 7 (.seq (.ops [(none, (.p (.ent 61 (.t 58)))),
        (none, (.v (.ext 62 0 (.t 61)))),
        (none, (.v (.ext 63 1 (.t 61)))),
        (none, (.v (.mov 10 (.t 62)))),
        (none, (.v (.mov 11 (.t 63))))])
       (.seq (.ops [(none, (.v (.mov 64 (.t 11)))),
        (none, (.v (.bin 65 .eql false (.t 64) (.c (.int .i64 0))))),
        (none, (.v (.mov 66 (.t 65)))),
        ((some (66, true)), (.v (.mov 67 (.t 9)))),
        ((some (66, true)), (.v (.bin 68 .lss false (.t 67) (.c (.int .i64 0))))),
        ((some (66, true)), (.v (.mov 69 (.t 68)))),
        ((some (69, false)), (.v (.mov 70 (.t 10)))),
        ((some (69, false)), (.v (.mov 71 (.t 9)))),
        ((some (69, false)), (.v (.bin 72 .lss false (.t 70) (.t 71)))),
        ((some (66, true)), (.v (.pick 73 (.t 69) (.c (.bool true)) (.t 72)))),
        (none, (.v (.pick 74 (.t 66) (.t 73) (.c (.bool false)))))])
       (.cond 74
        (.ops [(none, (.v (.mov 75 (.t 10)))),
         (none, (.v (.mov 9 (.t 75))))])
        .skip)))))))))
    (.seq (.seq (.ops [(none, (.v (.mov 76 (.t 9)))),
     (none, (.v (.bin 77 .lss false (.t 76) (.c (.int .i64 0)))))])
    (.cond 77
     (.seq (.ops [(none, (.v (.mov 2 (.c (.raw (.slice none 0 0)))))),
      (none, (.v (.mov 3 (.c (.bool false)))))])
     .ret)
     .skip))
    (.seq (.ops [(none, (.v (.mov 78 (.t 4)))),
     (none, (.v (.mov 79 (.t 9)))),
     (none, (.e (.mdel none (.int .i64) (.t 78) (.t 79))))])
    (.seq (.seq (.ops [(none, (.v (.mov 80 (.t 4)))),
     (none, (.e (.rng 81 (.t 80))))])
    (.block 8 (.loop (.seq (.ops [(none, (.e (.nxt 82 (.t 81)))),
       (none, (.v (.ext 83 0 (.t 82))))])
      (.seq (.cond 83
       .skip
       (.exit 8))
      (.block 9 (.seq (.ops [(none, (.p (.ent 84 (.t 81)))),
        (none, (.v (.ext 85 0 (.t 84)))),
        (none, (.v (.mov 12 (.t 85))))])
       (.seq (.ops [(none, (.v (.mov 86 (.t 0)))),
        (none, (.v (.nil 87 (.t 86)))),
        (none, (.v (.fld 88 1 (.t 87)))),
        (none, (.v (.load 89 false 1 (.t 88)))),
        (none, (.v (.mov 90 (.t 9)))),
        (none, (.p (.idx 91 1 (.t 89) (.t 90)))),
        (none, (.v (.load 92 false 1 (.t 91)))),
        (none, (.v (.mov 93 (.t 12)))),
        (none, (.p (.idx 94 1 (.t 92) (.t 93)))),
        (none, (.v (.load 95 false 1 (.t 94)))),
        (none, (.v (.bin 96 .neq false (.t 95) (.c (.int .i64 0)))))])
       (.cond 96
        (.ops [(none, (.v (.mov 97 (.t 4)))),
         (none, (.v (.mov 98 (.t 12)))),
         (none, (.p (.look 99 false (.int .i64) (.int .i64 0) (.t 97) (.t 98)))),
         (none, (.v (.bin 100 .sub false (.t 99) (.c (.int .i64 1))))),
         (none, (.e (.mput (.int .i64) (.t 97) (.t 98) (.t 100))))])
        .skip)))))))))
    (.ops [(none, (.v (.mov 101 (.t 8)))),
     (none, (.v (.mov 102 (.t 9)))),
     (none, (.e (.mkl 103 3 1 1 (.int .i64 0) [(0, (.t 102))]))),
     (none, (.e (.app 104 3 1 8 (.t 101) (.t 103)))),
     (none, (.v (.mov 8 (.t 104))))]))))))))))
 (.seq (.ops [(none, (.v (.mov 105 (.t 8)))),
  (none, (.v (.mov 2 (.t 105)))),
  (none, (.v (.mov 3 (.c (.bool true)))))])
 .ret))))))
theorem ok57 : FnOk E 57 106 [.tmp 2, .tmp 3] mc57 := .of func57 (by kernel_rfl) (by kernel_rfl) (by kernel_rfl) (by kernel_rfl) (by kernel_rfl)
/-- alum/alumref26.committed -/
def mc58 : MC :=
 (.seq (.ops [(none, (.v (.mov 2 (.c (.int .i64 0)))))])
 (.seq (.ops [(none, (.v (.mov 3 (.c (.int .i64 0)))))])
 (.seq (.seq (.ops [(none, (.v (.mov 4 (.c (.int .i64 0)))))])
 (.block 0 (.loop (.seq (.seq (.ops [(none, (.v (.mov 5 (.t 4)))),
    (none, (.v (.mov 6 (.t 0)))),
    (none, (.p (.len 7 (.t 6)))),
    (none, (.v (.bin 8 .lss false (.t 5) (.t 7))))])
   (.cond 8
    .skip
    (.exit 0)))
   (.seq (.block 1 (.seq (.ops [(none, (.v (.mov 11 (.t 0)))),
     (none, (.v (.mov 12 (.t 4)))),
     (none, (.p (.idx 13 6 (.t 11) (.t 12)))),
     (none, (.v (.fld 14 2 (.t 13)))),
     (none, (.v (.load 15 false 1 (.t 14))))])
    (.cond 15
     (.ops [(none, (.v (.mov 16 (.t 3)))),
      (none, (.v (.bin 17 .add false (.t 16) (.c (.int .i64 1))))),
      (none, (.v (.mov 3 (.t 17))))])
     .skip)))
   (.ops [(none, (.v (.mov 9 (.t 4)))),
    (none, (.v (.bin 10 .add false (.t 9) (.c (.int .i64 1))))),
    (none, (.v (.mov 4 (.t 10))))]))))))
 (.seq (.ops [(none, (.v (.mov 18 (.t 3)))),
  (none, (.v (.mov 2 (.t 18))))])
 .ret))))
theorem ok58 : FnOk E 58 19 [.tmp 2] mc58 := .of func58 (by kernel_rfl) (by kernel_rfl) (by kernel_rfl) (by kernel_rfl) (by kernel_rfl)
/-- alum/alumref26.next -/
def mc59 : MC :=
 (.seq (.ops [(none, (.v (.mov 4 (.c (.int .i64 0)))))])
 (.seq (.seq (.ops [(none, (.v (.mov 5 (.c (.int .i64 0)))))])
 (.block 0 (.loop (.seq (.seq (.ops [(none, (.v (.mov 9 (.t 5)))),
    (none, (.v (.mov 10 (.t 0)))),
    (none, (.p (.len 11 (.t 10)))),
    (none, (.v (.bin 12 .lss false (.t 9) (.t 11))))])
   (.cond 12
    .skip
    (.exit 0)))
   (.seq (.block 1 (.seq (.ops [(none, (.v (.mov 15 (.t 0)))),
     (none, (.v (.mov 16 (.t 5)))),
     (none, (.p (.idx 17 6 (.t 15) (.t 16)))),
     (none, (.v (.fld 18 2 (.t 17)))),
     (none, (.v (.load 19 false 1 (.t 18)))),
     (none, (.v (.mov 20 (.t 19)))),
     ((some (20, true)), (.v (.mov 21 (.t 1)))),
     ((some (20, true)), (.v (.mov 22 (.t 5)))),
     ((some (20, true)), (.p (.idx 23 1 (.t 21) (.t 22)))),
     ((some (20, true)), (.v (.load 24 false 1 (.t 23)))),
     ((some (20, true)), (.v (.not 25 (.t 24)))),
     (none, (.v (.pick 26 (.t 20) (.t 25) (.c (.bool false))))),
     (none, (.v (.mov 6 (.t 26))))])
    (.seq (.seq (.ops [(none, (.v (.mov 7 (.c (.int .i64 0)))))])
    (.block 2 (.loop (.seq (.seq (.ops [(none, (.v (.mov 27 (.t 7)))),
       (none, (.v (.mov 28 (.t 0)))),
       (none, (.p (.len 29 (.t 28)))),
       (none, (.v (.bin 30 .lss false (.t 27) (.t 29)))),
       (none, (.v (.mov 31 (.t 30)))),
       ((some (31, true)), (.v (.mov 32 (.t 6)))),
       (none, (.v (.pick 33 (.t 31) (.t 32) (.c (.bool false)))))])
      (.cond 33
       .skip
       (.exit 2)))
      (.seq (.block 3 (.seq (.ops [(none, (.v (.mov 36 (.t 0)))),
        (none, (.v (.mov 37 (.t 7)))),
        (none, (.v (.mov 38 (.t 5)))),
        (none, (.e (.call (some 39) 53 [(.t 36), (.t 37), (.t 38)]))),
        (none, (.v (.mov 8 (.t 39))))])
       (.ops [(none, (.v (.mov 40 (.t 1)))),
        (none, (.v (.mov 41 (.t 7)))),
        (none, (.p (.idx 42 1 (.t 40) (.t 41)))),
        (none, (.v (.load 43 false 1 (.t 42)))),
        (none, (.v (.mov 44 (.t 43)))),
        ((some (44, false)), (.v (.mov 45 (.t 8)))),
        ((some (44, false)), (.v (.not 46 (.t 45)))),
        (none, (.v (.pick 47 (.t 44) (.c (.bool true)) (.t 46)))),
        (none, (.v (.mov 6 (.t 47))))])))
      (.ops [(none, (.v (.mov 34 (.t 7)))),
       (none, (.v (.bin 35 .add false (.t 34) (.c (.int .i64 1))))),
       (none, (.v (.mov 7 (.t 35))))]))))))
    (.seq (.ops [(none, (.v (.mov 48 (.t 6))))])
    (.cond 48
     (.seq (.ops [(none, (.v (.mov 49 (.t 5)))),
      (none, (.v (.mov 4 (.t 49))))])
     .ret)
     .skip)))))
   (.ops [(none, (.v (.mov 13 (.t 5)))),
    (none, (.v (.bin 14 .add false (.t 13) (.c (.int .i64 1))))),
    (none, (.v (.mov 5 (.t 14))))]))))))
 (.seq (.ops [(none, (.v (.mov 4 (.c (.int .i64 (-1))))))])
 .ret)))
theorem ok59 : FnOk E 59 50 [.tmp 4] mc59 := .of func59 (by kernel_rfl) (by kernel_rfl) (by kernel_rfl) (by kernel_rfl) (by kernel_rfl)
/-- (*alum/conflict.graph).ways -/
def mc60 : MC :=
 (.seq (.ops [(none, (.v (.mov 4 (.c (.raw (.slice none 0 0))))))])
 (.seq (.ops [(none, (.v (.mov 11 (.t 0)))),
  (none, (.v (.nil 12 (.t 11)))),
  (none, (.v (.fld 13 0 (.t 12)))),
  (none, (.v (.load 14 false 1 (.t 13)))),
  (none, (.p (.len 15 (.t 14)))),
  (none, (.e (.mk 16 3 1 8 (.int .i64 0) (.t 15) (.t 15)))),
  (none, (.v (.mov 5 (.t 16))))])
 (.seq (.ops [(none, (.v (.mov 17 (.t 1)))),
  (none, (.e (.mkl 18 3 1 1 (.int .i64 0) [(0, (.t 17))]))),
  (none, (.v (.mov 6 (.t 18))))])
 (.seq (.seq (.ops [(none, (.v (.mov 7 (.c (.int .i64 0)))))])
 (.block 0 (.loop (.seq (.seq (.ops [(none, (.v (.mov 19 (.t 7)))),
    (none, (.v (.mov 20 (.t 6)))),
    (none, (.p (.len 21 (.t 20)))),
    (none, (.v (.bin 22 .lss false (.t 19) (.t 21))))])
   (.cond 22
    .skip
    (.exit 0)))
   (.seq (.block 1 (.seq (.ops [(none, (.v (.mov 25 (.t 6)))),
     (none, (.v (.mov 26 (.t 7)))),
     (none, (.p (.idx 27 1 (.t 25) (.t 26)))),
     (none, (.v (.load 28 false 1 (.t 27)))),
     (none, (.v (.mov 8 (.t 28))))])
    (.seq (.ops [(none, (.v (.mov 9 (.c (.int .i64 1)))))])
    (.seq (.seq (.ops [(none, (.v (.mov 29 (.t 7)))),
     (none, (.v (.bin 30 .gtr false (.t 29) (.c (.int .i64 0)))))])
    (.cond 30
     (.ops [(none, (.v (.mov 31 (.t 9)))),
      (none, (.v (.mov 32 (.t 5)))),
      (none, (.v (.mov 33 (.t 8)))),
      (none, (.p (.idx 34 1 (.t 32) (.t 33)))),
      (none, (.v (.load 35 false 1 (.t 34)))),
      (none, (.v (.bin 36 .add false (.t 31) (.t 35)))),
      (none, (.v (.mov 9 (.t 36))))])
     .skip))
    (.seq (.ops [(none, (.v (.mov 37 (.t 1)))),
     (none, (.v (.mov 10 (.t 37))))])
    (.block 2 (.loop (.seq (.seq (.ops [(none, (.v (.mov 38 (.t 10)))),
       (none, (.v (.mov 39 (.t 0)))),
       (none, (.v (.nil 40 (.t 39)))),
       (none, (.v (.fld 41 0 (.t 40)))),
       (none, (.v (.load 42 false 1 (.t 41)))),
       (none, (.p (.len 43 (.t 42)))),
       (none, (.v (.bin 44 .lss false (.t 38) (.t 43))))])
      (.cond 44
       .skip
       (.exit 2)))
      (.seq (.block 3 (.seq (.ops [(none, (.v (.mov 47 (.t 0)))),
        (none, (.v (.nil 48 (.t 47)))),
        (none, (.v (.fld 49 1 (.t 48)))),
        (none, (.v (.load 50 false 1 (.t 49)))),
        (none, (.v (.mov 51 (.t 10)))),
        (none, (.p (.idx 52 1 (.t 50) (.t 51)))),
        (none, (.v (.load 53 false 1 (.t 52)))),
        (none, (.v (.mov 54 (.t 8)))),
        (none, (.p (.idx 55 1 (.t 53) (.t 54)))),
        (none, (.v (.load 56 false 1 (.t 55)))),
        (none, (.v (.bin 57 .neq false (.t 56) (.c (.int .i64 0))))),
        (none, (.v (.mov 58 (.t 57)))),
        ((some (58, true)), (.v (.mov 59 (.t 5)))),
        ((some (58, true)), (.v (.mov 60 (.t 10)))),
        ((some (58, true)), (.p (.idx 61 1 (.t 59) (.t 60)))),
        ((some (58, true)), (.v (.load 62 false 1 (.t 61)))),
        ((some (58, true)), (.v (.bin 63 .eql false (.t 62) (.c (.int .i64 0))))),
        (none, (.v (.pick 64 (.t 58) (.t 63) (.c (.bool false)))))])
       (.cond 64
        (.seq (.ops [(none, (.v (.mov 65 (.t 5)))),
         (none, (.v (.mov 66 (.t 10)))),
         (none, (.v (.mov 67 (.t 9)))),
         (none, (.p (.idx 68 1 (.t 65) (.t 66)))),
         (none, (.e (.store 1 false (.t 68) (.t 67))))])
        (.seq (.ops [(none, (.v (.mov 69 (.t 10)))),
         (none, (.v (.mov 70 (.t 1)))),
         (none, (.v (.bin 71 .neq false (.t 69) (.t 70))))])
        (.cond 71
         (.ops [(none, (.v (.mov 72 (.t 6)))),
          (none, (.v (.mov 73 (.t 10)))),
          (none, (.e (.mkl 74 3 1 1 (.int .i64 0) [(0, (.t 73))]))),
          (none, (.e (.app 75 3 1 8 (.t 72) (.t 74)))),
          (none, (.v (.mov 6 (.t 75))))])
         .skip)))
        .skip)))
      (.ops [(none, (.v (.mov 45 (.t 10)))),
       (none, (.v (.bin 46 .add false (.t 45) (.c (.int .i64 1))))),
       (none, (.v (.mov 10 (.t 46))))]))))))))))
   (.ops [(none, (.v (.mov 23 (.t 7)))),
    (none, (.v (.bin 24 .add false (.t 23) (.c (.int .i64 1))))),
    (none, (.v (.mov 7 (.t 24))))]))))))
 (.seq (.ops [(none, (.v (.mov 76 (.t 5)))),
  (none, (.v (.mov 4 (.t 76))))])
 .ret)))))
theorem ok60 : FnOk E 60 77 [.tmp 4] mc60 := .of func60 (by kernel_rfl) (by kernel_rfl) (by kernel_rfl) (by kernel_rfl) (by kernel_rfl)
/-- alum/alumref26.far -/
def mc61 : MC :=
 (.seq (.ops [(none, (.v (.mov 4 (.c (.raw (.slice none 0 0))))))])
 (.seq (.ops [(none, (.v (.mov 11 (.t 0)))),
  (none, (.p (.len 12 (.t 11)))),
  (none, (.e (.mk 13 3 1 8 (.int .i64 0) (.t 12) (.t 12)))),
  (none, (.v (.mov 5 (.t 13))))])
 (.seq (.seq (.ops [(none, (.v (.mov 6 (.c (.int .i64 1)))))])
 (.block 0 (.loop (.seq (.seq (.ops [(none, (.v (.mov 14 (.t 6)))),
    (none, (.v (.mov 15 (.t 0)))),
    (none, (.p (.len 16 (.t 15)))),
    (none, (.v (.bin 17 .leq false (.t 14) (.t 16))))])
   (.cond 17
    .skip
    (.exit 0)))
   (.seq (.block 1 (.seq (.ops [(none, (.v (.mov 20 (.t 1)))),
     (none, (.v (.mov 7 (.t 20))))])
    (.block 2 (.loop (.seq (.seq (.ops [(none, (.v (.mov 21 (.t 7)))),
       (none, (.v (.mov 22 (.t 0)))),
       (none, (.p (.len 23 (.t 22)))),
       (none, (.v (.bin 24 .lss false (.t 21) (.t 23))))])
      (.cond 24
       .skip
       (.exit 2)))
      (.seq (.block 3 (.seq (.ops [(none, (.v (.mov 27 (.t 1)))),
        (none, (.v (.mov 8 (.t 27))))])
       (.block 4 (.loop (.seq (.seq (.ops [(none, (.v (.mov 28 (.t 8)))),
          (none, (.v (.mov 29 (.t 0)))),
          (none, (.p (.len 30 (.t 29)))),
          (none, (.v (.bin 31 .lss false (.t 28) (.t 30))))])
         (.cond 31
          .skip
          (.exit 4)))
         (.seq (.block 5 (.seq (.ops [(none, (.v (.mov 34 (.t 0)))),
           (none, (.v (.mov 35 (.t 7)))),
           (none, (.v (.mov 36 (.t 8)))),
           (none, (.e (.call (some 37) 53 [(.t 34), (.t 35), (.t 36)]))),
           (none, (.v (.mov 9 (.t 37))))])
          (.seq (.ops [(none, (.v (.mov 38 (.t 6)))),
           (none, (.v (.bin 39 .eql false (.t 38) (.c (.int .i64 1))))),
           (none, (.v (.mov 40 (.t 39)))),
           ((some (40, true)), (.v (.mov 41 (.t 8)))),
           ((some (40, true)), (.v (.mov 42 (.t 1)))),
           ((some (40, true)), (.v (.bin 43 .eql false (.t 41) (.t 42)))),
           (none, (.v (.pick 44 (.t 40) (.t 43) (.c (.bool false))))),
           (none, (.v (.mov 45 (.t 44)))),
           ((some (45, false)), (.v (.mov 46 (.t 6)))),
           ((some (45, false)), (.v (.bin 47 .gtr false (.t 46) (.c (.int .i64 1))))),
           ((some (45, false)), (.v (.mov 48 (.t 47)))),
           ((some (48, true)), (.v (.mov 49 (.t 8)))),
           ((some (48, true)), (.v (.mov 50 (.t 1)))),
           ((some (48, true)), (.v (.bin 51 .neq false (.t 49) (.t 50)))),
           ((some (45, false)), (.v (.pick 52 (.t 48) (.t 51) (.c (.bool false))))),
           ((some (45, false)), (.v (.mov 53 (.t 52)))),
           ((some (53, true)), (.v (.mov 54 (.t 5)))),
           ((some (53, true)), (.v (.mov 55 (.t 8)))),
           ((some (53, true)), (.p (.idx 56 1 (.t 54) (.t 55)))),
           ((some (53, true)), (.v (.load 57 false 1 (.t 56)))),
           ((some (53, true)), (.v (.mov 58 (.t 6)))),
           ((some (53, true)), (.v (.bin 59 .sub false (.t 58) (.c (.int .i64 1))))),
           ((some (53, true)), (.v (.bin 60 .eql false (.t 57) (.t 59)))),
           ((some (45, false)), (.v (.pick 61 (.t 53) (.t 60) (.c (.bool false))))),
           (none, (.v (.pick 62 (.t 45) (.c (.bool true)) (.t 61)))),
           (none, (.v (.mov 10 (.t 62))))])
          (.seq (.ops [(none, (.v (.mov 63 (.t 9)))),
           (none, (.v (.mov 64 (.t 63)))),
           ((some (64, true)), (.v (.mov 65 (.t 10)))),
           (none, (.v (.pick 66 (.t 64) (.t 65) (.c (.bool false))))),
           (none, (.v (.mov 67 (.t 66)))),
           ((some (67, true)), (.v (.mov 68 (.t 5)))),
           ((some (67, true)), (.v (.mov 69 (.t 7)))),
           ((some (67, true)), (.p (.idx 70 1 (.t 68) (.t 69)))),
           ((some (67, true)), (.v (.load 71 false 1 (.t 70)))),
           ((some (67, true)), (.v (.bin 72 .eql false (.t 71) (.c (.int .i64 0))))),
           (none, (.v (.pick 73 (.t 67) (.t 72) (.c (.bool false)))))])
          (.cond 73
           (.ops [(none, (.v (.mov 74 (.t 5)))),
            (none, (.v (.mov 75 (.t 7)))),
            (none, (.v (.mov 76 (.t 6)))),
            (none, (.p (.idx 77 1 (.t 74) (.t 75)))),
            (none, (.e (.store 1 false (.t 77) (.t 76))))])
           .skip)))))
         (.ops [(none, (.v (.mov 32 (.t 8)))),
          (none, (.v (.bin 33 .add false (.t 32) (.c (.int .i64 1))))),
          (none, (.v (.mov 8 (.t 33))))])))))))
      (.ops [(none, (.v (.mov 25 (.t 7)))),
       (none, (.v (.bin 26 .add false (.t 25) (.c (.int .i64 1))))),
       (none, (.v (.mov 7 (.t 26))))])))))))
   (.ops [(none, (.v (.mov 18 (.t 6)))),
    (none, (.v (.bin 19 .add false (.t 18) (.c (.int .i64 1))))),
    (none, (.v (.mov 6 (.t 19))))]))))))
 (.seq (.ops [(none, (.v (.mov 78 (.t 5)))),
  (none, (.v (.mov 4 (.t 78))))])
 .ret))))
theorem ok61 : FnOk E 61 79 [.tmp 4] mc61 := .of func61 (by kernel_rfl) (by kernel_rfl) (by kernel_rfl) (by kernel_rfl) (by kernel_rfl)
/-- alum/alumref26.step -/
def mc62 : MC :=
 (.seq (.ops [(none, (.v (.mov 10 (.c (.int .i64 0)))))])
 (.seq (.seq (.ops [(none, (.v (.mov 13 (.t 1)))),
  (none, (.v (.bin 14 .add false (.t 13) (.c (.int .i64 1))))),
  (none, (.v (.mov 11 (.t 14))))])
 (.block 0 (.loop (.seq (.seq (.ops [(none, (.v (.mov 15 (.t 11)))),
    (none, (.v (.mov 16 (.t 0)))),
    (none, (.p (.len 17 (.t 16)))),
    (none, (.v (.bin 18 .lss false (.t 15) (.t 17))))])
   (.cond 18
    .skip
    (.exit 0)))
   (.seq (.block 1 (.seq (.ops [(none, (.v (.mov 21 (.t 0)))),
     (none, (.v (.mov 22 (.t 2)))),
     (none, (.v (.mov 23 (.t 11)))),
     (none, (.e (.call (some 24) 53 [(.t 21), (.t 22), (.t 23)]))),
     (none, (.v (.mov 12 (.t 24))))])
    (.seq (.ops [(none, (.v (.mov 25 (.t 12)))),
     (none, (.v (.mov 26 (.t 25)))),
     ((some (26, true)), (.v (.mov 27 (.t 3)))),
     ((some (26, true)), (.v (.mov 28 (.t 11)))),
     ((some (26, true)), (.p (.idx 29 1 (.t 27) (.t 28)))),
     ((some (26, true)), (.v (.load 30 false 1 (.t 29)))),
     ((some (26, true)), (.v (.mov 31 (.t 4)))),
     ((some (26, true)), (.v (.bin 32 .eql false (.t 30) (.t 31)))),
     (none, (.v (.pick 33 (.t 26) (.t 32) (.c (.bool false)))))])
    (.cond 33
     (.seq (.ops [(none, (.v (.mov 34 (.t 11)))),
      (none, (.v (.mov 10 (.t 34))))])
     .ret)
     .skip))))
   (.ops [(none, (.v (.mov 19 (.t 11)))),
    (none, (.v (.bin 20 .add false (.t 19) (.c (.int .i64 1))))),
    (none, (.v (.mov 11 (.t 20))))]))))))
 (.seq (.ops [(none, (.v (.mov 35 (.t 1)))),
  (none, (.v (.mov 10 (.t 35))))])
 .ret)))
theorem ok62 : FnOk E 62 36 [.tmp 10] mc62 := .of func62 (by kernel_rfl) (by kernel_rfl) (by kernel_rfl) (by kernel_rfl) (by kernel_rfl)
/-- alum/conflict.Equivalent$1 -/
def mc63 : MC :=
 (.seq (.ops [(none, (.v (.mov 5 (.c (.int .i64 0)))))])
 (.seq (.ops [(none, (.v (.mov 6 (.c (.int .i64 (-1)))))),
  (none, (.v (.mov 7 (.c (.int .i64 0)))))])
 (.seq (.seq (.ops [(none, (.v (.load 10 false 1 (.t 2)))),
  (none, (.p (.len 11 (.t 10)))),
  (none, (.v (.mov 12 (.c (.int .i64 0)))))])
 (.block 0 (.loop (.seq (.ops [(none, (.v (.bin 13 .lss false (.t 12) (.t 11))))])
   (.seq (.cond 13
    .skip
    (.exit 0))
   (.seq (.block 1 (.seq (.ops [(none, (.v (.mov 14 (.t 12)))),
     (none, (.p (.idx 15 6 (.t 10) (.t 12)))),
     (none, (.v (.load 16 true 6 (.t 15)))),
     (none, (.e (.alloc 9 [(.int .i64 0), (.int .i64 0), (.bool false), (.int .i64 0), (.raw (.slice none 0 0)), (.raw (.slice none 0 0))]))),
     (none, (.v (.mov 8 (.t 14)))),
     (none, (.e (.store 6 true (.t 9) (.t 16))))])
    (.seq (.ops [(none, (.v (.load 17 true 6 (.t 9)))),
     (none, (.e (.call (some 18) 45 [(.t 17)]))),
     (none, (.v (.mov 19 (.t 18)))),
     ((some (19, true)), (.v (.fld 20 3 (.t 9)))),
     ((some (19, true)), (.v (.load 21 false 1 (.t 20)))),
     ((some (19, true)), (.v (.mov 22 (.t 1)))),
     ((some (19, true)), (.v (.bin 23 .leq false (.t 21) (.t 22)))),
     (none, (.v (.pick 24 (.t 19) (.t 23) (.c (.bool false))))),
     (none, (.v (.mov 25 (.t 24)))),
     ((some (25, true)), (.v (.fld 26 3 (.t 9)))),
     ((some (25, true)), (.v (.load 27 false 1 (.t 26)))),
     ((some (25, true)), (.v (.mov 28 (.t 7)))),
     ((some (25, true)), (.v (.bin 29 .gtr false (.t 27) (.t 28)))),
     (none, (.v (.pick 30 (.t 25) (.t 29) (.c (.bool false))))),
     (none, (.v (.mov 31 (.t 30)))),
     ((some (31, true)), (.v (.fld 32 5 (.t 9)))),
     ((some (31, true)), (.v (.load 33 false 1 (.t 32)))),
     ((some (31, true)), (.v (.mov 34 (.t 0)))),
     ((some (31, true)), (.e (.call (some 35) 64 [(.t 33), (.t 34)]))),
     (none, (.v (.pick 36 (.t 31) (.t 35) (.c (.bool false)))))])
    (.cond 36
     (.any false (.pure0 none (.v (.mov 37 (.t 8)))
      (.pure0 none (.v (.fld 38 3 (.t 9)))
      (.pure0 none (.v (.load 39 false 1 (.t 38)))
      (.pure0 none (.v (.mov 6 (.t 37)))
      (.pure0 none (.v (.mov 7 (.t 39)))
      .done))))))
     .skip))))
   (.ops [(none, (.v (.bin 40 .add false (.t 12) (.c (.int .i64 1))))),
    (none, (.v (.mov 12 (.t 40))))])))))))
 (.seq (.ops [(none, (.v (.mov 41 (.t 6)))),
  (none, (.v (.mov 5 (.t 41))))])
 .ret))))
theorem ok63 : FnOk E 63 42 [.tmp 5] mc63 := .of func63 (by kernel_rfl) (by kernel_rfl) (by kernel_rfl) (by kernel_rfl) (by kernel_rfl)
/-- slices.Contains[[]int,int] -/
def mc64 : MC :=
 (.seq (.ops [(none, (.v (.mov 4 (.c (.bool false)))))])
 (.seq (.ops [(none, (.v (.mov 5 (.t 0)))),
  (none, (.v (.mov 6 (.t 1)))),
  (none, (.e (.call (some 7) 83 [(.t 5), (.t 6)]))),
  (none, (.v (.bin 8 .geq false (.t 7) (.c (.int .i64 0))))),
  (none, (.v (.mov 4 (.t 8))))])
 .ret))
theorem ok64 : FnOk E 64 9 [.tmp 4] mc64 := .of func64 (by kernel_rfl) (by kernel_rfl) (by kernel_rfl) (by kernel_rfl) (by kernel_rfl)
/-- alum/conflict.Equivalent$2 -/
def mc65 : MC :=
 (.seq (.ops [(none, (.v (.mov 3 (.c (.int .i64 0)))))])
 (.seq (.seq (.ops [(none, (.v (.load 7 false 1 (.t 1)))),
  (none, (.v (.mov 8 (.t 0)))),
  (none, (.p (.look 9 true (.int .i64) (.int .i64 0) (.t 7) (.t 8)))),
  (none, (.v (.mov 6 (.t 9)))),
  (none, (.v (.ext 10 0 (.t 6)))),
  (none, (.v (.ext 11 1 (.t 6)))),
  (none, (.v (.mov 4 (.t 10)))),
  (none, (.v (.mov 5 (.t 11))))])
 (.seq (.ops [(none, (.v (.mov 12 (.t 5))))])
 (.cond 12
  (.seq (.ops [(none, (.v (.mov 13 (.t 4)))),
   (none, (.v (.mov 3 (.t 13))))])
  .ret)
  .skip)))
 (.seq (.ops [(none, (.v (.mov 3 (.c (.int .i64 (-1))))))])
 .ret)))
theorem ok65 : FnOk E 65 14 [.tmp 3] mc65 := .of func65 (by kernel_rfl) (by kernel_rfl) (by kernel_rfl) (by kernel_rfl) (by kernel_rfl)
/-- alum/alumref26.Once -/
def mc66 : MC :=
 (.seq (.ops [(none, (.v (.mov 4 (.c (.bool false)))))])
 (.seq (.seq (.ops [(none, (.v (.mov 7 (.t 1)))),
  (none, (.p (.len 8 (.t 7)))),
  (none, (.v (.mov 9 (.t 0)))),
  (none, (.e (.call (some 10) 58 [(.t 9)]))),
  (none, (.v (.bin 11 .neq false (.t 8) (.t 10))))])
 (.cond 11
  (.seq (.ops [(none, (.v (.mov 4 (.c (.bool false)))))])
  .ret)
  .skip))
 (.seq (.seq (.ops [(none, (.v (.mov 5 (.c (.int .i64 0)))))])
 (.block 0 (.loop (.seq (.seq (.ops [(none, (.v (.mov 12 (.t 5)))),
    (none, (.v (.mov 13 (.t 1)))),
    (none, (.p (.len 14 (.t 13)))),
    (none, (.v (.bin 15 .lss false (.t 12) (.t 14))))])
   (.cond 15
    .skip
    (.exit 0)))
   (.seq (.block 1 (.seq (.seq (.ops [(none, (.v (.mov 18 (.t 1)))),
     (none, (.v (.mov 19 (.t 5)))),
     (none, (.p (.idx 20 1 (.t 18) (.t 19)))),
     (none, (.v (.load 21 false 1 (.t 20)))),
     (none, (.v (.bin 22 .lss false (.t 21) (.c (.int .i64 0))))),
     (none, (.v (.mov 23 (.t 22)))),
     ((some (23, false)), (.v (.mov 24 (.t 1)))),
     ((some (23, false)), (.v (.mov 25 (.t 5)))),
     ((some (23, false)), (.p (.idx 26 1 (.t 24) (.t 25)))),
     ((some (23, false)), (.v (.load 27 false 1 (.t 26)))),
     ((some (23, false)), (.v (.mov 28 (.t 0)))),
     ((some (23, false)), (.p (.len 29 (.t 28)))),
     ((some (23, false)), (.v (.bin 30 .geq false (.t 27) (.t 29)))),
     (none, (.v (.pick 31 (.t 23) (.c (.bool true)) (.t 30))))])
    (.cond 31
     (.seq (.ops [(none, (.v (.mov 4 (.c (.bool false)))))])
     .ret)
     .skip))
    (.seq (.any false (.pure0 none (.v (.mov 32 (.t 1)))
     (.pure0 none (.v (.mov 33 (.t 5)))
     (.pure0 none (.p (.pre 34 1 (.t 32) (some (.t 33))))
     (.pure0 none (.v (.mov 35 (.t 1)))
     (.pure0 none (.v (.mov 36 (.t 5)))
     (.pure0 none (.p (.idx 37 1 (.t 35) (.t 36)))
     (.pure0 none (.v (.load 38 false 1 (.t 37)))
     (.alt none (.e (.call (some 39) 81 [(.t 34), (.t 38)]))
      (.base (.pure0 none (.v (.mov 6 (.t 39)))
      .done))
      .stop)))))))))
    (.seq (.ops [(none, (.v (.mov 40 (.t 6)))),
     (none, (.v (.mov 41 (.t 40)))),
     ((some (41, false)), (.v (.mov 42 (.t 0)))),
     ((some (41, false)), (.v (.mov 43 (.t 1)))),
     ((some (41, false)), (.v (.mov 44 (.t 5)))),
     ((some (41, false)), (.p (.idx 45 1 (.t 43) (.t 44)))),
     ((some (41, false)), (.v (.load 46 false 1 (.t 45)))),
     ((some (41, false)), (.p (.idx 47 6 (.t 42) (.t 46)))),
     ((some (41, false)), (.v (.fld 48 2 (.t 47)))),
     ((some (41, false)), (.v (.load 49 false 1 (.t 48)))),
     ((some (41, false)), (.v (.not 50 (.t 49)))),
     (none, (.v (.pick 51 (.t 41) (.c (.bool true)) (.t 50))))])
    (.cond 51
     (.seq (.ops [(none, (.v (.mov 4 (.c (.bool false)))))])
     .ret)
     .skip)))))
   (.ops [(none, (.v (.mov 16 (.t 5)))),
    (none, (.v (.bin 17 .add false (.t 16) (.c (.int .i64 1))))),
    (none, (.v (.mov 5 (.t 17))))]))))))
 (.seq (.ops [(none, (.v (.mov 4 (.c (.bool true)))))])
 .ret))))
theorem ok66 : FnOk E 66 52 [.tmp 4] mc66 := .of func66 (by kernel_rfl) (by kernel_rfl) (by kernel_rfl) (by kernel_rfl) (by kernel_rfl)
/-- alum/alumref26.before -/
def mc67 : MC :=
 (.seq (.ops [(none, (.v (.mov 8 (.c (.int .i64 0)))))])
 (.seq (.ops [(none, (.v (.mov 9 (.c (.int .i64 (-1))))))])
 (.seq (.seq (.ops [(none, (.v (.mov 10 (.c (.int .i64 0)))))])
 (.block 0 (.loop (.seq (.seq (.ops [(none, (.v (.mov 12 (.t 10)))),
    (none, (.v (.mov 13 (.t 2)))),
    (none, (.v (.bin 14 .lss false (.t 12) (.t 13))))])
   (.cond 14
    .skip
    (.exit 0)))
   (.seq (.block 1 (.seq (.ops [(none, (.v (.mov 17 (.t 0)))),
     (none, (.v (.mov 18 (.t 1)))),
     (none, (.v (.mov 19 (.t 10)))),
     (none, (.p (.idx 20 1 (.t 18) (.t 19)))),
     (none, (.v (.load 21 false 1 (.t 20)))),
     (none, (.p (.idx 22 6 (.t 17) (.t 21)))),
     (none, (.v (.fld 23 5 (.t 22)))),
     (none, (.v (.load 24 false 1 (.t 23)))),
     (none, (.v (.mov 25 (.t 3)))),
     (none, (.e (.call (some 26) 81 [(.t 24), (.t 25)]))),
     (none, (.v (.mov 11 (.t 26))))])
    (.seq (.ops [(none, (.v (.mov 27 (.t 11))))])
    (.cond 27
     (.ops [(none, (.v (.mov 28 (.t 1)))),
      (none, (.v (.mov 29 (.t 10)))),
      (none, (.p (.idx 30 1 (.t 28) (.t 29)))),
      (none, (.v (.load 31 false 1 (.t 30)))),
      (none, (.v (.mov 9 (.t 31))))])
     .skip))))
   (.ops [(none, (.v (.mov 15 (.t 10)))),
    (none, (.v (.bin 16 .add false (.t 15) (.c (.int .i64 1))))),
    (none, (.v (.mov 10 (.t 16))))]))))))
 (.seq (.ops [(none, (.v (.mov 32 (.t 9)))),
  (none, (.v (.mov 8 (.t 32))))])
 .ret))))
theorem ok67 : FnOk E 67 33 [.tmp 8] mc67 := .of func67 (by kernel_rfl) (by kernel_rfl) (by kernel_rfl) (by kernel_rfl) (by kernel_rfl)
/-- alum/alumref26.source -/
def mc68 : MC :=
 (.seq (.ops [(none, (.v (.mov 6 (.c (.int .i64 0)))))])
 (.seq (.ops [(none, (.v (.mov 7 (.c (.int .i64 (-1))))))])
 (.seq (.seq (.ops [(none, (.v (.mov 8 (.c (.int .i64 0)))))])
 (.block 0 (.loop (.seq (.seq (.ops [(none, (.v (.mov 11 (.t 8)))),
    (none, (.v (.mov 12 (.t 0)))),
    (none, (.p (.len 13 (.t 12)))),
    (none, (.v (.bin 14 .lss false (.t 11) (.t 13))))])
   (.cond 14
    .skip
    (.exit 0)))
   (.seq (.block 1 (.seq (.ops [(none, (.v (.mov 17 (.t 0)))),
     (none, (.v (.mov 18 (.t 8)))),
     (none, (.p (.idx 19 6 (.t 17) (.t 18)))),
     (none, (.v (.fld 20 5 (.t 19)))),
     (none, (.v (.load 21 false 1 (.t 20)))),
     (none, (.v (.mov 22 (.t 2)))),
     (none, (.e (.call (some 23) 81 [(.t 21), (.t 22)]))),
     (none, (.v (.mov 9 (.t 23))))])
    (.seq (.ops [(none, (.v (.mov 24 (.t 0)))),
     (none, (.v (.mov 25 (.t 8)))),
     (none, (.p (.idx 26 6 (.t 24) (.t 25)))),
     (none, (.v (.load 27 true 6 (.t 26)))),
     (none, (.e (.call (some 28) 75 [(.t 27)]))),
     (none, (.v (.mov 10 (.t 28))))])
    (.seq (.any false (.pure0 none (.v (.mov 29 (.t 9)))
     (.pure0 none (.v (.mov 30 (.t 29)))
     (.pure0 (some (30, true)) (.v (.mov 31 (.t 10)))
     (.pure0 none (.v (.pick 32 (.t 30) (.t 31) (.c (.bool false))))
     (.pure0 none (.v (.mov 33 (.t 32)))
     (.pure0 (some (33, true)) (.v (.mov 34 (.t 0)))
     (.pure0 (some (33, true)) (.v (.mov 35 (.t 8)))
     (.pure0 (some (33, true)) (.p (.idx 36 6 (.t 34) (.t 35)))
     (.pure0 (some (33, true)) (.v (.fld 37 3 (.t 36)))
     (.pure0 (some (33, true)) (.v (.load 38 false 1 (.t 37)))
     (.pure0 (some (33, true)) (.v (.mov 39 (.t 1)))
     (.pure0 (some (33, true)) (.v (.bin 40 .leq false (.t 38) (.t 39)))
     (.pure0 none (.v (.pick 41 (.t 33) (.t 40) (.c (.bool false))))
     (.pure0 none (.v (.mov 42 (.t 41)))
     (.pure0 (some (42, true)) (.v (.mov 43 (.t 7)))
     (.pure0 (some (42, true)) (.v (.bin 44 .lss false (.t 43) (.c (.int .i64 0))))
     (.pure0 (some (42, true)) (.v (.mov 45 (.t 44)))
     (.pure0 (some (45, false)) (.v (.mov 46 (.t 0)))
     (.pure0 (some (45, false)) (.v (.mov 47 (.t 8)))
     (.pure0 (some (45, false)) (.p (.idx 48 6 (.t 46) (.t 47)))
     (.pure0 (some (45, false)) (.v (.fld 49 3 (.t 48)))
     (.pure0 (some (45, false)) (.v (.load 50 false 1 (.t 49)))
     (.pure0 (some (45, false)) (.v (.mov 51 (.t 0)))
     (.pure0 (some (45, false)) (.v (.mov 52 (.t 7)))
     (.pure0 (some (45, false)) (.p (.idx 53 6 (.t 51) (.t 52)))
     (.pure0 (some (45, false)) (.v (.fld 54 3 (.t 53)))
     (.pure0 (some (45, false)) (.v (.load 55 false 1 (.t 54)))
     (.pure0 (some (45, false)) (.v (.bin 56 .gtr false (.t 50) (.t 55)))
     (.pure0 (some (42, true)) (.v (.pick 57 (.t 45) (.c (.bool true)) (.t 56)))
     (.pure0 none (.v (.pick 58 (.t 42) (.t 57) (.c (.bool false))))
     .done)))))))))))))))))))))))))))))))
    (.cond 58
     (.ops [(none, (.v (.mov 59 (.t 8)))),
      (none, (.v (.mov 7 (.t 59))))])
     .skip)))))
   (.ops [(none, (.v (.mov 15 (.t 8)))),
    (none, (.v (.bin 16 .add false (.t 15) (.c (.int .i64 1))))),
    (none, (.v (.mov 8 (.t 16))))]))))))
 (.seq (.ops [(none, (.v (.mov 60 (.t 7)))),
  (none, (.v (.mov 6 (.t 60))))])
 .ret))))
theorem ok68 : FnOk E 68 61 [.tmp 6] mc68 := .of func68 (by kernel_rfl) (by kernel_rfl) (by kernel_rfl) (by kernel_rfl) (by kernel_rfl)
/-- slices.Clone[[]alum/api.Access,alum/api.Access] -/
def mc69 : MC :=
 (.seq (.ops [(none, (.v (.mov 2 (.c (.raw (.slice none 0 0))))))])
 (.seq (.seq (.ops [(none, (.v (.mov 3 (.t 0)))),
  (none, (.v (.eq 4 false .slc (.t 3) (.c (.raw (.slice none 0 0))))))])
 (.cond 4
  (.seq (.ops [(none, (.v (.mov 2 (.c (.raw (.slice none 0 0))))))])
  .ret)
  .skip))
 (.seq (.ops [(none, (.e (.mkl 5 44 6 0 (.agg [(.int .i64 0), (.int .i64 0), (.bool false), (.int .i64 0), (.raw (.slice none 0 0)), (.raw (.slice none 0 0))]) []))),
  (none, (.v (.mov 6 (.t 0)))),
  (none, (.e (.app 7 44 6 80 (.t 5) (.t 6)))),
  (none, (.v (.mov 2 (.t 7))))])
 .ret)))
theorem ok69 : FnOk E 69 8 [.tmp 2] mc69 := .of func69 (by kernel_rfl) (by kernel_rfl) (by kernel_rfl) (by kernel_rfl) (by kernel_rfl)
/-- alum/conflict.Admit$1 -/
def mc70 : MC :=
 (.seq (.ops [(none, (.v (.mov 7 (.c (.bool false)))))])
 (.seq (.ops [(none, (.v (.mov 8 (.t 0)))),
  (none, (.v (.load 9 false 1 (.t 3)))),
  (none, (.v (.bin 10 .eql false (.t 8) (.t 9)))),
  (none, (.v (.mov 11 (.t 10)))),
  ((some (11, false)), (.v (.mov 12 (.t 1)))),
  ((some (11, false)), (.v (.load 13 false 1 (.t 3)))),
  ((some (11, false)), (.v (.bin 14 .eql false (.t 12) (.t 13)))),
  (none, (.v (.pick 15 (.t 11) (.c (.bool true)) (.t 14)))),
  (none, (.v (.mov 16 (.t 15)))),
  ((some (16, false)), (.v (.mov 17 (.t 2)))),
  ((some (16, false)), (.v (.load 18 false 1 (.t 3)))),
  ((some (16, false)), (.v (.bin 19 .eql false (.t 17) (.t 18)))),
  (none, (.v (.pick 20 (.t 16) (.c (.bool true)) (.t 19)))),
  (none, (.v (.mov 7 (.t 20))))])
 .ret))
theorem ok70 : FnOk E 70 21 [.tmp 7] mc70 := .of func70 (by kernel_rfl) (by kernel_rfl) (by kernel_rfl) (by kernel_rfl) (by kernel_rfl)
/-- alum/alumref26.Last -/
def mc71 : MC :=
 (.seq (.ops [(none, (.v (.mov 2 (.c (.int .i64 0)))))])
 (.seq (.ops [(none, (.v (.mov 3 (.c (.int .i64 0)))))])
 (.seq (.seq (.ops [(none, (.v (.mov 4 (.c (.int .i64 0)))))])
 (.block 0 (.loop (.seq (.seq (.ops [(none, (.v (.mov 5 (.t 4)))),
    (none, (.v (.mov 6 (.t 0)))),
    (none, (.p (.len 7 (.t 6)))),
    (none, (.v (.bin 8 .lss false (.t 5) (.t 7))))])
   (.cond 8
    .skip
    (.exit 0)))
   (.seq (.block 1 (.any false (.pure0 none (.v (.mov 11 (.t 3)))
     (.pure0 none (.v (.mov 12 (.t 0)))
     (.pure0 none (.v (.mov 13 (.t 4)))
     (.pure0 none (.p (.idx 14 6 (.t 12) (.t 13)))
     (.pure0 none (.v (.fld 15 3 (.t 14)))
     (.pure0 none (.v (.load 16 false 1 (.t 15)))
     (.pure0 none (.v (.mov 17 (.t 0)))
     (.pure0 none (.v (.mov 18 (.t 4)))
     (.pure0 none (.p (.idx 19 6 (.t 17) (.t 18)))
     (.pure0 none (.v (.fld 20 1 (.t 19)))
     (.pure0 none (.v (.load 21 false 1 (.t 20)))
     (.pure0 none (.v (.max 22 [(.t 11), (.t 16), (.t 21)]))
     (.pure0 none (.v (.mov 3 (.t 22)))
     .done)))))))))))))))
   (.ops [(none, (.v (.mov 9 (.t 4)))),
    (none, (.v (.bin 10 .add false (.t 9) (.c (.int .i64 1))))),
    (none, (.v (.mov 4 (.t 10))))]))))))
 (.seq (.ops [(none, (.v (.mov 23 (.t 3)))),
  (none, (.v (.mov 2 (.t 23))))])
 .ret))))
theorem ok71 : FnOk E 71 24 [.tmp 2] mc71 := .of func71 (by kernel_rfl) (by kernel_rfl) (by kernel_rfl) (by kernel_rfl) (by kernel_rfl)
/-- alum/alumref26.With -/
def mc72 : MC :=
 (.seq (.ops [(none, (.v (.mov 6 (.c (.raw (.slice none 0 0))))))])
 (.seq (.ops [(none, (.e (.mkl 8 44 6 0 (.agg [(.int .i64 0), (.int .i64 0), (.bool false), (.int .i64 0), (.raw (.slice none 0 0)), (.raw (.slice none 0 0))]) []))),
  (none, (.v (.mov 9 (.t 0)))),
  (none, (.e (.app 10 44 6 80 (.t 8) (.t 9)))),
  (none, (.v (.mov 7 (.t 10))))])
 (.seq (.ops [(none, (.v (.mov 11 (.t 7)))),
  (none, (.v (.mov 12 (.t 1)))),
  (none, (.p (.idx 13 6 (.t 11) (.t 12)))),
  (none, (.v (.fld 14 2 (.t 13)))),
  (none, (.e (.store 1 false (.t 14) (.c (.bool true)))))])
 (.seq (.ops [(none, (.v (.mov 15 (.t 7)))),
  (none, (.v (.mov 16 (.t 1)))),
  (none, (.v (.mov 17 (.t 2)))),
  (none, (.p (.idx 18 6 (.t 15) (.t 16)))),
  (none, (.v (.fld 19 3 (.t 18)))),
  (none, (.e (.store 1 false (.t 19) (.t 17))))])
 (.seq (.ops [(none, (.v (.mov 20 (.t 7)))),
  (none, (.v (.mov 6 (.t 20))))])
 .ret)))))
theorem ok72 : FnOk E 72 21 [.tmp 6] mc72 := .of func72 (by kernel_rfl) (by kernel_rfl) (by kernel_rfl) (by kernel_rfl) (by kernel_rfl)
/-- slices.ContainsFunc[[][2]int,[2]int] -/
def mc73 : MC :=
 (.seq (.ops [(none, (.v (.mov 4 (.c (.bool false)))))])
 (.seq (.ops [(none, (.v (.mov 5 (.t 0)))),
  (none, (.v (.mov 6 (.t 1)))),
  (none, (.e (.call (some 7) 84 [(.t 5), (.t 6)]))),
  (none, (.v (.bin 8 .geq false (.t 7) (.c (.int .i64 0))))),
  (none, (.v (.mov 4 (.t 8))))])
 .ret))
theorem ok73 : FnOk E 73 9 [.tmp 4] mc73 := .of func73 (by kernel_rfl) (by kernel_rfl) (by kernel_rfl) (by kernel_rfl) (by kernel_rfl)
/-- alum/conflict.Safe$1 -/
def mc74 : MC :=
 (.seq (.ops [(none, (.e (.box 3 (.t 0)))),
  (none, (.v (.mov 4 (.c (.bool false)))))])
 (.seq (.any false (.pure0 none (.v (.load 5 false 1 (.t 1)))
  (.pure0 none (.p (.aidx 6 2 1 (.t 3) (.c (.int .i64 0))))
  (.pure0 none (.v (.load 7 false 1 (.t 6)))
  (.pure0 none (.p (.idx 8 6 (.t 5) (.t 7)))
  (.pure0 none (.v (.fld 9 3 (.t 8)))
  (.pure0 none (.v (.load 10 false 1 (.t 9)))
  (.pure0 none (.v (.load 11 false 1 (.t 2)))
  (.pure0 none (.v (.bin 12 .gtr false (.t 10) (.t 11)))
  (.pure0 none (.v (.mov 13 (.t 12)))
  (.pure0 (some (13, true)) (.v (.load 14 false 1 (.t 1)))
  (.pure0 (some (13, true)) (.p (.aidx 15 2 1 (.t 3) (.c (.int .i64 1))))
  (.pure0 (some (13, true)) (.v (.load 16 false 1 (.t 15)))
  (.pure0 (some (13, true)) (.p (.idx 17 6 (.t 14) (.t 16)))
  (.pure0 (some (13, true)) (.v (.fld 18 3 (.t 17)))
  (.pure0 (some (13, true)) (.v (.load 19 false 1 (.t 18)))
  (.pure0 (some (13, true)) (.v (.load 20 false 1 (.t 2)))
  (.pure0 (some (13, true)) (.v (.bin 21 .leq false (.t 19) (.t 20)))
  (.pure0 none (.v (.pick 22 (.t 13) (.t 21) (.c (.bool false))))
  (.pure0 none (.v (.mov 4 (.t 22)))
  .done))))))))))))))))))))
 .ret))
theorem ok74 : FnOk E 74 23 [.tmp 4] mc74 := .of func74 (by kernel_rfl) (by kernel_rfl) (by kernel_rfl) (by kernel_rfl) (by kernel_rfl)
/-- alum/alumref26.writer -/
def mc75 : MC :=
 (.seq (.ops [(none, (.e (.box 1 (.t 0)))),
  (none, (.v (.mov 2 (.c (.bool false)))))])
 (.seq (.ops [(none, (.v (.fld 3 2 (.t 1)))),
  (none, (.v (.load 4 false 1 (.t 3)))),
  (none, (.v (.mov 5 (.t 4)))),
  ((some (5, true)), (.v (.fld 6 5 (.t 1)))),
  ((some (5, true)), (.v (.load 7 false 1 (.t 6)))),
  ((some (5, true)), (.p (.len 8 (.t 7)))),
  ((some (5, true)), (.v (.bin 9 .gtr false (.t 8) (.c (.int .i64 0))))),
  (none, (.v (.pick 10 (.t 5) (.t 9) (.c (.bool false))))),
  (none, (.v (.mov 2 (.t 10))))])
 .ret))
theorem ok75 : FnOk E 75 11 [.tmp 2] mc75 := .of func75 (by kernel_rfl) (by kernel_rfl) (by kernel_rfl) (by kernel_rfl) (by kernel_rfl)
/-- alum/alumref26.items -/
def mc76 : MC :=
 (.seq (.ops [(none, (.v (.mov 2 (.c (.raw (.slice none 0 0))))))])
 (.seq (.ops [(none, (.v (.mov 3 (.c (.raw (.slice none 0 0))))))])
 (.seq (.seq (.ops [(none, (.v (.mov 4 (.c (.int .i64 0)))))])
 (.block 0 (.loop (.seq (.seq (.ops [(none, (.v (.mov 5 (.t 4)))),
    (none, (.v (.bin 6 .lss false (.t 5) (.c (.int .i64 8)))))])
   (.cond 6
    .skip
    (.exit 0)))
   (.seq (.block 1 (.seq (.ops [(none, (.v (.mov 9 (.t 0)))),
     (none, (.v (.mov 10 (.t 4)))),
     (none, (.p (.shr 11 (.t 9) (.t 10)))),
     (none, (.v (.bin 12 .and false (.t 11) (.c (.int .u8 1))))),
     (none, (.v (.bin 13 .eql false (.t 12) (.c (.int .u8 1)))))])
    (.cond 13
     (.ops [(none, (.v (.mov 14 (.t 3)))),
      (none, (.v (.mov 15 (.t 4)))),
      (none, (.e (.mkl 16 3 1 1 (.int .i64 0) [(0, (.t 15))]))),
      (none, (.e (.app 17 3 1 8 (.t 14) (.t 16)))),
      (none, (.v (.mov 3 (.t 17))))])
     .skip)))
   (.ops [(none, (.v (.mov 7 (.t 4)))),
    (none, (.v (.bin 8 .add false (.t 7) (.c (.int .i64 1))))),
    (none, (.v (.mov 4 (.t 8))))]))))))
 (.seq (.ops [(none, (.v (.mov 18 (.t 3)))),
  (none, (.v (.mov 2 (.t 18))))])
 .ret))))
theorem ok76 : FnOk E 76 19 [.tmp 2] mc76 := .of func76 (by kernel_rfl) (by kernel_rfl) (by kernel_rfl) (by kernel_rfl) (by kernel_rfl)
/-- alum/conflict.ascending -/
def mc77 : MC :=
 (.seq (.ops [(none, (.v (.mov 2 (.c (.bool false)))))])
 (.seq (.seq (.ops [(none, (.v (.mov 3 (.c (.int .i64 1)))))])
 (.block 0 (.loop (.seq (.seq (.ops [(none, (.v (.mov 4 (.t 3)))),
    (none, (.v (.mov 5 (.t 0)))),
    (none, (.p (.len 6 (.t 5)))),
    (none, (.v (.bin 7 .lss false (.t 4) (.t 6))))])
   (.cond 7
    .skip
    (.exit 0)))
   (.seq (.block 1 (.seq (.any false (.pure0 none (.v (.mov 10 (.t 0)))
     (.pure0 none (.v (.mov 11 (.t 3)))
     (.pure0 none (.p (.idx 12 1 (.t 10) (.t 11)))
     (.pure0 none (.v (.load 13 false 1 (.t 12)))
     (.pure0 none (.v (.mov 14 (.t 0)))
     (.pure0 none (.v (.mov 15 (.t 3)))
     (.pure0 none (.v (.bin 16 .sub false (.t 15) (.c (.int .i64 1))))
     (.pure0 none (.p (.idx 17 1 (.t 14) (.t 16)))
     (.pure0 none (.v (.load 18 false 1 (.t 17)))
     (.pure0 none (.v (.bin 19 .leq false (.t 13) (.t 18)))
     .done)))))))))))
    (.cond 19
     (.seq (.ops [(none, (.v (.mov 2 (.c (.bool false)))))])
     .ret)
     .skip)))
   (.ops [(none, (.v (.mov 8 (.t 3)))),
    (none, (.v (.bin 9 .add false (.t 8) (.c (.int .i64 1))))),
    (none, (.v (.mov 3 (.t 9))))]))))))
 (.seq (.ops [(none, (.v (.mov 2 (.c (.bool true)))))])
 .ret)))
theorem ok77 : FnOk E 77 20 [.tmp 2] mc77 := .of func77 (by kernel_rfl) (by kernel_rfl) (by kernel_rfl) (by kernel_rfl) (by kernel_rfl)
/-- slices.ContainsFunc[[]int,int] -/
def mc78 : MC :=
 (.seq (.ops [(none, (.v (.mov 4 (.c (.bool false)))))])
 (.seq (.ops [(none, (.v (.mov 5 (.t 0)))),
  (none, (.v (.mov 6 (.t 1)))),
  (none, (.e (.call (some 7) 85 [(.t 5), (.t 6)]))),
  (none, (.v (.bin 8 .geq false (.t 7) (.c (.int .i64 0))))),
  (none, (.v (.mov 4 (.t 8))))])
 .ret))
theorem ok78 : FnOk E 78 9 [.tmp 4] mc78 := .of func78 (by kernel_rfl) (by kernel_rfl) (by kernel_rfl) (by kernel_rfl) (by kernel_rfl)
/-- (alum/conflict.set[int]).meets$1 -/
def mc79 : MC :=
 (.seq (.ops [(none, (.v (.mov 3 (.c (.bool false)))))])
 (.seq (.ops [(none, (.v (.load 4 false 1 (.t 1)))),
  (none, (.v (.mov 5 (.t 0)))),
  (none, (.p (.look 6 false (.int .i64) (.bool false) (.t 4) (.t 5)))),
  (none, (.v (.mov 3 (.t 6))))])
 .ret))
theorem ok79 : FnOk E 79 7 [.tmp 3] mc79 := .of func79 (by kernel_rfl) (by kernel_rfl) (by kernel_rfl) (by kernel_rfl) (by kernel_rfl)
/-- alum/alumref26.rising -/
def mc80 : MC :=
 (.seq (.ops [(none, (.v (.mov 2 (.c (.bool false)))))])
 (.seq (.seq (.ops [(none, (.v (.mov 3 (.c (.int .i64 1)))))])
 (.block 0 (.loop (.seq (.seq (.ops [(none, (.v (.mov 4 (.t 3)))),
    (none, (.v (.mov 5 (.t 0)))),
    (none, (.p (.len 6 (.t 5)))),
    (none, (.v (.bin 7 .lss false (.t 4) (.t 6))))])
   (.cond 7
    .skip
    (.exit 0)))
   (.seq (.block 1 (.seq (.any false (.pure0 none (.v (.mov 10 (.t 0)))
     (.pure0 none (.v (.mov 11 (.t 3)))
     (.pure0 none (.v (.bin 12 .sub false (.t 11) (.c (.int .i64 1))))
     (.pure0 none (.p (.idx 13 1 (.t 10) (.t 12)))
     (.pure0 none (.v (.load 14 false 1 (.t 13)))
     (.pure0 none (.v (.mov 15 (.t 0)))
     (.pure0 none (.v (.mov 16 (.t 3)))
     (.pure0 none (.p (.idx 17 1 (.t 15) (.t 16)))
     (.pure0 none (.v (.load 18 false 1 (.t 17)))
     (.pure0 none (.v (.bin 19 .geq false (.t 14) (.t 18)))
     .done)))))))))))
    (.cond 19
     (.seq (.ops [(none, (.v (.mov 2 (.c (.bool false)))))])
     .ret)
     .skip)))
   (.ops [(none, (.v (.mov 8 (.t 3)))),
    (none, (.v (.bin 9 .add false (.t 8) (.c (.int .i64 1))))),
    (none, (.v (.mov 3 (.t 9))))]))))))
 (.seq (.ops [(none, (.v (.mov 2 (.c (.bool true)))))])
 .ret)))
theorem ok80 : FnOk E 80 20 [.tmp 2] mc80 := .of func80 (by kernel_rfl) (by kernel_rfl) (by kernel_rfl) (by kernel_rfl) (by kernel_rfl)
/-- alum/alumref26.has -/
def mc81 : MC :=
 (.seq (.ops [(none, (.v (.mov 4 (.c (.bool false)))))])
 (.seq (.seq (.ops [(none, (.v (.mov 5 (.c (.int .i64 0)))))])
 (.block 0 (.loop (.seq (.seq (.ops [(none, (.v (.mov 6 (.t 5)))),
    (none, (.v (.mov 7 (.t 0)))),
    (none, (.p (.len 8 (.t 7)))),
    (none, (.v (.bin 9 .lss false (.t 6) (.t 8))))])
   (.cond 9
    .skip
    (.exit 0)))
   (.seq (.block 1 (.seq (.ops [(none, (.v (.mov 12 (.t 0)))),
     (none, (.v (.mov 13 (.t 5)))),
     (none, (.p (.idx 14 1 (.t 12) (.t 13)))),
     (none, (.v (.load 15 false 1 (.t 14)))),
     (none, (.v (.mov 16 (.t 1)))),
     (none, (.v (.bin 17 .eql false (.t 15) (.t 16))))])
    (.cond 17
     (.seq (.ops [(none, (.v (.mov 4 (.c (.bool true)))))])
     .ret)
     .skip)))
   (.ops [(none, (.v (.mov 10 (.t 5)))),
    (none, (.v (.bin 11 .add false (.t 10) (.c (.int .i64 1))))),
    (none, (.v (.mov 5 (.t 11))))]))))))
 (.seq (.ops [(none, (.v (.mov 4 (.c (.bool false)))))])
 .ret)))
theorem ok81 : FnOk E 81 18 [.tmp 4] mc81 := .of func81 (by kernel_rfl) (by kernel_rfl) (by kernel_rfl) (by kernel_rfl) (by kernel_rfl)
/-- (*alum/conflict.graph).dangerous -/
def mc82 : MC :=
 (.seq (.ops [(none, (.v (.mov 8 (.c (.bool false)))))])
 (.seq (.seq (.ops [(none, (.v (.mov 12 (.t 0)))),
  (none, (.v (.nil 13 (.t 12)))),
  (none, (.v (.fld 14 1 (.t 13)))),
  (none, (.v (.load 15 false 1 (.t 14)))),
  (none, (.v (.mov 16 (.t 1)))),
  (none, (.p (.idx 17 1 (.t 15) (.t 16)))),
  (none, (.v (.load 18 false 1 (.t 17)))),
  (none, (.v (.mov 19 (.t 2)))),
  (none, (.p (.idx 20 1 (.t 18) (.t 19)))),
  (none, (.v (.load 21 false 1 (.t 20)))),
  (none, (.v (.bin 22 .and false (.t 21) (.c (.int .i64 2))))),
  (none, (.v (.bin 23 .eql false (.t 22) (.c (.int .i64 0))))),
  (none, (.v (.mov 24 (.t 23)))),
  ((some (24, false)), (.v (.mov 25 (.t 0)))),
  ((some (24, false)), (.v (.nil 26 (.t 25)))),
  ((some (24, false)), (.v (.fld 27 1 (.t 26)))),
  ((some (24, false)), (.v (.load 28 false 1 (.t 27)))),
  ((some (24, false)), (.v (.mov 29 (.t 2)))),
  ((some (24, false)), (.p (.idx 30 1 (.t 28) (.t 29)))),
  ((some (24, false)), (.v (.load 31 false 1 (.t 30)))),
  ((some (24, false)), (.v (.mov 32 (.t 3)))),
  ((some (24, false)), (.p (.idx 33 1 (.t 31) (.t 32)))),
  ((some (24, false)), (.v (.load 34 false 1 (.t 33)))),
  ((some (24, false)), (.v (.bin 35 .and false (.t 34) (.c (.int .i64 2))))),
  ((some (24, false)), (.v (.bin 36 .eql false (.t 35) (.c (.int .i64 0))))),
  (none, (.v (.pick 37 (.t 24) (.c (.bool true)) (.t 36))))])
 (.cond 37
  (.seq (.ops [(none, (.v (.mov 8 (.c (.bool false)))))])
  .ret)
  .skip))
 (.seq (.any true (.pure0 none (.v (.mov 38 (.t 0)))
  (.pure0 none (.v (.nil 39 (.t 38)))
  (.pure0 none (.v (.fld 40 0 (.t 39)))
  (.pure0 none (.v (.load 41 false 1 (.t 40)))
  (.pure0 none (.v (.mov 42 (.t 1)))
  (.pure0 none (.p (.idx 43 6 (.t 41) (.t 42)))
  (.pure0 none (.v (.load 44 true 6 (.t 43)))
  (.pure0 none (.v (.mov 45 (.t 0)))
  (.pure0 none (.v (.nil 46 (.t 45)))
  (.pure0 none (.v (.fld 47 0 (.t 46)))
  (.pure0 none (.v (.load 48 false 1 (.t 47)))
  (.pure0 none (.v (.mov 49 (.t 2)))
  (.pure0 none (.p (.idx 50 6 (.t 48) (.t 49)))
  (.pure0 none (.v (.load 51 true 6 (.t 50)))
  (.pure0 none (.v (.mov 52 (.t 0)))
  (.pure0 none (.v (.nil 53 (.t 52)))
  (.pure0 none (.v (.fld 54 0 (.t 53)))
  (.pure0 none (.v (.load 55 false 1 (.t 54)))
  (.pure0 none (.v (.mov 56 (.t 3)))
  (.pure0 none (.p (.idx 57 6 (.t 55) (.t 56)))
  (.pure0 none (.v (.load 58 true 6 (.t 57)))
  (.alt none (.e (.alloc 9 [(.int .i64 0), (.int .i64 0), (.bool false), (.int .i64 0), (.raw (.slice none 0 0)), (.raw (.slice none 0 0))]))
   (.alt none (.e (.alloc 10 [(.int .i64 0), (.int .i64 0), (.bool false), (.int .i64 0), (.raw (.slice none 0 0)), (.raw (.slice none 0 0))]))
    (.alt none (.e (.alloc 11 [(.int .i64 0), (.int .i64 0), (.bool false), (.int .i64 0), (.raw (.slice none 0 0)), (.raw (.slice none 0 0))]))
     (.alt none (.e (.store 6 true (.t 9) (.t 44)))
      (.alt none (.e (.store 6 true (.t 10) (.t 51)))
       (.alt none (.e (.store 6 true (.t 11) (.t 58)))
        .done
        .stop)
       .stop)
      .stop)
     .stop)
    (.alt none (.e (.alloc 11 [(.int .i64 0), (.int .i64 0), (.bool false), (.int .i64 0), (.raw (.slice none 0 0)), (.raw (.slice none 0 0))]))
    (.alt none (.e (.alloc 10 [(.int .i64 0), (.int .i64 0), (.bool false), (.int .i64 0), (.raw (.slice none 0 0)), (.raw (.slice none 0 0))]))
     (.alt none (.e (.store 6 true (.t 9) (.t 44)))
      (.alt none (.e (.store 6 true (.t 10) (.t 51)))
       (.alt none (.e (.store 6 true (.t 11) (.t 58)))
        .done
        .stop)
       .stop)
      .stop)
     .stop)
    .stop))
   (.alt none (.e (.alloc 10 [(.int .i64 0), (.int .i64 0), (.bool false), (.int .i64 0), (.raw (.slice none 0 0)), (.raw (.slice none 0 0))]))
   (.alt none (.e (.alloc 9 [(.int .i64 0), (.int .i64 0), (.bool false), (.int .i64 0), (.raw (.slice none 0 0)), (.raw (.slice none 0 0))]))
    (.alt none (.e (.alloc 11 [(.int .i64 0), (.int .i64 0), (.bool false), (.int .i64 0), (.raw (.slice none 0 0)), (.raw (.slice none 0 0))]))
     (.alt none (.e (.store 6 true (.t 9) (.t 44)))
      (.alt none (.e (.store 6 true (.t 10) (.t 51)))
       (.alt none (.e (.store 6 true (.t 11) (.t 58)))
        .done
        .stop)
       .stop)
      .stop)
     .stop)
    (.alt none (.e (.alloc 11 [(.int .i64 0), (.int .i64 0), (.bool false), (.int .i64 0), (.raw (.slice none 0 0)), (.raw (.slice none 0 0))]))
    (.alt none (.e (.alloc 9 [(.int .i64 0), (.int .i64 0), (.bool false), (.int .i64 0), (.raw (.slice none 0 0)), (.raw (.slice none 0 0))]))
     (.alt none (.e (.store 6 true (.t 9) (.t 44)))
      (.alt none (.e (.store 6 true (.t 10) (.t 51)))
       (.alt none (.e (.store 6 true (.t 11) (.t 58)))
        .done
        .stop)
       .stop)
      .stop)
     .stop)
    .stop))
   (.alt none (.e (.alloc 11 [(.int .i64 0), (.int .i64 0), (.bool false), (.int .i64 0), (.raw (.slice none 0 0)), (.raw (.slice none 0 0))]))
   (.alt none (.e (.alloc 9 [(.int .i64 0), (.int .i64 0), (.bool false), (.int .i64 0), (.raw (.slice none 0 0)), (.raw (.slice none 0 0))]))
    (.alt none (.e (.alloc 10 [(.int .i64 0), (.int .i64 0), (.bool false), (.int .i64 0), (.raw (.slice none 0 0)), (.raw (.slice none 0 0))]))
     (.alt none (.e (.store 6 true (.t 9) (.t 44)))
      (.alt none (.e (.store 6 true (.t 10) (.t 51)))
       (.alt none (.e (.store 6 true (.t 11) (.t 58)))
        .done
        .stop)
       .stop)
      .stop)
     .stop)
    (.alt none (.e (.alloc 10 [(.int .i64 0), (.int .i64 0), (.bool false), (.int .i64 0), (.raw (.slice none 0 0)), (.raw (.slice none 0 0))]))
    (.alt none (.e (.alloc 9 [(.int .i64 0), (.int .i64 0), (.bool false), (.int .i64 0), (.raw (.slice none 0 0)), (.raw (.slice none 0 0))]))
     (.alt none (.e (.store 6 true (.t 9) (.t 44)))
      (.alt none (.e (.store 6 true (.t 10) (.t 51)))
       (.alt none (.e (.store 6 true (.t 11) (.t 58)))
        .done
        .stop)
       .stop)
      .stop)
     .stop)
    .stop))
   .stop)))))))))))))))))))))))))
 (.seq (.seq (.ops [(none, (.v (.fld 59 3 (.t 10)))),
  (none, (.v (.load 60 false 1 (.t 59)))),
  (none, (.v (.fld 61 3 (.t 11)))),
  (none, (.v (.load 62 false 1 (.t 61)))),
  (none, (.v (.bin 63 .leq false (.t 60) (.t 62))))])
 (.cond 63
  (.seq (.ops [(none, (.v (.mov 8 (.c (.bool false)))))])
  .ret)
  .skip))
 (.seq (.ops [(none, (.v (.mov 64 (.t 1)))),
  (none, (.v (.mov 65 (.t 3)))),
  (none, (.v (.bin 66 .eql false (.t 64) (.t 65)))),
  (none, (.v (.mov 67 (.t 66)))),
  ((some (67, false)), (.v (.load 68 true 6 (.t 9)))),
  ((some (67, false)), (.e (.call (some 69) 45 [(.t 68)]))),
  ((some (67, false)), (.v (.mov 70 (.t 69)))),
  ((some (70, true)), (.v (.fld 71 3 (.t 11)))),
  ((some (70, true)), (.v (.load 72 false 1 (.t 71)))),
  ((some (70, true)), (.v (.fld 73 3 (.t 9)))),
  ((some (70, true)), (.v (.load 74 false 1 (.t 73)))),
  ((some (70, true)), (.v (.bin 75 .lss false (.t 72) (.t 74)))),
  ((some (67, false)), (.v (.pick 76 (.t 70) (.t 75) (.c (.bool false))))),
  (none, (.v (.pick 77 (.t 67) (.c (.bool true)) (.t 76)))),
  (none, (.v (.mov 78 (.t 77)))),
  ((some (78, false)), (.v (.load 79 true 6 (.t 9)))),
  ((some (78, false)), (.e (.call (some 80) 45 [(.t 79)]))),
  ((some (78, false)), (.v (.not 81 (.t 80)))),
  ((some (78, false)), (.v (.mov 82 (.t 81)))),
  ((some (82, true)), (.v (.fld 83 3 (.t 11)))),
  ((some (82, true)), (.v (.load 84 false 1 (.t 83)))),
  ((some (82, true)), (.v (.fld 85 1 (.t 9)))),
  ((some (82, true)), (.v (.load 86 false 1 (.t 85)))),
  ((some (82, true)), (.v (.bin 87 .leq false (.t 84) (.t 86)))),
  ((some (78, false)), (.v (.pick 88 (.t 82) (.t 87) (.c (.bool false))))),
  (none, (.v (.pick 89 (.t 78) (.c (.bool true)) (.t 88)))),
  (none, (.v (.mov 8 (.t 89))))])
 .ret)))))
theorem ok82 : FnOk E 82 90 [.tmp 8] mc82 := .of func82 (by kernel_rfl) (by kernel_rfl) (by kernel_rfl) (by kernel_rfl) (by kernel_rfl)
/-- slices.Index[[]int,int] -/
def mc83 : MC :=
 (.seq (.ops [(none, (.v (.mov 4 (.c (.int .i64 0)))))])
 (.seq (.seq (.ops [(none, (.v (.mov 6 (.t 0)))),
  (none, (.p (.len 7 (.t 6)))),
  (none, (.v (.mov 8 (.c (.int .i64 0)))))])
 (.block 0 (.loop (.seq (.ops [(none, (.v (.bin 9 .lss false (.t 8) (.t 7))))])
   (.seq (.cond 9
    .skip
    (.exit 0))
   (.seq (.block 1 (.seq (.ops [(none, (.v (.mov 10 (.t 8)))),
     (none, (.v (.mov 5 (.t 10))))])
    (.seq (.ops [(none, (.v (.mov 11 (.t 1)))),
     (none, (.v (.mov 12 (.t 0)))),
     (none, (.v (.mov 13 (.t 5)))),
     (none, (.p (.idx 14 1 (.t 12) (.t 13)))),
     (none, (.v (.load 15 false 1 (.t 14)))),
     (none, (.v (.bin 16 .eql false (.t 11) (.t 15))))])
    (.cond 16
     (.seq (.ops [(none, (.v (.mov 17 (.t 5)))),
      (none, (.v (.mov 4 (.t 17))))])
     .ret)
     .skip))))
   (.ops [(none, (.v (.bin 18 .add false (.t 8) (.c (.int .i64 1))))),
    (none, (.v (.mov 8 (.t 18))))])))))))
 (.seq (.ops [(none, (.v (.mov 4 (.c (.int .i64 (-1))))))])
 .ret)))
theorem ok83 : FnOk E 83 19 [.tmp 4] mc83 := .of func83 (by kernel_rfl) (by kernel_rfl) (by kernel_rfl) (by kernel_rfl) (by kernel_rfl)
/-- slices.IndexFunc[[][2]int,[2]int] -/
def mc84 : MC :=
 (.seq (.ops [(none, (.v (.mov 4 (.c (.int .i64 0)))))])
 (.seq (.seq (.ops [(none, (.v (.mov 6 (.t 0)))),
  (none, (.p (.len 7 (.t 6)))),
  (none, (.v (.mov 8 (.c (.int .i64 0)))))])
 (.block 0 (.loop (.seq (.ops [(none, (.v (.bin 9 .lss false (.t 8) (.t 7))))])
   (.seq (.cond 9
    .skip
    (.exit 0))
   (.seq (.block 1 (.seq (.ops [(none, (.v (.mov 10 (.t 8)))),
     (none, (.v (.mov 5 (.t 10))))])
    (.seq (.ops [(none, (.v (.mov 11 (.t 1)))),
     (none, (.v (.mov 12 (.t 0)))),
     (none, (.v (.mov 13 (.t 5)))),
     (none, (.p (.idx 14 2 (.t 12) (.t 13)))),
     (none, (.v (.load 15 true 2 (.t 14)))),
     (none, (.e (.callv (some 16) (.t 11) [(.t 15)])))])
    (.cond 16
     (.seq (.ops [(none, (.v (.mov 17 (.t 5)))),
      (none, (.v (.mov 4 (.t 17))))])
     .ret)
     .skip))))
   (.ops [(none, (.v (.bin 18 .add false (.t 8) (.c (.int .i64 1))))),
    (none, (.v (.mov 8 (.t 18))))])))))))
 (.seq (.ops [(none, (.v (.mov 4 (.c (.int .i64 (-1))))))])
 .ret)))
theorem ok84 : FnOk E 84 19 [.tmp 4] mc84 := .of func84 (by kernel_rfl) (by kernel_rfl) (by kernel_rfl) (by kernel_rfl) (by kernel_rfl)
/-- slices.IndexFunc[[]int,int] -/
def mc85 : MC :=
 (.seq (.ops [(none, (.v (.mov 4 (.c (.int .i64 0)))))])
 (.seq (.seq (.ops [(none, (.v (.mov 6 (.t 0)))),
  (none, (.p (.len 7 (.t 6)))),
  (none, (.v (.mov 8 (.c (.int .i64 0)))))])
 (.block 0 (.loop (.seq (.ops [(none, (.v (.bin 9 .lss false (.t 8) (.t 7))))])
   (.seq (.cond 9
    .skip
    (.exit 0))
   (.seq (.block 1 (.seq (.ops [(none, (.v (.mov 10 (.t 8)))),
     (none, (.v (.mov 5 (.t 10))))])
    (.seq (.ops [(none, (.v (.mov 11 (.t 1)))),
     (none, (.v (.mov 12 (.t 0)))),
     (none, (.v (.mov 13 (.t 5)))),
     (none, (.p (.idx 14 1 (.t 12) (.t 13)))),
     (none, (.v (.load 15 false 1 (.t 14)))),
     (none, (.e (.callv (some 16) (.t 11) [(.t 15)])))])
    (.cond 16
     (.seq (.ops [(none, (.v (.mov 17 (.t 5)))),
      (none, (.v (.mov 4 (.t 17))))])
     .ret)
     .skip))))
   (.ops [(none, (.v (.bin 18 .add false (.t 8) (.c (.int .i64 1))))),
    (none, (.v (.mov 8 (.t 18))))])))))))
 (.seq (.ops [(none, (.v (.mov 4 (.c (.int .i64 (-1))))))])
 .ret)))
theorem ok85 : FnOk E 85 19 [.tmp 4] mc85 := .of func85 (by kernel_rfl) (by kernel_rfl) (by kernel_rfl) (by kernel_rfl) (by kernel_rfl)
end Go.Proofs.Try
