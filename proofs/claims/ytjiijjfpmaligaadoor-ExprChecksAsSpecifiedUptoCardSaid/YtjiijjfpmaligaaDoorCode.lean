/-
  A part of the proof: see the text of the law.
-/
import Derived.Test.YtjiijjfpmaligaaDoorEnv
set_option linter.unusedSimpArgs false
set_option linter.unusedVariables false
namespace Go.Proofs.Try
open Go.Proofs.Tryd
open Go.Al
set_option linter.unusedVariables false
set_option maxRecDepth 100000
theorem maxLen_eq : maxLen = 9223372036854775807 := by simp [maxLen]
/-- alum/alumref36.Of -/
def mc11 : MC :=
 (.seq (.ops [(none, (.v (.mov 4 (.c (.bool false)))))])
 (.seq (.seq (.ops [(none, (.v (.mov 7 (.t 0)))),
 (none, (.p (.len 8 (.t 7)))),
 (none, (.v (.bin 9 .gtr false (.t 8) (.c (.int .i64 20))))),
 (none, (.v (.mov 10 (.t 9)))),
 ((some (10, false)), (.v (.mov 11 (.t 1)))),
 ((some (10, false)), (.p (.len 12 (.t 11)))),
 ((some (10, false)), (.v (.mov 13 (.t 0)))),
 ((some (10, false)), (.p (.len 14 (.t 13)))),
 ((some (10, false)), (.v (.bin 15 .neq false (.t 12) (.t 14)))),
 (none, (.v (.pick 16 (.t 10) (.c (.bool true)) (.t 15))))])
 (.cond 16
 (.seq (.ops [(none, (.v (.mov 4 (.c (.bool false)))))])
 .ret)
 .skip))
 (.seq (.seq (.ops [(none, (.v (.mov 5 (.c (.int .i64 0)))))])
 (.block 0 (.loop (.seq (.seq (.ops [(none, (.v (.mov 17 (.t 5)))),
 (none, (.v (.mov 18 (.t 1)))),
 (none, (.p (.len 19 (.t 18)))),
 (none, (.v (.bin 20 .lss false (.t 17) (.t 19))))])
 (.cond 20
 .skip
 (.exit 0)))
 (.seq (.block 1 (.seq (.ops [(none, (.v (.mov 23 (.t 1)))),
 (none, (.v (.mov 24 (.t 5)))),
 (none, (.p (.idx 25 3 (.t 23) (.t 24)))),
 (none, (.v (.load 26 true 3 (.t 25)))),
 (none, (.e (.call (some 27) 21 [(.t 26)]))),
 (none, (.v (.mov 6 (.t 27))))])
 (.seq (.any false (.pure0 none (.v (.mov 28 (.t 6)))
 (.pure0 none (.v (.not 29 (.t 28)))
 (.pure0 none (.v (.mov 30 (.t 29)))
 (.pure0 (some (30, false)) (.v (.mov 31 (.t 1)))
 (.pure0 (some (30, false)) (.v (.mov 32 (.t 5)))
 (.pure0 (some (30, false)) (.p (.idx 33 3 (.t 31) (.t 32)))
 (.pure0 (some (30, false)) (.v (.fld 34 0 (.t 33)))
 (.pure0 (some (30, false)) (.v (.load 35 false 1 (.t 34)))
 (.pure0 (some (30, false)) (.v (.bin 36 .neq false (.t 35) (.c (.int .i64 0))))
 (.pure0 (some (30, false)) (.v (.mov 37 (.t 36)))
 (.pure0 (some (37, true)) (.v (.mov 38 (.t 1)))
 (.pure0 (some (37, true)) (.v (.mov 39 (.t 5)))
 (.pure0 (some (37, true)) (.p (.idx 40 3 (.t 38) (.t 39)))
 (.pure0 (some (37, true)) (.v (.fld 41 0 (.t 40)))
 (.pure0 (some (37, true)) (.v (.load 42 false 1 (.t 41)))
 (.pure0 (some (37, true)) (.v (.mov 43 (.t 0)))
 (.pure0 (some (37, true)) (.v (.mov 44 (.t 5)))
 (.pure0 (some (37, true)) (.p (.idx 45 1 (.t 43) (.t 44)))
 (.pure0 (some (37, true)) (.v (.load 46 false 1 (.t 45)))
 (.pure0 (some (37, true)) (.v (.bin 47 .neq false (.t 42) (.t 46)))
 (.pure0 (some (30, false)) (.v (.pick 48 (.t 37) (.t 47) (.c (.bool false))))
 (.pure0 none (.v (.pick 49 (.t 30) (.c (.bool true)) (.t 48)))
 .done)))))))))))))))))))))))
 (.cond 49
 (.seq (.ops [(none, (.v (.mov 4 (.c (.bool false)))))])
 .ret)
 .skip))))
 (.ops [(none, (.v (.mov 21 (.t 5)))),
 (none, (.v (.bin 22 .add false (.t 21) (.c (.int .i64 1))))),
 (none, (.v (.mov 5 (.t 22))))]))))))
 (.seq (.ops [(none, (.v (.mov 4 (.c (.bool true)))))])
 .ret))))
theorem ok11 : FnOk E 11 50 [.tmp 4] mc11 := .of func11 (by kernel_rfl) (by kernel_rfl) (by kernel_rfl) (by kernel_rfl) (by kernel_rfl)
/-- alum/alumref36.Right -/
def mc12 : MC :=
 (.seq (.ops [(none, (.e (.box 3 (.t 1)))),
 (none, (.v (.mov 4 (.c (.bool false)))))])
 (.seq (.ops [(none, (.v (.mov 8 (.t 0)))),
 (none, (.v (.load 9 true 6 (.t 3)))),
 (none, (.e (.call (some 10) 38 [(.t 8), (.t 9)]))),
 (none, (.v (.mov 7 (.t 10)))),
 (none, (.v (.ext 11 0 (.t 7)))),
 (none, (.v (.ext 12 1 (.t 7)))),
 (none, (.v (.mov 5 (.t 11)))),
 (none, (.v (.mov 6 (.t 12))))])
 (.seq (.ops [(none, (.v (.mov 13 (.t 6)))),
 (none, (.v (.bin 14 .eql false (.t 13) (.c (.int .i64 0))))),
 (none, (.v (.mov 4 (.t 14))))])
 .ret)))
theorem ok12 : FnOk E 12 15 [.tmp 4] mc12 := .of func12 (by kernel_rfl) (by kernel_rfl) (by kernel_rfl) (by kernel_rfl) (by kernel_rfl)
/-- alum/alumlaw36.sanity -/
def mc13 : MC :=
 (.seq (.ops [(none, (.v (.mov 0 (.c (.bool false)))))])
 (.seq (.ops [(none, (.e (.mkl 27 3 1 3 (.int .i64 0) [(0, (.c (.int .i64 1))), (1, (.c (.int .i64 2))), (2, (.c (.int .i64 3)))]))),
 (none, (.v (.mov 1 (.t 27))))])
 (.seq (.ops [(none, (.v (.build 28 [(.int .i64 0), (.int .i64 0), (.int .i64 0), (.int .i64 0), (.str ⟨#[]⟩), (.raw (.slice none 0 0))] [(0, 1, (.c (.int .i64 2)))]))),
 (none, (.e (.alloc 2 [(.int .i64 0), (.int .i64 0), (.int .i64 0), (.int .i64 0), (.str ⟨#[]⟩), (.raw (.slice none 0 0))]))),
 (none, (.e (.store 6 true (.t 2) (.t 28))))])
 (.seq (.ops [(none, (.e (.call (some 29) 44 [(.c (.bool true))]))),
 (none, (.v (.build 30 [(.int .i64 0), (.int .i64 0), (.int .i64 0), (.int .i64 0), (.str ⟨#[]⟩), (.raw (.slice none 0 0))] [(0, 1, (.c (.int .i64 2))), (2, 3, (.t 29))]))),
 (none, (.e (.alloc 3 [(.int .i64 0), (.int .i64 0), (.int .i64 0), (.int .i64 0), (.str ⟨#[]⟩), (.raw (.slice none 0 0))]))),
 (none, (.e (.store 6 true (.t 3) (.t 30))))])
 (.seq (.ops [(none, (.e (.call (some 31) 44 [(.c (.bool false))]))),
 (none, (.v (.build 32 [(.int .i64 0), (.int .i64 0), (.int .i64 0), (.int .i64 0), (.str ⟨#[]⟩), (.raw (.slice none 0 0))] [(0, 1, (.c (.int .i64 2))), (2, 3, (.t 31))]))),
 (none, (.e (.alloc 4 [(.int .i64 0), (.int .i64 0), (.int .i64 0), (.int .i64 0), (.str ⟨#[]⟩), (.raw (.slice none 0 0))]))),
 (none, (.e (.store 6 true (.t 4) (.t 32))))])
 (.seq (.ops [(none, (.v (.mov 34 (.t 1)))),
 (none, (.e (.call (some 35) 46 [(.c (.int .i64 0))]))),
 (none, (.e (.call (some 36) 47 [(.c (.int .i64 1))]))),
 (none, (.e (.call (some 37) 45 [(.c (.int .i64 3)), (.t 35), (.t 36)]))),
 (none, (.e (.call (some 38) 47 [(.c (.int .i64 5))]))),
 (none, (.e (.call (some 39) 45 [(.c (.int .i64 8)), (.t 37), (.t 38)]))),
 (none, (.e (.call (some 40) 16 [(.t 34), (.t 39)]))),
 (none, (.v (.mov 33 (.t 40)))),
 (none, (.v (.ext 41 0 (.t 33)))),
 (none, (.v (.ext 42 1 (.t 33)))),
 (none, (.v (.mov 5 (.t 41)))),
 (none, (.v (.mov 6 (.t 42))))])
 (.seq (.ops [(none, (.v (.mov 44 (.t 1)))),
 (none, (.e (.call (some 45) 46 [(.c (.int .i64 0))]))),
 (none, (.e (.call (some 46) 46 [(.c (.int .i64 1))]))),
 (none, (.e (.call (some 47) 45 [(.c (.int .i64 6)), (.t 45), (.t 46)]))),
 (none, (.e (.call (some 48) 16 [(.t 44), (.t 47)]))),
 (none, (.v (.mov 43 (.t 48)))),
 (none, (.v (.ext 49 0 (.t 43)))),
 (none, (.v (.ext 50 1 (.t 43)))),
 (none, (.v (.mov 7 (.t 49)))),
 (none, (.v (.mov 8 (.t 50))))])
 (.seq (.ops [(none, (.v (.mov 52 (.t 1)))),
 (none, (.e (.call (some 53) 46 [(.c (.int .i64 0))]))),
 (none, (.e (.call (some 54) 48 [(.t 53)]))),
 (none, (.e (.call (some 55) 16 [(.t 52), (.t 54)]))),
 (none, (.v (.mov 51 (.t 55)))),
 (none, (.v (.ext 56 0 (.t 51)))),
 (none, (.v (.ext 57 1 (.t 51)))),
 (none, (.v (.mov 9 (.t 56)))),
 (none, (.v (.mov 10 (.t 57))))])
 (.seq (.any false (.pure0 none (.v (.mov 59 (.t 1)))
 (.pure0 none (.v (.load 61 true 6 (.t 2)))
 (.alt none (.e (.call (some 60) 46 [(.c (.int .i64 0))]))
 (.base (.alt none (.e (.call (some 62) 45 [(.c (.int .i64 3)), (.t 60), (.t 61)]))
 (.base (.alt none (.e (.call (some 63) 16 [(.t 59), (.t 62)]))
 (.base (.pure0 none (.v (.mov 58 (.t 63)))
 (.pure0 none (.v (.ext 64 0 (.t 58)))
 (.pure0 none (.v (.ext 65 1 (.t 58)))
 (.pure0 none (.v (.mov 11 (.t 64)))
 (.pure0 none (.v (.mov 12 (.t 65)))
 .done))))))
 .stop))
 .stop))
 .stop))))
 (.seq (.ops [(none, (.e (.call (some 66) 46 [(.c (.int .i64 2))]))),
 (none, (.e (.call (some 67) 46 [(.c (.int .i64 0))]))),
 (none, (.e (.call (some 68) 47 [(.c (.int .i64 3))]))),
 (none, (.e (.call (some 69) 45 [(.c (.int .i64 8)), (.t 67), (.t 68)]))),
 (none, (.e (.call (some 70) 45 [(.c (.int .i64 12)), (.t 66), (.t 69)]))),
 (none, (.e (.alloc 13 [(.int .i64 0), (.int .i64 0), (.int .i64 0), (.int .i64 0), (.str ⟨#[]⟩), (.raw (.slice none 0 0))]))),
 (none, (.e (.store 6 true (.t 13) (.t 70))))])
 (.seq (.ops [(none, (.v (.load 72 true 6 (.t 13)))),
 (none, (.v (.build 73 [(.int .i64 0), (.int .i64 0), (.str ⟨#[]⟩)] [(0, 1, (.c (.int .i64 1))), (1, 1, (.c (.int .i64 5)))]))),
 (none, (.v (.build 74 [(.int .i64 0), (.int .i64 0), (.str ⟨#[]⟩)] [(0, 1, (.c (.int .i64 2))), (2, 1, (.c (.str ⟨#[120]⟩)))]))),
 (none, (.v (.build 75 [(.int .i64 0), (.int .i64 0), (.str ⟨#[]⟩)] []))),
 (none, (.e (.mkl 76 24 3 3 (.agg [(.int .i64 0), (.int .i64 0), (.str ⟨#[]⟩)]) [(0, (.t 73)), (1, (.t 74)), (2, (.t 75))]))),
 (none, (.e (.call (some 77) 14 [(.t 72), (.t 76)]))),
 (none, (.v (.mov 71 (.t 77)))),
 (none, (.v (.ext 78 0 (.t 71)))),
 (none, (.v (.ext 79 1 (.t 71)))),
 (none, (.e (.alloc 14 [(.int .i64 0), (.int .i64 0), (.str ⟨#[]⟩)]))),
 (none, (.e (.store 3 true (.t 14) (.t 78)))),
 (none, (.v (.mov 15 (.t 79))))])
 (.seq (.ops [(none, (.v (.load 81 true 6 (.t 13)))),
 (none, (.v (.build 82 [(.int .i64 0), (.int .i64 0), (.str ⟨#[]⟩)] [(0, 1, (.c (.int .i64 1))), (1, 1, (.c (.int .i64 2)))]))),
 (none, (.v (.build 83 [(.int .i64 0), (.int .i64 0), (.str ⟨#[]⟩)] [(0, 1, (.c (.int .i64 2))), (2, 1, (.c (.str ⟨#[120]⟩)))]))),
 (none, (.v (.build 84 [(.int .i64 0), (.int .i64 0), (.str ⟨#[]⟩)] []))),
 (none, (.e (.mkl 85 24 3 3 (.agg [(.int .i64 0), (.int .i64 0), (.str ⟨#[]⟩)]) [(0, (.t 82)), (1, (.t 83)), (2, (.t 84))]))),
 (none, (.e (.call (some 86) 14 [(.t 81), (.t 85)]))),
 (none, (.v (.mov 80 (.t 86)))),
 (none, (.v (.ext 87 0 (.t 80)))),
 (none, (.v (.ext 88 1 (.t 80)))),
 (none, (.e (.alloc 16 [(.int .i64 0), (.int .i64 0), (.str ⟨#[]⟩)]))),
 (none, (.e (.store 3 true (.t 16) (.t 87)))),
 (none, (.v (.mov 17 (.t 88))))])
 (.seq (.ops [(none, (.v (.build 89 [(.int .i64 0), (.int .i64 0), (.str ⟨#[]⟩)] [(0, 1, (.c (.int .i64 1))), (1, 1, (.c (.int .i64 1048576)))]))),
 (none, (.v (.build 90 [(.int .i64 0), (.int .i64 0), (.str ⟨#[]⟩)] []))),
 (none, (.v (.build 91 [(.int .i64 0), (.int .i64 0), (.str ⟨#[]⟩)] []))),
 (none, (.e (.mkl 92 24 3 3 (.agg [(.int .i64 0), (.int .i64 0), (.str ⟨#[]⟩)]) [(0, (.t 89)), (1, (.t 90)), (2, (.t 91))]))),
 (none, (.v (.mov 18 (.t 92))))])
 (.seq (.ops [(none, (.e (.call (some 94) 46 [(.c (.int .i64 0))]))),
 (none, (.e (.call (some 95) 46 [(.c (.int .i64 0))]))),
 (none, (.e (.call (some 96) 45 [(.c (.int .i64 5)), (.t 94), (.t 95)]))),
 (none, (.v (.mov 97 (.t 18)))),
 (none, (.e (.call (some 98) 14 [(.t 96), (.t 97)]))),
 (none, (.v (.mov 93 (.t 98)))),
 (none, (.v (.ext 99 0 (.t 93)))),
 (none, (.v (.ext 100 1 (.t 93)))),
 (none, (.e (.alloc 19 [(.int .i64 0), (.int .i64 0), (.str ⟨#[]⟩)]))),
 (none, (.e (.store 3 true (.t 19) (.t 99)))),
 (none, (.v (.mov 20 (.t 100))))])
 (.seq (.any false (.pure0 none (.v (.load 107 true 6 (.t 3)))
 (.pure0 none (.v (.mov 109 (.t 18)))
 (.alt none (.e (.call (some 102) 46 [(.c (.int .i64 0))]))
 (.base (.alt none (.e (.call (some 103) 46 [(.c (.int .i64 0))]))
 (.base (.alt none (.e (.call (some 104) 45 [(.c (.int .i64 5)), (.t 102), (.t 103)]))
 (.base (.alt none (.e (.call (some 105) 47 [(.c (.int .i64 1))]))
 (.base (.alt none (.e (.call (some 106) 45 [(.c (.int .i64 6)), (.t 104), (.t 105)]))
 (.base (.alt none (.e (.call (some 108) 45 [(.c (.int .i64 13)), (.t 106), (.t 107)]))
 (.base (.alt none (.e (.call (some 110) 17 [(.t 108), (.t 109)]))
 (.base (.pure0 none (.v (.mov 101 (.t 110)))
 (.pure0 none (.v (.ext 111 0 (.t 101)))
 (.pure0 none (.v (.ext 112 1 (.t 101)))
 (.pure0 none (.v (.mov 21 (.t 111)))
 (.pure0 none (.v (.mov 22 (.t 112)))
 .done))))))
 .stop))
 .stop))
 .stop))
 .stop))
 .stop))
 .stop))
 .stop))))
 (.seq (.seq (.ops [(none, (.v (.mov 113 (.t 6)))),
 (none, (.v (.bin 114 .neq false (.t 113) (.c (.int .i64 0))))),
 (none, (.v (.mov 115 (.t 114)))),
 ((some (115, false)), (.v (.mov 116 (.t 8)))),
 ((some (115, false)), (.v (.bin 117 .neq false (.t 116) (.c (.int .i64 7))))),
 (none, (.v (.pick 118 (.t 115) (.c (.bool true)) (.t 117)))),
 (none, (.v (.mov 119 (.t 118)))),
 ((some (119, false)), (.v (.mov 120 (.t 10)))),
 ((some (119, false)), (.v (.bin 121 .neq false (.t 120) (.c (.int .i64 7))))),
 (none, (.v (.pick 122 (.t 119) (.c (.bool true)) (.t 121)))),
 (none, (.v (.mov 123 (.t 122)))),
 ((some (123, false)), (.v (.mov 124 (.t 12)))),
 ((some (123, false)), (.v (.bin 125 .neq false (.t 124) (.c (.int .i64 0))))),
 (none, (.v (.pick 126 (.t 123) (.c (.bool true)) (.t 125)))),
 (none, (.v (.mov 127 (.t 126)))),
 ((some (127, false)), (.v (.mov 128 (.t 15)))),
 ((some (127, false)), (.v (.bin 129 .neq false (.t 128) (.c (.int .i64 0))))),
 (none, (.v (.pick 130 (.t 127) (.c (.bool true)) (.t 129)))),
 (none, (.v (.mov 131 (.t 130)))),
 ((some (131, false)), (.v (.mov 132 (.t 17)))),
 ((some (131, false)), (.v (.bin 133 .neq false (.t 132) (.c (.int .i64 0))))),
 (none, (.v (.pick 134 (.t 131) (.c (.bool true)) (.t 133)))),
 (none, (.v (.mov 135 (.t 134)))),
 ((some (135, false)), (.v (.mov 136 (.t 20)))),
 ((some (135, false)), (.v (.bin 137 .neq false (.t 136) (.c (.int .i64 360))))),
 (none, (.v (.pick 138 (.t 135) (.c (.bool true)) (.t 137)))),
 (none, (.v (.mov 139 (.t 138)))),
 ((some (139, false)), (.v (.mov 140 (.t 22)))),
 ((some (139, false)), (.v (.bin 141 .neq false (.t 140) (.c (.int .i64 360))))),
 (none, (.v (.pick 142 (.t 139) (.c (.bool true)) (.t 141))))])
 (.cond 142
 (.seq (.ops [(none, (.v (.mov 0 (.c (.bool false)))))])
 .ret)
 .skip))
 (.seq (.any true (.pure0 none (.v (.load 148 true 6 (.t 4)))
 (.alt none (.e (.call (some 143) 46 [(.c (.int .i64 0))]))
 (.alt none (.e (.call (some 144) 47 [(.c (.int .i64 1))]))
 (.alt none (.e (.call (some 145) 45 [(.c (.int .i64 3)), (.t 143), (.t 144)]))
 (.alt none (.e (.call (some 146) 47 [(.c (.int .i64 2))]))
 (.alt none (.e (.call (some 147) 45 [(.c (.int .i64 6)), (.t 145), (.t 146)]))
 (.alt none (.e (.call (some 149) 45 [(.c (.int .i64 12)), (.t 147), (.t 148)]))
 (.alt none (.e (.alloc 23 [(.int .i64 0), (.int .i64 0), (.int .i64 0), (.int .i64 0), (.str ⟨#[]⟩), (.raw (.slice none 0 0))]))
 (.alt none (.e (.store 6 true (.t 23) (.t 149)))
 .done
 .stop)
 .stop)
 (.alt none (.e (.alloc 23 [(.int .i64 0), (.int .i64 0), (.int .i64 0), (.int .i64 0), (.str ⟨#[]⟩), (.raw (.slice none 0 0))]))
 (.alt none (.e (.call (some 149) 45 [(.c (.int .i64 12)), (.t 147), (.t 148)]))
 (.alt none (.e (.store 6 true (.t 23) (.t 149)))
 .done
 .stop)
 .stop)
 .stop))
 (.alt none (.e (.alloc 23 [(.int .i64 0), (.int .i64 0), (.int .i64 0), (.int .i64 0), (.str ⟨#[]⟩), (.raw (.slice none 0 0))]))
 (.alt none (.e (.call (some 147) 45 [(.c (.int .i64 6)), (.t 145), (.t 146)]))
 (.alt none (.e (.call (some 149) 45 [(.c (.int .i64 12)), (.t 147), (.t 148)]))
 (.alt none (.e (.store 6 true (.t 23) (.t 149)))
 .done
 .stop)
 .stop)
 .stop)
 .stop))
 (.alt none (.e (.alloc 23 [(.int .i64 0), (.int .i64 0), (.int .i64 0), (.int .i64 0), (.str ⟨#[]⟩), (.raw (.slice none 0 0))]))
 (.alt none (.e (.call (some 146) 47 [(.c (.int .i64 2))]))
 (.alt none (.e (.call (some 147) 45 [(.c (.int .i64 6)), (.t 145), (.t 146)]))
 (.alt none (.e (.call (some 149) 45 [(.c (.int .i64 12)), (.t 147), (.t 148)]))
 (.alt none (.e (.store 6 true (.t 23) (.t 149)))
 .done
 .stop)
 .stop)
 .stop)
 .stop)
 .stop))
 (.alt none (.e (.alloc 23 [(.int .i64 0), (.int .i64 0), (.int .i64 0), (.int .i64 0), (.str ⟨#[]⟩), (.raw (.slice none 0 0))]))
 (.alt none (.e (.call (some 145) 45 [(.c (.int .i64 3)), (.t 143), (.t 144)]))
 (.alt none (.e (.call (some 146) 47 [(.c (.int .i64 2))]))
 (.alt none (.e (.call (some 147) 45 [(.c (.int .i64 6)), (.t 145), (.t 146)]))
 (.alt none (.e (.call (some 149) 45 [(.c (.int .i64 12)), (.t 147), (.t 148)]))
 (.alt none (.e (.store 6 true (.t 23) (.t 149)))
 .done
 .stop)
 .stop)
 .stop)
 .stop)
 .stop)
 .stop))
 (.alt none (.e (.alloc 23 [(.int .i64 0), (.int .i64 0), (.int .i64 0), (.int .i64 0), (.str ⟨#[]⟩), (.raw (.slice none 0 0))]))
 (.alt none (.e (.call (some 144) 47 [(.c (.int .i64 1))]))
 (.alt none (.e (.call (some 145) 45 [(.c (.int .i64 3)), (.t 143), (.t 144)]))
 (.alt none (.e (.call (some 146) 47 [(.c (.int .i64 2))]))
 (.alt none (.e (.call (some 147) 45 [(.c (.int .i64 6)), (.t 145), (.t 146)]))
 (.alt none (.e (.call (some 149) 45 [(.c (.int .i64 12)), (.t 147), (.t 148)]))
 (.alt none (.e (.store 6 true (.t 23) (.t 149)))
 .done
 .stop)
 .stop)
 .stop)
 .stop)
 .stop)
 .stop)
 .stop))
 (.alt none (.e (.alloc 23 [(.int .i64 0), (.int .i64 0), (.int .i64 0), (.int .i64 0), (.str ⟨#[]⟩), (.raw (.slice none 0 0))]))
 (.alt none (.e (.call (some 143) 46 [(.c (.int .i64 0))]))
 (.alt none (.e (.call (some 144) 47 [(.c (.int .i64 1))]))
 (.alt none (.e (.call (some 145) 45 [(.c (.int .i64 3)), (.t 143), (.t 144)]))
 (.alt none (.e (.call (some 146) 47 [(.c (.int .i64 2))]))
 (.alt none (.e (.call (some 147) 45 [(.c (.int .i64 6)), (.t 145), (.t 146)]))
 (.alt none (.e (.call (some 149) 45 [(.c (.int .i64 12)), (.t 147), (.t 148)]))
 (.alt none (.e (.store 6 true (.t 23) (.t 149)))
 .done
 .stop)
 .stop)
 .stop)
 .stop)
 .stop)
 .stop)
 .stop)
 .stop))))
 (.seq (.any false (.alt none (.e (.call (some 150) 47 [(.c (.int .i64 3))]))
 (.base (.alt none (.e (.call (some 151) 46 [(.c (.int .i64 0))]))
 (.base (.alt none (.e (.call (some 152) 45 [(.c (.int .i64 8)), (.t 150), (.t 151)]))
 (.base (.alt none (.e (.call (some 153) 48 [(.t 152)]))
 (.base (.alt none (.e (.call (some 154) 31 [(.t 153)]))
 (.base (.alt none (.e (.call (some 155) 46 [(.c (.int .i64 0))]))
 (.base (.alt none (.e (.call (some 156) 47 [(.c (.int .i64 3))]))
 (.base (.alt none (.e (.call (some 157) 45 [(.c (.int .i64 9)), (.t 155), (.t 156)]))
 (.base (.alt none (.e (.call (some 158) 37 [(.t 154), (.t 157)]))
 (.base (.pure0 none (.v (.mov 159 (.t 158)))
 (.pure0 (some (159, true)) (.v (.load 165 true 6 (.t 3)))
 (.alt (some (159, true)) (.e (.call (some 160) 46 [(.c (.int .i64 0))]))
 (.base (.alt (some (159, true)) (.e (.call (some 161) 47 [(.c (.int .i64 0))]))
 (.base (.alt (some (159, true)) (.e (.call (some 162) 45 [(.c (.int .i64 3)), (.t 160), (.t 161)]))
 (.base (.alt (some (159, true)) (.e (.call (some 163) 47 [(.c (.int .i64 1))]))
 (.base (.alt (some (159, true)) (.e (.call (some 164) 45 [(.c (.int .i64 6)), (.t 162), (.t 163)]))
 (.base (.alt (some (159, true)) (.e (.call (some 166) 45 [(.c (.int .i64 12)), (.t 164), (.t 165)]))
 (.base (.alt (some (159, true)) (.e (.call (some 167) 31 [(.t 166)]))
 (.base (.alt (some (159, true)) (.e (.call (some 168) 46 [(.c (.int .i64 0))]))
 (.base (.alt (some (159, true)) (.e (.call (some 169) 47 [(.c (.int .i64 1))]))
 (.base (.alt (some (159, true)) (.e (.call (some 170) 45 [(.c (.int .i64 6)), (.t 168), (.t 169)]))
 (.base (.alt (some (159, true)) (.e (.call (some 171) 37 [(.t 167), (.t 170)]))
 (.base (.pure0 none (.v (.pick 172 (.t 159) (.t 171) (.c (.bool false))))
 (.pure0 none (.v (.mov 173 (.t 172)))
 (.pure0 (some (173, true)) (.v (.load 174 true 6 (.t 23)))
 (.pure0 (some (173, true)) (.v (.load 176 true 6 (.t 23)))
 (.alt (some (173, true)) (.e (.call (some 175) 31 [(.t 174)]))
 (.base (.alt (some (173, true)) (.e (.call (some 177) 37 [(.t 175), (.t 176)]))
 (.base (.pure0 none (.v (.pick 178 (.t 173) (.t 177) (.c (.bool false))))
 (.pure0 none (.v (.mov 24 (.t 178)))
 .done)))
 .stop))
 .stop))))))
 .stop))
 .stop))
 .stop))
 .stop))
 .stop))
 .stop))
 .stop))
 .stop))
 .stop))
 .stop))
 .stop))))
 .stop))
 .stop))
 .stop))
 .stop))
 .stop))
 .stop))
 .stop))
 .stop))
 .stop))
 (.seq (.ops [(none, (.e (.call (some 179) 47 [(.c (.int .i64 3))]))),
 (none, (.e (.call (some 180) 46 [(.c (.int .i64 0))]))),
 (none, (.e (.call (some 181) 45 [(.c (.int .i64 8)), (.t 179), (.t 180)]))),
 (none, (.e (.call (some 182) 46 [(.c (.int .i64 0))]))),
 (none, (.e (.call (some 183) 47 [(.c (.int .i64 7))]))),
 (none, (.e (.call (some 184) 45 [(.c (.int .i64 9)), (.t 182), (.t 183)]))),
 (none, (.e (.call (some 185) 45 [(.c (.int .i64 12)), (.t 181), (.t 184)]))),
 (none, (.e (.call (some 186) 46 [(.c (.int .i64 2))]))),
 (none, (.e (.call (some 187) 45 [(.c (.int .i64 12)), (.t 185), (.t 186)]))),
 (none, (.e (.alloc 25 [(.int .i64 0), (.int .i64 0), (.int .i64 0), (.int .i64 0), (.str ⟨#[]⟩), (.raw (.slice none 0 0))]))),
 (none, (.e (.store 6 true (.t 25) (.t 187))))])
 (.seq (.ops [(none, (.v (.load 188 true 6 (.t 25)))),
 (none, (.e (.call (some 189) 26 [(.t 188), (.c (.int .i64 0))]))),
 (none, (.e (.call (some 190) 47 [(.c (.int .i64 3))]))),
 (none, (.v (.get 191 true 3 2 (.t 190)))),
 (none, (.e (.call (some 192) 47 [(.c (.int .i64 7))]))),
 (none, (.v (.get 193 true 3 2 (.t 192)))),
 (none, (.v (.build 194 [(.bool false), (.bool false), (.bool false), (.int .i64 0), (.int .i64 0), (.str ⟨#[]⟩), (.int .i64 0), (.int .i64 0), (.str ⟨#[]⟩), (.bool false), (.bool false)] [(3, 3, (.t 191)), (6, 3, (.t 193)), (10, 1, (.c (.bool true)))]))),
 (none, (.v (.eq 195 false (.agg [(0, false, 1, .bool), (1, false, 1, .bool), (2, false, 1, .bool), (3, true, 3, (.agg [(0, false, 1, .int), (1, false, 1, .int), (2, false, 1, .str)])), (6, true, 3, (.agg [(0, false, 1, .int), (1, false, 1, .int), (2, false, 1, .str)])), (9, false, 1, .bool), (10, false, 1, .bool)]) (.t 189) (.t 194)))),
 (none, (.v (.mov 196 (.t 195)))),
 ((some (196, true)), (.v (.load 197 true 6 (.t 25)))),
 ((some (196, true)), (.e (.call (some 198) 26 [(.t 197), (.c (.int .i64 2))]))),
 ((some (196, true)), (.v (.build 199 [(.bool false), (.bool false), (.bool false), (.int .i64 0), (.int .i64 0), (.str ⟨#[]⟩), (.int .i64 0), (.int .i64 0), (.str ⟨#[]⟩), (.bool false), (.bool false)] [(2, 1, (.c (.bool true)))]))),
 ((some (196, true)), (.v (.eq 200 false (.agg [(0, false, 1, .bool), (1, false, 1, .bool), (2, false, 1, .bool), (3, true, 3, (.agg [(0, false, 1, .int), (1, false, 1, .int), (2, false, 1, .str)])), (6, true, 3, (.agg [(0, false, 1, .int), (1, false, 1, .int), (2, false, 1, .str)])), (9, false, 1, .bool), (10, false, 1, .bool)]) (.t 198) (.t 199)))),
 (none, (.v (.pick 201 (.t 196) (.t 200) (.c (.bool false))))),
 (none, (.v (.mov 202 (.t 201)))),
 ((some (202, true)), (.e (.call (some 203) 46 [(.c (.int .i64 0))]))),
 ((some (202, true)), (.e (.call (some 204) 47 [(.c (.int .i64 1))]))),
 ((some (202, true)), (.e (.call (some 205) 45 [(.c (.int .i64 6)), (.t 203), (.t 204)]))),
 ((some (202, true)), (.e (.call (some 206) 46 [(.c (.int .i64 0))]))),
 ((some (202, true)), (.e (.call (some 207) 47 [(.c (.int .i64 1))]))),
 ((some (202, true)), (.e (.call (some 208) 45 [(.c (.int .i64 10)), (.t 206), (.t 207)]))),
 ((some (202, true)), (.e (.call (some 209) 45 [(.c (.int .i64 12)), (.t 205), (.t 208)]))),
 ((some (202, true)), (.e (.call (some 210) 26 [(.t 209), (.c (.int .i64 0))]))),
 ((some (202, true)), (.v (.build 211 [(.bool false), (.bool false), (.bool false), (.int .i64 0), (.int .i64 0), (.str ⟨#[]⟩), (.int .i64 0), (.int .i64 0), (.str ⟨#[]⟩), (.bool false), (.bool false)] [(0, 1, (.c (.bool true)))]))),
 ((some (202, true)), (.v (.eq 212 false (.agg [(0, false, 1, .bool), (1, false, 1, .bool), (2, false, 1, .bool), (3, true, 3, (.agg [(0, false, 1, .int), (1, false, 1, .int), (2, false, 1, .str)])), (6, true, 3, (.agg [(0, false, 1, .int), (1, false, 1, .int), (2, false, 1, .str)])), (9, false, 1, .bool), (10, false, 1, .bool)]) (.t 210) (.t 211)))),
 (none, (.v (.pick 213 (.t 202) (.t 212) (.c (.bool false))))),
 (none, (.v (.mov 26 (.t 213))))])
 (.seq (.any false (.pure0 none (.v (.mov 214 (.t 5)))
 (.pure0 none (.v (.bin 215 .eql false (.t 214) (.c (.int .i64 3))))
 (.pure0 none (.v (.mov 216 (.t 215)))
 (.pure0 (some (216, true)) (.v (.mov 217 (.t 11)))
 (.pure0 (some (216, true)) (.v (.bin 218 .eql false (.t 217) (.c (.int .i64 1))))
 (.pure0 none (.v (.pick 219 (.t 216) (.t 218) (.c (.bool false))))
 (.pure0 none (.v (.mov 220 (.t 219)))
 (.pure0 (some (220, true)) (.v (.load 221 true 3 (.t 14)))
 (.alt (some (220, true)) (.e (.call (some 222) 44 [(.c (.bool false))]))
 (.base (.pure0 (some (220, true)) (.v (.eq 223 false (.agg [(0, false, 1, .int), (1, false, 1, .int), (2, false, 1, .str)]) (.t 221) (.t 222)))
 (.pure0 none (.v (.pick 224 (.t 220) (.t 223) (.c (.bool false))))
 (.pure0 none (.v (.mov 225 (.t 224)))
 (.pure0 (some (225, true)) (.v (.load 226 true 3 (.t 16)))
 (.pure0 (some (225, true)) (.v (.build 227 [(.int .i64 0), (.int .i64 0), (.str ⟨#[]⟩)] []))
 (.pure0 (some (225, true)) (.v (.eq 228 false (.agg [(0, false, 1, .int), (1, false, 1, .int), (2, false, 1, .str)]) (.t 226) (.t 227)))
 (.pure0 none (.v (.pick 229 (.t 225) (.t 228) (.c (.bool false))))
 (.pure0 none (.v (.mov 230 (.t 229)))
 (.pure0 (some (230, true)) (.v (.mov 231 (.t 24)))
 (.pure0 none (.v (.pick 232 (.t 230) (.t 231) (.c (.bool false))))
 (.pure0 none (.v (.mov 233 (.t 232)))
 (.pure0 (some (233, true)) (.v (.mov 234 (.t 26)))
 (.pure0 none (.v (.pick 235 (.t 233) (.t 234) (.c (.bool false))))
 (.pure0 none (.v (.mov 236 (.t 235)))
 (.pure0 (some (236, true)) (.v (.load 237 true 6 (.t 25)))
 (.alt (some (236, true)) (.e (.call (some 238) 36 [(.t 237)]))
 (.base (.pure0 (some (236, true)) (.v (.bin 239 .eql false (.t 238) (.c (.int .i64 9))))
 (.pure0 none (.v (.pick 240 (.t 236) (.t 239) (.c (.bool false))))
 (.pure0 none (.v (.mov 241 (.t 240)))
 (.pure0 (some (241, true)) (.v (.load 242 true 6 (.t 25)))
 (.alt (some (241, true)) (.e (.call (some 243) 28 [(.t 242)]))
 (.base (.pure0 (some (241, true)) (.p (.len 244 (.t 243)))
 (.pure0 (some (241, true)) (.v (.bin 245 .eql false (.t 244) (.c (.int .i64 3))))
 (.pure0 none (.v (.pick 246 (.t 241) (.t 245) (.c (.bool false))))
 (.pure0 none (.v (.mov 247 (.t 246)))
 (.pure0 (some (247, true)) (.v (.build 248 [(.bool false), (.bool false), (.bool false), (.int .i64 0), (.int .i64 0), (.str ⟨#[]⟩), (.int .i64 0), (.int .i64 0), (.str ⟨#[]⟩), (.bool false), (.bool false)] []))
 (.alt (some (247, true)) (.e (.call (some 249) 47 [(.c (.int .i64 1))]))
 (.base (.pure0 (some (247, true)) (.v (.get 250 true 3 2 (.t 249)))
 (.alt (some (247, true)) (.e (.call (some 251) 25 [(.t 248), (.t 250)]))
 (.base (.pure0 none (.v (.pick 252 (.t 247) (.t 251) (.c (.bool false))))
 (.pure0 none (.v (.mov 0 (.t 252)))
 .done)))
 .stop)))
 .stop)))))))
 .stop))))))
 .stop)))))))))))))))))
 .stop))))))))))
 .ret)))))))))))))))))))))
theorem ok13 : FnOk E 13 253 [.tmp 0] mc13 := .of func13 (by kernel_rfl) (by kernel_rfl) (by kernel_rfl) (by kernel_rfl) (by kernel_rfl)
/-- alum/expr.Eval -/
def mc14 : MC :=
 (.seq (.ops [(none, (.e (.box 2 (.t 0)))),
 (none, (.e (.alloc 4 [(.int .i64 0), (.int .i64 0), (.str ⟨#[]⟩)]))),
 (none, (.v (.mov 5 (.c (.int .i64 0)))))])
 (.seq (.ops [(none, (.v (.mov 6 (.c (.raw (.slice none 0 0))))))])
 (.seq (.seq (.ops [(none, (.v (.fld 12 5 (.t 2)))),
 (none, (.v (.load 13 false 1 (.t 12)))),
 (none, (.p (.len 14 (.t 13)))),
 (none, (.v (.mov 15 (.c (.int .i64 0)))))])
 (.block 0 (.loop (.seq (.ops [(none, (.v (.bin 16 .lss false (.t 15) (.t 14))))])
 (.seq (.cond 16
 .skip
 (.exit 0))
 (.seq (.block 1 (.seq (.ops [(none, (.p (.idx 17 6 (.t 13) (.t 15)))),
 (none, (.v (.load 18 true 6 (.t 17)))),
 (none, (.e (.alloc 8 [(.int .i64 0), (.int .i64 0), (.int .i64 0), (.int .i64 0), (.str ⟨#[]⟩), (.raw (.slice none 0 0))]))),
 (none, (.e (.store 6 true (.t 8) (.t 18))))])
 (.seq (.ops [(none, (.v (.load 20 true 6 (.t 8)))),
 (none, (.v (.mov 21 (.t 1)))),
 (none, (.e (.call (some 22) 14 [(.t 20), (.t 21)]))),
 (none, (.v (.mov 19 (.t 22)))),
 (none, (.v (.ext 23 0 (.t 19)))),
 (none, (.v (.ext 24 1 (.t 19)))),
 (none, (.e (.alloc 9 [(.int .i64 0), (.int .i64 0), (.str ⟨#[]⟩)]))),
 (none, (.e (.store 3 true (.t 9) (.t 23)))),
 (none, (.v (.mov 10 (.t 24))))])
 (.seq (.seq (.ops [(none, (.v (.mov 25 (.t 10)))),
 (none, (.v (.bin 26 .neq false (.t 25) (.c (.int .i64 0)))))])
 (.cond 26
 (.seq (.ops [(none, (.v (.build 27 [(.int .i64 0), (.int .i64 0), (.str ⟨#[]⟩)] []))),
 (none, (.v (.mov 28 (.t 10)))),
 (none, (.e (.store 3 true (.t 4) (.t 27)))),
 (none, (.v (.mov 5 (.t 28))))])
 .ret)
 .skip))
 (.ops [(none, (.v (.mov 29 (.t 6)))),
 (none, (.v (.load 30 true 3 (.t 9)))),
 (none, (.e (.mkl 31 24 3 1 (.agg [(.int .i64 0), (.int .i64 0), (.str ⟨#[]⟩)]) [(0, (.t 30))]))),
 (none, (.e (.app 32 24 3 32 (.t 29) (.t 31)))),
 (none, (.v (.mov 6 (.t 32))))])))))
 (.ops [(none, (.v (.bin 33 .add false (.t 15) (.c (.int .i64 1))))),
 (none, (.v (.mov 15 (.t 33))))])))))))
 (.seq (.block 2 (.seq (.ops [(none, (.v (.fld 35 0 (.t 2)))),
 (none, (.v (.load 36 false 1 (.t 35)))),
 (none, (.v (.bin 37 .eql false (.t 36) (.c (.int .i64 1))))),
 (none, (.v (.mov 34 (.t 37))))])
 (.cond 34
 (.seq (.ops [(none, (.v (.mov 38 (.t 1)))),
 (none, (.v (.fld 39 1 (.t 2)))),
 (none, (.v (.load 40 false 1 (.t 39)))),
 (none, (.p (.idx 41 3 (.t 38) (.t 40)))),
 (none, (.v (.load 42 true 3 (.t 41)))),
 (none, (.e (.store 3 true (.t 4) (.t 42)))),
 (none, (.v (.mov 5 (.c (.int .i64 0)))))])
 .ret)
 (.seq (.ops [(none, (.v (.fld 44 0 (.t 2)))),
 (none, (.v (.load 45 false 1 (.t 44)))),
 (none, (.v (.bin 46 .eql false (.t 45) (.c (.int .i64 2))))),
 (none, (.v (.mov 43 (.t 46))))])
 (.cond 43
 (.seq (.ops [(none, (.v (.fld 47 2 (.t 2)))),
 (none, (.v (.load 48 true 3 (.t 47)))),
 (none, (.e (.store 3 true (.t 4) (.t 48)))),
 (none, (.v (.mov 5 (.c (.int .i64 0)))))])
 .ret)
 (.seq (.ops [(none, (.v (.fld 50 0 (.t 2)))),
 (none, (.v (.load 51 false 1 (.t 50)))),
 (none, (.v (.bin 52 .eql false (.t 51) (.c (.int .i64 12))))),
 (none, (.v (.mov 49 (.t 52))))])
 (.cond 49
 (.seq (.any true (.pure0 none (.v (.mov 53 (.t 6)))
 (.pure0 none (.p (.idx 54 3 (.t 53) (.c (.int .i64 0))))
 (.pure0 none (.v (.load 55 true 3 (.t 54)))
 (.pure0 none (.v (.mov 56 (.t 6)))
 (.pure0 none (.p (.idx 57 3 (.t 56) (.c (.int .i64 1))))
 (.pure0 none (.v (.load 58 true 3 (.t 57)))
 (.alt none (.e (.call (some 59) 49 [(.t 55), (.t 58)]))
 (.pure1 none (.v (.ext 60 0 (.t 59)))
 (.pure1 none (.v (.ext 61 1 (.t 59)))
 (.alt none (.e (.store 3 true (.t 4) (.t 60)))
 (.pure1 none (.v (.mov 5 (.t 61)))
 .done)
 .stop)))
 .stop))))))))
 .ret)
 (.seq (.ops [(none, (.v (.fld 63 0 (.t 2)))),
 (none, (.v (.load 64 false 1 (.t 63)))),
 (none, (.v (.bin 65 .eql false (.t 64) (.c (.int .i64 13))))),
 (none, (.v (.mov 62 (.t 65))))])
 (.cond 62
 (.seq (.any true (.pure0 none (.v (.mov 66 (.t 6)))
 (.pure0 none (.p (.idx 67 3 (.t 66) (.c (.int .i64 0))))
 (.pure0 none (.v (.load 68 true 3 (.t 67)))
 (.pure0 none (.v (.mov 69 (.t 6)))
 (.pure0 none (.p (.idx 70 3 (.t 69) (.c (.int .i64 1))))
 (.pure0 none (.v (.load 71 true 3 (.t 70)))
 (.alt none (.e (.call (some 72) 50 [(.t 68), (.t 71)]))
 (.pure1 none (.v (.ext 73 0 (.t 72)))
 (.pure1 none (.v (.ext 74 1 (.t 72)))
 (.alt none (.e (.store 3 true (.t 4) (.t 73)))
 (.pure1 none (.v (.mov 5 (.t 74)))
 .done)
 .stop)))
 .stop))))))))
 .ret)
 (.seq (.ops [(none, (.v (.fld 76 0 (.t 2)))),
 (none, (.v (.load 77 false 1 (.t 76)))),
 (none, (.v (.bin 78 .eql false (.t 77) (.c (.int .i64 14))))),
 (none, (.v (.mov 75 (.t 78))))])
 (.cond 75
 (.seq (.ops [(none, (.v (.mov 79 (.t 6)))),
 (none, (.p (.idx 80 3 (.t 79) (.c (.int .i64 0))))),
 (none, (.v (.load 81 true 3 (.t 80)))),
 (none, (.e (.call (some 82) 51 [(.t 81)]))),
 (none, (.v (.ext 83 0 (.t 82)))),
 (none, (.v (.ext 84 1 (.t 82)))),
 (none, (.e (.store 3 true (.t 4) (.t 83)))),
 (none, (.v (.mov 5 (.t 84))))])
 .ret)
 (.seq (.ops [(none, (.v (.fld 86 0 (.t 2)))),
 (none, (.v (.load 87 false 1 (.t 86)))),
 (none, (.v (.bin 88 .eql false (.t 87) (.c (.int .i64 15))))),
 (none, (.v (.mov 85 (.t 88))))])
 (.cond 85
 (.seq (.ops [(none, (.v (.mov 89 (.t 6)))),
 (none, (.p (.idx 90 3 (.t 89) (.c (.int .i64 0))))),
 (none, (.v (.fld 91 0 (.t 90)))),
 (none, (.v (.load 92 false 1 (.t 91)))),
 (none, (.v (.bin 93 .eql false (.t 92) (.c (.int .i64 0))))),
 (none, (.e (.call (some 94) 52 [(.t 93)]))),
 (none, (.e (.store 3 true (.t 4) (.t 94)))),
 (none, (.v (.mov 5 (.c (.int .i64 0)))))])
 .ret)
 (.seq (.ops [(none, (.v (.fld 96 0 (.t 2)))),
 (none, (.v (.load 97 false 1 (.t 96)))),
 (none, (.e (.call (some 98) 53 [(.t 97)]))),
 (none, (.v (.mov 95 (.t 98))))])
 (.cond 95
 (.seq (.any true (.pure0 none (.v (.fld 99 0 (.t 2)))
 (.pure0 none (.v (.load 100 false 1 (.t 99)))
 (.pure0 none (.v (.mov 101 (.t 6)))
 (.pure0 none (.p (.idx 102 3 (.t 101) (.c (.int .i64 0))))
 (.pure0 none (.v (.load 103 true 3 (.t 102)))
 (.pure0 none (.v (.mov 104 (.t 6)))
 (.pure0 none (.p (.idx 105 3 (.t 104) (.c (.int .i64 1))))
 (.pure0 none (.v (.load 106 true 3 (.t 105)))
 (.alt none (.e (.call (some 107) 54 [(.t 100), (.t 103), (.t 106)]))
 (.pure1 none (.v (.ext 108 0 (.t 107)))
 (.pure1 none (.v (.ext 109 1 (.t 107)))
 (.alt none (.e (.store 3 true (.t 4) (.t 108)))
 (.pure1 none (.v (.mov 5 (.t 109)))
 .done)
 .stop)))
 .stop))))))))))
 .ret)
 .skip)))))))))))))))
 (.seq (.seq (.ops [(none, (.v (.mov 110 (.t 6)))),
 (none, (.p (.idx 111 3 (.t 110) (.c (.int .i64 0))))),
 (none, (.v (.fld 112 0 (.t 111)))),
 (none, (.v (.load 113 false 1 (.t 112)))),
 (none, (.v (.bin 114 .eql false (.t 113) (.c (.int .i64 0))))),
 (none, (.v (.mov 115 (.t 114)))),
 ((some (115, false)), (.v (.mov 116 (.t 6)))),
 ((some (115, false)), (.p (.idx 117 3 (.t 116) (.c (.int .i64 1))))),
 ((some (115, false)), (.v (.fld 118 0 (.t 117)))),
 ((some (115, false)), (.v (.load 119 false 1 (.t 118)))),
 ((some (115, false)), (.v (.bin 120 .eql false (.t 119) (.c (.int .i64 0))))),
 (none, (.v (.pick 121 (.t 115) (.c (.bool true)) (.t 120))))])
 (.cond 121
 (.seq (.ops [(none, (.v (.build 122 [(.int .i64 0), (.int .i64 0), (.str ⟨#[]⟩)] []))),
 (none, (.e (.store 3 true (.t 4) (.t 122)))),
 (none, (.v (.mov 5 (.c (.int .i64 0)))))])
 .ret)
 .skip))
 (.seq (.any false (.pure0 none (.v (.gld 123 0))
 (.pure0 none (.v (.fld 124 0 (.t 2)))
 (.pure0 none (.v (.load 125 false 1 (.t 124)))
 (.pure0 none (.p (.look 126 false (.int .i64) (.raw .nilFunc) (.t 123) (.t 125)))
 (.pure0 none (.v (.mov 127 (.t 6)))
 (.pure0 none (.p (.idx 128 3 (.t 127) (.c (.int .i64 0))))
 (.pure0 none (.v (.fld 129 1 (.t 128)))
 (.pure0 none (.v (.load 130 false 1 (.t 129)))
 (.pure0 none (.v (.mov 131 (.t 6)))
 (.pure0 none (.p (.idx 132 3 (.t 131) (.c (.int .i64 1))))
 (.pure0 none (.v (.fld 133 1 (.t 132)))
 (.pure0 none (.v (.load 134 false 1 (.t 133)))
 (.pure0 none (.v (.build 135 [(.int .i64 0), (.int .i64 0)] [(0, 1, (.t 130)), (1, 1, (.t 134))]))
 (.alt none (.e (.callv (some 136) (.t 126) [(.t 135)]))
 (.base (.pure0 none (.v (.mov 11 (.t 136)))
 .done))
 .stop)))))))))))))))
 (.seq (.seq (.ops [(none, (.v (.mov 137 (.t 11)))),
 (none, (.v (.bin 138 .lss false (.t 137) (.c (.int .i64 (-549755813888)))))),
 (none, (.v (.mov 139 (.t 138)))),
 ((some (139, false)), (.v (.mov 140 (.t 11)))),
 ((some (139, false)), (.v (.bin 141 .gtr false (.t 140) (.c (.int .i64 549755813887))))),
 (none, (.v (.pick 142 (.t 139) (.c (.bool true)) (.t 141))))])
 (.cond 142
 (.seq (.ops [(none, (.v (.build 143 [(.int .i64 0), (.int .i64 0), (.str ⟨#[]⟩)] []))),
 (none, (.e (.store 3 true (.t 4) (.t 143)))),
 (none, (.v (.mov 5 (.c (.int .i64 360)))))])
 .ret)
 .skip))
 (.seq (.ops [(none, (.v (.mov 144 (.t 11)))),
 (none, (.v (.build 145 [(.int .i64 0), (.int .i64 0), (.str ⟨#[]⟩)] [(0, 1, (.c (.int .i64 1))), (1, 1, (.t 144))]))),
 (none, (.e (.store 3 true (.t 4) (.t 145)))),
 (none, (.v (.mov 5 (.c (.int .i64 0)))))])
 .ret))))))))
theorem ok14 : FnOk E 14 146 [.cell 4 24, .tmp 5] mc14 := .of func14 (by kernel_rfl) (by kernel_rfl) (by kernel_rfl) (by kernel_rfl) (by kernel_rfl)
/-- alum/alumref36.Eval -/
def mc15 : MC :=
 (.seq (.ops [(none, (.e (.box 2 (.t 0)))),
 (none, (.e (.alloc 4 [(.int .i64 0), (.int .i64 0), (.str ⟨#[]⟩)]))),
 (none, (.v (.mov 5 (.c (.int .i64 0)))))])
 (.seq (.ops [(none, (.v (.mov 6 (.c (.raw (.slice none 0 0))))))])
 (.seq (.seq (.ops [(none, (.v (.mov 7 (.c (.int .i64 0)))))])
 (.block 0 (.loop (.seq (.seq (.ops [(none, (.v (.mov 12 (.t 7)))),
 (none, (.v (.fld 13 5 (.t 2)))),
 (none, (.v (.load 14 false 1 (.t 13)))),
 (none, (.p (.len 15 (.t 14)))),
 (none, (.v (.bin 16 .lss false (.t 12) (.t 15))))])
 (.cond 16
 .skip
 (.exit 0)))
 (.seq (.block 1 (.seq (.ops [(none, (.v (.fld 20 5 (.t 2)))),
 (none, (.v (.load 21 false 1 (.t 20)))),
 (none, (.v (.mov 22 (.t 7)))),
 (none, (.p (.idx 23 6 (.t 21) (.t 22)))),
 (none, (.v (.load 24 true 6 (.t 23)))),
 (none, (.v (.mov 25 (.t 1)))),
 (none, (.e (.call (some 26) 15 [(.t 24), (.t 25)]))),
 (none, (.v (.mov 19 (.t 26)))),
 (none, (.v (.ext 27 0 (.t 19)))),
 (none, (.v (.ext 28 1 (.t 19)))),
 (none, (.e (.alloc 8 [(.int .i64 0), (.int .i64 0), (.str ⟨#[]⟩)]))),
 (none, (.e (.store 3 true (.t 8) (.t 27)))),
 (none, (.v (.mov 9 (.t 28))))])
 (.seq (.seq (.ops [(none, (.v (.mov 29 (.t 9)))),
 (none, (.v (.bin 30 .neq false (.t 29) (.c (.int .i64 0)))))])
 (.cond 30
 (.seq (.ops [(none, (.v (.build 31 [(.int .i64 0), (.int .i64 0), (.str ⟨#[]⟩)] []))),
 (none, (.v (.mov 32 (.t 9)))),
 (none, (.e (.store 3 true (.t 4) (.t 31)))),
 (none, (.v (.mov 5 (.t 32))))])
 .ret)
 .skip))
 (.ops [(none, (.v (.mov 33 (.t 6)))),
 (none, (.v (.load 34 true 3 (.t 8)))),
 (none, (.e (.mkl 35 24 3 1 (.agg [(.int .i64 0), (.int .i64 0), (.str ⟨#[]⟩)]) [(0, (.t 34))]))),
 (none, (.e (.app 36 24 3 32 (.t 33) (.t 35)))),
 (none, (.v (.mov 6 (.t 36))))]))))
 (.ops [(none, (.v (.mov 17 (.t 7)))),
 (none, (.v (.bin 18 .add false (.t 17) (.c (.int .i64 1))))),
 (none, (.v (.mov 7 (.t 18))))]))))))
 (.seq (.seq (.ops [(none, (.v (.fld 37 0 (.t 2)))),
 (none, (.v (.load 38 false 1 (.t 37))))])
 (.block 2 (.seq (.ops [(none, (.v (.bin 40 .eql false (.t 38) (.c (.int .i64 1))))),
 (none, (.v (.mov 39 (.t 40))))])
 (.cond 39
 (.seq (.ops [(none, (.v (.mov 41 (.t 1)))),
 (none, (.v (.fld 42 1 (.t 2)))),
 (none, (.v (.load 43 false 1 (.t 42)))),
 (none, (.p (.idx 44 3 (.t 41) (.t 43)))),
 (none, (.v (.load 45 true 3 (.t 44)))),
 (none, (.e (.store 3 true (.t 4) (.t 45)))),
 (none, (.v (.mov 5 (.c (.int .i64 0)))))])
 .ret)
 (.seq (.ops [(none, (.v (.bin 47 .eql false (.t 38) (.c (.int .i64 2))))),
 (none, (.v (.mov 46 (.t 47))))])
 (.cond 46
 (.seq (.ops [(none, (.v (.fld 48 2 (.t 2)))),
 (none, (.v (.load 49 true 3 (.t 48)))),
 (none, (.e (.store 3 true (.t 4) (.t 49)))),
 (none, (.v (.mov 5 (.c (.int .i64 0)))))])
 .ret)
 (.seq (.ops [(none, (.v (.bin 51 .eql false (.t 38) (.c (.int .i64 12))))),
 (none, (.v (.mov 50 (.t 51))))])
 (.cond 50
 (.seq (.any true (.pure0 none (.v (.mov 52 (.t 6)))
 (.pure0 none (.p (.idx 53 3 (.t 52) (.c (.int .i64 0))))
 (.pure0 none (.v (.load 54 true 3 (.t 53)))
 (.pure0 none (.v (.mov 55 (.t 6)))
 (.pure0 none (.p (.idx 56 3 (.t 55) (.c (.int .i64 1))))
 (.pure0 none (.v (.load 57 true 3 (.t 56)))
 (.alt none (.e (.call (some 58) 55 [(.t 54), (.t 57)]))
 (.pure1 none (.v (.ext 59 0 (.t 58)))
 (.pure1 none (.v (.ext 60 1 (.t 58)))
 (.alt none (.e (.store 3 true (.t 4) (.t 59)))
 (.pure1 none (.v (.mov 5 (.t 60)))
 .done)
 .stop)))
 .stop))))))))
 .ret)
 (.seq (.ops [(none, (.v (.bin 62 .eql false (.t 38) (.c (.int .i64 13))))),
 (none, (.v (.mov 61 (.t 62))))])
 (.cond 61
 (.seq (.any true (.pure0 none (.v (.mov 63 (.t 6)))
 (.pure0 none (.p (.idx 64 3 (.t 63) (.c (.int .i64 0))))
 (.pure0 none (.v (.load 65 true 3 (.t 64)))
 (.pure0 none (.v (.mov 66 (.t 6)))
 (.pure0 none (.p (.idx 67 3 (.t 66) (.c (.int .i64 1))))
 (.pure0 none (.v (.load 68 true 3 (.t 67)))
 (.alt none (.e (.call (some 69) 56 [(.t 65), (.t 68)]))
 (.pure1 none (.v (.ext 70 0 (.t 69)))
 (.pure1 none (.v (.ext 71 1 (.t 69)))
 (.alt none (.e (.store 3 true (.t 4) (.t 70)))
 (.pure1 none (.v (.mov 5 (.t 71)))
 .done)
 .stop)))
 .stop))))))))
 .ret)
 (.seq (.ops [(none, (.v (.bin 73 .eql false (.t 38) (.c (.int .i64 14))))),
 (none, (.v (.mov 72 (.t 73))))])
 (.cond 72
 (.seq (.ops [(none, (.v (.mov 74 (.t 6)))),
 (none, (.p (.idx 75 3 (.t 74) (.c (.int .i64 0))))),
 (none, (.v (.load 76 true 3 (.t 75)))),
 (none, (.e (.call (some 77) 57 [(.t 76)]))),
 (none, (.v (.ext 78 0 (.t 77)))),
 (none, (.v (.ext 79 1 (.t 77)))),
 (none, (.e (.store 3 true (.t 4) (.t 78)))),
 (none, (.v (.mov 5 (.t 79))))])
 .ret)
 (.seq (.ops [(none, (.v (.bin 81 .eql false (.t 38) (.c (.int .i64 15))))),
 (none, (.v (.mov 80 (.t 81))))])
 (.cond 80
 (.seq (.ops [(none, (.v (.mov 82 (.t 6)))),
 (none, (.p (.idx 83 3 (.t 82) (.c (.int .i64 0))))),
 (none, (.v (.fld 84 0 (.t 83)))),
 (none, (.v (.load 85 false 1 (.t 84)))),
 (none, (.v (.bin 86 .eql false (.t 85) (.c (.int .i64 0))))),
 (none, (.e (.call (some 87) 44 [(.t 86)]))),
 (none, (.e (.store 3 true (.t 4) (.t 87)))),
 (none, (.v (.mov 5 (.c (.int .i64 0)))))])
 .ret)
 .skip))))))))))))))
 (.seq (.seq (.ops [(none, (.v (.fld 88 0 (.t 2)))),
 (none, (.v (.load 89 false 1 (.t 88)))),
 (none, (.e (.call (some 90) 58 [(.t 89)])))])
 (.cond 90
 (.seq (.any true (.pure0 none (.v (.fld 91 0 (.t 2)))
 (.pure0 none (.v (.load 92 false 1 (.t 91)))
 (.pure0 none (.v (.mov 93 (.t 6)))
 (.pure0 none (.p (.idx 94 3 (.t 93) (.c (.int .i64 0))))
 (.pure0 none (.v (.load 95 true 3 (.t 94)))
 (.pure0 none (.v (.mov 96 (.t 6)))
 (.pure0 none (.p (.idx 97 3 (.t 96) (.c (.int .i64 1))))
 (.pure0 none (.v (.load 98 true 3 (.t 97)))
 (.alt none (.e (.call (some 99) 59 [(.t 92), (.t 95), (.t 98)]))
 (.pure1 none (.v (.ext 100 0 (.t 99)))
 (.pure1 none (.v (.ext 101 1 (.t 99)))
 (.alt none (.e (.store 3 true (.t 4) (.t 100)))
 (.pure1 none (.v (.mov 5 (.t 101)))
 .done)
 .stop)))
 .stop))))))))))
 .ret)
 .skip))
 (.seq (.seq (.ops [(none, (.v (.mov 102 (.t 6)))),
 (none, (.p (.idx 103 3 (.t 102) (.c (.int .i64 0))))),
 (none, (.v (.fld 104 0 (.t 103)))),
 (none, (.v (.load 105 false 1 (.t 104)))),
 (none, (.v (.bin 106 .eql false (.t 105) (.c (.int .i64 0))))),
 (none, (.v (.mov 107 (.t 106)))),
 ((some (107, false)), (.v (.mov 108 (.t 6)))),
 ((some (107, false)), (.p (.idx 109 3 (.t 108) (.c (.int .i64 1))))),
 ((some (107, false)), (.v (.fld 110 0 (.t 109)))),
 ((some (107, false)), (.v (.load 111 false 1 (.t 110)))),
 ((some (107, false)), (.v (.bin 112 .eql false (.t 111) (.c (.int .i64 0))))),
 (none, (.v (.pick 113 (.t 107) (.c (.bool true)) (.t 112))))])
 (.cond 113
 (.seq (.ops [(none, (.v (.build 114 [(.int .i64 0), (.int .i64 0), (.str ⟨#[]⟩)] []))),
 (none, (.e (.store 3 true (.t 4) (.t 114)))),
 (none, (.v (.mov 5 (.c (.int .i64 0)))))])
 .ret)
 .skip))
 (.seq (.any false (.pure0 none (.v (.fld 116 0 (.t 2)))
 (.pure0 none (.v (.load 117 false 1 (.t 116)))
 (.pure0 none (.v (.mov 118 (.t 6)))
 (.pure0 none (.p (.idx 119 3 (.t 118) (.c (.int .i64 0))))
 (.pure0 none (.v (.fld 120 1 (.t 119)))
 (.pure0 none (.v (.load 121 false 1 (.t 120)))
 (.pure0 none (.v (.mov 122 (.t 6)))
 (.pure0 none (.p (.idx 123 3 (.t 122) (.c (.int .i64 1))))
 (.pure0 none (.v (.fld 124 1 (.t 123)))
 (.pure0 none (.v (.load 125 false 1 (.t 124)))
 (.alt none (.e (.call (some 126) 60 [(.t 117), (.t 121), (.t 125)]))
 (.base (.pure0 none (.v (.mov 115 (.t 126)))
 (.pure0 none (.v (.ext 127 0 (.t 115)))
 (.pure0 none (.v (.ext 128 1 (.t 115)))
 (.pure0 none (.v (.mov 10 (.t 127)))
 (.pure0 none (.v (.mov 11 (.t 128)))
 .done))))))
 .stop))))))))))))
 (.seq (.seq (.ops [(none, (.v (.mov 129 (.t 11)))),
 (none, (.v (.bin 130 .neq false (.t 129) (.c (.int .i64 0)))))])
 (.cond 130
 (.seq (.ops [(none, (.v (.build 131 [(.int .i64 0), (.int .i64 0), (.str ⟨#[]⟩)] []))),
 (none, (.v (.mov 132 (.t 11)))),
 (none, (.e (.store 3 true (.t 4) (.t 131)))),
 (none, (.v (.mov 5 (.t 132))))])
 .ret)
 .skip))
 (.seq (.ops [(none, (.v (.mov 133 (.t 10)))),
 (none, (.v (.build 134 [(.int .i64 0), (.int .i64 0), (.str ⟨#[]⟩)] [(0, 1, (.c (.int .i64 1))), (1, 1, (.t 133))]))),
 (none, (.e (.store 3 true (.t 4) (.t 134)))),
 (none, (.v (.mov 5 (.c (.int .i64 0)))))])
 .ret)))))))))
theorem ok15 : FnOk E 15 135 [.cell 4 24, .tmp 5] mc15 := .of func15 (by kernel_rfl) (by kernel_rfl) (by kernel_rfl) (by kernel_rfl) (by kernel_rfl)
/-- alum/expr.Check -/
def mc16 : MC :=
 (.seq (.ops [(none, (.e (.box 3 (.t 1)))),
 (none, (.e (.alloc 4 [(.int .i64 0)]))),
 (none, (.e (.alloc 5 [(.int .i64 0)])))])
 (.seq (.seq (.ops [(none, (.v (.load 7 true 6 (.t 3)))),
 (none, (.e (.call (some 8) 36 [(.t 7)]))),
 (none, (.v (.bin 9 .gtr false (.t 8) (.c (.int .i64 200)))))])
 (.cond 9
 (.seq (.ops [(none, (.e (.store 1 false (.t 4) (.c (.int .i64 0))))),
 (none, (.e (.store 1 false (.t 5) (.c (.int .i64 2)))))])
 .ret)
 .skip))
 (.seq (.seq (.ops [(none, (.v (.load 10 true 6 (.t 3)))),
 (none, (.e (.call (some 11) 61 [(.t 10)])))])
 (.block 0 (.rngf (.t 11) #[12] (.ops [(none, (.e (.alloc 6 [(.int .i64 0), (.int .i64 0), (.int .i64 0), (.int .i64 0), (.str ⟨#[]⟩), (.raw (.slice none 0 0))]))),
 (none, (.e (.store 6 true (.t 6) (.t 12))))]) (.block 1 (.seq (.ops [(none, (.v (.load 13 true 6 (.t 6)))),
 (none, (.e (.call (some 14) 62 [(.t 13)]))),
 (none, (.v (.not 15 (.t 14))))])
 (.cond 15
 (.seq (.ops [(none, (.e (.store 1 false (.t 4) (.c (.int .i64 0))))),
 (none, (.e (.store 1 false (.t 5) (.c (.int .i64 3)))))])
 .ret)
 .skip))))))
 (.seq (.ops [(none, (.v (.mov 16 (.t 0)))),
 (none, (.v (.load 17 true 6 (.t 3)))),
 (none, (.e (.call (some 18) 63 [(.t 16), (.t 17)]))),
 (none, (.v (.ext 19 0 (.t 18)))),
 (none, (.v (.ext 20 1 (.t 18)))),
 (none, (.e (.store 1 false (.t 4) (.t 19)))),
 (none, (.e (.store 1 false (.t 5) (.t 20))))])
 .ret))))
theorem ok16 : FnOk E 16 21 [.cell 4 3, .cell 5 33] mc16 := .of func16 (by kernel_rfl) (by kernel_rfl) (by kernel_rfl) (by kernel_rfl) (by kernel_rfl)
/-- alum/expr.Holds -/
def mc17 : MC :=
 (.seq (.ops [(none, (.e (.box 2 (.t 0)))),
 (none, (.v (.mov 4 (.c (.bool false))))),
 (none, (.v (.mov 5 (.c (.int .i64 0)))))])
 (.seq (.ops [(none, (.v (.load 9 true 6 (.t 2)))),
 (none, (.v (.mov 10 (.t 1)))),
 (none, (.e (.call (some 11) 14 [(.t 9), (.t 10)]))),
 (none, (.v (.mov 8 (.t 11)))),
 (none, (.v (.ext 12 0 (.t 8)))),
 (none, (.v (.ext 13 1 (.t 8)))),
 (none, (.e (.alloc 6 [(.int .i64 0), (.int .i64 0), (.str ⟨#[]⟩)]))),
 (none, (.e (.store 3 true (.t 6) (.t 12)))),
 (none, (.v (.mov 7 (.t 13))))])
 (.seq (.any false (.pure0 none (.v (.mov 14 (.t 7)))
 (.pure0 none (.v (.bin 15 .eql false (.t 14) (.c (.int .i64 0))))
 (.pure0 none (.v (.mov 16 (.t 15)))
 (.pure0 (some (16, true)) (.v (.load 17 true 3 (.t 6)))
 (.pure0 none (.v (.mov 21 (.t 7)))
 (.alt (some (16, true)) (.e (.call (some 18) 52 [(.c (.bool true))]))
 (.base (.pure0 (some (16, true)) (.v (.eq 19 false (.agg [(0, false, 1, .int), (1, false, 1, .int), (2, false, 1, .str)]) (.t 17) (.t 18)))
 (.pure0 none (.v (.pick 20 (.t 16) (.t 19) (.c (.bool false))))
 (.pure0 none (.v (.mov 4 (.t 20)))
 (.pure0 none (.v (.mov 5 (.t 21)))
 .done)))))
 .stop)))))))
 .ret)))
theorem ok17 : FnOk E 17 22 [.tmp 4, .tmp 5] mc17 := .of func17 (by kernel_rfl) (by kernel_rfl) (by kernel_rfl) (by kernel_rfl) (by kernel_rfl)
/-- alum/alumref36.Holds -/
def mc18 : MC :=
 (.seq (.ops [(none, (.e (.box 2 (.t 0)))),
 (none, (.v (.mov 4 (.c (.bool false))))),
 (none, (.v (.mov 5 (.c (.int .i64 0)))))])
 (.seq (.ops [(none, (.v (.load 9 true 6 (.t 2)))),
 (none, (.v (.mov 10 (.t 1)))),
 (none, (.e (.call (some 11) 15 [(.t 9), (.t 10)]))),
 (none, (.v (.mov 8 (.t 11)))),
 (none, (.v (.ext 12 0 (.t 8)))),
 (none, (.v (.ext 13 1 (.t 8)))),
 (none, (.e (.alloc 6 [(.int .i64 0), (.int .i64 0), (.str ⟨#[]⟩)]))),
 (none, (.e (.store 3 true (.t 6) (.t 12)))),
 (none, (.v (.mov 7 (.t 13))))])
 (.seq (.any false (.pure0 none (.v (.mov 14 (.t 7)))
 (.pure0 none (.v (.bin 15 .eql false (.t 14) (.c (.int .i64 0))))
 (.pure0 none (.v (.mov 16 (.t 15)))
 (.pure0 (some (16, true)) (.v (.load 17 true 3 (.t 6)))
 (.pure0 none (.v (.mov 21 (.t 7)))
 (.alt (some (16, true)) (.e (.call (some 18) 44 [(.c (.bool true))]))
 (.base (.pure0 (some (16, true)) (.v (.eq 19 false (.agg [(0, false, 1, .int), (1, false, 1, .int), (2, false, 1, .str)]) (.t 17) (.t 18)))
 (.pure0 none (.v (.pick 20 (.t 16) (.t 19) (.c (.bool false))))
 (.pure0 none (.v (.mov 4 (.t 20)))
 (.pure0 none (.v (.mov 5 (.t 21)))
 .done)))))
 .stop)))))))
 .ret)))
theorem ok18 : FnOk E 18 22 [.tmp 4, .tmp 5] mc18 := .of func18 (by kernel_rfl) (by kernel_rfl) (by kernel_rfl) (by kernel_rfl) (by kernel_rfl)
/-- alum/alumref36.Size -/
def mc19 : MC :=
 (.seq (.ops [(none, (.e (.box 1 (.t 0)))),
 (none, (.v (.mov 2 (.c (.int .i64 0)))))])
 (.seq (.ops [(none, (.v (.mov 3 (.c (.int .i64 1)))))])
 (.seq (.seq (.ops [(none, (.v (.mov 4 (.c (.int .i64 0)))))])
 (.block 0 (.loop (.seq (.seq (.ops [(none, (.v (.mov 5 (.t 4)))),
 (none, (.v (.fld 6 5 (.t 1)))),
 (none, (.v (.load 7 false 1 (.t 6)))),
 (none, (.p (.len 8 (.t 7)))),
 (none, (.v (.bin 9 .lss false (.t 5) (.t 8))))])
 (.cond 9
 .skip
 (.exit 0)))
 (.seq (.block 1 (.ops [(none, (.v (.mov 12 (.t 3)))),
 (none, (.v (.fld 13 5 (.t 1)))),
 (none, (.v (.load 14 false 1 (.t 13)))),
 (none, (.v (.mov 15 (.t 4)))),
 (none, (.p (.idx 16 6 (.t 14) (.t 15)))),
 (none, (.v (.load 17 true 6 (.t 16)))),
 (none, (.e (.call (some 18) 19 [(.t 17)]))),
 (none, (.v (.bin 19 .add false (.t 12) (.t 18)))),
 (none, (.v (.mov 3 (.t 19))))]))
 (.ops [(none, (.v (.mov 10 (.t 4)))),
 (none, (.v (.bin 11 .add false (.t 10) (.c (.int .i64 1))))),
 (none, (.v (.mov 4 (.t 11))))]))))))
 (.seq (.ops [(none, (.v (.mov 20 (.t 3)))),
 (none, (.v (.mov 2 (.t 20))))])
 .ret))))
theorem ok19 : FnOk E 19 21 [.tmp 2] mc19 := .of func19 (by kernel_rfl) (by kernel_rfl) (by kernel_rfl) (by kernel_rfl) (by kernel_rfl)
/-- alum/alumref36.Fails -/
def mc20 : MC :=
 (.seq (.ops [(none, (.e (.box 1 (.t 0)))),
 (none, (.v (.mov 2 (.c (.bool false)))))])
 (.seq (.ops [(none, (.v (.fld 5 0 (.t 1)))),
 (none, (.v (.load 6 false 1 (.t 5)))),
 (none, (.e (.call (some 7) 64 [(.t 6)]))),
 (none, (.v (.mov 3 (.t 7))))])
 (.seq (.seq (.ops [(none, (.v (.mov 4 (.c (.int .i64 0)))))])
 (.block 0 (.loop (.seq (.seq (.ops [(none, (.v (.mov 8 (.t 4)))),
 (none, (.v (.fld 9 5 (.t 1)))),
 (none, (.v (.load 10 false 1 (.t 9)))),
 (none, (.p (.len 11 (.t 10)))),
 (none, (.v (.bin 12 .lss false (.t 8) (.t 11))))])
 (.cond 12
 .skip
 (.exit 0)))
 (.seq (.block 1 (.ops [(none, (.v (.fld 15 5 (.t 1)))),
 (none, (.v (.load 16 false 1 (.t 15)))),
 (none, (.v (.mov 17 (.t 4)))),
 (none, (.p (.idx 18 6 (.t 16) (.t 17)))),
 (none, (.v (.load 19 true 6 (.t 18)))),
 (none, (.e (.call (some 20) 20 [(.t 19)]))),
 (none, (.v (.mov 21 (.t 20)))),
 ((some (21, false)), (.v (.mov 22 (.t 3)))),
 (none, (.v (.pick 23 (.t 21) (.c (.bool true)) (.t 22)))),
 (none, (.v (.mov 3 (.t 23))))]))
 (.ops [(none, (.v (.mov 13 (.t 4)))),
 (none, (.v (.bin 14 .add false (.t 13) (.c (.int .i64 1))))),
 (none, (.v (.mov 4 (.t 14))))]))))))
 (.seq (.ops [(none, (.v (.mov 24 (.t 3)))),
 (none, (.v (.mov 2 (.t 24))))])
 .ret))))
theorem ok20 : FnOk E 20 25 [.tmp 2] mc20 := .of func20 (by kernel_rfl) (by kernel_rfl) (by kernel_rfl) (by kernel_rfl) (by kernel_rfl)
/-- alum/alumref19.Right -/
def mc21 : MC :=
 (.seq (.ops [(none, (.e (.box 1 (.t 0)))),
 (none, (.v (.mov 2 (.c (.bool false)))))])
 (.seq (.seq (.ops [(none, (.v (.fld 3 0 (.t 1)))),
 (none, (.v (.load 4 false 1 (.t 3))))])
 (.block 0 (.seq (.ops [(none, (.v (.bin 6 .eql false (.t 4) (.c (.int .i64 0))))),
 (none, (.v (.mov 5 (.t 6))))])
 (.cond 5
 (.seq (.ops [(none, (.v (.fld 7 1 (.t 1)))),
 (none, (.v (.load 8 false 1 (.t 7)))),
 (none, (.v (.bin 9 .eql false (.t 8) (.c (.int .i64 0))))),
 (none, (.v (.mov 10 (.t 9)))),
 ((some (10, true)), (.v (.fld 11 2 (.t 1)))),
 ((some (10, true)), (.v (.load 12 false 1 (.t 11)))),
 ((some (10, true)), (.v (.bin 13 .eql false (.t 12) (.c (.str ⟨#[]⟩))))),
 (none, (.v (.pick 14 (.t 10) (.t 13) (.c (.bool false))))),
 (none, (.v (.mov 2 (.t 14))))])
 .ret)
 (.seq (.ops [(none, (.v (.bin 16 .eql false (.t 4) (.c (.int .i64 1))))),
 (none, (.v (.mov 15 (.t 16))))])
 (.cond 15
 (.seq (.ops [(none, (.v (.fld 17 1 (.t 1)))),
 (none, (.v (.load 18 false 1 (.t 17)))),
 (none, (.v (.bin 19 .geq false (.t 18) (.c (.int .i64 (-549755813888)))))),
 (none, (.v (.mov 20 (.t 19)))),
 ((some (20, true)), (.v (.fld 21 1 (.t 1)))),
 ((some (20, true)), (.v (.load 22 false 1 (.t 21)))),
 ((some (20, true)), (.v (.bin 23 .leq false (.t 22) (.c (.int .i64 549755813887))))),
 (none, (.v (.pick 24 (.t 20) (.t 23) (.c (.bool false))))),
 (none, (.v (.mov 25 (.t 24)))),
 ((some (25, true)), (.v (.fld 26 2 (.t 1)))),
 ((some (25, true)), (.v (.load 27 false 1 (.t 26)))),
 ((some (25, true)), (.v (.bin 28 .eql false (.t 27) (.c (.str ⟨#[]⟩))))),
 (none, (.v (.pick 29 (.t 25) (.t 28) (.c (.bool false))))),
 (none, (.v (.mov 2 (.t 29))))])
 .ret)
 (.seq (.ops [(none, (.v (.bin 31 .eql false (.t 4) (.c (.int .i64 2))))),
 (none, (.v (.mov 30 (.t 31))))])
 (.cond 30
 (.seq (.ops [(none, (.v (.fld 32 1 (.t 1)))),
 (none, (.v (.load 33 false 1 (.t 32)))),
 (none, (.v (.bin 34 .eql false (.t 33) (.c (.int .i64 0))))),
 (none, (.v (.mov 35 (.t 34)))),
 ((some (35, true)), (.v (.fld 36 2 (.t 1)))),
 ((some (35, true)), (.v (.load 37 false 1 (.t 36)))),
 ((some (35, true)), (.p (.slen 38 (.t 37)))),
 ((some (35, true)), (.v (.bin 39 .leq false (.t 38) (.c (.int .i64 40))))),
 (none, (.v (.pick 40 (.t 35) (.t 39) (.c (.bool false))))),
 (none, (.v (.mov 2 (.t 40))))])
 .ret)
 (.seq (.ops [(none, (.v (.bin 42 .eql false (.t 4) (.c (.int .i64 3))))),
 (none, (.v (.mov 41 (.t 42))))])
 (.cond 41
 (.seq (.ops [(none, (.v (.fld 43 1 (.t 1)))),
 (none, (.v (.load 44 false 1 (.t 43)))),
 (none, (.v (.bin 45 .eql false (.t 44) (.c (.int .i64 0))))),
 (none, (.v (.mov 46 (.t 45)))),
 ((some (46, false)), (.v (.fld 47 1 (.t 1)))),
 ((some (46, false)), (.v (.load 48 false 1 (.t 47)))),
 ((some (46, false)), (.v (.bin 49 .eql false (.t 48) (.c (.int .i64 1))))),
 (none, (.v (.pick 50 (.t 46) (.c (.bool true)) (.t 49)))),
 (none, (.v (.mov 51 (.t 50)))),
 ((some (51, true)), (.v (.fld 52 2 (.t 1)))),
 ((some (51, true)), (.v (.load 53 false 1 (.t 52)))),
 ((some (51, true)), (.v (.bin 54 .eql false (.t 53) (.c (.str ⟨#[]⟩))))),
 (none, (.v (.pick 55 (.t 51) (.t 54) (.c (.bool false))))),
 (none, (.v (.mov 2 (.t 55))))])
 .ret)
 .skip))))))))))
 (.seq (.ops [(none, (.v (.mov 2 (.c (.bool false)))))])
 .ret)))
theorem ok21 : FnOk E 21 56 [.tmp 2] mc21 := .of func21 (by kernel_rfl) (by kernel_rfl) (by kernel_rfl) (by kernel_rfl) (by kernel_rfl)
/-- alum/expr.Meet -/
def mc24 : MC :=
 (.seq (.ops [(none, (.e (.box 2 (.t 0)))),
 (none, (.e (.box 3 (.t 1)))),
 (none, (.e (.alloc 4 [(.bool false), (.bool false), (.bool false), (.int .i64 0), (.int .i64 0), (.str ⟨#[]⟩), (.int .i64 0), (.int .i64 0), (.str ⟨#[]⟩), (.bool false), (.bool false)])))])
 (.seq (.block 0 (.seq (.ops [(none, (.v (.fld 10 0 (.t 2)))),
 (none, (.v (.load 11 false 1 (.t 10)))),
 (none, (.v (.mov 12 (.t 11)))),
 ((some (12, false)), (.v (.fld 13 0 (.t 3)))),
 ((some (12, false)), (.v (.load 14 false 1 (.t 13)))),
 (none, (.v (.pick 15 (.t 12) (.c (.bool true)) (.t 14)))),
 (none, (.v (.mov 9 (.t 15))))])
 (.cond 9
 (.seq (.ops [(none, (.v (.build 16 [(.bool false), (.bool false), (.bool false), (.int .i64 0), (.int .i64 0), (.str ⟨#[]⟩), (.int .i64 0), (.int .i64 0), (.str ⟨#[]⟩), (.bool false), (.bool false)] [(0, 1, (.c (.bool true)))]))),
 (none, (.e (.store 11 true (.t 4) (.t 16))))])
 .ret)
 (.seq (.ops [(none, (.v (.fld 18 2 (.t 2)))),
 (none, (.v (.load 19 false 1 (.t 18)))),
 (none, (.v (.mov 17 (.t 19))))])
 (.cond 17
 (.seq (.ops [(none, (.v (.load 20 true 11 (.t 3)))),
 (none, (.e (.store 11 true (.t 4) (.t 20))))])
 .ret)
 (.seq (.ops [(none, (.v (.fld 22 2 (.t 3)))),
 (none, (.v (.load 23 false 1 (.t 22)))),
 (none, (.v (.mov 21 (.t 23))))])
 (.cond 21
 (.seq (.ops [(none, (.v (.load 24 true 11 (.t 2)))),
 (none, (.e (.store 11 true (.t 4) (.t 24))))])
 .ret)
 (.seq (.ops [(none, (.v (.fld 26 1 (.t 2)))),
 (none, (.v (.load 27 false 1 (.t 26)))),
 (none, (.v (.mov 28 (.t 27)))),
 ((some (28, false)), (.v (.fld 29 1 (.t 3)))),
 ((some (28, false)), (.v (.load 30 false 1 (.t 29)))),
 (none, (.v (.pick 31 (.t 28) (.c (.bool true)) (.t 30)))),
 (none, (.v (.mov 25 (.t 31))))])
 (.cond 25
 (.seq (.ops [(none, (.v (.fld 32 1 (.t 2)))),
 (none, (.v (.load 33 false 1 (.t 32)))),
 (none, (.v (.mov 34 (.t 33)))),
 ((some (34, true)), (.v (.fld 35 1 (.t 3)))),
 ((some (34, true)), (.v (.load 36 false 1 (.t 35)))),
 (none, (.v (.pick 37 (.t 34) (.t 36) (.c (.bool false))))),
 (none, (.v (.fld 38 1 (.t 2)))),
 (none, (.v (.load 39 false 1 (.t 38)))),
 (none, (.v (.fld 40 1 (.t 3)))),
 (none, (.v (.load 41 false 1 (.t 40)))),
 (none, (.v (.bin 42 .neq true (.t 39) (.t 41)))),
 (none, (.v (.build 43 [(.bool false), (.bool false), (.bool false), (.int .i64 0), (.int .i64 0), (.str ⟨#[]⟩), (.int .i64 0), (.int .i64 0), (.str ⟨#[]⟩), (.bool false), (.bool false)] [(1, 1, (.t 37)), (0, 1, (.t 42))]))),
 (none, (.e (.store 11 true (.t 4) (.t 43))))])
 .ret)
 .skip)))))))))
 (.seq (.ops [(none, (.v (.load 44 true 11 (.t 2)))),
 (none, (.e (.alloc 5 [(.bool false), (.bool false), (.bool false), (.int .i64 0), (.int .i64 0), (.str ⟨#[]⟩), (.int .i64 0), (.int .i64 0), (.str ⟨#[]⟩), (.bool false), (.bool false)]))),
 (none, (.e (.store 11 true (.t 5) (.t 44))))])
 (.seq (.seq (.ops [(none, (.v (.fld 45 3 (.t 3)))),
 (none, (.v (.load 46 true 3 (.t 45)))),
 (none, (.v (.fld 47 3 (.t 2)))),
 (none, (.v (.load 48 true 3 (.t 47)))),
 (none, (.e (.call (some 49) 66 [(.t 46), (.t 48)]))),
 (none, (.v (.mov 6 (.t 49))))])
 (.seq (.ops [(none, (.v (.mov 50 (.t 6)))),
 (none, (.v (.bin 51 .gtr false (.t 50) (.c (.int .i64 0)))))])
 (.cond 51
 (.any true (.pure0 none (.v (.fld 52 3 (.t 3)))
 (.pure0 none (.v (.load 53 true 3 (.t 52)))
 (.pure0 none (.v (.fld 54 9 (.t 3)))
 (.pure0 none (.v (.load 55 false 1 (.t 54)))
 (.pure0 none (.v (.fld 56 3 (.t 5)))
 (.alt none (.e (.store 3 true (.t 56) (.t 53)))
 (.pure0 none (.v (.fld 57 9 (.t 5)))
 (.alt none (.e (.store 1 false (.t 57) (.t 55)))
 .done
 .stop))
 .stop)))))))
 (.seq (.ops [(none, (.v (.mov 58 (.t 6)))),
 (none, (.v (.bin 59 .eql false (.t 58) (.c (.int .i64 0)))))])
 (.cond 59
 (.ops [(none, (.v (.fld 60 9 (.t 2)))),
 (none, (.v (.load 61 false 1 (.t 60)))),
 (none, (.v (.mov 62 (.t 61)))),
 ((some (62, true)), (.v (.fld 63 9 (.t 3)))),
 ((some (62, true)), (.v (.load 64 false 1 (.t 63)))),
 (none, (.v (.pick 65 (.t 62) (.t 64) (.c (.bool false))))),
 (none, (.v (.fld 66 9 (.t 5)))),
 (none, (.e (.store 1 false (.t 66) (.t 65))))])
 .skip)))))
 (.seq (.ops [(none, (.v (.fld 67 6 (.t 3)))),
 (none, (.v (.fld 68 0 (.t 67)))),
 (none, (.v (.load 69 false 1 (.t 68)))),
 (none, (.v (.bin 70 .neq false (.t 69) (.c (.int .i64 0))))),
 (none, (.v (.mov 71 (.t 70)))),
 ((some (71, true)), (.v (.fld 72 6 (.t 2)))),
 ((some (71, true)), (.v (.fld 73 0 (.t 72)))),
 ((some (71, true)), (.v (.load 74 false 1 (.t 73)))),
 ((some (71, true)), (.v (.bin 75 .eql false (.t 74) (.c (.int .i64 0))))),
 ((some (71, true)), (.v (.mov 76 (.t 75)))),
 ((some (76, false)), (.v (.fld 77 6 (.t 3)))),
 ((some (76, false)), (.v (.load 78 true 3 (.t 77)))),
 ((some (76, false)), (.v (.fld 79 6 (.t 2)))),
 ((some (76, false)), (.v (.load 80 true 3 (.t 79)))),
 ((some (76, false)), (.e (.call (some 81) 66 [(.t 78), (.t 80)]))),
 ((some (76, false)), (.v (.bin 82 .lss false (.t 81) (.c (.int .i64 0))))),
 ((some (71, true)), (.v (.pick 83 (.t 76) (.c (.bool true)) (.t 82)))),
 (none, (.v (.pick 84 (.t 71) (.t 83) (.c (.bool false))))),
 (none, (.v (.mov 7 (.t 84))))])
 (.seq (.seq (.ops [(none, (.v (.mov 85 (.t 7))))])
 (.cond 85
 (.any true (.pure0 none (.v (.fld 86 6 (.t 3)))
 (.pure0 none (.v (.load 87 true 3 (.t 86)))
 (.pure0 none (.v (.fld 88 10 (.t 3)))
 (.pure0 none (.v (.load 89 false 1 (.t 88)))
 (.pure0 none (.v (.fld 90 6 (.t 5)))
 (.alt none (.e (.store 3 true (.t 90) (.t 87)))
 (.pure0 none (.v (.fld 91 10 (.t 5)))
 (.alt none (.e (.store 1 false (.t 91) (.t 89)))
 .done
 .stop))
 .stop)))))))
 (.seq (.ops [(none, (.v (.fld 92 6 (.t 2)))),
 (none, (.v (.load 93 true 3 (.t 92)))),
 (none, (.v (.fld 94 6 (.t 3)))),
 (none, (.v (.load 95 true 3 (.t 94)))),
 (none, (.v (.eq 96 false (.agg [(0, false, 1, .int), (1, false, 1, .int), (2, false, 1, .str)]) (.t 93) (.t 95))))])
 (.cond 96
 (.ops [(none, (.v (.fld 97 10 (.t 2)))),
 (none, (.v (.load 98 false 1 (.t 97)))),
 (none, (.v (.mov 99 (.t 98)))),
 ((some (99, true)), (.v (.fld 100 10 (.t 3)))),
 ((some (99, true)), (.v (.load 101 false 1 (.t 100)))),
 (none, (.v (.pick 102 (.t 99) (.t 101) (.c (.bool false))))),
 (none, (.v (.fld 103 10 (.t 5)))),
 (none, (.e (.store 1 false (.t 103) (.t 102))))])
 .skip))))
 (.seq (.seq (.ops [(none, (.v (.fld 104 3 (.t 5)))),
 (none, (.v (.fld 105 0 (.t 104)))),
 (none, (.v (.load 106 false 1 (.t 105)))),
 (none, (.v (.bin 107 .neq false (.t 106) (.c (.int .i64 0))))),
 (none, (.v (.mov 108 (.t 107)))),
 ((some (108, true)), (.v (.fld 109 6 (.t 5)))),
 ((some (108, true)), (.v (.fld 110 0 (.t 109)))),
 ((some (108, true)), (.v (.load 111 false 1 (.t 110)))),
 ((some (108, true)), (.v (.bin 112 .neq false (.t 111) (.c (.int .i64 0))))),
 (none, (.v (.pick 113 (.t 108) (.t 112) (.c (.bool false)))))])
 (.cond 113
 (.seq (.ops [(none, (.v (.fld 114 3 (.t 5)))),
 (none, (.v (.load 115 true 3 (.t 114)))),
 (none, (.v (.fld 116 6 (.t 5)))),
 (none, (.v (.load 117 true 3 (.t 116)))),
 (none, (.e (.call (some 118) 66 [(.t 115), (.t 117)]))),
 (none, (.v (.mov 8 (.t 118))))])
 (.seq (.ops [(none, (.v (.mov 119 (.t 8)))),
 (none, (.v (.bin 120 .gtr false (.t 119) (.c (.int .i64 0))))),
 (none, (.v (.mov 121 (.t 120)))),
 ((some (121, false)), (.v (.mov 122 (.t 8)))),
 ((some (121, false)), (.v (.bin 123 .eql false (.t 122) (.c (.int .i64 0))))),
 ((some (121, false)), (.v (.mov 124 (.t 123)))),
 ((some (124, true)), (.v (.fld 125 9 (.t 5)))),
 ((some (124, true)), (.v (.load 126 false 1 (.t 125)))),
 ((some (124, true)), (.v (.mov 127 (.t 126)))),
 ((some (127, true)), (.v (.fld 128 10 (.t 5)))),
 ((some (127, true)), (.v (.load 129 false 1 (.t 128)))),
 ((some (124, true)), (.v (.pick 130 (.t 127) (.t 129) (.c (.bool false))))),
 ((some (124, true)), (.v (.not 131 (.t 130)))),
 ((some (121, false)), (.v (.pick 132 (.t 124) (.t 131) (.c (.bool false))))),
 (none, (.v (.pick 133 (.t 121) (.c (.bool true)) (.t 132))))])
 (.cond 133
 (.seq (.ops [(none, (.v (.build 134 [(.bool false), (.bool false), (.bool false), (.int .i64 0), (.int .i64 0), (.str ⟨#[]⟩), (.int .i64 0), (.int .i64 0), (.str ⟨#[]⟩), (.bool false), (.bool false)] [(0, 1, (.c (.bool true)))]))),
 (none, (.e (.store 11 true (.t 4) (.t 134))))])
 .ret)
 .skip)))
 .skip))
 (.seq (.ops [(none, (.v (.load 135 true 11 (.t 5)))),
 (none, (.e (.store 11 true (.t 4) (.t 135))))])
 .ret))))))))
theorem ok24 : FnOk E 24 136 [.cell 4 45] mc24 := .of func24 (by kernel_rfl) (by kernel_rfl) (by kernel_rfl) (by kernel_rfl) (by kernel_rfl)
/-- alum/expr.In -/
def mc25 : MC :=
 (.seq (.ops [(none, (.e (.box 2 (.t 0)))),
 (none, (.e (.box 3 (.t 1)))),
 (none, (.v (.mov 4 (.c (.bool false)))))])
 (.seq (.block 0 (.seq (.ops [(none, (.v (.fld 8 0 (.t 2)))),
 (none, (.v (.load 9 false 1 (.t 8)))),
 (none, (.v (.mov 10 (.t 9)))),
 ((some (10, false)), (.v (.fld 11 2 (.t 2)))),
 ((some (10, false)), (.v (.load 12 false 1 (.t 11)))),
 (none, (.v (.pick 13 (.t 10) (.c (.bool true)) (.t 12)))),
 (none, (.v (.mov 7 (.t 13))))])
 (.cond 7
 (.seq (.ops [(none, (.v (.fld 14 2 (.t 2)))),
 (none, (.v (.load 15 false 1 (.t 14)))),
 (none, (.v (.mov 4 (.t 15))))])
 .ret)
 (.seq (.ops [(none, (.v (.fld 17 1 (.t 2)))),
 (none, (.v (.load 18 false 1 (.t 17)))),
 (none, (.v (.mov 19 (.t 18)))),
 ((some (19, false)), (.v (.fld 20 0 (.t 3)))),
 ((some (19, false)), (.v (.load 21 false 1 (.t 20)))),
 ((some (19, false)), (.v (.bin 22 .eql false (.t 21) (.c (.int .i64 0))))),
 (none, (.v (.pick 23 (.t 19) (.c (.bool true)) (.t 22)))),
 (none, (.v (.mov 16 (.t 23))))])
 (.cond 16
 (.seq (.ops [(none, (.v (.fld 24 1 (.t 2)))),
 (none, (.v (.load 25 false 1 (.t 24)))),
 (none, (.v (.mov 26 (.t 25)))),
 ((some (26, true)), (.v (.fld 27 0 (.t 3)))),
 ((some (26, true)), (.v (.load 28 false 1 (.t 27)))),
 ((some (26, true)), (.v (.bin 29 .eql false (.t 28) (.c (.int .i64 0))))),
 (none, (.v (.pick 30 (.t 26) (.t 29) (.c (.bool false))))),
 (none, (.v (.mov 4 (.t 30))))])
 .ret)
 .skip)))))
 (.seq (.seq (.ops [(none, (.v (.fld 31 3 (.t 2)))),
 (none, (.v (.fld 32 0 (.t 31)))),
 (none, (.v (.load 33 false 1 (.t 32)))),
 (none, (.v (.bin 34 .neq false (.t 33) (.c (.int .i64 0)))))])
 (.cond 34
 (.seq (.ops [(none, (.v (.load 35 true 3 (.t 3)))),
 (none, (.v (.fld 36 3 (.t 2)))),
 (none, (.v (.load 37 true 3 (.t 36)))),
 (none, (.e (.call (some 38) 66 [(.t 35), (.t 37)]))),
 (none, (.v (.mov 5 (.t 38))))])
 (.seq (.ops [(none, (.v (.fld 39 0 (.t 3)))),
 (none, (.v (.load 40 false 1 (.t 39)))),
 (none, (.v (.fld 41 3 (.t 2)))),
 (none, (.v (.fld 42 0 (.t 41)))),
 (none, (.v (.load 43 false 1 (.t 42)))),
 (none, (.v (.bin 44 .neq false (.t 40) (.t 43)))),
 (none, (.v (.mov 45 (.t 44)))),
 ((some (45, false)), (.v (.mov 46 (.t 5)))),
 ((some (45, false)), (.v (.bin 47 .lss false (.t 46) (.c (.int .i64 0))))),
 (none, (.v (.pick 48 (.t 45) (.c (.bool true)) (.t 47)))),
 (none, (.v (.mov 49 (.t 48)))),
 ((some (49, false)), (.v (.mov 50 (.t 5)))),
 ((some (49, false)), (.v (.bin 51 .eql false (.t 50) (.c (.int .i64 0))))),
 ((some (49, false)), (.v (.mov 52 (.t 51)))),
 ((some (52, true)), (.v (.fld 53 9 (.t 2)))),
 ((some (52, true)), (.v (.load 54 false 1 (.t 53)))),
 ((some (52, true)), (.v (.not 55 (.t 54)))),
 ((some (49, false)), (.v (.pick 56 (.t 52) (.t 55) (.c (.bool false))))),
 (none, (.v (.pick 57 (.t 49) (.c (.bool true)) (.t 56))))])
 (.cond 57
 (.seq (.ops [(none, (.v (.mov 4 (.c (.bool false)))))])
 .ret)
 .skip)))
 .skip))
 (.seq (.seq (.ops [(none, (.v (.fld 58 6 (.t 2)))),
 (none, (.v (.fld 59 0 (.t 58)))),
 (none, (.v (.load 60 false 1 (.t 59)))),
 (none, (.v (.bin 61 .neq false (.t 60) (.c (.int .i64 0)))))])
 (.cond 61
 (.seq (.ops [(none, (.v (.load 62 true 3 (.t 3)))),
 (none, (.v (.fld 63 6 (.t 2)))),
 (none, (.v (.load 64 true 3 (.t 63)))),
 (none, (.e (.call (some 65) 66 [(.t 62), (.t 64)]))),
 (none, (.v (.mov 6 (.t 65))))])
 (.seq (.ops [(none, (.v (.fld 66 0 (.t 3)))),
 (none, (.v (.load 67 false 1 (.t 66)))),
 (none, (.v (.fld 68 6 (.t 2)))),
 (none, (.v (.fld 69 0 (.t 68)))),
 (none, (.v (.load 70 false 1 (.t 69)))),
 (none, (.v (.bin 71 .neq false (.t 67) (.t 70)))),
 (none, (.v (.mov 72 (.t 71)))),
 ((some (72, false)), (.v (.mov 73 (.t 6)))),
 ((some (72, false)), (.v (.bin 74 .gtr false (.t 73) (.c (.int .i64 0))))),
 (none, (.v (.pick 75 (.t 72) (.c (.bool true)) (.t 74)))),
 (none, (.v (.mov 76 (.t 75)))),
 ((some (76, false)), (.v (.mov 77 (.t 6)))),
 ((some (76, false)), (.v (.bin 78 .eql false (.t 77) (.c (.int .i64 0))))),
 ((some (76, false)), (.v (.mov 79 (.t 78)))),
 ((some (79, true)), (.v (.fld 80 10 (.t 2)))),
 ((some (79, true)), (.v (.load 81 false 1 (.t 80)))),
 ((some (79, true)), (.v (.not 82 (.t 81)))),
 ((some (76, false)), (.v (.pick 83 (.t 79) (.t 82) (.c (.bool false))))),
 (none, (.v (.pick 84 (.t 76) (.c (.bool true)) (.t 83))))])
 (.cond 84
 (.seq (.ops [(none, (.v (.mov 4 (.c (.bool false)))))])
 .ret)
 .skip)))
 .skip))
 (.seq (.ops [(none, (.v (.mov 4 (.c (.bool true)))))])
 .ret)))))
theorem ok25 : FnOk E 25 85 [.tmp 4] mc25 := .of func25 (by kernel_rfl) (by kernel_rfl) (by kernel_rfl) (by kernel_rfl) (by kernel_rfl)
/-- alum/expr.Bounds -/
def mc26 : MC :=
 (.seq (.ops [(none, (.e (.box 2 (.t 0)))),
 (none, (.e (.alloc 4 [(.bool false), (.bool false), (.bool false), (.int .i64 0), (.int .i64 0), (.str ⟨#[]⟩), (.int .i64 0), (.int .i64 0), (.str ⟨#[]⟩), (.bool false), (.bool false)])))])
 (.seq (.ops [(none, (.v (.build 8 [(.bool false), (.bool false), (.bool false), (.int .i64 0), (.int .i64 0), (.str ⟨#[]⟩), (.int .i64 0), (.int .i64 0), (.str ⟨#[]⟩), (.bool false), (.bool false)] [(2, 1, (.c (.bool true)))]))),
 (none, (.e (.alloc 5 [(.bool false), (.bool false), (.bool false), (.int .i64 0), (.int .i64 0), (.str ⟨#[]⟩), (.int .i64 0), (.int .i64 0), (.str ⟨#[]⟩), (.bool false), (.bool false)]))),
 (none, (.e (.store 11 true (.t 5) (.t 8))))])
 (.seq (.seq (.ops [(none, (.v (.load 9 true 6 (.t 2)))),
 (none, (.e (.call (some 10) 31 [(.t 9)]))),
 (none, (.e (.call (some 11) 28 [(.t 10)]))),
 (none, (.p (.len 12 (.t 11)))),
 (none, (.v (.mov 13 (.c (.int .i64 0)))))])
 (.block 0 (.loop (.seq (.ops [(none, (.v (.bin 14 .lss false (.t 13) (.t 12))))])
 (.seq (.cond 14
 .skip
 (.exit 0))
 (.seq (.block 1 (.seq (.ops [(none, (.p (.idx 15 6 (.t 11) (.t 13)))),
 (none, (.v (.load 16 true 6 (.t 15)))),
 (none, (.e (.alloc 7 [(.int .i64 0), (.int .i64 0), (.int .i64 0), (.int .i64 0), (.str ⟨#[]⟩), (.raw (.slice none 0 0))]))),
 (none, (.e (.store 6 true (.t 7) (.t 16))))])
 (.any true (.pure0 none (.v (.load 18 true 6 (.t 7)))
 (.pure0 none (.v (.mov 19 (.t 1)))
 (.alt none (.v (.load 17 true 11 (.t 5)))
 (.alt none (.e (.call (some 20) 67 [(.t 18), (.t 19)]))
 (.alt none (.e (.call (some 21) 24 [(.t 17), (.t 20)]))
 (.alt none (.e (.store 11 true (.t 5) (.t 21)))
 .done
 .stop)
 .stop)
 .stop)
 (.alt none (.e (.call (some 20) 67 [(.t 18), (.t 19)]))
 (.alt none (.v (.load 17 true 11 (.t 5)))
 (.alt none (.e (.call (some 21) 24 [(.t 17), (.t 20)]))
 (.alt none (.e (.store 11 true (.t 5) (.t 21)))
 .done
 .stop)
 .stop)
 .stop)
 .stop)))))))
 (.ops [(none, (.v (.bin 22 .add false (.t 13) (.c (.int .i64 1))))),
 (none, (.v (.mov 13 (.t 22))))])))))))
 (.seq (.ops [(none, (.v (.load 23 true 11 (.t 5)))),
 (none, (.e (.store 11 true (.t 4) (.t 23))))])
 .ret))))
theorem ok26 : FnOk E 26 24 [.cell 4 45] mc26 := .of func26 (by kernel_rfl) (by kernel_rfl) (by kernel_rfl) (by kernel_rfl) (by kernel_rfl)
/-- alum/expr.Conjuncts -/
def mc28 : MC :=
 (.seq (.ops [(none, (.e (.box 1 (.t 0)))),
 (none, (.v (.mov 2 (.c (.raw (.slice none 0 0))))))])
 (.seq (.seq (.ops [(none, (.v (.fld 3 0 (.t 1)))),
 (none, (.v (.load 4 false 1 (.t 3)))),
 (none, (.v (.bin 5 .neq false (.t 4) (.c (.int .i64 12)))))])
 (.cond 5
 (.seq (.ops [(none, (.v (.load 6 true 6 (.t 1)))),
 (none, (.e (.mkl 7 27 6 1 (.agg [(.int .i64 0), (.int .i64 0), (.int .i64 0), (.int .i64 0), (.str ⟨#[]⟩), (.raw (.slice none 0 0))]) [(0, (.t 6))]))),
 (none, (.v (.mov 2 (.t 7))))])
 .ret)
 .skip))
 (.seq (.any true (.pure0 none (.v (.fld 8 5 (.t 1)))
 (.pure0 none (.v (.load 9 false 1 (.t 8)))
 (.pure0 none (.p (.idx 10 6 (.t 9) (.c (.int .i64 0))))
 (.pure0 none (.v (.load 11 true 6 (.t 10)))
 (.pure0 none (.v (.fld 13 5 (.t 1)))
 (.pure0 none (.v (.load 14 false 1 (.t 13)))
 (.pure0 none (.p (.idx 15 6 (.t 14) (.c (.int .i64 1))))
 (.pure0 none (.v (.load 16 true 6 (.t 15)))
 (.alt none (.e (.call (some 12) 28 [(.t 11)]))
 (.alt none (.e (.call (some 17) 28 [(.t 16)]))
 (.alt none (.e (.app 18 27 6 72 (.t 12) (.t 17)))
 (.pure1 none (.v (.mov 2 (.t 18)))
 .done)
 .stop)
 .stop)
 .stop))))))))))
 .ret)))
theorem ok28 : FnOk E 28 19 [.tmp 2] mc28 := .of func28 (by kernel_rfl) (by kernel_rfl) (by kernel_rfl) (by kernel_rfl) (by kernel_rfl)
/-- alum/alumref36.Conjuncts -/
def mc29 : MC :=
 (.seq (.ops [(none, (.e (.box 1 (.t 0)))),
 (none, (.v (.mov 2 (.c (.raw (.slice none 0 0))))))])
 (.seq (.seq (.ops [(none, (.v (.fld 4 0 (.t 1)))),
 (none, (.v (.load 5 false 1 (.t 4)))),
 (none, (.v (.bin 6 .neq false (.t 5) (.c (.int .i64 12)))))])
 (.cond 6
 (.seq (.ops [(none, (.v (.load 7 true 6 (.t 1)))),
 (none, (.e (.mkl 8 27 6 1 (.agg [(.int .i64 0), (.int .i64 0), (.int .i64 0), (.int .i64 0), (.str ⟨#[]⟩), (.raw (.slice none 0 0))]) [(0, (.t 7))]))),
 (none, (.v (.mov 2 (.t 8))))])
 .ret)
 .skip))
 (.seq (.ops [(none, (.v (.fld 9 5 (.t 1)))),
 (none, (.v (.load 10 false 1 (.t 9)))),
 (none, (.p (.idx 11 6 (.t 10) (.c (.int .i64 0))))),
 (none, (.v (.load 12 true 6 (.t 11)))),
 (none, (.e (.call (some 13) 29 [(.t 12)]))),
 (none, (.v (.mov 3 (.t 13))))])
 (.seq (.ops [(none, (.v (.mov 14 (.t 3)))),
 (none, (.v (.fld 15 5 (.t 1)))),
 (none, (.v (.load 16 false 1 (.t 15)))),
 (none, (.p (.idx 17 6 (.t 16) (.c (.int .i64 1))))),
 (none, (.v (.load 18 true 6 (.t 17)))),
 (none, (.e (.call (some 19) 29 [(.t 18)]))),
 (none, (.e (.app 20 27 6 72 (.t 14) (.t 19)))),
 (none, (.v (.mov 2 (.t 20))))])
 .ret))))
theorem ok29 : FnOk E 29 21 [.tmp 2] mc29 := .of func29 (by kernel_rfl) (by kernel_rfl) (by kernel_rfl) (by kernel_rfl) (by kernel_rfl)
/-- alum/alumref36.Equal -/
def mc30 : MC :=
 (.seq (.ops [(none, (.e (.box 2 (.t 0)))),
 (none, (.e (.box 3 (.t 1)))),
 (none, (.v (.mov 4 (.c (.bool false)))))])
 (.seq (.seq (.ops [(none, (.v (.fld 7 0 (.t 2)))),
 (none, (.v (.load 8 false 1 (.t 7)))),
 (none, (.v (.fld 9 0 (.t 3)))),
 (none, (.v (.load 10 false 1 (.t 9)))),
 (none, (.v (.bin 11 .neq false (.t 8) (.t 10)))),
 (none, (.v (.mov 12 (.t 11)))),
 ((some (12, false)), (.v (.fld 13 1 (.t 2)))),
 ((some (12, false)), (.v (.load 14 false 1 (.t 13)))),
 ((some (12, false)), (.v (.fld 15 1 (.t 3)))),
 ((some (12, false)), (.v (.load 16 false 1 (.t 15)))),
 ((some (12, false)), (.v (.bin 17 .neq false (.t 14) (.t 16)))),
 (none, (.v (.pick 18 (.t 12) (.c (.bool true)) (.t 17)))),
 (none, (.v (.mov 19 (.t 18)))),
 ((some (19, false)), (.v (.fld 20 2 (.t 2)))),
 ((some (19, false)), (.v (.load 21 true 3 (.t 20)))),
 ((some (19, false)), (.v (.fld 22 2 (.t 3)))),
 ((some (19, false)), (.v (.load 23 true 3 (.t 22)))),
 ((some (19, false)), (.v (.eq 24 true (.agg [(0, false, 1, .int), (1, false, 1, .int), (2, false, 1, .str)]) (.t 21) (.t 23)))),
 (none, (.v (.pick 25 (.t 19) (.c (.bool true)) (.t 24)))),
 (none, (.v (.mov 26 (.t 25)))),
 ((some (26, false)), (.v (.fld 27 5 (.t 2)))),
 ((some (26, false)), (.v (.load 28 false 1 (.t 27)))),
 ((some (26, false)), (.p (.len 29 (.t 28)))),
 ((some (26, false)), (.v (.fld 30 5 (.t 3)))),
 ((some (26, false)), (.v (.load 31 false 1 (.t 30)))),
 ((some (26, false)), (.p (.len 32 (.t 31)))),
 ((some (26, false)), (.v (.bin 33 .neq false (.t 29) (.t 32)))),
 (none, (.v (.pick 34 (.t 26) (.c (.bool true)) (.t 33))))])
 (.cond 34
 (.seq (.ops [(none, (.v (.mov 4 (.c (.bool false)))))])
 .ret)
 .skip))
 (.seq (.seq (.ops [(none, (.v (.mov 5 (.c (.int .i64 0)))))])
 (.block 0 (.loop (.seq (.seq (.ops [(none, (.v (.mov 35 (.t 5)))),
 (none, (.v (.fld 36 5 (.t 2)))),
 (none, (.v (.load 37 false 1 (.t 36)))),
 (none, (.p (.len 38 (.t 37)))),
 (none, (.v (.bin 39 .lss false (.t 35) (.t 38))))])
 (.cond 39
 .skip
 (.exit 0)))
 (.seq (.block 1 (.seq (.any false (.pure0 none (.v (.fld 42 5 (.t 2)))
 (.pure0 none (.v (.load 43 false 1 (.t 42)))
 (.pure0 none (.v (.mov 44 (.t 5)))
 (.pure0 none (.p (.idx 45 6 (.t 43) (.t 44)))
 (.pure0 none (.v (.load 46 true 6 (.t 45)))
 (.pure0 none (.v (.fld 47 5 (.t 3)))
 (.pure0 none (.v (.load 48 false 1 (.t 47)))
 (.pure0 none (.v (.mov 49 (.t 5)))
 (.pure0 none (.p (.idx 50 6 (.t 48) (.t 49)))
 (.pure0 none (.v (.load 51 true 6 (.t 50)))
 (.alt none (.e (.call (some 52) 30 [(.t 46), (.t 51)]))
 (.base (.pure0 none (.v (.mov 6 (.t 52)))
 .done))
 .stop))))))))))))
 (.seq (.ops [(none, (.v (.mov 53 (.t 6)))),
 (none, (.v (.not 54 (.t 53))))])
 (.cond 54
 (.seq (.ops [(none, (.v (.mov 4 (.c (.bool false)))))])
 .ret)
 .skip))))
 (.ops [(none, (.v (.mov 40 (.t 5)))),
 (none, (.v (.bin 41 .add false (.t 40) (.c (.int .i64 1))))),
 (none, (.v (.mov 5 (.t 41))))]))))))
 (.seq (.ops [(none, (.v (.mov 4 (.c (.bool true)))))])
 .ret))))
theorem ok30 : FnOk E 30 55 [.tmp 4] mc30 := .of func30 (by kernel_rfl) (by kernel_rfl) (by kernel_rfl) (by kernel_rfl) (by kernel_rfl)
/-- alum/expr.Simplify -/
def mc31 : MC :=
 (.seq (.ops [(none, (.e (.box 1 (.t 0)))),
 (none, (.e (.alloc 2 [(.int .i64 0), (.int .i64 0), (.int .i64 0), (.int .i64 0), (.str ⟨#[]⟩), (.raw (.slice none 0 0))])))])
 (.seq (.seq (.ops [(none, (.v (.fld 16 5 (.t 1)))),
 (none, (.v (.load 17 false 1 (.t 16)))),
 (none, (.p (.len 18 (.t 17)))),
 (none, (.v (.bin 19 .eql false (.t 18) (.c (.int .i64 0)))))])
 (.cond 19
 (.seq (.ops [(none, (.v (.load 20 true 6 (.t 1)))),
 (none, (.e (.store 6 true (.t 2) (.t 20))))])
 .ret)
 .skip))
 (.seq (.ops [(none, (.v (.fld 21 0 (.t 1)))),
 (none, (.v (.load 22 false 1 (.t 21)))),
 (none, (.v (.build 23 [(.int .i64 0), (.int .i64 0), (.int .i64 0), (.int .i64 0), (.str ⟨#[]⟩), (.raw (.slice none 0 0))] [(0, 1, (.t 22))]))),
 (none, (.e (.alloc 3 [(.int .i64 0), (.int .i64 0), (.int .i64 0), (.int .i64 0), (.str ⟨#[]⟩), (.raw (.slice none 0 0))]))),
 (none, (.e (.store 6 true (.t 3) (.t 23))))])
 (.seq (.ops [(none, (.v (.mov 4 (.c (.bool true)))))])
 (.seq (.seq (.ops [(none, (.v (.fld 24 5 (.t 1)))),
 (none, (.v (.load 25 false 1 (.t 24)))),
 (none, (.p (.len 26 (.t 25)))),
 (none, (.v (.mov 27 (.c (.int .i64 0)))))])
 (.block 0 (.loop (.seq (.ops [(none, (.v (.bin 28 .lss false (.t 27) (.t 26))))])
 (.seq (.cond 28
 .skip
 (.exit 0))
 (.seq (.block 1 (.seq (.ops [(none, (.p (.idx 29 6 (.t 25) (.t 27)))),
 (none, (.v (.load 30 true 6 (.t 29)))),
 (none, (.e (.alloc 6 [(.int .i64 0), (.int .i64 0), (.int .i64 0), (.int .i64 0), (.str ⟨#[]⟩), (.raw (.slice none 0 0))]))),
 (none, (.e (.store 6 true (.t 6) (.t 30))))])
 (.seq (.ops [(none, (.v (.load 31 true 6 (.t 6)))),
 (none, (.e (.call (some 32) 31 [(.t 31)]))),
 (none, (.e (.alloc 7 [(.int .i64 0), (.int .i64 0), (.int .i64 0), (.int .i64 0), (.str ⟨#[]⟩), (.raw (.slice none 0 0))]))),
 (none, (.e (.store 6 true (.t 7) (.t 32))))])
 (.seq (.ops [(none, (.v (.fld 33 5 (.t 3)))),
 (none, (.v (.load 34 false 1 (.t 33)))),
 (none, (.v (.load 35 true 6 (.t 7)))),
 (none, (.e (.mkl 36 27 6 1 (.agg [(.int .i64 0), (.int .i64 0), (.int .i64 0), (.int .i64 0), (.str ⟨#[]⟩), (.raw (.slice none 0 0))]) [(0, (.t 35))]))),
 (none, (.e (.app 37 27 6 72 (.t 34) (.t 36)))),
 (none, (.v (.fld 38 5 (.t 3)))),
 (none, (.e (.store 1 false (.t 38) (.t 37))))])
 (.ops [(none, (.v (.mov 39 (.t 4)))),
 (none, (.v (.mov 40 (.t 39)))),
 ((some (40, true)), (.v (.fld 41 0 (.t 7)))),
 ((some (40, true)), (.v (.load 42 false 1 (.t 41)))),
 ((some (40, true)), (.v (.bin 43 .eql false (.t 42) (.c (.int .i64 2))))),
 (none, (.v (.pick 44 (.t 40) (.t 43) (.c (.bool false))))),
 (none, (.v (.mov 4 (.t 44))))])))))
 (.ops [(none, (.v (.bin 45 .add false (.t 27) (.c (.int .i64 1))))),
 (none, (.v (.mov 27 (.t 45))))])))))))
 (.seq (.seq (.ops [(none, (.v (.mov 46 (.t 4))))])
 (.cond 46
 (.seq (.seq (.ops [(none, (.v (.load 48 true 6 (.t 3)))),
 (none, (.e (.call (some 49) 14 [(.t 48), (.c (.raw (.slice none 0 0)))]))),
 (none, (.v (.mov 47 (.t 49)))),
 (none, (.v (.ext 50 0 (.t 47)))),
 (none, (.v (.ext 51 1 (.t 47)))),
 (none, (.e (.alloc 8 [(.int .i64 0), (.int .i64 0), (.str ⟨#[]⟩)]))),
 (none, (.e (.store 3 true (.t 8) (.t 50)))),
 (none, (.v (.mov 9 (.t 51))))])
 (.seq (.ops [(none, (.v (.mov 52 (.t 9)))),
 (none, (.v (.bin 53 .eql false (.t 52) (.c (.int .i64 0)))))])
 (.cond 53
 (.seq (.ops [(none, (.v (.load 54 true 3 (.t 8)))),
 (none, (.v (.build 55 [(.int .i64 0), (.int .i64 0), (.int .i64 0), (.int .i64 0), (.str ⟨#[]⟩), (.raw (.slice none 0 0))] [(0, 1, (.c (.int .i64 2))), (2, 3, (.t 54))]))),
 (none, (.e (.store 6 true (.t 2) (.t 55))))])
 .ret)
 .skip)))
 (.seq (.ops [(none, (.v (.load 56 true 6 (.t 3)))),
 (none, (.e (.store 6 true (.t 2) (.t 56))))])
 .ret))
 .skip))
 (.seq (.any true (.pure0 none (.v (.fld 57 5 (.t 3)))
 (.pure0 none (.v (.load 58 false 1 (.t 57)))
 (.pure0 none (.p (.idx 59 6 (.t 58) (.c (.int .i64 0))))
 (.pure0 none (.v (.load 60 true 6 (.t 59)))
 (.pure0 none (.v (.fld 61 5 (.t 3)))
 (.pure0 none (.v (.load 62 false 1 (.t 61)))
 (.pure0 none (.v (.fld 63 5 (.t 3)))
 (.pure0 none (.v (.load 64 false 1 (.t 63)))
 (.pure0 none (.p (.len 65 (.t 64)))
 (.pure0 none (.v (.bin 66 .sub false (.t 65) (.c (.int .i64 1))))
 (.pure0 none (.p (.idx 67 6 (.t 62) (.t 66)))
 (.pure0 none (.v (.load 68 true 6 (.t 67)))
 (.alt none (.e (.alloc 10 [(.int .i64 0), (.int .i64 0), (.int .i64 0), (.int .i64 0), (.str ⟨#[]⟩), (.raw (.slice none 0 0))]))
 (.alt none (.e (.alloc 11 [(.int .i64 0), (.int .i64 0), (.int .i64 0), (.int .i64 0), (.str ⟨#[]⟩), (.raw (.slice none 0 0))]))
 (.alt none (.e (.store 6 true (.t 10) (.t 60)))
 (.alt none (.e (.store 6 true (.t 11) (.t 68)))
 .done
 .stop)
 .stop)
 .stop)
 (.alt none (.e (.alloc 11 [(.int .i64 0), (.int .i64 0), (.int .i64 0), (.int .i64 0), (.str ⟨#[]⟩), (.raw (.slice none 0 0))]))
 (.alt none (.e (.alloc 10 [(.int .i64 0), (.int .i64 0), (.int .i64 0), (.int .i64 0), (.str ⟨#[]⟩), (.raw (.slice none 0 0))]))
 (.alt none (.e (.store 6 true (.t 10) (.t 60)))
 (.alt none (.e (.store 6 true (.t 11) (.t 68)))
 .done
 .stop)
 .stop)
 .stop)
 .stop)))))))))))))))
 (.seq (.ops [(none, (.v (.build 69 [(.int .i64 0), (.int .i64 0), (.str ⟨#[]⟩)] [(0, 1, (.c (.int .i64 1)))]))),
 (none, (.v (.build 70 [(.int .i64 0), (.int .i64 0), (.str ⟨#[]⟩)] [(0, 1, (.c (.int .i64 1))), (1, 1, (.c (.int .i64 1)))]))),
 (none, (.e (.alloc 12 [(.int .i64 0), (.int .i64 0), (.str ⟨#[]⟩)]))),
 (none, (.e (.alloc 13 [(.int .i64 0), (.int .i64 0), (.str ⟨#[]⟩)]))),
 (none, (.e (.store 3 true (.t 12) (.t 69)))),
 (none, (.e (.store 3 true (.t 13) (.t 70))))])
 (.seq (.block 2 (.seq (.ops [(none, (.v (.fld 72 0 (.t 1)))),
 (none, (.v (.load 73 false 1 (.t 72)))),
 (none, (.v (.bin 74 .eql false (.t 73) (.c (.int .i64 12))))),
 (none, (.v (.mov 75 (.t 74)))),
 ((some (75, false)), (.v (.fld 76 0 (.t 1)))),
 ((some (75, false)), (.v (.load 77 false 1 (.t 76)))),
 ((some (75, false)), (.v (.bin 78 .eql false (.t 77) (.c (.int .i64 13))))),
 (none, (.v (.pick 79 (.t 75) (.c (.bool true)) (.t 78)))),
 (none, (.v (.mov 71 (.t 79))))])
 (.cond 71
 (.seq (.ops [(none, (.v (.fld 80 0 (.t 1)))),
 (none, (.v (.load 81 false 1 (.t 80)))),
 (none, (.v (.bin 82 .eql false (.t 81) (.c (.int .i64 12))))),
 (none, (.e (.call (some 83) 52 [(.t 82)]))),
 (none, (.e (.alloc 14 [(.int .i64 0), (.int .i64 0), (.str ⟨#[]⟩)]))),
 (none, (.e (.store 3 true (.t 14) (.t 83))))])
 (.seq (.ops [(none, (.v (.fld 84 0 (.t 1)))),
 (none, (.v (.load 85 false 1 (.t 84)))),
 (none, (.v (.bin 86 .eql false (.t 85) (.c (.int .i64 13))))),
 (none, (.e (.call (some 87) 52 [(.t 86)]))),
 (none, (.e (.alloc 15 [(.int .i64 0), (.int .i64 0), (.str ⟨#[]⟩)]))),
 (none, (.e (.store 3 true (.t 15) (.t 87))))])
 (.block 3 (.seq (.ops [(none, (.v (.load 89 true 6 (.t 10)))),
 (none, (.v (.load 90 true 3 (.t 14)))),
 (none, (.e (.call (some 91) 69 [(.t 89), (.t 90)]))),
 (none, (.v (.mov 88 (.t 91))))])
 (.cond 88
 (.seq (.ops [(none, (.v (.load 92 true 6 (.t 11)))),
 (none, (.e (.store 6 true (.t 2) (.t 92))))])
 .ret)
 (.seq (.ops [(none, (.v (.load 94 true 6 (.t 11)))),
 (none, (.v (.load 95 true 3 (.t 14)))),
 (none, (.e (.call (some 96) 69 [(.t 94), (.t 95)]))),
 (none, (.v (.mov 93 (.t 96))))])
 (.cond 93
 (.seq (.ops [(none, (.v (.load 97 true 6 (.t 10)))),
 (none, (.e (.store 6 true (.t 2) (.t 97))))])
 .ret)
 (.seq (.ops [(none, (.v (.load 99 true 6 (.t 10)))),
 (none, (.v (.load 100 true 3 (.t 15)))),
 (none, (.e (.call (some 101) 69 [(.t 99), (.t 100)]))),
 (none, (.v (.mov 102 (.t 101)))),
 ((some (102, true)), (.v (.load 103 true 6 (.t 11)))),
 ((some (102, true)), (.e (.call (some 104) 70 [(.t 103)]))),
 ((some (102, true)), (.v (.not 105 (.t 104)))),
 (none, (.v (.pick 106 (.t 102) (.t 105) (.c (.bool false))))),
 (none, (.v (.mov 98 (.t 106))))])
 (.cond 98
 (.seq (.ops [(none, (.v (.load 107 true 6 (.t 10)))),
 (none, (.e (.store 6 true (.t 2) (.t 107))))])
 .ret)
 (.seq (.ops [(none, (.v (.load 109 true 6 (.t 11)))),
 (none, (.v (.load 110 true 3 (.t 15)))),
 (none, (.e (.call (some 111) 69 [(.t 109), (.t 110)]))),
 (none, (.v (.mov 112 (.t 111)))),
 ((some (112, true)), (.v (.load 113 true 6 (.t 10)))),
 ((some (112, true)), (.e (.call (some 114) 70 [(.t 113)]))),
 ((some (112, true)), (.v (.not 115 (.t 114)))),
 (none, (.v (.pick 116 (.t 112) (.t 115) (.c (.bool false))))),
 (none, (.v (.mov 108 (.t 116))))])
 (.cond 108
 (.seq (.ops [(none, (.v (.load 117 true 6 (.t 11)))),
 (none, (.e (.store 6 true (.t 2) (.t 117))))])
 .ret)
 .skip)))))))))))
 (.seq (.ops [(none, (.v (.fld 119 0 (.t 1)))),
 (none, (.v (.load 120 false 1 (.t 119)))),
 (none, (.v (.bin 121 .eql false (.t 120) (.c (.int .i64 14))))),
 (none, (.v (.mov 122 (.t 121)))),
 ((some (122, true)), (.v (.fld 123 0 (.t 10)))),
 ((some (122, true)), (.v (.load 124 false 1 (.t 123)))),
 ((some (122, true)), (.v (.bin 125 .eql false (.t 124) (.c (.int .i64 14))))),
 (none, (.v (.pick 126 (.t 122) (.t 125) (.c (.bool false))))),
 (none, (.v (.mov 118 (.t 126))))])
 (.cond 118
 (.seq (.ops [(none, (.v (.fld 127 5 (.t 10)))),
 (none, (.v (.load 128 false 1 (.t 127)))),
 (none, (.p (.idx 129 6 (.t 128) (.c (.int .i64 0))))),
 (none, (.v (.load 130 true 6 (.t 129)))),
 (none, (.e (.store 6 true (.t 2) (.t 130))))])
 .ret)
 (.seq (.ops [(none, (.v (.fld 132 0 (.t 1)))),
 (none, (.v (.load 133 false 1 (.t 132)))),
 (none, (.v (.bin 134 .eql false (.t 133) (.c (.int .i64 14))))),
 (none, (.v (.mov 135 (.t 134)))),
 ((some (135, true)), (.v (.fld 136 0 (.t 10)))),
 ((some (135, true)), (.v (.load 137 false 1 (.t 136)))),
 ((some (135, true)), (.e (.call (some 138) 53 [(.t 137)]))),
 (none, (.v (.pick 139 (.t 135) (.t 138) (.c (.bool false))))),
 (none, (.v (.mov 131 (.t 139))))])
 (.cond 131
 (.seq (.any true (.pure0 none (.v (.fld 140 0 (.t 10)))
 (.pure0 none (.v (.load 141 false 1 (.t 140)))
 (.pure0 none (.v (.fld 143 5 (.t 10)))
 (.pure0 none (.v (.load 144 false 1 (.t 143)))
 (.alt none (.e (.call (some 142) 71 [(.t 141)]))
 (.pure1 none (.v (.build 145 [(.int .i64 0), (.int .i64 0), (.int .i64 0), (.int .i64 0), (.str ⟨#[]⟩), (.raw (.slice none 0 0))] [(0, 1, (.t 142)), (5, 1, (.t 144))]))
 (.alt none (.e (.store 6 true (.t 2) (.t 145)))
 .done
 .stop))
 .stop))))))
 .ret)
 (.seq (.ops [(none, (.v (.fld 147 0 (.t 1)))),
 (none, (.v (.load 148 false 1 (.t 147)))),
 (none, (.e (.call (some 149) 53 [(.t 148)]))),
 (none, (.v (.mov 150 (.t 149)))),
 ((some (150, true)), (.v (.fld 151 0 (.t 10)))),
 ((some (150, true)), (.v (.load 152 false 1 (.t 151)))),
 ((some (150, true)), (.v (.bin 153 .eql false (.t 152) (.c (.int .i64 2))))),
 (none, (.v (.pick 154 (.t 150) (.t 153) (.c (.bool false))))),
 (none, (.v (.mov 146 (.t 154))))])
 (.cond 146
 (.seq (.any true (.pure0 none (.v (.fld 155 0 (.t 1)))
 (.pure0 none (.v (.load 156 false 1 (.t 155)))
 (.pure0 none (.v (.load 158 true 6 (.t 11)))
 (.pure0 none (.v (.load 159 true 6 (.t 10)))
 (.alt none (.e (.call (some 157) 72 [(.t 156)]))
 (.alt none (.e (.mkl 160 27 6 2 (.agg [(.int .i64 0), (.int .i64 0), (.int .i64 0), (.int .i64 0), (.str ⟨#[]⟩), (.raw (.slice none 0 0))]) [(0, (.t 158)), (1, (.t 159))]))
 (.pure1 none (.v (.build 161 [(.int .i64 0), (.int .i64 0), (.int .i64 0), (.int .i64 0), (.str ⟨#[]⟩), (.raw (.slice none 0 0))] [(0, 1, (.t 157)), (5, 1, (.t 160))]))
 (.alt none (.e (.store 6 true (.t 2) (.t 161)))
 .done
 .stop))
 .stop)
 (.alt none (.e (.mkl 160 27 6 2 (.agg [(.int .i64 0), (.int .i64 0), (.int .i64 0), (.int .i64 0), (.str ⟨#[]⟩), (.raw (.slice none 0 0))]) [(0, (.t 158)), (1, (.t 159))]))
 (.alt none (.e (.call (some 157) 72 [(.t 156)]))
 (.pure1 none (.v (.build 161 [(.int .i64 0), (.int .i64 0), (.int .i64 0), (.int .i64 0), (.str ⟨#[]⟩), (.raw (.slice none 0 0))] [(0, 1, (.t 157)), (5, 1, (.t 160))]))
 (.alt none (.e (.store 6 true (.t 2) (.t 161)))
 .done
 .stop))
 .stop)
 .stop)))))))
 .ret)
 (.seq (.seq (.ops [(none, (.v (.fld 163 0 (.t 1)))),
 (none, (.v (.load 164 false 1 (.t 163)))),
 (none, (.v (.bin 165 .eql false (.t 164) (.c (.int .i64 3))))),
 (none, (.v (.mov 166 (.t 165)))),
 ((some (166, false)), (.v (.fld 167 0 (.t 1)))),
 ((some (166, false)), (.v (.load 168 false 1 (.t 167)))),
 ((some (166, false)), (.v (.bin 169 .eql false (.t 168) (.c (.int .i64 4))))),
 (none, (.v (.pick 170 (.t 166) (.c (.bool true)) (.t 169)))),
 (none, (.v (.mov 171 (.t 170)))),
 ((some (171, true)), (.v (.load 172 true 6 (.t 11)))),
 ((some (171, true)), (.v (.load 173 true 3 (.t 12)))),
 ((some (171, true)), (.e (.call (some 174) 69 [(.t 172), (.t 173)]))),
 (none, (.v (.pick 175 (.t 171) (.t 174) (.c (.bool false))))),
 (none, (.v (.mov 162 (.t 175))))])
 (.cond 162
 .skip
 (.ops [(none, (.v (.fld 176 0 (.t 1)))),
 (none, (.v (.load 177 false 1 (.t 176)))),
 (none, (.v (.bin 178 .eql false (.t 177) (.c (.int .i64 5))))),
 (none, (.v (.mov 179 (.t 178)))),
 ((some (179, true)), (.v (.load 180 true 6 (.t 11)))),
 ((some (179, true)), (.v (.load 181 true 3 (.t 13)))),
 ((some (179, true)), (.e (.call (some 182) 69 [(.t 180), (.t 181)]))),
 (none, (.v (.pick 183 (.t 179) (.t 182) (.c (.bool false))))),
 (none, (.v (.mov 162 (.t 183))))])))
 (.cond 162
 (.seq (.ops [(none, (.v (.load 184 true 6 (.t 10)))),
 (none, (.e (.store 6 true (.t 2) (.t 184))))])
 .ret)
 (.seq (.seq (.ops [(none, (.v (.fld 186 0 (.t 1)))),
 (none, (.v (.load 187 false 1 (.t 186)))),
 (none, (.v (.bin 188 .eql false (.t 187) (.c (.int .i64 3))))),
 (none, (.v (.mov 189 (.t 188)))),
 ((some (189, true)), (.v (.load 190 true 6 (.t 10)))),
 ((some (189, true)), (.v (.load 191 true 3 (.t 12)))),
 ((some (189, true)), (.e (.call (some 192) 69 [(.t 190), (.t 191)]))),
 (none, (.v (.pick 193 (.t 189) (.t 192) (.c (.bool false))))),
 (none, (.v (.mov 185 (.t 193))))])
 (.cond 185
 .skip
 (.ops [(none, (.v (.fld 194 0 (.t 1)))),
 (none, (.v (.load 195 false 1 (.t 194)))),
 (none, (.v (.bin 196 .eql false (.t 195) (.c (.int .i64 5))))),
 (none, (.v (.mov 197 (.t 196)))),
 ((some (197, true)), (.v (.load 198 true 6 (.t 10)))),
 ((some (197, true)), (.v (.load 199 true 3 (.t 13)))),
 ((some (197, true)), (.e (.call (some 200) 69 [(.t 198), (.t 199)]))),
 (none, (.v (.pick 201 (.t 197) (.t 200) (.c (.bool false))))),
 (none, (.v (.mov 185 (.t 201))))])))
 (.cond 185
 (.seq (.ops [(none, (.v (.load 202 true 6 (.t 11)))),
 (none, (.e (.store 6 true (.t 2) (.t 202))))])
 .ret)
 .skip)))))))))))))
 (.seq (.ops [(none, (.v (.load 203 true 6 (.t 3)))),
 (none, (.e (.store 6 true (.t 2) (.t 203))))])
 .ret))))))))))
theorem ok31 : FnOk E 31 204 [.cell 2 27] mc31 := .of func31 (by kernel_rfl) (by kernel_rfl) (by kernel_rfl) (by kernel_rfl) (by kernel_rfl)
/-- alum/alumref36.SameList -/
def mc33 : MC :=
 (.seq (.ops [(none, (.v (.mov 4 (.c (.bool false)))))])
 (.seq (.seq (.ops [(none, (.v (.mov 7 (.t 0)))),
 (none, (.p (.len 8 (.t 7)))),
 (none, (.v (.mov 9 (.t 1)))),
 (none, (.p (.len 10 (.t 9)))),
 (none, (.v (.bin 11 .neq false (.t 8) (.t 10))))])
 (.cond 11
 (.seq (.ops [(none, (.v (.mov 4 (.c (.bool false)))))])
 .ret)
 .skip))
 (.seq (.seq (.ops [(none, (.v (.mov 5 (.c (.int .i64 0)))))])
 (.block 0 (.loop (.seq (.seq (.ops [(none, (.v (.mov 12 (.t 5)))),
 (none, (.v (.mov 13 (.t 0)))),
 (none, (.p (.len 14 (.t 13)))),
 (none, (.v (.bin 15 .lss false (.t 12) (.t 14))))])
 (.cond 15
 .skip
 (.exit 0)))
 (.seq (.block 1 (.seq (.any false (.pure0 none (.v (.mov 18 (.t 0)))
 (.pure0 none (.v (.mov 19 (.t 5)))
 (.pure0 none (.p (.idx 20 6 (.t 18) (.t 19)))
 (.pure0 none (.v (.load 21 true 6 (.t 20)))
 (.pure0 none (.v (.mov 22 (.t 1)))
 (.pure0 none (.v (.mov 23 (.t 5)))
 (.pure0 none (.p (.idx 24 6 (.t 22) (.t 23)))
 (.pure0 none (.v (.load 25 true 6 (.t 24)))
 (.alt none (.e (.call (some 26) 30 [(.t 21), (.t 25)]))
 (.base (.pure0 none (.v (.mov 6 (.t 26)))
 .done))
 .stop))))))))))
 (.seq (.ops [(none, (.v (.mov 27 (.t 6)))),
 (none, (.v (.not 28 (.t 27))))])
 (.cond 28
 (.seq (.ops [(none, (.v (.mov 4 (.c (.bool false)))))])
 .ret)
 .skip))))
 (.ops [(none, (.v (.mov 16 (.t 5)))),
 (none, (.v (.bin 17 .add false (.t 16) (.c (.int .i64 1))))),
 (none, (.v (.mov 5 (.t 17))))]))))))
 (.seq (.ops [(none, (.v (.mov 4 (.c (.bool true)))))])
 .ret))))
theorem ok33 : FnOk E 33 29 [.tmp 4] mc33 := .of func33 (by kernel_rfl) (by kernel_rfl) (by kernel_rfl) (by kernel_rfl) (by kernel_rfl)
/-- alum/expr.All -/
def mc34 : MC :=
 (.seq (.ops [(none, (.e (.alloc 2 [(.int .i64 0), (.int .i64 0), (.int .i64 0), (.int .i64 0), (.str ⟨#[]⟩), (.raw (.slice none 0 0))])))])
 (.seq (.seq (.ops [(none, (.v (.mov 6 (.t 0)))),
 (none, (.p (.len 7 (.t 6)))),
 (none, (.v (.bin 8 .eql false (.t 7) (.c (.int .i64 0)))))])
 (.cond 8
 (.seq (.ops [(none, (.e (.call (some 9) 52 [(.c (.bool true))]))),
 (none, (.v (.build 10 [(.int .i64 0), (.int .i64 0), (.int .i64 0), (.int .i64 0), (.str ⟨#[]⟩), (.raw (.slice none 0 0))] [(0, 1, (.c (.int .i64 2))), (2, 3, (.t 9))]))),
 (none, (.e (.store 6 true (.t 2) (.t 10))))])
 .ret)
 .skip))
 (.seq (.ops [(none, (.v (.mov 11 (.t 0)))),
 (none, (.p (.idx 12 6 (.t 11) (.c (.int .i64 0))))),
 (none, (.v (.load 13 true 6 (.t 12)))),
 (none, (.e (.alloc 3 [(.int .i64 0), (.int .i64 0), (.int .i64 0), (.int .i64 0), (.str ⟨#[]⟩), (.raw (.slice none 0 0))]))),
 (none, (.e (.store 6 true (.t 3) (.t 13))))])
 (.seq (.seq (.ops [(none, (.v (.mov 14 (.t 0)))),
 (none, (.p (.cut 15 6 (.t 14) (.c (.int .i64 1)) none))),
 (none, (.p (.len 16 (.t 15)))),
 (none, (.v (.mov 17 (.c (.int .i64 0)))))])
 (.block 0 (.loop (.seq (.ops [(none, (.v (.bin 18 .lss false (.t 17) (.t 16))))])
 (.seq (.cond 18
 .skip
 (.exit 0))
 (.seq (.block 1 (.seq (.ops [(none, (.p (.idx 19 6 (.t 15) (.t 17)))),
 (none, (.v (.load 20 true 6 (.t 19)))),
 (none, (.e (.alloc 5 [(.int .i64 0), (.int .i64 0), (.int .i64 0), (.int .i64 0), (.str ⟨#[]⟩), (.raw (.slice none 0 0))]))),
 (none, (.e (.store 6 true (.t 5) (.t 20))))])
 (.ops [(none, (.v (.load 21 true 6 (.t 3)))),
 (none, (.v (.load 22 true 6 (.t 5)))),
 (none, (.e (.mkl 23 27 6 2 (.agg [(.int .i64 0), (.int .i64 0), (.int .i64 0), (.int .i64 0), (.str ⟨#[]⟩), (.raw (.slice none 0 0))]) [(0, (.t 21)), (1, (.t 22))]))),
 (none, (.v (.build 24 [(.int .i64 0), (.int .i64 0), (.int .i64 0), (.int .i64 0), (.str ⟨#[]⟩), (.raw (.slice none 0 0))] [(0, 1, (.c (.int .i64 12))), (5, 1, (.t 23))]))),
 (none, (.e (.store 6 true (.t 3) (.t 24))))])))
 (.ops [(none, (.v (.bin 25 .add false (.t 17) (.c (.int .i64 1))))),
 (none, (.v (.mov 17 (.t 25))))])))))))
 (.seq (.ops [(none, (.v (.load 26 true 6 (.t 3)))),
 (none, (.e (.store 6 true (.t 2) (.t 26))))])
 .ret)))))
theorem ok34 : FnOk E 34 27 [.cell 2 27] mc34 := .of func34 (by kernel_rfl) (by kernel_rfl) (by kernel_rfl) (by kernel_rfl) (by kernel_rfl)
/-- alum/alumref36.All -/
def mc35 : MC :=
 (.seq (.ops [(none, (.e (.alloc 2 [(.int .i64 0), (.int .i64 0), (.int .i64 0), (.int .i64 0), (.str ⟨#[]⟩), (.raw (.slice none 0 0))])))])
 (.seq (.seq (.ops [(none, (.v (.mov 5 (.t 0)))),
 (none, (.p (.len 6 (.t 5)))),
 (none, (.v (.bin 7 .eql false (.t 6) (.c (.int .i64 0)))))])
 (.cond 7
 (.seq (.ops [(none, (.e (.call (some 8) 44 [(.c (.bool true))]))),
 (none, (.v (.build 9 [(.int .i64 0), (.int .i64 0), (.int .i64 0), (.int .i64 0), (.str ⟨#[]⟩), (.raw (.slice none 0 0))] [(0, 1, (.c (.int .i64 2))), (2, 3, (.t 8))]))),
 (none, (.e (.store 6 true (.t 2) (.t 9))))])
 .ret)
 .skip))
 (.seq (.ops [(none, (.v (.mov 10 (.t 0)))),
 (none, (.p (.idx 11 6 (.t 10) (.c (.int .i64 0))))),
 (none, (.v (.load 12 true 6 (.t 11)))),
 (none, (.e (.alloc 3 [(.int .i64 0), (.int .i64 0), (.int .i64 0), (.int .i64 0), (.str ⟨#[]⟩), (.raw (.slice none 0 0))]))),
 (none, (.e (.store 6 true (.t 3) (.t 12))))])
 (.seq (.seq (.ops [(none, (.v (.mov 4 (.c (.int .i64 1)))))])
 (.block 0 (.loop (.seq (.seq (.ops [(none, (.v (.mov 13 (.t 4)))),
 (none, (.v (.mov 14 (.t 0)))),
 (none, (.p (.len 15 (.t 14)))),
 (none, (.v (.bin 16 .lss false (.t 13) (.t 15))))])
 (.cond 16
 .skip
 (.exit 0)))
 (.seq (.block 1 (.any true (.pure0 none (.v (.mov 20 (.t 0)))
 (.pure0 none (.v (.mov 21 (.t 4)))
 (.pure0 none (.p (.idx 22 6 (.t 20) (.t 21)))
 (.pure0 none (.v (.load 23 true 6 (.t 22)))
 (.alt none (.v (.load 19 true 6 (.t 3)))
 (.alt none (.e (.mkl 24 27 6 2 (.agg [(.int .i64 0), (.int .i64 0), (.int .i64 0), (.int .i64 0), (.str ⟨#[]⟩), (.raw (.slice none 0 0))]) [(0, (.t 19)), (1, (.t 23))]))
 (.pure1 none (.v (.build 25 [(.int .i64 0), (.int .i64 0), (.int .i64 0), (.int .i64 0), (.str ⟨#[]⟩), (.raw (.slice none 0 0))] [(0, 1, (.c (.int .i64 12))), (5, 1, (.t 24))]))
 (.alt none (.e (.store 6 true (.t 3) (.t 25)))
 .done
 .stop))
 .stop)
 .stop)))))))
 (.ops [(none, (.v (.mov 17 (.t 4)))),
 (none, (.v (.bin 18 .add false (.t 17) (.c (.int .i64 1))))),
 (none, (.v (.mov 4 (.t 18))))]))))))
 (.seq (.ops [(none, (.v (.load 26 true 6 (.t 3)))),
 (none, (.e (.store 6 true (.t 2) (.t 26))))])
 .ret)))))
theorem ok35 : FnOk E 35 27 [.cell 2 27] mc35 := .of func35 (by kernel_rfl) (by kernel_rfl) (by kernel_rfl) (by kernel_rfl) (by kernel_rfl)
/-- alum/expr.Size -/
def mc36 : MC :=
 (.seq (.ops [(none, (.e (.box 1 (.t 0)))),
 (none, (.v (.mov 2 (.c (.int .i64 0)))))])
 (.seq (.ops [(none, (.e (.alloc 3 [(.int .i64 0)]))),
 (none, (.e (.store 1 false (.t 3) (.c (.int .i64 0)))))])
 (.seq (.seq (.ops [(none, (.v (.load 4 true 6 (.t 1)))),
 (none, (.e (.call (some 5) 61 [(.t 4)])))])
 (.block 0 (.rngf (.t 5) #[6] .skip (.block 1 (.ops [(none, (.v (.load 7 false 1 (.t 3)))),
 (none, (.v (.bin 8 .add false (.t 7) (.c (.int .i64 1))))),
 (none, (.e (.store 1 false (.t 3) (.t 8))))])))))
 (.seq (.ops [(none, (.v (.load 9 false 1 (.t 3)))),
 (none, (.v (.mov 2 (.t 9))))])
 .ret))))
theorem ok36 : FnOk E 36 10 [.tmp 2] mc36 := .of func36 (by kernel_rfl) (by kernel_rfl) (by kernel_rfl) (by kernel_rfl) (by kernel_rfl)
/-- alum/expr.Equal -/
def mc37 : MC :=
 (.seq (.ops [(none, (.e (.box 2 (.t 0)))),
 (none, (.e (.box 3 (.t 1)))),
 (none, (.v (.mov 4 (.c (.bool false)))))])
 (.seq (.ops [(none, (.v (.fld 5 0 (.t 2)))),
 (none, (.v (.load 6 false 1 (.t 5)))),
 (none, (.v (.fld 7 0 (.t 3)))),
 (none, (.v (.load 8 false 1 (.t 7)))),
 (none, (.v (.bin 9 .eql false (.t 6) (.t 8)))),
 (none, (.v (.mov 10 (.t 9)))),
 ((some (10, true)), (.v (.fld 11 1 (.t 2)))),
 ((some (10, true)), (.v (.load 12 false 1 (.t 11)))),
 ((some (10, true)), (.v (.fld 13 1 (.t 3)))),
 ((some (10, true)), (.v (.load 14 false 1 (.t 13)))),
 ((some (10, true)), (.v (.bin 15 .eql false (.t 12) (.t 14)))),
 (none, (.v (.pick 16 (.t 10) (.t 15) (.c (.bool false))))),
 (none, (.v (.mov 17 (.t 16)))),
 ((some (17, true)), (.v (.fld 18 2 (.t 2)))),
 ((some (17, true)), (.v (.load 19 true 3 (.t 18)))),
 ((some (17, true)), (.v (.fld 20 2 (.t 3)))),
 ((some (17, true)), (.v (.load 21 true 3 (.t 20)))),
 ((some (17, true)), (.v (.eq 22 false (.agg [(0, false, 1, .int), (1, false, 1, .int), (2, false, 1, .str)]) (.t 19) (.t 21)))),
 (none, (.v (.pick 23 (.t 17) (.t 22) (.c (.bool false))))),
 (none, (.v (.mov 24 (.t 23)))),
 ((some (24, true)), (.v (.fld 25 5 (.t 2)))),
 ((some (24, true)), (.v (.load 26 false 1 (.t 25)))),
 ((some (24, true)), (.v (.fld 27 5 (.t 3)))),
 ((some (24, true)), (.v (.load 28 false 1 (.t 27)))),
 ((some (24, true)), (.e (.call (some 29) 74 [(.t 26), (.t 28), (.c (.fn (.func 37) [] []))]))),
 (none, (.v (.pick 30 (.t 24) (.t 29) (.c (.bool false))))),
 (none, (.v (.mov 4 (.t 30))))])
 .ret))
theorem ok37 : FnOk E 37 31 [.tmp 4] mc37 := .of func37 (by kernel_rfl) (by kernel_rfl) (by kernel_rfl) (by kernel_rfl) (by kernel_rfl)
/-- alum/alumref36.Check -/
def mc38 : MC :=
 (.seq (.ops [(none, (.e (.box 3 (.t 1)))),
 (none, (.v (.mov 4 (.c (.int .i64 0))))),
 (none, (.v (.mov 5 (.c (.int .i64 0)))))])
 (.seq (.seq (.ops [(none, (.v (.load 7 true 6 (.t 3)))),
 (none, (.e (.call (some 8) 19 [(.t 7)]))),
 (none, (.v (.bin 9 .gtr false (.t 8) (.c (.int .i64 200)))))])
 (.cond 9
 (.seq (.ops [(none, (.v (.mov 4 (.c (.int .i64 0))))),
 (none, (.v (.mov 5 (.c (.int .i64 2)))))])
 .ret)
 .skip))
 (.seq (.ops [(none, (.v (.load 10 true 6 (.t 3)))),
 (none, (.e (.call (some 11) 75 [(.t 10)]))),
 (none, (.v (.mov 6 (.t 11))))])
 (.seq (.seq (.ops [(none, (.v (.mov 12 (.t 6)))),
 (none, (.v (.not 13 (.t 12))))])
 (.cond 13
 (.seq (.ops [(none, (.v (.mov 4 (.c (.int .i64 0))))),
 (none, (.v (.mov 5 (.c (.int .i64 3)))))])
 .ret)
 .skip))
 (.seq (.ops [(none, (.v (.mov 14 (.t 0)))),
 (none, (.v (.load 15 true 6 (.t 3)))),
 (none, (.e (.call (some 16) 76 [(.t 14), (.t 15)]))),
 (none, (.v (.ext 17 0 (.t 16)))),
 (none, (.v (.ext 18 1 (.t 16)))),
 (none, (.v (.mov 4 (.t 17)))),
 (none, (.v (.mov 5 (.t 18))))])
 .ret)))))
theorem ok38 : FnOk E 38 19 [.tmp 4, .tmp 5] mc38 := .of func38 (by kernel_rfl) (by kernel_rfl) (by kernel_rfl) (by kernel_rfl) (by kernel_rfl)
/-- alum/alumref19.Bool -/
def mc44 : MC :=
 (.seq (.ops [(none, (.e (.alloc 2 [(.int .i64 0), (.int .i64 0), (.str ⟨#[]⟩)])))])
 (.seq (.seq (.ops [(none, (.v (.mov 3 (.t 0))))])
 (.cond 3
 (.seq (.ops [(none, (.v (.build 4 [(.int .i64 0), (.int .i64 0), (.str ⟨#[]⟩)] [(0, 1, (.c (.int .i64 3))), (1, 1, (.c (.int .i64 1)))]))),
 (none, (.e (.store 3 true (.t 2) (.t 4))))])
 .ret)
 .skip))
 (.seq (.ops [(none, (.v (.build 5 [(.int .i64 0), (.int .i64 0), (.str ⟨#[]⟩)] [(0, 1, (.c (.int .i64 3)))]))),
 (none, (.e (.store 3 true (.t 2) (.t 5))))])
 .ret)))
theorem ok44 : FnOk E 44 6 [.cell 2 24] mc44 := .of func44 (by kernel_rfl) (by kernel_rfl) (by kernel_rfl) (by kernel_rfl) (by kernel_rfl)
/-- alum/alumlaw36.two -/
def mc45 : MC :=
 (.seq (.ops [(none, (.e (.box 4 (.t 1)))),
 (none, (.e (.box 5 (.t 2)))),
 (none, (.e (.alloc 6 [(.int .i64 0), (.int .i64 0), (.int .i64 0), (.int .i64 0), (.str ⟨#[]⟩), (.raw (.slice none 0 0))])))])
 (.seq (.ops [(none, (.v (.mov 7 (.t 0)))),
 (none, (.v (.load 8 true 6 (.t 4)))),
 (none, (.v (.load 9 true 6 (.t 5)))),
 (none, (.e (.mkl 10 27 6 2 (.agg [(.int .i64 0), (.int .i64 0), (.int .i64 0), (.int .i64 0), (.str ⟨#[]⟩), (.raw (.slice none 0 0))]) [(0, (.t 8)), (1, (.t 9))]))),
 (none, (.v (.build 11 [(.int .i64 0), (.int .i64 0), (.int .i64 0), (.int .i64 0), (.str ⟨#[]⟩), (.raw (.slice none 0 0))] [(0, 1, (.t 7)), (5, 1, (.t 10))]))),
 (none, (.e (.store 6 true (.t 6) (.t 11))))])
 .ret))
theorem ok45 : FnOk E 45 12 [.cell 6 27] mc45 := .of func45 (by kernel_rfl) (by kernel_rfl) (by kernel_rfl) (by kernel_rfl) (by kernel_rfl)
/-- alum/alumlaw36.col -/
def mc46 : MC :=
 (.seq (.ops [(none, (.e (.alloc 2 [(.int .i64 0), (.int .i64 0), (.int .i64 0), (.int .i64 0), (.str ⟨#[]⟩), (.raw (.slice none 0 0))])))])
 (.seq (.ops [(none, (.v (.mov 3 (.t 0)))),
 (none, (.v (.build 4 [(.int .i64 0), (.int .i64 0), (.int .i64 0), (.int .i64 0), (.str ⟨#[]⟩), (.raw (.slice none 0 0))] [(0, 1, (.c (.int .i64 1))), (1, 1, (.t 3))]))),
 (none, (.e (.store 6 true (.t 2) (.t 4))))])
 .ret))
theorem ok46 : FnOk E 46 5 [.cell 2 27] mc46 := .of func46 (by kernel_rfl) (by kernel_rfl) (by kernel_rfl) (by kernel_rfl) (by kernel_rfl)
/-- alum/alumlaw36.num -/
def mc47 : MC :=
 (.seq (.ops [(none, (.e (.alloc 2 [(.int .i64 0), (.int .i64 0), (.int .i64 0), (.int .i64 0), (.str ⟨#[]⟩), (.raw (.slice none 0 0))])))])
 (.seq (.ops [(none, (.v (.mov 3 (.t 0)))),
 (none, (.v (.build 4 [(.int .i64 0), (.int .i64 0), (.str ⟨#[]⟩)] [(0, 1, (.c (.int .i64 1))), (1, 1, (.t 3))]))),
 (none, (.v (.build 5 [(.int .i64 0), (.int .i64 0), (.int .i64 0), (.int .i64 0), (.str ⟨#[]⟩), (.raw (.slice none 0 0))] [(0, 1, (.c (.int .i64 2))), (2, 3, (.t 4))]))),
 (none, (.e (.store 6 true (.t 2) (.t 5))))])
 .ret))
theorem ok47 : FnOk E 47 6 [.cell 2 27] mc47 := .of func47 (by kernel_rfl) (by kernel_rfl) (by kernel_rfl) (by kernel_rfl) (by kernel_rfl)
/-- alum/alumlaw36.not -/
def mc48 : MC :=
 (.seq (.ops [(none, (.e (.box 1 (.t 0)))),
 (none, (.e (.alloc 2 [(.int .i64 0), (.int .i64 0), (.int .i64 0), (.int .i64 0), (.str ⟨#[]⟩), (.raw (.slice none 0 0))])))])
 (.seq (.ops [(none, (.v (.load 3 true 6 (.t 1)))),
 (none, (.e (.mkl 4 27 6 1 (.agg [(.int .i64 0), (.int .i64 0), (.int .i64 0), (.int .i64 0), (.str ⟨#[]⟩), (.raw (.slice none 0 0))]) [(0, (.t 3))]))),
 (none, (.v (.build 5 [(.int .i64 0), (.int .i64 0), (.int .i64 0), (.int .i64 0), (.str ⟨#[]⟩), (.raw (.slice none 0 0))] [(0, 1, (.c (.int .i64 14))), (5, 1, (.t 4))]))),
 (none, (.e (.store 6 true (.t 2) (.t 5))))])
 .ret))
theorem ok48 : FnOk E 48 6 [.cell 2 27] mc48 := .of func48 (by kernel_rfl) (by kernel_rfl) (by kernel_rfl) (by kernel_rfl) (by kernel_rfl)
/-- alum/value.And -/
def mc49 : MC :=
 (.seq (.ops [(none, (.e (.box 2 (.t 0)))),
 (none, (.e (.box 3 (.t 1)))),
 (none, (.e (.alloc 4 [(.int .i64 0), (.int .i64 0), (.str ⟨#[]⟩)]))),
 (none, (.v (.mov 5 (.c (.int .i64 0)))))])
 (.seq (.ops [(none, (.v (.load 6 true 3 (.t 2)))),
 (none, (.v (.load 7 true 3 (.t 3)))),
 (none, (.e (.mkl 8 24 3 2 (.agg [(.int .i64 0), (.int .i64 0), (.str ⟨#[]⟩)]) [(0, (.t 6)), (1, (.t 7))]))),
 (none, (.e (.call (some 9) 80 [(.c (.bool false)), (.t 8)]))),
 (none, (.v (.ext 10 0 (.t 9)))),
 (none, (.v (.ext 11 1 (.t 9)))),
 (none, (.e (.store 3 true (.t 4) (.t 10)))),
 (none, (.v (.mov 5 (.t 11))))])
 .ret))
theorem ok49 : FnOk E 49 12 [.cell 4 24, .tmp 5] mc49 := .of func49 (by kernel_rfl) (by kernel_rfl) (by kernel_rfl) (by kernel_rfl) (by kernel_rfl)
/-- alum/value.Or -/
def mc50 : MC :=
 (.seq (.ops [(none, (.e (.box 2 (.t 0)))),
 (none, (.e (.box 3 (.t 1)))),
 (none, (.e (.alloc 4 [(.int .i64 0), (.int .i64 0), (.str ⟨#[]⟩)]))),
 (none, (.v (.mov 5 (.c (.int .i64 0)))))])
 (.seq (.ops [(none, (.v (.load 6 true 3 (.t 2)))),
 (none, (.v (.load 7 true 3 (.t 3)))),
 (none, (.e (.mkl 8 24 3 2 (.agg [(.int .i64 0), (.int .i64 0), (.str ⟨#[]⟩)]) [(0, (.t 6)), (1, (.t 7))]))),
 (none, (.e (.call (some 9) 80 [(.c (.bool true)), (.t 8)]))),
 (none, (.v (.ext 10 0 (.t 9)))),
 (none, (.v (.ext 11 1 (.t 9)))),
 (none, (.e (.store 3 true (.t 4) (.t 10)))),
 (none, (.v (.mov 5 (.t 11))))])
 .ret))
theorem ok50 : FnOk E 50 12 [.cell 4 24, .tmp 5] mc50 := .of func50 (by kernel_rfl) (by kernel_rfl) (by kernel_rfl) (by kernel_rfl) (by kernel_rfl)
/-- alum/value.Not -/
def mc51 : MC :=
 (.seq (.ops [(none, (.e (.box 1 (.t 0)))),
 (none, (.e (.alloc 2 [(.int .i64 0), (.int .i64 0), (.str ⟨#[]⟩)]))),
 (none, (.v (.mov 3 (.c (.int .i64 0)))))])
 (.seq (.seq (.ops [(none, (.v (.load 4 true 3 (.t 1)))),
 (none, (.e (.mkl 5 24 3 1 (.agg [(.int .i64 0), (.int .i64 0), (.str ⟨#[]⟩)]) [(0, (.t 4))]))),
 (none, (.e (.call (some 6) 81 [(.t 5)]))),
 (none, (.v (.not 7 (.t 6))))])
 (.cond 7
 (.seq (.ops [(none, (.v (.build 8 [(.int .i64 0), (.int .i64 0), (.str ⟨#[]⟩)] []))),
 (none, (.e (.store 3 true (.t 2) (.t 8)))),
 (none, (.v (.mov 3 (.c (.int .i64 7)))))])
 .ret)
 .skip))
 (.seq (.seq (.ops [(none, (.v (.fld 9 0 (.t 1)))),
 (none, (.v (.load 10 false 1 (.t 9)))),
 (none, (.v (.bin 11 .eql false (.t 10) (.c (.int .i64 3)))))])
 (.cond 11
 (.ops [(none, (.v (.fld 12 1 (.t 1)))),
 (none, (.v (.load 13 false 1 (.t 12)))),
 (none, (.v (.bin 14 .sub false (.c (.int .i64 1)) (.t 13)))),
 (none, (.v (.fld 15 1 (.t 1)))),
 (none, (.e (.store 1 false (.t 15) (.t 14))))])
 .skip))
 (.seq (.ops [(none, (.v (.load 16 true 3 (.t 1)))),
 (none, (.e (.store 3 true (.t 2) (.t 16)))),
 (none, (.v (.mov 3 (.c (.int .i64 0)))))])
 .ret))))
theorem ok51 : FnOk E 51 17 [.cell 2 24, .tmp 3] mc51 := .of func51 (by kernel_rfl) (by kernel_rfl) (by kernel_rfl) (by kernel_rfl) (by kernel_rfl)
/-- alum/expr.truth -/
def mc52 : MC :=
 (.seq (.ops [(none, (.e (.alloc 2 [(.int .i64 0), (.int .i64 0), (.str ⟨#[]⟩)])))])
 (.seq (.seq (.ops [(none, (.v (.mov 3 (.t 0))))])
 (.cond 3
 (.seq (.ops [(none, (.v (.build 4 [(.int .i64 0), (.int .i64 0), (.str ⟨#[]⟩)] [(0, 1, (.c (.int .i64 3))), (1, 1, (.c (.int .i64 1)))]))),
 (none, (.e (.store 3 true (.t 2) (.t 4))))])
 .ret)
 .skip))
 (.seq (.ops [(none, (.v (.build 5 [(.int .i64 0), (.int .i64 0), (.str ⟨#[]⟩)] [(0, 1, (.c (.int .i64 3)))]))),
 (none, (.e (.store 3 true (.t 2) (.t 5))))])
 .ret)))
theorem ok52 : FnOk E 52 6 [.cell 2 24] mc52 := .of func52 (by kernel_rfl) (by kernel_rfl) (by kernel_rfl) (by kernel_rfl) (by kernel_rfl)
/-- alum/expr.comparison -/
def mc53 : MC :=
 (.seq (.ops [(none, (.v (.mov 2 (.c (.bool false)))))])
 (.seq (.ops [(none, (.v (.mov 3 (.t 0)))),
 (none, (.v (.bin 4 .geq false (.t 3) (.c (.int .i64 6))))),
 (none, (.v (.mov 5 (.t 4)))),
 ((some (5, true)), (.v (.mov 6 (.t 0)))),
 ((some (5, true)), (.v (.bin 7 .leq false (.t 6) (.c (.int .i64 11))))),
 (none, (.v (.pick 8 (.t 5) (.t 7) (.c (.bool false))))),
 (none, (.v (.mov 2 (.t 8))))])
 .ret))
theorem ok53 : FnOk E 53 9 [.tmp 2] mc53 := .of func53 (by kernel_rfl) (by kernel_rfl) (by kernel_rfl) (by kernel_rfl) (by kernel_rfl)
/-- alum/value.Test -/
def mc54 : MC :=
 (.seq (.ops [(none, (.e (.box 4 (.t 1)))),
 (none, (.e (.box 5 (.t 2)))),
 (none, (.e (.alloc 6 [(.int .i64 0), (.int .i64 0), (.str ⟨#[]⟩)]))),
 (none, (.v (.mov 7 (.c (.int .i64 0)))))])
 (.seq (.seq (.ops [(none, (.v (.mov 10 (.t 0)))),
 (none, (.v (.bin 11 .lss false (.t 10) (.c (.int .i64 6))))),
 (none, (.v (.mov 12 (.t 11)))),
 ((some (12, false)), (.v (.mov 13 (.t 0)))),
 ((some (12, false)), (.v (.bin 14 .gtr false (.t 13) (.c (.int .i64 11))))),
 (none, (.v (.pick 15 (.t 12) (.c (.bool true)) (.t 14))))])
 (.cond 15
 (.seq (.ops [(none, (.v (.build 16 [(.int .i64 0), (.int .i64 0), (.str ⟨#[]⟩)] []))),
 (none, (.e (.store 3 true (.t 6) (.t 16)))),
 (none, (.v (.mov 7 (.c (.int .i64 1)))))])
 .ret)
 .skip))
 (.seq (.seq (.ops [(none, (.v (.fld 17 0 (.t 4)))),
 (none, (.v (.load 18 false 1 (.t 17)))),
 (none, (.v (.bin 19 .eql false (.t 18) (.c (.int .i64 0))))),
 (none, (.v (.mov 20 (.t 19)))),
 ((some (20, false)), (.v (.fld 21 0 (.t 5)))),
 ((some (20, false)), (.v (.load 22 false 1 (.t 21)))),
 ((some (20, false)), (.v (.bin 23 .eql false (.t 22) (.c (.int .i64 0))))),
 (none, (.v (.pick 24 (.t 20) (.c (.bool true)) (.t 23))))])
 (.cond 24
 (.seq (.ops [(none, (.v (.build 25 [(.int .i64 0), (.int .i64 0), (.str ⟨#[]⟩)] []))),
 (none, (.e (.store 3 true (.t 6) (.t 25)))),
 (none, (.v (.mov 7 (.c (.int .i64 0)))))])
 .ret)
 .skip))
 (.seq (.seq (.ops [(none, (.v (.fld 26 0 (.t 4)))),
 (none, (.v (.load 27 false 1 (.t 26)))),
 (none, (.v (.fld 28 0 (.t 5)))),
 (none, (.v (.load 29 false 1 (.t 28)))),
 (none, (.v (.bin 30 .neq false (.t 27) (.t 29))))])
 (.cond 30
 (.seq (.ops [(none, (.v (.build 31 [(.int .i64 0), (.int .i64 0), (.str ⟨#[]⟩)] []))),
 (none, (.e (.store 3 true (.t 6) (.t 31)))),
 (none, (.v (.mov 7 (.c (.int .i64 7)))))])
 .ret)
 .skip))
 (.seq (.ops [(none, (.v (.load 32 true 3 (.t 4)))),
 (none, (.v (.load 33 true 3 (.t 5)))),
 (none, (.e (.call (some 34) 66 [(.t 32), (.t 33)]))),
 (none, (.v (.mov 8 (.t 34)))),
 (none, (.v (.mov 9 (.c (.bool false)))))])
 (.seq (.seq (.ops [(none, (.v (.mov 35 (.t 0))))])
 (.block 0 (.seq (.block 5 (.seq (.block 4 (.seq (.block 3 (.seq (.block 2 (.seq (.block 1 (.seq (.seq (.seq (.ops [(none, (.v (.bin 37 .eql false (.t 35) (.c (.int .i64 7))))),
 (none, (.v (.mov 36 (.t 37))))])
 (.cond 36
 (.exit 1)
 .skip))
 (.seq (.seq (.ops [(none, (.v (.bin 39 .eql false (.t 35) (.c (.int .i64 6))))),
 (none, (.v (.mov 38 (.t 39))))])
 (.cond 38
 (.exit 2)
 .skip))
 (.seq (.seq (.ops [(none, (.v (.bin 41 .eql false (.t 35) (.c (.int .i64 11))))),
 (none, (.v (.mov 40 (.t 41))))])
 (.cond 40
 (.exit 3)
 .skip))
 (.seq (.seq (.ops [(none, (.v (.bin 43 .eql false (.t 35) (.c (.int .i64 8))))),
 (none, (.v (.mov 42 (.t 43))))])
 (.cond 42
 (.exit 4)
 .skip))
 (.seq (.ops [(none, (.v (.bin 45 .eql false (.t 35) (.c (.int .i64 9))))),
 (none, (.v (.mov 44 (.t 45))))])
 (.cond 44
 (.exit 5)
 .skip))))))
 (.exit 0)))
 (.ops [(none, (.v (.mov 9 (.c (.bool true)))))])))
 (.seq (.seq (.ops [(none, (.v (.mov 46 (.t 8)))),
 (none, (.v (.bin 47 .eql false (.t 46) (.c (.int .i64 0))))),
 (none, (.v (.mov 48 (.t 9)))),
 (none, (.v (.bin 49 .neq true (.t 47) (.t 48)))),
 (none, (.e (.call (some 50) 82 [(.t 49)]))),
 (none, (.e (.store 3 true (.t 6) (.t 50)))),
 (none, (.v (.mov 7 (.c (.int .i64 0)))))])
 .ret)
 (.exit 0))))
 (.ops [(none, (.v (.mov 9 (.c (.bool true)))))])))
 (.seq (.seq (.ops [(none, (.v (.mov 51 (.t 8)))),
 (none, (.v (.bin 52 .lss false (.t 51) (.c (.int .i64 0))))),
 (none, (.v (.mov 53 (.t 9)))),
 (none, (.v (.bin 54 .neq true (.t 52) (.t 53)))),
 (none, (.e (.call (some 55) 82 [(.t 54)]))),
 (none, (.e (.store 3 true (.t 6) (.t 55)))),
 (none, (.v (.mov 7 (.c (.int .i64 0)))))])
 .ret)
 (.exit 0))))
 (.seq (.ops [(none, (.v (.mov 9 (.c (.bool true)))))])
 (.exit 0)))))
 (.seq (.ops [(none, (.v (.mov 56 (.t 8)))),
 (none, (.v (.bin 57 .gtr false (.t 56) (.c (.int .i64 0))))),
 (none, (.v (.mov 58 (.t 9)))),
 (none, (.v (.bin 59 .neq true (.t 57) (.t 58)))),
 (none, (.e (.call (some 60) 82 [(.t 59)]))),
 (none, (.e (.store 3 true (.t 6) (.t 60)))),
 (none, (.v (.mov 7 (.c (.int .i64 0)))))])
 .ret)))))))
theorem ok54 : FnOk E 54 61 [.cell 6 24, .tmp 7] mc54 := .of func54 (by kernel_rfl) (by kernel_rfl) (by kernel_rfl) (by kernel_rfl) (by kernel_rfl)
/-- alum/alumref19.And -/
def mc55 : MC :=
 (.seq (.ops [(none, (.e (.box 2 (.t 0)))),
 (none, (.e (.box 3 (.t 1)))),
 (none, (.e (.alloc 4 [(.int .i64 0), (.int .i64 0), (.str ⟨#[]⟩)]))),
 (none, (.v (.mov 5 (.c (.int .i64 0)))))])
 (.seq (.seq (.ops [(none, (.v (.load 6 true 3 (.t 2)))),
 (none, (.e (.call (some 7) 83 [(.t 6)]))),
 (none, (.v (.not 8 (.t 7)))),
 (none, (.v (.mov 9 (.t 8)))),
 ((some (9, false)), (.v (.load 10 true 3 (.t 3)))),
 ((some (9, false)), (.e (.call (some 11) 83 [(.t 10)]))),
 ((some (9, false)), (.v (.not 12 (.t 11)))),
 (none, (.v (.pick 13 (.t 9) (.c (.bool true)) (.t 12))))])
 (.cond 13
 (.seq (.ops [(none, (.v (.build 14 [(.int .i64 0), (.int .i64 0), (.str ⟨#[]⟩)] []))),
 (none, (.e (.store 3 true (.t 4) (.t 14)))),
 (none, (.v (.mov 5 (.c (.int .i64 7)))))])
 .ret)
 .skip))
 (.seq (.seq (.any false (.pure0 none (.v (.load 15 true 3 (.t 2)))
 (.alt none (.e (.call (some 16) 44 [(.c (.bool false))]))
 (.base (.pure0 none (.v (.eq 17 false (.agg [(0, false, 1, .int), (1, false, 1, .int), (2, false, 1, .str)]) (.t 15) (.t 16)))
 (.pure0 none (.v (.mov 18 (.t 17)))
 (.pure0 (some (18, false)) (.v (.load 19 true 3 (.t 3)))
 (.alt (some (18, false)) (.e (.call (some 20) 44 [(.c (.bool false))]))
 (.base (.pure0 (some (18, false)) (.v (.eq 21 false (.agg [(0, false, 1, .int), (1, false, 1, .int), (2, false, 1, .str)]) (.t 19) (.t 20)))
 (.pure0 none (.v (.pick 22 (.t 18) (.c (.bool true)) (.t 21)))
 .done)))
 .stop)))))
 .stop)))
 (.cond 22
 (.seq (.ops [(none, (.e (.call (some 23) 44 [(.c (.bool false))]))),
 (none, (.e (.store 3 true (.t 4) (.t 23)))),
 (none, (.v (.mov 5 (.c (.int .i64 0)))))])
 .ret)
 .skip))
 (.seq (.seq (.ops [(none, (.v (.fld 24 0 (.t 2)))),
 (none, (.v (.load 25 false 1 (.t 24)))),
 (none, (.v (.bin 26 .eql false (.t 25) (.c (.int .i64 0))))),
 (none, (.v (.mov 27 (.t 26)))),
 ((some (27, false)), (.v (.fld 28 0 (.t 3)))),
 ((some (27, false)), (.v (.load 29 false 1 (.t 28)))),
 ((some (27, false)), (.v (.bin 30 .eql false (.t 29) (.c (.int .i64 0))))),
 (none, (.v (.pick 31 (.t 27) (.c (.bool true)) (.t 30))))])
 (.cond 31
 (.seq (.ops [(none, (.v (.build 32 [(.int .i64 0), (.int .i64 0), (.str ⟨#[]⟩)] []))),
 (none, (.e (.store 3 true (.t 4) (.t 32)))),
 (none, (.v (.mov 5 (.c (.int .i64 0)))))])
 .ret)
 .skip))
 (.seq (.ops [(none, (.e (.call (some 33) 44 [(.c (.bool true))]))),
 (none, (.e (.store 3 true (.t 4) (.t 33)))),
 (none, (.v (.mov 5 (.c (.int .i64 0)))))])
 .ret)))))
theorem ok55 : FnOk E 55 34 [.cell 4 24, .tmp 5] mc55 := .of func55 (by kernel_rfl) (by kernel_rfl) (by kernel_rfl) (by kernel_rfl) (by kernel_rfl)
/-- alum/alumref19.Or -/
def mc56 : MC :=
 (.seq (.ops [(none, (.e (.box 2 (.t 0)))),
 (none, (.e (.box 3 (.t 1)))),
 (none, (.e (.alloc 4 [(.int .i64 0), (.int .i64 0), (.str ⟨#[]⟩)]))),
 (none, (.v (.mov 5 (.c (.int .i64 0)))))])
 (.seq (.seq (.ops [(none, (.v (.load 6 true 3 (.t 2)))),
 (none, (.e (.call (some 7) 83 [(.t 6)]))),
 (none, (.v (.not 8 (.t 7)))),
 (none, (.v (.mov 9 (.t 8)))),
 ((some (9, false)), (.v (.load 10 true 3 (.t 3)))),
 ((some (9, false)), (.e (.call (some 11) 83 [(.t 10)]))),
 ((some (9, false)), (.v (.not 12 (.t 11)))),
 (none, (.v (.pick 13 (.t 9) (.c (.bool true)) (.t 12))))])
 (.cond 13
 (.seq (.ops [(none, (.v (.build 14 [(.int .i64 0), (.int .i64 0), (.str ⟨#[]⟩)] []))),
 (none, (.e (.store 3 true (.t 4) (.t 14)))),
 (none, (.v (.mov 5 (.c (.int .i64 7)))))])
 .ret)
 .skip))
 (.seq (.seq (.any false (.pure0 none (.v (.load 15 true 3 (.t 2)))
 (.alt none (.e (.call (some 16) 44 [(.c (.bool true))]))
 (.base (.pure0 none (.v (.eq 17 false (.agg [(0, false, 1, .int), (1, false, 1, .int), (2, false, 1, .str)]) (.t 15) (.t 16)))
 (.pure0 none (.v (.mov 18 (.t 17)))
 (.pure0 (some (18, false)) (.v (.load 19 true 3 (.t 3)))
 (.alt (some (18, false)) (.e (.call (some 20) 44 [(.c (.bool true))]))
 (.base (.pure0 (some (18, false)) (.v (.eq 21 false (.agg [(0, false, 1, .int), (1, false, 1, .int), (2, false, 1, .str)]) (.t 19) (.t 20)))
 (.pure0 none (.v (.pick 22 (.t 18) (.c (.bool true)) (.t 21)))
 .done)))
 .stop)))))
 .stop)))
 (.cond 22
 (.seq (.ops [(none, (.e (.call (some 23) 44 [(.c (.bool true))]))),
 (none, (.e (.store 3 true (.t 4) (.t 23)))),
 (none, (.v (.mov 5 (.c (.int .i64 0)))))])
 .ret)
 .skip))
 (.seq (.seq (.ops [(none, (.v (.fld 24 0 (.t 2)))),
 (none, (.v (.load 25 false 1 (.t 24)))),
 (none, (.v (.bin 26 .eql false (.t 25) (.c (.int .i64 0))))),
 (none, (.v (.mov 27 (.t 26)))),
 ((some (27, false)), (.v (.fld 28 0 (.t 3)))),
 ((some (27, false)), (.v (.load 29 false 1 (.t 28)))),
 ((some (27, false)), (.v (.bin 30 .eql false (.t 29) (.c (.int .i64 0))))),
 (none, (.v (.pick 31 (.t 27) (.c (.bool true)) (.t 30))))])
 (.cond 31
 (.seq (.ops [(none, (.v (.build 32 [(.int .i64 0), (.int .i64 0), (.str ⟨#[]⟩)] []))),
 (none, (.e (.store 3 true (.t 4) (.t 32)))),
 (none, (.v (.mov 5 (.c (.int .i64 0)))))])
 .ret)
 .skip))
 (.seq (.ops [(none, (.e (.call (some 33) 44 [(.c (.bool false))]))),
 (none, (.e (.store 3 true (.t 4) (.t 33)))),
 (none, (.v (.mov 5 (.c (.int .i64 0)))))])
 .ret)))))
theorem ok56 : FnOk E 56 34 [.cell 4 24, .tmp 5] mc56 := .of func56 (by kernel_rfl) (by kernel_rfl) (by kernel_rfl) (by kernel_rfl) (by kernel_rfl)
/-- alum/alumref19.Not -/
def mc57 : MC :=
 (.seq (.ops [(none, (.e (.box 1 (.t 0)))),
 (none, (.e (.alloc 2 [(.int .i64 0), (.int .i64 0), (.str ⟨#[]⟩)]))),
 (none, (.v (.mov 3 (.c (.int .i64 0)))))])
 (.seq (.seq (.ops [(none, (.v (.load 4 true 3 (.t 1)))),
 (none, (.e (.call (some 5) 83 [(.t 4)]))),
 (none, (.v (.not 6 (.t 5))))])
 (.cond 6
 (.seq (.ops [(none, (.v (.build 7 [(.int .i64 0), (.int .i64 0), (.str ⟨#[]⟩)] []))),
 (none, (.e (.store 3 true (.t 2) (.t 7)))),
 (none, (.v (.mov 3 (.c (.int .i64 7)))))])
 .ret)
 .skip))
 (.seq (.seq (.ops [(none, (.v (.fld 8 0 (.t 1)))),
 (none, (.v (.load 9 false 1 (.t 8)))),
 (none, (.v (.bin 10 .eql false (.t 9) (.c (.int .i64 0)))))])
 (.cond 10
 (.seq (.ops [(none, (.v (.load 11 true 3 (.t 1)))),
 (none, (.e (.store 3 true (.t 2) (.t 11)))),
 (none, (.v (.mov 3 (.c (.int .i64 0)))))])
 .ret)
 .skip))
 (.seq (.ops [(none, (.v (.fld 12 1 (.t 1)))),
 (none, (.v (.load 13 false 1 (.t 12)))),
 (none, (.v (.bin 14 .eql false (.t 13) (.c (.int .i64 0))))),
 (none, (.e (.call (some 15) 44 [(.t 14)]))),
 (none, (.e (.store 3 true (.t 2) (.t 15)))),
 (none, (.v (.mov 3 (.c (.int .i64 0)))))])
 .ret))))
theorem ok57 : FnOk E 57 16 [.cell 2 24, .tmp 3] mc57 := .of func57 (by kernel_rfl) (by kernel_rfl) (by kernel_rfl) (by kernel_rfl) (by kernel_rfl)
/-- alum/alumref36.comparison -/
def mc58 : MC :=
 (.seq (.ops [(none, (.v (.mov 2 (.c (.bool false)))))])
 (.seq (.ops [(none, (.v (.mov 3 (.t 0)))),
 (none, (.v (.bin 4 .geq false (.t 3) (.c (.int .i64 6))))),
 (none, (.v (.mov 5 (.t 4)))),
 ((some (5, true)), (.v (.mov 6 (.t 0)))),
 ((some (5, true)), (.v (.bin 7 .leq false (.t 6) (.c (.int .i64 11))))),
 (none, (.v (.pick 8 (.t 5) (.t 7) (.c (.bool false))))),
 (none, (.v (.mov 2 (.t 8))))])
 .ret))
theorem ok58 : FnOk E 58 9 [.tmp 2] mc58 := .of func58 (by kernel_rfl) (by kernel_rfl) (by kernel_rfl) (by kernel_rfl) (by kernel_rfl)
/-- alum/alumref19.Test -/
def mc59 : MC :=
 (.seq (.ops [(none, (.e (.box 4 (.t 1)))),
 (none, (.e (.box 5 (.t 2)))),
 (none, (.e (.alloc 6 [(.int .i64 0), (.int .i64 0), (.str ⟨#[]⟩)]))),
 (none, (.v (.mov 7 (.c (.int .i64 0)))))])
 (.seq (.seq (.ops [(none, (.v (.mov 10 (.t 0)))),
 (none, (.v (.bin 11 .lss false (.t 10) (.c (.int .i64 6))))),
 (none, (.v (.mov 12 (.t 11)))),
 ((some (12, false)), (.v (.mov 13 (.t 0)))),
 ((some (12, false)), (.v (.bin 14 .gtr false (.t 13) (.c (.int .i64 11))))),
 (none, (.v (.pick 15 (.t 12) (.c (.bool true)) (.t 14))))])
 (.cond 15
 (.seq (.ops [(none, (.v (.build 16 [(.int .i64 0), (.int .i64 0), (.str ⟨#[]⟩)] []))),
 (none, (.e (.store 3 true (.t 6) (.t 16)))),
 (none, (.v (.mov 7 (.c (.int .i64 1)))))])
 .ret)
 .skip))
 (.seq (.seq (.ops [(none, (.v (.fld 17 0 (.t 4)))),
 (none, (.v (.load 18 false 1 (.t 17)))),
 (none, (.v (.bin 19 .eql false (.t 18) (.c (.int .i64 0))))),
 (none, (.v (.mov 20 (.t 19)))),
 ((some (20, false)), (.v (.fld 21 0 (.t 5)))),
 ((some (20, false)), (.v (.load 22 false 1 (.t 21)))),
 ((some (20, false)), (.v (.bin 23 .eql false (.t 22) (.c (.int .i64 0))))),
 (none, (.v (.pick 24 (.t 20) (.c (.bool true)) (.t 23))))])
 (.cond 24
 (.seq (.ops [(none, (.v (.build 25 [(.int .i64 0), (.int .i64 0), (.str ⟨#[]⟩)] []))),
 (none, (.e (.store 3 true (.t 6) (.t 25)))),
 (none, (.v (.mov 7 (.c (.int .i64 0)))))])
 .ret)
 .skip))
 (.seq (.seq (.ops [(none, (.v (.fld 26 0 (.t 4)))),
 (none, (.v (.load 27 false 1 (.t 26)))),
 (none, (.v (.fld 28 0 (.t 5)))),
 (none, (.v (.load 29 false 1 (.t 28)))),
 (none, (.v (.bin 30 .neq false (.t 27) (.t 29))))])
 (.cond 30
 (.seq (.ops [(none, (.v (.build 31 [(.int .i64 0), (.int .i64 0), (.str ⟨#[]⟩)] []))),
 (none, (.e (.store 3 true (.t 6) (.t 31)))),
 (none, (.v (.mov 7 (.c (.int .i64 7)))))])
 .ret)
 .skip))
 (.seq (.ops [(none, (.v (.load 32 true 3 (.t 4)))),
 (none, (.v (.load 33 true 3 (.t 5)))),
 (none, (.e (.call (some 34) 84 [(.t 32), (.t 33)]))),
 (none, (.v (.mov 8 (.t 34))))])
 (.seq (.ops [(none, (.v (.mov 9 (.c (.bool false)))))])
 (.seq (.seq (.ops [(none, (.v (.mov 35 (.t 0))))])
 (.block 0 (.seq (.ops [(none, (.v (.bin 37 .eql false (.t 35) (.c (.int .i64 6))))),
 (none, (.v (.mov 36 (.t 37))))])
 (.cond 36
 (.ops [(none, (.v (.mov 38 (.t 8)))),
 (none, (.v (.bin 39 .eql false (.t 38) (.c (.int .i64 0))))),
 (none, (.v (.mov 9 (.t 39))))])
 (.seq (.ops [(none, (.v (.bin 41 .eql false (.t 35) (.c (.int .i64 7))))),
 (none, (.v (.mov 40 (.t 41))))])
 (.cond 40
 (.ops [(none, (.v (.mov 42 (.t 8)))),
 (none, (.v (.bin 43 .neq false (.t 42) (.c (.int .i64 0))))),
 (none, (.v (.mov 9 (.t 43))))])
 (.seq (.ops [(none, (.v (.bin 45 .eql false (.t 35) (.c (.int .i64 8))))),
 (none, (.v (.mov 44 (.t 45))))])
 (.cond 44
 (.ops [(none, (.v (.mov 46 (.t 8)))),
 (none, (.v (.bin 47 .lss false (.t 46) (.c (.int .i64 0))))),
 (none, (.v (.mov 9 (.t 47))))])
 (.seq (.ops [(none, (.v (.bin 49 .eql false (.t 35) (.c (.int .i64 9))))),
 (none, (.v (.mov 48 (.t 49))))])
 (.cond 48
 (.ops [(none, (.v (.mov 50 (.t 8)))),
 (none, (.v (.bin 51 .leq false (.t 50) (.c (.int .i64 0))))),
 (none, (.v (.mov 9 (.t 51))))])
 (.seq (.ops [(none, (.v (.bin 53 .eql false (.t 35) (.c (.int .i64 10))))),
 (none, (.v (.mov 52 (.t 53))))])
 (.cond 52
 (.ops [(none, (.v (.mov 54 (.t 8)))),
 (none, (.v (.bin 55 .gtr false (.t 54) (.c (.int .i64 0))))),
 (none, (.v (.mov 9 (.t 55))))])
 (.seq (.ops [(none, (.v (.bin 57 .eql false (.t 35) (.c (.int .i64 11))))),
 (none, (.v (.mov 56 (.t 57))))])
 (.cond 56
 (.ops [(none, (.v (.mov 58 (.t 8)))),
 (none, (.v (.bin 59 .geq false (.t 58) (.c (.int .i64 0))))),
 (none, (.v (.mov 9 (.t 59))))])
 .skip))))))))))))))
 (.seq (.ops [(none, (.v (.mov 60 (.t 9)))),
 (none, (.e (.call (some 61) 44 [(.t 60)]))),
 (none, (.e (.store 3 true (.t 6) (.t 61)))),
 (none, (.v (.mov 7 (.c (.int .i64 0)))))])
 .ret))))))))
theorem ok59 : FnOk E 59 62 [.cell 6 24, .tmp 7] mc59 := .of func59 (by kernel_rfl) (by kernel_rfl) (by kernel_rfl) (by kernel_rfl) (by kernel_rfl)
/-- alum/alumref36.compute -/
def mc60 : MC :=
 (.seq (.ops [(none, (.v (.mov 6 (.c (.int .i64 0))))),
 (none, (.v (.mov 7 (.c (.int .i64 0)))))])
 (.seq (.ops [(none, (.v (.mov 9 (.t 1)))),
 (none, (.v (.mov 10 (.t 2)))),
 (none, (.v (.bin 11 .add false (.t 9) (.t 10)))),
 (none, (.v (.mov 8 (.t 11))))])
 (.seq (.seq (.ops [(none, (.v (.mov 12 (.t 0)))),
 (none, (.v (.bin 13 .eql false (.t 12) (.c (.int .i64 4)))))])
 (.cond 13
 (.ops [(none, (.v (.mov 14 (.t 1)))),
 (none, (.v (.mov 15 (.t 2)))),
 (none, (.v (.bin 16 .sub false (.t 14) (.t 15)))),
 (none, (.v (.mov 8 (.t 16))))])
 .skip))
 (.seq (.seq (.ops [(none, (.v (.mov 17 (.t 0)))),
 (none, (.v (.bin 18 .eql false (.t 17) (.c (.int .i64 5)))))])
 (.cond 18
 (.seq (.seq (.ops [(none, (.v (.mov 19 (.t 2)))),
 (none, (.v (.bin 20 .neq false (.t 19) (.c (.int .i64 0))))),
 (none, (.v (.mov 21 (.t 20)))),
 ((some (21, true)), (.v (.mov 22 (.t 1)))),
 ((some (21, true)), (.e (.call (some 23) 85 [(.t 22)]))),
 ((some (21, true)), (.v (.mov 24 (.t 2)))),
 ((some (21, true)), (.e (.call (some 25) 85 [(.t 24)]))),
 ((some (21, true)), (.p (.quo 26 (.c (.int .i64 549755813888)) (.t 25)))),
 ((some (21, true)), (.v (.bin 27 .gtr false (.t 23) (.t 26)))),
 (none, (.v (.pick 28 (.t 21) (.t 27) (.c (.bool false)))))])
 (.cond 28
 (.seq (.ops [(none, (.v (.mov 6 (.c (.int .i64 0))))),
 (none, (.v (.mov 7 (.c (.int .i64 360)))))])
 .ret)
 .skip))
 (.ops [(none, (.v (.mov 29 (.t 1)))),
 (none, (.v (.mov 30 (.t 2)))),
 (none, (.v (.bin 31 .mul false (.t 29) (.t 30)))),
 (none, (.v (.mov 8 (.t 31))))]))
 .skip))
 (.seq (.seq (.ops [(none, (.v (.mov 32 (.t 8)))),
 (none, (.v (.bin 33 .lss false (.t 32) (.c (.int .i64 (-549755813888)))))),
 (none, (.v (.mov 34 (.t 33)))),
 ((some (34, false)), (.v (.mov 35 (.t 8)))),
 ((some (34, false)), (.v (.bin 36 .gtr false (.t 35) (.c (.int .i64 549755813887))))),
 (none, (.v (.pick 37 (.t 34) (.c (.bool true)) (.t 36))))])
 (.cond 37
 (.seq (.ops [(none, (.v (.mov 6 (.c (.int .i64 0))))),
 (none, (.v (.mov 7 (.c (.int .i64 360)))))])
 .ret)
 .skip))
 (.seq (.ops [(none, (.v (.mov 38 (.t 8)))),
 (none, (.v (.mov 6 (.t 38)))),
 (none, (.v (.mov 7 (.c (.int .i64 0)))))])
 .ret))))))
theorem ok60 : FnOk E 60 39 [.tmp 6, .tmp 7] mc60 := .of func60 (by kernel_rfl) (by kernel_rfl) (by kernel_rfl) (by kernel_rfl) (by kernel_rfl)
/-- alum/expr.nodes -/
def mc61 : MC :=
 (.seq (.ops [(none, (.e (.box 1 (.t 0)))),
 (none, (.v (.mov 2 (.c (.raw .nilFunc)))))])
 (.seq (.ops [(none, (.v (.fn 3 (.func 86) [] [(.t 1)]))),
 (none, (.v (.mov 2 (.t 3))))])
 .ret))
theorem ok61 : FnOk E 61 4 [.tmp 2] mc61 := .of func61 (by kernel_rfl) (by kernel_rfl) (by kernel_rfl) (by kernel_rfl) (by kernel_rfl)
/-- alum/expr.formed -/
def mc62 : MC :=
 (.seq (.ops [(none, (.e (.box 1 (.t 0)))),
 (none, (.v (.mov 2 (.c (.bool false)))))])
 (.seq (.any false (.pure0 none (.v (.fld 3 5 (.t 1)))
 (.pure0 none (.v (.load 4 false 1 (.t 3)))
 (.pure0 none (.p (.len 5 (.t 4)))
 (.pure0 none (.v (.fld 6 0 (.t 1)))
 (.pure0 none (.v (.load 7 false 1 (.t 6)))
 (.alt none (.e (.call (some 8) 88 [(.t 7)]))
 (.base (.pure0 none (.v (.bin 9 .eql false (.t 5) (.t 8)))
 (.pure0 none (.v (.mov 10 (.t 9)))
 (.pure0 (some (10, true)) (.v (.fld 11 1 (.t 1)))
 (.pure0 (some (10, true)) (.v (.load 12 false 1 (.t 11)))
 (.pure0 (some (10, true)) (.v (.bin 13 .eql false (.t 12) (.c (.int .i64 0))))
 (.pure0 (some (10, true)) (.v (.mov 14 (.t 13)))
 (.pure0 (some (14, false)) (.v (.fld 15 0 (.t 1)))
 (.pure0 (some (14, false)) (.v (.load 16 false 1 (.t 15)))
 (.pure0 (some (14, false)) (.v (.bin 17 .eql false (.t 16) (.c (.int .i64 1))))
 (.pure0 (some (10, true)) (.v (.pick 18 (.t 14) (.c (.bool true)) (.t 17)))
 (.pure0 none (.v (.pick 19 (.t 10) (.t 18) (.c (.bool false))))
 (.pure0 none (.v (.mov 20 (.t 19)))
 (.pure0 (some (20, true)) (.v (.fld 21 2 (.t 1)))
 (.pure0 (some (20, true)) (.v (.load 22 true 3 (.t 21)))
 (.pure0 (some (20, true)) (.v (.build 23 [(.int .i64 0), (.int .i64 0), (.str ⟨#[]⟩)] []))
 (.pure0 (some (20, true)) (.v (.eq 24 false (.agg [(0, false, 1, .int), (1, false, 1, .int), (2, false, 1, .str)]) (.t 22) (.t 23)))
 (.pure0 (some (20, true)) (.v (.mov 25 (.t 24)))
 (.pure0 (some (25, false)) (.v (.fld 26 0 (.t 1)))
 (.pure0 (some (25, false)) (.v (.load 27 false 1 (.t 26)))
 (.pure0 (some (25, false)) (.v (.bin 28 .eql false (.t 27) (.c (.int .i64 2))))
 (.pure0 (some (20, true)) (.v (.pick 29 (.t 25) (.c (.bool true)) (.t 28)))
 (.pure0 none (.v (.pick 30 (.t 20) (.t 29) (.c (.bool false))))
 (.pure0 none (.v (.mov 2 (.t 30)))
 .done))))))))))))))))))))))))
 .stop)))))))
 .ret))
theorem ok62 : FnOk E 62 31 [.tmp 2] mc62 := .of func62 (by kernel_rfl) (by kernel_rfl) (by kernel_rfl) (by kernel_rfl) (by kernel_rfl)
/-- alum/expr.kind -/
def mc63 : MC :=
 (.seq (.ops [(none, (.e (.box 3 (.t 1)))),
 (none, (.v (.mov 4 (.c (.int .i64 0))))),
 (none, (.v (.mov 5 (.c (.int .i64 0)))))])
 (.seq (.ops [(none, (.e (.alloc 6 [(.raw (.slice none 0 0))])))])
 (.seq (.seq (.ops [(none, (.v (.fld 12 5 (.t 3)))),
 (none, (.v (.load 13 false 1 (.t 12)))),
 (none, (.p (.len 14 (.t 13)))),
 (none, (.v (.mov 15 (.c (.int .i64 0)))))])
 (.block 0 (.loop (.seq (.ops [(none, (.v (.bin 16 .lss false (.t 15) (.t 14))))])
 (.seq (.cond 16
 .skip
 (.exit 0))
 (.seq (.block 1 (.seq (.ops [(none, (.p (.idx 17 6 (.t 13) (.t 15)))),
 (none, (.v (.load 18 true 6 (.t 17)))),
 (none, (.e (.alloc 8 [(.int .i64 0), (.int .i64 0), (.int .i64 0), (.int .i64 0), (.str ⟨#[]⟩), (.raw (.slice none 0 0))]))),
 (none, (.e (.store 6 true (.t 8) (.t 18))))])
 (.seq (.ops [(none, (.v (.mov 20 (.t 0)))),
 (none, (.v (.load 21 true 6 (.t 8)))),
 (none, (.e (.call (some 22) 63 [(.t 20), (.t 21)]))),
 (none, (.v (.mov 19 (.t 22)))),
 (none, (.v (.ext 23 0 (.t 19)))),
 (none, (.v (.ext 24 1 (.t 19)))),
 (none, (.v (.mov 9 (.t 23)))),
 (none, (.v (.mov 10 (.t 24))))])
 (.seq (.seq (.ops [(none, (.v (.mov 25 (.t 10)))),
 (none, (.v (.bin 26 .neq false (.t 25) (.c (.int .i64 0)))))])
 (.cond 26
 (.seq (.ops [(none, (.v (.mov 27 (.t 10)))),
 (none, (.v (.mov 4 (.c (.int .i64 0))))),
 (none, (.v (.mov 5 (.t 27))))])
 .ret)
 .skip))
 (.ops [(none, (.v (.load 28 false 1 (.t 6)))),
 (none, (.v (.mov 29 (.t 9)))),
 (none, (.e (.mkl 30 3 1 1 (.int .i64 0) [(0, (.t 29))]))),
 (none, (.e (.app 31 3 1 8 (.t 28) (.t 30)))),
 (none, (.e (.store 1 false (.t 6) (.t 31))))])))))
 (.ops [(none, (.v (.bin 32 .add false (.t 15) (.c (.int .i64 1))))),
 (none, (.v (.mov 15 (.t 32))))])))))))
 (.seq (.ops [(none, (.v (.fn 33 (.func 89) [] [(.t 6)]))),
 (none, (.v (.mov 11 (.t 33))))])
 (.seq (.block 2 (.seq (.ops [(none, (.v (.fld 35 0 (.t 3)))),
 (none, (.v (.load 36 false 1 (.t 35)))),
 (none, (.v (.bin 37 .eql false (.t 36) (.c (.int .i64 1))))),
 (none, (.v (.mov 34 (.t 37))))])
 (.cond 34
 (.seq (.seq (.ops [(none, (.v (.fld 38 1 (.t 3)))),
 (none, (.v (.load 39 false 1 (.t 38)))),
 (none, (.v (.bin 40 .lss false (.t 39) (.c (.int .i64 0))))),
 (none, (.v (.mov 41 (.t 40)))),
 ((some (41, false)), (.v (.fld 42 1 (.t 3)))),
 ((some (41, false)), (.v (.load 43 false 1 (.t 42)))),
 ((some (41, false)), (.v (.mov 44 (.t 0)))),
 ((some (41, false)), (.p (.len 45 (.t 44)))),
 ((some (41, false)), (.v (.bin 46 .geq false (.t 43) (.t 45)))),
 (none, (.v (.pick 47 (.t 41) (.c (.bool true)) (.t 46)))),
 (none, (.v (.mov 48 (.t 47)))),
 ((some (48, false)), (.v (.mov 49 (.t 0)))),
 ((some (48, false)), (.v (.fld 50 1 (.t 3)))),
 ((some (48, false)), (.v (.load 51 false 1 (.t 50)))),
 ((some (48, false)), (.p (.idx 52 1 (.t 49) (.t 51)))),
 ((some (48, false)), (.v (.load 53 false 1 (.t 52)))),
 ((some (48, false)), (.v (.bin 54 .lss false (.t 53) (.c (.int .i64 0))))),
 (none, (.v (.pick 55 (.t 48) (.c (.bool true)) (.t 54)))),
 (none, (.v (.mov 56 (.t 55)))),
 ((some (56, false)), (.v (.mov 57 (.t 0)))),
 ((some (56, false)), (.v (.fld 58 1 (.t 3)))),
 ((some (56, false)), (.v (.load 59 false 1 (.t 58)))),
 ((some (56, false)), (.p (.idx 60 1 (.t 57) (.t 59)))),
 ((some (56, false)), (.v (.load 61 false 1 (.t 60)))),
 ((some (56, false)), (.v (.bin 62 .gtr false (.t 61) (.c (.int .i64 3))))),
 (none, (.v (.pick 63 (.t 56) (.c (.bool true)) (.t 62))))])
 (.cond 63
 (.seq (.ops [(none, (.v (.mov 4 (.c (.int .i64 0))))),
 (none, (.v (.mov 5 (.c (.int .i64 1)))))])
 .ret)
 .skip))
 (.seq (.ops [(none, (.v (.mov 64 (.t 0)))),
 (none, (.v (.fld 65 1 (.t 3)))),
 (none, (.v (.load 66 false 1 (.t 65)))),
 (none, (.p (.idx 67 1 (.t 64) (.t 66)))),
 (none, (.v (.load 68 false 1 (.t 67)))),
 (none, (.v (.mov 4 (.t 68)))),
 (none, (.v (.mov 5 (.c (.int .i64 0)))))])
 .ret))
 (.seq (.ops [(none, (.v (.fld 70 0 (.t 3)))),
 (none, (.v (.load 71 false 1 (.t 70)))),
 (none, (.v (.bin 72 .eql false (.t 71) (.c (.int .i64 2))))),
 (none, (.v (.mov 69 (.t 72))))])
 (.cond 69
 (.seq (.seq (.ops [(none, (.v (.fld 73 2 (.t 3)))),
 (none, (.v (.load 74 true 3 (.t 73)))),
 (none, (.e (.call (some 75) 92 [(.t 74)]))),
 (none, (.v (.not 76 (.t 75))))])
 (.cond 76
 (.seq (.ops [(none, (.v (.mov 4 (.c (.int .i64 0))))),
 (none, (.v (.mov 5 (.c (.int .i64 1)))))])
 .ret)
 .skip))
 (.seq (.ops [(none, (.v (.fld 77 2 (.t 3)))),
 (none, (.v (.fld 78 0 (.t 77)))),
 (none, (.v (.load 79 false 1 (.t 78)))),
 (none, (.v (.mov 4 (.t 79)))),
 (none, (.v (.mov 5 (.c (.int .i64 0)))))])
 .ret))
 (.seq (.ops [(none, (.v (.fld 81 0 (.t 3)))),
 (none, (.v (.load 82 false 1 (.t 81)))),
 (none, (.e (.call (some 83) 93 [(.t 82)]))),
 (none, (.v (.mov 80 (.t 83))))])
 (.cond 80
 (.seq (.seq (.ops [(none, (.v (.mov 84 (.t 11)))),
 (none, (.e (.callv (some 85) (.t 84) [(.c (.int .i64 1))]))),
 (none, (.v (.not 86 (.t 85))))])
 (.cond 86
 (.seq (.ops [(none, (.v (.mov 4 (.c (.int .i64 0))))),
 (none, (.v (.mov 5 (.c (.int .i64 7)))))])
 .ret)
 .skip))
 (.seq (.ops [(none, (.v (.mov 4 (.c (.int .i64 1))))),
 (none, (.v (.mov 5 (.c (.int .i64 0)))))])
 .ret))
 (.seq (.ops [(none, (.v (.fld 88 0 (.t 3)))),
 (none, (.v (.load 89 false 1 (.t 88)))),
 (none, (.e (.call (some 90) 53 [(.t 89)]))),
 (none, (.v (.mov 87 (.t 90))))])
 (.cond 87
 (.seq (.ops [(none, (.v (.mov 91 (.t 11)))),
 (none, (.v (.load 92 false 1 (.t 6)))),
 (none, (.p (.idx 93 1 (.t 92) (.c (.int .i64 0))))),
 (none, (.v (.load 94 false 1 (.t 93)))),
 (none, (.e (.callv (some 95) (.t 91) [(.t 94)]))),
 (none, (.v (.not 96 (.t 95)))),
 (none, (.v (.mov 97 (.t 96)))),
 ((some (97, true)), (.v (.mov 98 (.t 11)))),
 ((some (97, true)), (.v (.load 99 false 1 (.t 6)))),
 ((some (97, true)), (.p (.idx 100 1 (.t 99) (.c (.int .i64 1))))),
 ((some (97, true)), (.v (.load 101 false 1 (.t 100)))),
 ((some (97, true)), (.e (.callv (some 102) (.t 98) [(.t 101)]))),
 ((some (97, true)), (.v (.not 103 (.t 102)))),
 (none, (.v (.pick 104 (.t 97) (.t 103) (.c (.bool false)))))])
 (.cond 104
 (.seq (.ops [(none, (.v (.mov 4 (.c (.int .i64 0))))),
 (none, (.v (.mov 5 (.c (.int .i64 7)))))])
 .ret)
 .skip))
 (.seq (.ops [(none, (.v (.fld 106 0 (.t 3)))),
 (none, (.v (.load 107 false 1 (.t 106)))),
 (none, (.v (.bin 108 .neq false (.t 107) (.c (.int .i64 15))))),
 (none, (.v (.mov 109 (.t 108)))),
 ((some (109, true)), (.v (.mov 110 (.t 11)))),
 ((some (109, true)), (.e (.callv (some 111) (.t 110) [(.c (.int .i64 3))]))),
 ((some (109, true)), (.v (.not 112 (.t 111)))),
 (none, (.v (.pick 113 (.t 109) (.t 112) (.c (.bool false))))),
 (none, (.v (.mov 105 (.t 113))))])
 (.cond 105
 (.seq (.ops [(none, (.v (.mov 4 (.c (.int .i64 0))))),
 (none, (.v (.mov 5 (.c (.int .i64 7)))))])
 .ret)
 .skip)))))))))))
 (.seq (.ops [(none, (.v (.mov 4 (.c (.int .i64 3))))),
 (none, (.v (.mov 5 (.c (.int .i64 0)))))])
 .ret))))))
theorem ok63 : FnOk E 63 114 [.tmp 4, .tmp 5] mc63 := .of func63 (by kernel_rfl) (by kernel_rfl) (by kernel_rfl) (by kernel_rfl) (by kernel_rfl)
/-- alum/alumref36.arithmetic -/
def mc64 : MC :=
 (.seq (.ops [(none, (.v (.mov 2 (.c (.bool false)))))])
 (.seq (.ops [(none, (.v (.mov 3 (.t 0)))),
 (none, (.v (.bin 4 .geq false (.t 3) (.c (.int .i64 3))))),
 (none, (.v (.mov 5 (.t 4)))),
 ((some (5, true)), (.v (.mov 6 (.t 0)))),
 ((some (5, true)), (.v (.bin 7 .leq false (.t 6) (.c (.int .i64 5))))),
 (none, (.v (.pick 8 (.t 5) (.t 7) (.c (.bool false))))),
 (none, (.v (.mov 2 (.t 8))))])
 .ret))
theorem ok64 : FnOk E 64 9 [.tmp 2] mc64 := .of func64 (by kernel_rfl) (by kernel_rfl) (by kernel_rfl) (by kernel_rfl) (by kernel_rfl)
/-- alum/value.Compare -/
def mc66 : MC :=
 (.seq (.ops [(none, (.e (.box 2 (.t 0)))),
 (none, (.e (.box 3 (.t 1)))),
 (none, (.v (.mov 4 (.c (.int .i64 0)))))])
 (.seq (.any false (.pure0 none (.v (.fld 5 0 (.t 2)))
 (.pure0 none (.v (.load 6 false 1 (.t 5)))
 (.pure0 none (.v (.fld 7 0 (.t 3)))
 (.pure0 none (.v (.load 8 false 1 (.t 7)))
 (.pure0 none (.v (.fld 10 1 (.t 2)))
 (.pure0 none (.v (.load 11 false 1 (.t 10)))
 (.pure0 none (.v (.fld 12 1 (.t 3)))
 (.pure0 none (.v (.load 13 false 1 (.t 12)))
 (.pure0 none (.v (.fld 15 2 (.t 2)))
 (.pure0 none (.v (.load 16 false 1 (.t 15)))
 (.pure0 none (.v (.fld 17 2 (.t 3)))
 (.pure0 none (.v (.load 18 false 1 (.t 17)))
 (.alt none (.e (.call (some 9) 95 [(.t 6), (.t 8)]))
 (.base (.alt none (.e (.call (some 14) 95 [(.t 11), (.t 13)]))
 (.base (.alt none (.e (.call (some 19) 96 [(.t 16), (.t 18)]))
 (.base (.alt none (.e (.mkl 20 3 1 3 (.int .i64 0) [(0, (.t 9)), (1, (.t 14)), (2, (.t 19))]))
 (.base (.alt none (.e (.call (some 21) 94 [(.t 20)]))
 (.base (.pure0 none (.v (.mov 4 (.t 21)))
 .done))
 .stop))
 .stop))
 .stop))
 .stop))
 .stop))))))))))))))
 .ret))
theorem ok66 : FnOk E 66 22 [.tmp 4] mc66 := .of func66 (by kernel_rfl) (by kernel_rfl) (by kernel_rfl) (by kernel_rfl) (by kernel_rfl)
/-- alum/expr.bound -/
def mc67 : MC :=
 (.seq (.ops [(none, (.e (.box 2 (.t 0)))),
 (none, (.e (.box 3 (.t 1)))),
 (none, (.e (.alloc 4 [(.bool false), (.bool false), (.bool false), (.int .i64 0), (.int .i64 0), (.str ⟨#[]⟩), (.int .i64 0), (.int .i64 0), (.str ⟨#[]⟩), (.bool false), (.bool false)])))])
 (.seq (.ops [(none, (.v (.fn 7 (.func 97) [] [(.t 3)]))),
 (none, (.v (.mov 5 (.t 7))))])
 (.seq (.block 0 (.seq (.any false (.pure0 none (.v (.fld 9 0 (.t 2)))
 (.pure0 none (.v (.load 10 false 1 (.t 9)))
 (.pure0 none (.v (.bin 11 .eql false (.t 10) (.c (.int .i64 2))))
 (.pure0 none (.v (.mov 12 (.t 11)))
 (.pure0 (some (12, true)) (.v (.fld 13 2 (.t 2)))
 (.pure0 (some (12, true)) (.v (.load 14 true 3 (.t 13)))
 (.alt (some (12, true)) (.e (.call (some 15) 52 [(.c (.bool true))]))
 (.base (.pure0 (some (12, true)) (.v (.eq 16 true (.agg [(0, false, 1, .int), (1, false, 1, .int), (2, false, 1, .str)]) (.t 14) (.t 15)))
 (.pure0 none (.v (.pick 17 (.t 12) (.t 16) (.c (.bool false))))
 (.pure0 none (.v (.mov 8 (.t 17)))
 .done))))
 .stop))))))))
 (.cond 8
 (.seq (.ops [(none, (.v (.build 18 [(.bool false), (.bool false), (.bool false), (.int .i64 0), (.int .i64 0), (.str ⟨#[]⟩), (.int .i64 0), (.int .i64 0), (.str ⟨#[]⟩), (.bool false), (.bool false)] [(0, 1, (.c (.bool true)))]))),
 (none, (.e (.store 11 true (.t 4) (.t 18))))])
 .ret)
 (.seq (.ops [(none, (.v (.fld 20 0 (.t 2)))),
 (none, (.v (.load 21 false 1 (.t 20)))),
 (none, (.e (.call (some 22) 53 [(.t 21)]))),
 (none, (.v (.mov 23 (.t 22)))),
 ((some (23, true)), (.v (.fld 24 5 (.t 2)))),
 ((some (23, true)), (.v (.load 25 false 1 (.t 24)))),
 ((some (23, true)), (.p (.idx 26 6 (.t 25) (.c (.int .i64 1))))),
 ((some (23, true)), (.v (.load 27 true 6 (.t 26)))),
 ((some (23, true)), (.v (.build 28 [(.int .i64 0), (.int .i64 0), (.str ⟨#[]⟩)] []))),
 ((some (23, true)), (.e (.call (some 29) 69 [(.t 27), (.t 28)]))),
 (none, (.v (.pick 30 (.t 23) (.t 29) (.c (.bool false))))),
 (none, (.v (.mov 19 (.t 30))))])
 (.cond 19
 (.seq (.ops [(none, (.v (.build 31 [(.bool false), (.bool false), (.bool false), (.int .i64 0), (.int .i64 0), (.str ⟨#[]⟩), (.int .i64 0), (.int .i64 0), (.str ⟨#[]⟩), (.bool false), (.bool false)] [(0, 1, (.c (.bool true)))]))),
 (none, (.e (.store 11 true (.t 4) (.t 31))))])
 .ret)
 (.seq (.ops [(none, (.v (.fld 33 0 (.t 2)))),
 (none, (.v (.load 34 false 1 (.t 33)))),
 (none, (.v (.bin 35 .eql false (.t 34) (.c (.int .i64 15))))),
 (none, (.v (.mov 36 (.t 35)))),
 ((some (36, true)), (.v (.mov 37 (.t 5)))),
 ((some (36, true)), (.v (.fld 38 5 (.t 2)))),
 ((some (36, true)), (.v (.load 39 false 1 (.t 38)))),
 ((some (36, true)), (.p (.idx 40 6 (.t 39) (.c (.int .i64 0))))),
 ((some (36, true)), (.v (.load 41 true 6 (.t 40)))),
 ((some (36, true)), (.e (.callv (some 42) (.t 37) [(.t 41)]))),
 (none, (.v (.pick 43 (.t 36) (.t 42) (.c (.bool false))))),
 (none, (.v (.mov 32 (.t 43))))])
 (.cond 32
 (.seq (.ops [(none, (.v (.build 44 [(.bool false), (.bool false), (.bool false), (.int .i64 0), (.int .i64 0), (.str ⟨#[]⟩), (.int .i64 0), (.int .i64 0), (.str ⟨#[]⟩), (.bool false), (.bool false)] [(1, 1, (.c (.bool true)))]))),
 (none, (.e (.store 11 true (.t 4) (.t 44))))])
 .ret)
 (.seq (.ops [(none, (.v (.fld 46 0 (.t 2)))),
 (none, (.v (.load 47 false 1 (.t 46)))),
 (none, (.v (.bin 48 .eql false (.t 47) (.c (.int .i64 14))))),
 (none, (.v (.mov 49 (.t 48)))),
 ((some (49, true)), (.v (.fld 50 5 (.t 2)))),
 ((some (49, true)), (.v (.load 51 false 1 (.t 50)))),
 ((some (49, true)), (.p (.idx 52 6 (.t 51) (.c (.int .i64 0))))),
 ((some (49, true)), (.v (.fld 53 0 (.t 52)))),
 ((some (49, true)), (.v (.load 54 false 1 (.t 53)))),
 ((some (49, true)), (.v (.bin 55 .eql false (.t 54) (.c (.int .i64 15))))),
 (none, (.v (.pick 56 (.t 49) (.t 55) (.c (.bool false))))),
 (none, (.v (.mov 57 (.t 56)))),
 ((some (57, true)), (.v (.mov 58 (.t 5)))),
 ((some (57, true)), (.v (.fld 59 5 (.t 2)))),
 ((some (57, true)), (.v (.load 60 false 1 (.t 59)))),
 ((some (57, true)), (.p (.idx 61 6 (.t 60) (.c (.int .i64 0))))),
 ((some (57, true)), (.v (.fld 62 5 (.t 61)))),
 ((some (57, true)), (.v (.load 63 false 1 (.t 62)))),
 ((some (57, true)), (.p (.idx 64 6 (.t 63) (.c (.int .i64 0))))),
 ((some (57, true)), (.v (.load 65 true 6 (.t 64)))),
 ((some (57, true)), (.e (.callv (some 66) (.t 58) [(.t 65)]))),
 (none, (.v (.pick 67 (.t 57) (.t 66) (.c (.bool false))))),
 (none, (.v (.mov 45 (.t 67))))])
 (.cond 45
 (.seq (.ops [(none, (.v (.build 68 [(.bool false), (.bool false), (.bool false), (.int .i64 0), (.int .i64 0), (.str ⟨#[]⟩), (.int .i64 0), (.int .i64 0), (.str ⟨#[]⟩), (.bool false), (.bool false)] []))),
 (none, (.e (.store 11 true (.t 4) (.t 68))))])
 .ret)
 (.seq (.ops [(none, (.v (.fld 70 0 (.t 2)))),
 (none, (.v (.load 71 false 1 (.t 70)))),
 (none, (.e (.call (some 72) 53 [(.t 71)]))),
 (none, (.v (.not 73 (.t 72)))),
 (none, (.v (.mov 74 (.t 73)))),
 ((some (74, false)), (.v (.mov 75 (.t 5)))),
 ((some (74, false)), (.v (.fld 76 5 (.t 2)))),
 ((some (74, false)), (.v (.load 77 false 1 (.t 76)))),
 ((some (74, false)), (.p (.idx 78 6 (.t 77) (.c (.int .i64 0))))),
 ((some (74, false)), (.v (.load 79 true 6 (.t 78)))),
 ((some (74, false)), (.e (.callv (some 80) (.t 75) [(.t 79)]))),
 ((some (74, false)), (.v (.not 81 (.t 80)))),
 (none, (.v (.pick 82 (.t 74) (.c (.bool true)) (.t 81)))),
 (none, (.v (.mov 83 (.t 82)))),
 ((some (83, false)), (.v (.fld 84 5 (.t 2)))),
 ((some (83, false)), (.v (.load 85 false 1 (.t 84)))),
 ((some (83, false)), (.p (.idx 86 6 (.t 85) (.c (.int .i64 1))))),
 ((some (83, false)), (.v (.fld 87 0 (.t 86)))),
 ((some (83, false)), (.v (.load 88 false 1 (.t 87)))),
 ((some (83, false)), (.v (.bin 89 .neq false (.t 88) (.c (.int .i64 2))))),
 (none, (.v (.pick 90 (.t 83) (.c (.bool true)) (.t 89)))),
 (none, (.v (.mov 69 (.t 90))))])
 (.cond 69
 (.seq (.ops [(none, (.v (.build 91 [(.bool false), (.bool false), (.bool false), (.int .i64 0), (.int .i64 0), (.str ⟨#[]⟩), (.int .i64 0), (.int .i64 0), (.str ⟨#[]⟩), (.bool false), (.bool false)] [(2, 1, (.c (.bool true)))]))),
 (none, (.e (.store 11 true (.t 4) (.t 91))))])
 .ret)
 .skip)))))))))))
 (.seq (.ops [(none, (.v (.fld 92 5 (.t 2)))),
 (none, (.v (.load 93 false 1 (.t 92)))),
 (none, (.p (.idx 94 6 (.t 93) (.c (.int .i64 1))))),
 (none, (.v (.fld 95 2 (.t 94)))),
 (none, (.v (.load 96 true 3 (.t 95)))),
 (none, (.e (.alloc 6 [(.int .i64 0), (.int .i64 0), (.str ⟨#[]⟩)]))),
 (none, (.e (.store 3 true (.t 6) (.t 96))))])
 (.seq (.seq (.ops [(none, (.v (.fld 97 0 (.t 2)))),
 (none, (.v (.load 98 false 1 (.t 97))))])
 (.block 1 (.seq (.ops [(none, (.v (.bin 100 .eql false (.t 98) (.c (.int .i64 6))))),
 (none, (.v (.mov 99 (.t 100))))])
 (.cond 99
 (.seq (.ops [(none, (.v (.load 101 true 3 (.t 6)))),
 (none, (.v (.load 102 true 3 (.t 6)))),
 (none, (.v (.build 103 [(.bool false), (.bool false), (.bool false), (.int .i64 0), (.int .i64 0), (.str ⟨#[]⟩), (.int .i64 0), (.int .i64 0), (.str ⟨#[]⟩), (.bool false), (.bool false)] [(3, 3, (.t 101)), (6, 3, (.t 102)), (9, 1, (.c (.bool true))), (10, 1, (.c (.bool true)))]))),
 (none, (.e (.store 11 true (.t 4) (.t 103))))])
 .ret)
 (.seq (.seq (.ops [(none, (.v (.bin 105 .eql false (.t 98) (.c (.int .i64 8))))),
 (none, (.v (.mov 104 (.t 105))))])
 (.cond 104
 .skip
 (.ops [(none, (.v (.bin 106 .eql false (.t 98) (.c (.int .i64 9))))),
 (none, (.v (.mov 104 (.t 106))))])))
 (.cond 104
 (.seq (.ops [(none, (.v (.load 107 true 3 (.t 6)))),
 (none, (.v (.fld 108 0 (.t 2)))),
 (none, (.v (.load 109 false 1 (.t 108)))),
 (none, (.v (.bin 110 .eql false (.t 109) (.c (.int .i64 9))))),
 (none, (.v (.build 111 [(.bool false), (.bool false), (.bool false), (.int .i64 0), (.int .i64 0), (.str ⟨#[]⟩), (.int .i64 0), (.int .i64 0), (.str ⟨#[]⟩), (.bool false), (.bool false)] [(6, 3, (.t 107)), (10, 1, (.t 110))]))),
 (none, (.e (.store 11 true (.t 4) (.t 111))))])
 .ret)
 (.seq (.seq (.ops [(none, (.v (.bin 113 .eql false (.t 98) (.c (.int .i64 10))))),
 (none, (.v (.mov 112 (.t 113))))])
 (.cond 112
 .skip
 (.ops [(none, (.v (.bin 114 .eql false (.t 98) (.c (.int .i64 11))))),
 (none, (.v (.mov 112 (.t 114))))])))
 (.cond 112
 (.seq (.ops [(none, (.v (.load 115 true 3 (.t 6)))),
 (none, (.v (.fld 116 0 (.t 2)))),
 (none, (.v (.load 117 false 1 (.t 116)))),
 (none, (.v (.bin 118 .eql false (.t 117) (.c (.int .i64 11))))),
 (none, (.v (.build 119 [(.bool false), (.bool false), (.bool false), (.int .i64 0), (.int .i64 0), (.str ⟨#[]⟩), (.int .i64 0), (.int .i64 0), (.str ⟨#[]⟩), (.bool false), (.bool false)] [(3, 3, (.t 115)), (9, 1, (.t 118))]))),
 (none, (.e (.store 11 true (.t 4) (.t 119))))])
 .ret)
 .skip))))))))
 (.seq (.ops [(none, (.v (.build 120 [(.bool false), (.bool false), (.bool false), (.int .i64 0), (.int .i64 0), (.str ⟨#[]⟩), (.int .i64 0), (.int .i64 0), (.str ⟨#[]⟩), (.bool false), (.bool false)] [(2, 1, (.c (.bool true)))]))),
 (none, (.e (.store 11 true (.t 4) (.t 120))))])
 .ret))))))
theorem ok67 : FnOk E 67 121 [.cell 4 45] mc67 := .of func67 (by kernel_rfl) (by kernel_rfl) (by kernel_rfl) (by kernel_rfl) (by kernel_rfl)
/-- alum/expr.constant -/
def mc69 : MC :=
 (.seq (.ops [(none, (.e (.box 2 (.t 0)))),
 (none, (.e (.box 3 (.t 1)))),
 (none, (.v (.mov 4 (.c (.bool false)))))])
 (.seq (.ops [(none, (.v (.fld 5 0 (.t 2)))),
 (none, (.v (.load 6 false 1 (.t 5)))),
 (none, (.v (.bin 7 .eql false (.t 6) (.c (.int .i64 2))))),
 (none, (.v (.mov 8 (.t 7)))),
 ((some (8, true)), (.v (.fld 9 2 (.t 2)))),
 ((some (8, true)), (.v (.load 10 true 3 (.t 9)))),
 ((some (8, true)), (.v (.load 11 true 3 (.t 3)))),
 ((some (8, true)), (.v (.eq 12 false (.agg [(0, false, 1, .int), (1, false, 1, .int), (2, false, 1, .str)]) (.t 10) (.t 11)))),
 (none, (.v (.pick 13 (.t 8) (.t 12) (.c (.bool false))))),
 (none, (.v (.mov 4 (.t 13))))])
 .ret))
theorem ok69 : FnOk E 69 14 [.tmp 4] mc69 := .of func69 (by kernel_rfl) (by kernel_rfl) (by kernel_rfl) (by kernel_rfl) (by kernel_rfl)
/-- alum/expr.fails -/
def mc70 : MC :=
 (.seq (.ops [(none, (.e (.box 1 (.t 0)))),
 (none, (.e (.alloc 2 [(.bool false)])))])
 (.seq (.seq (.ops [(none, (.v (.load 4 true 6 (.t 1)))),
 (none, (.e (.call (some 5) 61 [(.t 4)])))])
 (.block 0 (.rngf (.t 5) #[6] (.ops [(none, (.e (.alloc 3 [(.int .i64 0), (.int .i64 0), (.int .i64 0), (.int .i64 0), (.str ⟨#[]⟩), (.raw (.slice none 0 0))]))),
 (none, (.e (.store 6 true (.t 3) (.t 6))))]) (.block 1 (.seq (.ops [(none, (.v (.fld 7 0 (.t 3)))),
 (none, (.v (.load 8 false 1 (.t 7)))),
 (none, (.e (.call (some 9) 93 [(.t 8)])))])
 (.cond 9
 (.seq (.ops [(none, (.e (.store 1 false (.t 2) (.c (.bool true)))))])
 .ret)
 .skip))))))
 (.seq (.ops [(none, (.e (.store 1 false (.t 2) (.c (.bool false)))))])
 .ret)))
theorem ok70 : FnOk E 70 10 [.cell 2 4] mc70 := .of func70 (by kernel_rfl) (by kernel_rfl) (by kernel_rfl) (by kernel_rfl) (by kernel_rfl)
/-- alum/expr.opposite -/
def mc71 : MC :=
 (.seq (.ops [(none, (.v (.mov 2 (.c (.int .i64 0)))))])
 (.seq (.seq (.ops [(none, (.v (.mov 3 (.t 0))))])
 (.block 0 (.seq (.ops [(none, (.v (.bin 5 .eql false (.t 3) (.c (.int .i64 6))))),
 (none, (.v (.mov 4 (.t 5))))])
 (.cond 4
 (.seq (.ops [(none, (.v (.mov 2 (.c (.int .i64 7)))))])
 .ret)
 (.seq (.ops [(none, (.v (.bin 7 .eql false (.t 3) (.c (.int .i64 7))))),
 (none, (.v (.mov 6 (.t 7))))])
 (.cond 6
 (.seq (.ops [(none, (.v (.mov 2 (.c (.int .i64 6)))))])
 .ret)
 .skip))))))
 (.seq (.ops [(none, (.v (.mov 8 (.t 0)))),
 (none, (.v (.bin 9 .sub false (.c (.int .i64 19)) (.t 8)))),
 (none, (.v (.mov 2 (.t 9))))])
 .ret)))
theorem ok71 : FnOk E 71 10 [.tmp 2] mc71 := .of func71 (by kernel_rfl) (by kernel_rfl) (by kernel_rfl) (by kernel_rfl) (by kernel_rfl)
/-- alum/expr.turned -/
def mc72 : MC :=
 (.seq (.ops [(none, (.v (.mov 2 (.c (.int .i64 0)))))])
 (.seq (.seq (.ops [(none, (.v (.mov 3 (.t 0))))])
 (.block 0 (.seq (.ops [(none, (.v (.bin 5 .eql false (.t 3) (.c (.int .i64 8))))),
 (none, (.v (.mov 4 (.t 5))))])
 (.cond 4
 (.seq (.ops [(none, (.v (.mov 2 (.c (.int .i64 10)))))])
 .ret)
 (.seq (.ops [(none, (.v (.bin 7 .eql false (.t 3) (.c (.int .i64 10))))),
 (none, (.v (.mov 6 (.t 7))))])
 (.cond 6
 (.seq (.ops [(none, (.v (.mov 2 (.c (.int .i64 8)))))])
 .ret)
 (.seq (.ops [(none, (.v (.bin 9 .eql false (.t 3) (.c (.int .i64 9))))),
 (none, (.v (.mov 8 (.t 9))))])
 (.cond 8
 (.seq (.ops [(none, (.v (.mov 2 (.c (.int .i64 11)))))])
 .ret)
 (.seq (.ops [(none, (.v (.bin 11 .eql false (.t 3) (.c (.int .i64 11))))),
 (none, (.v (.mov 10 (.t 11))))])
 (.cond 10
 (.seq (.ops [(none, (.v (.mov 2 (.c (.int .i64 9)))))])
 .ret)
 .skip))))))))))
 (.seq (.ops [(none, (.v (.mov 12 (.t 0)))),
 (none, (.v (.mov 2 (.t 12))))])
 .ret)))
theorem ok72 : FnOk E 72 13 [.tmp 2] mc72 := .of func72 (by kernel_rfl) (by kernel_rfl) (by kernel_rfl) (by kernel_rfl) (by kernel_rfl)
/-- alum/alumref36.rule -/
def mc73 : MC :=
 (.seq (.ops [(none, (.e (.box 1 (.t 0)))),
 (none, (.e (.alloc 2 [(.int .i64 0), (.int .i64 0), (.int .i64 0), (.int .i64 0), (.str ⟨#[]⟩), (.raw (.slice none 0 0))])))])
 (.seq (.ops [(none, (.v (.mov 3 (.c (.bool true)))))])
 (.seq (.seq (.ops [(none, (.v (.mov 4 (.c (.int .i64 0)))))])
 (.block 0 (.loop (.seq (.seq (.ops [(none, (.v (.mov 11 (.t 4)))),
 (none, (.v (.fld 12 5 (.t 1)))),
 (none, (.v (.load 13 false 1 (.t 12)))),
 (none, (.p (.len 14 (.t 13)))),
 (none, (.v (.bin 15 .lss false (.t 11) (.t 14))))])
 (.cond 15
 .skip
 (.exit 0)))
 (.seq (.block 1 (.ops [(none, (.v (.mov 18 (.t 3)))),
 (none, (.v (.mov 19 (.t 18)))),
 ((some (19, true)), (.v (.fld 20 5 (.t 1)))),
 ((some (19, true)), (.v (.load 21 false 1 (.t 20)))),
 ((some (19, true)), (.v (.mov 22 (.t 4)))),
 ((some (19, true)), (.p (.idx 23 6 (.t 21) (.t 22)))),
 ((some (19, true)), (.v (.fld 24 0 (.t 23)))),
 ((some (19, true)), (.v (.load 25 false 1 (.t 24)))),
 ((some (19, true)), (.v (.bin 26 .eql false (.t 25) (.c (.int .i64 2))))),
 (none, (.v (.pick 27 (.t 19) (.t 26) (.c (.bool false))))),
 (none, (.v (.mov 3 (.t 27))))]))
 (.ops [(none, (.v (.mov 16 (.t 4)))),
 (none, (.v (.bin 17 .add false (.t 16) (.c (.int .i64 1))))),
 (none, (.v (.mov 4 (.t 17))))]))))))
 (.seq (.seq (.ops [(none, (.v (.mov 28 (.t 3))))])
 (.cond 28
 (.seq (.ops [(none, (.v (.load 30 true 6 (.t 1)))),
 (none, (.e (.call (some 31) 15 [(.t 30), (.c (.raw (.slice none 0 0)))]))),
 (none, (.v (.mov 29 (.t 31)))),
 (none, (.v (.ext 32 0 (.t 29)))),
 (none, (.v (.ext 33 1 (.t 29)))),
 (none, (.e (.alloc 5 [(.int .i64 0), (.int .i64 0), (.str ⟨#[]⟩)]))),
 (none, (.e (.store 3 true (.t 5) (.t 32)))),
 (none, (.v (.mov 6 (.t 33))))])
 (.seq (.ops [(none, (.v (.mov 34 (.t 6)))),
 (none, (.v (.bin 35 .eql false (.t 34) (.c (.int .i64 0)))))])
 (.cond 35
 (.seq (.ops [(none, (.v (.load 36 true 3 (.t 5)))),
 (none, (.v (.build 37 [(.int .i64 0), (.int .i64 0), (.int .i64 0), (.int .i64 0), (.str ⟨#[]⟩), (.raw (.slice none 0 0))] [(0, 1, (.c (.int .i64 2))), (2, 3, (.t 36))]))),
 (none, (.e (.store 6 true (.t 2) (.t 37))))])
 .ret)
 .skip)))
 .skip))
 (.seq (.ops [(none, (.v (.fld 38 5 (.t 1)))),
 (none, (.v (.load 39 false 1 (.t 38)))),
 (none, (.p (.idx 40 6 (.t 39) (.c (.int .i64 0))))),
 (none, (.v (.load 41 true 6 (.t 40)))),
 (none, (.e (.alloc 7 [(.int .i64 0), (.int .i64 0), (.int .i64 0), (.int .i64 0), (.str ⟨#[]⟩), (.raw (.slice none 0 0))]))),
 (none, (.e (.store 6 true (.t 7) (.t 41))))])
 (.seq (.seq (.ops [(none, (.v (.fld 42 0 (.t 1)))),
 (none, (.v (.load 43 false 1 (.t 42)))),
 (none, (.v (.bin 44 .eql false (.t 43) (.c (.int .i64 14)))))])
 (.cond 44
 (.seq (.seq (.ops [(none, (.v (.fld 45 0 (.t 7)))),
 (none, (.v (.load 46 false 1 (.t 45)))),
 (none, (.v (.bin 47 .eql false (.t 46) (.c (.int .i64 14)))))])
 (.cond 47
 (.seq (.ops [(none, (.v (.fld 48 5 (.t 7)))),
 (none, (.v (.load 49 false 1 (.t 48)))),
 (none, (.p (.idx 50 6 (.t 49) (.c (.int .i64 0))))),
 (none, (.v (.load 51 true 6 (.t 50)))),
 (none, (.e (.store 6 true (.t 2) (.t 51))))])
 .ret)
 .skip))
 (.seq (.ops [(none, (.v (.fld 52 0 (.t 7)))),
 (none, (.v (.load 53 false 1 (.t 52)))),
 (none, (.e (.call (some 54) 58 [(.t 53)])))])
 (.cond 54
 (.seq (.any true (.pure0 none (.v (.fld 55 0 (.t 7)))
 (.pure0 none (.v (.load 56 false 1 (.t 55)))
 (.pure0 none (.v (.fld 58 5 (.t 7)))
 (.pure0 none (.v (.load 59 false 1 (.t 58)))
 (.alt none (.e (.call (some 57) 99 [(.t 56)]))
 (.pure1 none (.v (.build 60 [(.int .i64 0), (.int .i64 0), (.int .i64 0), (.int .i64 0), (.str ⟨#[]⟩), (.raw (.slice none 0 0))] [(0, 1, (.t 57)), (5, 1, (.t 59))]))
 (.alt none (.e (.store 6 true (.t 2) (.t 60)))
 .done
 .stop))
 .stop))))))
 .ret)
 .skip)))
 .skip))
 (.seq (.seq (.ops [(none, (.v (.fld 61 5 (.t 1)))),
 (none, (.v (.load 62 false 1 (.t 61)))),
 (none, (.p (.len 63 (.t 62)))),
 (none, (.v (.bin 64 .eql false (.t 63) (.c (.int .i64 1)))))])
 (.cond 64
 (.seq (.ops [(none, (.v (.load 65 true 6 (.t 1)))),
 (none, (.e (.store 6 true (.t 2) (.t 65))))])
 .ret)
 .skip))
 (.seq (.ops [(none, (.v (.fld 66 5 (.t 1)))),
 (none, (.v (.load 67 false 1 (.t 66)))),
 (none, (.p (.idx 68 6 (.t 67) (.c (.int .i64 1))))),
 (none, (.v (.load 69 true 6 (.t 68)))),
 (none, (.e (.alloc 8 [(.int .i64 0), (.int .i64 0), (.int .i64 0), (.int .i64 0), (.str ⟨#[]⟩), (.raw (.slice none 0 0))]))),
 (none, (.e (.store 6 true (.t 8) (.t 69))))])
 (.seq (.seq (.ops [(none, (.v (.fld 70 0 (.t 1)))),
 (none, (.v (.load 71 false 1 (.t 70)))),
 (none, (.v (.bin 72 .eql false (.t 71) (.c (.int .i64 12))))),
 (none, (.v (.mov 73 (.t 72)))),
 ((some (73, false)), (.v (.fld 74 0 (.t 1)))),
 ((some (73, false)), (.v (.load 75 false 1 (.t 74)))),
 ((some (73, false)), (.v (.bin 76 .eql false (.t 75) (.c (.int .i64 13))))),
 (none, (.v (.pick 77 (.t 73) (.c (.bool true)) (.t 76))))])
 (.cond 77
 (.seq (.seq (.any false (.pure0 none (.v (.load 78 true 6 (.t 7)))
 (.pure0 none (.v (.fld 79 0 (.t 1)))
 (.pure0 none (.v (.load 80 false 1 (.t 79)))
 (.pure0 none (.v (.bin 81 .eql false (.t 80) (.c (.int .i64 12))))
 (.alt none (.e (.call (some 82) 44 [(.t 81)]))
 (.base (.alt none (.e (.call (some 83) 100 [(.t 78), (.t 82)]))
 (.base .done)
 .stop))
 .stop))))))
 (.cond 83
 (.seq (.ops [(none, (.v (.load 84 true 6 (.t 8)))),
 (none, (.e (.store 6 true (.t 2) (.t 84))))])
 .ret)
 .skip))
 (.seq (.seq (.any false (.pure0 none (.v (.load 85 true 6 (.t 8)))
 (.pure0 none (.v (.fld 86 0 (.t 1)))
 (.pure0 none (.v (.load 87 false 1 (.t 86)))
 (.pure0 none (.v (.bin 88 .eql false (.t 87) (.c (.int .i64 12))))
 (.alt none (.e (.call (some 89) 44 [(.t 88)]))
 (.base (.alt none (.e (.call (some 90) 100 [(.t 85), (.t 89)]))
 (.base .done)
 .stop))
 .stop))))))
 (.cond 90
 (.seq (.ops [(none, (.v (.load 91 true 6 (.t 7)))),
 (none, (.e (.store 6 true (.t 2) (.t 91))))])
 .ret)
 .skip))
 (.seq (.seq (.any false (.pure0 none (.v (.load 92 true 6 (.t 7)))
 (.pure0 none (.v (.fld 93 0 (.t 1)))
 (.pure0 none (.v (.load 94 false 1 (.t 93)))
 (.pure0 none (.v (.bin 95 .eql false (.t 94) (.c (.int .i64 13))))
 (.alt none (.e (.call (some 96) 44 [(.t 95)]))
 (.base (.alt none (.e (.call (some 97) 100 [(.t 92), (.t 96)]))
 (.base (.pure0 none (.v (.mov 98 (.t 97)))
 (.pure0 (some (98, true)) (.v (.load 99 true 6 (.t 8)))
 (.alt (some (98, true)) (.e (.call (some 100) 20 [(.t 99)]))
 (.base (.pure0 (some (98, true)) (.v (.not 101 (.t 100)))
 (.pure0 none (.v (.pick 102 (.t 98) (.t 101) (.c (.bool false))))
 .done)))
 .stop))))
 .stop))
 .stop))))))
 (.cond 102
 (.seq (.ops [(none, (.v (.load 103 true 6 (.t 7)))),
 (none, (.e (.store 6 true (.t 2) (.t 103))))])
 .ret)
 .skip))
 (.seq (.any false (.pure0 none (.v (.load 104 true 6 (.t 8)))
 (.pure0 none (.v (.fld 105 0 (.t 1)))
 (.pure0 none (.v (.load 106 false 1 (.t 105)))
 (.pure0 none (.v (.bin 107 .eql false (.t 106) (.c (.int .i64 13))))
 (.alt none (.e (.call (some 108) 44 [(.t 107)]))
 (.base (.alt none (.e (.call (some 109) 100 [(.t 104), (.t 108)]))
 (.base (.pure0 none (.v (.mov 110 (.t 109)))
 (.pure0 (some (110, true)) (.v (.load 111 true 6 (.t 7)))
 (.alt (some (110, true)) (.e (.call (some 112) 20 [(.t 111)]))
 (.base (.pure0 (some (110, true)) (.v (.not 113 (.t 112)))
 (.pure0 none (.v (.pick 114 (.t 110) (.t 113) (.c (.bool false))))
 .done)))
 .stop))))
 .stop))
 .stop))))))
 (.cond 114
 (.seq (.ops [(none, (.v (.load 115 true 6 (.t 8)))),
 (none, (.e (.store 6 true (.t 2) (.t 115))))])
 .ret)
 .skip)))))
 .skip))
 (.seq (.seq (.ops [(none, (.v (.fld 116 0 (.t 1)))),
 (none, (.v (.load 117 false 1 (.t 116)))),
 (none, (.e (.call (some 118) 58 [(.t 117)]))),
 (none, (.v (.mov 119 (.t 118)))),
 ((some (119, true)), (.v (.fld 120 0 (.t 7)))),
 ((some (119, true)), (.v (.load 121 false 1 (.t 120)))),
 ((some (119, true)), (.v (.bin 122 .eql false (.t 121) (.c (.int .i64 2))))),
 (none, (.v (.pick 123 (.t 119) (.t 122) (.c (.bool false)))))])
 (.cond 123
 (.seq (.any true (.pure0 none (.v (.fld 124 0 (.t 1)))
 (.pure0 none (.v (.load 125 false 1 (.t 124)))
 (.pure0 none (.v (.load 127 true 6 (.t 8)))
 (.pure0 none (.v (.load 128 true 6 (.t 7)))
 (.alt none (.e (.call (some 126) 101 [(.t 125)]))
 (.alt none (.e (.mkl 129 27 6 2 (.agg [(.int .i64 0), (.int .i64 0), (.int .i64 0), (.int .i64 0), (.str ⟨#[]⟩), (.raw (.slice none 0 0))]) [(0, (.t 127)), (1, (.t 128))]))
 (.pure1 none (.v (.build 130 [(.int .i64 0), (.int .i64 0), (.int .i64 0), (.int .i64 0), (.str ⟨#[]⟩), (.raw (.slice none 0 0))] [(0, 1, (.t 126)), (5, 1, (.t 129))]))
 (.alt none (.e (.store 6 true (.t 2) (.t 130)))
 .done
 .stop))
 .stop)
 (.alt none (.e (.mkl 129 27 6 2 (.agg [(.int .i64 0), (.int .i64 0), (.int .i64 0), (.int .i64 0), (.str ⟨#[]⟩), (.raw (.slice none 0 0))]) [(0, (.t 127)), (1, (.t 128))]))
 (.alt none (.e (.call (some 126) 101 [(.t 125)]))
 (.pure1 none (.v (.build 130 [(.int .i64 0), (.int .i64 0), (.int .i64 0), (.int .i64 0), (.str ⟨#[]⟩), (.raw (.slice none 0 0))] [(0, 1, (.t 126)), (5, 1, (.t 129))]))
 (.alt none (.e (.store 6 true (.t 2) (.t 130)))
 .done
 .stop))
 .stop)
 .stop)))))))
 .ret)
 .skip))
 (.seq (.ops [(none, (.v (.build 131 [(.int .i64 0), (.int .i64 0), (.str ⟨#[]⟩)] [(0, 1, (.c (.int .i64 1)))]))),
 (none, (.e (.alloc 9 [(.int .i64 0), (.int .i64 0), (.str ⟨#[]⟩)]))),
 (none, (.e (.store 3 true (.t 9) (.t 131))))])
 (.seq (.ops [(none, (.v (.build 132 [(.int .i64 0), (.int .i64 0), (.str ⟨#[]⟩)] [(0, 1, (.c (.int .i64 1))), (1, 1, (.c (.int .i64 1)))]))),
 (none, (.e (.alloc 10 [(.int .i64 0), (.int .i64 0), (.str ⟨#[]⟩)]))),
 (none, (.e (.store 3 true (.t 10) (.t 132))))])
 (.seq (.seq (.ops [(none, (.v (.fld 133 0 (.t 1)))),
 (none, (.v (.load 134 false 1 (.t 133)))),
 (none, (.v (.bin 135 .eql false (.t 134) (.c (.int .i64 3))))),
 (none, (.v (.mov 136 (.t 135)))),
 ((some (136, false)), (.v (.fld 137 0 (.t 1)))),
 ((some (136, false)), (.v (.load 138 false 1 (.t 137)))),
 ((some (136, false)), (.v (.bin 139 .eql false (.t 138) (.c (.int .i64 4))))),
 (none, (.v (.pick 140 (.t 136) (.c (.bool true)) (.t 139)))),
 (none, (.v (.mov 141 (.t 140)))),
 ((some (141, true)), (.v (.load 142 true 6 (.t 8)))),
 ((some (141, true)), (.v (.load 143 true 3 (.t 9)))),
 ((some (141, true)), (.e (.call (some 144) 100 [(.t 142), (.t 143)]))),
 (none, (.v (.pick 145 (.t 141) (.t 144) (.c (.bool false))))),
 (none, (.v (.mov 146 (.t 145)))),
 ((some (146, false)), (.v (.fld 147 0 (.t 1)))),
 ((some (146, false)), (.v (.load 148 false 1 (.t 147)))),
 ((some (146, false)), (.v (.bin 149 .eql false (.t 148) (.c (.int .i64 5))))),
 ((some (146, false)), (.v (.mov 150 (.t 149)))),
 ((some (150, true)), (.v (.load 151 true 6 (.t 8)))),
 ((some (150, true)), (.v (.load 152 true 3 (.t 10)))),
 ((some (150, true)), (.e (.call (some 153) 100 [(.t 151), (.t 152)]))),
 ((some (146, false)), (.v (.pick 154 (.t 150) (.t 153) (.c (.bool false))))),
 (none, (.v (.pick 155 (.t 146) (.c (.bool true)) (.t 154))))])
 (.cond 155
 (.seq (.ops [(none, (.v (.load 156 true 6 (.t 7)))),
 (none, (.e (.store 6 true (.t 2) (.t 156))))])
 .ret)
 .skip))
 (.seq (.seq (.ops [(none, (.v (.fld 157 0 (.t 1)))),
 (none, (.v (.load 158 false 1 (.t 157)))),
 (none, (.v (.bin 159 .eql false (.t 158) (.c (.int .i64 3))))),
 (none, (.v (.mov 160 (.t 159)))),
 ((some (160, true)), (.v (.load 161 true 6 (.t 7)))),
 ((some (160, true)), (.v (.load 162 true 3 (.t 9)))),
 ((some (160, true)), (.e (.call (some 163) 100 [(.t 161), (.t 162)]))),
 (none, (.v (.pick 164 (.t 160) (.t 163) (.c (.bool false))))),
 (none, (.v (.mov 165 (.t 164)))),
 ((some (165, false)), (.v (.fld 166 0 (.t 1)))),
 ((some (165, false)), (.v (.load 167 false 1 (.t 166)))),
 ((some (165, false)), (.v (.bin 168 .eql false (.t 167) (.c (.int .i64 5))))),
 ((some (165, false)), (.v (.mov 169 (.t 168)))),
 ((some (169, true)), (.v (.load 170 true 6 (.t 7)))),
 ((some (169, true)), (.v (.load 171 true 3 (.t 10)))),
 ((some (169, true)), (.e (.call (some 172) 100 [(.t 170), (.t 171)]))),
 ((some (165, false)), (.v (.pick 173 (.t 169) (.t 172) (.c (.bool false))))),
 (none, (.v (.pick 174 (.t 165) (.c (.bool true)) (.t 173))))])
 (.cond 174
 (.seq (.ops [(none, (.v (.load 175 true 6 (.t 8)))),
 (none, (.e (.store 6 true (.t 2) (.t 175))))])
 .ret)
 .skip))
 (.seq (.ops [(none, (.v (.load 176 true 6 (.t 1)))),
 (none, (.e (.store 6 true (.t 2) (.t 176))))])
 .ret)))))))))))))))
theorem ok73 : FnOk E 73 177 [.cell 2 27] mc73 := .of func73 (by kernel_rfl) (by kernel_rfl) (by kernel_rfl) (by kernel_rfl) (by kernel_rfl)
/-- slices.EqualFunc[[]alum/api.Expr,[]alum/api.Expr,alum/api.Expr,alum/api.Expr] -/
def mc74 : MC :=
 (.seq (.ops [(none, (.v (.mov 6 (.c (.bool false)))))])
 (.seq (.seq (.ops [(none, (.v (.mov 10 (.t 0)))),
 (none, (.p (.len 11 (.t 10)))),
 (none, (.v (.mov 12 (.t 1)))),
 (none, (.p (.len 13 (.t 12)))),
 (none, (.v (.bin 14 .neq false (.t 11) (.t 13))))])
 (.cond 14
 (.seq (.ops [(none, (.v (.mov 6 (.c (.bool false)))))])
 .ret)
 .skip))
 (.seq (.seq (.ops [(none, (.v (.mov 15 (.t 0)))),
 (none, (.p (.len 16 (.t 15)))),
 (none, (.v (.mov 17 (.c (.int .i64 0)))))])
 (.block 0 (.loop (.seq (.ops [(none, (.v (.bin 18 .lss false (.t 17) (.t 16))))])
 (.seq (.cond 18
 .skip
 (.exit 0))
 (.seq (.block 1 (.seq (.ops [(none, (.v (.mov 19 (.t 17)))),
 (none, (.p (.idx 20 6 (.t 15) (.t 17)))),
 (none, (.v (.load 21 true 6 (.t 20)))),
 (none, (.e (.alloc 8 [(.int .i64 0), (.int .i64 0), (.int .i64 0), (.int .i64 0), (.str ⟨#[]⟩), (.raw (.slice none 0 0))]))),
 (none, (.v (.mov 7 (.t 19)))),
 (none, (.e (.store 6 true (.t 8) (.t 21))))])
 (.seq (.ops [(none, (.v (.mov 22 (.t 1)))),
 (none, (.v (.mov 23 (.t 7)))),
 (none, (.p (.idx 24 6 (.t 22) (.t 23)))),
 (none, (.v (.load 25 true 6 (.t 24)))),
 (none, (.e (.alloc 9 [(.int .i64 0), (.int .i64 0), (.int .i64 0), (.int .i64 0), (.str ⟨#[]⟩), (.raw (.slice none 0 0))]))),
 (none, (.e (.store 6 true (.t 9) (.t 25))))])
 (.seq (.ops [(none, (.v (.mov 26 (.t 2)))),
 (none, (.v (.load 27 true 6 (.t 8)))),
 (none, (.v (.load 28 true 6 (.t 9)))),
 (none, (.e (.callv (some 29) (.t 26) [(.t 27), (.t 28)]))),
 (none, (.v (.not 30 (.t 29))))])
 (.cond 30
 (.seq (.ops [(none, (.v (.mov 6 (.c (.bool false)))))])
 .ret)
 .skip)))))
 (.ops [(none, (.v (.bin 31 .add false (.t 17) (.c (.int .i64 1))))),
 (none, (.v (.mov 17 (.t 31))))])))))))
 (.seq (.ops [(none, (.v (.mov 6 (.c (.bool true)))))])
 .ret))))
theorem ok74 : FnOk E 74 32 [.tmp 6] mc74 := .of func74 (by kernel_rfl) (by kernel_rfl) (by kernel_rfl) (by kernel_rfl) (by kernel_rfl)
/-- alum/alumref36.formed -/
def mc75 : MC :=
 (.seq (.ops [(none, (.e (.box 1 (.t 0)))),
 (none, (.v (.mov 2 (.c (.bool false)))))])
 (.seq (.seq (.any false (.pure0 none (.v (.fld 5 5 (.t 1)))
 (.pure0 none (.v (.load 6 false 1 (.t 5)))
 (.pure0 none (.p (.len 7 (.t 6)))
 (.pure0 none (.v (.fld 8 0 (.t 1)))
 (.pure0 none (.v (.load 9 false 1 (.t 8)))
 (.alt none (.e (.call (some 10) 102 [(.t 9)]))
 (.base (.pure0 none (.v (.bin 11 .neq false (.t 7) (.t 10)))
 (.pure0 none (.v (.mov 12 (.t 11)))
 (.pure0 (some (12, false)) (.v (.fld 13 1 (.t 1)))
 (.pure0 (some (12, false)) (.v (.load 14 false 1 (.t 13)))
 (.pure0 (some (12, false)) (.v (.bin 15 .neq false (.t 14) (.c (.int .i64 0))))
 (.pure0 (some (12, false)) (.v (.mov 16 (.t 15)))
 (.pure0 (some (16, true)) (.v (.fld 17 0 (.t 1)))
 (.pure0 (some (16, true)) (.v (.load 18 false 1 (.t 17)))
 (.pure0 (some (16, true)) (.v (.bin 19 .neq false (.t 18) (.c (.int .i64 1))))
 (.pure0 (some (12, false)) (.v (.pick 20 (.t 16) (.t 19) (.c (.bool false))))
 (.pure0 none (.v (.pick 21 (.t 12) (.c (.bool true)) (.t 20)))
 (.pure0 none (.v (.mov 22 (.t 21)))
 (.pure0 (some (22, false)) (.v (.fld 23 2 (.t 1)))
 (.pure0 (some (22, false)) (.v (.load 24 true 3 (.t 23)))
 (.pure0 (some (22, false)) (.v (.build 25 [(.int .i64 0), (.int .i64 0), (.str ⟨#[]⟩)] []))
 (.pure0 (some (22, false)) (.v (.eq 26 true (.agg [(0, false, 1, .int), (1, false, 1, .int), (2, false, 1, .str)]) (.t 24) (.t 25)))
 (.pure0 (some (22, false)) (.v (.mov 27 (.t 26)))
 (.pure0 (some (27, true)) (.v (.fld 28 0 (.t 1)))
 (.pure0 (some (27, true)) (.v (.load 29 false 1 (.t 28)))
 (.pure0 (some (27, true)) (.v (.bin 30 .neq false (.t 29) (.c (.int .i64 2))))
 (.pure0 (some (22, false)) (.v (.pick 31 (.t 27) (.t 30) (.c (.bool false))))
 (.pure0 none (.v (.pick 32 (.t 22) (.c (.bool true)) (.t 31)))
 .done)))))))))))))))))))))))
 .stop)))))))
 (.cond 32
 (.seq (.ops [(none, (.v (.mov 2 (.c (.bool false)))))])
 .ret)
 .skip))
 (.seq (.seq (.ops [(none, (.v (.mov 3 (.c (.int .i64 0)))))])
 (.block 0 (.loop (.seq (.seq (.ops [(none, (.v (.mov 33 (.t 3)))),
 (none, (.v (.fld 34 5 (.t 1)))),
 (none, (.v (.load 35 false 1 (.t 34)))),
 (none, (.p (.len 36 (.t 35)))),
 (none, (.v (.bin 37 .lss false (.t 33) (.t 36))))])
 (.cond 37
 .skip
 (.exit 0)))
 (.seq (.block 1 (.seq (.ops [(none, (.v (.fld 40 5 (.t 1)))),
 (none, (.v (.load 41 false 1 (.t 40)))),
 (none, (.v (.mov 42 (.t 3)))),
 (none, (.p (.idx 43 6 (.t 41) (.t 42)))),
 (none, (.v (.load 44 true 6 (.t 43)))),
 (none, (.e (.call (some 45) 75 [(.t 44)]))),
 (none, (.v (.mov 4 (.t 45))))])
 (.seq (.ops [(none, (.v (.mov 46 (.t 4)))),
 (none, (.v (.not 47 (.t 46))))])
 (.cond 47
 (.seq (.ops [(none, (.v (.mov 2 (.c (.bool false)))))])
 .ret)
 .skip))))
 (.ops [(none, (.v (.mov 38 (.t 3)))),
 (none, (.v (.bin 39 .add false (.t 38) (.c (.int .i64 1))))),
 (none, (.v (.mov 3 (.t 39))))]))))))
 (.seq (.ops [(none, (.v (.mov 2 (.c (.bool true)))))])
 .ret))))
theorem ok75 : FnOk E 75 48 [.tmp 2] mc75 := .of func75 (by kernel_rfl) (by kernel_rfl) (by kernel_rfl) (by kernel_rfl) (by kernel_rfl)
/-- alum/alumref36.kind -/
def mc76 : MC :=
 (.seq (.ops [(none, (.e (.box 3 (.t 1)))),
 (none, (.v (.mov 4 (.c (.int .i64 0))))),
 (none, (.v (.mov 5 (.c (.int .i64 0)))))])
 (.seq (.ops [(none, (.v (.mov 6 (.c (.raw (.slice none 0 0))))))])
 (.seq (.seq (.ops [(none, (.v (.mov 7 (.c (.int .i64 0)))))])
 (.block 0 (.loop (.seq (.seq (.ops [(none, (.v (.mov 13 (.t 7)))),
 (none, (.v (.fld 14 5 (.t 3)))),
 (none, (.v (.load 15 false 1 (.t 14)))),
 (none, (.p (.len 16 (.t 15)))),
 (none, (.v (.bin 17 .lss false (.t 13) (.t 16))))])
 (.cond 17
 .skip
 (.exit 0)))
 (.seq (.block 1 (.seq (.ops [(none, (.v (.mov 21 (.t 0)))),
 (none, (.v (.fld 22 5 (.t 3)))),
 (none, (.v (.load 23 false 1 (.t 22)))),
 (none, (.v (.mov 24 (.t 7)))),
 (none, (.p (.idx 25 6 (.t 23) (.t 24)))),
 (none, (.v (.load 26 true 6 (.t 25)))),
 (none, (.e (.call (some 27) 76 [(.t 21), (.t 26)]))),
 (none, (.v (.mov 20 (.t 27)))),
 (none, (.v (.ext 28 0 (.t 20)))),
 (none, (.v (.ext 29 1 (.t 20)))),
 (none, (.v (.mov 8 (.t 28)))),
 (none, (.v (.mov 9 (.t 29))))])
 (.seq (.seq (.ops [(none, (.v (.mov 30 (.t 9)))),
 (none, (.v (.bin 31 .neq false (.t 30) (.c (.int .i64 0)))))])
 (.cond 31
 (.seq (.ops [(none, (.v (.mov 32 (.t 9)))),
 (none, (.v (.mov 4 (.c (.int .i64 0))))),
 (none, (.v (.mov 5 (.t 32))))])
 .ret)
 .skip))
 (.ops [(none, (.v (.mov 33 (.t 6)))),
 (none, (.v (.mov 34 (.t 8)))),
 (none, (.e (.mkl 35 3 1 1 (.int .i64 0) [(0, (.t 34))]))),
 (none, (.e (.app 36 3 1 8 (.t 33) (.t 35)))),
 (none, (.v (.mov 6 (.t 36))))]))))
 (.ops [(none, (.v (.mov 18 (.t 7)))),
 (none, (.v (.bin 19 .add false (.t 18) (.c (.int .i64 1))))),
 (none, (.v (.mov 7 (.t 19))))]))))))
 (.seq (.seq (.ops [(none, (.v (.fld 37 0 (.t 3)))),
 (none, (.v (.load 38 false 1 (.t 37)))),
 (none, (.v (.bin 39 .eql false (.t 38) (.c (.int .i64 1)))))])
 (.cond 39
 (.seq (.seq (.ops [(none, (.v (.fld 40 1 (.t 3)))),
 (none, (.v (.load 41 false 1 (.t 40)))),
 (none, (.v (.bin 42 .lss false (.t 41) (.c (.int .i64 0))))),
 (none, (.v (.mov 43 (.t 42)))),
 ((some (43, false)), (.v (.fld 44 1 (.t 3)))),
 ((some (43, false)), (.v (.load 45 false 1 (.t 44)))),
 ((some (43, false)), (.v (.mov 46 (.t 0)))),
 ((some (43, false)), (.p (.len 47 (.t 46)))),
 ((some (43, false)), (.v (.bin 48 .geq false (.t 45) (.t 47)))),
 (none, (.v (.pick 49 (.t 43) (.c (.bool true)) (.t 48)))),
 (none, (.v (.mov 50 (.t 49)))),
 ((some (50, false)), (.v (.mov 51 (.t 0)))),
 ((some (50, false)), (.v (.fld 52 1 (.t 3)))),
 ((some (50, false)), (.v (.load 53 false 1 (.t 52)))),
 ((some (50, false)), (.p (.idx 54 1 (.t 51) (.t 53)))),
 ((some (50, false)), (.v (.load 55 false 1 (.t 54)))),
 ((some (50, false)), (.v (.bin 56 .lss false (.t 55) (.c (.int .i64 0))))),
 (none, (.v (.pick 57 (.t 50) (.c (.bool true)) (.t 56)))),
 (none, (.v (.mov 58 (.t 57)))),
 ((some (58, false)), (.v (.mov 59 (.t 0)))),
 ((some (58, false)), (.v (.fld 60 1 (.t 3)))),
 ((some (58, false)), (.v (.load 61 false 1 (.t 60)))),
 ((some (58, false)), (.p (.idx 62 1 (.t 59) (.t 61)))),
 ((some (58, false)), (.v (.load 63 false 1 (.t 62)))),
 ((some (58, false)), (.v (.bin 64 .gtr false (.t 63) (.c (.int .i64 3))))),
 (none, (.v (.pick 65 (.t 58) (.c (.bool true)) (.t 64))))])
 (.cond 65
 (.seq (.ops [(none, (.v (.mov 4 (.c (.int .i64 0))))),
 (none, (.v (.mov 5 (.c (.int .i64 1)))))])
 .ret)
 .skip))
 (.seq (.ops [(none, (.v (.mov 66 (.t 0)))),
 (none, (.v (.fld 67 1 (.t 3)))),
 (none, (.v (.load 68 false 1 (.t 67)))),
 (none, (.p (.idx 69 1 (.t 66) (.t 68)))),
 (none, (.v (.load 70 false 1 (.t 69)))),
 (none, (.v (.mov 4 (.t 70)))),
 (none, (.v (.mov 5 (.c (.int .i64 0)))))])
 .ret))
 .skip))
 (.seq (.seq (.ops [(none, (.v (.fld 71 0 (.t 3)))),
 (none, (.v (.load 72 false 1 (.t 71)))),
 (none, (.v (.bin 73 .eql false (.t 72) (.c (.int .i64 2)))))])
 (.cond 73
 (.seq (.ops [(none, (.v (.fld 74 2 (.t 3)))),
 (none, (.v (.load 75 true 3 (.t 74)))),
 (none, (.e (.call (some 76) 21 [(.t 75)]))),
 (none, (.v (.mov 10 (.t 76))))])
 (.seq (.seq (.ops [(none, (.v (.mov 77 (.t 10)))),
 (none, (.v (.not 78 (.t 77))))])
 (.cond 78
 (.seq (.ops [(none, (.v (.mov 4 (.c (.int .i64 0))))),
 (none, (.v (.mov 5 (.c (.int .i64 1)))))])
 .ret)
 .skip))
 (.seq (.ops [(none, (.v (.fld 79 2 (.t 3)))),
 (none, (.v (.fld 80 0 (.t 79)))),
 (none, (.v (.load 81 false 1 (.t 80)))),
 (none, (.v (.mov 4 (.t 81)))),
 (none, (.v (.mov 5 (.c (.int .i64 0)))))])
 .ret)))
 .skip))
 (.seq (.seq (.ops [(none, (.v (.fld 82 0 (.t 3)))),
 (none, (.v (.load 83 false 1 (.t 82)))),
 (none, (.e (.call (some 84) 58 [(.t 83)])))])
 (.cond 84
 (.seq (.seq (.any false (.pure0 none (.v (.mov 85 (.t 6)))
 (.pure0 none (.p (.idx 86 1 (.t 85) (.c (.int .i64 0))))
 (.pure0 none (.v (.load 87 false 1 (.t 86)))
 (.pure0 none (.v (.mov 88 (.t 6)))
 (.pure0 none (.p (.idx 89 1 (.t 88) (.c (.int .i64 1))))
 (.pure0 none (.v (.load 90 false 1 (.t 89)))
 (.pure0 none (.v (.bin 91 .neq false (.t 87) (.t 90)))
 (.pure0 none (.v (.mov 92 (.t 91)))
 (.pure0 (some (92, true)) (.v (.mov 93 (.t 6)))
 (.pure0 (some (92, true)) (.p (.idx 94 1 (.t 93) (.c (.int .i64 0))))
 (.pure0 (some (92, true)) (.v (.load 95 false 1 (.t 94)))
 (.pure0 (some (92, true)) (.v (.bin 96 .neq false (.t 95) (.c (.int .i64 0))))
 (.pure0 none (.v (.pick 97 (.t 92) (.t 96) (.c (.bool false))))
 (.pure0 none (.v (.mov 98 (.t 97)))
 (.pure0 (some (98, true)) (.v (.mov 99 (.t 6)))
 (.pure0 (some (98, true)) (.p (.idx 100 1 (.t 99) (.c (.int .i64 1))))
 (.pure0 (some (98, true)) (.v (.load 101 false 1 (.t 100)))
 (.pure0 (some (98, true)) (.v (.bin 102 .neq false (.t 101) (.c (.int .i64 0))))
 (.pure0 none (.v (.pick 103 (.t 98) (.t 102) (.c (.bool false))))
 .done))))))))))))))))))))
 (.cond 103
 (.seq (.ops [(none, (.v (.mov 4 (.c (.int .i64 0))))),
 (none, (.v (.mov 5 (.c (.int .i64 7)))))])
 .ret)
 .skip))
 (.seq (.ops [(none, (.v (.mov 4 (.c (.int .i64 3))))),
 (none, (.v (.mov 5 (.c (.int .i64 0)))))])
 .ret))
 .skip))
 (.seq (.seq (.ops [(none, (.v (.fld 104 0 (.t 3)))),
 (none, (.v (.load 105 false 1 (.t 104)))),
 (none, (.v (.bin 106 .eql false (.t 105) (.c (.int .i64 15)))))])
 (.cond 106
 (.seq (.ops [(none, (.v (.mov 4 (.c (.int .i64 3))))),
 (none, (.v (.mov 5 (.c (.int .i64 0)))))])
 .ret)
 .skip))
 (.seq (.ops [(none, (.v (.mov 11 (.c (.int .i64 3)))))])
 (.seq (.seq (.ops [(none, (.v (.fld 107 0 (.t 3)))),
 (none, (.v (.load 108 false 1 (.t 107)))),
 (none, (.e (.call (some 109) 64 [(.t 108)])))])
 (.cond 109
 (.ops [(none, (.v (.mov 11 (.c (.int .i64 1)))))])
 .skip))
 (.seq (.seq (.ops [(none, (.v (.mov 12 (.c (.int .i64 0)))))])
 (.block 2 (.loop (.seq (.seq (.ops [(none, (.v (.mov 110 (.t 12)))),
 (none, (.v (.mov 111 (.t 6)))),
 (none, (.p (.len 112 (.t 111)))),
 (none, (.v (.bin 113 .lss false (.t 110) (.t 112))))])
 (.cond 113
 .skip
 (.exit 2)))
 (.seq (.block 3 (.seq (.ops [(none, (.v (.mov 116 (.t 6)))),
 (none, (.v (.mov 117 (.t 12)))),
 (none, (.p (.idx 118 1 (.t 116) (.t 117)))),
 (none, (.v (.load 119 false 1 (.t 118)))),
 (none, (.v (.mov 120 (.t 11)))),
 (none, (.v (.bin 121 .neq false (.t 119) (.t 120)))),
 (none, (.v (.mov 122 (.t 121)))),
 ((some (122, true)), (.v (.mov 123 (.t 6)))),
 ((some (122, true)), (.v (.mov 124 (.t 12)))),
 ((some (122, true)), (.p (.idx 125 1 (.t 123) (.t 124)))),
 ((some (122, true)), (.v (.load 126 false 1 (.t 125)))),
 ((some (122, true)), (.v (.bin 127 .neq false (.t 126) (.c (.int .i64 0))))),
 (none, (.v (.pick 128 (.t 122) (.t 127) (.c (.bool false)))))])
 (.cond 128
 (.seq (.ops [(none, (.v (.mov 4 (.c (.int .i64 0))))),
 (none, (.v (.mov 5 (.c (.int .i64 7)))))])
 .ret)
 .skip)))
 (.ops [(none, (.v (.mov 114 (.t 12)))),
 (none, (.v (.bin 115 .add false (.t 114) (.c (.int .i64 1))))),
 (none, (.v (.mov 12 (.t 115))))]))))))
 (.seq (.ops [(none, (.v (.mov 129 (.t 11)))),
 (none, (.v (.mov 4 (.t 129)))),
 (none, (.v (.mov 5 (.c (.int .i64 0)))))])
 .ret)))))))))))
theorem ok76 : FnOk E 76 130 [.tmp 4, .tmp 5] mc76 := .of func76 (by kernel_rfl) (by kernel_rfl) (by kernel_rfl) (by kernel_rfl) (by kernel_rfl)
/-- alum/value.decide -/
def mc80 : MC :=
 (.seq (.ops [(none, (.e (.alloc 4 [(.int .i64 0), (.int .i64 0), (.str ⟨#[]⟩)]))),
 (none, (.v (.mov 5 (.c (.int .i64 0)))))])
 (.seq (.block 0 (.seq (.ops [(none, (.v (.mov 7 (.t 1)))),
 (none, (.e (.call (some 8) 81 [(.t 7)]))),
 (none, (.v (.not 9 (.t 8)))),
 (none, (.v (.mov 6 (.t 9))))])
 (.cond 6
 (.seq (.ops [(none, (.v (.build 10 [(.int .i64 0), (.int .i64 0), (.str ⟨#[]⟩)] []))),
 (none, (.e (.store 3 true (.t 4) (.t 10)))),
 (none, (.v (.mov 5 (.c (.int .i64 7)))))])
 .ret)
 (.seq (.ops [(none, (.v (.mov 12 (.t 1)))),
 (none, (.v (.mov 13 (.t 0)))),
 (none, (.e (.call (some 14) 82 [(.t 13)]))),
 (none, (.e (.call (some 15) 105 [(.t 12), (.t 14)]))),
 (none, (.v (.mov 11 (.t 15))))])
 (.cond 11
 (.seq (.ops [(none, (.v (.mov 16 (.t 0)))),
 (none, (.e (.call (some 17) 82 [(.t 16)]))),
 (none, (.e (.store 3 true (.t 4) (.t 17)))),
 (none, (.v (.mov 5 (.c (.int .i64 0)))))])
 .ret)
 (.seq (.ops [(none, (.v (.mov 19 (.t 1)))),
 (none, (.v (.build 20 [(.int .i64 0), (.int .i64 0), (.str ⟨#[]⟩)] []))),
 (none, (.e (.call (some 21) 105 [(.t 19), (.t 20)]))),
 (none, (.v (.mov 18 (.t 21))))])
 (.cond 18
 (.seq (.ops [(none, (.v (.build 22 [(.int .i64 0), (.int .i64 0), (.str ⟨#[]⟩)] []))),
 (none, (.e (.store 3 true (.t 4) (.t 22)))),
 (none, (.v (.mov 5 (.c (.int .i64 0)))))])
 .ret)
 .skip)))))))
 (.seq (.ops [(none, (.v (.mov 23 (.t 0)))),
 (none, (.v (.not 24 (.t 23)))),
 (none, (.e (.call (some 25) 82 [(.t 24)]))),
 (none, (.e (.store 3 true (.t 4) (.t 25)))),
 (none, (.v (.mov 5 (.c (.int .i64 0)))))])
 .ret)))
theorem ok80 : FnOk E 80 26 [.cell 4 24, .tmp 5] mc80 := .of func80 (by kernel_rfl) (by kernel_rfl) (by kernel_rfl) (by kernel_rfl) (by kernel_rfl)
/-- alum/value.logical -/
def mc81 : MC :=
 (.seq (.ops [(none, (.v (.mov 2 (.c (.bool false)))))])
 (.seq (.ops [(none, (.v (.mov 3 (.t 0)))),
 (none, (.e (.call (some 4) 106 [(.t 3), (.c (.fn (.func 107) [] []))]))),
 (none, (.v (.not 5 (.t 4)))),
 (none, (.v (.mov 2 (.t 5))))])
 .ret))
theorem ok81 : FnOk E 81 6 [.tmp 2] mc81 := .of func81 (by kernel_rfl) (by kernel_rfl) (by kernel_rfl) (by kernel_rfl) (by kernel_rfl)
/-- alum/value.truth -/
def mc82 : MC :=
 (.seq (.ops [(none, (.e (.alloc 2 [(.int .i64 0), (.int .i64 0), (.str ⟨#[]⟩)])))])
 (.seq (.ops [(none, (.v (.build 4 [(.int .i64 0), (.int .i64 0), (.str ⟨#[]⟩)] [(0, 1, (.c (.int .i64 3)))]))),
 (none, (.e (.alloc 3 [(.int .i64 0), (.int .i64 0), (.str ⟨#[]⟩)]))),
 (none, (.e (.store 3 true (.t 3) (.t 4))))])
 (.seq (.seq (.ops [(none, (.v (.mov 5 (.t 0))))])
 (.cond 5
 (.ops [(none, (.v (.fld 6 1 (.t 3)))),
 (none, (.e (.store 1 false (.t 6) (.c (.int .i64 1)))))])
 .skip))
 (.seq (.ops [(none, (.v (.load 7 true 3 (.t 3)))),
 (none, (.e (.store 3 true (.t 2) (.t 7))))])
 .ret))))
theorem ok82 : FnOk E 82 8 [.cell 2 24] mc82 := .of func82 (by kernel_rfl) (by kernel_rfl) (by kernel_rfl) (by kernel_rfl) (by kernel_rfl)
/-- alum/alumref19.logical -/
def mc83 : MC :=
 (.seq (.ops [(none, (.e (.box 1 (.t 0)))),
 (none, (.v (.mov 2 (.c (.bool false)))))])
 (.seq (.ops [(none, (.v (.fld 3 0 (.t 1)))),
 (none, (.v (.load 4 false 1 (.t 3)))),
 (none, (.v (.bin 5 .eql false (.t 4) (.c (.int .i64 0))))),
 (none, (.v (.mov 6 (.t 5)))),
 ((some (6, false)), (.v (.fld 7 0 (.t 1)))),
 ((some (6, false)), (.v (.load 8 false 1 (.t 7)))),
 ((some (6, false)), (.v (.bin 9 .eql false (.t 8) (.c (.int .i64 3))))),
 (none, (.v (.pick 10 (.t 6) (.c (.bool true)) (.t 9)))),
 (none, (.v (.mov 2 (.t 10))))])
 .ret))
theorem ok83 : FnOk E 83 11 [.tmp 2] mc83 := .of func83 (by kernel_rfl) (by kernel_rfl) (by kernel_rfl) (by kernel_rfl) (by kernel_rfl)
/-- alum/alumref19.Compare -/
def mc84 : MC :=
 (.seq (.ops [(none, (.e (.box 2 (.t 0)))),
 (none, (.e (.box 3 (.t 1)))),
 (none, (.v (.mov 4 (.c (.int .i64 0)))))])
 (.seq (.seq (.ops [(none, (.v (.fld 5 0 (.t 2)))),
 (none, (.v (.load 6 false 1 (.t 5)))),
 (none, (.v (.fld 7 0 (.t 3)))),
 (none, (.v (.load 8 false 1 (.t 7)))),
 (none, (.v (.bin 9 .neq false (.t 6) (.t 8))))])
 (.cond 9
 (.seq (.ops [(none, (.v (.fld 10 0 (.t 2)))),
 (none, (.v (.load 11 false 1 (.t 10)))),
 (none, (.v (.fld 12 0 (.t 3)))),
 (none, (.v (.load 13 false 1 (.t 12)))),
 (none, (.e (.call (some 14) 108 [(.t 11), (.t 13)]))),
 (none, (.v (.mov 4 (.t 14))))])
 .ret)
 .skip))
 (.seq (.seq (.ops [(none, (.v (.fld 15 2 (.t 2)))),
 (none, (.v (.load 16 false 1 (.t 15)))),
 (none, (.v (.fld 17 2 (.t 3)))),
 (none, (.v (.load 18 false 1 (.t 17)))),
 (none, (.v (.bin 19 .lss false (.t 16) (.t 18))))])
 (.cond 19
 (.seq (.ops [(none, (.v (.mov 4 (.c (.int .i64 (-1))))))])
 .ret)
 .skip))
 (.seq (.seq (.ops [(none, (.v (.fld 20 2 (.t 2)))),
 (none, (.v (.load 21 false 1 (.t 20)))),
 (none, (.v (.fld 22 2 (.t 3)))),
 (none, (.v (.load 23 false 1 (.t 22)))),
 (none, (.v (.bin 24 .gtr false (.t 21) (.t 23))))])
 (.cond 24
 (.seq (.ops [(none, (.v (.mov 4 (.c (.int .i64 1)))))])
 .ret)
 .skip))
 (.seq (.ops [(none, (.v (.fld 25 1 (.t 2)))),
 (none, (.v (.load 26 false 1 (.t 25)))),
 (none, (.v (.fld 27 1 (.t 3)))),
 (none, (.v (.load 28 false 1 (.t 27)))),
 (none, (.e (.call (some 29) 108 [(.t 26), (.t 28)]))),
 (none, (.v (.mov 4 (.t 29))))])
 .ret)))))
theorem ok84 : FnOk E 84 30 [.tmp 4] mc84 := .of func84 (by kernel_rfl) (by kernel_rfl) (by kernel_rfl) (by kernel_rfl) (by kernel_rfl)
/-- alum/alumref36.abs -/
def mc85 : MC :=
 (.seq (.ops [(none, (.v (.mov 2 (.c (.int .i64 0)))))])
 (.seq (.seq (.ops [(none, (.v (.mov 3 (.t 0)))),
 (none, (.v (.bin 4 .lss false (.t 3) (.c (.int .i64 0)))))])
 (.cond 4
 (.seq (.ops [(none, (.v (.mov 5 (.t 0)))),
 (none, (.v (.neg 6 (.t 5)))),
 (none, (.v (.mov 2 (.t 6))))])
 .ret)
 .skip))
 (.seq (.ops [(none, (.v (.mov 7 (.t 0)))),
 (none, (.v (.mov 2 (.t 7))))])
 .ret)))
theorem ok85 : FnOk E 85 8 [.tmp 2] mc85 := .of func85 (by kernel_rfl) (by kernel_rfl) (by kernel_rfl) (by kernel_rfl) (by kernel_rfl)
/-- alum/expr.nodes$1 -/
def mc86 : MC :=
 (.ops [(none, (.v (.load 3 true 6 (.t 1)))),
 (none, (.v (.mov 4 (.t 0)))),
 (none, (.e (.call (some 5) 87 [(.t 3), (.t 4)])))])
theorem ok86 : FnOk E 86 6 [] mc86 := .of func86 (by kernel_rfl) (by kernel_rfl) (by kernel_rfl) (by kernel_rfl) (by kernel_rfl)
/-- alum/expr.visit -/
def mc87 : MC :=
 (.seq (.ops [(none, (.e (.box 2 (.t 0)))),
 (none, (.v (.mov 4 (.c (.bool false)))))])
 (.seq (.seq (.ops [(none, (.v (.mov 7 (.t 1)))),
 (none, (.v (.load 8 true 6 (.t 2)))),
 (none, (.e (.callv (some 9) (.t 7) [(.t 8)]))),
 (none, (.v (.not 10 (.t 9))))])
 (.cond 10
 (.seq (.ops [(none, (.v (.mov 4 (.c (.bool false)))))])
 .ret)
 .skip))
 (.seq (.seq (.ops [(none, (.v (.fld 11 5 (.t 2)))),
 (none, (.v (.load 12 false 1 (.t 11)))),
 (none, (.p (.len 13 (.t 12)))),
 (none, (.v (.mov 14 (.c (.int .i64 0)))))])
 (.block 0 (.loop (.seq (.ops [(none, (.v (.bin 15 .lss false (.t 14) (.t 13))))])
 (.seq (.cond 15
 .skip
 (.exit 0))
 (.seq (.block 1 (.seq (.ops [(none, (.p (.idx 16 6 (.t 12) (.t 14)))),
 (none, (.v (.load 17 true 6 (.t 16)))),
 (none, (.e (.alloc 6 [(.int .i64 0), (.int .i64 0), (.int .i64 0), (.int .i64 0), (.str ⟨#[]⟩), (.raw (.slice none 0 0))]))),
 (none, (.e (.store 6 true (.t 6) (.t 17))))])
 (.seq (.ops [(none, (.v (.load 18 true 6 (.t 6)))),
 (none, (.v (.mov 19 (.t 1)))),
 (none, (.e (.call (some 20) 87 [(.t 18), (.t 19)]))),
 (none, (.v (.not 21 (.t 20))))])
 (.cond 21
 (.seq (.ops [(none, (.v (.mov 4 (.c (.bool false)))))])
 .ret)
 .skip))))
 (.ops [(none, (.v (.bin 22 .add false (.t 14) (.c (.int .i64 1))))),
 (none, (.v (.mov 14 (.t 22))))])))))))
 (.seq (.ops [(none, (.v (.mov 4 (.c (.bool true)))))])
 .ret))))
theorem ok87 : FnOk E 87 23 [.tmp 4] mc87 := .of func87 (by kernel_rfl) (by kernel_rfl) (by kernel_rfl) (by kernel_rfl) (by kernel_rfl)
/-- alum/expr.arity -/
def mc88 : MC :=
 (.seq (.ops [(none, (.v (.mov 2 (.c (.int .i64 0)))))])
 (.seq (.block 0 (.seq (.ops [(none, (.v (.mov 4 (.t 0)))),
 (none, (.v (.bin 5 .eql false (.t 4) (.c (.int .i64 1))))),
 (none, (.v (.mov 6 (.t 5)))),
 ((some (6, false)), (.v (.mov 7 (.t 0)))),
 ((some (6, false)), (.v (.bin 8 .eql false (.t 7) (.c (.int .i64 2))))),
 (none, (.v (.pick 9 (.t 6) (.c (.bool true)) (.t 8)))),
 (none, (.v (.mov 3 (.t 9))))])
 (.cond 3
 (.seq (.ops [(none, (.v (.mov 2 (.c (.int .i64 0)))))])
 .ret)
 (.seq (.ops [(none, (.v (.mov 11 (.t 0)))),
 (none, (.v (.bin 12 .eql false (.t 11) (.c (.int .i64 14))))),
 (none, (.v (.mov 13 (.t 12)))),
 ((some (13, false)), (.v (.mov 14 (.t 0)))),
 ((some (13, false)), (.v (.bin 15 .eql false (.t 14) (.c (.int .i64 15))))),
 (none, (.v (.pick 16 (.t 13) (.c (.bool true)) (.t 15)))),
 (none, (.v (.mov 10 (.t 16))))])
 (.cond 10
 (.seq (.ops [(none, (.v (.mov 2 (.c (.int .i64 1)))))])
 .ret)
 (.seq (.ops [(none, (.v (.mov 18 (.t 0)))),
 (none, (.v (.bin 19 .gtr false (.t 18) (.c (.int .i64 2))))),
 (none, (.v (.mov 20 (.t 19)))),
 ((some (20, true)), (.v (.mov 21 (.t 0)))),
 ((some (20, true)), (.v (.bin 22 .lss false (.t 21) (.c (.int .i64 14))))),
 (none, (.v (.pick 23 (.t 20) (.t 22) (.c (.bool false))))),
 (none, (.v (.mov 17 (.t 23))))])
 (.cond 17
 (.seq (.ops [(none, (.v (.mov 2 (.c (.int .i64 2)))))])
 .ret)
 .skip)))))))
 (.seq (.ops [(none, (.v (.mov 2 (.c (.int .i64 (-1))))))])
 .ret)))
theorem ok88 : FnOk E 88 24 [.tmp 2] mc88 := .of func88 (by kernel_rfl) (by kernel_rfl) (by kernel_rfl) (by kernel_rfl) (by kernel_rfl)
/-- alum/expr.kind$1 -/
def mc89 : MC :=
 (.seq (.ops [(none, (.e (.box 2 (.t 0)))),
 (none, (.v (.mov 3 (.c (.bool false)))))])
 (.seq (.ops [(none, (.v (.load 4 false 1 (.t 1)))),
 (none, (.v (.fn 5 (.func 91) [] [(.t 2)]))),
 (none, (.e (.call (some 6) 90 [(.t 4), (.t 5)]))),
 (none, (.v (.not 7 (.t 6)))),
 (none, (.v (.mov 3 (.t 7))))])
 .ret))
theorem ok89 : FnOk E 89 8 [.tmp 3] mc89 := .of func89 (by kernel_rfl) (by kernel_rfl) (by kernel_rfl) (by kernel_rfl) (by kernel_rfl)
/-- slices.ContainsFunc[[]int,int] -/
def mc90 : MC :=
 (.seq (.ops [(none, (.v (.mov 4 (.c (.bool false)))))])
 (.seq (.ops [(none, (.v (.mov 5 (.t 0)))),
 (none, (.v (.mov 6 (.t 1)))),
 (none, (.e (.call (some 7) 109 [(.t 5), (.t 6)]))),
 (none, (.v (.bin 8 .geq false (.t 7) (.c (.int .i64 0))))),
 (none, (.v (.mov 4 (.t 8))))])
 .ret))
theorem ok90 : FnOk E 90 9 [.tmp 4] mc90 := .of func90 (by kernel_rfl) (by kernel_rfl) (by kernel_rfl) (by kernel_rfl) (by kernel_rfl)
/-- alum/expr.kind$1$1 -/
def mc91 : MC :=
 (.seq (.ops [(none, (.v (.mov 3 (.c (.bool false)))))])
 (.seq (.ops [(none, (.v (.mov 4 (.t 0)))),
 (none, (.v (.load 5 false 1 (.t 1)))),
 (none, (.v (.bin 6 .neq false (.t 4) (.t 5)))),
 (none, (.v (.mov 7 (.t 6)))),
 ((some (7, true)), (.v (.mov 8 (.t 0)))),
 ((some (7, true)), (.v (.bin 9 .neq false (.t 8) (.c (.int .i64 0))))),
 (none, (.v (.pick 10 (.t 7) (.t 9) (.c (.bool false))))),
 (none, (.v (.mov 3 (.t 10))))])
 .ret))
theorem ok91 : FnOk E 91 11 [.tmp 3] mc91 := .of func91 (by kernel_rfl) (by kernel_rfl) (by kernel_rfl) (by kernel_rfl) (by kernel_rfl)
/-- alum/value.Right -/
def mc92 : MC :=
 (.seq (.ops [(none, (.e (.box 1 (.t 0)))),
 (none, (.v (.mov 2 (.c (.bool false)))))])
 (.seq (.seq (.ops [(none, (.v (.fld 3 0 (.t 1)))),
 (none, (.v (.load 4 false 1 (.t 3))))])
 (.block 0 (.seq (.ops [(none, (.v (.bin 6 .eql false (.t 4) (.c (.int .i64 0))))),
 (none, (.v (.mov 5 (.t 6))))])
 (.cond 5
 (.seq (.ops [(none, (.v (.load 7 true 3 (.t 1)))),
 (none, (.v (.build 8 [(.int .i64 0), (.int .i64 0), (.str ⟨#[]⟩)] []))),
 (none, (.v (.eq 9 false (.agg [(0, false, 1, .int), (1, false, 1, .int), (2, false, 1, .str)]) (.t 7) (.t 8)))),
 (none, (.v (.mov 2 (.t 9))))])
 .ret)
 (.seq (.ops [(none, (.v (.bin 11 .eql false (.t 4) (.c (.int .i64 1))))),
 (none, (.v (.mov 10 (.t 11))))])
 (.cond 10
 (.seq (.ops [(none, (.v (.fld 12 1 (.t 1)))),
 (none, (.v (.load 13 false 1 (.t 12)))),
 (none, (.v (.bin 14 .geq false (.t 13) (.c (.int .i64 (-549755813888)))))),
 (none, (.v (.mov 15 (.t 14)))),
 ((some (15, true)), (.v (.fld 16 1 (.t 1)))),
 ((some (15, true)), (.v (.load 17 false 1 (.t 16)))),
 ((some (15, true)), (.v (.bin 18 .leq false (.t 17) (.c (.int .i64 549755813887))))),
 (none, (.v (.pick 19 (.t 15) (.t 18) (.c (.bool false))))),
 (none, (.v (.mov 20 (.t 19)))),
 ((some (20, true)), (.v (.fld 21 2 (.t 1)))),
 ((some (20, true)), (.v (.load 22 false 1 (.t 21)))),
 ((some (20, true)), (.v (.bin 23 .eql false (.t 22) (.c (.str ⟨#[]⟩))))),
 (none, (.v (.pick 24 (.t 20) (.t 23) (.c (.bool false))))),
 (none, (.v (.mov 2 (.t 24))))])
 .ret)
 (.seq (.ops [(none, (.v (.bin 26 .eql false (.t 4) (.c (.int .i64 2))))),
 (none, (.v (.mov 25 (.t 26))))])
 (.cond 25
 (.seq (.ops [(none, (.v (.fld 27 1 (.t 1)))),
 (none, (.v (.load 28 false 1 (.t 27)))),
 (none, (.v (.bin 29 .eql false (.t 28) (.c (.int .i64 0))))),
 (none, (.v (.mov 30 (.t 29)))),
 ((some (30, true)), (.v (.fld 31 2 (.t 1)))),
 ((some (30, true)), (.v (.load 32 false 1 (.t 31)))),
 ((some (30, true)), (.p (.slen 33 (.t 32)))),
 ((some (30, true)), (.v (.bin 34 .leq false (.t 33) (.c (.int .i64 40))))),
 (none, (.v (.pick 35 (.t 30) (.t 34) (.c (.bool false))))),
 (none, (.v (.mov 2 (.t 35))))])
 .ret)
 (.seq (.ops [(none, (.v (.bin 37 .eql false (.t 4) (.c (.int .i64 3))))),
 (none, (.v (.mov 36 (.t 37))))])
 (.cond 36
 (.seq (.ops [(none, (.v (.fld 38 1 (.t 1)))),
 (none, (.v (.load 39 false 1 (.t 38)))),
 (none, (.v (.bin 40 .andNot false (.t 39) (.c (.int .i64 1))))),
 (none, (.v (.bin 41 .eql false (.t 40) (.c (.int .i64 0))))),
 (none, (.v (.mov 42 (.t 41)))),
 ((some (42, true)), (.v (.fld 43 2 (.t 1)))),
 ((some (42, true)), (.v (.load 44 false 1 (.t 43)))),
 ((some (42, true)), (.v (.bin 45 .eql false (.t 44) (.c (.str ⟨#[]⟩))))),
 (none, (.v (.pick 46 (.t 42) (.t 45) (.c (.bool false))))),
 (none, (.v (.mov 2 (.t 46))))])
 .ret)
 .skip))))))))))
 (.seq (.ops [(none, (.v (.mov 2 (.c (.bool false)))))])
 .ret)))
theorem ok92 : FnOk E 92 47 [.tmp 2] mc92 := .of func92 (by kernel_rfl) (by kernel_rfl) (by kernel_rfl) (by kernel_rfl) (by kernel_rfl)
/-- alum/expr.arithmetic -/
def mc93 : MC :=
 (.seq (.ops [(none, (.v (.mov 2 (.c (.bool false)))))])
 (.seq (.ops [(none, (.v (.mov 3 (.t 0)))),
 (none, (.v (.bin 4 .geq false (.t 3) (.c (.int .i64 3))))),
 (none, (.v (.mov 5 (.t 4)))),
 ((some (5, true)), (.v (.mov 6 (.t 0)))),
 ((some (5, true)), (.v (.bin 7 .leq false (.t 6) (.c (.int .i64 5))))),
 (none, (.v (.pick 8 (.t 5) (.t 7) (.c (.bool false))))),
 (none, (.v (.mov 2 (.t 8))))])
 .ret))
theorem ok93 : FnOk E 93 9 [.tmp 2] mc93 := .of func93 (by kernel_rfl) (by kernel_rfl) (by kernel_rfl) (by kernel_rfl) (by kernel_rfl)
/-- cmp.Or[int] -/
def mc94 : MC :=
 (.seq (.ops [(none, (.v (.mov 2 (.c (.int .i64 0)))))])
 (.seq (.ops [(none, (.v (.mov 3 (.c (.int .i64 0)))))])
 (.seq (.seq (.ops [(none, (.v (.mov 6 (.t 0)))),
 (none, (.p (.len 7 (.t 6)))),
 (none, (.v (.mov 8 (.c (.int .i64 0)))))])
 (.block 0 (.loop (.seq (.ops [(none, (.v (.bin 9 .lss false (.t 8) (.t 7))))])
 (.seq (.cond 9
 .skip
 (.exit 0))
 (.seq (.block 1 (.seq (.ops [(none, (.p (.idx 10 1 (.t 6) (.t 8)))),
 (none, (.v (.load 11 false 1 (.t 10)))),
 (none, (.v (.mov 5 (.t 11))))])
 (.seq (.ops [(none, (.v (.mov 12 (.t 5)))),
 (none, (.v (.mov 13 (.t 3)))),
 (none, (.v (.bin 14 .neq false (.t 12) (.t 13))))])
 (.cond 14
 (.seq (.ops [(none, (.v (.mov 15 (.t 5)))),
 (none, (.v (.mov 2 (.t 15))))])
 .ret)
 .skip))))
 (.ops [(none, (.v (.bin 16 .add false (.t 8) (.c (.int .i64 1))))),
 (none, (.v (.mov 8 (.t 16))))])))))))
 (.seq (.ops [(none, (.v (.mov 17 (.t 3)))),
 (none, (.v (.mov 2 (.t 17))))])
 .ret))))
theorem ok94 : FnOk E 94 18 [.tmp 2] mc94 := .of func94 (by kernel_rfl) (by kernel_rfl) (by kernel_rfl) (by kernel_rfl) (by kernel_rfl)
/-- cmp.Compare[int] -/
def mc95 : MC :=
 (.seq (.ops [(none, (.v (.mov 4 (.c (.int .i64 0)))))])
 (.seq (.ops [(none, (.v (.mov 7 (.t 0)))),
 (none, (.e (.call (some 8) 110 [(.t 7)]))),
 (none, (.v (.mov 5 (.t 8))))])
 (.seq (.ops [(none, (.v (.mov 9 (.t 1)))),
 (none, (.e (.call (some 10) 110 [(.t 9)]))),
 (none, (.v (.mov 6 (.t 10))))])
 (.seq (.seq (.ops [(none, (.v (.mov 11 (.t 5))))])
 (.cond 11
 (.seq (.seq (.ops [(none, (.v (.mov 12 (.t 6))))])
 (.cond 12
 (.seq (.ops [(none, (.v (.mov 4 (.c (.int .i64 0)))))])
 .ret)
 .skip))
 (.seq (.ops [(none, (.v (.mov 4 (.c (.int .i64 (-1))))))])
 .ret))
 .skip))
 (.seq (.seq (.ops [(none, (.v (.mov 13 (.t 6))))])
 (.cond 13
 (.seq (.ops [(none, (.v (.mov 4 (.c (.int .i64 1)))))])
 .ret)
 .skip))
 (.seq (.seq (.ops [(none, (.v (.mov 14 (.t 0)))),
 (none, (.v (.mov 15 (.t 1)))),
 (none, (.v (.bin 16 .lss false (.t 14) (.t 15))))])
 (.cond 16
 (.seq (.ops [(none, (.v (.mov 4 (.c (.int .i64 (-1))))))])
 .ret)
 .skip))
 (.seq (.seq (.ops [(none, (.v (.mov 17 (.t 0)))),
 (none, (.v (.mov 18 (.t 1)))),
 (none, (.v (.bin 19 .gtr false (.t 17) (.t 18))))])
 (.cond 19
 (.seq (.ops [(none, (.v (.mov 4 (.c (.int .i64 1)))))])
 .ret)
 .skip))
 (.seq (.ops [(none, (.v (.mov 4 (.c (.int .i64 0)))))])
 .ret))))))))
theorem ok95 : FnOk E 95 20 [.tmp 4] mc95 := .of func95 (by kernel_rfl) (by kernel_rfl) (by kernel_rfl) (by kernel_rfl) (by kernel_rfl)
/-- strings.Compare -/
def mc96 : MC :=
 (.seq (.ops [(none, (.v (.mov 4 (.c (.int .i64 0)))))])
 (.seq (.ops [(none, (.v (.mov 5 (.t 0)))),
 (none, (.v (.mov 6 (.t 1)))),
 (none, (.e (.call (some 7) 111 [(.t 5), (.t 6)]))),
 (none, (.v (.mov 4 (.t 7))))])
 .ret))
theorem ok96 : FnOk E 96 8 [.tmp 4] mc96 := .of func96 (by kernel_rfl) (by kernel_rfl) (by kernel_rfl) (by kernel_rfl) (by kernel_rfl)
/-- alum/expr.bound$1 -/
def mc97 : MC :=
 (.seq (.ops [(none, (.e (.box 2 (.t 0)))),
 (none, (.v (.mov 3 (.c (.bool false)))))])
 (.seq (.ops [(none, (.v (.fld 4 0 (.t 2)))),
 (none, (.v (.load 5 false 1 (.t 4)))),
 (none, (.v (.bin 6 .eql false (.t 5) (.c (.int .i64 1))))),
 (none, (.v (.mov 7 (.t 6)))),
 ((some (7, true)), (.v (.fld 8 1 (.t 2)))),
 ((some (7, true)), (.v (.load 9 false 1 (.t 8)))),
 ((some (7, true)), (.v (.load 10 false 1 (.t 1)))),
 ((some (7, true)), (.v (.bin 11 .eql false (.t 9) (.t 10)))),
 (none, (.v (.pick 12 (.t 7) (.t 11) (.c (.bool false))))),
 (none, (.v (.mov 3 (.t 12))))])
 .ret))
theorem ok97 : FnOk E 97 13 [.tmp 3] mc97 := .of func97 (by kernel_rfl) (by kernel_rfl) (by kernel_rfl) (by kernel_rfl) (by kernel_rfl)
/-- alum/alumref36.opposite -/
def mc99 : MC :=
 (.seq (.ops [(none, (.v (.mov 2 (.c (.int .i64 0)))))])
 (.seq (.ops [(none, (.e (.mkl 4 3 1 6 (.int .i64 0) [(0, (.c (.int .i64 7))), (1, (.c (.int .i64 6))), (2, (.c (.int .i64 11))), (3, (.c (.int .i64 10))), (4, (.c (.int .i64 9))), (5, (.c (.int .i64 8)))]))),
 (none, (.v (.mov 3 (.t 4))))])
 (.seq (.ops [(none, (.v (.mov 5 (.t 3)))),
 (none, (.v (.mov 6 (.t 0)))),
 (none, (.v (.bin 7 .sub false (.t 6) (.c (.int .i64 6))))),
 (none, (.p (.idx 8 1 (.t 5) (.t 7)))),
 (none, (.v (.load 9 false 1 (.t 8)))),
 (none, (.v (.mov 2 (.t 9))))])
 .ret)))
theorem ok99 : FnOk E 99 10 [.tmp 2] mc99 := .of func99 (by kernel_rfl) (by kernel_rfl) (by kernel_rfl) (by kernel_rfl) (by kernel_rfl)
/-- alum/alumref36.is -/
def mc100 : MC :=
 (.seq (.ops [(none, (.e (.box 2 (.t 0)))),
 (none, (.e (.box 3 (.t 1)))),
 (none, (.v (.mov 4 (.c (.bool false)))))])
 (.seq (.ops [(none, (.v (.fld 5 0 (.t 2)))),
 (none, (.v (.load 6 false 1 (.t 5)))),
 (none, (.v (.bin 7 .eql false (.t 6) (.c (.int .i64 2))))),
 (none, (.v (.mov 8 (.t 7)))),
 ((some (8, true)), (.v (.fld 9 2 (.t 2)))),
 ((some (8, true)), (.v (.load 10 true 3 (.t 9)))),
 ((some (8, true)), (.v (.load 11 true 3 (.t 3)))),
 ((some (8, true)), (.v (.eq 12 false (.agg [(0, false, 1, .int), (1, false, 1, .int), (2, false, 1, .str)]) (.t 10) (.t 11)))),
 (none, (.v (.pick 13 (.t 8) (.t 12) (.c (.bool false))))),
 (none, (.v (.mov 4 (.t 13))))])
 .ret))
theorem ok100 : FnOk E 100 14 [.tmp 4] mc100 := .of func100 (by kernel_rfl) (by kernel_rfl) (by kernel_rfl) (by kernel_rfl) (by kernel_rfl)
/-- alum/alumref36.exchanged -/
def mc101 : MC :=
 (.seq (.ops [(none, (.v (.mov 2 (.c (.int .i64 0)))))])
 (.seq (.ops [(none, (.e (.mkl 4 3 1 6 (.int .i64 0) [(0, (.c (.int .i64 6))), (1, (.c (.int .i64 7))), (2, (.c (.int .i64 10))), (3, (.c (.int .i64 11))), (4, (.c (.int .i64 8))), (5, (.c (.int .i64 9)))]))),
 (none, (.v (.mov 3 (.t 4))))])
 (.seq (.ops [(none, (.v (.mov 5 (.t 3)))),
 (none, (.v (.mov 6 (.t 0)))),
 (none, (.v (.bin 7 .sub false (.t 6) (.c (.int .i64 6))))),
 (none, (.p (.idx 8 1 (.t 5) (.t 7)))),
 (none, (.v (.load 9 false 1 (.t 8)))),
 (none, (.v (.mov 2 (.t 9))))])
 .ret)))
theorem ok101 : FnOk E 101 10 [.tmp 2] mc101 := .of func101 (by kernel_rfl) (by kernel_rfl) (by kernel_rfl) (by kernel_rfl) (by kernel_rfl)
/-- alum/alumref36.args -/
def mc102 : MC :=
 (.seq (.ops [(none, (.v (.mov 2 (.c (.int .i64 0)))))])
 (.seq (.seq (.ops [(none, (.v (.mov 3 (.t 0)))),
 (none, (.v (.bin 4 .eql false (.t 3) (.c (.int .i64 1))))),
 (none, (.v (.mov 5 (.t 4)))),
 ((some (5, false)), (.v (.mov 6 (.t 0)))),
 ((some (5, false)), (.v (.bin 7 .eql false (.t 6) (.c (.int .i64 2))))),
 (none, (.v (.pick 8 (.t 5) (.c (.bool true)) (.t 7))))])
 (.cond 8
 (.seq (.ops [(none, (.v (.mov 2 (.c (.int .i64 0)))))])
 .ret)
 .skip))
 (.seq (.seq (.ops [(none, (.v (.mov 9 (.t 0)))),
 (none, (.v (.bin 10 .eql false (.t 9) (.c (.int .i64 14))))),
 (none, (.v (.mov 11 (.t 10)))),
 ((some (11, false)), (.v (.mov 12 (.t 0)))),
 ((some (11, false)), (.v (.bin 13 .eql false (.t 12) (.c (.int .i64 15))))),
 (none, (.v (.pick 14 (.t 11) (.c (.bool true)) (.t 13))))])
 (.cond 14
 (.seq (.ops [(none, (.v (.mov 2 (.c (.int .i64 1)))))])
 .ret)
 .skip))
 (.seq (.seq (.ops [(none, (.v (.mov 15 (.t 0)))),
 (none, (.v (.bin 16 .geq false (.t 15) (.c (.int .i64 3))))),
 (none, (.v (.mov 17 (.t 16)))),
 ((some (17, true)), (.v (.mov 18 (.t 0)))),
 ((some (17, true)), (.v (.bin 19 .leq false (.t 18) (.c (.int .i64 13))))),
 (none, (.v (.pick 20 (.t 17) (.t 19) (.c (.bool false)))))])
 (.cond 20
 (.seq (.ops [(none, (.v (.mov 2 (.c (.int .i64 2)))))])
 .ret)
 .skip))
 (.seq (.ops [(none, (.v (.mov 2 (.c (.int .i64 (-1))))))])
 .ret)))))
theorem ok102 : FnOk E 102 21 [.tmp 2] mc102 := .of func102 (by kernel_rfl) (by kernel_rfl) (by kernel_rfl) (by kernel_rfl) (by kernel_rfl)
/-- slices.Contains[[]alum/api.Value,alum/api.Value] -/
def mc105 : MC :=
 (.seq (.ops [(none, (.e (.box 3 (.t 1)))),
 (none, (.v (.mov 4 (.c (.bool false)))))])
 (.seq (.ops [(none, (.v (.mov 5 (.t 0)))),
 (none, (.v (.load 6 true 3 (.t 3)))),
 (none, (.e (.call (some 7) 123 [(.t 5), (.t 6)]))),
 (none, (.v (.bin 8 .geq false (.t 7) (.c (.int .i64 0))))),
 (none, (.v (.mov 4 (.t 8))))])
 .ret))
theorem ok105 : FnOk E 105 9 [.tmp 4] mc105 := .of func105 (by kernel_rfl) (by kernel_rfl) (by kernel_rfl) (by kernel_rfl) (by kernel_rfl)
/-- slices.ContainsFunc[[]alum/api.Value,alum/api.Value] -/
def mc106 : MC :=
 (.seq (.ops [(none, (.v (.mov 4 (.c (.bool false)))))])
 (.seq (.ops [(none, (.v (.mov 5 (.t 0)))),
 (none, (.v (.mov 6 (.t 1)))),
 (none, (.e (.call (some 7) 124 [(.t 5), (.t 6)]))),
 (none, (.v (.bin 8 .geq false (.t 7) (.c (.int .i64 0))))),
 (none, (.v (.mov 4 (.t 8))))])
 .ret))
theorem ok106 : FnOk E 106 9 [.tmp 4] mc106 := .of func106 (by kernel_rfl) (by kernel_rfl) (by kernel_rfl) (by kernel_rfl) (by kernel_rfl)
/-- alum/value.logical$1 -/
def mc107 : MC :=
 (.seq (.ops [(none, (.e (.box 1 (.t 0)))),
 (none, (.v (.mov 2 (.c (.bool false)))))])
 (.seq (.ops [(none, (.v (.fld 3 0 (.t 1)))),
 (none, (.v (.load 4 false 1 (.t 3)))),
 (none, (.v (.bin 5 .neq false (.t 4) (.c (.int .i64 0))))),
 (none, (.v (.mov 6 (.t 5)))),
 ((some (6, true)), (.v (.fld 7 0 (.t 1)))),
 ((some (6, true)), (.v (.load 8 false 1 (.t 7)))),
 ((some (6, true)), (.v (.bin 9 .neq false (.t 8) (.c (.int .i64 3))))),
 (none, (.v (.pick 10 (.t 6) (.t 9) (.c (.bool false))))),
 (none, (.v (.mov 2 (.t 10))))])
 .ret))
theorem ok107 : FnOk E 107 11 [.tmp 2] mc107 := .of func107 (by kernel_rfl) (by kernel_rfl) (by kernel_rfl) (by kernel_rfl) (by kernel_rfl)
/-- alum/alumref19.sign -/
def mc108 : MC :=
 (.seq (.ops [(none, (.v (.mov 4 (.c (.int .i64 0)))))])
 (.seq (.seq (.ops [(none, (.v (.mov 5 (.t 0)))),
 (none, (.v (.mov 6 (.t 1)))),
 (none, (.v (.bin 7 .lss false (.t 5) (.t 6))))])
 (.cond 7
 (.seq (.ops [(none, (.v (.mov 4 (.c (.int .i64 (-1))))))])
 .ret)
 .skip))
 (.seq (.seq (.ops [(none, (.v (.mov 8 (.t 0)))),
 (none, (.v (.mov 9 (.t 1)))),
 (none, (.v (.bin 10 .gtr false (.t 8) (.t 9))))])
 (.cond 10
 (.seq (.ops [(none, (.v (.mov 4 (.c (.int .i64 1)))))])
 .ret)
 .skip))
 (.seq (.ops [(none, (.v (.mov 4 (.c (.int .i64 0)))))])
 .ret))))
theorem ok108 : FnOk E 108 11 [.tmp 4] mc108 := .of func108 (by kernel_rfl) (by kernel_rfl) (by kernel_rfl) (by kernel_rfl) (by kernel_rfl)
/-- slices.IndexFunc[[]int,int] -/
def mc109 : MC :=
 (.seq (.ops [(none, (.v (.mov 4 (.c (.int .i64 0)))))])
 (.seq (.seq (.ops [(none, (.v (.mov 6 (.t 0)))),
 (none, (.p (.len 7 (.t 6)))),
 (none, (.v (.mov 8 (.c (.int .i64 0)))))])
 (.block 0 (.loop (.seq (.ops [(none, (.v (.bin 9 .lss false (.t 8) (.t 7))))])
 (.seq (.cond 9
 .skip
 (.exit 0))
 (.seq (.block 1 (.seq (.ops [(none, (.v (.mov 10 (.t 8)))),
 (none, (.v (.mov 5 (.t 10))))])
 (.seq (.ops [(none, (.v (.mov 11 (.t 1)))),
 (none, (.v (.mov 12 (.t 0)))),
 (none, (.v (.mov 13 (.t 5)))),
 (none, (.p (.idx 14 1 (.t 12) (.t 13)))),
 (none, (.v (.load 15 false 1 (.t 14)))),
 (none, (.e (.callv (some 16) (.t 11) [(.t 15)])))])
 (.cond 16
 (.seq (.ops [(none, (.v (.mov 17 (.t 5)))),
 (none, (.v (.mov 4 (.t 17))))])
 .ret)
 .skip))))
 (.ops [(none, (.v (.bin 18 .add false (.t 8) (.c (.int .i64 1))))),
 (none, (.v (.mov 8 (.t 18))))])))))))
 (.seq (.ops [(none, (.v (.mov 4 (.c (.int .i64 (-1))))))])
 .ret)))
theorem ok109 : FnOk E 109 19 [.tmp 4] mc109 := .of func109 (by kernel_rfl) (by kernel_rfl) (by kernel_rfl) (by kernel_rfl) (by kernel_rfl)
/-- cmp.isNaN[int] -/
def mc110 : MC :=
 (.seq (.ops [(none, (.v (.mov 2 (.c (.bool false)))))])
 (.seq (.ops [(none, (.v (.mov 3 (.t 0)))),
 (none, (.v (.mov 4 (.t 0)))),
 (none, (.v (.bin 5 .neq false (.t 3) (.t 4)))),
 (none, (.v (.mov 2 (.t 5))))])
 .ret))
theorem ok110 : FnOk E 110 6 [.tmp 2] mc110 := .of func110 (by kernel_rfl) (by kernel_rfl) (by kernel_rfl) (by kernel_rfl) (by kernel_rfl)
/-- slices.Index[[]alum/api.Value,alum/api.Value] -/
def mc123 : MC :=
 (.seq (.ops [(none, (.e (.box 3 (.t 1)))),
 (none, (.v (.mov 4 (.c (.int .i64 0)))))])
 (.seq (.seq (.ops [(none, (.v (.mov 6 (.t 0)))),
 (none, (.p (.len 7 (.t 6)))),
 (none, (.v (.mov 8 (.c (.int .i64 0)))))])
 (.block 0 (.loop (.seq (.ops [(none, (.v (.bin 9 .lss false (.t 8) (.t 7))))])
 (.seq (.cond 9
 .skip
 (.exit 0))
 (.seq (.block 1 (.seq (.ops [(none, (.v (.mov 10 (.t 8)))),
 (none, (.v (.mov 5 (.t 10))))])
 (.seq (.any false (.pure0 none (.v (.load 11 true 3 (.t 3)))
 (.pure0 none (.v (.mov 12 (.t 0)))
 (.pure0 none (.v (.mov 13 (.t 5)))
 (.pure0 none (.p (.idx 14 3 (.t 12) (.t 13)))
 (.pure0 none (.v (.load 15 true 3 (.t 14)))
 (.pure0 none (.v (.eq 16 false (.agg [(0, false, 1, .int), (1, false, 1, .int), (2, false, 1, .str)]) (.t 11) (.t 15)))
 .done)))))))
 (.cond 16
 (.seq (.ops [(none, (.v (.mov 17 (.t 5)))),
 (none, (.v (.mov 4 (.t 17))))])
 .ret)
 .skip))))
 (.ops [(none, (.v (.bin 18 .add false (.t 8) (.c (.int .i64 1))))),
 (none, (.v (.mov 8 (.t 18))))])))))))
 (.seq (.ops [(none, (.v (.mov 4 (.c (.int .i64 (-1))))))])
 .ret)))
theorem ok123 : FnOk E 123 19 [.tmp 4] mc123 := .of func123 (by kernel_rfl) (by kernel_rfl) (by kernel_rfl) (by kernel_rfl) (by kernel_rfl)
/-- slices.IndexFunc[[]alum/api.Value,alum/api.Value] -/
def mc124 : MC :=
 (.seq (.ops [(none, (.v (.mov 4 (.c (.int .i64 0)))))])
 (.seq (.seq (.ops [(none, (.v (.mov 6 (.t 0)))),
 (none, (.p (.len 7 (.t 6)))),
 (none, (.v (.mov 8 (.c (.int .i64 0)))))])
 (.block 0 (.loop (.seq (.ops [(none, (.v (.bin 9 .lss false (.t 8) (.t 7))))])
 (.seq (.cond 9
 .skip
 (.exit 0))
 (.seq (.block 1 (.seq (.ops [(none, (.v (.mov 10 (.t 8)))),
 (none, (.v (.mov 5 (.t 10))))])
 (.seq (.ops [(none, (.v (.mov 11 (.t 1)))),
 (none, (.v (.mov 12 (.t 0)))),
 (none, (.v (.mov 13 (.t 5)))),
 (none, (.p (.idx 14 3 (.t 12) (.t 13)))),
 (none, (.v (.load 15 true 3 (.t 14)))),
 (none, (.e (.callv (some 16) (.t 11) [(.t 15)])))])
 (.cond 16
 (.seq (.ops [(none, (.v (.mov 17 (.t 5)))),
 (none, (.v (.mov 4 (.t 17))))])
 .ret)
 .skip))))
 (.ops [(none, (.v (.bin 18 .add false (.t 8) (.c (.int .i64 1))))),
 (none, (.v (.mov 8 (.t 18))))])))))))
 (.seq (.ops [(none, (.v (.mov 4 (.c (.int .i64 (-1))))))])
 .ret)))
theorem ok124 : FnOk E 124 19 [.tmp 4] mc124 := .of func124 (by kernel_rfl) (by kernel_rfl) (by kernel_rfl) (by kernel_rfl) (by kernel_rfl)
/-- (alum/expr.pair).add -/
def mc147 : MC :=
 (.seq (.ops [(none, (.e (.box 1 (.t 0)))),
 (none, (.v (.mov 2 (.c (.int .i64 0)))))])
 (.seq (.ops [(none, (.v (.fld 3 0 (.t 1)))),
 (none, (.v (.load 4 false 1 (.t 3)))),
 (none, (.v (.fld 5 1 (.t 1)))),
 (none, (.v (.load 6 false 1 (.t 5)))),
 (none, (.v (.bin 7 .add false (.t 4) (.t 6)))),
 (none, (.v (.mov 2 (.t 7))))])
 .ret))
theorem ok147 : FnOk E 147 8 [.tmp 2] mc147 := .of func147 (by kernel_rfl) (by kernel_rfl) (by kernel_rfl) (by kernel_rfl) (by kernel_rfl)
/-- (alum/expr.pair).sub -/
def mc149 : MC :=
 (.seq (.ops [(none, (.e (.box 1 (.t 0)))),
 (none, (.v (.mov 2 (.c (.int .i64 0)))))])
 (.seq (.ops [(none, (.v (.fld 3 0 (.t 1)))),
 (none, (.v (.load 4 false 1 (.t 3)))),
 (none, (.v (.fld 5 1 (.t 1)))),
 (none, (.v (.load 6 false 1 (.t 5)))),
 (none, (.v (.bin 7 .sub false (.t 4) (.t 6)))),
 (none, (.v (.mov 2 (.t 7))))])
 .ret))
theorem ok149 : FnOk E 149 8 [.tmp 2] mc149 := .of func149 (by kernel_rfl) (by kernel_rfl) (by kernel_rfl) (by kernel_rfl) (by kernel_rfl)
/-- (alum/expr.pair).mul -/
def mc150 : MC :=
 (.seq (.ops [(none, (.e (.box 1 (.t 0)))),
 (none, (.v (.mov 2 (.c (.int .i64 0)))))])
 (.seq (.ops [(none, (.v (.fld 6 0 (.t 1)))),
 (none, (.v (.load 7 false 1 (.t 6)))),
 (none, (.v (.fld 8 0 (.t 1)))),
 (none, (.v (.load 9 false 1 (.t 8)))),
 (none, (.v (.neg 10 (.t 9)))),
 (none, (.v (.max 11 [(.t 7), (.t 10)]))),
 (none, (.v (.conv 12 .u64 (.t 11)))),
 (none, (.v (.fld 13 1 (.t 1)))),
 (none, (.v (.load 14 false 1 (.t 13)))),
 (none, (.v (.fld 15 1 (.t 1)))),
 (none, (.v (.load 16 false 1 (.t 15)))),
 (none, (.v (.neg 17 (.t 16)))),
 (none, (.v (.max 18 [(.t 14), (.t 17)]))),
 (none, (.v (.conv 19 .u64 (.t 18)))),
 (none, (.e (.call (some 20) 151 [(.t 12), (.t 19)]))),
 (none, (.v (.mov 5 (.t 20)))),
 (none, (.v (.ext 21 0 (.t 5)))),
 (none, (.v (.ext 22 1 (.t 5)))),
 (none, (.v (.mov 3 (.t 21)))),
 (none, (.v (.mov 4 (.t 22))))])
 (.seq (.seq (.ops [(none, (.v (.mov 23 (.t 3)))),
 (none, (.v (.bin 24 .neq false (.t 23) (.c (.int .u64 0))))),
 (none, (.v (.mov 25 (.t 24)))),
 ((some (25, false)), (.v (.mov 26 (.t 4)))),
 ((some (25, false)), (.v (.bin 27 .gtr false (.t 26) (.c (.int .u64 549755813888))))),
 (none, (.v (.pick 28 (.t 25) (.c (.bool true)) (.t 27))))])
 (.cond 28
 (.seq (.ops [(none, (.v (.mov 2 (.c (.int .i64 549755813888)))))])
 .ret)
 .skip))
 (.seq (.seq (.ops [(none, (.v (.fld 29 0 (.t 1)))),
 (none, (.v (.load 30 false 1 (.t 29)))),
 (none, (.v (.bin 31 .lss false (.t 30) (.c (.int .i64 0))))),
 (none, (.v (.fld 32 1 (.t 1)))),
 (none, (.v (.load 33 false 1 (.t 32)))),
 (none, (.v (.bin 34 .lss false (.t 33) (.c (.int .i64 0))))),
 (none, (.v (.bin 35 .neq true (.t 31) (.t 34))))])
 (.cond 35
 (.seq (.ops [(none, (.v (.mov 36 (.t 4)))),
 (none, (.v (.conv 37 .i64 (.t 36)))),
 (none, (.v (.neg 38 (.t 37)))),
 (none, (.v (.mov 2 (.t 38))))])
 .ret)
 .skip))
 (.seq (.ops [(none, (.v (.mov 39 (.t 4)))),
 (none, (.v (.conv 40 .i64 (.t 39)))),
 (none, (.v (.mov 2 (.t 40))))])
 .ret)))))
theorem ok150 : FnOk E 150 41 [.tmp 2] mc150 := .of func150 (by kernel_rfl) (by kernel_rfl) (by kernel_rfl) (by kernel_rfl) (by kernel_rfl)
/-- math/bits.Mul64 -/
def mc151 : MC :=
 (.seq (.ops [(none, (.v (.mov 4 (.c (.int .u64 0))))),
 (none, (.v (.mov 5 (.c (.int .u64 0)))))])
 (.seq (.ops [(none, (.v (.mov 14 (.t 0)))),
 (none, (.v (.bin 15 .and false (.t 14) (.c (.int .u64 4294967295))))),
 (none, (.v (.mov 6 (.t 15))))])
 (.seq (.ops [(none, (.v (.mov 16 (.t 0)))),
 (none, (.p (.shr 17 (.t 16) (.c (.int .u64 32))))),
 (none, (.v (.mov 7 (.t 17))))])
 (.seq (.ops [(none, (.v (.mov 18 (.t 1)))),
 (none, (.v (.bin 19 .and false (.t 18) (.c (.int .u64 4294967295))))),
 (none, (.v (.mov 8 (.t 19))))])
 (.seq (.ops [(none, (.v (.mov 20 (.t 1)))),
 (none, (.p (.shr 21 (.t 20) (.c (.int .u64 32))))),
 (none, (.v (.mov 9 (.t 21))))])
 (.seq (.ops [(none, (.v (.mov 22 (.t 6)))),
 (none, (.v (.mov 23 (.t 8)))),
 (none, (.v (.bin 24 .mul false (.t 22) (.t 23)))),
 (none, (.v (.mov 10 (.t 24))))])
 (.seq (.ops [(none, (.v (.mov 25 (.t 7)))),
 (none, (.v (.mov 26 (.t 8)))),
 (none, (.v (.bin 27 .mul false (.t 25) (.t 26)))),
 (none, (.v (.mov 28 (.t 10)))),
 (none, (.p (.shr 29 (.t 28) (.c (.int .u64 32))))),
 (none, (.v (.bin 30 .add false (.t 27) (.t 29)))),
 (none, (.v (.mov 11 (.t 30))))])
 (.seq (.ops [(none, (.v (.mov 31 (.t 11)))),
 (none, (.v (.bin 32 .and false (.t 31) (.c (.int .u64 4294967295))))),
 (none, (.v (.mov 12 (.t 32))))])
 (.seq (.ops [(none, (.v (.mov 33 (.t 11)))),
 (none, (.p (.shr 34 (.t 33) (.c (.int .u64 32))))),
 (none, (.v (.mov 13 (.t 34))))])
 (.seq (.ops [(none, (.v (.mov 35 (.t 12)))),
 (none, (.v (.mov 36 (.t 6)))),
 (none, (.v (.mov 37 (.t 9)))),
 (none, (.v (.bin 38 .mul false (.t 36) (.t 37)))),
 (none, (.v (.bin 39 .add false (.t 35) (.t 38)))),
 (none, (.v (.mov 12 (.t 39))))])
 (.seq (.ops [(none, (.v (.mov 40 (.t 7)))),
 (none, (.v (.mov 41 (.t 9)))),
 (none, (.v (.bin 42 .mul false (.t 40) (.t 41)))),
 (none, (.v (.mov 43 (.t 13)))),
 (none, (.v (.bin 44 .add false (.t 42) (.t 43)))),
 (none, (.v (.mov 45 (.t 12)))),
 (none, (.p (.shr 46 (.t 45) (.c (.int .u64 32))))),
 (none, (.v (.bin 47 .add false (.t 44) (.t 46)))),
 (none, (.v (.mov 4 (.t 47))))])
 (.seq (.ops [(none, (.v (.mov 48 (.t 0)))),
 (none, (.v (.mov 49 (.t 1)))),
 (none, (.v (.bin 50 .mul false (.t 48) (.t 49)))),
 (none, (.v (.mov 5 (.t 50))))])
 .ret))))))))))))
theorem ok151 : FnOk E 151 51 [.tmp 4, .tmp 5] mc151 := .of func151 (by kernel_rfl) (by kernel_rfl) (by kernel_rfl) (by kernel_rfl) (by kernel_rfl)
end Go.Proofs.Try
