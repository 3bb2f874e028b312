/-
  A part of the proof: see the text of the law.
-/
import Derived.Test.YtlokeliagcaepaaEauc
import Derived.Test.YtlokeliagcaepaaEav
set_option linter.unusedSimpArgs false
set_option linter.unusedVariables false
namespace Go.Proofs.Try
open Go.Al
set_option maxRecDepth 100000
/-- alum/alumlaw39.sanity -/
def mc10 : MC :=
 (.seq (.ops [(none, (.v (.mov 0 (.c (.bool false)))))])
 (.seq (.ops [(none, (.e (.mkl 16 3 1 7 (.int .i64 0) [(0, (.c (.int .i64 7))), (1, (.c (.int .i64 1))), (2, (.c (.int .i64 2))), (3, (.c (.int .i64 7))), (4, (.c (.int .i64 5))), (5, (.c (.int .i64 1))), (6, (.c (.int .i64 7)))]))),
 (none, (.e (.call (some 17) 35 [(.t 16)]))),
 (none, (.v (.build 18 [(.int .i64 0), (.int .i64 0), (.str ⟨#[]⟩)] []))),
 (none, (.e (.mkl 19 40 3 1 (.agg [(.int .i64 0), (.int .i64 0), (.str ⟨#[]⟩)]) [(0, (.t 18))]))),
 (none, (.e (.mkl 20 64 1 1 (.raw (.slice none 0 0)) [(0, (.t 19))]))),
 (none, (.e (.app 21 64 1 24 (.t 17) (.t 20)))),
 (none, (.v (.mov 1 (.t 21))))])
 (.seq (.ops [(none, (.v (.mov 23 (.t 1)))),
 (none, (.e (.call (some 24) 11 [(.t 23), (.c (.int .i64 1))]))),
 (none, (.v (.mov 22 (.t 24)))),
 (none, (.v (.ext 25 0 (.t 22)))),
 (none, (.v (.ext 26 1 (.t 22)))),
 (none, (.e (.alloc 2 [(.int .i64 0), (.raw (.slice none 0 0))]))),
 (none, (.e (.store 2 true (.t 2) (.t 25)))),
 (none, (.v (.mov 3 (.t 26))))])
 (.seq (.ops [(none, (.v (.mov 28 (.t 1)))),
 (none, (.e (.call (some 29) 13 [(.t 28), (.c (.int .i64 0)), (.c (.int .i64 2))]))),
 (none, (.v (.mov 27 (.t 29)))),
 (none, (.v (.ext 30 0 (.t 27)))),
 (none, (.v (.ext 31 1 (.t 27)))),
 (none, (.e (.alloc 4 [(.int .i64 0), (.int .i64 0), (.raw (.slice none 0 0))]))),
 (none, (.e (.store 3 true (.t 4) (.t 30)))),
 (none, (.v (.mov 5 (.t 31))))])
 (.seq (.ops [(none, (.e (.mkl 33 3 1 2 (.int .i64 0) [(0, (.c (.int .i64 6))), (1, (.c (.int .i64 5)))]))),
 (none, (.e (.call (some 34) 35 [(.t 33)]))),
 (none, (.e (.call (some 35) 13 [(.t 34), (.c (.int .i64 0)), (.c (.int .i64 1))]))),
 (none, (.v (.mov 32 (.t 35)))),
 (none, (.v (.ext 36 0 (.t 32)))),
 (none, (.v (.ext 37 1 (.t 32)))),
 (none, (.e (.alloc 6 [(.int .i64 0), (.int .i64 0), (.raw (.slice none 0 0))]))),
 (none, (.e (.store 3 true (.t 6) (.t 36)))),
 (none, (.v (.mov 7 (.t 37))))])
 (.seq (.ops [(none, (.v (.load 39 true 3 (.t 4)))),
 (none, (.v (.load 40 true 3 (.t 6)))),
 (none, (.e (.call (some 41) 19 [(.t 39), (.t 40)]))),
 (none, (.v (.mov 38 (.t 41)))),
 (none, (.v (.ext 42 0 (.t 38)))),
 (none, (.v (.ext 43 1 (.t 38)))),
 (none, (.e (.alloc 8 [(.int .i64 0), (.int .i64 0), (.raw (.slice none 0 0))]))),
 (none, (.e (.store 3 true (.t 8) (.t 42)))),
 (none, (.v (.mov 9 (.t 43))))])
 (.seq (.ops [(none, (.v (.mov 45 (.t 1)))),
 (none, (.e (.call (some 46) 13 [(.t 45), (.c (.int .i64 1)), (.c (.int .i64 2))]))),
 (none, (.v (.mov 44 (.t 46)))),
 (none, (.v (.ext 47 0 (.t 44)))),
 (none, (.v (.ext 48 1 (.t 44)))),
 (none, (.e (.alloc 10 [(.int .i64 0), (.int .i64 0), (.raw (.slice none 0 0))]))),
 (none, (.e (.store 3 true (.t 10) (.t 47)))),
 (none, (.v (.mov 11 (.t 48))))])
 (.seq (.seq (.ops [(none, (.v (.mov 49 (.t 3)))),
 (none, (.v (.bin 50 .neq false (.t 49) (.c (.int .i64 0))))),
 (none, (.v (.mov 51 (.t 50)))),
 ((some (51, false)), (.v (.mov 52 (.t 5)))),
 ((some (51, false)), (.v (.bin 53 .neq false (.t 52) (.c (.int .i64 0))))),
 (none, (.v (.pick 54 (.t 51) (.c (.bool true)) (.t 53)))),
 (none, (.v (.mov 55 (.t 54)))),
 ((some (55, false)), (.v (.mov 56 (.t 7)))),
 ((some (55, false)), (.v (.bin 57 .neq false (.t 56) (.c (.int .i64 0))))),
 (none, (.v (.pick 58 (.t 55) (.c (.bool true)) (.t 57)))),
 (none, (.v (.mov 59 (.t 58)))),
 ((some (59, false)), (.v (.mov 60 (.t 9)))),
 ((some (59, false)), (.v (.bin 61 .neq false (.t 60) (.c (.int .i64 0))))),
 (none, (.v (.pick 62 (.t 59) (.c (.bool true)) (.t 61)))),
 (none, (.v (.mov 63 (.t 62)))),
 ((some (63, false)), (.v (.mov 64 (.t 11)))),
 ((some (63, false)), (.v (.bin 65 .neq false (.t 64) (.c (.int .i64 1))))),
 (none, (.v (.pick 66 (.t 63) (.c (.bool true)) (.t 65))))])
 (.cond 66
 (.seq (.ops [(none, (.v (.mov 0 (.c (.bool false)))))])
 .ret)
 .skip))
 (.seq (.ops [(none, (.e (.call (some 67) 36 [(.c (.int .i64 1))]))),
 (none, (.e (.call (some 68) 36 [(.c (.int .i64 5))]))),
 (none, (.v (.build 69 [(.int .i64 0), (.int .i64 0), (.str ⟨#[]⟩), (.int .i64 0), (.int .i64 0), (.str ⟨#[]⟩), (.int .i64 0), (.int .i64 0), (.int .i64 0)] [(0, 3, (.t 67)), (3, 3, (.t 68)), (6, 1, (.c (.int .i64 4))), (7, 1, (.c (.int .i64 3))), (8, 1, (.c (.int .i64 3)))]))),
 (none, (.e (.call (some 70) 36 [(.c (.int .i64 7))]))),
 (none, (.e (.call (some 71) 36 [(.c (.int .i64 7))]))),
 (none, (.v (.build 72 [(.int .i64 0), (.int .i64 0), (.str ⟨#[]⟩), (.int .i64 0), (.int .i64 0), (.str ⟨#[]⟩), (.int .i64 0), (.int .i64 0), (.int .i64 0)] [(0, 3, (.t 70)), (3, 3, (.t 71)), (6, 1, (.c (.int .i64 3))), (7, 1, (.c (.int .i64 1))), (8, 1, (.c (.int .i64 1)))]))),
 (none, (.e (.mkl 73 66 9 2 (.agg [(.int .i64 0), (.int .i64 0), (.str ⟨#[]⟩), (.int .i64 0), (.int .i64 0), (.str ⟨#[]⟩), (.int .i64 0), (.int .i64 0), (.int .i64 0)]) [(0, (.t 69)), (1, (.t 72))]))),
 (none, (.v (.build 74 [(.int .i64 0), (.int .i64 0), (.raw (.slice none 0 0))] [(0, 1, (.c (.int .i64 8))), (1, 1, (.c (.int .i64 1))), (2, 1, (.t 73))]))),
 (none, (.e (.alloc 12 [(.int .i64 0), (.int .i64 0), (.raw (.slice none 0 0))]))),
 (none, (.e (.store 3 true (.t 12) (.t 74))))])
 (.seq (.ops [(none, (.e (.call (some 75) 36 [(.c (.int .i64 1))]))),
 (none, (.e (.call (some 76) 36 [(.c (.int .i64 6))]))),
 (none, (.v (.build 77 [(.int .i64 0), (.int .i64 0), (.str ⟨#[]⟩), (.int .i64 0), (.int .i64 0), (.str ⟨#[]⟩), (.int .i64 0), (.int .i64 0), (.int .i64 0)] [(0, 3, (.t 75)), (3, 3, (.t 76)), (6, 1, (.c (.int .i64 6))), (7, 1, (.c (.int .i64 3))), (8, 1, (.c (.int .i64 5)))]))),
 (none, (.e (.call (some 78) 36 [(.c (.int .i64 7))]))),
 (none, (.e (.call (some 79) 36 [(.c (.int .i64 7))]))),
 (none, (.v (.build 80 [(.int .i64 0), (.int .i64 0), (.str ⟨#[]⟩), (.int .i64 0), (.int .i64 0), (.str ⟨#[]⟩), (.int .i64 0), (.int .i64 0), (.int .i64 0)] [(0, 3, (.t 78)), (3, 3, (.t 79)), (6, 1, (.c (.int .i64 3))), (7, 1, (.c (.int .i64 1))), (8, 1, (.c (.int .i64 1)))]))),
 (none, (.e (.mkl 81 66 9 2 (.agg [(.int .i64 0), (.int .i64 0), (.str ⟨#[]⟩), (.int .i64 0), (.int .i64 0), (.str ⟨#[]⟩), (.int .i64 0), (.int .i64 0), (.int .i64 0)]) [(0, (.t 77)), (1, (.t 80))]))),
 (none, (.v (.build 82 [(.int .i64 0), (.int .i64 0), (.raw (.slice none 0 0))] [(0, 1, (.c (.int .i64 10))), (1, 1, (.c (.int .i64 1))), (2, 1, (.t 81))]))),
 (none, (.e (.alloc 13 [(.int .i64 0), (.int .i64 0), (.raw (.slice none 0 0))]))),
 (none, (.e (.store 3 true (.t 13) (.t 82))))])
 (.seq (.any false (.pure0 none (.v (.load 83 true 3 (.t 4)))
 (.alt none (.e (.call (some 84) 36 [(.c (.int .i64 2))]))
 (.base (.pure0 none (.v (.build 85 [(.bool false), (.bool false), (.bool false), (.int .i64 0), (.int .i64 0), (.str ⟨#[]⟩), (.int .i64 0), (.int .i64 0), (.str ⟨#[]⟩), (.bool false), (.bool false)] [(3, 3, (.t 84)), (9, 1, (.c (.bool true)))]))
 (.alt none (.e (.call (some 86) 27 [(.t 83), (.t 85)]))
 (.base (.pure0 none (.v (.ext 87 0 (.t 86)))
 (.pure0 none (.v (.ext 88 1 (.t 86)))
 (.alt none (.e (.call (some 89) 21 [(.t 87), (.t 88)]))
 (.base (.alt none (.e (.call (some 90) 21 [(.c (.int .i64 4)), (.c (.int .i64 6))]))
 (.base (.pure0 none (.v (.eq 91 false (.agg [(0, false, 1, .int), (1, false, 1, .int)]) (.t 89) (.t 90)))
 (.pure0 none (.v (.mov 92 (.t 91)))
 (.pure0 (some (92, true)) (.v (.load 93 true 3 (.t 4)))
 (.alt (some (92, true)) (.e (.call (some 94) 36 [(.c (.int .i64 5))]))
 (.base (.pure0 (some (92, true)) (.v (.build 95 [(.bool false), (.bool false), (.bool false), (.int .i64 0), (.int .i64 0), (.str ⟨#[]⟩), (.int .i64 0), (.int .i64 0), (.str ⟨#[]⟩), (.bool false), (.bool false)] [(6, 3, (.t 94)), (10, 1, (.c (.bool true)))]))
 (.alt (some (92, true)) (.e (.call (some 96) 27 [(.t 93), (.t 95)]))
 (.base (.pure0 (some (92, true)) (.v (.ext 97 0 (.t 96)))
 (.pure0 (some (92, true)) (.v (.ext 98 1 (.t 96)))
 (.alt (some (92, true)) (.e (.call (some 99) 21 [(.t 97), (.t 98)]))
 (.base (.alt (some (92, true)) (.e (.call (some 100) 21 [(.c (.int .i64 4)), (.c (.int .i64 4))]))
 (.base (.pure0 (some (92, true)) (.v (.eq 101 false (.agg [(0, false, 1, .int), (1, false, 1, .int)]) (.t 99) (.t 100)))
 (.pure0 none (.v (.pick 102 (.t 92) (.t 101) (.c (.bool false))))
 (.pure0 none (.v (.mov 103 (.t 102)))
 (.pure0 (some (103, true)) (.v (.load 104 true 3 (.t 4)))
 (.alt (some (103, true)) (.e (.call (some 105) 36 [(.c (.int .i64 5))]))
 (.base (.alt (some (103, true)) (.e (.call (some 106) 36 [(.c (.int .i64 5))]))
 (.base (.pure0 (some (103, true)) (.v (.build 107 [(.bool false), (.bool false), (.bool false), (.int .i64 0), (.int .i64 0), (.str ⟨#[]⟩), (.int .i64 0), (.int .i64 0), (.str ⟨#[]⟩), (.bool false), (.bool false)] [(3, 3, (.t 105)), (9, 1, (.c (.bool true))), (6, 3, (.t 106)), (10, 1, (.c (.bool true)))]))
 (.alt (some (103, true)) (.e (.call (some 108) 27 [(.t 104), (.t 107)]))
 (.base (.pure0 (some (103, true)) (.v (.ext 109 0 (.t 108)))
 (.pure0 (some (103, true)) (.v (.ext 110 1 (.t 108)))
 (.alt (some (103, true)) (.e (.call (some 111) 21 [(.t 109), (.t 110)]))
 (.base (.alt (some (103, true)) (.e (.call (some 112) 21 [(.c (.int .i64 1)), (.c (.int .i64 2))]))
 (.base (.pure0 (some (103, true)) (.v (.eq 113 false (.agg [(0, false, 1, .int), (1, false, 1, .int)]) (.t 111) (.t 112)))
 (.pure0 none (.v (.pick 114 (.t 103) (.t 113) (.c (.bool false))))
 (.pure0 none (.v (.mov 14 (.t 114)))
 .done))))
 .stop))
 .stop))))
 .stop)))
 .stop))
 .stop))))))
 .stop))
 .stop))))
 .stop)))
 .stop)))))
 .stop))
 .stop))))
 .stop)))
 .stop)))
 (.seq (.any false (.pure0 none (.v (.load 115 true 3 (.t 4)))
 (.alt none (.e (.call (some 116) 36 [(.c (.int .i64 3))]))
 (.base (.alt none (.e (.call (some 117) 36 [(.c (.int .i64 3))]))
 (.base (.pure0 none (.v (.build 118 [(.bool false), (.bool false), (.bool false), (.int .i64 0), (.int .i64 0), (.str ⟨#[]⟩), (.int .i64 0), (.int .i64 0), (.str ⟨#[]⟩), (.bool false), (.bool false)] [(3, 3, (.t 116)), (9, 1, (.c (.bool true))), (6, 3, (.t 117)), (10, 1, (.c (.bool true)))]))
 (.alt none (.e (.call (some 119) 27 [(.t 115), (.t 118)]))
 (.base (.pure0 none (.v (.ext 120 0 (.t 119)))
 (.pure0 none (.v (.ext 121 1 (.t 119)))
 (.alt none (.e (.call (some 122) 21 [(.t 120), (.t 121)]))
 (.base (.alt none (.e (.call (some 123) 21 [(.c (.int .i64 0)), (.c (.int .i64 2))]))
 (.base (.pure0 none (.v (.eq 124 false (.agg [(0, false, 1, .int), (1, false, 1, .int)]) (.t 122) (.t 123)))
 (.pure0 none (.v (.mov 125 (.t 124)))
 (.pure0 (some (125, true)) (.v (.load 126 true 3 (.t 4)))
 (.pure0 (some (125, true)) (.v (.load 127 true 3 (.t 6)))
 (.alt (some (125, true)) (.e (.call (some 128) 24 [(.t 126), (.t 127)]))
 (.base (.pure0 (some (125, true)) (.v (.ext 129 0 (.t 128)))
 (.pure0 (some (125, true)) (.v (.ext 130 1 (.t 128)))
 (.alt (some (125, true)) (.e (.call (some 131) 21 [(.t 129), (.t 130)]))
 (.base (.alt (some (125, true)) (.e (.call (some 132) 21 [(.c (.int .i64 1)), (.c (.int .i64 4))]))
 (.base (.pure0 (some (125, true)) (.v (.eq 133 false (.agg [(0, false, 1, .int), (1, false, 1, .int)]) (.t 131) (.t 132)))
 (.pure0 none (.v (.pick 134 (.t 125) (.t 133) (.c (.bool false))))
 (.pure0 none (.v (.mov 135 (.t 134)))
 (.pure0 (some (135, true)) (.v (.load 136 true 3 (.t 8)))
 (.alt (some (135, true)) (.e (.call (some 137) 22 [(.t 136)]))
 (.base (.pure0 (some (135, true)) (.v (.ext 138 0 (.t 137)))
 (.pure0 (some (135, true)) (.v (.ext 139 1 (.t 137)))
 (.alt (some (135, true)) (.e (.call (some 140) 21 [(.t 138), (.t 139)]))
 (.base (.alt (some (135, true)) (.e (.call (some 141) 21 [(.c (.int .i64 4)), (.c (.int .i64 6))]))
 (.base (.pure0 (some (135, true)) (.v (.eq 142 false (.agg [(0, false, 1, .int), (1, false, 1, .int)]) (.t 140) (.t 141)))
 (.pure0 none (.v (.pick 143 (.t 135) (.t 142) (.c (.bool false))))
 (.pure0 none (.v (.mov 15 (.t 143)))
 .done))))
 .stop))
 .stop))))
 .stop))))))
 .stop))
 .stop))))
 .stop))))))
 .stop))
 .stop))))
 .stop)))
 .stop))
 .stop)))
 (.seq (.ops [(none, (.v (.fld 144 0 (.t 2)))),
 (none, (.v (.load 145 false 1 (.t 144)))),
 (none, (.v (.bin 146 .eql false (.t 145) (.c (.int .i64 8))))),
 (none, (.v (.mov 147 (.t 146)))),
 ((some (147, true)), (.v (.fld 148 1 (.t 2)))),
 ((some (147, true)), (.v (.load 149 false 1 (.t 148)))),
 ((some (147, true)), (.e (.mkl 150 3 1 1 (.int .i64 0) [(0, (.c (.int .i64 4)))]))),
 ((some (147, true)), (.e (.call (some 151) 15 [(.t 149), (.t 150)]))),
 (none, (.v (.pick 152 (.t 147) (.t 151) (.c (.bool false))))),
 (none, (.v (.mov 153 (.t 152)))),
 ((some (153, true)), (.v (.load 154 true 3 (.t 4)))),
 ((some (153, true)), (.v (.load 155 true 3 (.t 12)))),
 ((some (153, true)), (.e (.call (some 156) 16 [(.t 154), (.t 155)]))),
 (none, (.v (.pick 157 (.t 153) (.t 156) (.c (.bool false))))),
 (none, (.v (.mov 158 (.t 157)))),
 ((some (158, true)), (.v (.load 159 true 3 (.t 8)))),
 ((some (158, true)), (.v (.load 160 true 3 (.t 13)))),
 ((some (158, true)), (.e (.call (some 161) 16 [(.t 159), (.t 160)]))),
 (none, (.v (.pick 162 (.t 158) (.t 161) (.c (.bool false))))),
 (none, (.v (.mov 163 (.t 162)))),
 ((some (163, true)), (.v (.mov 164 (.t 14)))),
 (none, (.v (.pick 165 (.t 163) (.t 164) (.c (.bool false))))),
 (none, (.v (.mov 166 (.t 165)))),
 ((some (166, true)), (.v (.mov 167 (.t 15)))),
 (none, (.v (.pick 168 (.t 166) (.t 167) (.c (.bool false))))),
 (none, (.v (.mov 169 (.t 168)))),
 ((some (169, true)), (.v (.load 170 true 3 (.t 4)))),
 ((some (169, true)), (.e (.call (some 171) 18 [(.t 170)]))),
 ((some (169, true)), (.v (.bin 172 .eql false (.t 171) (.c (.int .i64 0))))),
 (none, (.v (.pick 173 (.t 169) (.t 172) (.c (.bool false))))),
 (none, (.v (.mov 174 (.t 173)))),
 ((some (174, true)), (.v (.build 175 [(.int .i64 0), (.int .i64 0), (.raw (.slice none 0 0))] [(0, 1, (.c (.int .i64 1)))]))),
 ((some (174, true)), (.e (.call (some 176) 18 [(.t 175)]))),
 ((some (174, true)), (.v (.bin 177 .eql false (.t 176) (.c (.int .i64 3))))),
 (none, (.v (.pick 178 (.t 174) (.t 177) (.c (.bool false))))),
 (none, (.v (.mov 0 (.t 178))))])
 .ret)))))))))))))
theorem ok10 : FnOk E 10 179 [.tmp 0] mc10 := .of func10 (by kernel_rfl) (by kernel_rfl) (by kernel_rfl) (by kernel_rfl) (by kernel_rfl)
end Go.Proofs.Try
namespace Go.Proofs.Try
open Go.Al
set_option linter.unusedVariables false
set_option linter.unusedSimpArgs false
set_option maxRecDepth 100000
set_option maxHeartbeats 16000000

def nulV : VL := ⟨0, 0, ⟨#[]⟩⟩
def exR : List (List VL) := rowsV [7, 1, 2, 7, 5, 1, 7] ++ [[nulV]]
def exO : List (List VL) := rowsV [6, 5]
def bA : List Bar := [⟨numV 1, numV 5, 4, 3, 3⟩, ⟨numV 7, numV 7, 3, 1, 1⟩]
def bB : List Bar := [⟨numV 5, numV 6, 2, 2, 2⟩]
def bM : List Bar := [⟨numV 1, numV 6, 6, 3, 5⟩, ⟨numV 7, numV 7, 3, 1, 1⟩]
def hA : Hist := ⟨8, 1, bA⟩
def hB : Hist := ⟨2, 0, bB⟩
def hM : Hist := ⟨10, 1, bM⟩
theorem bA_av : bA.map Bar.av = [.agg [.int .i64 1, .int .i64 1, .str ⟨#[]⟩, .int .i64 1, .int .i64 5, .str ⟨#[]⟩, .int .i64 4, .int .i64 3, .int .i64 3], .agg [.int .i64 1, .int .i64 7, .str ⟨#[]⟩, .int .i64 1, .int .i64 7, .str ⟨#[]⟩, .int .i64 3, .int .i64 1, .int .i64 1]] := rfl
theorem bM_av : bM.map Bar.av = [.agg [.int .i64 1, .int .i64 1, .str ⟨#[]⟩, .int .i64 1, .int .i64 6, .str ⟨#[]⟩, .int .i64 6, .int .i64 3, .int .i64 5], .agg [.int .i64 1, .int .i64 7, .str ⟨#[]⟩, .int .i64 1, .int .i64 7, .str ⟨#[]⟩, .int .i64 3, .int .i64 1, .int .i64 1]] := rfl
theorem exR_av : exR.map rowV = (rowsV [7, 1, 2, 7, 5, 1, 7]).map rowV ++ [.view 3 [.agg [.int .i64 0, .int .i64 0, .str ⟨#[]⟩]]] := rfl
theorem ex_few : fewR exR := by decide
theorem ex_fewO : fewR exO := by decide
theorem ex_st : stOf exR 1 = (8, [4], 0) := by kernel_rfl
theorem ex_hA : histOf exR 0 2 = (hA, 0) := by kernel_rfl
theorem ex_hB : histOf exO 0 1 = (hB, 0) := by kernel_rfl
theorem ex_hC : histOf exR 1 2 = (h0, 1) := by kernel_rfl
theorem ex_hM : mergeH mergeF hA hB = (hM, 0) := by kernel_rfl
theorem ex_e1 : hA.est ⟨false, false, false, numV 2, nulV, true, false⟩ = (4, 6) := by kernel_rfl
theorem ex_e2 : hA.est ⟨false, false, false, nulV, numV 5, false, true⟩ = (4, 4) := by kernel_rfl
theorem ex_e3 : hA.est ⟨false, false, false, numV 5, numV 5, true, true⟩ = (1, 2) := by kernel_rfl
theorem ex_e4 : hA.est ⟨false, false, false, numV 3, numV 3, true, true⟩ = (0, 2) := by kernel_rfl
theorem ex_c1 : Hist.err hA.chkC = 0 := by kernel_rfl
theorem ex_c2 : Hist.err (Hist.mk 1 0 []).chkC = 3 := by kernel_rfl
theorem ex_ls : leastSum hM.bars = 4 := by kernel_rfl
theorem ex_ms : mostSum hM.bars = 6 := by kernel_rfl
theorem ex_j : joinAll joinC bA bB = (1, 4) := by kernel_rfl
theorem ex_small : (∀ b ∈ bA, b.small) ∧ (∀ b ∈ bB, b.small) := by
  unfold bA bB
  simp [Bar.small]
theorem ex_okA : (∀ x ∈ bA, BarOk x) ∧ (∀ x ∈ bB, BarOk x) := by
  unfold bA bB
  simp only [List.mem_cons, List.not_mem_nil, or_false, forall_eq_or_imp, forall_eq]
  refine ⟨⟨?_, ?_⟩, ?_⟩
  all_goals constructor <;> decide
theorem ex_small2 : ∀ b ∈ bA, b.inR := by
  unfold bA
  simp [Bar.inR, inI, numV]
theorem renL_rows {ρ : Nat → Nat} {xs : List (List VL)} : renL ρ (xs.map rowV) = xs.map rowV := by
  refine renL_map (fun v => ?_) xs
  simp only [rowV, ren, renL_vls]
theorem rowsV_len (l : List Int) : (rowsV l).length = l.length := List.length_map ..
theorem vw_row {H : List AObj} {l : List Nat} {n : Nat} (v : List VL) : vw H l (n + 2) (rowV v) = rowV v := by
  simp only [rowV, lP, seval, vw_vls]
theorem vw_rows {H : List AObj} {l : List Nat} {n : Nat} {xs : List (List VL)} : (xs.map rowV).map (vw H l (n + 2)) = xs.map rowV := map_same vw_row xs
theorem lendRows {f : FuncId} {args : List AV} {l : List (List VL)} {n : Nat} (hn : n = l.length) (h : ACalls E.P f args [] (fun r H => r = .slc 0 1 n ∧ H = [.arr 64 1 (l.map rowV)])) : ACalls E.P f args [] (fun r H => r = .view 1 (l.map rowV) ∧ H = []) := by
  subst hn
  exact ACalls.keep (h.mono fun r H ⟨hr, hH⟩ => by
    subst hr hH
    refine keep_i [] true (by simp) (by simp) rfl ?_
    simp only [lP, seval, vw_rows, List.length_map, List.take_length])
theorem spine10 : ∀ fn, E.P.funcs[10]? = some fn → fn.body.map (Go.Al.spine 12) = some true := fun fn h => by
  have e := func10.symm.trans h
  injection e with e
  subst e
  rfl
theorem c10 : ACalls E.P 10 [] [] (fun r H => r = .bool true ∧ H = []) := by
  have hmax := maxLen_eq
  have h35a := c35 [7, 1, 2, 7, 5, 1, 7] (by simp)
  have h35b := lendRows (l := rowsV [6, 5]) (n := 2) rfl (c35 [6, 5] (by simp))
  rw [show rowsV [6, 5] = exO from rfl] at h35b
  have h36 := c36
  have h11 := c11 exR 1 ex_few (by decide)
  rw [ex_st] at h11
  have h13a := c13 exR 0 2 ex_few
  rw [ex_hA] at h13a
  have h13b := c13 exO 0 1 ex_fewO
  rw [ex_hB] at h13b
  have h13c := c13 exR 1 2 ex_few
  rw [ex_hC] at h13c
  have h19 := c19 hA hB ex_okA.1 ex_okA.2 (by decide) (by decide) (by decide) (by decide)
  rw [ex_hM] at h19
  have h27a := c27 hA ⟨false, false, false, numV 2, nulV, true, false⟩ ex_small.1 (by decide)
  rw [ex_e1] at h27a
  have h27b := c27 hA ⟨false, false, false, nulV, numV 5, false, true⟩ ex_small.1 (by decide)
  rw [ex_e2] at h27b
  have h27c := c27 hA ⟨false, false, false, numV 5, numV 5, true, true⟩ ex_small.1 (by decide)
  rw [ex_e3] at h27c
  have h27d := c27 hA ⟨false, false, false, numV 3, numV 3, true, true⟩ ex_small.1 (by decide)
  rw [ex_e4] at h27d
  have h24 := c24 hA hB ex_small.1 ex_small.2 (by decide) (by decide)
  rw [show joinAll joinC hA.bars hB.bars = (1, 4) from ex_j] at h24
  have h22 := c22 hM (by unfold smallB; decide)
  rw [ex_ls, ex_ms] at h22
  have h15 := c15 [4] [4]
  have h16a := c16 hA hA
  have h16b := c16 hM hM
  have h18a := c18 hA ex_small2
  rw [ex_c1] at h18a
  have h18b := c18 ⟨1, 0, []⟩ (by simp)
  rw [ex_c2] at h18b
  have h21 := c21
  simp only [decide_true, hist_av, rg_av, vl_av, numV, nulV, hA, hB, hM, List.map_cons, List.map_nil, h0] at h36 h11 h13a h13b h13c h19 h27a h27b h27c h27d h24 h22 h15 h16a h16b h18a h18b
  have h18n : ACalls E.P 18 [.agg [.int .i64 1, .int .i64 0, .raw (.slice none 0 0)]] [] (fun r H => r = .int .i64 3 ∧ H = []) :=
    ⟨h18b.1, fun γ σ w vs hi hv => h18b.2 γ σ w vs hi ((WeakL.cons (WeakL.agg (.cons (.refl _) (.cons (.refl _) (.cons weak_nil (.refl _))))) (.refl _)) γ σ vs hv)⟩
  refine ok10.acallsF hE hm (by simp) 12 spine10 fun N hN => ?_
  unfold mc10
  refine mf_i ?_
  simp only [lA, ptrCells, ptrAdd, isNil, readsV, readsP, isCall, wrote, srcOf, seval]
  repeat' (first
   | (with_reducible apply St.o; constructor) <;> intro _
   | with_reducible first | refine LenR_i fun _ => ?_ | refine And.intro (by omega) ?_ | (apply Sp.o; constructor) | refine mkl_own ?_ | refine frz0_i ?_
   | simp (maxSteps := 1000000) (disch := omega) only [lE, ptrCells, ptrAdd, isNil, readsV, readsP, isCall, wrote, srcOf, seval])
  refine mf_go (mf_i ?_)
  repeat' (first
   | (with_reducible apply St.o; constructor) <;> intro _
   | ((with_reducible refine mkl_view ?_ ?_ ?_); (focus decide); (focus rfl))
   | with_reducible first | refine LenR_i fun _ => ?_ | refine And.intro (by omega) ?_ | (apply Sp.o; constructor) | refine mkl_own ?_ | refine frz0_i ?_
   | ((with_reducible apply Sc.o false; constructor); simp only [lP, seval, fillE, setAll, renL_rows, List.length_map, rowsV_len, List.length_cons, List.length_nil]; refine ⟨_, h35a, ?_⟩; rintro _ _ ⟨rfl, rfl⟩; simp only [lA, lP, ptrCells, ptrAdd, isNil, readsV, readsP, isCall, wrote, srcOf, seval, fillE, setAll, renL_rows, List.length_map, rowsV_len, List.length_cons, List.length_nil])
   | simp (maxSteps := 1000000) (disch := omega) only [lE, ptrCells, ptrAdd, isNil, readsV, readsP, isCall, wrote, srcOf, seval, fillE, setAll, renL_rows, List.length_map, rowsV_len, List.length_cons, List.length_nil])
  have hv : ∀ {H : List AObj} {k : List Nat} {n : Nat}, vwS none (some (.arr 64 1 ((rowsV [7, 1, 2, 7, 5, 1, 7]).map rowV ++ [.view 3 [.agg [.int .i64 0, .int .i64 0, .str ⟨#[]⟩]]]))) H k (n + 2) 1 8 = .view 1 (exR.map rowV) := by
    intro H k n
    rw [← exR_av, vwS_arr (by kernel_rfl), vw_rows]
  refine mf_to (fr' := [(1, .view 1 (exR.map rowV))]) (H' := []) (Ent.to [] true (by simp) (by simp) rfl (by simp only [lP, seval, hv] <;> (try simp) <;> (try omega)) (by simp only [lP, seval, hv] <;> (try simp) <;> (try omega))) (mf_i ?_)
  repeat' (first
   | (with_reducible apply St.o; constructor) <;> intro _
   | ((with_reducible refine mkl_view ?_ ?_ ?_); (focus decide); (focus rfl))
   | with_reducible first | refine LenR_i fun _ => ?_ | refine And.intro (by omega) ?_ | (apply Sp.o; constructor) | refine mkl_own ?_ | refine frz0_i ?_
   | ((with_reducible apply Sc.o false; constructor); simp only [lP, seval, fillE, setAll, ti27]; refine ⟨_, h11, ?_⟩; rintro _ _ ⟨rfl, rfl⟩; simp only [lA, lP, ptrCells, ptrAdd, isNil, readsV, readsP, isCall, wrote, srcOf, seval, fillE, setAll, ti27])
   | simp (maxSteps := 1000000) (disch := omega) only [lE, ptrCells, ptrAdd, isNil, readsV, readsP, isCall, wrote, srcOf, seval, fillE, setAll, ti27])
  refine mf_to (fr' := [(1, .view 1 (exR.map rowV)), (2, .op 0 0), (3, .int .i64 0)]) (H' := [.box [.int .i64 8, .view 1 [.int .i64 4]]]) (Ent.to [0] false (by simp) (by simp) rfl (by simp only [lP, seval] <;> (try simp) <;> (try omega)) (by simp only [lP, seval] <;> (try simp) <;> (try omega))) (mf_i ?_)
  repeat' (first
   | (with_reducible apply St.o; constructor) <;> intro _
   | ((with_reducible refine mkl_view ?_ ?_ ?_); (focus decide); (focus rfl))
   | with_reducible first | refine LenR_i fun _ => ?_ | refine And.intro (by omega) ?_ | (apply Sp.o; constructor) | refine mkl_own ?_ | refine frz0_i ?_
   | ((with_reducible apply Sc.o false; constructor); simp only [lP, seval, fillE, setAll, ti33]; refine ⟨_, h13a, ?_⟩; rintro _ _ ⟨rfl, rfl⟩; simp only [lA, lP, ptrCells, ptrAdd, isNil, readsV, readsP, isCall, wrote, srcOf, seval, fillE, setAll, ti33])
   | simp (maxSteps := 1000000) (disch := omega) only [lE, ptrCells, ptrAdd, isNil, readsV, readsP, isCall, wrote, srcOf, seval, fillE, setAll, ti33])
  refine mf_to (fr' := [(1, .view 1 (exR.map rowV)), (2, .op 0 0), (3, .int .i64 0), (4, .op 1 0), (5, .int .i64 0)]) (H' := [.box [.int .i64 8, .view 1 [.int .i64 4]], .box [.int .i64 8, .int .i64 1, .view 9 (bA.map Bar.av)]]) (Ent.to [0, 1] false (by simp) (by simp) rfl (by simp only [lP, seval] <;> (try simp) <;> (try omega)) (by simp only [lP, seval] <;> (try simp) <;> (try omega))) (mf_i ?_)
  repeat' (first
   | (with_reducible apply St.o; constructor) <;> intro _
   | ((with_reducible refine mkl_view ?_ ?_ ?_); (focus decide); (focus rfl))
   | with_reducible first | refine LenR_i fun _ => ?_ | refine And.intro (by omega) ?_ | (apply Sp.o; constructor) | refine mkl_own ?_ | refine frz0_i ?_
   | ((with_reducible apply Sc.o false; constructor); simp only [lP, seval, fillE, setAll, ti33, renL_rows, List.length_map, rowsV_len, List.length_cons, List.length_nil]; (first | refine ⟨_, h35b, ?_⟩ | refine ⟨_, h13b, ?_⟩); rintro _ _ ⟨rfl, rfl⟩; simp only [lA, lP, ptrCells, ptrAdd, isNil, readsV, readsP, isCall, wrote, srcOf, seval, fillE, setAll, ti33, renL_rows, List.length_map, rowsV_len, List.length_cons, List.length_nil])
   | simp (maxSteps := 1000000) (disch := omega) only [lE, ptrCells, ptrAdd, isNil, readsV, readsP, isCall, wrote, srcOf, seval, fillE, setAll, ti33, renL_rows, List.length_map, rowsV_len, List.length_cons, List.length_nil])
  refine mf_to (fr' := [(1, .view 1 (exR.map rowV)), (2, .op 0 0), (3, .int .i64 0), (4, .op 1 0), (5, .int .i64 0), (6, .op 2 0), (7, .int .i64 0)]) (H' := [.box [.int .i64 8, .view 1 [.int .i64 4]], .box [.int .i64 8, .int .i64 1, .view 9 (bA.map Bar.av)], .box [.int .i64 2, .int .i64 0, .view 9 (bB.map Bar.av)]]) (Ent.to [0, 1, 2] false (by simp) (by simp) rfl (by simp only [lP, seval, pa_bars] <;> (try simp) <;> (try omega)) (by simp only [lP, seval, pa_bars] <;> (try simp) <;> (try omega))) (mf_i ?_)
  repeat' (first
   | (with_reducible apply St.o; constructor) <;> intro _
   | ((with_reducible refine mkl_view ?_ ?_ ?_); (focus decide); (focus rfl))
   | with_reducible first | refine LenR_i fun _ => ?_ | refine And.intro (by omega) ?_ | (apply Sp.o; constructor) | refine mkl_own ?_ | refine frz0_i ?_
   | ((with_reducible apply Sc.o false; constructor); simp only [lP, seval, fillE, setAll, ti33]; refine ⟨_, h19, ?_⟩; rintro _ _ ⟨rfl, rfl⟩; simp only [lA, lP, ptrCells, ptrAdd, isNil, readsV, readsP, isCall, wrote, srcOf, seval, fillE, setAll, ti33])
   | simp (maxSteps := 1000000) (disch := omega) only [lE, ptrCells, ptrAdd, isNil, readsV, readsP, isCall, wrote, srcOf, seval, fillE, setAll, ti33])
  refine mf_to (fr' := [(1, .view 1 (exR.map rowV)), (2, .op 0 0), (3, .int .i64 0), (4, .op 1 0), (5, .int .i64 0), (6, .op 2 0), (7, .int .i64 0), (8, .op 3 0), (9, .int .i64 0)]) (H' := [.box [.int .i64 8, .view 1 [.int .i64 4]], .box [.int .i64 8, .int .i64 1, .view 9 (bA.map Bar.av)], .box [.int .i64 2, .int .i64 0, .view 9 (bB.map Bar.av)], .box [.int .i64 10, .int .i64 1, .view 9 (bM.map Bar.av)]]) (Ent.to [0, 1, 2, 3] false (by simp) (by simp) rfl (by simp only [lP, seval, pa_bars] <;> (try simp) <;> (try omega)) (by simp only [lP, seval, pa_bars] <;> (try simp) <;> (try omega))) (mf_i ?_)
  repeat' (first
   | (with_reducible apply St.o; constructor) <;> intro _
   | ((with_reducible refine mkl_view ?_ ?_ ?_); (focus decide); (focus rfl))
   | with_reducible first | refine LenR_i fun _ => ?_ | refine And.intro (by omega) ?_ | (apply Sp.o; constructor) | refine mkl_own ?_ | refine frz0_i ?_
   | ((with_reducible apply Sc.o false; constructor); simp only [lP, seval, fillE, setAll, ti33]; refine ⟨_, h13c, ?_⟩; rintro _ _ ⟨rfl, rfl⟩; simp only [lA, lP, ptrCells, ptrAdd, isNil, readsV, readsP, isCall, wrote, srcOf, seval, fillE, setAll, ti33])
   | simp (maxSteps := 1000000) (disch := omega) only [lE, ptrCells, ptrAdd, isNil, readsV, readsP, isCall, wrote, srcOf, seval, fillE, setAll, ti33])
  refine mf_to (fr' := [(2, .op 0 0), (3, .int .i64 0), (4, .op 1 0), (5, .int .i64 0), (6, .op 2 0), (7, .int .i64 0), (8, .op 3 0), (9, .int .i64 0), (11, .int .i64 1)]) (H' := [.box [.int .i64 8, .view 1 [.int .i64 4]], .box [.int .i64 8, .int .i64 1, .view 9 (bA.map Bar.av)], .box [.int .i64 2, .int .i64 0, .view 9 (bB.map Bar.av)], .box [.int .i64 10, .int .i64 1, .view 9 (bM.map Bar.av)]]) (Ent.to [0, 1, 2, 3] false (by simp) (by simp) rfl (by simp only [lP, seval, pa_bars] <;> (try simp) <;> (try omega)) (by simp only [lP, seval, pa_bars] <;> (try simp) <;> (try omega))) (mf_i ?_)
  repeat' (first
   | (with_reducible apply St.o; constructor) <;> intro _
   | ((with_reducible refine mkl_view ?_ ?_ ?_); (focus decide); (focus rfl))
   | with_reducible first | refine LenR_i fun _ => ?_ | refine And.intro (by omega) ?_ | (apply Sp.o; constructor) | refine mkl_own ?_ | refine frz0_i ?_
   | simp (maxSteps := 1000000) (disch := omega) only [lE, ptrCells, ptrAdd, isNil, readsV, readsP, isCall, wrote, srcOf, seval])
  refine mf_to (fr' := [(2, .op 0 0), (4, .op 1 0), (6, .op 2 0), (8, .op 3 0)]) (H' := [.box [.int .i64 8, .view 1 [.int .i64 4]], .box [.int .i64 8, .int .i64 1, .view 9 (bA.map Bar.av)], .box [.int .i64 2, .int .i64 0, .view 9 (bB.map Bar.av)], .box [.int .i64 10, .int .i64 1, .view 9 (bM.map Bar.av)]]) (Ent.to [0, 1, 2, 3] false (by simp) (by simp) rfl (by simp only [lP, seval, pa_bars] <;> (try simp) <;> (try omega)) (by simp only [lP, seval, pa_bars] <;> (try simp) <;> (try omega))) (mf_i ?_)
  repeat' (first
   | (with_reducible apply St.o; constructor) <;> intro _
   | ((with_reducible refine mkl_view ?_ ?_ ?_); (focus decide); (focus rfl))
   | with_reducible first | refine LenR_i fun _ => ?_ | refine And.intro (by omega) ?_ | (apply Sp.o; constructor) | refine mkl_own ?_ | refine frz0_i ?_
   | ((with_reducible apply Sc.o true; constructor); simp only [lP, seval, fillE, setAll]; refine ⟨_, h36 _, ?_⟩; rintro _ _ ⟨rfl, rfl⟩; simp only [lA, lP, ptrCells, ptrAdd, isNil, readsV, readsP, isCall, wrote, srcOf, seval, fillE, setAll])
   | simp (maxSteps := 1000000) (disch := omega) only [lE, ptrCells, ptrAdd, isNil, readsV, readsP, isCall, wrote, srcOf, seval, fillE, setAll])
  refine mf_to (fr' := [(2, .op 0 0), (4, .op 1 0), (6, .op 2 0), (8, .op 3 0), (12, .op 4 0)]) (H' := [.box [.int .i64 8, .view 1 [.int .i64 4]], .box [.int .i64 8, .int .i64 1, .view 9 (bA.map Bar.av)], .box [.int .i64 2, .int .i64 0, .view 9 (bB.map Bar.av)], .box [.int .i64 10, .int .i64 1, .view 9 (bM.map Bar.av)], .box [.int .i64 8, .int .i64 1, .view 9 (bA.map Bar.av)]]) (Ent.to [0, 1, 2, 3, 4] true (by simp) (by simp) rfl (by simp only [lP, seval, pa_bars, bA_av] <;> (try simp) <;> (try omega)) (by simp only [lP, seval, pa_bars, bA_av] <;> (try simp) <;> (try omega))) (mf_i ?_)
  repeat' (first
   | (with_reducible apply St.o; constructor) <;> intro _
   | ((with_reducible refine mkl_view ?_ ?_ ?_); (focus decide); (focus rfl))
   | with_reducible first | refine LenR_i fun _ => ?_ | refine And.intro (by omega) ?_ | (apply Sp.o; constructor) | refine mkl_own ?_ | refine frz0_i ?_
   | ((with_reducible apply Sc.o true; constructor); simp only [lP, seval, fillE, setAll]; refine ⟨_, h36 _, ?_⟩; rintro _ _ ⟨rfl, rfl⟩; simp only [lA, lP, ptrCells, ptrAdd, isNil, readsV, readsP, isCall, wrote, srcOf, seval, fillE, setAll])
   | simp (maxSteps := 1000000) (disch := omega) only [lE, ptrCells, ptrAdd, isNil, readsV, readsP, isCall, wrote, srcOf, seval, fillE, setAll])
  refine mf_to (fr' := [(2, .op 0 0), (4, .op 1 0), (6, .op 2 0), (8, .op 3 0), (12, .op 4 0), (13, .op 5 0)]) (H' := [.box [.int .i64 8, .view 1 [.int .i64 4]], .box [.int .i64 8, .int .i64 1, .view 9 (bA.map Bar.av)], .box [.int .i64 2, .int .i64 0, .view 9 (bB.map Bar.av)], .box [.int .i64 10, .int .i64 1, .view 9 (bM.map Bar.av)], .box [.int .i64 8, .int .i64 1, .view 9 (bA.map Bar.av)], .box [.int .i64 10, .int .i64 1, .view 9 (bM.map Bar.av)]]) (Ent.to [0, 1, 2, 3, 4, 5] true (by simp) (by simp) rfl (by simp only [lP, seval, pa_bars, bM_av] <;> (try simp) <;> (try omega)) (by simp only [lP, seval, pa_bars, bM_av] <;> (try simp) <;> (try omega))) (mf_i ?_)
  repeat' (first
   | (with_reducible apply St.o; constructor) <;> intro _
   | ((with_reducible refine mkl_view ?_ ?_ ?_); (focus decide); (focus rfl))
   | with_reducible first | refine LenR_i fun _ => ?_ | refine And.intro (by omega) ?_ | (apply Sp.o; constructor) | refine mkl_own ?_ | refine frz0_i ?_ | refine any_i [] ?_
   | ((with_reducible apply Sc.o true; constructor); simp only [lP, seval, fillE, setAll]; (first | refine ⟨_, h36 _, ?_⟩ | refine ⟨_, h21 _ _, ?_⟩ | refine ⟨_, h27a, ?_⟩ | refine ⟨_, h27b, ?_⟩ | refine ⟨_, h27c, ?_⟩); rintro _ _ ⟨rfl, rfl⟩; simp only [lA, lP, ptrCells, ptrAdd, isNil, readsV, readsP, isCall, wrote, srcOf, seval, fillE, setAll])
   | simp (maxSteps := 1000000) (disch := omega) only [lE, ptrCells, ptrAdd, isNil, readsV, readsP, isCall, wrote, srcOf, seval, fillE, setAll])
  refine mf_to (fr' := [(2, .op 0 0), (4, .op 1 0), (6, .op 2 0), (8, .op 3 0), (12, .op 4 0), (13, .op 5 0), (14, .bool true)]) (H' := [.box [.int .i64 8, .view 1 [.int .i64 4]], .box [.int .i64 8, .int .i64 1, .view 9 (bA.map Bar.av)], .box [.int .i64 2, .int .i64 0, .view 9 (bB.map Bar.av)], .box [.int .i64 10, .int .i64 1, .view 9 (bM.map Bar.av)], .box [.int .i64 8, .int .i64 1, .view 9 (bA.map Bar.av)], .box [.int .i64 10, .int .i64 1, .view 9 (bM.map Bar.av)]]) (Ent.to [0, 1, 2, 3, 4, 5] false (by simp) (by simp) rfl (by simp only [lP, seval, pa_bars] <;> (try simp) <;> (try omega)) (by simp only [lP, seval, pa_bars] <;> (try simp) <;> (try omega))) (mf_i ?_)
  repeat' (first
   | (with_reducible apply St.o; constructor) <;> intro _
   | ((with_reducible refine mkl_view ?_ ?_ ?_); (focus decide); (focus rfl))
   | with_reducible first | refine LenR_i fun _ => ?_ | refine And.intro (by omega) ?_ | (apply Sp.o; constructor) | refine mkl_own ?_ | refine frz0_i ?_ | refine any_i [] ?_
   | ((with_reducible apply Sc.o true; constructor); simp only [lP, seval, fillE, setAll]; (first | refine ⟨_, h36 _, ?_⟩ | refine ⟨_, h21 _ _, ?_⟩ | refine ⟨_, h27d, ?_⟩ | refine ⟨_, h24, ?_⟩ | refine ⟨_, h22, ?_⟩); rintro _ _ ⟨rfl, rfl⟩; simp only [lA, lP, ptrCells, ptrAdd, isNil, readsV, readsP, isCall, wrote, srcOf, seval, fillE, setAll])
   | simp (maxSteps := 1000000) (disch := omega) only [lE, ptrCells, ptrAdd, isNil, readsV, readsP, isCall, wrote, srcOf, seval, fillE, setAll])
  refine mf_to (fr' := [(2, .op 0 0), (4, .op 1 0), (6, .op 2 0), (8, .op 3 0), (12, .op 4 0), (13, .op 5 0), (14, .bool true), (15, .bool true)]) (H' := [.box [.int .i64 8, .view 1 [.int .i64 4]], .box [.int .i64 8, .int .i64 1, .view 9 (bA.map Bar.av)], .box [.int .i64 2, .int .i64 0, .view 9 (bB.map Bar.av)], .box [.int .i64 10, .int .i64 1, .view 9 (bM.map Bar.av)], .box [.int .i64 8, .int .i64 1, .view 9 (bA.map Bar.av)], .box [.int .i64 10, .int .i64 1, .view 9 (bM.map Bar.av)]]) (Ent.to [0, 1, 2, 3, 4, 5] false (by simp) (by simp) rfl (by simp only [lP, seval, pa_bars] <;> (try simp) <;> (try omega)) (by simp only [lP, seval, pa_bars] <;> (try simp) <;> (try omega))) (mf_last ?_)
  repeat' (first
   | (with_reducible apply St.o; constructor) <;> intro _
   | ((with_reducible refine mkl_view ?_ ?_ ?_); (focus decide); (focus rfl))
   | with_reducible first | refine LenR_i fun _ => ?_ | refine And.intro (by omega) ?_ | (apply Sp.o; constructor) | refine mkl_own ?_ | refine frz0_i ?_
   | ((with_reducible apply Sc.o true; constructor); simp only [lP, seval, fillE, setAll]; (first | refine ⟨_, h15, ?_⟩ | refine ⟨_, h16a, ?_⟩ | refine ⟨_, h16b, ?_⟩ | refine ⟨_, h18a, ?_⟩ | refine ⟨_, h18n, ?_⟩); rintro _ _ ⟨rfl, rfl⟩; simp only [lA, lP, ptrCells, ptrAdd, isNil, readsV, readsP, isCall, wrote, srcOf, seval, fillE, setAll])
   | simp (maxSteps := 1000000) (disch := omega) only [lE, ptrCells, ptrAdd, isNil, readsV, readsP, isCall, wrote, srcOf, seval, fillE, setAll])
  all_goals exact keep0_i ⟨rfl, rfl⟩
end Go.Proofs.Try
