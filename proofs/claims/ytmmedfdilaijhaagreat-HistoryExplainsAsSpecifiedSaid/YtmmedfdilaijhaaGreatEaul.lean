/-
  A part of the proof: see the text of the law.
-/
import Derived.Test.YtmmedfdilaijhaaGreatEauk
set_option linter.unusedSimpArgs false
set_option linter.unusedVariables false
namespace Go.Proofs.Try
open Go.Proofs.Tryz
open Go.Al
set_option maxRecDepth 100000
def mc6 : MC :=
(.seq (.ops [(none,.v (.mov 0 (.c (.bool false))))])
(.seq (.ops [(none,.v (.build 22 [(.int .i64 0),(.int .i64 0),(.int .i64 0),(.raw (.slice none 0 0)),(.raw (.slice none 0 0))] [(0,1,(.c (.int .i64 2))),(1,1,(.c (.int .i64 1))),(2,1,(.c (.int .i64 1)))])),
(none,.e (.alloc 1 [(.int .i64 0),(.int .i64 0),(.int .i64 0),(.raw (.slice none 0 0)),(.raw (.slice none 0 0))])),
(none,.e (.store 5 true (.t 1) (.t 22)))])
(.seq (.ops [(none,.v (.build 23 [(.int .i64 0),(.int .i64 0),(.int .i64 0),(.raw (.slice none 0 0)),(.raw (.slice none 0 0))] [(0,1,(.c (.int .i64 4)))])),
(none,.e (.alloc 2 [(.int .i64 0),(.int .i64 0),(.int .i64 0),(.raw (.slice none 0 0)),(.raw (.slice none 0 0))])),
(none,.e (.store 5 true (.t 2) (.t 23)))])
(.seq (.any false (.pure0 none (.v (.load 27 true 5 (.t 1)))
(.alt none (.e (.mkl 25 3 1 1 (.int .i64 0) [(0,(.c (.int .i64 1)))]))
(.base (.alt none (.e (.call (some 26) 15 [(.c (.int .i64 1)),(.c (.str ⟨#[97]⟩)),(.t 25)]))
(.base (.alt none (.e (.call (some 28) 16 [(.c (.int .i64 1)),(.c (.str ⟨#[97]⟩))]))
(.base (.alt none (.e (.mkl 29 37 5 3 (.agg [(.int .i64 0),(.int .i64 0),(.int .i64 0),(.raw (.slice none 0 0)),(.raw (.slice none 0 0))]) [(0,(.t 26)),(1,(.t 27)),(2,(.t 28))]))
(.base (.alt none (.e (.call (some 30) 7 [(.t 29)]))
(.base (.pure0 none (.v (.mov 24 (.t 30)))
(.pure0 none (.v (.ext 31 0 (.t 24)))
(.pure0 none (.v (.ext 32 1 (.t 24)))
(.pure0 none (.v (.ext 33 2 (.t 24)))
(.pure0 none (.v (.mov 3 (.t 31)))
(.pure0 none (.v (.mov 4 (.t 32)))
(.pure0 none (.v (.mov 5 (.t 33)))
.done))))))))
.stop))
.stop))
.stop))
.stop))
.stop)))
(.seq (.any false (.pure0 none (.v (.load 36 true 5 (.t 1)))
(.pure0 none (.v (.load 37 true 5 (.t 2)))
(.pure0 none (.v (.build 38 [(.int .i64 0),(.int .i64 0),(.int .i64 0),(.raw (.slice none 0 0)),(.raw (.slice none 0 0))] [(0,1,(.c (.int .i64 5)))]))
(.alt none (.e (.mkl 34 3 1 1 (.int .i64 0) [(0,(.c (.int .i64 1)))]))
(.base (.alt none (.e (.call (some 35) 15 [(.c (.int .i64 1)),(.c (.str ⟨#[97]⟩)),(.t 34)]))
(.base (.alt none (.e (.mkl 39 37 5 4 (.agg [(.int .i64 0),(.int .i64 0),(.int .i64 0),(.raw (.slice none 0 0)),(.raw (.slice none 0 0))]) [(0,(.t 35)),(1,(.t 36)),(2,(.t 37)),(3,(.t 38))]))
(.base (.pure0 none (.v (.mov 6 (.t 39)))
.done))
.stop))
.stop))
.stop)))))
(.seq (.ops [(none,.v (.mov 41 (.t 6))),
(none,.e (.call (some 42) 7 [(.t 41)])),
(none,.v (.mov 40 (.t 42))),
(none,.v (.ext 43 0 (.t 40))),
(none,.v (.ext 44 1 (.t 40))),
(none,.v (.ext 45 2 (.t 40))),
(none,.v (.mov 7 (.t 43))),
(none,.v (.mov 8 (.t 44))),
(none,.v (.mov 9 (.t 45)))])
(.seq (.any false (.pure0 none (.v (.load 51 true 5 (.t 2)))
(.alt none (.e (.mkl 47 3 1 1 (.int .i64 0) [(0,(.c (.int .i64 1)))]))
(.base (.alt none (.e (.call (some 48) 15 [(.c (.int .i64 1)),(.c (.str ⟨#[97]⟩)),(.t 47)]))
(.base (.alt none (.e (.mkl 49 3 1 1 (.int .i64 0) [(0,(.c (.int .i64 1)))]))
(.base (.alt none (.e (.call (some 50) 15 [(.c (.int .i64 2)),(.c (.str ⟨#[98]⟩)),(.t 49)]))
(.base (.alt none (.e (.call (some 52) 16 [(.c (.int .i64 1)),(.c (.str ⟨#[98]⟩))]))
(.base (.alt none (.e (.mkl 53 37 5 4 (.agg [(.int .i64 0),(.int .i64 0),(.int .i64 0),(.raw (.slice none 0 0)),(.raw (.slice none 0 0))]) [(0,(.t 48)),(1,(.t 50)),(2,(.t 51)),(3,(.t 52))]))
(.base (.alt none (.e (.call (some 54) 7 [(.t 53)]))
(.base (.pure0 none (.v (.mov 46 (.t 54)))
(.pure0 none (.v (.ext 55 0 (.t 46)))
(.pure0 none (.v (.ext 56 1 (.t 46)))
(.pure0 none (.v (.ext 57 2 (.t 46)))
(.pure0 none (.v (.mov 10 (.t 55)))
(.pure0 none (.v (.mov 11 (.t 56)))
(.pure0 none (.v (.mov 12 (.t 57)))
.done))))))))
.stop))
.stop))
.stop))
.stop))
.stop))
(.alt none (.e (.mkl 49 3 1 1 (.int .i64 0) [(0,(.c (.int .i64 1)))]))
(.base (.alt none (.e (.call (some 48) 15 [(.c (.int .i64 1)),(.c (.str ⟨#[97]⟩)),(.t 47)]))
(.base (.alt none (.e (.call (some 50) 15 [(.c (.int .i64 2)),(.c (.str ⟨#[98]⟩)),(.t 49)]))
(.base (.alt none (.e (.call (some 52) 16 [(.c (.int .i64 1)),(.c (.str ⟨#[98]⟩))]))
(.base (.alt none (.e (.mkl 53 37 5 4 (.agg [(.int .i64 0),(.int .i64 0),(.int .i64 0),(.raw (.slice none 0 0)),(.raw (.slice none 0 0))]) [(0,(.t 48)),(1,(.t 50)),(2,(.t 51)),(3,(.t 52))]))
(.base (.alt none (.e (.call (some 54) 7 [(.t 53)]))
(.base (.pure0 none (.v (.mov 46 (.t 54)))
(.pure0 none (.v (.ext 55 0 (.t 46)))
(.pure0 none (.v (.ext 56 1 (.t 46)))
(.pure0 none (.v (.ext 57 2 (.t 46)))
(.pure0 none (.v (.mov 10 (.t 55)))
(.pure0 none (.v (.mov 11 (.t 56)))
(.pure0 none (.v (.mov 12 (.t 57)))
.done))))))))
.stop))
.stop))
.stop))
.stop))
.stop))
.stop)))
(.alt none (.e (.mkl 49 3 1 1 (.int .i64 0) [(0,(.c (.int .i64 1)))]))
(.base (.alt none (.e (.mkl 47 3 1 1 (.int .i64 0) [(0,(.c (.int .i64 1)))]))
(.base (.alt none (.e (.call (some 48) 15 [(.c (.int .i64 1)),(.c (.str ⟨#[97]⟩)),(.t 47)]))
(.base (.alt none (.e (.call (some 50) 15 [(.c (.int .i64 2)),(.c (.str ⟨#[98]⟩)),(.t 49)]))
(.base (.alt none (.e (.call (some 52) 16 [(.c (.int .i64 1)),(.c (.str ⟨#[98]⟩))]))
(.base (.alt none (.e (.mkl 53 37 5 4 (.agg [(.int .i64 0),(.int .i64 0),(.int .i64 0),(.raw (.slice none 0 0)),(.raw (.slice none 0 0))]) [(0,(.t 48)),(1,(.t 50)),(2,(.t 51)),(3,(.t 52))]))
(.base (.alt none (.e (.call (some 54) 7 [(.t 53)]))
(.base (.pure0 none (.v (.mov 46 (.t 54)))
(.pure0 none (.v (.ext 55 0 (.t 46)))
(.pure0 none (.v (.ext 56 1 (.t 46)))
(.pure0 none (.v (.ext 57 2 (.t 46)))
(.pure0 none (.v (.mov 10 (.t 55)))
(.pure0 none (.v (.mov 11 (.t 56)))
(.pure0 none (.v (.mov 12 (.t 57)))
.done))))))))
.stop))
.stop))
.stop))
.stop))
.stop))
.stop))
.stop))))
(.seq (.any false (.pure0 none (.v (.load 63 true 5 (.t 2)))
(.alt none (.e (.mkl 59 3 1 1 (.int .i64 0) [(0,(.c (.int .i64 1)))]))
(.base (.alt none (.e (.call (some 60) 15 [(.c (.int .i64 1)),(.c (.str ⟨#[97]⟩)),(.t 59)]))
(.base (.alt none (.e (.mkl 61 3 1 1 (.int .i64 0) [(0,(.c (.int .i64 1)))]))
(.base (.alt none (.e (.call (some 62) 15 [(.c (.int .i64 2)),(.c (.str ⟨#[98]⟩)),(.t 61)]))
(.base (.alt none (.e (.call (some 64) 16 [(.c (.int .i64 2)),(.c (.str ⟨#[98]⟩))]))
(.base (.alt none (.e (.mkl 65 37 5 4 (.agg [(.int .i64 0),(.int .i64 0),(.int .i64 0),(.raw (.slice none 0 0)),(.raw (.slice none 0 0))]) [(0,(.t 60)),(1,(.t 62)),(2,(.t 63)),(3,(.t 64))]))
(.base (.alt none (.e (.call (some 66) 7 [(.t 65)]))
(.base (.pure0 none (.v (.mov 58 (.t 66)))
(.pure0 none (.v (.ext 67 0 (.t 58)))
(.pure0 none (.v (.ext 68 1 (.t 58)))
(.pure0 none (.v (.ext 69 2 (.t 58)))
(.pure0 none (.v (.mov 13 (.t 67)))
(.pure0 none (.v (.mov 14 (.t 68)))
(.pure0 none (.v (.mov 15 (.t 69)))
.done))))))))
.stop))
.stop))
.stop))
.stop))
.stop))
(.alt none (.e (.mkl 61 3 1 1 (.int .i64 0) [(0,(.c (.int .i64 1)))]))
(.base (.alt none (.e (.call (some 60) 15 [(.c (.int .i64 1)),(.c (.str ⟨#[97]⟩)),(.t 59)]))
(.base (.alt none (.e (.call (some 62) 15 [(.c (.int .i64 2)),(.c (.str ⟨#[98]⟩)),(.t 61)]))
(.base (.alt none (.e (.call (some 64) 16 [(.c (.int .i64 2)),(.c (.str ⟨#[98]⟩))]))
(.base (.alt none (.e (.mkl 65 37 5 4 (.agg [(.int .i64 0),(.int .i64 0),(.int .i64 0),(.raw (.slice none 0 0)),(.raw (.slice none 0 0))]) [(0,(.t 60)),(1,(.t 62)),(2,(.t 63)),(3,(.t 64))]))
(.base (.alt none (.e (.call (some 66) 7 [(.t 65)]))
(.base (.pure0 none (.v (.mov 58 (.t 66)))
(.pure0 none (.v (.ext 67 0 (.t 58)))
(.pure0 none (.v (.ext 68 1 (.t 58)))
(.pure0 none (.v (.ext 69 2 (.t 58)))
(.pure0 none (.v (.mov 13 (.t 67)))
(.pure0 none (.v (.mov 14 (.t 68)))
(.pure0 none (.v (.mov 15 (.t 69)))
.done))))))))
.stop))
.stop))
.stop))
.stop))
.stop))
.stop)))
(.alt none (.e (.mkl 61 3 1 1 (.int .i64 0) [(0,(.c (.int .i64 1)))]))
(.base (.alt none (.e (.mkl 59 3 1 1 (.int .i64 0) [(0,(.c (.int .i64 1)))]))
(.base (.alt none (.e (.call (some 60) 15 [(.c (.int .i64 1)),(.c (.str ⟨#[97]⟩)),(.t 59)]))
(.base (.alt none (.e (.call (some 62) 15 [(.c (.int .i64 2)),(.c (.str ⟨#[98]⟩)),(.t 61)]))
(.base (.alt none (.e (.call (some 64) 16 [(.c (.int .i64 2)),(.c (.str ⟨#[98]⟩))]))
(.base (.alt none (.e (.mkl 65 37 5 4 (.agg [(.int .i64 0),(.int .i64 0),(.int .i64 0),(.raw (.slice none 0 0)),(.raw (.slice none 0 0))]) [(0,(.t 60)),(1,(.t 62)),(2,(.t 63)),(3,(.t 64))]))
(.base (.alt none (.e (.call (some 66) 7 [(.t 65)]))
(.base (.pure0 none (.v (.mov 58 (.t 66)))
(.pure0 none (.v (.ext 67 0 (.t 58)))
(.pure0 none (.v (.ext 68 1 (.t 58)))
(.pure0 none (.v (.ext 69 2 (.t 58)))
(.pure0 none (.v (.mov 13 (.t 67)))
(.pure0 none (.v (.mov 14 (.t 68)))
(.pure0 none (.v (.mov 15 (.t 69)))
.done))))))))
.stop))
.stop))
.stop))
.stop))
.stop))
.stop))
.stop))))
(.seq (.any false (.pure0 none (.v (.load 73 true 5 (.t 2)))
(.alt none (.e (.mkl 71 3 1 2 (.int .i64 0) [(0,(.c (.int .i64 1))),(1,(.c (.int .i64 2)))]))
(.base (.alt none (.e (.call (some 72) 15 [(.c (.int .i64 3)),(.c (.str ⟨#[99]⟩)),(.t 71)]))
(.base (.alt none (.e (.call (some 74) 16 [(.c (.int .i64 1)),(.c (.str ⟨#[99]⟩))]))
(.base (.alt none (.e (.mkl 75 37 5 3 (.agg [(.int .i64 0),(.int .i64 0),(.int .i64 0),(.raw (.slice none 0 0)),(.raw (.slice none 0 0))]) [(0,(.t 72)),(1,(.t 73)),(2,(.t 74))]))
(.base (.alt none (.e (.call (some 76) 7 [(.t 75)]))
(.base (.pure0 none (.v (.mov 70 (.t 76)))
(.pure0 none (.v (.ext 77 0 (.t 70)))
(.pure0 none (.v (.ext 78 1 (.t 70)))
(.pure0 none (.v (.ext 79 2 (.t 70)))
(.pure0 none (.v (.mov 16 (.t 77)))
(.pure0 none (.v (.mov 17 (.t 78)))
(.pure0 none (.v (.mov 18 (.t 79)))
.done))))))))
.stop))
.stop))
.stop))
.stop))
.stop)))
(.seq (.ops [(none,.e (.mkl 81 3 1 1 (.int .i64 0) [(0,(.c (.int .i64 1)))])),
(none,.e (.call (some 82) 15 [(.c (.int .i64 1)),(.c (.str ⟨#[97]⟩)),(.t 81)])),
(none,.v (.build 83 [(.int .i64 0),(.int .i64 0),(.int .i64 0),(.raw (.slice none 0 0)),(.raw (.slice none 0 0))] [(0,1,(.c (.int .i64 2))),(1,1,(.c (.int .i64 1))),(2,1,(.c (.int .i64 2)))])),
(none,.e (.call (some 84) 16 [(.c (.int .i64 2)),(.c (.str ⟨#[97]⟩))])),
(none,.e (.mkl 85 37 5 3 (.agg [(.int .i64 0),(.int .i64 0),(.int .i64 0),(.raw (.slice none 0 0)),(.raw (.slice none 0 0))]) [(0,(.t 82)),(1,(.t 83)),(2,(.t 84))])),
(none,.e (.call (some 86) 7 [(.t 85)])),
(none,.v (.mov 80 (.t 86))),
(none,.v (.ext 87 0 (.t 80))),
(none,.v (.ext 88 1 (.t 80))),
(none,.v (.ext 89 2 (.t 80))),
(none,.v (.mov 19 (.t 87))),
(none,.v (.mov 20 (.t 88))),
(none,.v (.mov 21 (.t 89)))])
(.seq (.seq (.ops [(none,.v (.mov 90 (.t 5))),
(none,.v (.bin 91 .neq false (.t 90) (.c (.int .i64 0)))),
(none,.v (.mov 92 (.t 91))),
(some (92,false),.v (.mov 93 (.t 9))),
(some (92,false),.v (.bin 94 .neq false (.t 93) (.c (.int .i64 0)))),
(none,.v (.pick 95 (.t 92) (.c (.bool true)) (.t 94))),
(none,.v (.mov 96 (.t 95))),
(some (96,false),.v (.mov 97 (.t 12))),
(some (96,false),.v (.bin 98 .neq false (.t 97) (.c (.int .i64 0)))),
(none,.v (.pick 99 (.t 96) (.c (.bool true)) (.t 98))),
(none,.v (.mov 100 (.t 99))),
(some (100,false),.v (.mov 101 (.t 15))),
(some (100,false),.v (.bin 102 .neq false (.t 101) (.c (.int .i64 0)))),
(none,.v (.pick 103 (.t 100) (.c (.bool true)) (.t 102))),
(none,.v (.mov 104 (.t 103))),
(some (104,false),.v (.mov 105 (.t 18))),
(some (104,false),.v (.bin 106 .neq false (.t 105) (.c (.int .i64 0)))),
(none,.v (.pick 107 (.t 104) (.c (.bool true)) (.t 106))),
(none,.v (.mov 108 (.t 107))),
(some (108,false),.v (.mov 109 (.t 21))),
(some (108,false),.v (.bin 110 .neq false (.t 109) (.c (.int .i64 0)))),
(none,.v (.pick 111 (.t 108) (.c (.bool true)) (.t 110))),
(none,.v (.mov 112 (.t 111))),
(some (112,false),.v (.mov 113 (.t 20))),
(some (112,false),.v (.not 114 (.t 113))),
(none,.v (.pick 115 (.t 112) (.c (.bool true)) (.t 114))),
(none,.v (.mov 116 (.t 115))),
(some (116,false),.v (.mov 117 (.t 19))),
(some (116,false),.e (.mkl 118 3 1 2 (.int .i64 0) [(0,(.c (.int .i64 0))),(1,(.c (.int .i64 1)))])),
(some (116,false),.e (.call (some 119) 9 [(.t 117),(.t 118)])),
(some (116,false),.v (.not 120 (.t 119))),
(none,.v (.pick 121 (.t 116) (.c (.bool true)) (.t 120)))])
(.cond 121
(.seq (.ops [(none,.v (.mov 0 (.c (.bool false))))])
.ret)
.skip))
(.seq (.ops [(none,.v (.mov 122 (.t 4))),
(none,.v (.mov 123 (.t 122))),
(some (123,true),.v (.mov 124 (.t 3))),
(some (123,true),.e (.mkl 125 3 1 1 (.int .i64 0) [(0,(.c (.int .i64 1)))])),
(some (123,true),.e (.call (some 126) 9 [(.t 124),(.t 125)])),
(none,.v (.pick 127 (.t 123) (.t 126) (.c (.bool false)))),
(none,.v (.mov 128 (.t 127))),
(some (128,true),.v (.mov 129 (.t 8))),
(some (128,true),.v (.not 130 (.t 129))),
(none,.v (.pick 131 (.t 128) (.t 130) (.c (.bool false)))),
(none,.v (.mov 132 (.t 131))),
(some (132,true),.v (.mov 133 (.t 6))),
(some (132,true),.e (.mkl 134 3 1 1 (.int .i64 0) [(0,(.c (.int .i64 1)))])),
(some (132,true),.e (.call (some 135) 10 [(.t 133),(.t 134)])),
(some (132,true),.v (.bin 136 .eql false (.t 135) (.c (.int .i64 3)))),
(none,.v (.pick 137 (.t 132) (.t 136) (.c (.bool false)))),
(none,.v (.mov 138 (.t 137))),
(some (138,true),.v (.mov 139 (.t 11))),
(none,.v (.pick 140 (.t 138) (.t 139) (.c (.bool false)))),
(none,.v (.mov 141 (.t 140))),
(some (141,true),.v (.mov 142 (.t 10))),
(some (141,true),.e (.mkl 143 3 1 1 (.int .i64 0) [(0,(.c (.int .i64 2)))])),
(some (141,true),.e (.call (some 144) 9 [(.t 142),(.t 143)])),
(none,.v (.pick 145 (.t 141) (.t 144) (.c (.bool false)))),
(none,.v (.mov 146 (.t 145))),
(some (146,true),.v (.mov 147 (.t 14))),
(none,.v (.pick 148 (.t 146) (.t 147) (.c (.bool false)))),
(none,.v (.mov 149 (.t 148))),
(some (149,true),.v (.mov 150 (.t 13))),
(some (149,true),.e (.mkl 151 3 1 2 (.int .i64 0) [(0,(.c (.int .i64 1))),(1,(.c (.int .i64 2)))])),
(some (149,true),.e (.call (some 152) 9 [(.t 150),(.t 151)])),
(none,.v (.pick 153 (.t 149) (.t 152) (.c (.bool false)))),
(none,.v (.mov 154 (.t 153))),
(some (154,true),.v (.mov 155 (.t 17))),
(some (154,true),.v (.not 156 (.t 155))),
(none,.v (.pick 157 (.t 154) (.t 156) (.c (.bool false)))),
(none,.v (.mov 0 (.t 157)))])
.ret))))))))))))
theorem ok6 : FnOk E 6 158 [.tmp 0] mc6 := .of func6 (by kernel_rfl) (by kernel_rfl) (by kernel_rfl) (by kernel_rfl) (by kernel_rfl)
end Go.Proofs.Try
namespace Go.Proofs.Try
open Go.Proofs.Tryz
open Go.Al
set_option linter.unusedVariables false
set_option linter.unusedSimpArgs false
set_option maxRecDepth 20000
set_option maxHeartbeats 16000000

theorem renL_hapcs {ρ : Nat → Nat} (v : Hap) : renL ρ v.cs = v.cs := by
  have : ren ρ (.agg v.cs) = .agg v.cs := ren_hap (ρ := ρ) v
  rw [ren] at this
  exact AV.agg.inj this
theorem spine6 : ∀ fn, E.P.funcs[6]? = some fn → fn.body.map (Go.Al.spine 10) = some true := fun fn h => by
  have e := func6.symm.trans h
  injection e with e
  subst e
  rfl
abbrev nilH (k tx st : Int) : AV := .agg [.int .i64 k, .int .i64 tx, .int .i64 st, .raw (.slice none 0 0), .raw (.slice none 0 0)]
theorem weak_nilH (k tx st : Int) : Weak (nilH k tx st) (Hap.av ⟨k, tx, st, [], []⟩) := WeakL.agg (.cons (.refl _) (.cons (.refl _) (.cons (.refl _) (.cons weak_nil (.cons weak_nil (.refl _))))))
def X1 : List AV := (askH 1 sA [1]).cs
def X2 : List AV := (askH 2 sB [1]).cs
def X3 : List AV := (askH 3 sC [1, 2]).cs
def X4 : List AV := (seeH 1 sA).cs
def X5 : List AV := (seeH 1 sB).cs
def X6 : List AV := (seeH 2 sB).cs
def X7 : List AV := (seeH 1 sC).cs
def X8 : List AV := (seeH 2 sA).cs
theorem c6 : ACalls E.P 6 [] [] (fun r H => r = .bool true ∧ H = []) := by
  have hmax := maxLen_eq
  have q22a : ACalls E.P 15 [.int .i64 1, .str sA, .view 1 [.int .i64 1]] [] (fun r H => r = .agg X1 ∧ H = []) := c15 1 sA [1] (by decide)
  have q22b : ACalls E.P 15 [.int .i64 2, .str sB, .view 1 [.int .i64 1]] [] (fun r H => r = .agg X2 ∧ H = []) := c15 2 sB [1] (by decide)
  have q22c : ACalls E.P 15 [.int .i64 3, .str sC, .view 1 [.int .i64 1, .int .i64 2]] [] (fun r H => r = .agg X3 ∧ H = []) := c15 3 sC [1, 2] (by decide)
  have q23a : ACalls E.P 16 [.int .i64 1, .str sA] [] (fun r H => r = .agg X4 ∧ H = []) := c16 1 sA
  have q23b : ACalls E.P 16 [.int .i64 1, .str sB] [] (fun r H => r = .agg X5 ∧ H = []) := c16 1 sB
  have q23c : ACalls E.P 16 [.int .i64 2, .str sB] [] (fun r H => r = .agg X6 ∧ H = []) := c16 2 sB
  have q23d : ACalls E.P 16 [.int .i64 1, .str sC] [] (fun r H => r = .agg X7 ∧ H = []) := c16 1 sC
  have q23e : ACalls E.P 16 [.int .i64 2, .str sA] [] (fun r H => r = .agg X8 ∧ H = []) := c16 2 sA
  have q21a : ACalls E.P 7 [.view 5 [.agg X1, nilH 2 1 1, .agg X4]] [] (fun r H => r = .tup [.view 1 [.int .i64 1], .bool true, .int .i64 0] ∧ H = []) := by
    have := c7 exL (by decide)
    rw [ex_L] at this
    exact ACalls.weakArg (WeakL.view (.cons (.refl _) (.cons (weak_nilH 2 1 1) (.refl _)))) this
  have q21b : ACalls E.P 7 [.view 5 [.agg X1, nilH 2 1 1, nilH 4 0 0, nilH 5 0 0]] [] (fun r H => r = .tup [.view 1 [], .bool false, .int .i64 0] ∧ H = []) := by
    have := c7 exLost (by decide)
    rw [ex_Lost] at this
    exact ACalls.weakArg (WeakL.view (.cons (.refl _) (.cons (weak_nilH 2 1 1) (.cons (weak_nilH 4 0 0) (.cons (weak_nilH 5 0 0) (.refl _)))))) this
  have q7 : ACalls E.P 10 [.view 5 [.agg X1, nilH 2 1 1, nilH 4 0 0, nilH 5 0 0], .view 1 [.int .i64 1]] [] (fun r H => r = .int .i64 3 ∧ H = []) := by
    have := c10 exLost ex_right [1] (by decide)
    rw [ex_check] at this
    exact ACalls.weakArg (WeakL.view (.cons (.refl _) (.cons (weak_nilH 2 1 1) (.cons (weak_nilH 4 0 0) (.cons (weak_nilH 5 0 0) (.refl _)))))) this
  have q21c : ACalls E.P 7 [.view 5 [.agg X1, .agg X2, nilH 4 0 0, .agg X5]] [] (fun r H => r = .tup [.view 1 [.int .i64 2], .bool true, .int .i64 0] ∧ H = []) := by
    have := c7 exM (by decide)
    rw [ex_M] at this
    exact ACalls.weakArg (WeakL.view (.cons (.refl _) (.cons (.refl _) (.cons (weak_nilH 4 0 0) (.refl _))))) this
  have q21d : ACalls E.P 7 [.view 5 [.agg X1, .agg X2, nilH 4 0 0, .agg X6]] [] (fun r H => r = .tup [.view 1 [.int .i64 1, .int .i64 2], .bool true, .int .i64 0] ∧ H = []) := by
    have := c7 exN (by decide)
    rw [ex_N] at this
    exact ACalls.weakArg (WeakL.view (.cons (.refl _) (.cons (.refl _) (.cons (weak_nilH 4 0 0) (.refl _))))) this
  have q21e : ACalls E.P 7 [.view 5 [.agg X3, nilH 4 0 0, .agg X7]] [] (fun r H => r = .tup [.view 1 [], .bool false, .int .i64 0] ∧ H = []) := by
    have := c7 exHalf (by decide)
    rw [ex_Half] at this
    exact ACalls.weakArg (WeakL.view (.cons (.refl _) (.cons (weak_nilH 4 0 0) (.refl _)))) this
  have q21f : ACalls E.P 7 [.view 5 [.agg X1, nilH 2 1 2, .agg X8]] [] (fun r H => r = .tup [.view 1 [.int .i64 0, .int .i64 1], .bool true, .int .i64 0] ∧ H = []) := by
    have := c7 exO (by decide)
    rw [ex_O] at this
    exact ACalls.weakArg (WeakL.view (.cons (.refl _) (.cons (weak_nilH 2 1 2) (.refl _)))) this
  have q24 : ∀ n m : Int, n = m → ACalls E.P 9 [.view 1 [.int .i64 n], .view 1 [.int .i64 m]] [] (fun r H => r = .bool true ∧ H = []) := fun n m e => by
    have := c9 [n] [m]
    rw [decide_eq_true (by rw [e])] at this
    exact this
  have q24b : ∀ n m : Int, ACalls E.P 9 [.view 1 [.int .i64 n, .int .i64 m], .view 1 [.int .i64 n, .int .i64 m]] [] (fun r H => r = .bool true ∧ H = []) := fun n m => by
    have := c9 [n, m] [n, m]
    rw [decide_eq_true rfl] at this
    exact this
  have r1 := q24 1 1 rfl
  have r2 := q24 2 2 rfl
  have r3 := q24b 0 1
  have r4 := q24b 1 2
  clear q24 q24b
  have l1 : X1.length = 5 := rfl
  have l2 : X2.length = 5 := rfl
  have l3 : X3.length = 5 := rfl
  have l4 : X4.length = 5 := rfl
  have l5 : X5.length = 5 := rfl
  have l6 : X6.length = 5 := rfl
  have l7 : X7.length = 5 := rfl
  have l8 : X8.length = 5 := rfl
  have eA : (⟨#[97]⟩ : ByteArray) = sA := rfl
  have eB : (⟨#[98]⟩ : ByteArray) = sB := rfl
  have eC : (⟨#[99]⟩ : ByteArray) = sC := rfl
  have n1 : ∀ ρ, renL ρ X1 = X1 := fun ρ => renL_hapcs (ρ := ρ) (askH 1 sA [1])
  have n2 : ∀ ρ, renL ρ X2 = X2 := fun ρ => renL_hapcs (ρ := ρ) (askH 2 sB [1])
  have n3 : ∀ ρ, renL ρ X3 = X3 := fun ρ => renL_hapcs (ρ := ρ) (askH 3 sC [1, 2])
  have n4 : ∀ ρ, renL ρ X4 = X4 := fun ρ => renL_hapcs (ρ := ρ) (seeH 1 sA)
  have n5 : ∀ ρ, renL ρ X5 = X5 := fun ρ => renL_hapcs (ρ := ρ) (seeH 1 sB)
  have n6 : ∀ ρ, renL ρ X6 = X6 := fun ρ => renL_hapcs (ρ := ρ) (seeH 2 sB)
  have n7 : ∀ ρ, renL ρ X7 = X7 := fun ρ => renL_hapcs (ρ := ρ) (seeH 1 sC)
  have n8 : ∀ ρ, renL ρ X8 = X8 := fun ρ => renL_hapcs (ρ := ρ) (seeH 2 sA)
  unfold nilH at *
  refine ok6.acallsF hE hm (by simp) 10 spine6 fun N hN => ?_
  unfold mc6
  rw [eA, eB, eC]
  refine mf_i ?_
  simp only [lA,ptrCells,ptrAdd,isNil,readsV,readsP,isCall,wrote,srcOf,seval]
  refine mf_go (mf_i ?_)
  repeat' (first | (with_reducible apply St.o; constructor) <;> intro _ | ((with_reducible refine mkl_view ?_ ?_ ?_); (focus decide); (focus rfl)) | (with_reducible first | refine LenR_i fun _ => ?_ | refine And.intro (by omega) ?_ | (apply Sp.o; constructor) | refine mkl_own ?_ | refine frz0_i ?_) | simp (maxSteps := 1000000) (disch := omega) only [lE,ptrCells,ptrAdd,isNil,readsV,readsP,isCall,wrote,srcOf,seval,fillE,setAll])
  refine mf_go (mf_i ?_)
  repeat' (first | (with_reducible apply St.o; constructor) <;> intro _ | ((with_reducible refine mkl_view ?_ ?_ ?_); (focus decide); (focus rfl)) | (with_reducible first | refine LenR_i fun _ => ?_ | refine And.intro (by omega) ?_ | (apply Sp.o; constructor) | refine mkl_own ?_ | refine frz0_i ?_) | simp (maxSteps := 1000000) (disch := omega) only [lE,ptrCells,ptrAdd,isNil,readsV,readsP,isCall,wrote,srcOf,seval,fillE,setAll])
  refine mf_go (mf_i ?_)
  repeat' (first | (with_reducible apply St.o; constructor) <;> intro _ | ((with_reducible refine mkl_view ?_ ?_ ?_); (focus decide); (focus rfl)) | (with_reducible first | refine LenR_i fun _ => ?_ | refine And.intro (by omega) ?_ | (apply Sp.o; constructor) | refine mkl_own ?_ | refine frz0_i ?_ | refine any_i [] ?_) | ((with_reducible apply Sc.o false; constructor); simp only [lP,seval,fillE,setAll,l1,l4,n1,n4]; (first | refine ⟨_,q22a,?_⟩ | refine ⟨_,q23a,?_⟩ | refine ⟨_,q21a,?_⟩); rintro _ _ ⟨rfl,rfl⟩; simp only [lA,lP,ptrCells,ptrAdd,isNil,readsV,readsP,isCall,wrote,srcOf,seval,fillE,setAll,l1,l4,n1,n4]) | simp (maxSteps := 1000000) (disch := omega) only [lE,ptrCells,ptrAdd,isNil,readsV,readsP,isCall,wrote,srcOf,seval,fillE,setAll,l1,l4,n1,n4])
  refine mf_go (mf_i ?_)
  repeat' (first | (with_reducible apply St.o; constructor) <;> intro _ | ((with_reducible refine mkl_view ?_ ?_ ?_); (focus decide); (focus rfl)) | (with_reducible first | refine LenR_i fun _ => ?_ | refine And.intro (by omega) ?_ | (apply Sp.o; constructor) | refine mkl_own ?_ | refine frz0_i ?_ | refine any_i [] ?_) | ((with_reducible apply Sc.o false; constructor); simp only [lP,seval,fillE,setAll,l1,n1]; refine ⟨_,q22a,?_⟩; rintro _ _ ⟨rfl,rfl⟩; simp only [lA,lP,ptrCells,ptrAdd,isNil,readsV,readsP,isCall,wrote,srcOf,seval,fillE,setAll,l1,n1]) | simp (maxSteps := 1000000) (disch := omega) only [lE,ptrCells,ptrAdd,isNil,readsV,readsP,isCall,wrote,srcOf,seval,fillE,setAll,l1,n1])
  refine mf_go (mf_i ?_)
  repeat' (first | (with_reducible apply St.o; constructor) <;> intro _ | ((with_reducible refine mkl_view ?_ ?_ ?_); (focus decide); (focus rfl)) | (with_reducible first | refine LenR_i fun _ => ?_ | refine And.intro (by omega) ?_ | (apply Sp.o; constructor) | refine mkl_own ?_ | refine frz0_i ?_ | refine any_i [] ?_) | ((with_reducible apply Sc.o false; constructor); simp only [lP,seval,fillE,setAll]; refine ⟨_,q21b,?_⟩; rintro _ _ ⟨rfl,rfl⟩; simp only [lA,lP,ptrCells,ptrAdd,isNil,readsV,readsP,isCall,wrote,srcOf,seval,fillE,setAll]) | simp (maxSteps := 1000000) (disch := omega) only [lE,ptrCells,ptrAdd,isNil,readsV,readsP,isCall,wrote,srcOf,seval,fillE,setAll])
  refine mf_go (mf_i ?_)
  repeat' (first | (with_reducible apply St.o; constructor) <;> intro _ | ((with_reducible refine mkl_view ?_ ?_ ?_); (focus decide); (focus rfl)) | (with_reducible first | refine LenR_i fun _ => ?_ | refine And.intro (by omega) ?_ | (apply Sp.o; constructor) | refine mkl_own ?_ | refine frz0_i ?_ | refine any_i [] ?_) | ((with_reducible apply Sc.o false; constructor); simp only [lP,seval,fillE,setAll,l1,l2,l5,n1,n2,n5]; (first | refine ⟨_,q22a,?_⟩ | refine ⟨_,q22b,?_⟩ | refine ⟨_,q23b,?_⟩ | refine ⟨_,q21c,?_⟩); rintro _ _ ⟨rfl,rfl⟩; simp only [lA,lP,ptrCells,ptrAdd,isNil,readsV,readsP,isCall,wrote,srcOf,seval,fillE,setAll,l1,l2,l5,n1,n2,n5]) | simp (maxSteps := 1000000) (disch := omega) only [lE,ptrCells,ptrAdd,isNil,readsV,readsP,isCall,wrote,srcOf,seval,fillE,setAll,l1,l2,l5,n1,n2,n5])
  all_goals
    refine mf_to (fr' := [(1, .op 0 0), (2, .op 1 0), (3, .view 1 [.int .i64 1]), (4, .bool true), (5, .int .i64 0), (6, .view 5 [.agg X1, nilH 2 1 1, nilH 4 0 0, nilH 5 0 0]), (8, .bool false), (9, .int .i64 0), (10, .view 1 [.int .i64 2]), (11, .bool true), (12, .int .i64 0)]) (H' := [.box [.int .i64 2, .int .i64 1, .int .i64 1, .raw (.slice none 0 0), .raw (.slice none 0 0)], .box [.int .i64 4, .int .i64 0, .int .i64 0, .raw (.slice none 0 0), .raw (.slice none 0 0)]]) (Ent.fr (by simp [FrSub, Go.Al.get])) (mf_i ?_)
    repeat' (first | (with_reducible apply St.o; constructor) <;> intro _ | ((with_reducible refine mkl_view ?_ ?_ ?_); (focus decide); (focus rfl)) | (with_reducible first | refine LenR_i fun _ => ?_ | refine And.intro (by omega) ?_ | (apply Sp.o; constructor) | refine mkl_own ?_ | refine frz0_i ?_ | refine any_i [] ?_) | ((with_reducible apply Sc.o false; constructor); simp only [lP,seval,fillE,setAll,l1,l2,l6,n1,n2,n6]; (first | refine ⟨_,q22a,?_⟩ | refine ⟨_,q22b,?_⟩ | refine ⟨_,q23c,?_⟩ | refine ⟨_,q21d,?_⟩); rintro _ _ ⟨rfl,rfl⟩; simp only [lA,lP,ptrCells,ptrAdd,isNil,readsV,readsP,isCall,wrote,srcOf,seval,fillE,setAll,l1,l2,l6,n1,n2,n6]) | simp (maxSteps := 1000000) (disch := omega) only [lE,ptrCells,ptrAdd,isNil,readsV,readsP,isCall,wrote,srcOf,seval,fillE,setAll,l1,l2,l6,n1,n2,n6])
  all_goals
    refine mf_to (fr' := [(1, .op 0 0), (2, .op 1 0), (3, .view 1 [.int .i64 1]), (4, .bool true), (5, .int .i64 0), (6, .view 5 [.agg X1, nilH 2 1 1, nilH 4 0 0, nilH 5 0 0]), (8, .bool false), (9, .int .i64 0), (10, .view 1 [.int .i64 2]), (11, .bool true), (12, .int .i64 0), (13, .view 1 [.int .i64 1, .int .i64 2]), (14, .bool true), (15, .int .i64 0)]) (H' := [.box [.int .i64 2, .int .i64 1, .int .i64 1, .raw (.slice none 0 0), .raw (.slice none 0 0)], .box [.int .i64 4, .int .i64 0, .int .i64 0, .raw (.slice none 0 0), .raw (.slice none 0 0)]]) (Ent.fr (by simp [FrSub, Go.Al.get])) (mf_i ?_)
    repeat' (first | (with_reducible apply St.o; constructor) <;> intro _ | ((with_reducible refine mkl_view ?_ ?_ ?_); (focus decide); (focus rfl)) | (with_reducible first | refine LenR_i fun _ => ?_ | refine And.intro (by omega) ?_ | (apply Sp.o; constructor) | refine mkl_own ?_ | refine frz0_i ?_ | refine any_i [] ?_) | ((with_reducible apply Sc.o false; constructor); simp only [lP,seval,fillE,setAll,l3,l7,n3,n7]; (first | refine ⟨_,q22c,?_⟩ | refine ⟨_,q23d,?_⟩ | refine ⟨_,q21e,?_⟩); rintro _ _ ⟨rfl,rfl⟩; simp only [lA,lP,ptrCells,ptrAdd,isNil,readsV,readsP,isCall,wrote,srcOf,seval,fillE,setAll,l3,l7,n3,n7]) | simp (maxSteps := 1000000) (disch := omega) only [lE,ptrCells,ptrAdd,isNil,readsV,readsP,isCall,wrote,srcOf,seval,fillE,setAll,l3,l7,n3,n7])
    refine mf_go (mf_i ?_)
    repeat' (first | (with_reducible apply St.o; constructor) <;> intro _ | ((with_reducible refine mkl_view ?_ ?_ ?_); (focus decide); (focus rfl)) | (with_reducible first | refine LenR_i fun _ => ?_ | refine And.intro (by omega) ?_ | (apply Sp.o; constructor) | refine mkl_own ?_ | refine frz0_i ?_ | refine any_i [] ?_) | ((with_reducible apply Sc.o false; constructor); simp only [lP,seval,fillE,setAll,l1,l8,n1,n8]; (first | refine ⟨_,q22a,?_⟩ | refine ⟨_,q23e,?_⟩ | refine ⟨_,q21f,?_⟩); rintro _ _ ⟨rfl,rfl⟩; simp only [lA,lP,ptrCells,ptrAdd,isNil,readsV,readsP,isCall,wrote,srcOf,seval,fillE,setAll,l1,l8,n1,n8]) | simp (maxSteps := 1000000) (disch := omega) only [lE,ptrCells,ptrAdd,isNil,readsV,readsP,isCall,wrote,srcOf,seval,fillE,setAll,l1,l8,n1,n8])
    refine mf_go (mf_last ?_)
    repeat' (first | (with_reducible apply St.o; constructor) <;> intro _ | ((with_reducible refine mkl_view ?_ ?_ ?_); (focus decide); (focus rfl)) | (with_reducible first | refine LenR_i fun _ => ?_ | refine And.intro (by omega) ?_ | (apply Sp.o; constructor) | refine mkl_own ?_ | refine frz0_i ?_ | refine any_i [] ?_) | ((with_reducible apply Sc.o true; constructor); simp only [lP,seval,fillE,setAll]; (first | refine ⟨_,q7,?_⟩ | refine ⟨_,r1,?_⟩ | refine ⟨_,r2,?_⟩ | refine ⟨_,r3,?_⟩ | refine ⟨_,r4,?_⟩); rintro _ _ ⟨rfl,rfl⟩; simp only [lA,lP,ptrCells,ptrAdd,isNil,readsV,readsP,isCall,wrote,srcOf,seval,fillE,setAll]) | simp (maxSteps := 1000000) (disch := omega) only [lE,ptrCells,ptrAdd,isNil,readsV,readsP,isCall,wrote,srcOf,seval,fillE,setAll])
    exact keep0_i ⟨rfl, rfl⟩
end Go.Proofs.Try

