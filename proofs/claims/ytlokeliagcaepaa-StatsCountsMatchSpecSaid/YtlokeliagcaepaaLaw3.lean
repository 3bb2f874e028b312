/-
  For the histograms: the counts of a table and the histogram of a column are what the specification defines, whatever the rows.
-/
import Derived.Test.YtlokeliagcaepaaEaud
import Derived.Test.YtlokeliagcaepaaEat
import Derived.Test.YtlokeliagcaepaaEau
import Derived.Test.YtlokeliagcaepaaReads
import Derived.Test.YtlokeliagcaepaaRows
set_option linter.unusedSimpArgs false
set_option linter.unusedVariables false
namespace Go.Proofs.Try
open Go.Al
set_option maxRecDepth 100000
/-- alum/alumlaw39.StatsCountsMatchSpec -/
def mc3 : MC :=
 (.seq (.ops [(none, (.v (.mov 8 (.c (.bool false)))))])
 (.seq (.ops [(none, (.v (.mov 18 (.t 0)))),
 (none, (.e (.call (some 19) 9 [(.t 18)]))),
 (none, (.v (.mov 9 (.t 19))))])
 (.seq (.seq (.ops [(none, (.v (.mov 20 (.t 9)))),
 (none, (.v (.not 21 (.t 20)))),
 (none, (.v (.mov 22 (.t 21)))),
 ((some (22, false)), (.v (.mov 23 (.t 1)))),
 ((some (22, false)), (.v (.bin 24 .gtr false (.t 23) (.c (.int .i64 100))))),
 (none, (.v (.pick 25 (.t 22) (.c (.bool true)) (.t 24))))])
 (.cond 25
 (.seq (.ops [(none, (.e (.call (some 26) 10 []))),
 (none, (.v (.mov 8 (.t 26))))])
 .ret)
 .skip))
 (.seq (.ops [(none, (.v (.mov 28 (.t 0)))),
 (none, (.v (.mov 29 (.t 1)))),
 (none, (.e (.call (some 30) 11 [(.t 28), (.t 29)]))),
 (none, (.v (.mov 27 (.t 30)))),
 (none, (.v (.ext 31 0 (.t 27)))),
 (none, (.v (.ext 32 1 (.t 27)))),
 (none, (.e (.alloc 10 [(.int .i64 0), (.raw (.slice none 0 0))]))),
 (none, (.e (.store 2 true (.t 10) (.t 31)))),
 (none, (.v (.mov 11 (.t 32))))])
 (.seq (.ops [(none, (.v (.mov 34 (.t 0)))),
 (none, (.v (.mov 35 (.t 1)))),
 (none, (.e (.call (some 36) 12 [(.t 34), (.t 35)]))),
 (none, (.v (.mov 33 (.t 36)))),
 (none, (.v (.ext 37 0 (.t 33)))),
 (none, (.v (.ext 38 1 (.t 33)))),
 (none, (.e (.alloc 12 [(.int .i64 0), (.raw (.slice none 0 0))]))),
 (none, (.e (.store 2 true (.t 12) (.t 37)))),
 (none, (.v (.mov 13 (.t 38))))])
 (.seq (.ops [(none, (.v (.mov 40 (.t 0)))),
 (none, (.v (.mov 41 (.t 2)))),
 (none, (.v (.mov 42 (.t 3)))),
 (none, (.e (.call (some 43) 13 [(.t 40), (.t 41), (.t 42)]))),
 (none, (.v (.mov 39 (.t 43)))),
 (none, (.v (.ext 44 0 (.t 39)))),
 (none, (.v (.ext 45 1 (.t 39)))),
 (none, (.e (.alloc 14 [(.int .i64 0), (.int .i64 0), (.raw (.slice none 0 0))]))),
 (none, (.e (.store 3 true (.t 14) (.t 44)))),
 (none, (.v (.mov 15 (.t 45))))])
 (.seq (.ops [(none, (.v (.mov 47 (.t 0)))),
 (none, (.v (.mov 48 (.t 2)))),
 (none, (.v (.mov 49 (.t 3)))),
 (none, (.e (.call (some 50) 14 [(.t 47), (.t 48), (.t 49)]))),
 (none, (.v (.mov 46 (.t 50)))),
 (none, (.v (.ext 51 0 (.t 46)))),
 (none, (.v (.ext 52 1 (.t 46)))),
 (none, (.e (.alloc 16 [(.int .i64 0), (.int .i64 0), (.raw (.slice none 0 0))]))),
 (none, (.e (.store 3 true (.t 16) (.t 51)))),
 (none, (.v (.mov 17 (.t 52))))])
 (.seq (.ops [(none, (.e (.call (some 53) 10 []))),
 (none, (.v (.mov 54 (.t 53)))),
 ((some (54, true)), (.v (.fld 55 0 (.t 10)))),
 ((some (54, true)), (.v (.load 56 false 1 (.t 55)))),
 ((some (54, true)), (.v (.fld 57 0 (.t 12)))),
 ((some (54, true)), (.v (.load 58 false 1 (.t 57)))),
 ((some (54, true)), (.v (.bin 59 .eql false (.t 56) (.t 58)))),
 (none, (.v (.pick 60 (.t 54) (.t 59) (.c (.bool false))))),
 (none, (.v (.mov 61 (.t 60)))),
 ((some (61, true)), (.v (.fld 62 1 (.t 10)))),
 ((some (61, true)), (.v (.load 63 false 1 (.t 62)))),
 ((some (61, true)), (.v (.fld 64 1 (.t 12)))),
 ((some (61, true)), (.v (.load 65 false 1 (.t 64)))),
 ((some (61, true)), (.e (.call (some 66) 15 [(.t 63), (.t 65)]))),
 (none, (.v (.pick 67 (.t 61) (.t 66) (.c (.bool false))))),
 (none, (.v (.mov 68 (.t 67)))),
 ((some (68, true)), (.v (.mov 69 (.t 11)))),
 ((some (68, true)), (.v (.mov 70 (.t 13)))),
 ((some (68, true)), (.v (.bin 71 .eql false (.t 69) (.t 70)))),
 (none, (.v (.pick 72 (.t 68) (.t 71) (.c (.bool false))))),
 (none, (.v (.mov 73 (.t 72)))),
 ((some (73, true)), (.v (.load 74 true 3 (.t 14)))),
 ((some (73, true)), (.v (.load 75 true 3 (.t 16)))),
 ((some (73, true)), (.e (.call (some 76) 16 [(.t 74), (.t 75)]))),
 (none, (.v (.pick 77 (.t 73) (.t 76) (.c (.bool false))))),
 (none, (.v (.mov 78 (.t 77)))),
 ((some (78, true)), (.v (.mov 79 (.t 15)))),
 ((some (78, true)), (.v (.mov 80 (.t 17)))),
 ((some (78, true)), (.v (.bin 81 .eql false (.t 79) (.t 80)))),
 (none, (.v (.pick 82 (.t 78) (.t 81) (.c (.bool false))))),
 (none, (.v (.mov 8 (.t 82))))])
 .ret))))))))
theorem ok3 : FnOk E 3 83 [.tmp 8] mc3 := .of func3 (by kernel_rfl) (by kernel_rfl) (by kernel_rfl) (by kernel_rfl) (by kernel_rfl)
end Go.Proofs.Try
namespace Go.Proofs.Try
open Go.Al
set_option linter.unusedVariables false
set_option linter.unusedSimpArgs false
set_option maxRecDepth 20000
set_option maxHeartbeats 8000000
theorem c3 (l : List (List VL)) (cols col most : Int) : ACalls E.P 3 [.view 1 (l.map rowV), .int .i64 cols, .int .i64 col, .int .i64 most] [] (fun r H => r = .bool true ∧ H = []) := by
  have hmax := maxLen_eq
  have h10 := c10
  have h9 := c9 l
  by_cases hf : fewR l ∧ cols ≤ 100
  · obtain ⟨hf, hc⟩ := hf
    rw [decide_eq_true hf] at h9
    have h11 := c11 l cols hf hc
    have h12 := c12 l cols hf hc
    have h13 := c13 l col most hf
    have h14 := c14 l col most hf
    have h15 := c15 (stOf l cols).2.1 (stOf l cols).2.1
    have h16 := c16 (histOf l col most).1 (histOf l col most).1
    rw [decide_eq_true rfl] at h15 h16
    generalize stOf l cols = p at *
    generalize histOf l col most = q at *
    obtain ⟨p1, p2, p3⟩ := p
    obtain ⟨⟨q1, q2, q3⟩, q4⟩ := q
    simp only [hist_av] at h11 h12 h13 h14 h15 h16
    refine ok3.acalls hE hm (by simp) fun N hN => ?_
    unfold mc3
    simp only [lA, ptrCells, ptrAdd, isNil, readsV, readsP, isCall, wrote, srcOf, seval]
    repeat' (first
     | (with_reducible apply St.o; constructor) <;> intro _
     | with_reducible first | refine LenR_i fun _ => ?_ | refine And.intro (by omega) ?_ | (apply Sp.o; constructor) | refine mkl_own ?_ | refine frz0_i ?_
     | ((with_reducible apply Sc.o true; constructor); simp only [lP, seval, ti27, ti33]; (first | refine ⟨_, h9, ?_⟩ | refine ⟨_, h10, ?_⟩ | refine ⟨_, h15, ?_⟩ | refine ⟨_, h16, ?_⟩); rintro _ _ ⟨rfl, rfl⟩; simp only [lA, lP, ptrCells, ptrAdd, isNil, readsV, readsP, isCall, wrote, srcOf, seval, ti27, ti33])
     | ((with_reducible apply Sc.o false; constructor); simp only [lP, seval, ti27, ti33]; (first | refine ⟨_, h11, ?_⟩ | refine ⟨_, h12, ?_⟩ | refine ⟨_, h13, ?_⟩ | refine ⟨_, h14, ?_⟩); rintro _ _ ⟨rfl, rfl⟩; simp only [lA, lP, ptrCells, ptrAdd, isNil, readsV, readsP, isCall, wrote, srcOf, seval, ti27, ti33])
     | simp (maxSteps := 1000000) (disch := omega) only [lE, ptrCells, ptrAdd, isNil, readsV, readsP, isCall, wrote, srcOf, seval, ti27, ti33])
    all_goals first | omega | exact keep0_i ⟨rfl, rfl⟩
  · refine ok3.acalls hE hm (by simp) fun N hN => ?_
    unfold mc3
    simp only [lA, ptrCells, ptrAdd, isNil, readsV, readsP, isCall, wrote, srcOf, seval]
    repeat' (first
     | (with_reducible apply St.o; constructor) <;> intro _
     | with_reducible first | refine LenR_i fun _ => ?_ | refine And.intro (by omega) ?_ | (apply Sp.o; constructor) | refine mkl_own ?_ | refine frz0_i ?_
     | ((with_reducible apply Sc.o true; constructor); simp only [lP, seval]; (first | refine ⟨_, h9, ?_⟩ | refine ⟨_, h10, ?_⟩); rintro _ _ ⟨rfl, rfl⟩; simp only [lA, lP, ptrCells, ptrAdd, isNil, readsV, readsP, isCall, wrote, srcOf, seval])
     | simp (maxSteps := 1000000) (disch := omega) only [lE, ptrCells, ptrAdd, isNil, readsV, readsP, isCall, wrote, srcOf, seval])
    all_goals first
      | exact keep0_i ⟨rfl, rfl⟩
      | (exfalso; exact hf ⟨by assumption, by omega⟩)
end Go.Proofs.Try


namespace Go.Proofs.Ytlokeliagcaepaa
open Go.Al Go.Proofs.Try
open Go.ChangeShapes Go.WideShapes Go.ChangeAt Go.RowKit
set_option linter.unusedVariables false
set_option maxRecDepth 100000 in
theorem lifted3 (os : Os) (started : os.Started) (H : Type) (enc : TypeId × Value → H) :
    ReturnsInHanded {} Try.checked os 3 .any (Rows.statsCountsMatchSpecSpec.pre6 enc Try.prog Try.f3 Rows.statsCountsMatchSpecRow.domain false) (Rows.statsCountsMatchSpecSpec.post enc Try.prog Try.f3 false true false false) := by
  refine returnsInHanded_of_change (C := Try.checked) own started (by kernel_rfl) Try.func3
    (ChangeSpec.witness6 (enc := enc) (C := Try.checked) false ⟨#[], #[.slice none 0 0, .int .i64 0, .int .i64 0, .int .i64 0], []⟩ 8 (by kernel_rfl) (by kernel_rfl) (by kernel_rfl) (by kernel_rfl)) ?_
  intro W base args ds gs before hval hW _ _
  exact contract_of hE kids full (s := Rows.statsCountsMatchSpecSpec) (tb := 4) (by rw [Try.params3]; decide +kernel) (by rw [Try.params3]; exact reads_cons rv22 (reads_cons rv3 (reads_cons rv3 (reads_cons rv3 (reads_nil))))) (by rintro _ ⟨a, _, ha, ⟨b, _, hb, ⟨c, _, hc, ⟨d, _, hd, rfl, rfl⟩, rfl⟩, rfl⟩, rfl⟩; exact c3 a b c d) rfl
    (by rw [Try.params3]; rintro H (_ | ⟨d0, (_ | ⟨d1, (_ | ⟨d2, (_ | ⟨d3, (_ | ⟨dz, ds⟩)⟩)⟩)⟩)⟩) hl <;> simp at hl; exact ⟨rfl, rfl, rfl⟩) (by kernel_rfl) (by kernel_rfl) H enc W base args ds gs before (glob_ok _) hval hW
theorem statsCountsMatchSpec_holds : Rows.StatsCountsMatchSpecSaid :=
  OpenClaim.holds_of_wide 3 Try.f3 rfl rfl rfl rfl rfl rfl rfl ⟨rfl, rfl, rfl, rfl, rfl⟩ rfl rfl rfl rfl rfl (by kernel_rfl) Try.func3 (by kernel_rfl)
    (of_decide_eq_true (by kernel_rfl)) (by unfold Func.isWrapper; first | (rw [if_pos (by decide +kernel)]; kernel_rfl) | (rw [if_neg (by decide +kernel)]; exact ⟨rfl, rfl⟩))
    (fun os started H enc _ => lifted3 os started H enc)
end Go.Proofs.Ytlokeliagcaepaa
