/-
  For the histograms: a histogram describes the column that it was made of, and has no more bars than were asked for.
-/
import Derived.Test.YtlokeliagcaepaaEaud
import Derived.Test.YtlokeliagcaepaaEaue
import Derived.Test.YtlokeliagcaepaaPar
import Derived.Test.YtlokeliagcaepaaReads
import Derived.Test.YtlokeliagcaepaaRows
set_option linter.unusedSimpArgs false
set_option linter.unusedVariables false
namespace Go.Proofs.Try
open Go.Al
set_option maxRecDepth 100000
/-- alum/alumlaw39.StatsHistogramDescribes -/
def mc5 : MC :=
 (.seq (.ops [(none, (.v (.mov 6 (.c (.bool false)))))])
 (.seq (.ops [(none, (.v (.mov 11 (.t 0)))),
 (none, (.v (.mov 12 (.t 1)))),
 (none, (.v (.mov 13 (.t 2)))),
 (none, (.e (.call (some 14) 29 [(.t 11), (.t 12), (.t 13)]))),
 (none, (.v (.mov 10 (.t 14)))),
 (none, (.v (.ext 15 0 (.t 10)))),
 (none, (.v (.ext 16 1 (.t 10)))),
 (none, (.e (.alloc 7 [(.int .i64 0), (.int .i64 0), (.raw (.slice none 0 0))]))),
 (none, (.e (.store 3 true (.t 7) (.t 15)))),
 (none, (.v (.mov 8 (.t 16))))])
 (.seq (.seq (.ops [(none, (.v (.mov 17 (.t 8)))),
 (none, (.v (.not 18 (.t 17))))])
 (.cond 18
 (.seq (.ops [(none, (.e (.call (some 19) 10 []))),
 (none, (.v (.mov 6 (.t 19))))])
 .ret)
 .skip))
 (.seq (.ops [(none, (.v (.mov 20 (.t 2)))),
 (none, (.v (.conv 21 .i64 (.t 20)))),
 (none, (.p (.rem 22 (.t 21) (.c (.int .i64 100))))),
 (none, (.v (.bin 23 .add false (.c (.int .i64 1)) (.t 22)))),
 (none, (.v (.mov 9 (.t 23))))])
 (.seq (.ops [(none, (.e (.call (some 24) 10 []))),
 (none, (.v (.mov 25 (.t 24)))),
 ((some (25, true)), (.v (.fld 26 2 (.t 7)))),
 ((some (25, true)), (.v (.load 27 false 1 (.t 26)))),
 ((some (25, true)), (.p (.len 28 (.t 27)))),
 ((some (25, true)), (.v (.mov 29 (.t 9)))),
 ((some (25, true)), (.v (.bin 30 .leq false (.t 28) (.t 29)))),
 (none, (.v (.pick 31 (.t 25) (.t 30) (.c (.bool false))))),
 (none, (.v (.mov 32 (.t 31)))),
 ((some (32, true)), (.v (.mov 33 (.t 0)))),
 ((some (32, true)), (.p (.len 34 (.t 33)))),
 ((some (32, true)), (.v (.bin 35 .eql false (.t 34) (.c (.int .i64 0))))),
 ((some (32, true)), (.v (.mov 36 (.t 35)))),
 ((some (36, false)), (.v (.load 37 true 3 (.t 7)))),
 ((some (36, false)), (.v (.mov 38 (.t 0)))),
 ((some (36, false)), (.v (.mov 39 (.t 1)))),
 ((some (36, false)), (.e (.call (some 40) 30 [(.t 37), (.t 38), (.t 39)]))),
 ((some (32, true)), (.v (.pick 41 (.t 36) (.c (.bool true)) (.t 40)))),
 (none, (.v (.pick 42 (.t 32) (.t 41) (.c (.bool false))))),
 (none, (.v (.mov 6 (.t 42))))])
 .ret)))))
theorem ok5 : FnOk E 5 43 [.tmp 6] mc5 := .of func5 (by kernel_rfl) (by kernel_rfl) (by kernel_rfl) (by kernel_rfl) (by kernel_rfl)
end Go.Proofs.Try
namespace Go.Proofs.Try
open Go.Al
set_option linter.unusedVariables false
set_option linter.unusedSimpArgs false
set_option maxRecDepth 20000
set_option maxHeartbeats 8000000
theorem c5 (l : List (List VL)) (col m : Int) (hm0 : 0 ≤ m ∧ m ≤ 255) : ACalls E.P 5 [.view 1 (l.map rowV), .int .i64 col, .int .u8 m] [] (fun r H => r = .bool true ∧ H = []) := by
  have hmax := maxLen_eq
  have h10 := c10
  have h29 := c29 l col m hm0
  have h5 : IntKind.i64.wrap m = m := by rw [IntKind.wrap_i64]; omega
  have h6 : m.tmod 100 = m % 100 := by rw [Int.tmod_eq_emod_of_nonneg (by omega)]
  have h7 : IntKind.i64.wrap (1 + m % 100) = 1 + m % 100 := by rw [IntKind.wrap_i64]; omega
  by_cases hk : (madeOf l col m).2 = true
  · obtain ⟨hf, he, ho⟩ := made_true hk
    obtain ⟨hd, hlen, hc⟩ := hist_desc hf ho
    rw [← he] at hd hlen
    have hrw := hok ((chk_eq _).trans hd.chk)
    have hl60 := hf.2
    have h30 := c30 (madeOf l col m).1 l col hd (fun b hb => by
      have := (hrw.ok hb).rows0
      have := (hrw.ok hb).rows
      exact ⟨by omega, by omega⟩) hc (by omega)
    rw [hk] at h29
    clear hd he ho hrw
    generalize (madeOf l col m).1 = q at *
    obtain ⟨q1, q2, q3⟩ := q
    simp only [hist_av] at *
    refine ok5.acalls hE hm (by simp) fun N hN => ?_
    unfold mc5
    simp only [lA, ptrCells, ptrAdd, isNil, readsV, readsP, isCall, wrote, srcOf, seval]
    repeat' (first
     | (with_reducible apply St.o; constructor) <;> intro _
     | with_reducible first | refine LenR_i fun _ => ?_ | refine And.intro (by omega) ?_ | (apply Sp.o; constructor) | refine mkl_own ?_ | refine frz0_i ?_
     | ((with_reducible apply Sc.o true; constructor); simp only [lP, seval, ti33, h5, h6, h7, List.length_map]; (first | refine ⟨_, h30, ?_⟩ | refine ⟨_, h10, ?_⟩); rintro _ _ ⟨rfl, rfl⟩; simp only [lA, lP, ptrCells, ptrAdd, isNil, readsV, readsP, isCall, wrote, srcOf, seval, ti33, h5, h6, h7, List.length_map])
     | ((with_reducible apply Sc.o false; constructor); simp only [lP, seval, ti33, h5, h6, h7, List.length_map]; refine ⟨_, h29, ?_⟩; rintro _ _ ⟨rfl, rfl⟩; simp only [lA, lP, ptrCells, ptrAdd, isNil, readsV, readsP, isCall, wrote, srcOf, seval, ti33, h5, h6, h7, List.length_map])
     | simp (maxSteps := 1000000) (disch := omega) only [lE, ptrCells, ptrAdd, isNil, readsV, readsP, isCall, wrote, srcOf, seval, ti33, h5, h6, h7, List.length_map])
    all_goals first | (exfalso; omega) | exact keep0_i ⟨rfl, rfl⟩
  · have hkf : (madeOf l col m).2 = false := by simpa using hk
    rw [hkf] at h29
    generalize (madeOf l col m).1 = q at *
    obtain ⟨q1, q2, q3⟩ := q
    simp only [hist_av] at *
    refine ok5.acalls hE hm (by simp) fun N hN => ?_
    unfold mc5
    simp only [lA, ptrCells, ptrAdd, isNil, readsV, readsP, isCall, wrote, srcOf, seval]
    repeat' (first
     | (with_reducible apply St.o; constructor) <;> intro _
     | with_reducible first | refine LenR_i fun _ => ?_ | refine And.intro (by omega) ?_ | (apply Sp.o; constructor) | refine mkl_own ?_ | refine frz0_i ?_
     | ((with_reducible apply Sc.o true; constructor); simp only [lP, seval, ti33]; refine ⟨_, h10, ?_⟩; rintro _ _ ⟨rfl, rfl⟩; simp only [lA, lP, ptrCells, ptrAdd, isNil, readsV, readsP, isCall, wrote, srcOf, seval, ti33])
     | ((with_reducible apply Sc.o false; constructor); simp only [lP, seval, ti33]; refine ⟨_, h29, ?_⟩; rintro _ _ ⟨rfl, rfl⟩; simp only [lA, lP, ptrCells, ptrAdd, isNil, readsV, readsP, isCall, wrote, srcOf, seval, ti33])
     | simp (maxSteps := 1000000) (disch := omega) only [lE, ptrCells, ptrAdd, isNil, readsV, readsP, isCall, wrote, srcOf, seval, ti33])
    all_goals exact keep0_i ⟨rfl, rfl⟩
end Go.Proofs.Try


namespace Go.Proofs.Ytlokeliagcaepaa
open Go.Al Go.Proofs.Try
open Go.ChangeShapes Go.WideShapes Go.ChangeAt Go.RowKit
set_option linter.unusedVariables false
set_option maxRecDepth 100000 in
theorem lifted5 (os : Os) (started : os.Started) (H : Type) (enc : TypeId × Value → H) :
    ReturnsInHanded {} Try.checked os 5 .any (Rows.statsHistogramDescribesSpec.pre6 enc Try.prog Try.f5 Rows.statsHistogramDescribesRow.domain false) (Rows.statsHistogramDescribesSpec.post enc Try.prog Try.f5 false true false false) := by
  refine returnsInHanded_of_change (C := Try.checked) own started (by kernel_rfl) Try.func5
    (ChangeSpec.witness6 (enc := enc) (C := Try.checked) false ⟨#[], #[.slice none 0 0, .int .i64 0, .int .u8 0], []⟩ 8 (by kernel_rfl) (by kernel_rfl) (by kernel_rfl) (by kernel_rfl)) ?_
  intro W base args ds gs before hval hW _ _
  exact contract_of hE kids full (s := Rows.statsHistogramDescribesSpec) (tb := 4) (by rw [Try.params5]; decide +kernel) (by rw [Try.params5]; exact reads_cons rv22 (reads_cons rv3 (reads_cons rv5 (reads_nil)))) (by rintro _ ⟨a, _, ha, ⟨b, _, hb, ⟨c, _, hc, rfl, rfl⟩, rfl⟩, rfl⟩; exact c5 a b c hc) rfl
    (by rw [Try.params5]; rintro H (_ | ⟨d0, (_ | ⟨d1, (_ | ⟨d2, (_ | ⟨dz, ds⟩)⟩)⟩)⟩) hl <;> simp at hl; exact ⟨rfl, rfl, rfl⟩) (by kernel_rfl) (by kernel_rfl) H enc W base args ds gs before (glob_ok _) hval hW
theorem statsHistogramDescribes_holds : Rows.StatsHistogramDescribesSaid :=
  OpenClaim.holds_of_wide 5 Try.f5 rfl rfl rfl rfl rfl rfl rfl ⟨rfl, rfl, rfl, rfl, rfl⟩ rfl rfl rfl rfl rfl (by kernel_rfl) Try.func5 (by kernel_rfl)
    (of_decide_eq_true (by kernel_rfl)) (by unfold Func.isWrapper; first | (rw [if_pos (by decide +kernel)]; kernel_rfl) | (rw [if_neg (by decide +kernel)]; exact ⟨rfl, rfl⟩))
    (fun os started H enc _ => lifted5 os started H enc)
end Go.Proofs.Ytlokeliagcaepaa
