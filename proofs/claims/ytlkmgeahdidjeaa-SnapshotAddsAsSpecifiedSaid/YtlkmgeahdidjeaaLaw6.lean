/-
  For every right history, stamp and at most 30 writes, Add returns what the specification returns, and a history that it returns is right; no condition.
-/
import Derived.Test.YtlkmgeahdidjeaaEay
import Derived.Test.YtlkmgeahdidjeaaPag
import Derived.Test.YtlkmgeahdidjeaaReads
import Derived.Test.YtlkmgeahdidjeaaRows
set_option linter.unusedSimpArgs false
set_option linter.unusedVariables false
namespace Go.Proofs.Try
open Go.Al
set_option maxRecDepth 100000
/-- alum/alumlaw25.SnapshotAddsAsSpecified -/
def mc6 : MC :=
 (.seq (.ops [(none, (.v (.mov 6 (.c (.bool false)))))])
 (.seq (.seq (.ops [(none, (.v (.mov 11 (.t 0)))),
 (none, (.e (.call (some 12) 11 [(.t 11)]))),
 (none, (.v (.not 13 (.t 12)))),
 (none, (.v (.mov 14 (.t 13)))),
 ((some (14, false)), (.v (.mov 15 (.t 2)))),
 ((some (14, false)), (.p (.len 16 (.t 15)))),
 ((some (14, false)), (.v (.bin 17 .gtr false (.t 16) (.c (.int .i64 30))))),
 (none, (.v (.pick 18 (.t 14) (.c (.bool true)) (.t 17))))])
 (.cond 18
 (.seq (.ops [(none, (.e (.call (some 19) 8 []))),
 (none, (.v (.mov 6 (.t 19))))])
 .ret)
 .skip))
 (.seq (.ops [(none, (.v (.mov 21 (.t 0)))),
 (none, (.v (.mov 22 (.t 1)))),
 (none, (.v (.mov 23 (.t 2)))),
 (none, (.e (.call (some 24) 28 [(.t 21), (.t 22), (.t 23)]))),
 (none, (.v (.mov 20 (.t 24)))),
 (none, (.v (.ext 25 0 (.t 20)))),
 (none, (.v (.ext 26 1 (.t 20)))),
 (none, (.v (.mov 7 (.t 25)))),
 (none, (.v (.mov 8 (.t 26))))])
 (.seq (.ops [(none, (.v (.mov 28 (.t 0)))),
 (none, (.v (.mov 29 (.t 1)))),
 (none, (.v (.mov 30 (.t 2)))),
 (none, (.e (.call (some 31) 29 [(.t 28), (.t 29), (.t 30)]))),
 (none, (.v (.mov 27 (.t 31)))),
 (none, (.v (.ext 32 0 (.t 27)))),
 (none, (.v (.ext 33 1 (.t 27)))),
 (none, (.v (.mov 9 (.t 32)))),
 (none, (.v (.mov 10 (.t 33))))])
 (.seq (.ops [(none, (.e (.call (some 34) 8 []))),
 (none, (.v (.mov 35 (.t 34)))),
 ((some (35, true)), (.v (.mov 36 (.t 8)))),
 ((some (35, true)), (.v (.mov 37 (.t 10)))),
 ((some (35, true)), (.v (.bin 38 .eql false (.t 36) (.t 37)))),
 (none, (.v (.pick 39 (.t 35) (.t 38) (.c (.bool false))))),
 (none, (.v (.mov 40 (.t 39)))),
 ((some (40, true)), (.v (.mov 41 (.t 7)))),
 ((some (40, true)), (.v (.mov 42 (.t 9)))),
 ((some (40, true)), (.e (.call (some 43) 20 [(.t 41), (.t 42)]))),
 (none, (.v (.pick 44 (.t 40) (.t 43) (.c (.bool false))))),
 (none, (.v (.mov 45 (.t 44)))),
 ((some (45, true)), (.v (.mov 46 (.t 7)))),
 ((some (45, true)), (.e (.call (some 47) 9 [(.t 46)]))),
 (none, (.v (.pick 48 (.t 45) (.t 47) (.c (.bool false))))),
 (none, (.v (.mov 6 (.t 48))))])
 .ret)))))
theorem ok6 : FnOk E 6 49 [.tmp 6] mc6 := .of func6 (by kernel_rfl) (by kernel_rfl) (by kernel_rfl) (by kernel_rfl) (by kernel_rfl)
end Go.Proofs.Try
namespace Go.Proofs.Try
open Go.Al
set_option linter.unusedVariables false
set_option linter.unusedSimpArgs false
set_option maxHeartbeats 8000000
theorem c6 (l : List Ver) (s : Int) (w : List Wr) : ACalls E.P 6 [.view 4 (l.map Ver.av), .int .i64 s, .view 4 (w.map Wr.av)] [] (fun r H => r = .bool true ∧ H = []) := by
  have hmax := maxLen_eq
  have h8 := c8
  have h11 := c11 l
  refine ok6.acalls hE hm (by simp) fun N hN => ?_
  unfold mc6
  simp only [lA, ptrCells, ptrAdd, isNil, readsV, readsP, isCall, wrote, srcOf, seval]
  by_cases hf : fewL l
  · obtain ⟨hl, _, hg⟩ := id hf
    rw [decide_eq_true hf] at h11
    by_cases hs : w.length ≤ 30
    · have h28 := c28 l s w hg.2 (by omega) (by omega)
      have h29 := c29 l s w (by omega) (by omega)
      have h20 := c20 (addL l s w) (addL l s w)
      have h9 := c9 (addL l s w)
      rw [decide_eq_true (addL_good hg)] at h9
      generalize addL l s w = rr at *
      generalize addE l s w = re at *
      simp only [decide_true] at h20
      repeat' (first
       | (with_reducible apply St.o; constructor) <;> intro _
       | with_reducible first | refine LenR_i fun _ => ?_ | refine And.intro (by omega) ?_ | (apply Sp.o; constructor) | refine mkl_own ?_ | refine frz0_i ?_
       | ((with_reducible apply Sc.o true; constructor); simp only [lP, seval, List.length_map, decide_true, eq_self_iff_true]; (first | refine ⟨_, h11, ?_⟩ | refine ⟨_, h8, ?_⟩ | refine ⟨_, h20, ?_⟩ | refine ⟨_, h9, ?_⟩); rintro _ _ ⟨rfl, rfl⟩; simp only [lA, lP, ptrCells, ptrAdd, isNil, readsV, readsP, isCall, wrote, srcOf, seval, List.length_map, decide_true, eq_self_iff_true])
       | ((with_reducible apply Sc.o false; constructor); simp only [lP, seval, List.length_map, decide_true, eq_self_iff_true]; (first | refine ⟨_, h28, ?_⟩ | refine ⟨_, h29, ?_⟩); rintro _ _ ⟨rfl, rfl⟩; simp only [lA, lP, ptrCells, ptrAdd, isNil, readsV, readsP, isCall, wrote, srcOf, seval, List.length_map, decide_true, eq_self_iff_true])
       | ((with_reducible refine keep0_i ?_); simp only [lP, seval])
       | simp (maxSteps := 1000000) (disch := omega) only [lE, ptrCells, ptrAdd, isNil, readsV, readsP, isCall, wrote, srcOf, seval, List.length_map, decide_true, eq_self_iff_true])
    · repeat' (first
       | (with_reducible apply St.o; constructor) <;> intro _
       | with_reducible first | refine LenR_i fun _ => ?_ | refine And.intro (by omega) ?_ | (apply Sp.o; constructor) | refine mkl_own ?_ | refine frz0_i ?_
       | ((with_reducible apply Sc.o true; constructor); simp only [lP, seval, List.length_map]; (first | refine ⟨_, h11, ?_⟩ | refine ⟨_, h8, ?_⟩); rintro _ _ ⟨rfl, rfl⟩; simp only [lA, lP, ptrCells, ptrAdd, isNil, readsV, readsP, isCall, wrote, srcOf, seval, List.length_map])
       | ((with_reducible refine keep0_i ?_); simp only [lP, seval])
       | simp (maxSteps := 1000000) (disch := omega) only [lE, ptrCells, ptrAdd, isNil, readsV, readsP, isCall, wrote, srcOf, seval, List.length_map])
      exfalso; omega
  · rw [decide_eq_false hf] at h11
    repeat' (first
     | (with_reducible apply St.o; constructor) <;> intro _
     | with_reducible first | refine LenR_i fun _ => ?_ | refine And.intro (by omega) ?_ | (apply Sp.o; constructor) | refine mkl_own ?_ | refine frz0_i ?_
     | ((with_reducible apply Sc.o true; constructor); simp only [lP, seval, List.length_map]; (first | refine ⟨_, h11, ?_⟩ | refine ⟨_, h8, ?_⟩); rintro _ _ ⟨rfl, rfl⟩; simp only [lA, lP, ptrCells, ptrAdd, isNil, readsV, readsP, isCall, wrote, srcOf, seval, List.length_map])
     | ((with_reducible refine keep0_i ?_); simp only [lP, seval])
     | simp (maxSteps := 1000000) (disch := omega) only [lE, ptrCells, ptrAdd, isNil, readsV, readsP, isCall, wrote, srcOf, seval, List.length_map])
end Go.Proofs.Try


namespace Go.Proofs.Ytlkmgeahdidjeaa
open Go.Al Go.Proofs.Try
open Go.ChangeShapes Go.WideShapes Go.ChangeAt Go.RowKit
set_option linter.unusedVariables false
set_option maxRecDepth 100000 in
theorem lifted6 (os : Os) (started : os.Started) (H : Type) (enc : TypeId × Value → H) :
    ReturnsInHanded {} Try.checked os 6 .any (Rows.snapshotAddsAsSpecifiedSpec.pre6 enc Try.prog Try.f6 Rows.snapshotAddsAsSpecifiedRow.domain false) (Rows.snapshotAddsAsSpecifiedSpec.post enc Try.prog Try.f6 false true false false) := by
  refine returnsInHanded_of_change (C := Try.checked) own started (by kernel_rfl) Try.func6
    (ChangeSpec.witness6 (enc := enc) (C := Try.checked) false ⟨#[], #[.slice none 0 0, .int .i64 0, .slice none 0 0], []⟩ 8 (by kernel_rfl) (by kernel_rfl) (by kernel_rfl) (by kernel_rfl)) ?_
  intro W base args ds gs before hval hW _ _
  exact contract_of hE kids full (s := Rows.snapshotAddsAsSpecifiedSpec) (tb := 4) (by rw [Try.params6]; decide +kernel) (by rw [Try.params6]; exact reads_cons rv22 (reads_cons rv3 (reads_cons rv43 (reads_nil)))) (by rintro _ ⟨a, _, ha, ⟨b, _, hb, ⟨c, _, hc, rfl, rfl⟩, rfl⟩, rfl⟩; exact c6 a b c) rfl
    (by rw [Try.params6]; rintro H (_ | ⟨d0, (_ | ⟨d1, (_ | ⟨d2, (_ | ⟨dz, ds⟩)⟩)⟩)⟩) hl <;> simp at hl; exact ⟨rfl, rfl, rfl⟩) (by kernel_rfl) (by kernel_rfl) H enc W base args ds gs before (glob_ok _) hval hW
theorem snapshotAddsAsSpecified_holds : Rows.SnapshotAddsAsSpecifiedSaid :=
  OpenClaim.holds_of_wide 6 Try.f6 rfl rfl rfl rfl rfl rfl rfl ⟨rfl, rfl, rfl, rfl, rfl⟩ rfl rfl rfl rfl rfl (by kernel_rfl) Try.func6 (by kernel_rfl)
    (of_decide_eq_true (by kernel_rfl)) (by unfold Func.isWrapper; first | (rw [if_pos (by decide +kernel)]; kernel_rfl) | (rw [if_neg (by decide +kernel)]; exact ⟨rfl, rfl⟩))
    (fun os started H enc _ => lifted6 os started H enc)
end Go.Proofs.Ytlkmgeahdidjeaa
