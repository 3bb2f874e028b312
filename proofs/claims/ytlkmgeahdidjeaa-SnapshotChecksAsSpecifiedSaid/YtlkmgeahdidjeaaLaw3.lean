/-
  For every history of at most 60 versions, right or not, snapshot.Check returns what the specification returns; no condition.
-/
import Derived.Test.YtlkmgeahdidjeaaEay
import Derived.Test.YtlkmgeahdidjeaaPag
import Derived.Test.YtlkmgeahdidjeaaReads
import Derived.Test.YtlkmgeahdidjeaaRows
set_option linter.unusedSimpArgs false
set_option linter.unusedVariables false
namespace Go.Proofs.Try
open Go.Al
set_option maxRecDepth 100000
/-- alum/alumlaw25.SnapshotChecksAsSpecified -/
def mc3 : MC :=
 (.seq (.ops [(none, (.v (.mov 2 (.c (.bool false)))))])
 (.seq (.seq (.ops [(none, (.v (.mov 3 (.t 0)))),
 (none, (.p (.len 4 (.t 3)))),
 (none, (.v (.bin 5 .gtr false (.t 4) (.c (.int .i64 60)))))])
 (.cond 5
 (.seq (.ops [(none, (.e (.call (some 6) 8 []))),
 (none, (.v (.mov 2 (.t 6))))])
 .ret)
 .skip))
 (.seq (.ops [(none, (.e (.call (some 7) 8 []))),
 (none, (.v (.mov 8 (.t 7)))),
 ((some (8, true)), (.v (.mov 9 (.t 0)))),
 ((some (8, true)), (.e (.call (some 10) 9 [(.t 9)]))),
 ((some (8, true)), (.v (.mov 11 (.t 0)))),
 ((some (8, true)), (.e (.call (some 12) 10 [(.t 11)]))),
 ((some (8, true)), (.v (.bin 13 .eql true (.t 10) (.t 12)))),
 (none, (.v (.pick 14 (.t 8) (.t 13) (.c (.bool false))))),
 (none, (.v (.mov 2 (.t 14))))])
 .ret)))
theorem ok3 : FnOk E 3 15 [.tmp 2] mc3 := .of func3 (by kernel_rfl) (by kernel_rfl) (by kernel_rfl) (by kernel_rfl) (by kernel_rfl)
end Go.Proofs.Try
namespace Go.Proofs.Try
open Go.Al
set_option linter.unusedVariables false
set_option linter.unusedSimpArgs false
set_option maxHeartbeats 8000000
theorem c3 (l : List Ver) : ACalls E.P 3 [.view 4 (l.map Ver.av)] [] (fun r H => r = .bool true ∧ H = []) := by
  have hmax := maxLen_eq
  have h8 := c8
  have h9 := c9 l
  have h10 := c10 l
  refine ok3.acalls hE hm (by simp) fun N hN => ?_
  unfold mc3
  simp only [lA, ptrCells, ptrAdd, isNil, readsV, readsP, isCall, wrote, srcOf, seval]
  repeat' (first
   | (with_reducible apply St.o; constructor) <;> intro _
   | with_reducible first | refine LenR_i fun _ => ?_ | refine And.intro (by omega) ?_ | (apply Sp.o; constructor) | refine mkl_own ?_ | refine frz0_i ?_
   | ((with_reducible apply Sc.o true; constructor); simp only [lP, seval, List.length_map]; (first | refine ⟨_, h8, ?_⟩ | refine ⟨_, h9, ?_⟩ | refine ⟨_, h10, ?_⟩); rintro _ _ ⟨rfl, rfl⟩; simp only [lA, lP, ptrCells, ptrAdd, isNil, readsV, readsP, isCall, wrote, srcOf, seval, List.length_map])
   | ((with_reducible refine keep0_i ?_); simp only [lP, seval])
   | simp (maxSteps := 1000000) (disch := omega) only [lE, ptrCells, ptrAdd, isNil, readsV, readsP, isCall, wrote, srcOf, seval, List.length_map])
end Go.Proofs.Try


namespace Go.Proofs.Ytlkmgeahdidjeaa
open Go.Al Go.Proofs.Try
open Go.ChangeShapes Go.WideShapes Go.ChangeAt Go.RowKit
set_option linter.unusedVariables false
set_option maxRecDepth 100000 in
theorem lifted3 (os : Os) (started : os.Started) (H : Type) (enc : TypeId × Value → H) :
    ReturnsInHanded {} Try.checked os 3 .any (Rows.snapshotChecksAsSpecifiedSpec.pre6 enc Try.prog Try.f3 Rows.snapshotChecksAsSpecifiedRow.domain false) (Rows.snapshotChecksAsSpecifiedSpec.post enc Try.prog Try.f3 false true false false) := by
  refine returnsInHanded_of_change (C := Try.checked) own started (by kernel_rfl) Try.func3
    (ChangeSpec.witness6 (enc := enc) (C := Try.checked) false ⟨#[], #[.slice none 0 0], []⟩ 8 (by kernel_rfl) (by kernel_rfl) (by kernel_rfl) (by kernel_rfl)) ?_
  intro W base args ds gs before hval hW _ _
  exact contract_of hE kids full (s := Rows.snapshotChecksAsSpecifiedSpec) (tb := 4) (by rw [Try.params3]; decide +kernel) (by rw [Try.params3]; exact reads_cons rv22 (reads_nil)) (by rintro _ ⟨a, _, ha, rfl, rfl⟩; exact c3 a) rfl
    (by rw [Try.params3]; rintro H (_ | ⟨d0, (_ | ⟨dz, ds⟩)⟩) hl <;> simp at hl; exact ⟨rfl, rfl, rfl⟩) (by kernel_rfl) (by kernel_rfl) H enc W base args ds gs before (glob_ok _) hval hW
theorem snapshotChecksAsSpecified_holds : Rows.SnapshotChecksAsSpecifiedSaid :=
  OpenClaim.holds_of_wide 3 Try.f3 rfl rfl rfl rfl rfl rfl rfl ⟨rfl, rfl, rfl, rfl, rfl⟩ rfl rfl rfl rfl rfl (by kernel_rfl) Try.func3 (by kernel_rfl)
    (of_decide_eq_true (by kernel_rfl)) (by unfold Func.isWrapper; first | (rw [if_pos (by decide +kernel)]; kernel_rfl) | (rw [if_neg (by decide +kernel)]; exact ⟨rfl, rfl⟩))
    (fun os started H enc _ => lifted3 os started H enc)
end Go.Proofs.Ytlkmgeahdidjeaa
