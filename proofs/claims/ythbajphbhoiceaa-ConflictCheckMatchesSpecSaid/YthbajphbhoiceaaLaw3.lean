/-
  For every history, conflict.Check returns the error that the specification returns (and the examples of the documentation hold); no condition.
-/
import Derived.Test.YthbajphbhoiceaaCbf
import Derived.Test.YthbajphbhoiceaaReads
import Derived.Test.YthbajphbhoiceaaRows
set_option linter.unusedSimpArgs false
set_option linter.unusedVariables false
namespace Go.Proofs.Try
open Go.Al
set_option maxRecDepth 100000
/-- alum/alumlaw26.ConflictCheckMatchesSpec -/
def mc3 : MC :=
 (.seq (.ops [(none, (.v (.mov 2 (.c (.bool false)))))])
 (.seq (.ops [(none, (.e (.call (some 4) 16 []))),
  (none, (.v (.mov 3 (.t 4))))])
 (.seq (.seq (.ops [(none, (.v (.mov 5 (.t 0)))),
  (none, (.e (.call (some 6) 17 [(.t 5)]))),
  (none, (.v (.not 7 (.t 6))))])
 (.cond 7
  (.seq (.ops [(none, (.v (.mov 8 (.t 3)))),
   (none, (.v (.mov 2 (.t 8))))])
  .ret)
  .skip))
 (.seq (.ops [(none, (.v (.mov 9 (.t 3)))),
  (none, (.v (.mov 10 (.t 9)))),
  ((some (10, true)), (.v (.mov 11 (.t 0)))),
  ((some (10, true)), (.e (.call (some 12) 18 [(.t 11)]))),
  ((some (10, true)), (.v (.mov 13 (.t 0)))),
  ((some (10, true)), (.e (.call (some 14) 19 [(.t 13)]))),
  ((some (10, true)), (.v (.bin 15 .eql false (.t 12) (.t 14)))),
  (none, (.v (.pick 16 (.t 10) (.t 15) (.c (.bool false))))),
  (none, (.v (.mov 2 (.t 16))))])
 .ret))))
theorem ok3 : FnOk E 3 17 [.tmp 2] mc3 := .of func3 (by kernel_rfl) (by kernel_rfl) (by kernel_rfl) (by kernel_rfl) (by kernel_rfl)
end Go.Proofs.Try
namespace Go.Proofs.Try
open Go.Al
set_option linter.unusedVariables false
set_option linter.unusedSimpArgs false
open Classical
set_option maxHeartbeats 8000000
theorem c3 (h : List Acc) : ACalls E.P 3 [.view 6 (h.map accA)] [] (fun r H => r = .bool true ∧ H = []) := by
  have hmax := maxLen_eq
  refine ok3.acalls hE hm (by simp) ?_
  unfold mc3
  have h16 := c16
  have h17 := c17 h
  have h18 := c18 h
  have h19 := c19 h
  repeat' (first
    | (with_reducible first | apply cond_d | apply cond_nd | apply cond_i | apply guard_d | apply guard_nd | apply guard_df | apply guard_ndf | apply guard_i | apply ag_d | apply ag_nd | apply ag_df | apply ag_ndf | apply ag_i) <;> intro _
    | with_reducible first | refine LenR_i fun _ => ?_ | refine And.intro (by omega) ?_ | refine and_assoc.2 ?_ | apply sp_cond | apply sp_guard | apply sp_ag | apply sp_call | apply sp_acall | apply sp_loop | apply sp_any | apply sp_frz | apply sp_len | apply sp_idx | apply sp_keep | apply sp_back
    | with_reducible refine frz0_i ?_
    | ((with_reducible first | refine callN_i [] true (by simp) (by simp) ?_ | refine acallN_i true ?_); simp only [lPA, lPD, novO, setAll, seval, implies_true, pa_accs]; (first | (refine ⟨_, h16, ?_⟩; rintro _ _ ⟨rfl, rfl⟩) | (refine ⟨_, h17, ?_⟩; rintro _ _ ⟨⟨b, rfl⟩, rfl⟩) | (refine ⟨_, h18, ?_⟩; rintro _ _ ⟨rfl, rfl⟩) | (refine ⟨_, h19, ?_⟩; rintro _ _ ⟨rfl, rfl⟩)); simp only [lAL, lDF, tupA, eqA, isNil, slcNil, ptrCells, ptrAdd, cellsO, intA, boolA, readsV, readsP, isCall, wrote, srcOf, isNilSlice, Value.oneCell', seval, implies_true, forall_eq, ne_eq, lPA, lPD, novO, setAll, pa_accs])
    | ((with_reducible refine keep0_i ?_); simp only [lPA, lPD, novO, setAll, seval, implies_true])
    | simp (maxSteps := 1000000) (disch := omega) only [lAL, lDF, tupA, eqA, isNil, slcNil, ptrCells, ptrAdd, cellsO, intA, boolA, readsV, readsP, isCall, wrote, srcOf, isNilSlice, Value.oneCell', seval, implies_true, forall_eq, ne_eq, wrap_i64, LenR_ok, List.length_map, IdxR_ints, pa_accs])
end Go.Proofs.Try


namespace Go.Proofs.Ythbajphbhoiceaa
open Go.Al Go.Proofs.Try
open Go.ChangeShapes Go.WideShapes Go.ChangeAt Go.RowKit
set_option linter.unusedVariables false
set_option maxRecDepth 100000 in
theorem lifted3 (os : Os) (started : os.Started) (H : Type) (enc : TypeId × Value → H) :
    ReturnsInHanded {} Try.checked os 3 .any (Rows.conflictCheckMatchesSpecSpec.pre6 enc Try.prog Try.f3 Rows.conflictCheckMatchesSpecRow.domain false) (Rows.conflictCheckMatchesSpecSpec.post enc Try.prog Try.f3 false true false false) := by
  refine returnsInHanded_of_change (C := Try.checked) own started (by kernel_rfl) Try.func3
    (ChangeSpec.witness6 (enc := enc) (C := Try.checked) false ⟨#[], #[.slice none 0 0], []⟩ 8 (by kernel_rfl) (by kernel_rfl) (by kernel_rfl) (by kernel_rfl)) ?_
  intro W base args ds gs before hval hW _ _
  exact contract_of hE kids full (s := Rows.conflictCheckMatchesSpecSpec) (tb := 4) (by rw [Try.params3]; decide +kernel) (by rw [Try.params3]; exact reads_cons rv22 (reads_nil)) (by rintro _ ⟨a, _, ha, rfl, rfl⟩; exact c3 a) rfl
    (by rw [Try.params3]; rintro H (_ | ⟨d0, (_ | ⟨dz, ds⟩)⟩) hl <;> simp at hl; exact ⟨rfl, rfl, rfl⟩) (by kernel_rfl) (by kernel_rfl) H enc W base args ds gs before hval hW
theorem conflictCheckMatchesSpec_holds : Rows.ConflictCheckMatchesSpecSaid :=
  OpenClaim.holds_of_wide 3 Try.f3 rfl rfl rfl rfl rfl rfl rfl ⟨rfl, rfl, rfl, rfl, rfl⟩ rfl rfl rfl rfl rfl (by kernel_rfl) Try.func3 (by kernel_rfl)
    (of_decide_eq_true (by kernel_rfl)) (by unfold Func.isWrapper; first | (rw [if_pos (by decide +kernel)]; kernel_rfl) | (rw [if_neg (by decide +kernel)]; exact ⟨rfl, rfl⟩))
    (fun os started H enc _ => lifted3 os started H enc)
end Go.Proofs.Ythbajphbhoiceaa
