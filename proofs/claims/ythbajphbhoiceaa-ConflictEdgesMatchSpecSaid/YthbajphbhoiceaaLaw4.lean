/-
  For every history, Anti and Depends return the edges of the specification; no condition.
-/
import Derived.Test.YthbajphbhoiceaaCbf
import Derived.Test.YthbajphbhoiceaaCap
import Derived.Test.YthbajphbhoiceaaReads
import Derived.Test.YthbajphbhoiceaaRows
set_option linter.unusedSimpArgs false
set_option linter.unusedVariables false
namespace Go.Proofs.Try
open Go.Al
set_option maxRecDepth 100000
/-- alum/alumlaw26.ConflictEdgesMatchSpec -/
def mc4 : MC :=
 (.seq (.ops [(none, (.v (.mov 2 (.c (.bool false)))))])
 (.seq (.ops [(none, (.e (.call (some 4) 16 []))),
  (none, (.v (.mov 3 (.t 4))))])
 (.seq (.seq (.ops [(none, (.v (.mov 5 (.t 0)))),
  (none, (.e (.call (some 6) 17 [(.t 5)]))),
  (none, (.v (.not 7 (.t 6))))])
 (.cond 7
  (.seq (.ops [(none, (.v (.mov 8 (.t 3)))),
   (none, (.v (.mov 2 (.t 8))))])
  .ret)
  .skip))
 (.seq (.ops [(none, (.v (.mov 9 (.t 3)))),
  (none, (.v (.mov 10 (.t 9)))),
  ((some (10, true)), (.v (.mov 11 (.t 0)))),
  ((some (10, true)), (.e (.call (some 12) 21 [(.t 11)]))),
  ((some (10, true)), (.v (.mov 13 (.t 0)))),
  ((some (10, true)), (.e (.call (some 14) 22 [(.t 13)]))),
  ((some (10, true)), (.e (.call (some 15) 20 [(.t 12), (.t 14)]))),
  (none, (.v (.pick 16 (.t 10) (.t 15) (.c (.bool false))))),
  (none, (.v (.mov 17 (.t 16)))),
  ((some (17, true)), (.v (.mov 18 (.t 0)))),
  ((some (17, true)), (.e (.call (some 19) 23 [(.t 18)]))),
  ((some (17, true)), (.v (.mov 20 (.t 0)))),
  ((some (17, true)), (.e (.call (some 21) 24 [(.t 20)]))),
  ((some (17, true)), (.e (.call (some 22) 20 [(.t 19), (.t 21)]))),
  (none, (.v (.pick 23 (.t 17) (.t 22) (.c (.bool false))))),
  (none, (.v (.mov 2 (.t 23))))])
 .ret))))
theorem ok4 : FnOk E 4 24 [.tmp 2] mc4 := .of func4 (by kernel_rfl) (by kernel_rfl) (by kernel_rfl) (by kernel_rfl) (by kernel_rfl)
end Go.Proofs.Try
namespace Go.Proofs.Try
open Go.Al
set_option linter.unusedVariables false
set_option linter.unusedSimpArgs false
open Classical
set_option maxHeartbeats 8000000
theorem c4 (h : List Acc) : ACalls E.P 4 [.view 6 (h.map accA)] [] (fun r H => r = .bool true ∧ H = []) := by
  have hmax := maxLen_eq
  refine ok4.acalls hE hm (by simp) ?_
  unfold mc4
  have h16 := c16
  have h17 := c17 h
  have h21 := c21 h
  have h22 := c22 h
  have h23 := c23 h
  have h24 := c24 h
  have h20 := c20 (pairsS h (Anti h)) (pairsS h (Anti h))
  have h20' := c20 (pairsS h (Edge h)) (pairsS h (Edge h))
  simp only [pairsA, decide_true] at h20 h20' h21 h22 h23 h24
  repeat' (first
    | (with_reducible first | apply cond_d | apply cond_nd | apply cond_i | apply guard_d | apply guard_nd | apply guard_df | apply guard_ndf | apply guard_i | apply ag_d | apply ag_nd | apply ag_df | apply ag_ndf | apply ag_i) <;> intro _
    | with_reducible first | refine LenR_i fun _ => ?_ | refine And.intro (by omega) ?_ | refine and_assoc.2 ?_ | apply sp_cond | apply sp_guard | apply sp_ag | apply sp_call | apply sp_acall | apply sp_loop | apply sp_any | apply sp_frz | apply sp_len | apply sp_idx | apply sp_keep | apply sp_back
    | with_reducible refine frz0_i ?_
    | ((with_reducible first | refine callN_i [] true (by simp) (by simp) ?_ | refine acallN_i true ?_); simp only [lPA, lPD, novO, setAll, seval, implies_true, pa_accs]; (first | (refine ⟨_, h16, ?_⟩; rintro _ _ ⟨rfl, rfl⟩) | (refine ⟨_, h17, ?_⟩; rintro _ _ ⟨⟨b, rfl⟩, rfl⟩) | (refine ⟨_, h20, ?_⟩; rintro _ _ ⟨rfl, rfl⟩) | (refine ⟨_, h20', ?_⟩; rintro _ _ ⟨rfl, rfl⟩)); simp only [lAL, lDF, tupA, eqA, isNil, slcNil, ptrCells, ptrAdd, cellsO, intA, boolA, readsV, readsP, isCall, wrote, srcOf, isNilSlice, Value.oneCell', seval, implies_true, forall_eq, ne_eq, lPA, lPD, novO, setAll, pa_accs])
    | ((with_reducible first | refine callN_i [] false (by simp) (by simp) ?_ | refine acallN_i false ?_); simp only [lPA, lPD, novO, setAll, seval, implies_true, pa_accs]; (first | (refine ⟨_, h21, ?_⟩; rintro _ _ ⟨rfl, rfl⟩) | (refine ⟨_, h22, ?_⟩; rintro _ _ ⟨rfl, rfl⟩) | (refine ⟨_, h23, ?_⟩; rintro _ _ ⟨rfl, rfl⟩) | (refine ⟨_, h24, ?_⟩; rintro _ _ ⟨rfl, rfl⟩)); simp only [lAL, lDF, tupA, eqA, isNil, slcNil, ptrCells, ptrAdd, cellsO, intA, boolA, readsV, readsP, isCall, wrote, srcOf, isNilSlice, Value.oneCell', seval, implies_true, forall_eq, ne_eq, lPA, lPD, novO, setAll, pa_accs])
    | ((with_reducible refine keep0_i ?_); simp only [lPA, lPD, novO, setAll, seval, implies_true])
    | simp (maxSteps := 1000000) (disch := omega) only [lAL, lDF, tupA, eqA, isNil, slcNil, ptrCells, ptrAdd, cellsO, intA, boolA, readsV, readsP, isCall, wrote, srcOf, isNilSlice, Value.oneCell', seval, implies_true, forall_eq, ne_eq, wrap_i64, LenR_ok, List.length_map, IdxR_ints, pa_accs])
end Go.Proofs.Try


namespace Go.Proofs.Ythbajphbhoiceaa
open Go.Al Go.Proofs.Try
open Go.ChangeShapes Go.WideShapes Go.ChangeAt Go.RowKit
set_option linter.unusedVariables false
set_option maxRecDepth 100000 in
theorem lifted4 (os : Os) (started : os.Started) (H : Type) (enc : TypeId × Value → H) :
    ReturnsInHanded {} Try.checked os 4 .any (Rows.conflictEdgesMatchSpecSpec.pre6 enc Try.prog Try.f4 Rows.conflictEdgesMatchSpecRow.domain false) (Rows.conflictEdgesMatchSpecSpec.post enc Try.prog Try.f4 false true false false) := by
  refine returnsInHanded_of_change (C := Try.checked) own started (by kernel_rfl) Try.func4
    (ChangeSpec.witness6 (enc := enc) (C := Try.checked) false ⟨#[], #[.slice none 0 0], []⟩ 8 (by kernel_rfl) (by kernel_rfl) (by kernel_rfl) (by kernel_rfl)) ?_
  intro W base args ds gs before hval hW _ _
  exact contract_of hE kids full (s := Rows.conflictEdgesMatchSpecSpec) (tb := 4) (by rw [Try.params4]; decide +kernel) (by rw [Try.params4]; exact reads_cons rv22 (reads_nil)) (by rintro _ ⟨a, _, ha, rfl, rfl⟩; exact c4 a) rfl
    (by rw [Try.params4]; rintro H (_ | ⟨d0, (_ | ⟨dz, ds⟩)⟩) hl <;> simp at hl; exact ⟨rfl, rfl, rfl⟩) (by kernel_rfl) (by kernel_rfl) H enc W base args ds gs before hval hW
theorem conflictEdgesMatchSpec_holds : Rows.ConflictEdgesMatchSpecSaid :=
  OpenClaim.holds_of_wide 4 Try.f4 rfl rfl rfl rfl rfl rfl rfl ⟨rfl, rfl, rfl, rfl, rfl⟩ rfl rfl rfl rfl rfl (by kernel_rfl) Try.func4 (by kernel_rfl)
    (of_decide_eq_true (by kernel_rfl)) (by unfold Func.isWrapper; first | (rw [if_pos (by decide +kernel)]; kernel_rfl) | (rw [if_neg (by decide +kernel)]; exact ⟨rfl, rfl⟩))
    (fun os started H enc _ => lifted4 os started H enc)
end Go.Proofs.Ythbajphbhoiceaa
