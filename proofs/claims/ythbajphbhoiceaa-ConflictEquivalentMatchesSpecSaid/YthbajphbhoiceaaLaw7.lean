/-
  For every history and every order, Equivalent reports what the specification reports; no condition.
-/
import Derived.Test.YthbajphbhoiceaaCbi
import Derived.Test.YthbajphbhoiceaaReads
import Derived.Test.YthbajphbhoiceaaRows
set_option linter.unusedSimpArgs false
set_option linter.unusedVariables false
namespace Go.Proofs.Try
open Go.Al
set_option maxRecDepth 100000
/-- alum/alumlaw26.ConflictEquivalentMatchesSpec -/
def mc7 : MC :=
 (.seq (.ops [(none, (.v (.mov 4 (.c (.bool false)))))])
 (.seq (.ops [(none, (.e (.call (some 6) 16 []))),
  (none, (.v (.mov 5 (.t 6))))])
 (.seq (.seq (.ops [(none, (.v (.mov 7 (.t 0)))),
  (none, (.e (.call (some 8) 17 [(.t 7)]))),
  (none, (.v (.not 9 (.t 8)))),
  (none, (.v (.mov 10 (.t 9)))),
  ((some (10, false)), (.v (.mov 11 (.t 1)))),
  ((some (10, false)), (.p (.len 12 (.t 11)))),
  ((some (10, false)), (.v (.bin 13 .gtr false (.t 12) (.c (.int .i64 20))))),
  (none, (.v (.pick 14 (.t 10) (.c (.bool true)) (.t 13))))])
 (.cond 14
  (.seq (.ops [(none, (.v (.mov 15 (.t 5)))),
   (none, (.v (.mov 4 (.t 15))))])
  .ret)
  .skip))
 (.seq (.ops [(none, (.v (.mov 16 (.t 5)))),
  (none, (.v (.mov 17 (.t 16)))),
  ((some (17, true)), (.v (.mov 18 (.t 0)))),
  ((some (17, true)), (.v (.mov 19 (.t 1)))),
  ((some (17, true)), (.e (.call (some 20) 32 [(.t 18), (.t 19)]))),
  ((some (17, true)), (.v (.mov 21 (.t 0)))),
  ((some (17, true)), (.v (.mov 22 (.t 1)))),
  ((some (17, true)), (.e (.call (some 23) 33 [(.t 21), (.t 22)]))),
  ((some (17, true)), (.v (.bin 24 .eql true (.t 20) (.t 23)))),
  (none, (.v (.pick 25 (.t 17) (.t 24) (.c (.bool false))))),
  (none, (.v (.mov 4 (.t 25))))])
 .ret))))
theorem ok7 : FnOk E 7 26 [.tmp 4] mc7 := .of func7 (by kernel_rfl) (by kernel_rfl) (by kernel_rfl) (by kernel_rfl) (by kernel_rfl)
end Go.Proofs.Try
namespace Go.Proofs.Try
open Go.Al
set_option linter.unusedVariables false
set_option linter.unusedSimpArgs false
open Classical
set_option maxHeartbeats 8000000
theorem c7 (h : List Acc) (order : List Int) : ACalls E.P 7 [.view 6 (h.map accA), .view 1 (order.map (.int .i64))] [] (fun r H => r = .bool true ∧ H = []) := by
  have hmax := maxLen_eq
  refine ok7.acalls hE hm (by simp) ?_
  unfold mc7
  have h16 := c16
  have h17 := c17 h
  have h32 := c32 h order
  have h33 := c33 h order
  repeat' (first
    | (with_reducible first | apply cond_d | apply cond_nd | apply cond_i | apply guard_d | apply guard_nd | apply guard_df | apply guard_ndf | apply guard_i | apply ag_d | apply ag_nd | apply ag_df | apply ag_ndf | apply ag_i) <;> intro _
    | with_reducible first | refine LenR_i fun _ => ?_ | refine And.intro (by omega) ?_ | refine and_assoc.2 ?_ | apply sp_cond | apply sp_guard | apply sp_ag | apply sp_call | apply sp_acall | apply sp_loop | apply sp_any | apply sp_frz | apply sp_len | apply sp_idx | apply sp_keep | apply sp_back
    | with_reducible refine frz0_i ?_
    | ((with_reducible first | refine callN_i [] true (by simp) (by simp) ?_ | refine acallN_i true ?_); simp only [lPA, lPD, novO, setAll, seval, implies_true, pa_accs]; (first | (refine ⟨_, h16, ?_⟩; rintro _ _ ⟨rfl, rfl⟩) | (refine ⟨_, h17, ?_⟩; rintro _ _ ⟨⟨b, rfl⟩, rfl⟩) | (refine ⟨_, h32, ?_⟩; rintro _ _ ⟨rfl, rfl⟩) | (refine ⟨_, h33, ?_⟩; rintro _ _ ⟨rfl, rfl⟩)); simp only [lAL, lDF, tupA, eqA, isNil, slcNil, ptrCells, ptrAdd, cellsO, intA, boolA, readsV, readsP, isCall, wrote, srcOf, isNilSlice, Value.oneCell', seval, implies_true, forall_eq, ne_eq, lPA, lPD, novO, setAll, pa_accs])
    | ((with_reducible refine keep0_i ?_); simp only [lPA, lPD, novO, setAll, seval, implies_true])
    | simp (maxSteps := 1000000) (disch := omega) only [lAL, lDF, tupA, eqA, isNil, slcNil, ptrCells, ptrAdd, cellsO, intA, boolA, readsV, readsP, isCall, wrote, srcOf, isNilSlice, Value.oneCell', seval, implies_true, forall_eq, ne_eq, wrap_i64, LenR_ok, List.length_map, IdxR_ints, pa_accs])
end Go.Proofs.Try


namespace Go.Proofs.Ythbajphbhoiceaa
open Go.Al Go.Proofs.Try
open Go.ChangeShapes Go.WideShapes Go.ChangeAt Go.RowKit
set_option linter.unusedVariables false
set_option maxRecDepth 100000 in
theorem lifted7 (os : Os) (started : os.Started) (H : Type) (enc : TypeId × Value → H) :
    ReturnsInHanded {} Try.checked os 7 .any (Rows.conflictEquivalentMatchesSpecSpec.pre6 enc Try.prog Try.f7 Rows.conflictEquivalentMatchesSpecRow.domain false) (Rows.conflictEquivalentMatchesSpecSpec.post enc Try.prog Try.f7 false true false false) := by
  refine returnsInHanded_of_change (C := Try.checked) own started (by kernel_rfl) Try.func7
    (ChangeSpec.witness6 (enc := enc) (C := Try.checked) false ⟨#[], #[.slice none 0 0, .slice none 0 0], []⟩ 8 (by kernel_rfl) (by kernel_rfl) (by kernel_rfl) (by kernel_rfl)) ?_
  intro W base args ds gs before hval hW _ _
  exact contract_of hE kids full (s := Rows.conflictEquivalentMatchesSpecSpec) (tb := 4) (by rw [Try.params7]; decide +kernel) (by rw [Try.params7]; exact reads_cons rv22 (reads_cons rv33 (reads_nil))) (by rintro _ ⟨a, _, ha, ⟨b, _, hb, rfl, rfl⟩, rfl⟩; exact c7 a b) rfl
    (by rw [Try.params7]; rintro H (_ | ⟨d0, (_ | ⟨d1, (_ | ⟨dz, ds⟩)⟩)⟩) hl <;> simp at hl; exact ⟨rfl, rfl, rfl⟩) (by kernel_rfl) (by kernel_rfl) H enc W base args ds gs before hval hW
theorem conflictEquivalentMatchesSpec_holds : Rows.ConflictEquivalentMatchesSpecSaid :=
  OpenClaim.holds_of_wide 7 Try.f7 rfl rfl rfl rfl rfl rfl rfl ⟨rfl, rfl, rfl, rfl, rfl⟩ rfl rfl rfl rfl rfl (by kernel_rfl) Try.func7 (by kernel_rfl)
    (of_decide_eq_true (by kernel_rfl)) (by unfold Func.isWrapper; first | (rw [if_pos (by decide +kernel)]; kernel_rfl) | (rw [if_neg (by decide +kernel)]; exact ⟨rfl, rfl⟩))
    (fun os started H enc _ => lifted7 os started H enc)
end Go.Proofs.Ythbajphbhoiceaa
