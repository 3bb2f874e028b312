/-
  For every history, Serial and Cycle return the order and the cycle of the specification; no condition.
-/
import Derived.Test.YthbajphbhoiceaaCbf
import Derived.Test.YthbajphbhoiceaaReads
import Derived.Test.YthbajphbhoiceaaRows
set_option linter.unusedSimpArgs false
set_option linter.unusedVariables false
namespace Go.Proofs.Try
open Go.Al
set_option maxRecDepth 100000
/-- alum/alumlaw26.ConflictSerialMatchesSpec -/
def mc6 : MC :=
 (.seq (.ops [(none, (.v (.mov 2 (.c (.bool false)))))])
 (.seq (.ops [(none, (.e (.call (some 8) 16 []))),
  (none, (.v (.mov 3 (.t 8))))])
 (.seq (.seq (.ops [(none, (.v (.mov 9 (.t 0)))),
  (none, (.e (.call (some 10) 17 [(.t 9)]))),
  (none, (.v (.not 11 (.t 10))))])
 (.cond 11
  (.seq (.ops [(none, (.v (.mov 12 (.t 3)))),
   (none, (.v (.mov 2 (.t 12))))])
  .ret)
  .skip))
 (.seq (.ops [(none, (.v (.mov 14 (.t 0)))),
  (none, (.e (.call (some 15) 27 [(.t 14)]))),
  (none, (.v (.mov 13 (.t 15)))),
  (none, (.v (.ext 16 0 (.t 13)))),
  (none, (.v (.ext 17 1 (.t 13)))),
  (none, (.v (.mov 4 (.t 16)))),
  (none, (.v (.mov 5 (.t 17))))])
 (.seq (.ops [(none, (.v (.mov 19 (.t 0)))),
  (none, (.e (.call (some 20) 28 [(.t 19)]))),
  (none, (.v (.mov 18 (.t 20)))),
  (none, (.v (.ext 21 0 (.t 18)))),
  (none, (.v (.ext 22 1 (.t 18)))),
  (none, (.v (.mov 6 (.t 21)))),
  (none, (.v (.mov 7 (.t 22))))])
 (.seq (.ops [(none, (.v (.mov 23 (.t 3)))),
  (none, (.v (.mov 24 (.t 23)))),
  ((some (24, true)), (.v (.mov 25 (.t 4)))),
  ((some (24, true)), (.v (.mov 26 (.t 6)))),
  ((some (24, true)), (.e (.call (some 27) 29 [(.t 25), (.t 26)]))),
  (none, (.v (.pick 28 (.t 24) (.t 27) (.c (.bool false))))),
  (none, (.v (.mov 29 (.t 28)))),
  ((some (29, true)), (.v (.mov 30 (.t 5)))),
  ((some (29, true)), (.v (.mov 31 (.t 7)))),
  ((some (29, true)), (.v (.bin 32 .eql true (.t 30) (.t 31)))),
  (none, (.v (.pick 33 (.t 29) (.t 32) (.c (.bool false))))),
  (none, (.v (.mov 34 (.t 33)))),
  ((some (34, true)), (.v (.mov 35 (.t 0)))),
  ((some (34, true)), (.e (.call (some 36) 30 [(.t 35)]))),
  ((some (34, true)), (.v (.mov 37 (.t 0)))),
  ((some (34, true)), (.e (.call (some 38) 31 [(.t 37)]))),
  ((some (34, true)), (.e (.call (some 39) 29 [(.t 36), (.t 38)]))),
  (none, (.v (.pick 40 (.t 34) (.t 39) (.c (.bool false))))),
  (none, (.v (.mov 2 (.t 40))))])
 .ret))))))
theorem ok6 : FnOk E 6 41 [.tmp 2] mc6 := .of func6 (by kernel_rfl) (by kernel_rfl) (by kernel_rfl) (by kernel_rfl) (by kernel_rfl)
end Go.Proofs.Try
namespace Go.Proofs.Try
open Go.Al
set_option linter.unusedVariables false
set_option linter.unusedSimpArgs false
open Classical
set_option maxHeartbeats 8000000
theorem c6 (h : List Acc) : ACalls E.P 6 [.view 6 (h.map accA)] [] (fun r H => r = .bool true ∧ H = []) := by
  have hmax := maxLen_eq
  refine ok6.acalls hE hm (by simp) ?_
  unfold mc6
  have h16 := c16
  have h17 := c17 h
  repeat' (first
    | (with_reducible first | apply cond_d | apply cond_nd | apply cond_i | apply guard_d | apply guard_nd | apply guard_df | apply guard_ndf | apply guard_i | apply ag_d | apply ag_nd | apply ag_df | apply ag_ndf | apply ag_i) <;> intro _
    | with_reducible first | refine LenR_i fun _ => ?_ | refine And.intro (by omega) ?_ | refine and_assoc.2 ?_ | apply sp_cond | apply sp_guard | apply sp_ag | apply sp_call | apply sp_acall | apply sp_loop | apply sp_any | apply sp_frz | apply sp_len | apply sp_idx | apply sp_keep | apply sp_back
    | with_reducible refine frz0_i ?_
    | ((with_reducible first | refine callN_i [] true (by simp) (by simp) ?_ | refine acallN_i true ?_); simp only [lPA, lPD, novO, setAll, seval, implies_true, pa_accs]; (first | (refine ⟨_, h16, ?_⟩; rintro _ _ ⟨rfl, rfl⟩) | (refine ⟨_, h17, ?_⟩; rintro _ _ ⟨⟨b, rfl⟩, rfl⟩)); simp only [lAL, lDF, tupA, eqA, isNil, slcNil, ptrCells, ptrAdd, cellsO, intA, boolA, readsV, readsP, isCall, wrote, srcOf, isNilSlice, Value.oneCell', seval, implies_true, forall_eq, ne_eq, lPA, lPD, novO, setAll, pa_accs])
    | ((with_reducible refine keep0_i ?_); simp only [lPA, lPD, novO, setAll, seval, implies_true])
    | simp (maxSteps := 1000000) (disch := omega) only [lAL, lDF, tupA, eqA, isNil, slcNil, ptrCells, ptrAdd, cellsO, intA, boolA, readsV, readsP, isCall, wrote, srcOf, isNilSlice, Value.oneCell', seval, implies_true, forall_eq, ne_eq, wrap_i64, LenR_ok, List.length_map, IdxR_ints, pa_accs])
  refine callN_i [] false (by simp) (by simp) ?_
  simp only [lPA, lPD, novO, setAll, seval, implies_true]
  refine ⟨_, c27 h, ?_⟩
  rintro _ _ ⟨⟨t, ht, rfl⟩, rfl⟩
  have h28 := (c28 h).mono (Q' := fun r H => r = serA t ∧ H = []) fun r H ⟨⟨t', ht', hr⟩, hH⟩ => ⟨by rw [hr, ht'.uniq ht], hH⟩
  rcases t with _ | l
  · have h29 := c29 [] []
    simp only [serA, decide_true, List.map_nil] at h28 h29
    simp only [serA, lPA, lPD, novO, setAll, seval, implies_true, lAL, lDF, tupA, eqA, isNil, slcNil, ptrCells, ptrAdd, cellsO, intA, boolA, readsV, readsP, isCall, wrote, srcOf, isNilSlice, Value.oneCell', seval, implies_true, forall_eq, ne_eq]
    repeat' (first
      | (with_reducible first | apply cond_d | apply cond_nd | apply cond_i | apply guard_d | apply guard_nd | apply guard_df | apply guard_ndf | apply guard_i | apply ag_d | apply ag_nd | apply ag_df | apply ag_ndf | apply ag_i) <;> intro _
      | with_reducible first | refine LenR_i fun _ => ?_ | refine And.intro (by omega) ?_ | refine and_assoc.2 ?_ | apply sp_cond | apply sp_guard | apply sp_ag | apply sp_call | apply sp_acall | apply sp_loop | apply sp_any | apply sp_frz | apply sp_len | apply sp_idx | apply sp_keep | apply sp_back
      | with_reducible refine frz0_i ?_
      | ((with_reducible first | refine callN_i [] true (by simp) (by simp) ?_ | refine acallN_i true ?_); simp only [lPA, lPD, novO, setAll, seval, implies_true, pa_accs]; (refine ⟨_, h29, ?_⟩; rintro _ _ ⟨rfl, rfl⟩); simp only [lAL, lDF, tupA, eqA, isNil, slcNil, ptrCells, ptrAdd, cellsO, intA, boolA, readsV, readsP, isCall, wrote, srcOf, isNilSlice, Value.oneCell', seval, implies_true, forall_eq, ne_eq, lPA, lPD, novO, setAll, pa_accs])
      | ((with_reducible first | refine callN_i [] false (by simp) (by simp) ?_ | refine acallN_i false ?_); simp only [lPA, lPD, novO, setAll, seval, implies_true, pa_accs]; (refine ⟨_, h28, ?_⟩; rintro _ _ ⟨rfl, rfl⟩); simp only [lAL, lDF, tupA, eqA, isNil, slcNil, ptrCells, ptrAdd, cellsO, intA, boolA, readsV, readsP, isCall, wrote, srcOf, isNilSlice, Value.oneCell', seval, implies_true, forall_eq, ne_eq, lPA, lPD, novO, setAll, pa_accs])
      | simp (maxSteps := 1000000) (disch := omega) only [lAL, lDF, tupA, eqA, isNil, slcNil, ptrCells, ptrAdd, cellsO, intA, boolA, readsV, readsP, isCall, wrote, srcOf, isNilSlice, Value.oneCell', seval, implies_true, forall_eq, ne_eq, wrap_i64, LenR_ok, List.length_map, IdxR_ints, pa_accs])
    all_goals
      refine callN_i [] false (by simp) (by simp) ?_
      simp only [lPA, lPD, novO, setAll, seval, implies_true]
      refine ⟨_, c30 h, ?_⟩
      rintro _ _ ⟨⟨c, hc, rfl⟩, rfl⟩
      have h31 := (c31 h).mono (Q' := fun r H => r = intsA (natL c) ∧ H = []) fun r H ⟨⟨t', ht', hr⟩, hH⟩ => ⟨by rw [hr, ht'.uniq hc], hH⟩
      have h29 := c29 (natL c) (natL c)
      simp only [intsA, decide_true] at h31 h29
      simp only [intsA, lPA, lPD, novO, setAll, seval, implies_true, lAL, lDF, tupA, eqA, isNil, slcNil, ptrCells, ptrAdd, cellsO, intA, boolA, readsV, readsP, isCall, wrote, srcOf, isNilSlice, Value.oneCell', seval, implies_true, forall_eq, ne_eq]
    repeat' (first
      | (with_reducible first | apply cond_d | apply cond_nd | apply cond_i | apply guard_d | apply guard_nd | apply guard_df | apply guard_ndf | apply guard_i | apply ag_d | apply ag_nd | apply ag_df | apply ag_ndf | apply ag_i) <;> intro _
      | with_reducible first | refine LenR_i fun _ => ?_ | refine And.intro (by omega) ?_ | refine and_assoc.2 ?_ | apply sp_cond | apply sp_guard | apply sp_ag | apply sp_call | apply sp_acall | apply sp_loop | apply sp_any | apply sp_frz | apply sp_len | apply sp_idx | apply sp_keep | apply sp_back
      | with_reducible refine frz0_i ?_
      | ((with_reducible first | refine callN_i [] true (by simp) (by simp) ?_ | refine acallN_i true ?_); simp only [lPA, lPD, novO, setAll, seval, implies_true, pa_accs]; (refine ⟨_, h29, ?_⟩; rintro _ _ ⟨rfl, rfl⟩); simp only [lAL, lDF, tupA, eqA, isNil, slcNil, ptrCells, ptrAdd, cellsO, intA, boolA, readsV, readsP, isCall, wrote, srcOf, isNilSlice, Value.oneCell', seval, implies_true, forall_eq, ne_eq, lPA, lPD, novO, setAll, pa_accs])
      | ((with_reducible first | refine callN_i [] false (by simp) (by simp) ?_ | refine acallN_i false ?_); simp only [lPA, lPD, novO, setAll, seval, implies_true, pa_accs]; (refine ⟨_, h31, ?_⟩; rintro _ _ ⟨rfl, rfl⟩); simp only [lAL, lDF, tupA, eqA, isNil, slcNil, ptrCells, ptrAdd, cellsO, intA, boolA, readsV, readsP, isCall, wrote, srcOf, isNilSlice, Value.oneCell', seval, implies_true, forall_eq, ne_eq, lPA, lPD, novO, setAll, pa_accs])
      | ((with_reducible refine keep0_i ?_); simp only [lPA, lPD, novO, setAll, seval, implies_true])
      | simp (maxSteps := 1000000) (disch := omega) only [lAL, lDF, tupA, eqA, isNil, slcNil, ptrCells, ptrAdd, cellsO, intA, boolA, readsV, readsP, isCall, wrote, srcOf, isNilSlice, Value.oneCell', seval, implies_true, forall_eq, ne_eq, wrap_i64, LenR_ok, List.length_map, IdxR_ints, pa_accs])
  · have h29 := c29 (natL l) (natL l)
    simp only [serA, decide_true] at h28 h29
    simp only [serA, lPA, lPD, novO, setAll, seval, implies_true, lAL, lDF, tupA, eqA, isNil, slcNil, ptrCells, ptrAdd, cellsO, intA, boolA, readsV, readsP, isCall, wrote, srcOf, isNilSlice, Value.oneCell', seval, implies_true, forall_eq, ne_eq]
    repeat' (first
      | (with_reducible first | apply cond_d | apply cond_nd | apply cond_i | apply guard_d | apply guard_nd | apply guard_df | apply guard_ndf | apply guard_i | apply ag_d | apply ag_nd | apply ag_df | apply ag_ndf | apply ag_i) <;> intro _
      | with_reducible first | refine LenR_i fun _ => ?_ | refine And.intro (by omega) ?_ | refine and_assoc.2 ?_ | apply sp_cond | apply sp_guard | apply sp_ag | apply sp_call | apply sp_acall | apply sp_loop | apply sp_any | apply sp_frz | apply sp_len | apply sp_idx | apply sp_keep | apply sp_back
      | with_reducible refine frz0_i ?_
      | ((with_reducible first | refine callN_i [] true (by simp) (by simp) ?_ | refine acallN_i true ?_); simp only [lPA, lPD, novO, setAll, seval, implies_true, pa_accs]; (refine ⟨_, h29, ?_⟩; rintro _ _ ⟨rfl, rfl⟩); simp only [lAL, lDF, tupA, eqA, isNil, slcNil, ptrCells, ptrAdd, cellsO, intA, boolA, readsV, readsP, isCall, wrote, srcOf, isNilSlice, Value.oneCell', seval, implies_true, forall_eq, ne_eq, lPA, lPD, novO, setAll, pa_accs])
      | ((with_reducible first | refine callN_i [] false (by simp) (by simp) ?_ | refine acallN_i false ?_); simp only [lPA, lPD, novO, setAll, seval, implies_true, pa_accs]; (refine ⟨_, h28, ?_⟩; rintro _ _ ⟨rfl, rfl⟩); simp only [lAL, lDF, tupA, eqA, isNil, slcNil, ptrCells, ptrAdd, cellsO, intA, boolA, readsV, readsP, isCall, wrote, srcOf, isNilSlice, Value.oneCell', seval, implies_true, forall_eq, ne_eq, lPA, lPD, novO, setAll, pa_accs])
      | simp (maxSteps := 1000000) (disch := omega) only [lAL, lDF, tupA, eqA, isNil, slcNil, ptrCells, ptrAdd, cellsO, intA, boolA, readsV, readsP, isCall, wrote, srcOf, isNilSlice, Value.oneCell', seval, implies_true, forall_eq, ne_eq, wrap_i64, LenR_ok, List.length_map, IdxR_ints, pa_accs])
    all_goals
      refine callN_i [] false (by simp) (by simp) ?_
      simp only [lPA, lPD, novO, setAll, seval, implies_true]
      refine ⟨_, c30 h, ?_⟩
      rintro _ _ ⟨⟨c, hc, rfl⟩, rfl⟩
      have h31 := (c31 h).mono (Q' := fun r H => r = intsA (natL c) ∧ H = []) fun r H ⟨⟨t', ht', hr⟩, hH⟩ => ⟨by rw [hr, ht'.uniq hc], hH⟩
      have h29 := c29 (natL c) (natL c)
      simp only [intsA, decide_true] at h31 h29
      simp only [intsA, lPA, lPD, novO, setAll, seval, implies_true, lAL, lDF, tupA, eqA, isNil, slcNil, ptrCells, ptrAdd, cellsO, intA, boolA, readsV, readsP, isCall, wrote, srcOf, isNilSlice, Value.oneCell', seval, implies_true, forall_eq, ne_eq]
    repeat' (first
      | (with_reducible first | apply cond_d | apply cond_nd | apply cond_i | apply guard_d | apply guard_nd | apply guard_df | apply guard_ndf | apply guard_i | apply ag_d | apply ag_nd | apply ag_df | apply ag_ndf | apply ag_i) <;> intro _
      | with_reducible first | refine LenR_i fun _ => ?_ | refine And.intro (by omega) ?_ | refine and_assoc.2 ?_ | apply sp_cond | apply sp_guard | apply sp_ag | apply sp_call | apply sp_acall | apply sp_loop | apply sp_any | apply sp_frz | apply sp_len | apply sp_idx | apply sp_keep | apply sp_back
      | with_reducible refine frz0_i ?_
      | ((with_reducible first | refine callN_i [] true (by simp) (by simp) ?_ | refine acallN_i true ?_); simp only [lPA, lPD, novO, setAll, seval, implies_true, pa_accs]; (refine ⟨_, h29, ?_⟩; rintro _ _ ⟨rfl, rfl⟩); simp only [lAL, lDF, tupA, eqA, isNil, slcNil, ptrCells, ptrAdd, cellsO, intA, boolA, readsV, readsP, isCall, wrote, srcOf, isNilSlice, Value.oneCell', seval, implies_true, forall_eq, ne_eq, lPA, lPD, novO, setAll, pa_accs])
      | ((with_reducible first | refine callN_i [] false (by simp) (by simp) ?_ | refine acallN_i false ?_); simp only [lPA, lPD, novO, setAll, seval, implies_true, pa_accs]; (refine ⟨_, h31, ?_⟩; rintro _ _ ⟨rfl, rfl⟩); simp only [lAL, lDF, tupA, eqA, isNil, slcNil, ptrCells, ptrAdd, cellsO, intA, boolA, readsV, readsP, isCall, wrote, srcOf, isNilSlice, Value.oneCell', seval, implies_true, forall_eq, ne_eq, lPA, lPD, novO, setAll, pa_accs])
      | ((with_reducible refine keep0_i ?_); simp only [lPA, lPD, novO, setAll, seval, implies_true])
      | simp (maxSteps := 1000000) (disch := omega) only [lAL, lDF, tupA, eqA, isNil, slcNil, ptrCells, ptrAdd, cellsO, intA, boolA, readsV, readsP, isCall, wrote, srcOf, isNilSlice, Value.oneCell', seval, implies_true, forall_eq, ne_eq, wrap_i64, LenR_ok, List.length_map, IdxR_ints, pa_accs])
end Go.Proofs.Try


namespace Go.Proofs.Ythbajphbhoiceaa
open Go.Al Go.Proofs.Try
open Go.ChangeShapes Go.WideShapes Go.ChangeAt Go.RowKit
set_option linter.unusedVariables false
set_option maxRecDepth 100000 in
theorem lifted6 (os : Os) (started : os.Started) (H : Type) (enc : TypeId × Value → H) :
    ReturnsInHanded {} Try.checked os 6 .any (Rows.conflictSerialMatchesSpecSpec.pre6 enc Try.prog Try.f6 Rows.conflictSerialMatchesSpecRow.domain false) (Rows.conflictSerialMatchesSpecSpec.post enc Try.prog Try.f6 false true false false) := by
  refine returnsInHanded_of_change (C := Try.checked) own started (by kernel_rfl) Try.func6
    (ChangeSpec.witness6 (enc := enc) (C := Try.checked) false ⟨#[], #[.slice none 0 0], []⟩ 8 (by kernel_rfl) (by kernel_rfl) (by kernel_rfl) (by kernel_rfl)) ?_
  intro W base args ds gs before hval hW _ _
  exact contract_of hE kids full (s := Rows.conflictSerialMatchesSpecSpec) (tb := 4) (by rw [Try.params6]; decide +kernel) (by rw [Try.params6]; exact reads_cons rv22 (reads_nil)) (by rintro _ ⟨a, _, ha, rfl, rfl⟩; exact c6 a) rfl
    (by rw [Try.params6]; rintro H (_ | ⟨d0, (_ | ⟨dz, ds⟩)⟩) hl <;> simp at hl; exact ⟨rfl, rfl, rfl⟩) (by kernel_rfl) (by kernel_rfl) H enc W base args ds gs before hval hW
theorem conflictSerialMatchesSpec_holds : Rows.ConflictSerialMatchesSpecSaid :=
  OpenClaim.holds_of_wide 6 Try.f6 rfl rfl rfl rfl rfl rfl rfl ⟨rfl, rfl, rfl, rfl, rfl⟩ rfl rfl rfl rfl rfl (by kernel_rfl) Try.func6 (by kernel_rfl)
    (of_decide_eq_true (by kernel_rfl)) (by unfold Func.isWrapper; first | (rw [if_pos (by decide +kernel)]; kernel_rfl) | (rw [if_neg (by decide +kernel)]; exact ⟨rfl, rfl⟩))
    (fun os started H enc _ => lifted6 os started H enc)
end Go.Proofs.Ythbajphbhoiceaa
