/-
  The order that Serial returns is equivalent to the history, and every edge leads to a later transaction; no condition.
-/
import Derived.Test.YthbajphbhoiceaaPlainb
import Derived.Test.YthbajphbhoiceaaReads
import Derived.Test.YthbajphbhoiceaaRows
set_option linter.unusedSimpArgs false
set_option linter.unusedVariables false
namespace Go.Proofs.Try
open Go.Al
set_option maxRecDepth 100000
/-- alum/alumlaw26.ConflictSerialIsEquivalent -/
def mc10 : MC :=
 (.seq (.ops [(none, (.v (.mov 2 (.c (.bool false)))))])
 (.seq (.ops [(none, (.e (.call (some 6) 16 []))),
  (none, (.v (.mov 3 (.t 6))))])
 (.seq (.seq (.ops [(none, (.v (.mov 7 (.t 0)))),
  (none, (.e (.call (some 8) 17 [(.t 7)]))),
  (none, (.v (.not 9 (.t 8))))])
 (.cond 9
  (.seq (.ops [(none, (.v (.mov 10 (.t 3)))),
   (none, (.v (.mov 2 (.t 10))))])
  .ret)
  .skip))
 (.seq (.ops [(none, (.v (.mov 12 (.t 0)))),
  (none, (.e (.call (some 13) 27 [(.t 12)]))),
  (none, (.v (.mov 11 (.t 13)))),
  (none, (.v (.ext 14 0 (.t 11)))),
  (none, (.v (.ext 15 1 (.t 11)))),
  (none, (.v (.mov 4 (.t 14)))),
  (none, (.v (.mov 5 (.t 15))))])
 (.seq (.seq (.ops [(none, (.v (.mov 16 (.t 5)))),
  (none, (.v (.not 17 (.t 16))))])
 (.cond 17
  (.seq (.ops [(none, (.v (.mov 18 (.t 3)))),
   (none, (.v (.mov 19 (.t 18)))),
   ((some (19, true)), (.v (.mov 20 (.t 4)))),
   ((some (19, true)), (.p (.len 21 (.t 20)))),
   ((some (19, true)), (.v (.bin 22 .eql false (.t 21) (.c (.int .i64 0))))),
   (none, (.v (.pick 23 (.t 19) (.t 22) (.c (.bool false))))),
   (none, (.v (.mov 2 (.t 23))))])
  .ret)
  .skip))
 (.seq (.ops [(none, (.v (.mov 24 (.t 3)))),
  (none, (.v (.mov 25 (.t 24)))),
  ((some (25, true)), (.v (.mov 26 (.t 0)))),
  ((some (25, true)), (.v (.mov 27 (.t 4)))),
  ((some (25, true)), (.e (.call (some 28) 32 [(.t 26), (.t 27)]))),
  (none, (.v (.pick 29 (.t 25) (.t 28) (.c (.bool false))))),
  (none, (.v (.mov 30 (.t 29)))),
  ((some (30, true)), (.v (.mov 31 (.t 0)))),
  ((some (30, true)), (.v (.mov 32 (.t 4)))),
  ((some (30, true)), (.e (.call (some 33) 38 [(.t 31), (.t 32)]))),
  (none, (.v (.pick 34 (.t 30) (.t 33) (.c (.bool false))))),
  (none, (.v (.mov 2 (.t 34))))])
 .ret))))))
theorem ok10 : FnOk E 10 35 [.tmp 2] mc10 := .of func10 (by kernel_rfl) (by kernel_rfl) (by kernel_rfl) (by kernel_rfl) (by kernel_rfl)
end Go.Proofs.Try
namespace Go.Proofs.Try
open Go.Al
set_option linter.unusedVariables false
set_option linter.unusedSimpArgs false
open Classical
set_option maxHeartbeats 8000000
theorem c10 (h : List Acc) : ACalls E.P 10 [.view 6 (h.map accA)] [] (fun r H => r = .bool true ∧ H = []) := by
  have hmax := maxLen_eq
  refine ok10.acalls hE hm (by simp) ?_
  unfold mc10
  have h16 := c16
  have h17 := c17 h
  repeat' (first
    | (with_reducible first | apply cond_d | apply cond_nd | apply cond_i | apply guard_d | apply guard_nd | apply guard_df | apply guard_ndf | apply guard_i | apply ag_d | apply ag_nd | apply ag_df | apply ag_ndf | apply ag_i) <;> intro _
    | with_reducible first | refine LenR_i fun _ => ?_ | refine And.intro (by omega) ?_ | refine and_assoc.2 ?_ | apply sp_cond | apply sp_guard | apply sp_ag | apply sp_call | apply sp_acall | apply sp_loop | apply sp_any | apply sp_frz | apply sp_len | apply sp_idx | apply sp_keep | apply sp_back
    | with_reducible refine frz0_i ?_
    | ((with_reducible first | refine callN_i [] true (by simp) (by simp) ?_ | refine acallN_i true ?_); simp only [lPA, lPD, novO, setAll, seval, implies_true, pa_accs]; (first | (refine ⟨_, h16, ?_⟩; rintro _ _ ⟨rfl, rfl⟩) | (refine ⟨_, h17, ?_⟩; rintro _ _ ⟨⟨b, rfl⟩, rfl⟩)); simp only [lAL, lDF, tupA, eqA, isNil, slcNil, ptrCells, ptrAdd, cellsO, intA, boolA, readsV, readsP, isCall, wrote, srcOf, isNilSlice, Value.oneCell', seval, implies_true, forall_eq, ne_eq, lPA, lPD, novO, setAll, pa_accs])
    | ((with_reducible refine keep0_i ?_); simp only [lPA, lPD, novO, setAll, seval, implies_true])
    | simp (maxSteps := 1000000) (disch := omega) only [lAL, lDF, tupA, eqA, isNil, slcNil, ptrCells, ptrAdd, cellsO, intA, boolA, readsV, readsP, isCall, wrote, srcOf, isNilSlice, Value.oneCell', seval, implies_true, forall_eq, ne_eq, wrap_i64, LenR_ok, List.length_map, IdxR_ints, pa_accs])
  refine callN_i [] false (by simp) (by simp) ?_
  simp only [lPA, lPD, novO, setAll, seval, implies_true]
  refine ⟨_, c27 h, ?_⟩
  rintro _ _ ⟨⟨t, ht, rfl⟩, rfl⟩
  rcases t with _ | ol
  · simp only [serA, lPA, lPD, novO, setAll, seval, implies_true, lAL, lDF, tupA, eqA, isNil, slcNil, ptrCells, ptrAdd, cellsO, intA, boolA, readsV, readsP, isCall, wrote, srcOf, isNilSlice, Value.oneCell', seval, implies_true, forall_eq, ne_eq]
    repeat' (first
      | (with_reducible first | apply cond_d | apply cond_nd | apply cond_i | apply guard_d | apply guard_nd | apply guard_df | apply guard_ndf | apply guard_i | apply ag_d | apply ag_nd | apply ag_df | apply ag_ndf | apply ag_i) <;> intro _
      | with_reducible first | refine LenR_i fun _ => ?_ | refine And.intro (by omega) ?_ | refine and_assoc.2 ?_ | apply sp_cond | apply sp_guard | apply sp_ag | apply sp_call | apply sp_acall | apply sp_loop | apply sp_any | apply sp_frz | apply sp_len | apply sp_idx | apply sp_keep | apply sp_back
      | with_reducible refine frz0_i ?_
      | ((with_reducible refine keep0_i ?_); simp only [lPA, lPD, novO, setAll, seval, implies_true])
      | simp (maxSteps := 1000000) (disch := omega) only [lAL, lDF, tupA, eqA, isNil, slcNil, ptrCells, ptrAdd, cellsO, intA, boolA, readsV, readsP, isCall, wrote, srcOf, isNilSlice, Value.oneCell', seval, implies_true, forall_eq, ne_eq, wrap_i64, LenR_ok, List.length_map, IdxR_ints, pa_accs])
  · have hck : checkS h = 0 := by
      refine Classical.byContradiction fun hn => ?_
      rw [SerialF, if_neg hn] at ht
      cases ht
    rw [SerialF, if_pos hck] at ht
    have he := eqv_of_serial hck ht
    have h32 := c32 h (natL ol)
    have h38 := c38 h ol hck (fun i hi => (ht.1.ok i hi).1) ht.1.nodup (fwd_of_serial ht)
    simp only [he, decide_true] at h32
    simp only [serA, lPA, lPD, novO, setAll, seval, implies_true, lAL, lDF, tupA, eqA, isNil, slcNil, ptrCells, ptrAdd, cellsO, intA, boolA, readsV, readsP, isCall, wrote, srcOf, isNilSlice, Value.oneCell', seval, implies_true, forall_eq, ne_eq]
    repeat' (first
      | (with_reducible first | apply cond_d | apply cond_nd | apply cond_i | apply guard_d | apply guard_nd | apply guard_df | apply guard_ndf | apply guard_i | apply ag_d | apply ag_nd | apply ag_df | apply ag_ndf | apply ag_i) <;> intro _
      | with_reducible first | refine LenR_i fun _ => ?_ | refine And.intro (by omega) ?_ | refine and_assoc.2 ?_ | apply sp_cond | apply sp_guard | apply sp_ag | apply sp_call | apply sp_acall | apply sp_loop | apply sp_any | apply sp_frz | apply sp_len | apply sp_idx | apply sp_keep | apply sp_back
      | with_reducible refine frz0_i ?_
      | ((with_reducible first | refine callN_i [] true (by simp) (by simp) ?_ | refine acallN_i true ?_); simp only [lPA, lPD, novO, setAll, seval, implies_true, pa_accs]; (first | (refine ⟨_, h32, ?_⟩; rintro _ _ ⟨rfl, rfl⟩) | (refine ⟨_, h38, ?_⟩; rintro _ _ ⟨rfl, rfl⟩)); simp only [lAL, lDF, tupA, eqA, isNil, slcNil, ptrCells, ptrAdd, cellsO, intA, boolA, readsV, readsP, isCall, wrote, srcOf, isNilSlice, Value.oneCell', seval, implies_true, forall_eq, ne_eq, lPA, lPD, novO, setAll, pa_accs])
      | ((with_reducible refine keep0_i ?_); simp only [lPA, lPD, novO, setAll, seval, implies_true])
      | simp (maxSteps := 1000000) (disch := omega) only [lAL, lDF, tupA, eqA, isNil, slcNil, ptrCells, ptrAdd, cellsO, intA, boolA, readsV, readsP, isCall, wrote, srcOf, isNilSlice, Value.oneCell', seval, implies_true, forall_eq, ne_eq, wrap_i64, LenR_ok, List.length_map, IdxR_ints, pa_accs])
end Go.Proofs.Try


namespace Go.Proofs.Ythbajphbhoiceaa
open Go.Al Go.Proofs.Try
open Go.ChangeShapes Go.WideShapes Go.ChangeAt Go.RowKit
set_option linter.unusedVariables false
set_option maxRecDepth 100000 in
theorem lifted10 (os : Os) (started : os.Started) (H : Type) (enc : TypeId × Value → H) :
    ReturnsInHanded {} Try.checked os 10 .any (Rows.conflictSerialIsEquivalentSpec.pre6 enc Try.prog Try.f10 Rows.conflictSerialIsEquivalentRow.domain false) (Rows.conflictSerialIsEquivalentSpec.post enc Try.prog Try.f10 false true false false) := by
  refine returnsInHanded_of_change (C := Try.checked) own started (by kernel_rfl) Try.func10
    (ChangeSpec.witness6 (enc := enc) (C := Try.checked) false ⟨#[], #[.slice none 0 0], []⟩ 8 (by kernel_rfl) (by kernel_rfl) (by kernel_rfl) (by kernel_rfl)) ?_
  intro W base args ds gs before hval hW _ _
  exact contract_of hE kids full (s := Rows.conflictSerialIsEquivalentSpec) (tb := 4) (by rw [Try.params10]; decide +kernel) (by rw [Try.params10]; exact reads_cons rv22 (reads_nil)) (by rintro _ ⟨a, _, ha, rfl, rfl⟩; exact c10 a) rfl
    (by rw [Try.params10]; rintro H (_ | ⟨d0, (_ | ⟨dz, ds⟩)⟩) hl <;> simp at hl; exact ⟨rfl, rfl, rfl⟩) (by kernel_rfl) (by kernel_rfl) H enc W base args ds gs before hval hW
theorem conflictSerialIsEquivalent_holds : Rows.ConflictSerialIsEquivalentSaid :=
  OpenClaim.holds_of_wide 10 Try.f10 rfl rfl rfl rfl rfl rfl rfl ⟨rfl, rfl, rfl, rfl, rfl⟩ rfl rfl rfl rfl rfl (by kernel_rfl) Try.func10 (by kernel_rfl)
    (of_decide_eq_true (by kernel_rfl)) (by unfold Func.isWrapper; first | (rw [if_pos (by decide +kernel)]; kernel_rfl) | (rw [if_neg (by decide +kernel)]; exact ⟨rfl, rfl⟩))
    (fun os started H enc _ => lifted10 os started H enc)
end Go.Proofs.Ythbajphbhoiceaa
