/-
  A part of the proof: see the text of the law.
-/
import Derived.Test.YthbajphbhoiceaaCac
set_option linter.unusedSimpArgs false
set_option linter.unusedVariables false
namespace Go.Proofs.Try
open Go.Al
set_option linter.unusedVariables false
set_option linter.unusedSimpArgs false
open Classical

def Acc.Formed (x : Acc) : Prop := 0 ≤ x.mode ∧ x.mode ≤ 2 ∧ 0 ≤ x.snap ∧ x.snap ≤ 1073741824 ∧ Asc x.reads ∧ Asc x.writes ∧ ¬ (x.mode = 2 ∧ 0 < x.writes.length) ∧
  (x.writer = true → x.snap < x.stamp ∧ x.stamp ≤ 1073741824) ∧ (x.writer = false → x.stamp = 0)

set_option maxHeartbeats 1000000
theorem c43 (x : Acc) : ACalls E.P 43 [accA x] [] (fun r H => r = .bool (decide x.Formed) ∧ H = []) := by
  have h45 := c45 x
  refine ok43.acalls hE hm (by simp) ?_
  unfold mc43
  simp only [accA_eq] at h45 ⊢
  repeat' (first
    | (with_reducible first | apply cond_d | apply cond_nd | apply cond_i | apply guard_d | apply guard_nd | apply guard_df | apply guard_ndf | apply guard_i | apply ag_d | apply ag_nd | apply ag_df | apply ag_ndf | apply ag_i) <;> intro _
    | with_reducible first | refine LenR_i fun _ => ?_ | refine And.intro (by omega) ?_ | refine and_assoc.2 ?_ | apply sp_cond | apply sp_guard | apply sp_ag | apply sp_call | apply sp_acall | apply sp_loop | apply sp_any | apply sp_frz | apply sp_len | apply sp_idx | apply sp_keep | apply sp_back
    | with_reducible refine frz0_i ?_
    | ((with_reducible first | refine callN_i [] true (by simp) (by simp) ?_ | refine acallN_i true ?_); simp only [lPA, lPD, novO, setAll, seval, implies_true]; (first | (refine ⟨_, c77 _, ?_⟩; rintro _ _ ⟨rfl, rfl⟩) | (refine ⟨_, h45, ?_⟩; rintro _ _ ⟨rfl, rfl⟩)); simp only [lAL, lDF, tupA, eqA, isNil, slcNil, ptrCells, ptrAdd, cellsO, intA, boolA, readsV, readsP, isCall, wrote, srcOf, isNilSlice, Value.oneCell', seval, implies_true, forall_eq, ne_eq, lPA, lPD, novO, setAll])
    | ((with_reducible refine keep0_i ?_); simp only [lPA, lPD, novO, setAll, seval, implies_true])
    | simp (maxSteps := 1000000) (disch := omega) only [lAL, lDF, tupA, eqA, isNil, slcNil, ptrCells, ptrAdd, cellsO, intA, boolA, readsV, readsP, isCall, wrote, srcOf, isNilSlice, Value.oneCell', seval, implies_true, forall_eq, ne_eq, wrap_i64, LenR_ok, List.length_map, IdxR_ints])
  all_goals refine congrArg AV.bool (Bool.eq_iff_iff.2 ?_)
  all_goals simp only [decide_eq_true_eq, Bool.false_eq_true, Acc.Formed, Bool.and_eq_false_imp, decide_eq_false_iff_not]
  all_goals grind
theorem c46 (x y : Acc) : ACalls E.P 46 [accA x, accA y] [] (fun r H => r = .bool (decide (x.snap < y.stamp) && decide (y.snap < x.stamp)) ∧ H = []) := by
  refine ok46.acalls hE hm (by simp) ?_
  unfold mc46
  simp only [accA_eq]
  repeat' (first
    | (with_reducible first | apply cond_d | apply cond_nd | apply cond_i | apply guard_d | apply guard_nd | apply guard_df | apply guard_ndf | apply guard_i | apply ag_d | apply ag_nd | apply ag_df | apply ag_ndf | apply ag_i) <;> intro _
    | with_reducible first | refine LenR_i fun _ => ?_ | refine And.intro (by omega) ?_ | refine and_assoc.2 ?_ | apply sp_cond | apply sp_guard | apply sp_ag | apply sp_call | apply sp_acall | apply sp_loop | apply sp_any | apply sp_frz | apply sp_len | apply sp_idx | apply sp_keep | apply sp_back
    | with_reducible refine frz0_i ?_
    | ((with_reducible refine keep0_i ?_); simp only [lPA, lPD, novO, setAll, seval, implies_true])
    | simp (maxSteps := 1000000) (disch := omega) only [lAL, lDF, tupA, eqA, isNil, slcNil, ptrCells, ptrAdd, cellsO, intA, boolA, readsV, readsP, isCall, wrote, srcOf, isNilSlice, Value.oneCell', seval, implies_true, forall_eq, ne_eq, wrap_i64, LenR_ok, List.length_map, IdxR_ints])
  all_goals refine congrArg AV.bool (Bool.eq_iff_iff.2 ?_)
  all_goals simp only [decide_eq_true_eq, Bool.false_eq_true, Bool.and_eq_true]
  all_goals grind
theorem c48 (x : Acc) : ACalls E.P 48 [accA x] [] (fun r H => r = .bool (decide x.Formed) ∧ H = []) := by
  refine ok48.acalls hE hm (by simp) ?_
  unfold mc48
  simp only [accA_eq]
  repeat' (first
    | (with_reducible first | apply cond_d | apply cond_nd | apply cond_i | apply guard_d | apply guard_nd | apply guard_df | apply guard_ndf | apply guard_i | apply ag_d | apply ag_nd | apply ag_df | apply ag_ndf | apply ag_i) <;> intro _
    | with_reducible first | refine LenR_i fun _ => ?_ | refine And.intro (by omega) ?_ | refine and_assoc.2 ?_ | apply sp_cond | apply sp_guard | apply sp_ag | apply sp_call | apply sp_acall | apply sp_loop | apply sp_any | apply sp_frz | apply sp_len | apply sp_idx | apply sp_keep | apply sp_back
    | with_reducible refine frz0_i ?_
    | ((with_reducible first | refine callN_i [] true (by simp) (by simp) ?_ | refine acallN_i true ?_); simp only [lPA, lPD, novO, setAll, seval, implies_true]; (refine ⟨_, c80 _, ?_⟩; rintro _ _ ⟨rfl, rfl⟩); simp only [lAL, lDF, tupA, eqA, isNil, slcNil, ptrCells, ptrAdd, cellsO, intA, boolA, readsV, readsP, isCall, wrote, srcOf, isNilSlice, Value.oneCell', seval, implies_true, forall_eq, ne_eq, lPA, lPD, novO, setAll])
    | ((with_reducible refine keep0_i ?_); simp only [lPA, lPD, novO, setAll, seval, implies_true])
    | simp (maxSteps := 1000000) (disch := omega) only [lAL, lDF, tupA, eqA, isNil, slcNil, ptrCells, ptrAdd, cellsO, intA, boolA, readsV, readsP, isCall, wrote, srcOf, isNilSlice, Value.oneCell', seval, implies_true, forall_eq, ne_eq, wrap_i64, LenR_ok, List.length_map, IdxR_ints])
  all_goals refine congrArg AV.bool (Bool.eq_iff_iff.2 ?_)
  all_goals simp only [decide_eq_true_eq, Bool.false_eq_true, Acc.Formed, Acc.writer, Bool.and_eq_true, Bool.and_eq_false_imp, decide_eq_false_iff_not]
  all_goals grind
end Go.Proofs.Try
