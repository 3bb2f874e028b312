/-
  A part of the proof: see the text of the law.
-/
import Derived.Test.YthbajphbhoiceaaCaf
set_option linter.unusedSimpArgs false
set_option linter.unusedVariables false
namespace Go.Proofs.Try
open Go.Al
set_option linter.unusedVariables false
set_option linter.unusedSimpArgs false
open Classical

def AntiE (x y : Acc) : Prop := x.done = true ∧ y.done = true ∧ Meet x.reads y.writes ∧ x.snap < y.stamp
def PlainE (x y : Acc) : Prop := x.done = true ∧ y.done = true ∧ ((Meet x.writes y.writes ∧ x.stamp < y.stamp) ∨ (Meet x.writes y.reads ∧ x.stamp ≤ y.snap))
def Anti (h : List Acc) (i j : Nat) : Prop := i ≠ j ∧ AntiE (at' h i) (at' h j)
def Edge (h : List Acc) (i j : Nat) : Prop := i ≠ j ∧ (PlainE (at' h i) (at' h j) ∨ AntiE (at' h i) (at' h j))

set_option maxHeartbeats 8000000
theorem c52 (h : List Acc) (i j : Nat) (hi : i < h.length) (hj : j < h.length) : ACalls E.P 52 [.view 6 (h.map accA), .int .i64 i, .int .i64 j] [] (fun r H => r = .bool (decide (Anti h i j)) ∧ H = []) := by
  have hmax := maxLen_eq
  have h49 := c49 (at' h i).reads (at' h j).writes
  simp only [at'] at h49
  have ei : ∀ {m N d c}, IdxR E.P m N (h.map accA) (i : Int) d c = rK E.P m N c d (.vp (accC (h.getD i default))) := IdxR_accs (by omega) (by omega)
  have ej : ∀ {m N d c}, IdxR E.P m N (h.map accA) (j : Int) d c = rK E.P m N c d (.vp (accC (h.getD j default))) := IdxR_accs (by omega) (by omega)
  refine ok52.acalls hE hm (by simp) ?_
  unfold mc52
  repeat' (first
    | (with_reducible first | apply cond_d | apply cond_nd | apply cond_i | apply guard_d | apply guard_nd | apply guard_df | apply guard_ndf | apply guard_i | apply ag_d | apply ag_nd | apply ag_df | apply ag_ndf | apply ag_i) <;> intro _
    | with_reducible first | refine LenR_i fun _ => ?_ | refine And.intro (by omega) ?_ | refine and_assoc.2 ?_ | apply sp_cond | apply sp_guard | apply sp_ag | apply sp_call | apply sp_acall | apply sp_loop | apply sp_any | apply sp_frz | apply sp_len | apply sp_idx | apply sp_keep | apply sp_back
    | with_reducible refine frz0_i ?_
    | ((with_reducible first | refine callN_i [] true (by simp) (by simp) ?_ | refine acallN_i true ?_); simp only [lPA, lPD, novO, setAll, seval, implies_true, ei, ej, accC]; (refine ⟨_, c49 _ _, ?_⟩; rintro _ _ ⟨rfl, rfl⟩); simp only [lAL, lDF, tupA, eqA, isNil, slcNil, ptrCells, ptrAdd, cellsO, intA, boolA, readsV, readsP, isCall, wrote, srcOf, isNilSlice, Value.oneCell', seval, implies_true, forall_eq, ne_eq, lPA, lPD, novO, setAll, ei, ej, accC])
    | ((with_reducible refine keep0_i ?_); simp only [lPA, lPD, novO, setAll, seval, implies_true])
    | simp (maxSteps := 1000000) (disch := omega) only [lAL, lDF, tupA, eqA, isNil, slcNil, ptrCells, ptrAdd, cellsO, intA, boolA, readsV, readsP, isCall, wrote, srcOf, isNilSlice, Value.oneCell', seval, implies_true, forall_eq, ne_eq, wrap_i64, LenR_ok, List.length_map, IdxR_ints, ei, ej, accC])
  all_goals refine congrArg AV.bool (Bool.eq_iff_iff.2 ?_)
  all_goals simp only [decide_eq_true_eq, Bool.false_eq_true, Anti, AntiE, at']
  all_goals clear ei ej h49
  all_goals simp_all
  all_goals omega
theorem c53 (h : List Acc) (i j : Nat) (hi : i < h.length) (hj : j < h.length) : ACalls E.P 53 [.view 6 (h.map accA), .int .i64 i, .int .i64 j] [] (fun r H => r = .bool (decide (Edge h i j)) ∧ H = []) := by
  have hmax := maxLen_eq
  have h49 := c49 (at' h i).writes (at' h j).writes
  have h49' := c49 (at' h i).writes (at' h j).reads
  have h52 := c52 h i j hi hj
  simp only [at'] at h49 h49'
  have ei : ∀ {m N d c}, IdxR E.P m N (h.map accA) (i : Int) d c = rK E.P m N c d (.vp (accC (h.getD i default))) := IdxR_accs (by omega) (by omega)
  have ej : ∀ {m N d c}, IdxR E.P m N (h.map accA) (j : Int) d c = rK E.P m N c d (.vp (accC (h.getD j default))) := IdxR_accs (by omega) (by omega)
  refine ok53.acalls hE hm (by simp) ?_
  unfold mc53
  repeat' (first
    | (with_reducible first | apply cond_d | apply cond_nd | apply cond_i | apply guard_d | apply guard_nd | apply guard_df | apply guard_ndf | apply guard_i | apply ag_d | apply ag_nd | apply ag_df | apply ag_ndf | apply ag_i) <;> intro _
    | with_reducible first | refine LenR_i fun _ => ?_ | refine And.intro (by omega) ?_ | refine and_assoc.2 ?_ | apply sp_cond | apply sp_guard | apply sp_ag | apply sp_call | apply sp_acall | apply sp_loop | apply sp_any | apply sp_frz | apply sp_len | apply sp_idx | apply sp_keep | apply sp_back
    | with_reducible refine frz0_i ?_
    | ((with_reducible first | refine callN_i [] true (by simp) (by simp) ?_ | refine acallN_i true ?_); simp only [lPA, lPD, novO, setAll, seval, implies_true, ei, ej, accC]; (first | (refine ⟨_, c49 _ _, ?_⟩; rintro _ _ ⟨rfl, rfl⟩) | (refine ⟨_, h52, ?_⟩; rintro _ _ ⟨rfl, rfl⟩)); simp only [lAL, lDF, tupA, eqA, isNil, slcNil, ptrCells, ptrAdd, cellsO, intA, boolA, readsV, readsP, isCall, wrote, srcOf, isNilSlice, Value.oneCell', seval, implies_true, forall_eq, ne_eq, lPA, lPD, novO, setAll, ei, ej, accC])
    | ((with_reducible refine keep0_i ?_); simp only [lPA, lPD, novO, setAll, seval, implies_true])
    | simp (maxSteps := 1000000) (disch := omega) only [lAL, lDF, tupA, eqA, isNil, slcNil, ptrCells, ptrAdd, cellsO, intA, boolA, readsV, readsP, isCall, wrote, srcOf, isNilSlice, Value.oneCell', seval, implies_true, forall_eq, ne_eq, wrap_i64, LenR_ok, List.length_map, IdxR_ints, ei, ej, accC])
  all_goals refine congrArg AV.bool (Bool.eq_iff_iff.2 ?_)
  all_goals simp only [decide_eq_true_eq, Bool.false_eq_true, Edge, Anti, PlainE, AntiE, at'] at *
  all_goals clear ei ej h49 h49' h52
  all_goals grind
end Go.Proofs.Try
