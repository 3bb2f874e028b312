/-
  A part of the proof: see the text of the law.
-/
import Derived.Test.YthbajphbhoiceaaBase
set_option linter.unusedSimpArgs false
set_option linter.unusedVariables false
namespace Go.Proofs.Try
open Go.Al
set_option linter.unusedVariables false
set_option linter.unusedSimpArgs false
open Classical

def Asc (l : List Int) : Prop := ∀ j, j + 1 < l.length → l.getD j 0 < l.getD (j + 1) 0
theorem c77 (l : List Int) : ACalls E.P 77 [.view 1 (l.map (AV.int .i64))] [] (fun r H => r = .bool (decide (Asc l)) ∧ H = []) := by
  have hmax := maxLen_eq
  refine ok77.acalls hE hm (by simp) ?_
  unfold mc77
  simp only [lAL, lDF, tupA, eqA, isNil, slcNil, ptrCells, ptrAdd, cellsO, intA, boolA, readsV, readsP, isCall, wrote, srcOf, isNilSlice, Value.oneCell', seval, implies_true, forall_eq, ne_eq]
  refine loop_i (fun i : Nat => 1 ≤ i ∧ i ≤ l.length + 1 ∧ ∀ j, j + 1 < i → l.getD j 0 < l.getD (j + 1) 0) (fun i => ⟨[(0, .view 1 (l.map (AV.int .i64))), (3, .int .i64 i)], []⟩) (fun i => l.length + 1 - i) 1 ⟨by omega, by omega, by omega⟩ (Ent.to [] false (by simp) (by simp) rfl (by simp only [lPA, lPD, novO, setAll, seval, implies_true] <;> (try simp) <;> (try omega)) (by simp only [lPA, lPD, novO, setAll, seval, implies_true] <;> (try simp) <;> (try omega))) ?_
  rintro i ⟨hi, hi2, hj⟩
  repeat' (first
    | (with_reducible first | apply cond_d | apply cond_nd | apply cond_i | apply guard_d | apply guard_nd | apply guard_df | apply guard_ndf | apply guard_i | apply ag_d | apply ag_nd | apply ag_df | apply ag_ndf | apply ag_i) <;> intro _
    | with_reducible first | refine LenR_i fun _ => ?_ | refine And.intro (by omega) ?_ | refine and_assoc.2 ?_ | apply sp_cond | apply sp_guard | apply sp_ag | apply sp_call | apply sp_acall | apply sp_loop | apply sp_any | apply sp_frz | apply sp_len | apply sp_idx | apply sp_keep | apply sp_back
    | with_reducible refine frz0_i ?_
    | ((with_reducible refine keep0_i ?_); simp only [lPA, lPD, novO, setAll, seval, implies_true])
    | simp (maxSteps := 1000000) (disch := omega) only [lAL, lDF, tupA, eqA, isNil, slcNil, ptrCells, ptrAdd, cellsO, intA, boolA, readsV, readsP, isCall, wrote, srcOf, isNilSlice, Value.oneCell', seval, implies_true, forall_eq, ne_eq, wrap_i64, LenR_ok, List.length_map, IdxR_ints])
  · rename_i h1 h2 h3
    rw [show (↑i - 1 : Int).toNat = i - 1 by omega] at h3
    simp only [AV.bool.injEq, false_eq_decide_iff]
    intro ha
    have := ha (i - 1) (by omega)
    rw [show i - 1 + 1 = i by omega] at this
    omega
  · rename_i h1 h2 h3
    refine back_i (i + 1) ⟨by omega, by omega, fun j hj2 => ?_⟩ (by omega) (Ent.to [] false (by simp) (by simp) rfl (by simp only [lPA, lPD, novO, setAll, seval, implies_true] <;> (try simp) <;> (try omega)) (by simp only [lPA, lPD, novO, setAll, seval, implies_true] <;> (try simp) <;> (try omega)))
    rw [show (↑i - 1 : Int).toNat = i - 1 by omega] at h3
    by_cases hji : j + 1 < i
    · exact hj j hji
    · have : j = i - 1 := by omega
      subst this
      rw [show i - 1 + 1 = i by omega]
      omega
  · simp only [AV.bool.injEq, true_eq_decide_iff]
    exact fun j hj2 => hj j (by omega)
end Go.Proofs.Try
