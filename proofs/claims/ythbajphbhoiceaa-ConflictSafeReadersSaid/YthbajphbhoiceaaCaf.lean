/-
  A part of the proof: see the text of the law.
-/
import Derived.Test.YthbajphbhoiceaaCae
set_option linter.unusedSimpArgs false
set_option linter.unusedVariables false
namespace Go.Proofs.Try
open Go.Al
set_option linter.unusedVariables false
set_option linter.unusedSimpArgs false
open Classical

set_option maxHeartbeats 8000000
theorem c19 (h : List Acc) : ACalls E.P 19 [.view 6 (h.map accA)] [] (fun r H => r = .int .i64 (checkS h) ∧ H = []) := by
  have hmax := maxLen_eq
  refine ok19.acalls hE hm (by simp) ?_
  unfold mc19
  repeat' (first
    | (with_reducible first | apply cond_d | apply cond_nd | apply cond_i | apply guard_d | apply guard_nd | apply guard_df | apply guard_ndf | apply guard_i | apply ag_d | apply ag_nd | apply ag_df | apply ag_ndf | apply ag_i) <;> intro _
    | with_reducible first | refine LenR_i fun _ => ?_ | refine And.intro (by omega) ?_ | refine and_assoc.2 ?_ | apply sp_cond | apply sp_guard | apply sp_ag | apply sp_call | apply sp_acall | apply sp_loop | apply sp_any | apply sp_frz | apply sp_len | apply sp_idx | apply sp_keep | apply sp_back
    | with_reducible refine frz0_i ?_
    | ((with_reducible refine keep0_i ?_); simp only [lPA, lPD, novO, setAll, seval, implies_true])
    | simp (maxSteps := 1000000) (disch := omega) only [lAL, lDF, tupA, eqA, isNil, slcNil, ptrCells, ptrAdd, cellsO, intA, boolA, readsV, readsP, isCall, wrote, srcOf, isNilSlice, Value.oneCell', seval, implies_true, forall_eq, ne_eq, wrap_i64, LenR_ok, List.length_map, IdxR_ints])
  · rename_i h1 h2
    have : Big h := .inl (by omega)
    simp [checkS, this]
  rename_i h1 h2
  have hlen : ¬ 100 < h.length := by omega
  refine loop_i (fun i : Nat => i ≤ h.length ∧ ∀ j, j < i → (at' h j).reads.length ≤ 64 ∧ (at' h j).writes.length ≤ 64) (fun i => ⟨[(0, .view 6 (h.map accA)), (3, .int .i64 i)], []⟩) (fun i => h.length - i) 0 ⟨by omega, by omega⟩ (Ent.to [] false (by simp) (by simp) rfl (by simp only [lPA, lPD, novO, setAll, seval, implies_true] <;> (try simp) <;> (try omega)) (by simp only [lPA, lPD, novO, setAll, seval, implies_true] <;> (try simp) <;> (try omega))) ?_
  rintro i ⟨hi, hj⟩
  repeat' (first
    | (with_reducible first | apply cond_d | apply cond_nd | apply cond_i | apply guard_d | apply guard_nd | apply guard_df | apply guard_ndf | apply guard_i | apply ag_d | apply ag_nd | apply ag_df | apply ag_ndf | apply ag_i) <;> intro _
    | with_reducible first | refine LenR_i fun _ => ?_ | refine And.intro (by omega) ?_ | refine and_assoc.2 ?_ | apply sp_cond | apply sp_guard | apply sp_ag | apply sp_call | apply sp_acall | apply sp_loop | apply sp_any | apply sp_frz | apply sp_len | apply sp_idx | apply sp_keep | apply sp_back
    | with_reducible refine frz0_i ?_
    | ((with_reducible refine keep0_i ?_); simp only [lPA, lPD, novO, setAll, seval, implies_true])
    | simp (maxSteps := 1000000) (disch := omega) only [lAL, lDF, tupA, eqA, isNil, slcNil, ptrCells, ptrAdd, cellsO, intA, boolA, readsV, readsP, isCall, wrote, srcOf, isNilSlice, Value.oneCell', seval, implies_true, forall_eq, ne_eq, wrap_i64, LenR_ok, List.length_map, IdxR_ints, IdxR_accs, accC])
  all_goals try (solve
    | (have : Big h := .inr ⟨i, by omega, by simp only [at']; omega⟩
       simp [checkS, this])
    | (refine back_i (i + 1) ⟨by omega, fun j hj2 => ?_⟩ (by omega) (Ent.to [] false (by simp) (by simp) rfl (by simp only [lPA, lPD, novO, setAll, seval, implies_true] <;> (try simp) <;> (try omega)) (by simp only [lPA, lPD, novO, setAll, seval, implies_true] <;> (try simp) <;> (try omega)))
       by_cases hji : j < i
       · exact hj j hji
       · have : j = i := by omega
         subst this
         simp only [at']
         omega))
  rename_i h3
  have hbig : ¬ Big h := by
    rintro (hb | ⟨j, hj1, hj2⟩)
    · exact hlen hb
    · have := hj j (by omega)
      omega
  refine loop_i (fun i : Nat => i ≤ h.length ∧ (∀ j, j < i → (at' h j).Formed) ∧ ∀ a b, a < b → b < i → ¬ ((at' h a).stamp = (at' h b).stamp ∧ 0 < (at' h b).stamp))
    (fun i => ⟨[(0, .view 6 (h.map accA)), (4, .int .i64 i)], []⟩) (fun i => h.length - i) 0 ⟨by simp, by simp, by simp⟩ (Ent.to [] false (by simp) (by simp) rfl (by simp only [lPA, lPD, novO, setAll, seval, implies_true] <;> (try simp) <;> (try omega)) (by simp only [lPA, lPD, novO, setAll, seval, implies_true] <;> (try simp) <;> (try omega))) ?_
  rintro i ⟨hi, hf, hnd⟩
  have h48 := c48 (at' h i)
  simp only [accA_eq, at'] at h48
  repeat' (first
    | (with_reducible first | apply cond_d | apply cond_nd | apply cond_i | apply guard_d | apply guard_nd | apply guard_df | apply guard_ndf | apply guard_i | apply ag_d | apply ag_nd | apply ag_df | apply ag_ndf | apply ag_i) <;> intro _
    | with_reducible first | refine LenR_i fun _ => ?_ | refine And.intro (by omega) ?_ | refine and_assoc.2 ?_ | apply sp_cond | apply sp_guard | apply sp_ag | apply sp_call | apply sp_acall | apply sp_loop | apply sp_any | apply sp_frz | apply sp_len | apply sp_idx | apply sp_keep | apply sp_back
    | with_reducible refine frz0_i ?_
    | ((with_reducible first | refine callN_i [] true (by simp) (by simp) ?_ | refine acallN_i true ?_); simp only [lPA, lPD, novO, setAll, seval, implies_true, IdxR_accs, accC]; (refine ⟨_, h48, ?_⟩; rintro _ _ ⟨rfl, rfl⟩); simp only [lAL, lDF, tupA, eqA, isNil, slcNil, ptrCells, ptrAdd, cellsO, intA, boolA, readsV, readsP, isCall, wrote, srcOf, isNilSlice, Value.oneCell', seval, implies_true, forall_eq, ne_eq, lPA, lPD, novO, setAll, IdxR_accs, accC])
    | ((with_reducible refine keep0_i ?_); simp only [lPA, lPD, novO, setAll, seval, implies_true])
    | simp (maxSteps := 1000000) (disch := omega) only [lAL, lDF, tupA, eqA, isNil, slcNil, ptrCells, ptrAdd, cellsO, intA, boolA, readsV, readsP, isCall, wrote, srcOf, isNilSlice, Value.oneCell', seval, implies_true, forall_eq, ne_eq, wrap_i64, LenR_ok, List.length_map, IdxR_ints, IdxR_accs, accC])
  · rename_i h4 h5
    have : Bad h := .inl ⟨i, by omega, h5⟩
    simp [checkS, this, hbig]
  · rename_i h4 h5
    have hst : (h.getD i default).stamp ≠ 0 → 0 < (h.getD i default).stamp := by
      obtain ⟨_, _, h6, _, _, _, _, h7, h8⟩ := h5
      intro h9
      cases hw : (h.getD i default).writer
      · exact absurd (h8 hw) h9
      · have := h7 hw; omega
    refine loop_i (fun j : Nat => j ≤ i ∧ ∀ a, a < j → ¬ ((at' h a).stamp = (at' h i).stamp ∧ 0 < (at' h i).stamp))
      (fun j => ⟨[(0, .view 6 (h.map accA)), (4, .int .i64 i), (6, .int .i64 j)], []⟩) (fun j => i - j) 0 ⟨by simp, by simp⟩ (Ent.to [] false (by simp) (by simp) rfl (by simp only [lPA, lPD, novO, setAll, seval, implies_true] <;> (try simp) <;> (try omega)) (by simp only [lPA, lPD, novO, setAll, seval, implies_true] <;> (try simp) <;> (try omega))) ?_
    rintro j ⟨hj2, hnd2⟩
    by_cases hji : j < i
    · repeat' (first
        | (with_reducible first | apply cond_d | apply cond_nd | apply cond_i | apply guard_d | apply guard_nd | apply guard_df | apply guard_ndf | apply guard_i | apply ag_d | apply ag_nd | apply ag_df | apply ag_ndf | apply ag_i) <;> intro _
        | with_reducible first | refine LenR_i fun _ => ?_ | refine And.intro (by omega) ?_ | refine and_assoc.2 ?_ | apply sp_cond | apply sp_guard | apply sp_ag | apply sp_call | apply sp_acall | apply sp_loop | apply sp_any | apply sp_frz | apply sp_len | apply sp_idx | apply sp_keep | apply sp_back
        | with_reducible refine frz0_i ?_
        | ((with_reducible refine keep0_i ?_); simp only [lPA, lPD, novO, setAll, seval, implies_true])
        | simp (maxSteps := 1000000) (disch := omega) only [lAL, lDF, tupA, eqA, isNil, slcNil, ptrCells, ptrAdd, cellsO, intA, boolA, readsV, readsP, isCall, wrote, srcOf, isNilSlice, Value.oneCell', seval, implies_true, forall_eq, ne_eq, wrap_i64, LenR_ok, List.length_map, IdxR_ints, IdxR_accs, accC])
      all_goals first
        | (exfalso; omega)
        | solve
          | (have : Bad h := .inr ⟨j, i, hji, by omega, by simp only [at']; omega, by simp only [at']; omega⟩
             simp [checkS, this, hbig])
          | (refine back_i (j + 1) ⟨by omega, fun a ha => ?_⟩ (by omega) (Ent.to [] false (by simp) (by simp) rfl (by simp only [lPA, lPD, novO, setAll, seval, implies_true] <;> (try simp) <;> (try omega)) (by simp only [lPA, lPD, novO, setAll, seval, implies_true] <;> (try simp) <;> (try omega)))
             by_cases haj : a < j
             · exact hnd2 a haj
             · have : a = j := by omega
               subst this
               simp only [at']
               rintro ⟨k1, k2⟩
               omega)
    · repeat' (first
        | (with_reducible first | apply cond_d | apply cond_nd | apply cond_i | apply guard_d | apply guard_nd | apply guard_df | apply guard_ndf | apply guard_i | apply ag_d | apply ag_nd | apply ag_df | apply ag_ndf | apply ag_i) <;> intro _
        | with_reducible first | refine LenR_i fun _ => ?_ | refine And.intro (by omega) ?_ | refine and_assoc.2 ?_ | apply sp_cond | apply sp_guard | apply sp_ag | apply sp_call | apply sp_acall | apply sp_loop | apply sp_any | apply sp_frz | apply sp_len | apply sp_idx | apply sp_keep | apply sp_back
        | with_reducible refine frz0_i ?_
        | ((with_reducible refine keep0_i ?_); simp only [lPA, lPD, novO, setAll, seval, implies_true])
        | simp (maxSteps := 1000000) (disch := omega) only [lAL, lDF, tupA, eqA, isNil, slcNil, ptrCells, ptrAdd, cellsO, intA, boolA, readsV, readsP, isCall, wrote, srcOf, isNilSlice, Value.oneCell', seval, implies_true, forall_eq, ne_eq, wrap_i64, LenR_ok, List.length_map, IdxR_ints, IdxR_accs, accC])
      all_goals try (exfalso; omega)
      refine back_i (i + 1) ⟨by omega, fun j hj2 => ?_, fun a b hab hb => ?_⟩ (by omega) (Ent.to [] false (by simp) (by simp) rfl (by simp only [lPA, lPD, novO, setAll, seval, implies_true] <;> (try simp) <;> (try omega)) (by simp only [lPA, lPD, novO, setAll, seval, implies_true] <;> (try simp) <;> (try omega)))
      · by_cases hji : j < i
        · exact hf j hji
        · have : j = i := by omega
          subst this; exact h5
      · by_cases hbi : b < i
        · exact hnd a b hab hbi
        · have : b = i := by omega
          subst this
          exact hnd2 a (by omega)
  rename_i h4
  have hbad : ¬ Bad h := by
    rintro (⟨j, hj1, hj2⟩ | ⟨a, b, hab, hb, h5, h6⟩)
    · exact hj2 (hf j (by omega))
    · exact hnd a b hab (by omega) ⟨h5, h6⟩
  refine loop_i (fun i : Nat => i ≤ h.length ∧ ∀ a b, b < a → a < i → ¬ Clash1 (at' h a) (at' h b)) (fun i => ⟨[(0, .view 6 (h.map accA)), (7, .int .i64 i)], []⟩) (fun i => h.length - i) 0 ⟨by omega, by omega⟩ (Ent.to [] false (by simp) (by simp) rfl (by simp only [lPA, lPD, novO, setAll, seval, implies_true] <;> (try simp) <;> (try omega)) (by simp only [lPA, lPD, novO, setAll, seval, implies_true] <;> (try simp) <;> (try omega))) ?_
  rintro i ⟨hi, hcl⟩
  repeat' (first
    | (with_reducible first | apply cond_d | apply cond_nd | apply cond_i | apply guard_d | apply guard_nd | apply guard_df | apply guard_ndf | apply guard_i | apply ag_d | apply ag_nd | apply ag_df | apply ag_ndf | apply ag_i) <;> intro _
    | with_reducible first | refine LenR_i fun _ => ?_ | refine And.intro (by omega) ?_ | refine and_assoc.2 ?_ | apply sp_cond | apply sp_guard | apply sp_ag | apply sp_call | apply sp_acall | apply sp_loop | apply sp_any | apply sp_frz | apply sp_len | apply sp_idx | apply sp_keep | apply sp_back
    | with_reducible refine frz0_i ?_
    | ((with_reducible refine keep0_i ?_); simp only [lPA, lPD, novO, setAll, seval, implies_true])
    | simp (maxSteps := 1000000) (disch := omega) only [lAL, lDF, tupA, eqA, isNil, slcNil, ptrCells, ptrAdd, cellsO, intA, boolA, readsV, readsP, isCall, wrote, srcOf, isNilSlice, Value.oneCell', seval, implies_true, forall_eq, ne_eq, wrap_i64, LenR_ok, List.length_map, IdxR_ints, IdxR_accs, accC])
  · rename_i h5
    refine loop_i (fun j : Nat => j ≤ i ∧ ∀ b, b < j → ¬ Clash1 (at' h i) (at' h b)) (fun j => ⟨[(0, .view 6 (h.map accA)), (7, .int .i64 i), (8, .int .i64 j)], []⟩) (fun j => i - j) 0 ⟨by omega, by omega⟩ (Ent.to [] false (by simp) (by simp) rfl (by simp only [lPA, lPD, novO, setAll, seval, implies_true] <;> (try simp) <;> (try omega)) (by simp only [lPA, lPD, novO, setAll, seval, implies_true] <;> (try simp) <;> (try omega))) ?_
    rintro j ⟨hj2, hcl2⟩
    by_cases hji : j < i
    · have h49 := c49 (at' h i).writes (at' h j).writes
      simp only [at'] at h49
      repeat' (first
        | (with_reducible first | apply cond_d | apply cond_nd | apply cond_i | apply guard_d | apply guard_nd | apply guard_df | apply guard_ndf | apply guard_i | apply ag_d | apply ag_nd | apply ag_df | apply ag_ndf | apply ag_i) <;> intro _
        | with_reducible first | refine LenR_i fun _ => ?_ | refine And.intro (by omega) ?_ | refine and_assoc.2 ?_ | apply sp_cond | apply sp_guard | apply sp_ag | apply sp_call | apply sp_acall | apply sp_loop | apply sp_any | apply sp_frz | apply sp_len | apply sp_idx | apply sp_keep | apply sp_back
        | with_reducible refine frz0_i ?_
        | ((with_reducible first | refine callN_i [] true (by simp) (by simp) ?_ | refine acallN_i true ?_); simp only [lPA, lPD, novO, setAll, seval, implies_true, IdxR_accs, accC]; (refine ⟨_, h49, ?_⟩; rintro _ _ ⟨rfl, rfl⟩); simp only [lAL, lDF, tupA, eqA, isNil, slcNil, ptrCells, ptrAdd, cellsO, intA, boolA, readsV, readsP, isCall, wrote, srcOf, isNilSlice, Value.oneCell', seval, implies_true, forall_eq, ne_eq, lPA, lPD, novO, setAll, IdxR_accs, accC])
        | ((with_reducible refine keep0_i ?_); simp only [lPA, lPD, novO, setAll, seval, implies_true])
        | simp (maxSteps := 1000000) (disch := omega) only [lAL, lDF, tupA, eqA, isNil, slcNil, ptrCells, ptrAdd, cellsO, intA, boolA, readsV, readsP, isCall, wrote, srcOf, isNilSlice, Value.oneCell', seval, implies_true, forall_eq, ne_eq, wrap_i64, LenR_ok, List.length_map, IdxR_ints, IdxR_accs, accC])
      ·
        rename_i k1 k2 k3 k4 k5 k6
        obtain ⟨x, hx1, hx2⟩ := k4
        have w1 : (h.getD i default).writer = true := by
          simp only [Acc.writer, k2, Bool.true_and, decide_eq_true_eq]; exact List.length_pos_of_mem hx1
        have w2 : (h.getD j default).writer = true := by
          simp only [Acc.writer, k3, Bool.true_and, decide_eq_true_eq]; exact List.length_pos_of_mem hx2
        have : Clash h := ⟨i, j, by omega, by omega, w1, w2, k5, k6, x, hx2, hx1⟩
        simp [checkS, hbig, hbad, this]
      all_goals try (exfalso; omega)
      all_goals
        refine back_i (j + 1) ⟨by omega, fun b hb => ?_⟩ (by omega) (Ent.to [] false (by simp) (by simp) rfl (by simp only [lPA, lPD, novO, setAll, seval, implies_true] <;> (try simp) <;> (try omega)) (by simp only [lPA, lPD, novO, setAll, seval, implies_true] <;> (try simp) <;> (try omega)))
        by_cases hbj : b < j
        · exact hcl2 b hbj
        · have hbj : b = j := by omega
          subst hbj
          rintro ⟨k1, k2, k3, k4, x, k5, k6⟩
          simp only [Acc.writer, Bool.and_eq_true, at'] at k1 k2 k3 k4 k5 k6
          first
            | exact absurd ⟨x, k6, k5⟩ ‹¬ Meet _ _›
            | (exfalso; omega)
            | (simp_all; done)
    · repeat' (first
        | (with_reducible first | apply cond_d | apply cond_nd | apply cond_i | apply guard_d | apply guard_nd | apply guard_df | apply guard_ndf | apply guard_i | apply ag_d | apply ag_nd | apply ag_df | apply ag_ndf | apply ag_i) <;> intro _
        | with_reducible first | refine LenR_i fun _ => ?_ | refine And.intro (by omega) ?_ | refine and_assoc.2 ?_ | apply sp_cond | apply sp_guard | apply sp_ag | apply sp_call | apply sp_acall | apply sp_loop | apply sp_any | apply sp_frz | apply sp_len | apply sp_idx | apply sp_keep | apply sp_back
        | with_reducible refine frz0_i ?_
        | ((with_reducible refine keep0_i ?_); simp only [lPA, lPD, novO, setAll, seval, implies_true])
        | simp (maxSteps := 1000000) (disch := omega) only [lAL, lDF, tupA, eqA, isNil, slcNil, ptrCells, ptrAdd, cellsO, intA, boolA, readsV, readsP, isCall, wrote, srcOf, isNilSlice, Value.oneCell', seval, implies_true, forall_eq, ne_eq, wrap_i64, LenR_ok, List.length_map, IdxR_ints, IdxR_accs, accC])
      all_goals try (exfalso; omega)
      refine back_i (i + 1) ⟨by omega, fun a b hba ha => ?_⟩ (by omega) (Ent.to [] false (by simp) (by simp) rfl (by simp only [lPA, lPD, novO, setAll, seval, implies_true] <;> (try simp) <;> (try omega)) (by simp only [lPA, lPD, novO, setAll, seval, implies_true] <;> (try simp) <;> (try omega)))
      by_cases hai : a < i
      · exact hcl a b hba hai
      · have hai : a = i := by omega
        subst hai
        exact hcl2 b (by omega)
  · rename_i h5
    have : ¬ Clash h := by
      rintro ⟨a, b, hba, ha, hc⟩
      exact hcl a b hba (by omega) hc
    simp [checkS, hbig, hbad, this]
end Go.Proofs.Try
