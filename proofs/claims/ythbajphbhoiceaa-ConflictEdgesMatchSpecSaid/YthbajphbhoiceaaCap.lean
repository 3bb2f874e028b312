/-
  A part of the proof: see the text of the law.
-/
import Derived.Test.YthbajphbhoiceaaCak
set_option linter.unusedSimpArgs false
set_option linter.unusedVariables false
namespace Go.Proofs.Try
open Go.Al
set_option linter.unusedVariables false
set_option linter.unusedSimpArgs false
open Classical

set_option maxHeartbeats 8000000
theorem c22 (h : List Acc) : ACalls E.P 22 [.view 6 (h.map accA)] [] (fun r H => r = pairsA (pairsS h (Anti h)) ∧ H = []) := by
  have hmax := maxLen_eq
  refine ok22.acalls hE hm (by simp) ?_
  unfold mc22
  repeat' (first
    | (with_reducible first | apply cond_d | apply cond_nd | apply cond_i | apply guard_d | apply guard_nd | apply guard_df | apply guard_ndf | apply guard_i | apply ag_d | apply ag_nd | apply ag_df | apply ag_ndf | apply ag_i) <;> intro _
    | with_reducible first | refine LenR_i fun _ => ?_ | refine And.intro (by omega) ?_ | refine and_assoc.2 ?_ | apply sp_cond | apply sp_guard | apply sp_ag | apply sp_call | apply sp_acall | apply sp_loop | apply sp_any | apply sp_frz | apply sp_len | apply sp_idx | apply sp_keep | apply sp_back
    | with_reducible refine frz0_i ?_
    | ((with_reducible first | refine callN_i [] true (by simp) (by simp) ?_ | refine acallN_i true ?_); simp only [lPA, lPD, novO, setAll, seval, implies_true]; (refine ⟨_, c19 _, ?_⟩; rintro _ _ ⟨rfl, rfl⟩); simp only [lAL, lDF, tupA, eqA, isNil, slcNil, ptrCells, ptrAdd, cellsO, intA, boolA, readsV, readsP, isCall, wrote, srcOf, isNilSlice, Value.oneCell', seval, implies_true, forall_eq, ne_eq, lPA, lPD, novO, setAll])
    | simp (maxSteps := 1000000) (disch := omega) only [lAL, lDF, tupA, eqA, isNil, slcNil, ptrCells, ptrAdd, cellsO, intA, boolA, readsV, readsP, isCall, wrote, srcOf, isNilSlice, Value.oneCell', seval, implies_true, forall_eq, ne_eq, wrap_i64, LenR_ok, List.length_map, IdxR_ints])
  · rename_i hck
    refine keepn_i 2 ?_
    simp [pairsA, pairsS, hck, pH_nil]
  rename_i hck
  have hck : checkS h = 0 := Classical.byContradiction fun hn => by simp_all
  have hn := checkS_len hck
  refine loop_i (fun i : Nat => i ≤ h.length) (fun i => ⟨[(0, .view 6 (h.map accA)), (3, .slc 0 2 (pairsTo (Anti h) h.length i).length), (4, .int .i64 i)], [.arr 45 2 ((pairsTo (Anti h) h.length i).map pairA)]⟩) (fun i => h.length - i) 0 (by omega)
    (Ent.ghost' 3 45 2 (by omega) rfl (Ent.to [0] false (by simp) (by simp) rfl (by simp only [lPA, lPD, novO, setAll, seval, implies_true, pairsTo_zero] <;> (try simp) <;> (try omega)) (by simp only [lPA, lPD, novO, setAll, seval, implies_true, pairsTo_zero] <;> (try simp) <;> (try omega)))) ?_
  intro i hi
  have hlen := pairsTo_len (p := Anti h) hn i
  by_cases hin : i < h.length
  · repeat' (first
      | (with_reducible first | apply cond_d | apply cond_nd | apply cond_i | apply guard_d | apply guard_nd | apply guard_df | apply guard_ndf | apply guard_i | apply ag_d | apply ag_nd | apply ag_df | apply ag_ndf | apply ag_i) <;> intro _
      | with_reducible first | refine LenR_i fun _ => ?_ | refine And.intro (by omega) ?_ | refine and_assoc.2 ?_ | apply sp_cond | apply sp_guard | apply sp_ag | apply sp_call | apply sp_acall | apply sp_loop | apply sp_any | apply sp_frz | apply sp_len | apply sp_idx | apply sp_keep | apply sp_back
      | with_reducible refine frz0_i ?_
      | simp (maxSteps := 1000000) (disch := omega) only [lAL, lDF, tupA, eqA, isNil, slcNil, ptrCells, ptrAdd, cellsO, intA, boolA, readsV, readsP, isCall, wrote, srcOf, isNilSlice, Value.oneCell', seval, implies_true, forall_eq, ne_eq, wrap_i64, LenR_ok, List.length_map, IdxR_ints])
    all_goals try (exfalso; omega)
    refine loop_i (fun j : Nat => j ≤ h.length) (fun j => ⟨[(0, .view 6 (h.map accA)), (3, .slc 0 2 (pairsTo (Anti h) h.length i ++ rowP (Anti h) i j).length), (4, .int .i64 i), (5, .int .i64 j)], [.arr 45 2 ((pairsTo (Anti h) h.length i ++ rowP (Anti h) i j).map pairA)]⟩) (fun j => h.length - j) 0 (by omega)
        (Ent.to [0] false (by simp) (by simp) rfl (by simp only [lPA, lPD, novO, setAll, seval, implies_true, rowP_zero, List.append_nil, pa_pairs] <;> (try simp) <;> (try omega)) (by simp only [lPA, lPD, novO, setAll, seval, implies_true, rowP_zero, List.append_nil, pa_pairs] <;> (try simp) <;> (try omega))) ?_
    intro j hj
    have hlr := rowP_len (p := Anti h) (i := i) (j := j)
    by_cases hjn : j < h.length
    · have k1 := c52 h i j hin hjn
      repeat' (first
        | (with_reducible first | apply cond_d | apply cond_nd | apply cond_i | apply guard_d | apply guard_nd | apply guard_df | apply guard_ndf | apply guard_i | apply ag_d | apply ag_nd | apply ag_df | apply ag_ndf | apply ag_i) <;> intro _
        | with_reducible first | refine LenR_i fun _ => ?_ | refine And.intro (by omega) ?_ | refine and_assoc.2 ?_ | apply sp_cond | apply sp_guard | apply sp_ag | apply sp_call | apply sp_acall | apply sp_loop | apply sp_any | apply sp_frz | apply sp_len | apply sp_idx | apply sp_keep | apply sp_back
        | with_reducible refine frz0_i ?_
        | ((with_reducible first | refine callN_i [] true (by simp) (by simp) ?_ | refine acallN_i true ?_); simp only [lPA, lPD, novO, setAll, seval, implies_true, List.length_append]; (refine ⟨_, k1, ?_⟩; rintro _ _ ⟨rfl, rfl⟩); simp only [lAL, lDF, tupA, eqA, isNil, slcNil, ptrCells, ptrAdd, cellsO, intA, boolA, readsV, readsP, isCall, wrote, srcOf, isNilSlice, Value.oneCell', seval, implies_true, forall_eq, ne_eq, lPA, lPD, novO, setAll, List.length_append])
        | simp (maxSteps := 1000000) (disch := omega) only [lAL, lDF, tupA, eqA, isNil, slcNil, ptrCells, ptrAdd, cellsO, intA, boolA, readsV, readsP, isCall, wrote, srcOf, isNilSlice, Value.oneCell', seval, implies_true, forall_eq, ne_eq, wrap_i64, LenR_ok, List.length_map, IdxR_ints, List.length_append])
      all_goals try (exfalso; omega)
      · rename_i h1 h2 hpj
        refine back_i (j + 1) (by omega) (by omega) (Ent.to [2] false (by simp) (by simp) rfl (by simp only [lPA, lPD, novO, setAll, seval, implies_true, rowP_yes hpj, List.length_append, List.length_cons, List.length_nil] <;> simp <;> omega) ?_)
        simp only [lPA, lPD, novO, setAll, seval, implies_true, rowP_yes hpj, List.map_append, pa_pairs, List.append_assoc]
        simp [pairA, pa_agg, pa_int]
      · rename_i h1 h2 hpj
        exact back_i (j + 1) (by omega) (by omega) (Ent.to [0] false (by simp) (by simp) rfl (by simp only [lPA, lPD, novO, setAll, seval, implies_true, rowP_no hpj, pa_pairs] <;> (try simp) <;> (try omega)) (by simp only [lPA, lPD, novO, setAll, seval, implies_true, rowP_no hpj, pa_pairs] <;> (try simp) <;> (try omega)))
    · have : j = h.length := by omega
      subst this
      repeat' (first
        | (with_reducible first | apply cond_d | apply cond_nd | apply cond_i | apply guard_d | apply guard_nd | apply guard_df | apply guard_ndf | apply guard_i | apply ag_d | apply ag_nd | apply ag_df | apply ag_ndf | apply ag_i) <;> intro _
        | with_reducible first | refine LenR_i fun _ => ?_ | refine And.intro (by omega) ?_ | refine and_assoc.2 ?_ | apply sp_cond | apply sp_guard | apply sp_ag | apply sp_call | apply sp_acall | apply sp_loop | apply sp_any | apply sp_frz | apply sp_len | apply sp_idx | apply sp_keep | apply sp_back
        | with_reducible refine frz0_i ?_
        | simp (maxSteps := 1000000) (disch := omega) only [lAL, lDF, tupA, eqA, isNil, slcNil, ptrCells, ptrAdd, cellsO, intA, boolA, readsV, readsP, isCall, wrote, srcOf, isNilSlice, Value.oneCell', seval, implies_true, forall_eq, ne_eq, wrap_i64, LenR_ok, List.length_map, IdxR_ints])
      all_goals try (exfalso; omega)
      exact back_i (i + 1) (by omega) (by omega) (Ent.to [0] false (by simp) (by simp) rfl (by simp only [lPA, lPD, novO, setAll, seval, implies_true, pairsTo_succ, pa_pairs] <;> (try simp) <;> (try omega)) (by simp only [lPA, lPD, novO, setAll, seval, implies_true, pairsTo_succ, pa_pairs] <;> (try simp) <;> (try omega)))
  · have : i = h.length := by omega
    subst this
    repeat' (first
      | (with_reducible first | apply cond_d | apply cond_nd | apply cond_i | apply guard_d | apply guard_nd | apply guard_df | apply guard_ndf | apply guard_i | apply ag_d | apply ag_nd | apply ag_df | apply ag_ndf | apply ag_i) <;> intro _
      | with_reducible first | refine LenR_i fun _ => ?_ | refine And.intro (by omega) ?_ | refine and_assoc.2 ?_ | apply sp_cond | apply sp_guard | apply sp_ag | apply sp_call | apply sp_acall | apply sp_loop | apply sp_any | apply sp_frz | apply sp_len | apply sp_idx | apply sp_keep | apply sp_back
      | with_reducible refine frz0_i ?_
      | simp (maxSteps := 1000000) (disch := omega) only [lAL, lDF, tupA, eqA, isNil, slcNil, ptrCells, ptrAdd, cellsO, intA, boolA, readsV, readsP, isCall, wrote, srcOf, isNilSlice, Value.oneCell', seval, implies_true, forall_eq, ne_eq, wrap_i64, LenR_ok, List.length_map, IdxR_ints])
    all_goals try (exfalso; omega)
    refine keep_i [] true (by simp) (by simp) rfl ?_
    simp only [lPA, lPD, novO, setAll, seval, implies_true, paR_lent, vw_pairs, pairsA, pairsS, hck, if_true]
theorem c24 (h : List Acc) : ACalls E.P 24 [.view 6 (h.map accA)] [] (fun r H => r = pairsA (pairsS h (Edge h)) ∧ H = []) := by
  have hmax := maxLen_eq
  refine ok24.acalls hE hm (by simp) ?_
  unfold mc24
  repeat' (first
    | (with_reducible first | apply cond_d | apply cond_nd | apply cond_i | apply guard_d | apply guard_nd | apply guard_df | apply guard_ndf | apply guard_i | apply ag_d | apply ag_nd | apply ag_df | apply ag_ndf | apply ag_i) <;> intro _
    | with_reducible first | refine LenR_i fun _ => ?_ | refine And.intro (by omega) ?_ | refine and_assoc.2 ?_ | apply sp_cond | apply sp_guard | apply sp_ag | apply sp_call | apply sp_acall | apply sp_loop | apply sp_any | apply sp_frz | apply sp_len | apply sp_idx | apply sp_keep | apply sp_back
    | with_reducible refine frz0_i ?_
    | ((with_reducible first | refine callN_i [] true (by simp) (by simp) ?_ | refine acallN_i true ?_); simp only [lPA, lPD, novO, setAll, seval, implies_true]; (refine ⟨_, c19 _, ?_⟩; rintro _ _ ⟨rfl, rfl⟩); simp only [lAL, lDF, tupA, eqA, isNil, slcNil, ptrCells, ptrAdd, cellsO, intA, boolA, readsV, readsP, isCall, wrote, srcOf, isNilSlice, Value.oneCell', seval, implies_true, forall_eq, ne_eq, lPA, lPD, novO, setAll])
    | simp (maxSteps := 1000000) (disch := omega) only [lAL, lDF, tupA, eqA, isNil, slcNil, ptrCells, ptrAdd, cellsO, intA, boolA, readsV, readsP, isCall, wrote, srcOf, isNilSlice, Value.oneCell', seval, implies_true, forall_eq, ne_eq, wrap_i64, LenR_ok, List.length_map, IdxR_ints])
  · rename_i hck
    refine keepn_i 2 ?_
    simp [pairsA, pairsS, hck, pH_nil]
  rename_i hck
  have hck : checkS h = 0 := Classical.byContradiction fun hn => by simp_all
  have hn := checkS_len hck
  refine loop_i (fun i : Nat => i ≤ h.length) (fun i => ⟨[(0, .view 6 (h.map accA)), (3, .slc 0 2 (pairsTo (Edge h) h.length i).length), (4, .int .i64 i)], [.arr 45 2 ((pairsTo (Edge h) h.length i).map pairA)]⟩) (fun i => h.length - i) 0 (by omega)
    (Ent.ghost' 3 45 2 (by omega) rfl (Ent.to [0] false (by simp) (by simp) rfl (by simp only [lPA, lPD, novO, setAll, seval, implies_true, pairsTo_zero] <;> (try simp) <;> (try omega)) (by simp only [lPA, lPD, novO, setAll, seval, implies_true, pairsTo_zero] <;> (try simp) <;> (try omega)))) ?_
  intro i hi
  have hlen := pairsTo_len (p := Edge h) hn i
  by_cases hin : i < h.length
  · repeat' (first
      | (with_reducible first | apply cond_d | apply cond_nd | apply cond_i | apply guard_d | apply guard_nd | apply guard_df | apply guard_ndf | apply guard_i | apply ag_d | apply ag_nd | apply ag_df | apply ag_ndf | apply ag_i) <;> intro _
      | with_reducible first | refine LenR_i fun _ => ?_ | refine And.intro (by omega) ?_ | refine and_assoc.2 ?_ | apply sp_cond | apply sp_guard | apply sp_ag | apply sp_call | apply sp_acall | apply sp_loop | apply sp_any | apply sp_frz | apply sp_len | apply sp_idx | apply sp_keep | apply sp_back
      | with_reducible refine frz0_i ?_
      | simp (maxSteps := 1000000) (disch := omega) only [lAL, lDF, tupA, eqA, isNil, slcNil, ptrCells, ptrAdd, cellsO, intA, boolA, readsV, readsP, isCall, wrote, srcOf, isNilSlice, Value.oneCell', seval, implies_true, forall_eq, ne_eq, wrap_i64, LenR_ok, List.length_map, IdxR_ints])
    all_goals try (exfalso; omega)
    refine loop_i (fun j : Nat => j ≤ h.length) (fun j => ⟨[(0, .view 6 (h.map accA)), (3, .slc 0 2 (pairsTo (Edge h) h.length i ++ rowP (Edge h) i j).length), (4, .int .i64 i), (5, .int .i64 j)], [.arr 45 2 ((pairsTo (Edge h) h.length i ++ rowP (Edge h) i j).map pairA)]⟩) (fun j => h.length - j) 0 (by omega)
        (Ent.to [0] false (by simp) (by simp) rfl (by simp only [lPA, lPD, novO, setAll, seval, implies_true, rowP_zero, List.append_nil, pa_pairs] <;> (try simp) <;> (try omega)) (by simp only [lPA, lPD, novO, setAll, seval, implies_true, rowP_zero, List.append_nil, pa_pairs] <;> (try simp) <;> (try omega))) ?_
    intro j hj
    have hlr := rowP_len (p := Edge h) (i := i) (j := j)
    by_cases hjn : j < h.length
    · have k1 := c53 h i j hin hjn
      repeat' (first
        | (with_reducible first | apply cond_d | apply cond_nd | apply cond_i | apply guard_d | apply guard_nd | apply guard_df | apply guard_ndf | apply guard_i | apply ag_d | apply ag_nd | apply ag_df | apply ag_ndf | apply ag_i) <;> intro _
        | with_reducible first | refine LenR_i fun _ => ?_ | refine And.intro (by omega) ?_ | refine and_assoc.2 ?_ | apply sp_cond | apply sp_guard | apply sp_ag | apply sp_call | apply sp_acall | apply sp_loop | apply sp_any | apply sp_frz | apply sp_len | apply sp_idx | apply sp_keep | apply sp_back
        | with_reducible refine frz0_i ?_
        | ((with_reducible first | refine callN_i [] true (by simp) (by simp) ?_ | refine acallN_i true ?_); simp only [lPA, lPD, novO, setAll, seval, implies_true, List.length_append]; (refine ⟨_, k1, ?_⟩; rintro _ _ ⟨rfl, rfl⟩); simp only [lAL, lDF, tupA, eqA, isNil, slcNil, ptrCells, ptrAdd, cellsO, intA, boolA, readsV, readsP, isCall, wrote, srcOf, isNilSlice, Value.oneCell', seval, implies_true, forall_eq, ne_eq, lPA, lPD, novO, setAll, List.length_append])
        | simp (maxSteps := 1000000) (disch := omega) only [lAL, lDF, tupA, eqA, isNil, slcNil, ptrCells, ptrAdd, cellsO, intA, boolA, readsV, readsP, isCall, wrote, srcOf, isNilSlice, Value.oneCell', seval, implies_true, forall_eq, ne_eq, wrap_i64, LenR_ok, List.length_map, IdxR_ints, List.length_append])
      all_goals try (exfalso; omega)
      · rename_i h1 h2 hpj
        refine back_i (j + 1) (by omega) (by omega) (Ent.to [2] false (by simp) (by simp) rfl (by simp only [lPA, lPD, novO, setAll, seval, implies_true, rowP_yes hpj, List.length_append, List.length_cons, List.length_nil] <;> simp <;> omega) ?_)
        simp only [lPA, lPD, novO, setAll, seval, implies_true, rowP_yes hpj, List.map_append, pa_pairs, List.append_assoc]
        simp [pairA, pa_agg, pa_int]
      · rename_i h1 h2 hpj
        exact back_i (j + 1) (by omega) (by omega) (Ent.to [0] false (by simp) (by simp) rfl (by simp only [lPA, lPD, novO, setAll, seval, implies_true, rowP_no hpj, pa_pairs] <;> (try simp) <;> (try omega)) (by simp only [lPA, lPD, novO, setAll, seval, implies_true, rowP_no hpj, pa_pairs] <;> (try simp) <;> (try omega)))
    · have : j = h.length := by omega
      subst this
      repeat' (first
        | (with_reducible first | apply cond_d | apply cond_nd | apply cond_i | apply guard_d | apply guard_nd | apply guard_df | apply guard_ndf | apply guard_i | apply ag_d | apply ag_nd | apply ag_df | apply ag_ndf | apply ag_i) <;> intro _
        | with_reducible first | refine LenR_i fun _ => ?_ | refine And.intro (by omega) ?_ | refine and_assoc.2 ?_ | apply sp_cond | apply sp_guard | apply sp_ag | apply sp_call | apply sp_acall | apply sp_loop | apply sp_any | apply sp_frz | apply sp_len | apply sp_idx | apply sp_keep | apply sp_back
        | with_reducible refine frz0_i ?_
        | simp (maxSteps := 1000000) (disch := omega) only [lAL, lDF, tupA, eqA, isNil, slcNil, ptrCells, ptrAdd, cellsO, intA, boolA, readsV, readsP, isCall, wrote, srcOf, isNilSlice, Value.oneCell', seval, implies_true, forall_eq, ne_eq, wrap_i64, LenR_ok, List.length_map, IdxR_ints])
      all_goals try (exfalso; omega)
      exact back_i (i + 1) (by omega) (by omega) (Ent.to [0] false (by simp) (by simp) rfl (by simp only [lPA, lPD, novO, setAll, seval, implies_true, pairsTo_succ, pa_pairs] <;> (try simp) <;> (try omega)) (by simp only [lPA, lPD, novO, setAll, seval, implies_true, pairsTo_succ, pa_pairs] <;> (try simp) <;> (try omega)))
  · have : i = h.length := by omega
    subst this
    repeat' (first
      | (with_reducible first | apply cond_d | apply cond_nd | apply cond_i | apply guard_d | apply guard_nd | apply guard_df | apply guard_ndf | apply guard_i | apply ag_d | apply ag_nd | apply ag_df | apply ag_ndf | apply ag_i) <;> intro _
      | with_reducible first | refine LenR_i fun _ => ?_ | refine And.intro (by omega) ?_ | refine and_assoc.2 ?_ | apply sp_cond | apply sp_guard | apply sp_ag | apply sp_call | apply sp_acall | apply sp_loop | apply sp_any | apply sp_frz | apply sp_len | apply sp_idx | apply sp_keep | apply sp_back
      | with_reducible refine frz0_i ?_
      | simp (maxSteps := 1000000) (disch := omega) only [lAL, lDF, tupA, eqA, isNil, slcNil, ptrCells, ptrAdd, cellsO, intA, boolA, readsV, readsP, isCall, wrote, srcOf, isNilSlice, Value.oneCell', seval, implies_true, forall_eq, ne_eq, wrap_i64, LenR_ok, List.length_map, IdxR_ints])
    all_goals try (exfalso; omega)
    refine keep_i [] true (by simp) (by simp) rfl ?_
    simp only [lPA, lPD, novO, setAll, seval, implies_true, paR_lent, vw_pairs, pairsA, pairsS, hck, if_true]
end Go.Proofs.Try
