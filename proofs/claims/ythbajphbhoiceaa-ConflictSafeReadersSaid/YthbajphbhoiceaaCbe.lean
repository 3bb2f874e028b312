/-
  A part of the proof: see the text of the law.
-/
import Derived.Test.YthbajphbhoiceaaCbd
import Derived.Test.YthbajphbhoiceaaCam
set_option linter.unusedSimpArgs false
set_option linter.unusedVariables false
namespace Go.Proofs.Try
open Go.Al
set_option linter.unusedVariables false
set_option linter.unusedSimpArgs false
open Classical
set_option maxHeartbeats 8000000

theorem c42v : ACalls E.P 42 [] [] (fun r H => r = .view 6 (skewH.map accA) ∧ H = []) := by
  have hmax := maxLen_eq
  refine ok42.acalls hE hm (by simp) ?_
  unfold mc42
  repeat' (first
    | (with_reducible first | apply cond_d | apply cond_nd | apply cond_i | apply guard_d | apply guard_nd | apply guard_df | apply guard_ndf | apply guard_i | apply ag_d | apply ag_nd | apply ag_df | apply ag_ndf | apply ag_i) <;> intro _
    | with_reducible first | refine LenR_i fun _ => ?_ | refine And.intro (by omega) ?_ | refine and_assoc.2 ?_ | apply sp_cond | apply sp_guard | apply sp_ag | apply sp_call | apply sp_acall | apply sp_loop | apply sp_any | apply sp_frz | apply sp_len | apply sp_idx | apply sp_keep | apply sp_back
    | with_reducible refine frz0_i ?_
    | simp (maxSteps := 1000000) (disch := omega) only [lAL, lDF, tupA, eqA, isNil, slcNil, ptrCells, ptrAdd, cellsO, intA, boolA, readsV, readsP, isCall, wrote, srcOf, isNilSlice, Value.oneCell', seval, implies_true, forall_eq, ne_eq, wrap_i64, LenR_ok, List.length_map, IdxR_ints])
  refine keep_i [] true (by simp) (by simp) rfl ?_
  simp only [lPA, lPD, novO, setAll, seval, implies_true, paR_lent]
  rfl
theorem c42 : ACalls E.P 42 [] [] (fun r H => r = .slc 0 6 2 ∧ H = [.arr 44 6 (skewH.map accA)]) := by
  have hmax := maxLen_eq
  refine ok42.acalls hE hm (by simp) ?_
  unfold mc42
  repeat' (first
    | (with_reducible first | apply cond_d | apply cond_nd | apply cond_i | apply guard_d | apply guard_nd | apply guard_df | apply guard_ndf | apply guard_i | apply ag_d | apply ag_nd | apply ag_df | apply ag_ndf | apply ag_i) <;> intro _
    | with_reducible first | refine LenR_i fun _ => ?_ | refine And.intro (by omega) ?_ | refine and_assoc.2 ?_ | apply sp_cond | apply sp_guard | apply sp_ag | apply sp_call | apply sp_acall | apply sp_loop | apply sp_any | apply sp_frz | apply sp_len | apply sp_idx | apply sp_keep | apply sp_back
    | with_reducible refine frz0_i ?_
    | simp (maxSteps := 1000000) (disch := omega) only [lAL, lDF, tupA, eqA, isNil, slcNil, ptrCells, ptrAdd, cellsO, intA, boolA, readsV, readsP, isCall, wrote, srcOf, isNilSlice, Value.oneCell', seval, implies_true, forall_eq, ne_eq, wrap_i64, LenR_ok, List.length_map, IdxR_ints])
  refine keep_i [4] true (by simp) (by simp) rfl ?_
  simp only [lPA, lPD, novO, setAll, seval, implies_true, paR_some]
  rfl
def openA0 : List Acc := [sk0, { sk1 with done := false }]
section
variable {P : Program} {m N : Nat} {id d : Nat} {x : AV} {E' : TypeId} {fr : List (Nat × AV)} {H : List AObj} {q : Ke} {c : Kn}
theorem stA1 : stE P m N (some (.arr E' 6 (skewH.map accA))) 1 [.bool false] x id 6 1 2 fr H q = rE P m N q fr (H.set id (.arr E' 6 (openA0.map accA))) := by unfold stE; simp [skewH, openA0, sk0, sk1, accC, accA, setAt]
theorem stA2 : stE P m N (some (.arr E' 6 (openA0.map accA))) 1 [.int .i64 0] x id 6 1 3 fr H q = rE P m N q fr (H.set id (.arr E' 6 (openA.map accA))) := by unfold stE; simp [openA, openA0, sk0, sk1, skA, accC, accA, setAt]
theorem stA3 : stE P m N (some (.arr E' 6 (openA.map accA))) 1 [.int .i64 0] x id 6 1 0 fr H q = rE P m N q fr (H.set id (.arr E' 6 (openB.map accA))) := by unfold stE; simp [openA, openB, sk0, sk1, skA, skB, accC, accA, setAt]
theorem epS : epR P m N (some (.arr E' 6 (skewH.map accA))) 1 2 id 6 d c = rK P m N c d (.ep id 6 1 0) := epR_ne (n := 1) (by simp [skewH]) (by omega) (by omega)
theorem epA0 : epR P m N (some (.arr E' 6 (openA0.map accA))) 1 2 id 6 d c = rK P m N c d (.ep id 6 1 0) := epR_ne (n := 1) (by simp [openA0]) (by omega) (by omega)
theorem epA : epR P m N (some (.arr E' 6 (openA.map accA))) 1 2 id 6 d c = rK P m N c d (.ep id 6 1 0) := epR_ne (n := 1) (by simp [openA]) (by omega) (by omega)
end
theorem c16 : ACalls E.P 16 [] [] (fun r H => r = .bool true ∧ H = []) := by
  have hmax := maxLen_eq
  refine ok16.acalls hE hm (by simp) ?_
  unfold mc16
  have k25 : ACalls E.P 25 [.view 6 (skewH.map accA)] [] (fun r H => r = .tup [.agg [.int .i64 0, .int .i64 1, .int .i64 0], .bool true] ∧ H = []) := (c25 skewH).mono fun r H ⟨⟨t, ht, hr⟩, hH⟩ => ⟨by rw [hr, ht.uniq sk_dang]; rfl, hH⟩
  have k27 : ACalls E.P 27 [.view 6 (skewH.map accA)] [] (fun r H => r = .tup [.view 1 [], .bool false] ∧ H = []) := (c27 skewH).mono fun r H ⟨⟨t, ht, hr⟩, hH⟩ => ⟨by rw [hr, ht.uniq sk_serial]; rfl, hH⟩
  have k27' : ACalls E.P 27 [.view 6 [accA sk0]] [] (fun r H => r = .tup [.view 1 [.int .i64 0], .bool true] ∧ H = []) := (c27 [sk0]).mono fun r H ⟨⟨t, ht, hr⟩, hH⟩ => ⟨by rw [hr, ht.uniq one_serial]; rfl, hH⟩
  have k34 : ACalls E.P 34 [.view 6 (openA.map accA), .int .i64 1] [] (fun r H => r = .tup [.int .i64 0, .int .i64 272] ∧ H = []) := (c34 openA 1).mono fun r H ⟨hr, hH⟩ => ⟨by rw [hr, skA_admit]; rfl, hH⟩
  have k34' : ACalls E.P 34 [.view 6 (openB.map accA), .int .i64 1] [] (fun r H => r = .tup [.int .i64 2, .int .i64 0] ∧ H = []) := (c34 openB 1).mono fun r H ⟨hr, hH⟩ => ⟨by rw [hr, skB_admit]; rfl, hH⟩
  have k36a : ACalls E.P 36 [.view 6 (skewH.map accA), .int .i64 0] [] (fun r H => r = .bool true ∧ H = []) := (c36 skewH 0).mono fun r H ⟨hr, hH⟩ => ⟨by rw [hr]; exact congrArg AV.bool (decide_eq_true sk_safe0), hH⟩
  have k36b : ACalls E.P 36 [.view 6 (skewH.map accA), .int .i64 1] [] (fun r H => r = .bool false ∧ H = []) := (c36 skewH 1).mono fun r H ⟨hr, hH⟩ => ⟨by rw [hr]; exact congrArg AV.bool (decide_eq_false sk_safe1), hH⟩
  have k36c : ACalls E.P 36 [.view 6 (skewH.map accA), .int .i64 2] [] (fun r H => r = .bool true ∧ H = []) := (c36 skewH 2).mono fun r H ⟨hr, hH⟩ => ⟨by rw [hr]; exact congrArg AV.bool (decide_eq_true sk_safe2), hH⟩
  have k18 : ACalls E.P 18 [.view 6 (skewH.map accA)] [] (fun r H => r = .int .i64 0 ∧ H = []) := (c18 skewH).mono fun r H ⟨hr, hH⟩ => ⟨by rw [hr, ck_skew], hH⟩
  have k21 : ACalls E.P 21 [.view 6 (skewH.map accA)] [] (fun r H => r = .view 2 [.agg [.int .i64 0, .int .i64 1], .agg [.int .i64 1, .int .i64 0]] ∧ H = []) := (c21 skewH).mono fun r H ⟨hr, hH⟩ => ⟨by rw [hr, sk_pairsA]; rfl, hH⟩
  have k23 : ACalls E.P 23 [.view 6 (skewH.map accA)] [] (fun r H => r = .view 2 [.agg [.int .i64 0, .int .i64 1], .agg [.int .i64 1, .int .i64 0]] ∧ H = []) := (c23 skewH).mono fun r H ⟨hr, hH⟩ => ⟨by rw [hr, sk_pairsE]; rfl, hH⟩
  have k20 : ACalls E.P 20 [.view 2 [.agg [.int .i64 0, .int .i64 1], .agg [.int .i64 1, .int .i64 0]], .view 2 [.agg [.int .i64 0, .int .i64 1], .agg [.int .i64 1, .int .i64 0]]] [] (fun r H => r = .bool true ∧ H = []) := (c20 [(0, 1), (1, 0)] [(0, 1), (1, 0)]).mono fun r H ⟨hr, hH⟩ => ⟨by rw [hr]; exact congrArg AV.bool (decide_eq_true rfl), hH⟩
  have k30 : ACalls E.P 30 [.view 6 (skewH.map accA)] [] (fun r H => r = .view 1 [.int .i64 0, .int .i64 1] ∧ H = []) := (c30 skewH).mono fun r H ⟨⟨t, ht, hr⟩, hH⟩ => ⟨by rw [hr, ht.uniq sk_cycle]; rfl, hH⟩
  have k29 : ACalls E.P 29 [.view 1 [.int .i64 0, .int .i64 1], .view 1 [.int .i64 0, .int .i64 1]] [] (fun r H => r = .bool true ∧ H = []) := (c29 [0, 1] [0, 1]).mono fun r H ⟨hr, hH⟩ => ⟨by rw [hr]; exact congrArg AV.bool (decide_eq_true rfl), hH⟩
  have k29' : ACalls E.P 29 [.view 1 [.int .i64 0], .view 1 [.int .i64 0]] [] (fun r H => r = .bool true ∧ H = []) := (c29 [0] [0]).mono fun r H ⟨hr, hH⟩ => ⟨by rw [hr]; exact congrArg AV.bool (decide_eq_true rfl), hH⟩
  have k32 : ACalls E.P 32 [.view 6 [accA sk0], .view 1 [.int .i64 0]] [] (fun r H => r = .bool true ∧ H = []) := (c32 [sk0] [0]).mono fun r H ⟨hr, hH⟩ => ⟨by rw [hr]; exact congrArg AV.bool (decide_eq_true one_eqv), hH⟩
  have hpre : (skewH.map accA).take 1 = [accA sk0] := rfl
  have gS : (skewH.map accA)[1]? = some (.agg (accC sk1)) := rfl
  have gA0 : (openA0.map accA)[1]? = some (.agg (accC { sk1 with done := false })) := rfl
  have gA : (openA.map accA)[1]? = some (.agg (accC skA)) := rfl
  have hln : (skewH.map accA).length = 2 := rfl
  repeat' (first
    | (with_reducible first | apply cond_d | apply cond_nd | apply cond_i | apply guard_d | apply guard_nd | apply guard_df | apply guard_ndf | apply guard_i | apply ag_d | apply ag_nd | apply ag_df | apply ag_ndf | apply ag_i) <;> intro _
    | with_reducible first | refine LenR_i fun _ => ?_ | refine And.intro (by omega) ?_ | refine and_assoc.2 ?_ | apply sp_cond | apply sp_guard | apply sp_ag | apply sp_call | apply sp_acall | apply sp_loop | apply sp_any | apply sp_frz | apply sp_len | apply sp_idx | apply sp_keep | apply sp_back
    | with_reducible refine frz0_i ?_
    | simp (maxSteps := 1000000) (disch := omega) only [lAL, lDF, tupA, eqA, isNil, slcNil, ptrCells, ptrAdd, cellsO, intA, boolA, readsV, readsP, isCall, wrote, srcOf, isNilSlice, Value.oneCell', seval, implies_true, forall_eq, ne_eq, wrap_i64, LenR_ok, List.length_map, IdxR_ints])
  refine callN_i [] false (by simp) (by simp) ?_
  simp only [lPA, lPD, novO, setAll, seval, implies_true]
  refine ⟨_, c42v, ?_⟩
  rintro _ _ ⟨rfl, rfl⟩
  simp only [lAL, lDF, tupA, eqA, isNil, slcNil, ptrCells, ptrAdd, cellsO, intA, boolA, readsV, readsP, isCall, wrote, srcOf, isNilSlice, Value.oneCell', seval, implies_true, forall_eq, ne_eq, lPA, lPD, novO, setAll]
  repeat' (first
    | (with_reducible first | apply cond_d | apply cond_nd | apply cond_i | apply guard_d | apply guard_nd | apply guard_df | apply guard_ndf | apply guard_i | apply ag_d | apply ag_nd | apply ag_df | apply ag_ndf | apply ag_i) <;> intro _
    | with_reducible first | refine LenR_i fun _ => ?_ | refine And.intro (by omega) ?_ | refine and_assoc.2 ?_ | apply sp_cond | apply sp_guard | apply sp_ag | apply sp_call | apply sp_acall | apply sp_loop | apply sp_any | apply sp_frz | apply sp_len | apply sp_idx | apply sp_keep | apply sp_back
    | with_reducible refine frz0_i ?_
    | ((with_reducible first | refine callN_i [] true (by simp) (by simp) ?_ | refine acallN_i true ?_); simp only [lPA, lPD, novO, setAll, seval, implies_true, ti30, hpre, hln, stA1, stA2, stA3, epS, epA0, epA, vw_accs, renL_accs, gS, gA0, gA, accC]; (first | (refine ⟨_, k34, ?_⟩; rintro _ _ ⟨rfl, rfl⟩) | (refine ⟨_, k34', ?_⟩; rintro _ _ ⟨rfl, rfl⟩) | (refine ⟨_, k36a, ?_⟩; rintro _ _ ⟨rfl, rfl⟩) | (refine ⟨_, k36b, ?_⟩; rintro _ _ ⟨rfl, rfl⟩) | (refine ⟨_, k36c, ?_⟩; rintro _ _ ⟨rfl, rfl⟩) | (refine ⟨_, k18, ?_⟩; rintro _ _ ⟨rfl, rfl⟩) | (refine ⟨_, k20, ?_⟩; rintro _ _ ⟨rfl, rfl⟩) | (refine ⟨_, k29, ?_⟩; rintro _ _ ⟨rfl, rfl⟩) | (refine ⟨_, k29', ?_⟩; rintro _ _ ⟨rfl, rfl⟩) | (refine ⟨_, k32, ?_⟩; rintro _ _ ⟨rfl, rfl⟩)); simp only [lAL, lDF, tupA, eqA, isNil, slcNil, ptrCells, ptrAdd, cellsO, intA, boolA, readsV, readsP, isCall, wrote, srcOf, isNilSlice, Value.oneCell', seval, implies_true, forall_eq, ne_eq, lPA, lPD, novO, setAll, ti30, hpre, hln, stA1, stA2, stA3, epS, epA0, epA, vw_accs, renL_accs, gS, gA0, gA, accC])
    | ((with_reducible first | refine callN_i [] false (by simp) (by simp) ?_ | refine acallN_i false ?_); simp only [lPA, lPD, novO, setAll, seval, implies_true, ti30, hpre, hln, stA1, stA2, stA3, epS, epA0, epA, vw_accs, renL_accs, gS, gA0, gA, accC]; (first | (refine ⟨_, k25, ?_⟩; rintro _ _ ⟨rfl, rfl⟩) | (refine ⟨_, k27, ?_⟩; rintro _ _ ⟨rfl, rfl⟩) | (refine ⟨_, k27', ?_⟩; rintro _ _ ⟨rfl, rfl⟩) | (refine ⟨_, c42, ?_⟩; rintro _ _ ⟨rfl, rfl⟩) | (refine ⟨_, k21, ?_⟩; rintro _ _ ⟨rfl, rfl⟩) | (refine ⟨_, k23, ?_⟩; rintro _ _ ⟨rfl, rfl⟩) | (refine ⟨_, k30, ?_⟩; rintro _ _ ⟨rfl, rfl⟩)); simp only [lAL, lDF, tupA, eqA, isNil, slcNil, ptrCells, ptrAdd, cellsO, intA, boolA, readsV, readsP, isCall, wrote, srcOf, isNilSlice, Value.oneCell', seval, implies_true, forall_eq, ne_eq, lPA, lPD, novO, setAll, ti30, hpre, hln, stA1, stA2, stA3, epS, epA0, epA, vw_accs, renL_accs, gS, gA0, gA, accC])
    | ((with_reducible refine keep0_i ?_); simp only [lPA, lPD, novO, setAll, seval, implies_true])
    | simp (maxSteps := 1000000) (disch := omega) only [lAL, lDF, tupA, eqA, isNil, slcNil, ptrCells, ptrAdd, cellsO, intA, boolA, readsV, readsP, isCall, wrote, srcOf, isNilSlice, Value.oneCell', seval, implies_true, forall_eq, ne_eq, wrap_i64, LenR_ok, List.length_map, IdxR_ints, ti30, hpre, hln, stA1, stA2, stA3, epS, epA0, epA, vw_accs, renL_accs, gS, gA0, gA, accC])
end Go.Proofs.Try
