/-
  A part of the proof: see the text of the law.
-/
import Derived.Test.YthbajphbhoiceaaCaz
set_option linter.unusedSimpArgs false
set_option linter.unusedVariables false
namespace Go.Proofs.Try
open Go.Al
set_option linter.unusedVariables false
set_option linter.unusedSimpArgs false
open Classical
set_option maxHeartbeats 8000000

/-! ### a history with a transaction that has committed -/
def withS (h : List Acc) (n : Nat) (s : Int) : List Acc := h.set n { at' h n with done := true, stamp := s }
def doneS (h : List Acc) (n : Nat) : List Acc := h.set n { at' h n with done := true }
theorem accs_get {h : List Acc} {n : Nat} (hn : n < h.length) : (h.map accA)[n]? = some (.agg (accC (at' h n))) := by
  simp [hn, accA]
theorem at_set {h : List Acc} {n : Nat} {x : Acc} (hn : n < h.length) : at' (h.set n x) n = x := by
  simp [at', hn]
theorem at_set_ne {h : List Acc} {n m : Nat} {x : Acc} (hn : m ≠ n) : at' (h.set n x) m = at' h m := by
  simp [at', List.getElem?_set, Ne.symm hn]
theorem st_done {P : Program} {m N : Nat} {h : List Acc} {id n : Nat} {x : AV} {E' : TypeId} {fr : List (Nat × AV)} {H : List AObj} {q : Ke} (hn : n < h.length) :
    stE P m N (some (.arr E' 6 (h.map accA))) 1 [.bool true] x id 6 n 2 fr H q = rE P m N q fr (H.set id (.arr E' 6 ((doneS h n).map accA))) := by
  unfold stE doneS
  simp only [accs_get hn]
  simp [accC, accA, setAt, List.map_set]
theorem st_stamp {P : Program} {m N : Nat} {h : List Acc} {id n : Nat} {x : AV} {v : Int} {E' : TypeId} {fr : List (Nat × AV)} {H : List AObj} {q : Ke} (hn : n < h.length) :
    stE P m N (some (.arr E' 6 (h.map accA))) 1 [.int .i64 v] x id 6 n 3 fr H q = rE P m N q fr (H.set id (.arr E' 6 ((h.set n { at' h n with stamp := v }).map accA))) := by
  unfold stE
  simp only [accs_get hn]
  simp [accC, accA, setAt, List.map_set]
theorem withS_eq {h : List Acc} {n : Nat} {s : Int} (hn : n < h.length) : (doneS h n).set n { at' (doneS h n) n with stamp := s } = withS h n s := by
  unfold doneS
  rw [at_set hn, List.set_set]; rfl
theorem doneS_len {h : List Acc} {n : Nat} : (doneS h n).length = h.length := by simp [doneS]
theorem st_with {P : Program} {m N : Nat} {h : List Acc} {id n : Nat} {x : AV} {v : Int} {E' : TypeId} {fr : List (Nat × AV)} {H : List AObj} {q : Ke} (hn : n < h.length) :
    stE P m N (some (.arr E' 6 ((doneS h n).map accA))) 1 [.int .i64 v] x id 6 n 3 fr H q = rE P m N q fr (H.set id (.arr E' 6 ((withS h n v).map accA))) := by
  rw [st_stamp (by rw [doneS_len]; exact hn), withS_eq hn]
theorem withS_len {h : List Acc} {n : Nat} {s : Int} : (withS h n s).length = h.length := by simp [withS]

theorem c69 (h : List Acc) (hn : h ≠ []) (hl : h.length ≤ 100) : ACalls E.P 69 [.view 6 (h.map accA)] [] (fun r H => r = .slc 0 6 h.length ∧ H = [.arr 44 6 (h.map accA)]) := by
  have hmax := maxLen_eq
  refine ok69.acalls hE hm (by simp) ?_
  unfold mc69
  obtain ⟨x, xs, rfl⟩ := List.exists_cons_of_ne_nil hn
  have hl' : xs.length + 1 ≤ 100 := by simpa using hl
  repeat' (first
    | (with_reducible first | apply cond_d | apply cond_nd | apply cond_i | apply guard_d | apply guard_nd | apply guard_df | apply guard_ndf | apply guard_i | apply ag_d | apply ag_nd | apply ag_df | apply ag_ndf | apply ag_i) <;> intro _
    | with_reducible first | refine LenR_i fun _ => ?_ | refine And.intro (by omega) ?_ | refine and_assoc.2 ?_ | apply sp_cond | apply sp_guard | apply sp_ag | apply sp_call | apply sp_acall | apply sp_loop | apply sp_any | apply sp_frz | apply sp_len | apply sp_idx | apply sp_keep | apply sp_back
    | with_reducible refine frz0_i ?_
    | simp (maxSteps := 1000000) (disch := omega) only [lAL, lDF, tupA, eqA, isNil, slcNil, ptrCells, ptrAdd, cellsO, intA, boolA, readsV, readsP, isCall, wrote, srcOf, isNilSlice, Value.oneCell', seval, implies_true, forall_eq, ne_eq, wrap_i64, LenR_ok, List.length_map, IdxR_ints])
  refine keep_i [1] false (by simp) (by simp) rfl ?_
  simp only [lPA, lPD, novO, setAll, seval, implies_true, accA_eq, paR_some]
  simp [pa_int, pa_bool, pa_view, pa_agg, accA_eq]
theorem c72 (h : List Acc) (n : Nat) (hn : n < h.length) (hl : h.length ≤ 100) (s : Int) : ACalls E.P 72 [.view 6 (h.map accA), .int .i64 n, .int .i64 s] [] (fun r H => r = .slc 0 6 h.length ∧ H = [.arr 44 6 ((withS h n s).map accA)]) := by
  have hmax := maxLen_eq
  refine ok72.acalls hE hm (by simp) ?_
  unfold mc72
  have g1 := accs_get hn
  have g2 : ((doneS h n).map accA)[n]? = _ := accs_get (by rw [doneS_len]; exact hn)
  have ep1 : ∀ {m N d c}, epR E.P m N (some (.arr 44 6 (h.map accA))) (n : Int) h.length 1 6 d c = rK E.P m N c d (.ep 1 6 n 0) := epR_ne (by simp) (by omega) (by omega)
  have ep2 : ∀ {m N d c}, epR E.P m N (some (.arr 44 6 ((doneS h n).map accA))) (n : Int) h.length 1 6 d c = rK E.P m N c d (.ep 1 6 n 0) := epR_ne (by simp [doneS_len]) (by omega) (by omega)
  repeat' (first
    | (with_reducible first | apply cond_d | apply cond_nd | apply cond_i | apply guard_d | apply guard_nd | apply guard_df | apply guard_ndf | apply guard_i | apply ag_d | apply ag_nd | apply ag_df | apply ag_ndf | apply ag_i) <;> intro _
    | with_reducible first | refine LenR_i fun _ => ?_ | refine And.intro (by omega) ?_ | refine and_assoc.2 ?_ | apply sp_cond | apply sp_guard | apply sp_ag | apply sp_call | apply sp_acall | apply sp_loop | apply sp_any | apply sp_frz | apply sp_len | apply sp_idx | apply sp_keep | apply sp_back
    | with_reducible refine frz0_i ?_
    | simp (maxSteps := 1000000) (disch := omega) only [lAL, lDF, tupA, eqA, isNil, slcNil, ptrCells, ptrAdd, cellsO, intA, boolA, readsV, readsP, isCall, wrote, srcOf, isNilSlice, Value.oneCell', seval, implies_true, forall_eq, ne_eq, wrap_i64, LenR_ok, List.length_map, IdxR_ints, ep1, ep2, g1, g2, st_done hn, st_with hn])
  refine keep_i [1] false (by simp) (by simp) rfl ?_
  simp only [lPA, lPD, novO, setAll, seval, implies_true, paR_some, pa_accs]
/-- The same, for a caller that only reads. -/
theorem c72v (h : List Acc) (n : Nat) (hn : n < h.length) (hl : h.length ≤ 100) (s : Int) : ACalls E.P 72 [.view 6 (h.map accA), .int .i64 n, .int .i64 s] [] (fun r H => r = .view 6 ((withS h n s).map accA) ∧ H = []) := by
  have hmax := maxLen_eq
  refine ok72.acalls hE hm (by simp) ?_
  unfold mc72
  have g1 := accs_get hn
  have g2 : ((doneS h n).map accA)[n]? = _ := accs_get (by rw [doneS_len]; exact hn)
  have ep1 : ∀ {m N d c}, epR E.P m N (some (.arr 44 6 (h.map accA))) (n : Int) h.length 1 6 d c = rK E.P m N c d (.ep 1 6 n 0) := epR_ne (by simp) (by omega) (by omega)
  have ep2 : ∀ {m N d c}, epR E.P m N (some (.arr 44 6 ((doneS h n).map accA))) (n : Int) h.length 1 6 d c = rK E.P m N c d (.ep 1 6 n 0) := epR_ne (by simp [doneS_len]) (by omega) (by omega)
  repeat' (first
    | (with_reducible first | apply cond_d | apply cond_nd | apply cond_i | apply guard_d | apply guard_nd | apply guard_df | apply guard_ndf | apply guard_i | apply ag_d | apply ag_nd | apply ag_df | apply ag_ndf | apply ag_i) <;> intro _
    | with_reducible first | refine LenR_i fun _ => ?_ | refine And.intro (by omega) ?_ | refine and_assoc.2 ?_ | apply sp_cond | apply sp_guard | apply sp_ag | apply sp_call | apply sp_acall | apply sp_loop | apply sp_any | apply sp_frz | apply sp_len | apply sp_idx | apply sp_keep | apply sp_back
    | with_reducible refine frz0_i ?_
    | simp (maxSteps := 1000000) (disch := omega) only [lAL, lDF, tupA, eqA, isNil, slcNil, ptrCells, ptrAdd, cellsO, intA, boolA, readsV, readsP, isCall, wrote, srcOf, isNilSlice, Value.oneCell', seval, implies_true, forall_eq, ne_eq, wrap_i64, LenR_ok, List.length_map, IdxR_ints, ep1, ep2, g1, g2, st_done hn, st_with hn])
  have hw : h.length = ((withS h n s).map accA).length := by simp [withS_len]
  refine keep_i [] true (by simp) (by simp) rfl ?_
  simp only [lPA, lPD, novO, setAll, seval, implies_true, paR_lent]
  rw [vwS_arr hw, vw_accs]
/-- The greatest stamp and snapshot of the first ones. -/
def lastTo (h : List Acc) : Nat → Int
  | 0 => 0
  | m + 1 => max (max (lastTo h m) (at' h m).stamp) (at' h m).snap
def lastS (h : List Acc) : Int := lastTo h h.length
theorem max3 (a b c : Int) : (if c > (if b > a then b else a) then c else (if b > a then b else a)) = max (max a b) c := by
  split <;> split <;> omega
theorem c71 (h : List Acc) : ACalls E.P 71 [.view 6 (h.map accA)] [] (fun r H => r = .int .i64 (lastS h) ∧ H = []) := by
  have hmax := maxLen_eq
  refine ok71.acalls hE hm (by simp) ?_
  unfold mc71
  repeat' (first
    | (with_reducible first | apply cond_d | apply cond_nd | apply cond_i | apply guard_d | apply guard_nd | apply guard_df | apply guard_ndf | apply guard_i | apply ag_d | apply ag_nd | apply ag_df | apply ag_ndf | apply ag_i) <;> intro _
    | with_reducible first | refine LenR_i fun _ => ?_ | refine And.intro (by omega) ?_ | refine and_assoc.2 ?_ | apply sp_cond | apply sp_guard | apply sp_ag | apply sp_call | apply sp_acall | apply sp_loop | apply sp_any | apply sp_frz | apply sp_len | apply sp_idx | apply sp_keep | apply sp_back
    | with_reducible refine frz0_i ?_
    | ((with_reducible refine keep0_i ?_); simp only [lPA, lPD, novO, setAll, seval, implies_true])
    | simp (maxSteps := 1000000) (disch := omega) only [lAL, lDF, tupA, eqA, isNil, slcNil, ptrCells, ptrAdd, cellsO, intA, boolA, readsV, readsP, isCall, wrote, srcOf, isNilSlice, Value.oneCell', seval, implies_true, forall_eq, ne_eq, wrap_i64, LenR_ok, List.length_map, IdxR_ints])
  refine loop_i (fun i : Nat => i ≤ h.length) (fun i => ⟨[(0, .view 6 (h.map accA)), (3, .int .i64 (lastTo h i)), (4, .int .i64 i)], []⟩) (fun i => h.length - i) 0 (by omega) (Ent.to [] false (by simp) (by simp) rfl (by simp only [lPA, lPD, novO, setAll, seval, implies_true, lastTo, pa_accs] <;> (try simp) <;> (try omega)) (by simp only [lPA, lPD, novO, setAll, seval, implies_true, lastTo, pa_accs] <;> (try simp) <;> (try omega))) ?_
  intro i hi
  by_cases hin : i < h.length
  · have e1 : ∀ {m N d k}, IdxR E.P m N (h.map accA) (i : Int) d k = rK E.P m N k d (.vp (accC (at' h i))) := IdxR_at hin
    repeat' (first
      | (with_reducible first | apply cond_d | apply cond_nd | apply cond_i | apply guard_d | apply guard_nd | apply guard_df | apply guard_ndf | apply guard_i | apply ag_d | apply ag_nd | apply ag_df | apply ag_ndf | apply ag_i) <;> intro _
      | with_reducible first | refine LenR_i fun _ => ?_ | refine And.intro (by omega) ?_ | refine and_assoc.2 ?_ | apply sp_cond | apply sp_guard | apply sp_ag | apply sp_call | apply sp_acall | apply sp_loop | apply sp_any | apply sp_frz | apply sp_len | apply sp_idx | apply sp_keep | apply sp_back
      | with_reducible refine frz0_i ?_
      | with_reducible refine any_i [] ?_
      | ((with_reducible refine keep0_i ?_); simp only [lPA, lPD, novO, setAll, seval, implies_true])
      | simp (maxSteps := 1000000) (disch := omega) only [lAL, lDF, tupA, eqA, isNil, slcNil, ptrCells, ptrAdd, cellsO, intA, boolA, readsV, readsP, isCall, wrote, srcOf, isNilSlice, Value.oneCell', seval, implies_true, forall_eq, ne_eq, wrap_i64, LenR_ok, List.length_map, IdxR_ints, e1, accC])
    all_goals try (exfalso; omega)
    all_goals clear e1
    refine back_i (i + 1) (by omega) (by omega) (Ent.to [] false (by simp) (by simp) rfl (by simp only [lPA, lPD, novO, setAll, seval, implies_true, pa_accs, lastTo, max3]; simp) (by simp only [lPA, lPD, novO, setAll, seval, implies_true]))
  · have e : i = h.length := by omega
    subst e
    repeat' (first
      | (with_reducible first | apply cond_d | apply cond_nd | apply cond_i | apply guard_d | apply guard_nd | apply guard_df | apply guard_ndf | apply guard_i | apply ag_d | apply ag_nd | apply ag_df | apply ag_ndf | apply ag_i) <;> intro _
      | with_reducible first | refine LenR_i fun _ => ?_ | refine And.intro (by omega) ?_ | refine and_assoc.2 ?_ | apply sp_cond | apply sp_guard | apply sp_ag | apply sp_call | apply sp_acall | apply sp_loop | apply sp_any | apply sp_frz | apply sp_len | apply sp_idx | apply sp_keep | apply sp_back
      | with_reducible refine frz0_i ?_
      | ((with_reducible refine keep0_i ?_); simp only [lPA, lPD, novO, setAll, seval, implies_true])
      | simp (maxSteps := 1000000) (disch := omega) only [lAL, lDF, tupA, eqA, isNil, slcNil, ptrCells, ptrAdd, cellsO, intA, boolA, readsV, readsP, isCall, wrote, srcOf, isNilSlice, Value.oneCell', seval, implies_true, forall_eq, ne_eq, wrap_i64, LenR_ok, List.length_map, IdxR_ints])
    all_goals try (exfalso; omega)
    all_goals simp [lastS]
end Go.Proofs.Try
