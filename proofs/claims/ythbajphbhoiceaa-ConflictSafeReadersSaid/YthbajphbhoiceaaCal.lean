/-
  A part of the proof: see the text of the law.
-/
import Derived.Test.YthbajphbhoiceaaCak
set_option linter.unusedSimpArgs false
set_option linter.unusedVariables false
namespace Go.Proofs.Try
open Go.Al
set_option linter.unusedVariables false
set_option linter.unusedSimpArgs false
open Classical

/-! ### comparing lists -/
theorem IdxR_pairs {P : Program} {m N : Nat} {l : List (Nat × Nat)} {i d : Nat} {c : Kn} (hi : i < l.length) : IdxR P m N (l.map pairA) (i : Int) d c = rK P m N c d (.vp [.int .i64 (l.getD i (0, 0)).1, .int .i64 (l.getD i (0, 0)).2]) := by
  rw [IdxR_map (f := pairA) (xs := l) (dflt := (0, 0)) (cs := fun p => [.int .i64 p.1, .int .i64 p.2]) (fun _ => rfl) (by omega) (by omega), Int.toNat_natCast]
theorem list_ext {α : Type} {a b : List α} {d : α} (hl : a.length = b.length) (h : ∀ i, i < a.length → a.getD i d = b.getD i d) : a = b := by
  apply List.ext_getElem hl
  intro i h1 h2
  have := h i h1
  rwa [getD_get h1, getD_get h2] at this

set_option maxHeartbeats 8000000
theorem c20 (a b : List (Nat × Nat)) : ACalls E.P 20 [pairsA a, pairsA b] [] (fun r H => r = .bool (decide (a = b)) ∧ H = []) := by
  have hmax := maxLen_eq
  refine ok20.acalls hE hm (by simp) ?_
  unfold mc20
  simp only [pairsA]
  repeat' (first
    | (with_reducible first | apply cond_d | apply cond_nd | apply cond_i | apply guard_d | apply guard_nd | apply guard_df | apply guard_ndf | apply guard_i | apply ag_d | apply ag_nd | apply ag_df | apply ag_ndf | apply ag_i) <;> intro _
    | with_reducible first | refine LenR_i fun _ => ?_ | refine And.intro (by omega) ?_ | refine and_assoc.2 ?_ | apply sp_cond | apply sp_guard | apply sp_ag | apply sp_call | apply sp_acall | apply sp_loop | apply sp_any | apply sp_frz | apply sp_len | apply sp_idx | apply sp_keep | apply sp_back
    | with_reducible refine frz0_i ?_
    | ((with_reducible refine keep0_i ?_); simp only [lPA, lPD, novO, setAll, seval, implies_true])
    | simp (maxSteps := 1000000) (disch := omega) only [lAL, lDF, tupA, eqA, isNil, slcNil, ptrCells, ptrAdd, cellsO, intA, boolA, readsV, readsP, isCall, wrote, srcOf, isNilSlice, Value.oneCell', seval, implies_true, forall_eq, ne_eq, wrap_i64, LenR_ok, List.length_map, IdxR_ints])
  · have : a ≠ b := fun h => by subst h; omega
    simp [this]
  have hab : a.length = b.length := by omega
  refine loop_i (fun i : Nat => i ≤ a.length ∧ ∀ j, j < i → a.getD j (0, 0) = b.getD j (0, 0)) (fun i => ⟨[(0, pairsA a), (1, pairsA b), (5, .int .i64 i)], []⟩) (fun i => a.length - i) 0 ⟨by omega, by omega⟩ (Ent.to [] false (by simp) (by simp) rfl (by simp only [lPA, lPD, novO, setAll, seval, implies_true, pairsA] <;> (try simp) <;> (try omega)) (by simp only [lPA, lPD, novO, setAll, seval, implies_true, pairsA] <;> (try simp) <;> (try omega))) ?_
  rintro i ⟨hi, hj⟩
  simp only [pairsA]
  by_cases hin : i < a.length
  · have ea : ∀ {m N d c}, IdxR E.P m N (a.map pairA) (i : Int) d c = rK E.P m N c d (.vp [.int .i64 (a.getD i (0, 0)).1, .int .i64 (a.getD i (0, 0)).2]) := IdxR_pairs hin
    have eb : ∀ {m N d c}, IdxR E.P m N (b.map pairA) (i : Int) d c = rK E.P m N c d (.vp [.int .i64 (b.getD i (0, 0)).1, .int .i64 (b.getD i (0, 0)).2]) := IdxR_pairs (by omega)
    repeat' (first
      | (with_reducible first | apply cond_d | apply cond_nd | apply cond_i | apply guard_d | apply guard_nd | apply guard_df | apply guard_ndf | apply guard_i | apply ag_d | apply ag_nd | apply ag_df | apply ag_ndf | apply ag_i) <;> intro _
      | with_reducible first | refine LenR_i fun _ => ?_ | refine And.intro (by omega) ?_ | refine and_assoc.2 ?_ | apply sp_cond | apply sp_guard | apply sp_ag | apply sp_call | apply sp_acall | apply sp_loop | apply sp_any | apply sp_frz | apply sp_len | apply sp_idx | apply sp_keep | apply sp_back
      | with_reducible refine frz0_i ?_
      | ((with_reducible refine keep0_i ?_); simp only [lPA, lPD, novO, setAll, seval, implies_true])
      | simp (maxSteps := 1000000) (disch := omega) only [lAL, lDF, tupA, eqA, isNil, slcNil, ptrCells, ptrAdd, cellsO, intA, boolA, readsV, readsP, isCall, wrote, srcOf, isNilSlice, Value.oneCell', seval, implies_true, forall_eq, ne_eq, wrap_i64, LenR_ok, List.length_map, IdxR_ints, ea, eb])
    all_goals try (exfalso; omega)
    · rename_i h1 h2
      have : a ≠ b := by
        intro h
        subst h
        simp at h2
      simp [this]
    · rename_i h1 h2
      simp at h2
      refine back_i (i + 1) ⟨by omega, fun j hj2 => ?_⟩ (by omega) (Ent.to [] false (by simp) (by simp) rfl (by simp only [lPA, lPD, novO, setAll, seval, implies_true, pairsA] <;> (try simp) <;> (try omega)) (by simp only [lPA, lPD, novO, setAll, seval, implies_true, pairsA] <;> (try simp) <;> (try omega)))
      by_cases hji : j < i
      · exact hj j hji
      · have : j = i := by omega
        subst this
        simp only [List.getD]
        exact Prod.ext (by omega) (by omega)
  · repeat' (first
      | (with_reducible first | apply cond_d | apply cond_nd | apply cond_i | apply guard_d | apply guard_nd | apply guard_df | apply guard_ndf | apply guard_i | apply ag_d | apply ag_nd | apply ag_df | apply ag_ndf | apply ag_i) <;> intro _
      | with_reducible first | refine LenR_i fun _ => ?_ | refine And.intro (by omega) ?_ | refine and_assoc.2 ?_ | apply sp_cond | apply sp_guard | apply sp_ag | apply sp_call | apply sp_acall | apply sp_loop | apply sp_any | apply sp_frz | apply sp_len | apply sp_idx | apply sp_keep | apply sp_back
      | with_reducible refine frz0_i ?_
      | ((with_reducible refine keep0_i ?_); simp only [lPA, lPD, novO, setAll, seval, implies_true])
      | simp (maxSteps := 1000000) (disch := omega) only [lAL, lDF, tupA, eqA, isNil, slcNil, ptrCells, ptrAdd, cellsO, intA, boolA, readsV, readsP, isCall, wrote, srcOf, isNilSlice, Value.oneCell', seval, implies_true, forall_eq, ne_eq, wrap_i64, LenR_ok, List.length_map, IdxR_ints])
    all_goals try (exfalso; omega)
    have : a = b := list_ext hab fun j hj' => hj j (by omega)
    simp [this]
theorem c29 (a b : List Int) : ACalls E.P 29 [.view 1 (a.map (AV.int .i64)), .view 1 (b.map (AV.int .i64))] [] (fun r H => r = .bool (decide (a = b)) ∧ H = []) := by
  have hmax := maxLen_eq
  refine ok29.acalls hE hm (by simp) ?_
  unfold mc29
  repeat' (first
    | (with_reducible first | apply cond_d | apply cond_nd | apply cond_i | apply guard_d | apply guard_nd | apply guard_df | apply guard_ndf | apply guard_i | apply ag_d | apply ag_nd | apply ag_df | apply ag_ndf | apply ag_i) <;> intro _
    | with_reducible first | refine LenR_i fun _ => ?_ | refine And.intro (by omega) ?_ | refine and_assoc.2 ?_ | apply sp_cond | apply sp_guard | apply sp_ag | apply sp_call | apply sp_acall | apply sp_loop | apply sp_any | apply sp_frz | apply sp_len | apply sp_idx | apply sp_keep | apply sp_back
    | with_reducible refine frz0_i ?_
    | ((with_reducible refine keep0_i ?_); simp only [lPA, lPD, novO, setAll, seval, implies_true])
    | simp (maxSteps := 1000000) (disch := omega) only [lAL, lDF, tupA, eqA, isNil, slcNil, ptrCells, ptrAdd, cellsO, intA, boolA, readsV, readsP, isCall, wrote, srcOf, isNilSlice, Value.oneCell', seval, implies_true, forall_eq, ne_eq, wrap_i64, LenR_ok, List.length_map, IdxR_ints])
  · have : a ≠ b := fun h => by subst h; omega
    simp [this]
  have hab : a.length = b.length := by omega
  refine loop_i (fun i : Nat => i ≤ a.length ∧ ∀ j, j < i → a.getD j 0 = b.getD j 0) (fun i => ⟨[(0, .view 1 (a.map (AV.int .i64))), (1, .view 1 (b.map (AV.int .i64))), (5, .int .i64 i)], []⟩) (fun i => a.length - i) 0 ⟨by omega, by omega⟩ (Ent.to [] false (by simp) (by simp) rfl (by simp only [lPA, lPD, novO, setAll, seval, implies_true] <;> (try simp) <;> (try omega)) (by simp only [lPA, lPD, novO, setAll, seval, implies_true] <;> (try simp) <;> (try omega))) ?_
  rintro i ⟨hi, hj⟩
  by_cases hin : i < a.length
  · repeat' (first
      | (with_reducible first | apply cond_d | apply cond_nd | apply cond_i | apply guard_d | apply guard_nd | apply guard_df | apply guard_ndf | apply guard_i | apply ag_d | apply ag_nd | apply ag_df | apply ag_ndf | apply ag_i) <;> intro _
      | with_reducible first | refine LenR_i fun _ => ?_ | refine And.intro (by omega) ?_ | refine and_assoc.2 ?_ | apply sp_cond | apply sp_guard | apply sp_ag | apply sp_call | apply sp_acall | apply sp_loop | apply sp_any | apply sp_frz | apply sp_len | apply sp_idx | apply sp_keep | apply sp_back
      | with_reducible refine frz0_i ?_
      | ((with_reducible refine keep0_i ?_); simp only [lPA, lPD, novO, setAll, seval, implies_true])
      | simp (maxSteps := 1000000) (disch := omega) only [lAL, lDF, tupA, eqA, isNil, slcNil, ptrCells, ptrAdd, cellsO, intA, boolA, readsV, readsP, isCall, wrote, srcOf, isNilSlice, Value.oneCell', seval, implies_true, forall_eq, ne_eq, wrap_i64, LenR_ok, List.length_map, IdxR_ints])
    all_goals try (exfalso; omega)
    · rename_i h1 h2
      have : a ≠ b := by
        intro h
        subst h
        simp at h2
      simp [this]
    · rename_i h1 h2
      refine back_i (i + 1) ⟨by omega, fun j hj2 => ?_⟩ (by omega) (Ent.to [] false (by simp) (by simp) rfl (by simp only [lPA, lPD, novO, setAll, seval, implies_true] <;> (try simp) <;> (try omega)) (by simp only [lPA, lPD, novO, setAll, seval, implies_true] <;> (try simp) <;> (try omega)))
      by_cases hji : j < i
      · exact hj j hji
      · have : j = i := by omega
        subst this
        simpa using h2
  · repeat' (first
      | (with_reducible first | apply cond_d | apply cond_nd | apply cond_i | apply guard_d | apply guard_nd | apply guard_df | apply guard_ndf | apply guard_i | apply ag_d | apply ag_nd | apply ag_df | apply ag_ndf | apply ag_i) <;> intro _
      | with_reducible first | refine LenR_i fun _ => ?_ | refine And.intro (by omega) ?_ | refine and_assoc.2 ?_ | apply sp_cond | apply sp_guard | apply sp_ag | apply sp_call | apply sp_acall | apply sp_loop | apply sp_any | apply sp_frz | apply sp_len | apply sp_idx | apply sp_keep | apply sp_back
      | with_reducible refine frz0_i ?_
      | ((with_reducible refine keep0_i ?_); simp only [lPA, lPD, novO, setAll, seval, implies_true])
      | simp (maxSteps := 1000000) (disch := omega) only [lAL, lDF, tupA, eqA, isNil, slcNil, ptrCells, ptrAdd, cellsO, intA, boolA, readsV, readsP, isCall, wrote, srcOf, isNilSlice, Value.oneCell', seval, implies_true, forall_eq, ne_eq, wrap_i64, LenR_ok, List.length_map, IdxR_ints])
    all_goals try (exfalso; omega)
    have : a = b := list_ext hab fun j hj' => hj j (by omega)
    simp [this]

/-! ### dangerous structures -/
def Dang (h : List Acc) (a b c : Nat) : Prop := Anti h a b ∧ Anti h b c ∧ (at' h c).stamp < (at' h b).stamp ∧
  (a = c ∨ (0 < (at' h a).writes.length ∧ (at' h c).stamp < (at' h a).stamp) ∨ ((at' h a).writes.length = 0 ∧ (at' h c).stamp ≤ (at' h a).snap))

theorem IdxR_at {P : Program} {m N : Nat} {h : List Acc} {i d : Nat} {c : Kn} (hi : i < h.length) : IdxR P m N (h.map accA) (i : Int) d c = rK P m N c d (.vp (accC (at' h i))) := IdxR_accs (by omega) (by omega)

theorem c56 (h : List Acc) (a b c : Nat) (ha : a < h.length) (hb : b < h.length) (hc : c < h.length) : ACalls E.P 56 [.view 6 (h.map accA), .int .i64 a, .int .i64 b, .int .i64 c] [] (fun r H => r = .bool (decide (Dang h a b c)) ∧ H = []) := by
  have hmax := maxLen_eq
  have e1 : ∀ {m N d k}, IdxR E.P m N (h.map accA) (a : Int) d k = rK E.P m N k d (.vp (accC (at' h a))) := IdxR_at ha
  have e2 : ∀ {m N d k}, IdxR E.P m N (h.map accA) (b : Int) d k = rK E.P m N k d (.vp (accC (at' h b))) := IdxR_at hb
  have e3 : ∀ {m N d k}, IdxR E.P m N (h.map accA) (c : Int) d k = rK E.P m N k d (.vp (accC (at' h c))) := IdxR_at hc
  have k1 := c52 h a b ha hb
  have k2 := c52 h b c hb hc
  refine ok56.acalls hE hm (by simp) ?_
  unfold mc56
  repeat' (first
    | (with_reducible first | apply cond_d | apply cond_nd | apply cond_i | apply guard_d | apply guard_nd | apply guard_df | apply guard_ndf | apply guard_i | apply ag_d | apply ag_nd | apply ag_df | apply ag_ndf | apply ag_i) <;> intro _
    | with_reducible first | refine LenR_i fun _ => ?_ | refine And.intro (by omega) ?_ | refine and_assoc.2 ?_ | apply sp_cond | apply sp_guard | apply sp_ag | apply sp_call | apply sp_acall | apply sp_loop | apply sp_any | apply sp_frz | apply sp_len | apply sp_idx | apply sp_keep | apply sp_back
    | with_reducible refine frz0_i ?_
    | ((with_reducible first | refine callN_i [] true (by simp) (by simp) ?_ | refine acallN_i true ?_); simp only [lPA, lPD, novO, setAll, seval, implies_true, e1, e2, e3, accC]; (first | (refine ⟨_, k1, ?_⟩; rintro _ _ ⟨rfl, rfl⟩) | (refine ⟨_, k2, ?_⟩; rintro _ _ ⟨rfl, rfl⟩)); simp only [lAL, lDF, tupA, eqA, isNil, slcNil, ptrCells, ptrAdd, cellsO, intA, boolA, readsV, readsP, isCall, wrote, srcOf, isNilSlice, Value.oneCell', seval, implies_true, forall_eq, ne_eq, lPA, lPD, novO, setAll, e1, e2, e3, accC])
    | ((with_reducible refine keep0_i ?_); simp only [lPA, lPD, novO, setAll, seval, implies_true])
    | simp (maxSteps := 1000000) (disch := omega) only [lAL, lDF, tupA, eqA, isNil, slcNil, ptrCells, ptrAdd, cellsO, intA, boolA, readsV, readsP, isCall, wrote, srcOf, isNilSlice, Value.oneCell', seval, implies_true, forall_eq, ne_eq, wrap_i64, LenR_ok, List.length_map, IdxR_ints, e1, e2, e3, accC])
  all_goals refine congrArg AV.bool (Bool.eq_iff_iff.2 ?_)
  all_goals clear e1 e2 e3 k1 k2
  all_goals simp only [decide_eq_true_eq, Bool.false_eq_true, Dang]
  all_goals grind
end Go.Proofs.Try
