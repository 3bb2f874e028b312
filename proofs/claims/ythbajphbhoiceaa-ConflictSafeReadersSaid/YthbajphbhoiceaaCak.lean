/-
  A part of the proof: see the text of the law.
-/
import Derived.Test.YthbajphbhoiceaaCaj
set_option linter.unusedSimpArgs false
set_option linter.unusedVariables false
namespace Go.Proofs.Try
open Go.Al
set_option linter.unusedVariables false
set_option linter.unusedSimpArgs false
open Classical

/-! ### pairs -/
def pairA (p : Nat × Nat) : AV := .agg [.int .i64 p.1, .int .i64 p.2]
noncomputable def rowP (p : Nat → Nat → Prop) (i j : Nat) : List (Nat × Nat) := ((List.range j).filter fun k => decide (p i k)).map fun k => (i, k)
noncomputable def pairsTo (p : Nat → Nat → Prop) (n i : Nat) : List (Nat × Nat) := (List.range i).flatMap fun k => rowP p k n
theorem rowP_zero {p : Nat → Nat → Prop} {i : Nat} : rowP p i 0 = [] := rfl
theorem rowP_yes {p : Nat → Nat → Prop} {i j : Nat} (h : p i j) : rowP p i (j + 1) = rowP p i j ++ [(i, j)] := by
  simp [rowP, List.range_succ, List.filter_append, h]
theorem rowP_no {p : Nat → Nat → Prop} {i j : Nat} (h : ¬ p i j) : rowP p i (j + 1) = rowP p i j := by
  simp [rowP, List.range_succ, List.filter_append, h]
theorem pairsTo_zero {p : Nat → Nat → Prop} {n : Nat} : pairsTo p n 0 = [] := rfl
theorem pairsTo_succ {p : Nat → Nat → Prop} {n i : Nat} : pairsTo p n (i + 1) = pairsTo p n i ++ rowP p i n := by
  simp [pairsTo, List.range_succ]
theorem rowP_len {p : Nat → Nat → Prop} {i j : Nat} : (rowP p i j).length ≤ j := by
  simp only [rowP, List.length_map]
  exact Nat.le_trans (List.length_filter_le _ _) (by simp)
theorem pairsTo_len {p : Nat → Nat → Prop} {n : Nat} (hn : n ≤ 100) : ∀ i, (pairsTo p n i).length ≤ i * 100
  | 0 => by simp [pairsTo]
  | i + 1 => by
    rw [pairsTo_succ, List.length_append]
    have h1 := pairsTo_len (p := p) hn i
    have h2 := rowP_len (p := p) (i := i) (j := n)
    omega
theorem pa_pairs {H : List AObj} {l : List Nat} {bor : Bool} {n : Nat} {xs : List (Nat × Nat)} : (xs.map pairA).map (pa H l bor (n + 1)) = xs.map pairA := map_same (fun x => by simp [pairA, pa_agg, pa_int]) xs
theorem vw_pairs {H : List AObj} {l : List Nat} {n : Nat} {xs : List (Nat × Nat)} : (xs.map pairA).map (vw H l (n + 1)) = xs.map pairA := map_same (fun x => by simp [pairA, vw_agg, vw_int]) xs
theorem range_getD {n i : Nat} (h : i < n) : (List.range n).getD i 0 = i := by simp [h]
theorem IdxR_rows {P : Program} {m N : Nat} {h : List Acc} {i d : Nat} {c : Kn} (hi : i < h.length) : IdxR P m N ((List.range h.length).map (rowA h)) (i : Int) d c = rK P m N c d (.vp [rowA h i]) := by
  rw [IdxR_map (f := rowA h) (xs := List.range h.length) (dflt := 0) (cs := fun k => [rowA h k]) (fun _ => rfl) (by omega) (by simp; omega), Int.toNat_natCast, range_getD hi]
theorem IdxR_erow {P : Program} {m N : Nat} {h : List Acc} {i j d : Nat} {c : Kn} (hj : j < h.length) : IdxR P m N ((erow h i).map (AV.int .i64)) (j : Int) d c = rK P m N c d (.vp [.int .i64 (ebit h i j)]) := by
  rw [IdxR_ints (by omega) (by simp [erow]; omega), Int.toNat_natCast]
  simp [erow, hj]
theorem erow_length {h : List Acc} {i : Nat} : (erow h i).length = h.length := by simp [erow]

/-- Which edges some kinds have. -/
def Kind (h : List Acc) (k : Int) (p : Nat → Nat → Prop) : Prop := ∀ i j, ¬ (IntKind.i64.wrap ((BitVec.ofInt IntKind.i64.bits (ebit h i j) &&& BitVec.ofInt IntKind.i64.bits k).toNat : Nat) = 0) ↔ p i j
theorem ebit_cases (h : List Acc) (i j : Nat) : (¬ PlainG h i j ∧ ¬ Anti h i j ∧ ebit h i j = 0) ∨ (PlainG h i j ∧ ¬ Anti h i j ∧ ebit h i j = 1) ∨ (¬ PlainG h i j ∧ Anti h i j ∧ ebit h i j = 2) ∨ (PlainG h i j ∧ Anti h i j ∧ ebit h i j = 3) := by
  unfold ebit
  by_cases h1 : PlainG h i j <;> by_cases h2 : Anti h i j <;> simp [h1, h2]
theorem kind_anti (h : List Acc) : Kind h 2 (Anti h) := by
  intro i j
  rcases ebit_cases h i j with ⟨h1, h2, h3⟩ | ⟨h1, h2, h3⟩ | ⟨h1, h2, h3⟩ | ⟨h1, h2, h3⟩ <;> rw [h3] <;> simp only [h2] <;> decide
theorem edge_iff (h : List Acc) (i j : Nat) : Edge h i j ↔ PlainG h i j ∨ Anti h i j := by
  simp only [Edge, PlainG, Anti]; grind
theorem kind_all (h : List Acc) : Kind h 3 (Edge h) := by
  intro i j
  rw [edge_iff]
  rcases ebit_cases h i j with ⟨h1, h2, h3⟩ | ⟨h1, h2, h3⟩ | ⟨h1, h2, h3⟩ | ⟨h1, h2, h3⟩ <;> rw [h3] <;> simp only [h1, h2] <;> decide

set_option maxHeartbeats 8000000
theorem c51n (k : Int) : ACalls E.P 51 [.raw (.pointer none), .int .i64 k] [] (fun r H => r = .view 2 [] ∧ H = []) := by
  refine ok51.acalls hE hm (by simp) ?_
  unfold mc51
  repeat' (first
    | (with_reducible first | apply cond_d | apply cond_nd | apply cond_i | apply guard_d | apply guard_nd | apply guard_df | apply guard_ndf | apply guard_i | apply ag_d | apply ag_nd | apply ag_df | apply ag_ndf | apply ag_i) <;> intro _
    | with_reducible first | refine LenR_i fun _ => ?_ | refine And.intro (by omega) ?_ | refine and_assoc.2 ?_ | apply sp_cond | apply sp_guard | apply sp_ag | apply sp_call | apply sp_acall | apply sp_loop | apply sp_any | apply sp_frz | apply sp_len | apply sp_idx | apply sp_keep | apply sp_back
    | with_reducible refine frz0_i ?_
    | simp (maxSteps := 1000000) (disch := omega) only [lAL, lDF, tupA, eqA, isNil, slcNil, ptrCells, ptrAdd, cellsO, intA, boolA, readsV, readsP, isCall, wrote, srcOf, isNilSlice, Value.oneCell', seval, implies_true, forall_eq, ne_eq, wrap_i64, LenR_ok, List.length_map, IdxR_ints])
  exact keepn_i 2 ⟨rfl, rfl⟩

theorem c51 (h : List Acc) (k : Int) (p : Nat → Nat → Prop) (hp : Kind h k p) (hn : h.length ≤ 100) : ACalls E.P 51 [graphA h, .int .i64 k] [] (fun r H => r = .view 2 ((pairsTo p h.length h.length).map pairA) ∧ H = []) := by
  have hmax := maxLen_eq
  refine ok51.acalls hE hm (by simp) ?_
  unfold mc51
  simp only [graphA]
  repeat' (first
    | (with_reducible first | apply cond_d | apply cond_nd | apply cond_i | apply guard_d | apply guard_nd | apply guard_df | apply guard_ndf | apply guard_i | apply ag_d | apply ag_nd | apply ag_df | apply ag_ndf | apply ag_i) <;> intro _
    | with_reducible first | refine LenR_i fun _ => ?_ | refine And.intro (by omega) ?_ | refine and_assoc.2 ?_ | apply sp_cond | apply sp_guard | apply sp_ag | apply sp_call | apply sp_acall | apply sp_loop | apply sp_any | apply sp_frz | apply sp_len | apply sp_idx | apply sp_keep | apply sp_back
    | with_reducible refine frz0_i ?_
    | simp (maxSteps := 1000000) (disch := omega) only [lAL, lDF, tupA, eqA, isNil, slcNil, ptrCells, ptrAdd, cellsO, intA, boolA, readsV, readsP, isCall, wrote, srcOf, isNilSlice, Value.oneCell', seval, implies_true, forall_eq, ne_eq, wrap_i64, LenR_ok, List.length_map, IdxR_ints])
  refine loop_i (fun i : Nat => i ≤ h.length) (fun i => ⟨[(0, graphA h), (1, .int .i64 k), (5, .slc 0 2 (pairsTo p h.length i).length), (16, .int .i64 h.length), (17, .int .i64 i)], [.arr 45 2 ((pairsTo p h.length i).map pairA)]⟩) (fun i => h.length - i) 0 (by omega)
    (Ent.ghost' 5 45 2 (by omega) rfl (Ent.to [0] false (by simp) (by simp) rfl (by simp only [lPA, lPD, novO, setAll, seval, implies_true, pairsTo_zero, graphA] <;> (try simp) <;> (try omega)) (by simp only [lPA, lPD, novO, setAll, seval, implies_true, pairsTo_zero, graphA] <;> (try simp) <;> (try omega)))) ?_
  intro i hi
  have hlen := pairsTo_len (p := p) hn i
  by_cases hin : i < h.length
  · have er : ∀ {m N d c}, IdxR E.P m N ((List.range h.length).map (rowA h)) (i : Int) d c = rK E.P m N c d (.vp [rowA h i]) := IdxR_rows hin
    simp only [graphA]
    repeat' (first
      | (with_reducible first | apply cond_d | apply cond_nd | apply cond_i | apply guard_d | apply guard_nd | apply guard_df | apply guard_ndf | apply guard_i | apply ag_d | apply ag_nd | apply ag_df | apply ag_ndf | apply ag_i) <;> intro _
      | with_reducible first | refine LenR_i fun _ => ?_ | refine And.intro (by omega) ?_ | refine and_assoc.2 ?_ | apply sp_cond | apply sp_guard | apply sp_ag | apply sp_call | apply sp_acall | apply sp_loop | apply sp_any | apply sp_frz | apply sp_len | apply sp_idx | apply sp_keep | apply sp_back
      | with_reducible refine frz0_i ?_
      | simp (maxSteps := 1000000) (disch := omega) only [lAL, lDF, tupA, eqA, isNil, slcNil, ptrCells, ptrAdd, cellsO, intA, boolA, readsV, readsP, isCall, wrote, srcOf, isNilSlice, Value.oneCell', seval, implies_true, forall_eq, ne_eq, wrap_i64, LenR_ok, List.length_map, IdxR_ints, er, rowA, erow_length])
    · refine loop_i (fun j : Nat => j ≤ h.length) (fun j => ⟨[(0, graphA h), (1, .int .i64 k), (5, .slc 0 2 (pairsTo p h.length i ++ rowP p i j).length), (6, .int .i64 i), (16, .int .i64 h.length), (17, .int .i64 i), (26, rowA h i), (27, .int .i64 h.length), (28, .int .i64 j)], [.arr 45 2 ((pairsTo p h.length i ++ rowP p i j).map pairA)]⟩) (fun j => h.length - j) 0 (by omega)
        (Ent.to [0] false (by simp) (by simp) rfl (by simp only [lPA, lPD, novO, setAll, seval, implies_true, rowP_zero, List.append_nil, pa_pairs, graphA, rowA] <;> (try simp) <;> (try omega)) (by simp only [lPA, lPD, novO, setAll, seval, implies_true, rowP_zero, List.append_nil, pa_pairs, graphA, rowA] <;> (try simp) <;> (try omega))) ?_
      intro j hj
      have hlr := rowP_len (p := p) (i := i) (j := j)
      by_cases hjn : j < h.length
      · have ej : ∀ {m N d c}, IdxR E.P m N ((erow h i).map (AV.int .i64)) (j : Int) d c = rK E.P m N c d (.vp [.int .i64 (ebit h i j)]) := IdxR_erow hjn
        simp only [graphA, rowA]
        repeat' (first
          | (with_reducible first | apply cond_d | apply cond_nd | apply cond_i | apply guard_d | apply guard_nd | apply guard_df | apply guard_ndf | apply guard_i | apply ag_d | apply ag_nd | apply ag_df | apply ag_ndf | apply ag_i) <;> intro _
          | with_reducible first | refine LenR_i fun _ => ?_ | refine And.intro (by omega) ?_ | refine and_assoc.2 ?_ | apply sp_cond | apply sp_guard | apply sp_ag | apply sp_call | apply sp_acall | apply sp_loop | apply sp_any | apply sp_frz | apply sp_len | apply sp_idx | apply sp_keep | apply sp_back
          | with_reducible refine frz0_i ?_
          | simp (maxSteps := 1000000) (disch := omega) only [lAL, lDF, tupA, eqA, isNil, slcNil, ptrCells, ptrAdd, cellsO, intA, boolA, readsV, readsP, isCall, wrote, srcOf, isNilSlice, Value.oneCell', seval, implies_true, forall_eq, ne_eq, wrap_i64, LenR_ok, List.length_map, IdxR_ints, ej, List.length_append])
        · rename_i h1 h2
          have hpj : p i j := (hp i j).1 h2
          refine back_i (j + 1) (by omega) (by omega) (Ent.to [2] false (by simp) (by simp) rfl (by simp only [lPA, lPD, novO, setAll, seval, implies_true, rowP_yes hpj, List.length_append, List.length_cons, List.length_nil, graphA, rowA] <;> simp <;> omega) ?_)
          simp only [lPA, lPD, novO, setAll, seval, implies_true, rowP_yes hpj, List.map_append, pa_pairs, List.append_assoc]
          simp [pairA, pa_agg, pa_int]
        · rename_i h1 h2
          have hpj : ¬ p i j := fun hp' => (hp i j).2 hp' h2
          exact back_i (j + 1) (by omega) (by omega) (Ent.to [0] false (by simp) (by simp) rfl (by simp only [lPA, lPD, novO, setAll, seval, implies_true, rowP_no hpj, pa_pairs, graphA, rowA] <;> (try simp) <;> (try omega)) (by simp only [lPA, lPD, novO, setAll, seval, implies_true, rowP_no hpj, pa_pairs, graphA, rowA] <;> (try simp) <;> (try omega)))
        · exfalso; omega
      · have : j = h.length := by omega
        subst this
        simp only [graphA, rowA]
        repeat' (first
          | (with_reducible first | apply cond_d | apply cond_nd | apply cond_i | apply guard_d | apply guard_nd | apply guard_df | apply guard_ndf | apply guard_i | apply ag_d | apply ag_nd | apply ag_df | apply ag_ndf | apply ag_i) <;> intro _
          | with_reducible first | refine LenR_i fun _ => ?_ | refine And.intro (by omega) ?_ | refine and_assoc.2 ?_ | apply sp_cond | apply sp_guard | apply sp_ag | apply sp_call | apply sp_acall | apply sp_loop | apply sp_any | apply sp_frz | apply sp_len | apply sp_idx | apply sp_keep | apply sp_back
          | with_reducible refine frz0_i ?_
          | simp (maxSteps := 1000000) (disch := omega) only [lAL, lDF, tupA, eqA, isNil, slcNil, ptrCells, ptrAdd, cellsO, intA, boolA, readsV, readsP, isCall, wrote, srcOf, isNilSlice, Value.oneCell', seval, implies_true, forall_eq, ne_eq, wrap_i64, LenR_ok, List.length_map, IdxR_ints])
        all_goals try (exfalso; omega)
        exact back_i (i + 1) (by omega) (by omega) (Ent.to [0] false (by simp) (by simp) rfl (by simp only [lPA, lPD, novO, setAll, seval, implies_true, pairsTo_succ, pa_pairs, graphA] <;> (try simp) <;> (try omega)) (by simp only [lPA, lPD, novO, setAll, seval, implies_true, pairsTo_succ, pa_pairs, graphA] <;> (try simp) <;> (try omega)))
    · exfalso; omega
  · have : i = h.length := by omega
    subst this
    simp only [graphA]
    repeat' (first
      | (with_reducible first | apply cond_d | apply cond_nd | apply cond_i | apply guard_d | apply guard_nd | apply guard_df | apply guard_ndf | apply guard_i | apply ag_d | apply ag_nd | apply ag_df | apply ag_ndf | apply ag_i) <;> intro _
      | with_reducible first | refine LenR_i fun _ => ?_ | refine And.intro (by omega) ?_ | refine and_assoc.2 ?_ | apply sp_cond | apply sp_guard | apply sp_ag | apply sp_call | apply sp_acall | apply sp_loop | apply sp_any | apply sp_frz | apply sp_len | apply sp_idx | apply sp_keep | apply sp_back
      | with_reducible refine frz0_i ?_
      | simp (maxSteps := 1000000) (disch := omega) only [lAL, lDF, tupA, eqA, isNil, slcNil, ptrCells, ptrAdd, cellsO, intA, boolA, readsV, readsP, isCall, wrote, srcOf, isNilSlice, Value.oneCell', seval, implies_true, forall_eq, ne_eq, wrap_i64, LenR_ok, List.length_map, IdxR_ints])
    · exfalso; omega
    · refine keep_i [] true (by simp) (by simp) rfl ?_
      simp only [lPA, lPD, novO, setAll, seval, implies_true, paR_lent, vw_pairs]

theorem checkS_len {h : List Acc} (hck : checkS h = 0) : h.length ≤ 100 := by
  have : ¬ Big h := fun hb => by simp [checkS, hb] at hck
  simp only [Big, not_or] at this; omega

/-- The pairs of a valid history. -/
noncomputable def pairsS (h : List Acc) (p : Nat → Nat → Prop) : List (Nat × Nat) := if checkS h = 0 then pairsTo p h.length h.length else []
def pairsA (l : List (Nat × Nat)) : AV := .view 2 (l.map pairA)

theorem c21 (h : List Acc) : ACalls E.P 21 [.view 6 (h.map accA)] [] (fun r H => r = pairsA (pairsS h (Anti h)) ∧ H = []) := by
  refine ok21.acalls hE hm (by simp) ?_
  unfold mc21
  have h50 := c50 h
  by_cases hck : checkS h = 0
  · have h51 := c51 h 2 (Anti h) (kind_anti h) (checkS_len hck)
    simp only [graphA, hck, if_true] at h50 h51
    repeat' (first
      | (with_reducible first | apply cond_d | apply cond_nd | apply cond_i | apply guard_d | apply guard_nd | apply guard_df | apply guard_ndf | apply guard_i | apply ag_d | apply ag_nd | apply ag_df | apply ag_ndf | apply ag_i) <;> intro _
      | with_reducible first | refine LenR_i fun _ => ?_ | refine And.intro (by omega) ?_ | refine and_assoc.2 ?_ | apply sp_cond | apply sp_guard | apply sp_ag | apply sp_call | apply sp_acall | apply sp_loop | apply sp_any | apply sp_frz | apply sp_len | apply sp_idx | apply sp_keep | apply sp_back
      | with_reducible refine frz0_i ?_
      | ((with_reducible first | refine callN_i [] false (by simp) (by simp) ?_ | refine acallN_i false ?_); simp only [lPA, lPD, novO, setAll, seval, implies_true]; (first | (refine ⟨_, h50, ?_⟩; rintro _ _ ⟨rfl, rfl⟩) | (refine ⟨_, h51, ?_⟩; rintro _ _ ⟨rfl, rfl⟩)); simp only [lAL, lDF, tupA, eqA, isNil, slcNil, ptrCells, ptrAdd, cellsO, intA, boolA, readsV, readsP, isCall, wrote, srcOf, isNilSlice, Value.oneCell', seval, implies_true, forall_eq, ne_eq, lPA, lPD, novO, setAll])
      | ((with_reducible refine keep0_i ?_); simp only [lPA, lPD, novO, setAll, seval, implies_true])
      | simp (maxSteps := 1000000) (disch := omega) only [lAL, lDF, tupA, eqA, isNil, slcNil, ptrCells, ptrAdd, cellsO, intA, boolA, readsV, readsP, isCall, wrote, srcOf, isNilSlice, Value.oneCell', seval, implies_true, forall_eq, ne_eq, wrap_i64, LenR_ok, List.length_map, IdxR_ints])
    simp [pairsA, pairsS, hck]
  · simp only [hck, if_false] at h50
    repeat' (first
      | (with_reducible first | apply cond_d | apply cond_nd | apply cond_i | apply guard_d | apply guard_nd | apply guard_df | apply guard_ndf | apply guard_i | apply ag_d | apply ag_nd | apply ag_df | apply ag_ndf | apply ag_i) <;> intro _
      | with_reducible first | refine LenR_i fun _ => ?_ | refine And.intro (by omega) ?_ | refine and_assoc.2 ?_ | apply sp_cond | apply sp_guard | apply sp_ag | apply sp_call | apply sp_acall | apply sp_loop | apply sp_any | apply sp_frz | apply sp_len | apply sp_idx | apply sp_keep | apply sp_back
      | with_reducible refine frz0_i ?_
      | ((with_reducible first | refine callN_i [] false (by simp) (by simp) ?_ | refine acallN_i false ?_); simp only [lPA, lPD, novO, setAll, seval, implies_true]; (first | (refine ⟨_, h50, ?_⟩; rintro _ _ ⟨rfl, rfl⟩) | (refine ⟨_, c51n _, ?_⟩; rintro _ _ ⟨rfl, rfl⟩)); simp only [lAL, lDF, tupA, eqA, isNil, slcNil, ptrCells, ptrAdd, cellsO, intA, boolA, readsV, readsP, isCall, wrote, srcOf, isNilSlice, Value.oneCell', seval, implies_true, forall_eq, ne_eq, lPA, lPD, novO, setAll])
      | ((with_reducible refine keep0_i ?_); simp only [lPA, lPD, novO, setAll, seval, implies_true])
      | simp (maxSteps := 1000000) (disch := omega) only [lAL, lDF, tupA, eqA, isNil, slcNil, ptrCells, ptrAdd, cellsO, intA, boolA, readsV, readsP, isCall, wrote, srcOf, isNilSlice, Value.oneCell', seval, implies_true, forall_eq, ne_eq, wrap_i64, LenR_ok, List.length_map, IdxR_ints])
    simp [pairsA, pairsS, hck]
theorem c23 (h : List Acc) : ACalls E.P 23 [.view 6 (h.map accA)] [] (fun r H => r = pairsA (pairsS h (Edge h)) ∧ H = []) := by
  refine ok23.acalls hE hm (by simp) ?_
  unfold mc23
  have h50 := c50 h
  by_cases hck : checkS h = 0
  · have h51 := c51 h 3 (Edge h) (kind_all h) (checkS_len hck)
    simp only [graphA, hck, if_true] at h50 h51
    repeat' (first
      | (with_reducible first | apply cond_d | apply cond_nd | apply cond_i | apply guard_d | apply guard_nd | apply guard_df | apply guard_ndf | apply guard_i | apply ag_d | apply ag_nd | apply ag_df | apply ag_ndf | apply ag_i) <;> intro _
      | with_reducible first | refine LenR_i fun _ => ?_ | refine And.intro (by omega) ?_ | refine and_assoc.2 ?_ | apply sp_cond | apply sp_guard | apply sp_ag | apply sp_call | apply sp_acall | apply sp_loop | apply sp_any | apply sp_frz | apply sp_len | apply sp_idx | apply sp_keep | apply sp_back
      | with_reducible refine frz0_i ?_
      | ((with_reducible first | refine callN_i [] false (by simp) (by simp) ?_ | refine acallN_i false ?_); simp only [lPA, lPD, novO, setAll, seval, implies_true]; (first | (refine ⟨_, h50, ?_⟩; rintro _ _ ⟨rfl, rfl⟩) | (refine ⟨_, h51, ?_⟩; rintro _ _ ⟨rfl, rfl⟩)); simp only [lAL, lDF, tupA, eqA, isNil, slcNil, ptrCells, ptrAdd, cellsO, intA, boolA, readsV, readsP, isCall, wrote, srcOf, isNilSlice, Value.oneCell', seval, implies_true, forall_eq, ne_eq, lPA, lPD, novO, setAll])
      | ((with_reducible refine keep0_i ?_); simp only [lPA, lPD, novO, setAll, seval, implies_true])
      | simp (maxSteps := 1000000) (disch := omega) only [lAL, lDF, tupA, eqA, isNil, slcNil, ptrCells, ptrAdd, cellsO, intA, boolA, readsV, readsP, isCall, wrote, srcOf, isNilSlice, Value.oneCell', seval, implies_true, forall_eq, ne_eq, wrap_i64, LenR_ok, List.length_map, IdxR_ints])
    simp [pairsA, pairsS, hck]
  · simp only [hck, if_false] at h50
    repeat' (first
      | (with_reducible first | apply cond_d | apply cond_nd | apply cond_i | apply guard_d | apply guard_nd | apply guard_df | apply guard_ndf | apply guard_i | apply ag_d | apply ag_nd | apply ag_df | apply ag_ndf | apply ag_i) <;> intro _
      | with_reducible first | refine LenR_i fun _ => ?_ | refine And.intro (by omega) ?_ | refine and_assoc.2 ?_ | apply sp_cond | apply sp_guard | apply sp_ag | apply sp_call | apply sp_acall | apply sp_loop | apply sp_any | apply sp_frz | apply sp_len | apply sp_idx | apply sp_keep | apply sp_back
      | with_reducible refine frz0_i ?_
      | ((with_reducible first | refine callN_i [] false (by simp) (by simp) ?_ | refine acallN_i false ?_); simp only [lPA, lPD, novO, setAll, seval, implies_true]; (first | (refine ⟨_, h50, ?_⟩; rintro _ _ ⟨rfl, rfl⟩) | (refine ⟨_, c51n _, ?_⟩; rintro _ _ ⟨rfl, rfl⟩)); simp only [lAL, lDF, tupA, eqA, isNil, slcNil, ptrCells, ptrAdd, cellsO, intA, boolA, readsV, readsP, isCall, wrote, srcOf, isNilSlice, Value.oneCell', seval, implies_true, forall_eq, ne_eq, lPA, lPD, novO, setAll])
      | ((with_reducible refine keep0_i ?_); simp only [lPA, lPD, novO, setAll, seval, implies_true])
      | simp (maxSteps := 1000000) (disch := omega) only [lAL, lDF, tupA, eqA, isNil, slcNil, ptrCells, ptrAdd, cellsO, intA, boolA, readsV, readsP, isCall, wrote, srcOf, isNilSlice, Value.oneCell', seval, implies_true, forall_eq, ne_eq, wrap_i64, LenR_ok, List.length_map, IdxR_ints])
    simp [pairsA, pairsS, hck]
end Go.Proofs.Try
