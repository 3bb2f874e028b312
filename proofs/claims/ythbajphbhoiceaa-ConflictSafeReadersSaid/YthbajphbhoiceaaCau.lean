/-
  A part of the proof: see the text of the law.
-/
import Derived.Test.YthbajphbhoiceaaCat
set_option linter.unusedSimpArgs false
set_option linter.unusedVariables false
namespace Go.Proofs.Try
open Go.Al
set_option linter.unusedVariables false
set_option linter.unusedSimpArgs false
open Classical

set_option maxHeartbeats 8000000
theorem c30 (h : List Acc) : ACalls E.P 30 [.view 6 (h.map accA)] [] (fun r H => (∃ c, CycF h c ∧ r = intsA (natL c)) ∧ H = []) := by
  have hmax := maxLen_eq
  refine ok30.acalls hE hm (by simp) ?_
  unfold mc30
  have h50 := c50 h
  by_cases hck : checkS h = 0
  case neg =>
    simp only [hck, if_false] at h50
    repeat' (first
      | (with_reducible first | apply cond_d | apply cond_nd | apply cond_i | apply guard_d | apply guard_nd | apply guard_df | apply guard_ndf | apply guard_i | apply ag_d | apply ag_nd | apply ag_df | apply ag_ndf | apply ag_i) <;> intro _
      | with_reducible first | refine LenR_i fun _ => ?_ | refine And.intro (by omega) ?_ | refine and_assoc.2 ?_ | apply sp_cond | apply sp_guard | apply sp_ag | apply sp_call | apply sp_acall | apply sp_loop | apply sp_any | apply sp_frz | apply sp_len | apply sp_idx | apply sp_keep | apply sp_back
      | with_reducible refine frz0_i ?_
      | ((with_reducible first | refine callN_i [] false (by simp) (by simp) ?_ | refine acallN_i false ?_); simp only [lPA, lPD, novO, setAll, seval, implies_true]; (refine ⟨_, h50, ?_⟩; rintro _ _ ⟨rfl, rfl⟩); simp only [lAL, lDF, tupA, eqA, isNil, slcNil, ptrCells, ptrAdd, cellsO, intA, boolA, readsV, readsP, isCall, wrote, srcOf, isNilSlice, Value.oneCell', seval, implies_true, forall_eq, ne_eq, lPA, lPD, novO, setAll])
      | simp (maxSteps := 1000000) (disch := omega) only [lAL, lDF, tupA, eqA, isNil, slcNil, ptrCells, ptrAdd, cellsO, intA, boolA, readsV, readsP, isCall, wrote, srcOf, isNilSlice, Value.oneCell', seval, implies_true, forall_eq, ne_eq, wrap_i64, LenR_ok, List.length_map, IdxR_ints])
    exact keepn_i 1 ⟨⟨[], by simp [CycF, hck], rfl⟩, rfl⟩
  have hn := checkS_len hck
  simp only [graphA, hck, if_true] at h50
  repeat' (first
    | (with_reducible first | apply cond_d | apply cond_nd | apply cond_i | apply guard_d | apply guard_nd | apply guard_df | apply guard_ndf | apply guard_i | apply ag_d | apply ag_nd | apply ag_df | apply ag_ndf | apply ag_i) <;> intro _
    | with_reducible first | refine LenR_i fun _ => ?_ | refine And.intro (by omega) ?_ | refine and_assoc.2 ?_ | apply sp_cond | apply sp_guard | apply sp_ag | apply sp_call | apply sp_acall | apply sp_loop | apply sp_any | apply sp_frz | apply sp_len | apply sp_idx | apply sp_keep | apply sp_back
    | with_reducible refine frz0_i ?_
    | ((with_reducible first | refine callN_i [] false (by simp) (by simp) ?_ | refine acallN_i false ?_); simp only [lPA, lPD, novO, setAll, seval, implies_true]; (refine ⟨_, h50, ?_⟩; rintro _ _ ⟨rfl, rfl⟩); simp only [lAL, lDF, tupA, eqA, isNil, slcNil, ptrCells, ptrAdd, cellsO, intA, boolA, readsV, readsP, isCall, wrote, srcOf, isNilSlice, Value.oneCell', seval, implies_true, forall_eq, ne_eq, lPA, lPD, novO, setAll])
    | simp (maxSteps := 1000000) (disch := omega) only [lAL, lDF, tupA, eqA, isNil, slcNil, ptrCells, ptrAdd, cellsO, intA, boolA, readsV, readsP, isCall, wrote, srcOf, isNilSlice, Value.oneCell', seval, implies_true, forall_eq, ne_eq, wrap_i64, LenR_ok, List.length_map, IdxR_ints])
  refine loop_i (X := Nat × Option (Nat × Nat)) (fun x => x.1 ≤ h.length ∧ Best h x.1 x.2)
    (fun x => ⟨[(0, .view 6 (h.map accA)), (3, graphA h), (4, .slc 0 1 (bO x.2).length), (5, .view 1 ((natL (bL h x.2)).map (AV.int .i64))), (6, .int .i64 (bS x.2 : Nat)), (17, .int .i64 h.length), (18, .int .i64 x.1)], [.arr 3 1 ((natL (bO x.2)).map (AV.int .i64))]⟩) (fun x => h.length - x.1) (0, none) ⟨by simp, fun s hs => by omega⟩
    (Ent.ghost' 4 3 1 (by omega) rfl (Ent.nilv 5 1 rfl (Ent.to [0] false (by simp) (by simp) rfl (by simp only [lPA, lPD, novO, setAll, seval, implies_true, bS, bO, bL, natL, graphA] <;> (try simp) <;> (try omega)) (by simp only [lPA, lPD, novO, setAll, seval, implies_true, bS, bO, bL, natL, graphA] <;> (try simp) <;> (try omega))))) ?_
  rintro ⟨i, t⟩ ⟨hi, hb⟩
  simp only at hi hb
  by_cases hin : i < h.length
  · have k1 := c60 h i hin hn
    have e1 : ∀ {m N d c}, IdxR E.P m N ((natL (distL h i)).map (AV.int .i64)) (i : Int) d c = rK E.P m N c d (.vp [.int .i64 (dist h i i : Nat)]) := by
      intro m N d c
      rw [IdxR_nats (by rw [distL_length]; exact hin), distL_get hin]
    simp only [intsA, graphA] at k1 ⊢
    repeat' (first
      | (with_reducible first | apply cond_d | apply cond_nd | apply cond_i | apply guard_d | apply guard_nd | apply guard_df | apply guard_ndf | apply guard_i | apply ag_d | apply ag_nd | apply ag_df | apply ag_ndf | apply ag_i) <;> intro _
      | with_reducible first | refine LenR_i fun _ => ?_ | refine And.intro (by omega) ?_ | refine and_assoc.2 ?_ | apply sp_cond | apply sp_guard | apply sp_ag | apply sp_call | apply sp_acall | apply sp_loop | apply sp_any | apply sp_frz | apply sp_len | apply sp_idx | apply sp_keep | apply sp_back
      | with_reducible refine frz0_i ?_
      | ((with_reducible first | refine callN_i [] false (by simp) (by simp) ?_ | refine acallN_i false ?_); simp only [lPA, lPD, novO, setAll, seval, implies_true, e1]; (refine ⟨_, k1, ?_⟩; rintro _ _ ⟨rfl, rfl⟩); simp only [lAL, lDF, tupA, eqA, isNil, slcNil, ptrCells, ptrAdd, cellsO, intA, boolA, readsV, readsP, isCall, wrote, srcOf, isNilSlice, Value.oneCell', seval, implies_true, forall_eq, ne_eq, lPA, lPD, novO, setAll, e1])
      | simp (maxSteps := 1000000) (disch := omega) only [lAL, lDF, tupA, eqA, isNil, slcNil, ptrCells, ptrAdd, cellsO, intA, boolA, readsV, readsP, isCall, wrote, srcOf, isNilSlice, Value.oneCell', seval, implies_true, forall_eq, ne_eq, wrap_i64, LenR_ok, List.length_map, IdxR_ints, e1])
    all_goals try (exfalso; omega)
    all_goals clear k1 e1
    all_goals try
      first
      | exact back_i (i + 1, t) ⟨by simp only; omega, hb.next0 (by omega)⟩ (by simp only; omega) (Ent.to [0] false (by simp) (by simp) rfl (by simp only [lPA, lPD, novO, setAll, seval, implies_true, graphA, pa_natL] <;> (try simp) <;> (try omega)) (by simp only [lPA, lPD, novO, setAll, seval, implies_true, graphA, pa_natL] <;> (try simp) <;> (try omega)))
      | exact back_i (i + 1, some (i, dist h i i)) ⟨by simp only; omega, hb.next1 (by omega) (by omega)⟩ (by simp only; omega) (Ent.to [1] false (by simp) (by simp) rfl (by simp only [lPA, lPD, novO, setAll, seval, implies_true, graphA, pa_natL, bS, bO, bL, natL] <;> (try simp) <;> (try omega)) (by simp only [lPA, lPD, novO, setAll, seval, implies_true, graphA, pa_natL, bS, bO, bL, natL] <;> (try simp) <;> (try omega)))
    all_goals
      have hd2 : dist h i i = 2 := by omega
      replace hb := hb.two hin hd2 (by omega)
      rw [hd2]
      generalize ht : some (i, 2) = t at hb

      refine loop_i (X := List Nat) (fun c => (t = none ∧ c = []) ∨ ∃ s n, t = some (s, n) ∧ CycL h s n c)
        (fun c => ⟨[(0, .view 6 (h.map accA)), (3, graphA h), (4, .slc 0 1 c.length), (5, .view 1 ((natL (bL h t)).map (AV.int .i64))), (6, .int .i64 (bS t : Nat))], [.arr 3 1 ((natL c).map (AV.int .i64))]⟩) (fun c => bS t - c.length) (bO t) ?_ (Ent.to [1] false (by simp) (by simp) rfl (by simp only [lPA, lPD, novO, setAll, seval, implies_true, pa_natL, ← ht, bS, bO, bL, natL, graphA] <;> (try simp) <;> (try omega)) (by simp only [lPA, lPD, novO, setAll, seval, implies_true, pa_natL, ← ht, bS, bO, bL, natL, graphA] <;> (try simp) <;> (try omega))) ?_
      · rcases t with _ | ⟨s, n⟩
        · exact .inl ⟨rfl, rfl⟩
        · exact .inr ⟨s, n, rfl, CycL.one (Nat.pos_of_ne_zero hb.2.2.1)⟩
      rintro c (⟨rfl, rfl⟩ | ⟨s, n, rfl, hc⟩)
      · simp only [bS, bL, graphA]
        repeat' (first
          | (with_reducible first | apply cond_d | apply cond_nd | apply cond_i | apply guard_d | apply guard_nd | apply guard_df | apply guard_ndf | apply guard_i | apply ag_d | apply ag_nd | apply ag_df | apply ag_ndf | apply ag_i) <;> intro _
          | with_reducible first | refine LenR_i fun _ => ?_ | refine And.intro (by omega) ?_ | refine and_assoc.2 ?_ | apply sp_cond | apply sp_guard | apply sp_ag | apply sp_call | apply sp_acall | apply sp_loop | apply sp_any | apply sp_frz | apply sp_len | apply sp_idx | apply sp_keep | apply sp_back
          | with_reducible refine frz0_i ?_
          | simp (maxSteps := 1000000) (disch := omega) only [lAL, lDF, tupA, eqA, isNil, slcNil, ptrCells, ptrAdd, cellsO, intA, boolA, readsV, readsP, isCall, wrote, srcOf, isNilSlice, Value.oneCell', seval, implies_true, forall_eq, ne_eq, wrap_i64, LenR_ok, List.length_map, IdxR_ints])
        all_goals try (exfalso; simp at *; done)
        all_goals
          refine keep_i [] true (by simp) (by simp) rfl ?_
          simp only [lPA, lPD, novO, setAll, seval, implies_true, paR_lent]
          refine ⟨[], ?_, rfl⟩
          simp only [CycF, hck, if_true]
          exact .inl ⟨rfl, hb⟩
      · have hs : s < h.length := hb.1
        have hnb := dist_bound (h := h) (s := s) (i := s)
        rw [hb.2.1] at hnb
        have hc1 := hc.1
        have hc2 := hc.2.1
        have hc3 := hc.2.2.1
        simp only [bS, bL, graphA]
        by_cases hlt : c.length < n
        · have ep : ∀ {m N d k}, epR E.P m N (some (.arr 3 1 ((natL c).map (AV.int .i64)))) ((c.length : Int) - 1) c.length 0 1 d k = rK E.P m N k d (.ep 0 1 (c.length - 1) 0) := by
            intro m N d k
            rw [epR_ne (by simp [natL]) (by omega) (by omega)]
            rw [show ((c.length : Int) - 1).toNat = c.length - 1 by omega]
          have ep0 : ∀ {m N d k}, epR E.P m N (some (.arr 3 1 ((natL c).map (AV.int .i64)))) 0 c.length 0 1 d k = rK E.P m N k d (.ep 0 1 0 0) := by
            intro m N d k
            rw [epR_ne (by simp [natL]) (by omega) (by omega)]
            rfl
          have gl := nats_get (es := c) (j := c.length - 1) (by omega)
          have g0 := nats_get (es := c) (j := 0) (by omega)
          rw [hc3] at g0
          have hr := hc.range hs (c.length - 1) (by omega)
          repeat' (first
            | (with_reducible first | apply cond_d | apply cond_nd | apply cond_i | apply guard_d | apply guard_nd | apply guard_df | apply guard_ndf | apply guard_i | apply ag_d | apply ag_nd | apply ag_df | apply ag_ndf | apply ag_i) <;> intro _
            | with_reducible first | refine LenR_i fun _ => ?_ | refine And.intro (by omega) ?_ | refine and_assoc.2 ?_ | apply sp_cond | apply sp_guard | apply sp_ag | apply sp_call | apply sp_acall | apply sp_loop | apply sp_any | apply sp_frz | apply sp_len | apply sp_idx | apply sp_keep | apply sp_back
            | with_reducible refine frz0_i ?_
            | simp (maxSteps := 1000000) (disch := omega) only [lAL, lDF, tupA, eqA, isNil, slcNil, ptrCells, ptrAdd, cellsO, intA, boolA, readsV, readsP, isCall, wrote, srcOf, isNilSlice, Value.oneCell', seval, implies_true, forall_eq, ne_eq, wrap_i64, LenR_ok, List.length_map, IdxR_ints, ep, ep0, gl, g0, natL_length])
          all_goals try (exfalso; omega)
          refine loop_i (X := Nat) (fun j => s < j ∧ j ≤ h.length ∧ ∀ j', s < j' → j' < j → ¬ (Edge h (c.getD (c.length - 1) 0) j' ∧ dist h s j' = n - c.length))
            (fun j => ⟨[(0, .view 6 (h.map accA)), (3, graphA h), (4, .slc 0 1 c.length), (5, .view 1 ((natL (distL h s)).map (AV.int .i64))), (6, .int .i64 n), (10, .int .i64 (c.getD (c.length - 1) 0 : Nat)), (11, .int .i64 j)], [.arr 3 1 ((natL c).map (AV.int .i64))]⟩) (fun j => h.length - j) (s + 1) ⟨by omega, by omega, by omega⟩ (Ent.to [0] false (by simp) (by simp) rfl (by simp only [lPA, lPD, novO, setAll, seval, implies_true, pa_natL, graphA] <;> (try simp) <;> (try omega)) (by simp only [lPA, lPD, novO, setAll, seval, implies_true, pa_natL, graphA] <;> (try simp) <;> (try omega))) ?_
          rintro j ⟨hsj, hj, hno⟩
          by_cases hjn : j < h.length
          · have er : ∀ {m N d k}, IdxR E.P m N ((List.range h.length).map (rowA h)) ((c.getD (c.length - 1) 0 : Nat) : Int) d k = rK E.P m N k d (.vp [rowA h (c.getD (c.length - 1) 0)]) := IdxR_rows hr.2
            have eg : ∀ {m N d k}, IdxR E.P m N ((erow h (c.getD (c.length - 1) 0)).map (AV.int .i64)) (j : Int) d k = rK E.P m N k d (.vp [.int .i64 (ebit h (c.getD (c.length - 1) 0) j)]) := IdxR_erow hjn
            have e1 : ∀ {m N d k}, IdxR E.P m N ((natL (distL h s)).map (AV.int .i64)) (j : Int) d k = rK E.P m N k d (.vp [.int .i64 (dist h s j : Nat)]) := by
              intro m N d k
              rw [IdxR_nats (by rw [distL_length]; exact hjn), distL_get hjn]
            simp only [graphA]
            repeat' (first
              | (with_reducible first | apply cond_d | apply cond_nd | apply cond_i | apply guard_d | apply guard_nd | apply guard_df | apply guard_ndf | apply guard_i | apply ag_d | apply ag_nd | apply ag_df | apply ag_ndf | apply ag_i) <;> intro _
              | with_reducible first | refine LenR_i fun _ => ?_ | refine And.intro (by omega) ?_ | refine and_assoc.2 ?_ | apply sp_cond | apply sp_guard | apply sp_ag | apply sp_call | apply sp_acall | apply sp_loop | apply sp_any | apply sp_frz | apply sp_len | apply sp_idx | apply sp_keep | apply sp_back
              | with_reducible refine frz0_i ?_
              | simp (maxSteps := 1000000) (disch := omega) only [lAL, lDF, tupA, eqA, isNil, slcNil, ptrCells, ptrAdd, cellsO, intA, boolA, readsV, readsP, isCall, wrote, srcOf, isNilSlice, Value.oneCell', seval, implies_true, forall_eq, ne_eq, wrap_i64, LenR_ok, List.length_map, IdxR_ints, er, eg, e1, rowA, ebit_ne, natL_length])
            all_goals try (exfalso; omega)
            · rename_i h1 h2 h3
              simp only [Decidable.not_not] at h2
              have hnx : NextC h s (c.getD (c.length - 1) 0) (n - c.length) j := ⟨hsj, hjn, h2, by omega, hno⟩
              refine back_i (c ++ [j]) (.inr ⟨s, n, rfl, hc.snoc hlt hnx⟩) (by simp [bS]; omega) (Ent.to [2] false (by simp) (by simp) rfl (by simp only [lPA, lPD, novO, setAll, seval, implies_true, bS, bL] <;> simp [graphA]) ?_)
              simp only [lPA, lPD, novO, setAll, seval, implies_true, List.map_append, pa_natL, natL]
            · rename_i h1 h2 h3
              refine back_i (j + 1) ⟨by omega, by omega, fun j' h4 h5 => ?_⟩ (by omega) (Ent.to [0] false (by simp) (by simp) rfl (by simp only [lPA, lPD, novO, setAll, seval, implies_true, pa_natL, graphA] <;> (try simp) <;> (try omega)) (by simp only [lPA, lPD, novO, setAll, seval, implies_true, pa_natL, graphA] <;> (try simp) <;> (try omega)))
              by_cases e : j' < j
              · exact hno j' h4 e
              · have : j' = j := by omega
                subst this
                exact fun hh => h3 (by omega)
            · rename_i h1 h2
              refine back_i (j + 1) ⟨by omega, by omega, fun j' h4 h5 => ?_⟩ (by omega) (Ent.to [0] false (by simp) (by simp) rfl (by simp only [lPA, lPD, novO, setAll, seval, implies_true, pa_natL, graphA] <;> (try simp) <;> (try omega)) (by simp only [lPA, lPD, novO, setAll, seval, implies_true, pa_natL, graphA] <;> (try simp) <;> (try omega)))
              by_cases e : j' < j
              · exact hno j' h4 e
              · have : j' = j := by omega
                subst this
                exact fun hh => h2 hh.1
          · exfalso
            obtain ⟨j', j1, j2, j3, j4⟩ := hc.more hb.2.1 hlt
            exact hno j' j1 (by omega) ⟨j3, j4⟩
        · repeat' (first
            | (with_reducible first | apply cond_d | apply cond_nd | apply cond_i | apply guard_d | apply guard_nd | apply guard_df | apply guard_ndf | apply guard_i | apply ag_d | apply ag_nd | apply ag_df | apply ag_ndf | apply ag_i) <;> intro _
            | with_reducible first | refine LenR_i fun _ => ?_ | refine And.intro (by omega) ?_ | refine and_assoc.2 ?_ | apply sp_cond | apply sp_guard | apply sp_ag | apply sp_call | apply sp_acall | apply sp_loop | apply sp_any | apply sp_frz | apply sp_len | apply sp_idx | apply sp_keep | apply sp_back
            | with_reducible refine frz0_i ?_
            | simp (maxSteps := 1000000) (disch := omega) only [lAL, lDF, tupA, eqA, isNil, slcNil, ptrCells, ptrAdd, cellsO, intA, boolA, readsV, readsP, isCall, wrote, srcOf, isNilSlice, Value.oneCell', seval, implies_true, forall_eq, ne_eq, wrap_i64, LenR_ok, List.length_map, IdxR_ints])
          all_goals try (exfalso; omega)
          have hv2 : ∀ {H l n}, vwS none (some (.arr 3 1 ((natL c).map (AV.int .i64)))) H l n 1 c.length = .view 1 ((natL c).map (AV.int .i64)) := by
            intro H l n
            rw [vwS_arr (by simp [natL]), vw_ints]
          refine keep_i [] true (by simp) (by simp) rfl ?_
          simp only [lPA, lPD, novO, setAll, seval, implies_true, paR_lent, hv2]
          refine ⟨c, ?_, rfl⟩
          simp only [CycF, hck, if_true]
          exact .inr ⟨s, n, hb, hc, by omega⟩
  · have : i = h.length := by omega
    subst this
    simp only [graphA]
    repeat' (first
      | (with_reducible first | apply cond_d | apply cond_nd | apply cond_i | apply guard_d | apply guard_nd | apply guard_df | apply guard_ndf | apply guard_i | apply ag_d | apply ag_nd | apply ag_df | apply ag_ndf | apply ag_i) <;> intro _
      | with_reducible first | refine LenR_i fun _ => ?_ | refine And.intro (by omega) ?_ | refine and_assoc.2 ?_ | apply sp_cond | apply sp_guard | apply sp_ag | apply sp_call | apply sp_acall | apply sp_loop | apply sp_any | apply sp_frz | apply sp_len | apply sp_idx | apply sp_keep | apply sp_back
      | with_reducible refine frz0_i ?_
      | simp (maxSteps := 1000000) (disch := omega) only [lAL, lDF, tupA, eqA, isNil, slcNil, ptrCells, ptrAdd, cellsO, intA, boolA, readsV, readsP, isCall, wrote, srcOf, isNilSlice, Value.oneCell', seval, implies_true, forall_eq, ne_eq, wrap_i64, LenR_ok, List.length_map, IdxR_ints])
    all_goals try (exfalso; omega)

    refine loop_i (X := List Nat) (fun c => (t = none ∧ c = []) ∨ ∃ s n, t = some (s, n) ∧ CycL h s n c)
      (fun c => ⟨[(0, .view 6 (h.map accA)), (3, graphA h), (4, .slc 0 1 c.length), (5, .view 1 ((natL (bL h t)).map (AV.int .i64))), (6, .int .i64 (bS t : Nat))], [.arr 3 1 ((natL c).map (AV.int .i64))]⟩) (fun c => bS t - c.length) (bO t) ?_ (Ent.to [0] false (by simp) (by simp) rfl (by simp only [lPA, lPD, novO, setAll, seval, implies_true, pa_natL, natL, graphA] <;> (try simp) <;> (try omega)) (by simp only [lPA, lPD, novO, setAll, seval, implies_true, pa_natL, natL, graphA] <;> (try simp) <;> (try omega))) ?_
    · rcases t with _ | ⟨s, n⟩
      · exact .inl ⟨rfl, rfl⟩
      · exact .inr ⟨s, n, rfl, CycL.one (Nat.pos_of_ne_zero hb.2.2.1)⟩
    rintro c (⟨rfl, rfl⟩ | ⟨s, n, rfl, hc⟩)
    · simp only [bS, bL, graphA]
      repeat' (first
        | (with_reducible first | apply cond_d | apply cond_nd | apply cond_i | apply guard_d | apply guard_nd | apply guard_df | apply guard_ndf | apply guard_i | apply ag_d | apply ag_nd | apply ag_df | apply ag_ndf | apply ag_i) <;> intro _
        | with_reducible first | refine LenR_i fun _ => ?_ | refine And.intro (by omega) ?_ | refine and_assoc.2 ?_ | apply sp_cond | apply sp_guard | apply sp_ag | apply sp_call | apply sp_acall | apply sp_loop | apply sp_any | apply sp_frz | apply sp_len | apply sp_idx | apply sp_keep | apply sp_back
        | with_reducible refine frz0_i ?_
        | simp (maxSteps := 1000000) (disch := omega) only [lAL, lDF, tupA, eqA, isNil, slcNil, ptrCells, ptrAdd, cellsO, intA, boolA, readsV, readsP, isCall, wrote, srcOf, isNilSlice, Value.oneCell', seval, implies_true, forall_eq, ne_eq, wrap_i64, LenR_ok, List.length_map, IdxR_ints])
      all_goals try (exfalso; simp at *; done)
      all_goals
        refine keep_i [] true (by simp) (by simp) rfl ?_
        simp only [lPA, lPD, novO, setAll, seval, implies_true, paR_lent]
        refine ⟨[], ?_, rfl⟩
        simp only [CycF, hck, if_true]
        exact .inl ⟨rfl, hb⟩
    · have hs : s < h.length := hb.1
      have hnb := dist_bound (h := h) (s := s) (i := s)
      rw [hb.2.1] at hnb
      have hc1 := hc.1
      have hc2 := hc.2.1
      have hc3 := hc.2.2.1
      simp only [bS, bL, graphA]
      by_cases hlt : c.length < n
      · have ep : ∀ {m N d k}, epR E.P m N (some (.arr 3 1 ((natL c).map (AV.int .i64)))) ((c.length : Int) - 1) c.length 0 1 d k = rK E.P m N k d (.ep 0 1 (c.length - 1) 0) := by
          intro m N d k
          rw [epR_ne (by simp [natL]) (by omega) (by omega)]
          rw [show ((c.length : Int) - 1).toNat = c.length - 1 by omega]
        have ep0 : ∀ {m N d k}, epR E.P m N (some (.arr 3 1 ((natL c).map (AV.int .i64)))) 0 c.length 0 1 d k = rK E.P m N k d (.ep 0 1 0 0) := by
          intro m N d k
          rw [epR_ne (by simp [natL]) (by omega) (by omega)]
          rfl
        have gl := nats_get (es := c) (j := c.length - 1) (by omega)
        have g0 := nats_get (es := c) (j := 0) (by omega)
        rw [hc3] at g0
        have hr := hc.range hs (c.length - 1) (by omega)
        repeat' (first
          | (with_reducible first | apply cond_d | apply cond_nd | apply cond_i | apply guard_d | apply guard_nd | apply guard_df | apply guard_ndf | apply guard_i | apply ag_d | apply ag_nd | apply ag_df | apply ag_ndf | apply ag_i) <;> intro _
          | with_reducible first | refine LenR_i fun _ => ?_ | refine And.intro (by omega) ?_ | refine and_assoc.2 ?_ | apply sp_cond | apply sp_guard | apply sp_ag | apply sp_call | apply sp_acall | apply sp_loop | apply sp_any | apply sp_frz | apply sp_len | apply sp_idx | apply sp_keep | apply sp_back
          | with_reducible refine frz0_i ?_
          | simp (maxSteps := 1000000) (disch := omega) only [lAL, lDF, tupA, eqA, isNil, slcNil, ptrCells, ptrAdd, cellsO, intA, boolA, readsV, readsP, isCall, wrote, srcOf, isNilSlice, Value.oneCell', seval, implies_true, forall_eq, ne_eq, wrap_i64, LenR_ok, List.length_map, IdxR_ints, ep, ep0, gl, g0, natL_length])
        all_goals try (exfalso; omega)
        refine loop_i (X := Nat) (fun j => s < j ∧ j ≤ h.length ∧ ∀ j', s < j' → j' < j → ¬ (Edge h (c.getD (c.length - 1) 0) j' ∧ dist h s j' = n - c.length))
          (fun j => ⟨[(0, .view 6 (h.map accA)), (3, graphA h), (4, .slc 0 1 c.length), (5, .view 1 ((natL (distL h s)).map (AV.int .i64))), (6, .int .i64 n), (10, .int .i64 (c.getD (c.length - 1) 0 : Nat)), (11, .int .i64 j)], [.arr 3 1 ((natL c).map (AV.int .i64))]⟩) (fun j => h.length - j) (s + 1) ⟨by omega, by omega, by omega⟩ (Ent.to [0] false (by simp) (by simp) rfl (by simp only [lPA, lPD, novO, setAll, seval, implies_true, pa_natL, graphA] <;> (try simp) <;> (try omega)) (by simp only [lPA, lPD, novO, setAll, seval, implies_true, pa_natL, graphA] <;> (try simp) <;> (try omega))) ?_
        rintro j ⟨hsj, hj, hno⟩
        by_cases hjn : j < h.length
        · have er : ∀ {m N d k}, IdxR E.P m N ((List.range h.length).map (rowA h)) ((c.getD (c.length - 1) 0 : Nat) : Int) d k = rK E.P m N k d (.vp [rowA h (c.getD (c.length - 1) 0)]) := IdxR_rows hr.2
          have eg : ∀ {m N d k}, IdxR E.P m N ((erow h (c.getD (c.length - 1) 0)).map (AV.int .i64)) (j : Int) d k = rK E.P m N k d (.vp [.int .i64 (ebit h (c.getD (c.length - 1) 0) j)]) := IdxR_erow hjn
          have e1 : ∀ {m N d k}, IdxR E.P m N ((natL (distL h s)).map (AV.int .i64)) (j : Int) d k = rK E.P m N k d (.vp [.int .i64 (dist h s j : Nat)]) := by
            intro m N d k
            rw [IdxR_nats (by rw [distL_length]; exact hjn), distL_get hjn]
          simp only [graphA]
          repeat' (first
            | (with_reducible first | apply cond_d | apply cond_nd | apply cond_i | apply guard_d | apply guard_nd | apply guard_df | apply guard_ndf | apply guard_i | apply ag_d | apply ag_nd | apply ag_df | apply ag_ndf | apply ag_i) <;> intro _
            | with_reducible first | refine LenR_i fun _ => ?_ | refine And.intro (by omega) ?_ | refine and_assoc.2 ?_ | apply sp_cond | apply sp_guard | apply sp_ag | apply sp_call | apply sp_acall | apply sp_loop | apply sp_any | apply sp_frz | apply sp_len | apply sp_idx | apply sp_keep | apply sp_back
            | with_reducible refine frz0_i ?_
            | simp (maxSteps := 1000000) (disch := omega) only [lAL, lDF, tupA, eqA, isNil, slcNil, ptrCells, ptrAdd, cellsO, intA, boolA, readsV, readsP, isCall, wrote, srcOf, isNilSlice, Value.oneCell', seval, implies_true, forall_eq, ne_eq, wrap_i64, LenR_ok, List.length_map, IdxR_ints, er, eg, e1, rowA, ebit_ne, natL_length])
          all_goals try (exfalso; omega)
          · rename_i h1 h2 h3
            simp only [Decidable.not_not] at h2
            have hnx : NextC h s (c.getD (c.length - 1) 0) (n - c.length) j := ⟨hsj, hjn, h2, by omega, hno⟩
            refine back_i (c ++ [j]) (.inr ⟨s, n, rfl, hc.snoc hlt hnx⟩) (by simp [bS]; omega) (Ent.to [2] false (by simp) (by simp) rfl (by simp only [lPA, lPD, novO, setAll, seval, implies_true, bS, bL] <;> simp [graphA]) ?_)
            simp only [lPA, lPD, novO, setAll, seval, implies_true, List.map_append, pa_natL, natL]
          · rename_i h1 h2 h3
            refine back_i (j + 1) ⟨by omega, by omega, fun j' h4 h5 => ?_⟩ (by omega) (Ent.to [0] false (by simp) (by simp) rfl (by simp only [lPA, lPD, novO, setAll, seval, implies_true, pa_natL, graphA] <;> (try simp) <;> (try omega)) (by simp only [lPA, lPD, novO, setAll, seval, implies_true, pa_natL, graphA] <;> (try simp) <;> (try omega)))
            by_cases e : j' < j
            · exact hno j' h4 e
            · have : j' = j := by omega
              subst this
              exact fun hh => h3 (by omega)
          · rename_i h1 h2
            refine back_i (j + 1) ⟨by omega, by omega, fun j' h4 h5 => ?_⟩ (by omega) (Ent.to [0] false (by simp) (by simp) rfl (by simp only [lPA, lPD, novO, setAll, seval, implies_true, pa_natL, graphA] <;> (try simp) <;> (try omega)) (by simp only [lPA, lPD, novO, setAll, seval, implies_true, pa_natL, graphA] <;> (try simp) <;> (try omega)))
            by_cases e : j' < j
            · exact hno j' h4 e
            · have : j' = j := by omega
              subst this
              exact fun hh => h2 hh.1
        · exfalso
          obtain ⟨j', j1, j2, j3, j4⟩ := hc.more hb.2.1 hlt
          exact hno j' j1 (by omega) ⟨j3, j4⟩
      · repeat' (first
          | (with_reducible first | apply cond_d | apply cond_nd | apply cond_i | apply guard_d | apply guard_nd | apply guard_df | apply guard_ndf | apply guard_i | apply ag_d | apply ag_nd | apply ag_df | apply ag_ndf | apply ag_i) <;> intro _
          | with_reducible first | refine LenR_i fun _ => ?_ | refine And.intro (by omega) ?_ | refine and_assoc.2 ?_ | apply sp_cond | apply sp_guard | apply sp_ag | apply sp_call | apply sp_acall | apply sp_loop | apply sp_any | apply sp_frz | apply sp_len | apply sp_idx | apply sp_keep | apply sp_back
          | with_reducible refine frz0_i ?_
          | simp (maxSteps := 1000000) (disch := omega) only [lAL, lDF, tupA, eqA, isNil, slcNil, ptrCells, ptrAdd, cellsO, intA, boolA, readsV, readsP, isCall, wrote, srcOf, isNilSlice, Value.oneCell', seval, implies_true, forall_eq, ne_eq, wrap_i64, LenR_ok, List.length_map, IdxR_ints])
        all_goals try (exfalso; omega)
        have hv2 : ∀ {H l n}, vwS none (some (.arr 3 1 ((natL c).map (AV.int .i64)))) H l n 1 c.length = .view 1 ((natL c).map (AV.int .i64)) := by
          intro H l n
          rw [vwS_arr (by simp [natL]), vw_ints]
        refine keep_i [] true (by simp) (by simp) rfl ?_
        simp only [lPA, lPD, novO, setAll, seval, implies_true, paR_lent, hv2]
        refine ⟨c, ?_, rfl⟩
        simp only [CycF, hck, if_true]
        exact .inr ⟨s, n, hb, hc, by omega⟩
end Go.Proofs.Try
