/-
  A part of the proof: see the text of the law.
-/
import Derived.Test.YthbajphbhoiceaaCax
set_option linter.unusedSimpArgs false
set_option linter.unusedVariables false
namespace Go.Proofs.Try
open Go.Al
set_option linter.unusedVariables false
set_option linter.unusedSimpArgs false
open Classical
set_option maxHeartbeats 20000000
theorem c32 (h : List Acc) (order : List Int) : ACalls E.P 32 [.view 6 (h.map accA), .view 1 (order.map (AV.int .i64))] [] (fun r H => r = .bool (decide (EqvS h order)) ∧ H = []) := by
  have hmax := maxLen_eq
  refine ok32.acalls hE hm (by simp) ?_
  unfold mc32
  have h18 := c18 h
  repeat' (first
    | (with_reducible first | apply cond_d | apply cond_nd | apply cond_i | apply guard_d | apply guard_nd | apply guard_df | apply guard_ndf | apply guard_i | apply ag_d | apply ag_nd | apply ag_df | apply ag_ndf | apply ag_i) <;> intro _
    | with_reducible first | refine LenR_i fun _ => ?_ | refine And.intro (by omega) ?_ | refine and_assoc.2 ?_ | apply sp_cond | apply sp_guard | apply sp_ag | apply sp_call | apply sp_acall | apply sp_loop | apply sp_any | apply sp_frz | apply sp_len | apply sp_idx | apply sp_keep | apply sp_back
    | with_reducible refine frz0_i ?_
    | ((with_reducible first | refine callN_i [] true (by simp) (by simp) ?_ | refine acallN_i true ?_); simp only [lPA, lPD, novO, setAll, seval, implies_true, vw_accs]; (refine ⟨_, h18, ?_⟩; rintro _ _ ⟨rfl, rfl⟩); simp only [lAL, lDF, tupA, eqA, isNil, slcNil, ptrCells, ptrAdd, cellsO, intA, boolA, readsV, readsP, isCall, wrote, srcOf, isNilSlice, Value.oneCell', seval, implies_true, forall_eq, ne_eq, lPA, lPD, novO, setAll, vw_accs])
    | simp (maxSteps := 1000000) (disch := omega) only [lAL, lDF, tupA, eqA, isNil, slcNil, ptrCells, ptrAdd, cellsO, intA, boolA, readsV, readsP, isCall, wrote, srcOf, isNilSlice, Value.oneCell', seval, implies_true, forall_eq, ne_eq, wrap_i64, LenR_ok, List.length_map, IdxR_ints, vw_accs])
  · rename_i hc
    have : ¬ EqvS h order := fun he => hc he.1
    repeat' (first
      | (with_reducible first | apply cond_d | apply cond_nd | apply cond_i | apply guard_d | apply guard_nd | apply guard_df | apply guard_ndf | apply guard_i | apply ag_d | apply ag_nd | apply ag_df | apply ag_ndf | apply ag_i) <;> intro _
      | with_reducible first | refine LenR_i fun _ => ?_ | refine And.intro (by omega) ?_ | refine and_assoc.2 ?_ | apply sp_cond | apply sp_guard | apply sp_ag | apply sp_call | apply sp_acall | apply sp_loop | apply sp_any | apply sp_frz | apply sp_len | apply sp_idx | apply sp_keep | apply sp_back
      | with_reducible refine frz0_i ?_
      | ((with_reducible refine keep0_i ?_); simp only [lPA, lPD, novO, setAll, seval, implies_true])
      | simp (maxSteps := 1000000) (disch := omega) only [lAL, lDF, tupA, eqA, isNil, slcNil, ptrCells, ptrAdd, cellsO, intA, boolA, readsV, readsP, isCall, wrote, srcOf, isNilSlice, Value.oneCell', seval, implies_true, forall_eq, ne_eq, wrap_i64, LenR_ok, List.length_map, IdxR_ints])
    simp [this]
  rename_i hc
  have hc : checkS h = 0 := by omega
  have hform := check_formed hc
  have hc0 := hc
  clear h18
  refine loop_i (X := List Nat × List Int × List Nat × Nat) (fun x => PreO h order x.1 ∧ ∀ y, y ∈ x.2.1 ↔ y ∈ natL x.1)
    (fun x => ⟨[(1, .view 1 (order.map (AV.int .i64))), (2, .op 0 0), (5, .mp 1), (24, .view 1 (order.map (AV.int .i64))), (25, .int .i64 order.length), (26, .int .i64 x.1.length)], [.box [.view 6 (h.map accA)], .map (x.2.1.map (AV.int .i64)) (x.2.1.map fun _ => AV.bool true) x.2.2.1 x.2.2.2]⟩) (fun x => order.length - x.1.length) ([], [], [], 0) ⟨PreO.nil, by simp [natL]⟩ (Ent.to [0,1] false (by simp) (by simp) rfl (by simp only [lPA, lPD, novO, setAll, seval, implies_true, pa_accs, natL] <;> (try simp) <;> (try omega)) (by simp only [lPA, lPD, novO, setAll, seval, implies_true, pa_accs, natL] <;> (try simp) <;> (try omega))) ?_
  rintro ⟨ol, ks, bs, c⟩ ⟨hp, hks⟩
  simp only at hp hks
  have hple := hp.le
  by_cases hl : ol.length < order.length
  · have e1 : ∀ {m N d k}, IdxR E.P m N (order.map (AV.int .i64)) (ol.length : Int) d k = rK E.P m N k d (.vp [.int .i64 (order.getD ol.length 0)]) := IdxR_ord hl
    have hnext : ∀ he : EqvS h order, _ := fun he => he.2.choose_spec.next hp hl
    have hsn := fun x => PreO.snoc (x := x) hp hl
    generalize order.getD ol.length 0 = y at *
    by_cases hy : 0 ≤ y ∧ y < h.length
    · obtain ⟨n, rfl⟩ := Int.eq_ofNat_of_zero_le hy.1
      have hn : n < h.length := by omega
      have e2 : ∀ {m N d k}, IdxR E.P m N (h.map accA) (n : Int) d k = rK E.P m N k d (.vp (accC (at' h n))) := IdxR_at hn
      obtain ⟨ks', bs', c', h8, h9⟩ := putK_set ks n bs c
      repeat' (first
        | (with_reducible first | apply cond_d | apply cond_nd | apply cond_i | apply guard_d | apply guard_nd | apply guard_df | apply guard_ndf | apply guard_i | apply ag_d | apply ag_nd | apply ag_df | apply ag_ndf | apply ag_i) <;> intro _
        | with_reducible first | refine LenR_i fun _ => ?_ | refine And.intro (by omega) ?_ | refine and_assoc.2 ?_ | apply sp_cond | apply sp_guard | apply sp_ag | apply sp_call | apply sp_acall | apply sp_loop | apply sp_any | apply sp_frz | apply sp_len | apply sp_idx | apply sp_keep | apply sp_back
        | with_reducible refine frz0_i ?_
        | ((with_reducible refine keep0_i ?_); simp only [lPA, lPD, novO, setAll, seval, implies_true])
        | simp (maxSteps := 1000000) (disch := omega) only [lAL, lDF, tupA, eqA, isNil, slcNil, ptrCells, ptrAdd, cellsO, intA, boolA, readsV, readsP, isCall, wrote, srcOf, isNilSlice, Value.oneCell', seval, implies_true, forall_eq, ne_eq, wrap_i64, LenR_ok, List.length_map, IdxR_ints, e1, e2, accC, look_set, h8])
      all_goals try (exfalso; omega)
      all_goals clear e1 e2
      all_goals first
        | (rename_i hd hk
           refine back_i (ol ++ [n], ks', bs', c') ⟨hsn n rfl hn (by simpa using hd) (fun hc => hk ((hks _).2 (mem_natL.2 hc))), fun z => by simp only [h9, hks, natL_append, List.mem_append]; simp [natL]⟩ (by simp only [List.length_append, List.length_singleton]; omega) (Ent.to [0,1] false (by simp) (by simp) rfl (by simp only [lPA, lPD, novO, setAll, seval, implies_true, pa_accs, pa_trues] <;> (try simp) <;> (try omega)) (by simp only [lPA, lPD, novO, setAll, seval, implies_true, pa_accs, pa_trues] <;> (try simp) <;> (try omega))))
        | (have : ¬ EqvS h order := fun he => by
             obtain ⟨x, x1, x2, x3, x4⟩ := hnext he
             have x1 := Int.ofNat.inj x1
             subst x1
             rename_i hk
             first
               | exact x4 (mem_natL.1 ((hks _).1 hk))
               | simp_all
           simp [this])
    · have : ¬ EqvS h order := fun he => by
        obtain ⟨x, x1, x2, x3, x4⟩ := hnext he
        omega
      repeat' (first
        | (with_reducible first | apply cond_d | apply cond_nd | apply cond_i | apply guard_d | apply guard_nd | apply guard_df | apply guard_ndf | apply guard_i | apply ag_d | apply ag_nd | apply ag_df | apply ag_ndf | apply ag_i) <;> intro _
        | with_reducible first | refine LenR_i fun _ => ?_ | refine And.intro (by omega) ?_ | refine and_assoc.2 ?_ | apply sp_cond | apply sp_guard | apply sp_ag | apply sp_call | apply sp_acall | apply sp_loop | apply sp_any | apply sp_frz | apply sp_len | apply sp_idx | apply sp_keep | apply sp_back
        | with_reducible refine frz0_i ?_
        | ((with_reducible refine keep0_i ?_); simp only [lPA, lPD, novO, setAll, seval, implies_true])
        | simp (maxSteps := 1000000) (disch := omega) only [lAL, lDF, tupA, eqA, isNil, slcNil, ptrCells, ptrAdd, cellsO, intA, boolA, readsV, readsP, isCall, wrote, srcOf, isNilSlice, Value.oneCell', seval, implies_true, forall_eq, ne_eq, wrap_i64, LenR_ok, List.length_map, IdxR_ints, e1, accC])
      all_goals try (exfalso; omega)
      all_goals simp [this]
  have hol := hp.full (by omega)
  subst hol
  have hml : (natL ol).length ≤ maxLen := by assumption
  rw [natL_length] at *
  repeat' (first
    | (with_reducible first | apply cond_d | apply cond_nd | apply cond_i | apply guard_d | apply guard_nd | apply guard_df | apply guard_ndf | apply guard_i | apply ag_d | apply ag_nd | apply ag_df | apply ag_ndf | apply ag_i) <;> intro _
    | with_reducible first | refine LenR_i fun _ => ?_ | refine And.intro (by omega) ?_ | refine and_assoc.2 ?_ | apply sp_cond | apply sp_guard | apply sp_ag | apply sp_call | apply sp_acall | apply sp_loop | apply sp_any | apply sp_frz | apply sp_len | apply sp_idx | apply sp_keep | apply sp_back
    | with_reducible refine frz0_i ?_
    | simp (maxSteps := 1000000) (disch := omega) only [lAL, lDF, tupA, eqA, isNil, slcNil, ptrCells, ptrAdd, cellsO, intA, boolA, readsV, readsP, isCall, wrote, srcOf, isNilSlice, Value.oneCell', seval, implies_true, forall_eq, ne_eq, wrap_i64, LenR_ok, List.length_map, IdxR_ints])
  all_goals try (exfalso; omega)
  refine loop_i (fun i : Nat => i ≤ h.length ∧ ∀ j, j < i → (at' h j).done = true → j ∈ ol) (fun i => ⟨[(1, .view 1 ((natL ol).map (AV.int .i64))), (2, .op 0 0), (5, .mp 1), (54, .view 6 (h.map accA)), (55, .int .i64 h.length), (56, .int .i64 i)], [.box [.view 6 (h.map accA)], .map (ks.map (AV.int .i64)) (ks.map fun _ => AV.bool true) bs c]⟩) (fun i => h.length - i) 0 ⟨by omega, by omega⟩ (Ent.to [0,1] false (by simp) (by simp) rfl (by simp only [lPA, lPD, novO, setAll, seval, implies_true, pa_accs, pa_trues, pa_natL] <;> (try simp) <;> (try omega)) (by simp only [lPA, lPD, novO, setAll, seval, implies_true, pa_accs, pa_trues, pa_natL] <;> (try simp) <;> (try omega))) ?_
  rintro i ⟨hi, hdn⟩
  by_cases hin : i < h.length
  · have e1 : ∀ {m N d k}, IdxR E.P m N (h.map accA) (i : Int) d k = rK E.P m N k d (.vp (accC (at' h i))) := IdxR_at hin
    repeat' (first
      | (with_reducible first | apply cond_d | apply cond_nd | apply cond_i | apply guard_d | apply guard_nd | apply guard_df | apply guard_ndf | apply guard_i | apply ag_d | apply ag_nd | apply ag_df | apply ag_ndf | apply ag_i) <;> intro _
      | with_reducible first | refine LenR_i fun _ => ?_ | refine And.intro (by omega) ?_ | refine and_assoc.2 ?_ | apply sp_cond | apply sp_guard | apply sp_ag | apply sp_call | apply sp_acall | apply sp_loop | apply sp_any | apply sp_frz | apply sp_len | apply sp_idx | apply sp_keep | apply sp_back
      | with_reducible refine frz0_i ?_
      | ((with_reducible refine keep0_i ?_); simp only [lPA, lPD, novO, setAll, seval, implies_true])
      | simp (maxSteps := 1000000) (disch := omega) only [lAL, lDF, tupA, eqA, isNil, slcNil, ptrCells, ptrAdd, cellsO, intA, boolA, readsV, readsP, isCall, wrote, srcOf, isNilSlice, Value.oneCell', seval, implies_true, forall_eq, ne_eq, wrap_i64, LenR_ok, List.length_map, IdxR_ints, e1, accC, look_set])
    all_goals try (exfalso; omega)
    all_goals clear e1
    · rename_i hd hk
      have : ¬ EqvS h (natL ol) := fun he => by
        obtain ⟨_, ol', he⟩ := he
        have e := he.same
        subst e
        have hk : (i : Int) ∉ ks := by simpa using hk
        exact hk ((hks _).2 (mem_natL.2 ((he.mem i).2 ⟨hin, hd⟩)))
      simp [this]
    · rename_i hd hk
      refine back_i (i + 1) ⟨by omega, fun j hj hjd => ?_⟩ (by omega) (Ent.to [0,1] false (by simp) (by simp) rfl (by simp only [lPA, lPD, novO, setAll, seval, implies_true, pa_accs, pa_trues, pa_natL] <;> (try simp) <;> (try omega)) (by simp only [lPA, lPD, novO, setAll, seval, implies_true, pa_accs, pa_trues, pa_natL] <;> (try simp) <;> (try omega)))
      by_cases e : j = i
      · subst e
        exact mem_natL.1 ((hks _).1 (by simpa using hk))
      · exact hdn j (by omega) hjd
    · rename_i hd
      refine back_i (i + 1) ⟨by omega, fun j hj hjd => ?_⟩ (by omega) (Ent.to [0,1] false (by simp) (by simp) rfl (by simp only [lPA, lPD, novO, setAll, seval, implies_true, pa_accs, pa_trues, pa_natL] <;> (try simp) <;> (try omega)) (by simp only [lPA, lPD, novO, setAll, seval, implies_true, pa_accs, pa_trues, pa_natL] <;> (try simp) <;> (try omega)))
      by_cases e : j = i
      · subst e
        rw [hjd] at hd
        cases hd
      · exact hdn j (by omega) hjd
  have e : i = h.length := by omega
  subst e
  have hmem : ∀ j, j ∈ ol ↔ (j < h.length ∧ (at' h j).done = true) := fun j => ⟨hp.ok j, fun ⟨h1, h2⟩ => hdn j h1 h2⟩
  have heqv : EqvS h (natL ol) ↔ ((∀ k, k < ol.length → ReadsOk h ol k) ∧ FinOk h ol) := by
    constructor
    · rintro ⟨_, ol', he⟩
      have e := he.same
      subst e
      exact ⟨he.reads, he.fin⟩
    · rintro ⟨h1, h2⟩
      exact ⟨hc0, ol, rfl, hp.nodup, hmem, h1, h2⟩
  clear hdn hks hi hin hl hple
  have hnd := hp.nodup
  repeat' (first
    | (with_reducible first | apply cond_d | apply cond_nd | apply cond_i | apply guard_d | apply guard_nd | apply guard_df | apply guard_ndf | apply guard_i | apply ag_d | apply ag_nd | apply ag_df | apply ag_ndf | apply ag_i) <;> intro _
    | with_reducible first | refine LenR_i fun _ => ?_ | refine And.intro (by omega) ?_ | refine and_assoc.2 ?_ | apply sp_cond | apply sp_guard | apply sp_ag | apply sp_call | apply sp_acall | apply sp_loop | apply sp_any | apply sp_frz | apply sp_len | apply sp_idx | apply sp_keep | apply sp_back
    | with_reducible refine frz0_i ?_
    | simp (maxSteps := 1000000) (disch := omega) only [lAL, lDF, tupA, eqA, isNil, slcNil, ptrCells, ptrAdd, cellsO, intA, boolA, readsV, readsP, isCall, wrote, srcOf, isNilSlice, Value.oneCell', seval, implies_true, forall_eq, ne_eq, wrap_i64, LenR_ok, List.length_map, IdxR_ints])
  all_goals try (exfalso; omega)
  refine loop_i (X := Nat × List Int × (Int → Nat) × List Nat × Nat) (fun x => x.1 ≤ ol.length ∧ WfI x.2.1 x.2.2.2.1 x.2.2.2.2 ∧ (∀ y, getI x.2.1 x.2.2.1 y = lastW h (ol.take x.1) y) ∧ ∀ k, k < x.1 → ReadsOk h ol k)
    (fun x => ⟨[(2, .op 0 0), (10, .fn (.func 63) [] [.op 0 0]), (11, .op 2 0), (12, .fn (.func 65) [] [.op 2 0]), (73, .view 1 ((natL ol).map (AV.int .i64))), (74, .int .i64 ol.length), (75, .int .i64 x.1)], [.box [.view 6 (h.map accA)], mapI x.2.1 x.2.2.1 x.2.2.2.1 x.2.2.2.2, .box [.mp 1]]⟩)
    (fun x => ol.length - x.1) (0, [], fun _ => 0, [], 0) ⟨by simp, by simp [WfI], by simp [getI, lastW], by simp⟩ (Ent.to [0,2,3] false (by simp) (by simp) rfl (by simp only [lPA, lPD, novO, setAll, seval, implies_true, pa_accs, pa_natL, mapI, natL] <;> (try simp) <;> (try omega)) (by simp only [lPA, lPD, novO, setAll, seval, implies_true, pa_accs, pa_natL, mapI, natL] <;> (try simp) <;> (try omega))) ?_
  rintro ⟨i, kl, f, bs, c⟩ ⟨hi, hw, hg, hrd⟩
  simp only at hi hw hg hrd
  simp only [mapI]
  by_cases hin : i < ol.length
  · have hb : ol.getD i 0 < h.length := by
      rw [getD_get hin]
      exact ((hmem _).1 (List.getElem_mem hin)).1
    have hts := take_snoc' hin
    have hRO : ReadsOk h ol i ↔ ∀ x ∈ (at' h (ol.getD i 0)).reads, lastW h (ol.take i) x = srcV h x (at' h (ol.getD i 0)).snap := Iff.rfl
    have e1 : ∀ {m N d k}, IdxR E.P m N ((natL ol).map (AV.int .i64)) (i : Int) d k = rK E.P m N k d (.vp [.int .i64 ((ol.getD i 0 : Nat) : Int)]) := by
      intros; exact IdxR_nats hin
    generalize ol.getD i 0 = b at *
    have e2 : ∀ {m N d k}, IdxR E.P m N (h.map accA) (b : Int) d k = rK E.P m N k d (.vp (accC (at' h b))) := IdxR_at hb
    repeat' (first
      | (with_reducible first | apply cond_d | apply cond_nd | apply cond_i | apply guard_d | apply guard_nd | apply guard_df | apply guard_ndf | apply guard_i | apply ag_d | apply ag_nd | apply ag_df | apply ag_ndf | apply ag_i) <;> intro _
      | with_reducible first | refine LenR_i fun _ => ?_ | refine And.intro (by omega) ?_ | refine and_assoc.2 ?_ | apply sp_cond | apply sp_guard | apply sp_ag | apply sp_call | apply sp_acall | apply sp_loop | apply sp_any | apply sp_frz | apply sp_len | apply sp_idx | apply sp_keep | apply sp_back
      | with_reducible refine frz0_i ?_
      | simp (maxSteps := 1000000) (disch := omega) only [lAL, lDF, tupA, eqA, isNil, slcNil, ptrCells, ptrAdd, cellsO, intA, boolA, readsV, readsP, isCall, wrote, srcOf, isNilSlice, Value.oneCell', seval, implies_true, forall_eq, ne_eq, wrap_i64, LenR_ok, List.length_map, IdxR_ints, e1, e2, accC])
    all_goals try (exfalso; omega)
    refine loop_i (fun j : Nat => j ≤ (at' h b).reads.length ∧ ∀ x ∈ (at' h b).reads.take j, lastW h (ol.take i) x = srcV h x (at' h b).snap)
      (fun j => ⟨[(2, .op 0 0), (10, .fn (.func 63) [] [.op 0 0]), (11, .op 2 0), (12, .fn (.func 65) [] [.op 2 0]), (14, .int .i64 b), (73, .view 1 ((natL ol).map (AV.int .i64))), (74, .int .i64 ol.length), (75, .int .i64 i), (83, .view 1 ((at' h b).reads.map (AV.int .i64))), (84, .int .i64 (at' h b).reads.length), (85, .int .i64 j)], [.box [.view 6 (h.map accA)], .map (kl.map (AV.int .i64)) ((natL (kl.map f)).map (AV.int .i64)) bs c, .box [.mp 1]]⟩)
      (fun j => (at' h b).reads.length - j) 0 ⟨by simp, by simp⟩ (Ent.to [0,1,2] false (by simp) (by simp) rfl (by simp only [lPA, lPD, novO, setAll, seval, implies_true, pa_accs, pa_natL] <;> (try simp) <;> (try omega)) (by simp only [lPA, lPD, novO, setAll, seval, implies_true, pa_accs, pa_natL] <;> (try simp) <;> (try omega))) ?_
    rintro j ⟨hj, hrj⟩
    by_cases hjn : j < (at' h b).reads.length
    · have hrs := take_snocI hjn
      have hmx : (at' h b).reads.getD j 0 ∈ (at' h b).reads := by rw [getD_get hjn]; exact List.getElem_mem hjn
      have e3 : ∀ {m N d k}, IdxR E.P m N ((at' h b).reads.map (AV.int .i64)) (j : Int) d k = rK E.P m N k d (.vp [.int .i64 ((at' h b).reads.getD j 0)]) := IdxR_ord hjn
      generalize (at' h b).reads.getD j 0 = x at *
      have k1 := c65 kl f x
      have k2 := c63 h hform x (at' h b).snap
      repeat' (first
        | (with_reducible first | apply cond_d | apply cond_nd | apply cond_i | apply guard_d | apply guard_nd | apply guard_df | apply guard_ndf | apply guard_i | apply ag_d | apply ag_nd | apply ag_df | apply ag_ndf | apply ag_i) <;> intro _
        | with_reducible first | refine LenR_i fun _ => ?_ | refine And.intro (by omega) ?_ | refine and_assoc.2 ?_ | apply sp_cond | apply sp_guard | apply sp_ag | apply sp_call | apply sp_acall | apply sp_loop | apply sp_any | apply sp_frz | apply sp_len | apply sp_idx | apply sp_keep | apply sp_back
        | with_reducible refine frz0_i ?_
        | with_reducible refine any_i [] ?_
        | ((with_reducible first | refine callN_i [] true (by simp) (by simp) ?_ | refine acallN_i true ?_); simp only [lPA, lPD, novO, setAll, seval, implies_true, e2, e3, accC, vw_accs]; (first | (refine ⟨_, k1, ?_⟩; rintro _ _ ⟨rfl, rfl⟩) | (refine ⟨_, k2, ?_⟩; rintro _ _ ⟨rfl, rfl⟩)); simp only [lAL, lDF, tupA, eqA, isNil, slcNil, ptrCells, ptrAdd, cellsO, intA, boolA, readsV, readsP, isCall, wrote, srcOf, isNilSlice, Value.oneCell', seval, implies_true, forall_eq, ne_eq, lPA, lPD, novO, setAll, e2, e3, accC, vw_accs])
        | ((with_reducible refine keep0_i ?_); simp only [lPA, lPD, novO, setAll, seval, implies_true])
        | simp (maxSteps := 1000000) (disch := omega) only [lAL, lDF, tupA, eqA, isNil, slcNil, ptrCells, ptrAdd, cellsO, intA, boolA, readsV, readsP, isCall, wrote, srcOf, isNilSlice, Value.oneCell', seval, implies_true, forall_eq, ne_eq, wrap_i64, LenR_ok, List.length_map, IdxR_ints, e2, e3, accC, vw_accs])
      all_goals try (exfalso; omega)
      all_goals clear e1 e2 e3 k1 k2
      · rename_i hne
        have : ¬ EqvS h (natL ol) := fun he => hne (nextV_inj.2 ((hg x).trans ((hRO.1 ((heqv.1 he).1 i hin)) x hmx)))
        simp [this]
      · rename_i he
        refine back_i (j + 1) ⟨by omega, fun y hy => ?_⟩ (by omega) (Ent.to [0,1,2] false (by simp) (by simp) rfl (by simp only [lPA, lPD, novO, setAll, seval, implies_true, pa_accs, pa_natL] <;> (try simp) <;> (try omega)) (by simp only [lPA, lPD, novO, setAll, seval, implies_true, pa_accs, pa_natL] <;> (try simp) <;> (try omega)))
        rw [hrs] at hy
        rcases List.mem_append.1 hy with hy | hy
        · exact hrj y hy
        · simp at hy
          subst hy
          rw [← hg]
          exact nextV_inj.1 he
    have e : j = (at' h b).reads.length := by omega
    subst e
    have hrok : ReadsOk h ol i := by rw [hRO]; simpa using hrj
    repeat' (first
      | (with_reducible first | apply cond_d | apply cond_nd | apply cond_i | apply guard_d | apply guard_nd | apply guard_df | apply guard_ndf | apply guard_i | apply ag_d | apply ag_nd | apply ag_df | apply ag_ndf | apply ag_i) <;> intro _
      | with_reducible first | refine LenR_i fun _ => ?_ | refine And.intro (by omega) ?_ | refine and_assoc.2 ?_ | apply sp_cond | apply sp_guard | apply sp_ag | apply sp_call | apply sp_acall | apply sp_loop | apply sp_any | apply sp_frz | apply sp_len | apply sp_idx | apply sp_keep | apply sp_back
      | with_reducible refine frz0_i ?_
      | simp (maxSteps := 1000000) (disch := omega) only [lAL, lDF, tupA, eqA, isNil, slcNil, ptrCells, ptrAdd, cellsO, intA, boolA, readsV, readsP, isCall, wrote, srcOf, isNilSlice, Value.oneCell', seval, implies_true, forall_eq, ne_eq, wrap_i64, LenR_ok, List.length_map, IdxR_ints, e2, accC])
    all_goals try (exfalso; omega)
    refine loop_i (X := Nat × List Int × (Int → Nat) × List Nat × Nat) (fun x => x.1 ≤ (at' h b).writes.length ∧ WfI x.2.1 x.2.2.2.1 x.2.2.2.2 ∧ ∀ y, getI x.2.1 x.2.2.1 y = if y ∈ (at' h b).writes.take x.1 then some b else lastW h (ol.take i) y)
      (fun x => ⟨[(2, .op 0 0), (10, .fn (.func 63) [] [.op 0 0]), (11, .op 2 0), (12, .fn (.func 65) [] [.op 2 0]), (14, .int .i64 b), (73, .view 1 ((natL ol).map (AV.int .i64))), (74, .int .i64 ol.length), (75, .int .i64 i), (106, .view 1 ((at' h b).writes.map (AV.int .i64))), (107, .int .i64 (at' h b).writes.length), (108, .int .i64 x.1)], [.box [.view 6 (h.map accA)], mapI x.2.1 x.2.2.1 x.2.2.2.1 x.2.2.2.2, .box [.mp 1]]⟩)
      (fun x => (at' h b).writes.length - x.1) (0, kl, f, bs, c) ⟨by simp, hw, by simpa using hg⟩ (Ent.to [0,1,2] false (by simp) (by simp) rfl (by simp only [lPA, lPD, novO, setAll, seval, implies_true, pa_accs, pa_natL, mapI] <;> (try simp) <;> (try omega)) (by simp only [lPA, lPD, novO, setAll, seval, implies_true, pa_accs, pa_natL, mapI] <;> (try simp) <;> (try omega))) ?_
    rintro ⟨j, kl, f, bs, c⟩ ⟨hj, hw, hgj⟩
    simp only at hj hw hgj
    simp only [mapI]
    by_cases hjn : j < (at' h b).writes.length
    · have hrs := take_snocI hjn
      have e3 : ∀ {m N d k}, IdxR E.P m N ((at' h b).writes.map (AV.int .i64)) (j : Int) d k = rK E.P m N k d (.vp [.int .i64 ((at' h b).writes.getD j 0)]) := IdxR_ord hjn
      generalize (at' h b).writes.getD j 0 = x at *
      obtain ⟨kl', bs', c', hpt, hw', hkl'⟩ := puti (f := f) (v := b) (x := x) hw
      repeat' (first
        | (with_reducible first | apply cond_d | apply cond_nd | apply cond_i | apply guard_d | apply guard_nd | apply guard_df | apply guard_ndf | apply guard_i | apply ag_d | apply ag_nd | apply ag_df | apply ag_ndf | apply ag_i) <;> intro _
        | with_reducible first | refine LenR_i fun _ => ?_ | refine And.intro (by omega) ?_ | refine and_assoc.2 ?_ | apply sp_cond | apply sp_guard | apply sp_ag | apply sp_call | apply sp_acall | apply sp_loop | apply sp_any | apply sp_frz | apply sp_len | apply sp_idx | apply sp_keep | apply sp_back
        | with_reducible refine frz0_i ?_
        | simp (maxSteps := 1000000) (disch := omega) only [lAL, lDF, tupA, eqA, isNil, slcNil, ptrCells, ptrAdd, cellsO, intA, boolA, readsV, readsP, isCall, wrote, srcOf, isNilSlice, Value.oneCell', seval, implies_true, forall_eq, ne_eq, wrap_i64, LenR_ok, List.length_map, IdxR_ints, e3, hpt, mapI_eq])
      all_goals try (exfalso; omega)
      refine back_i (j + 1, kl', updI f x b, bs', c') ⟨by simp only; omega, hw', fun y => ?_⟩ (by simp only; omega) (Ent.to [0,1,2] false (by simp) (by simp) rfl (by simp only [lPA, lPD, novO, setAll, seval, implies_true, pa_accs, pa_natL, mapI] <;> (try simp) <;> (try omega)) (by simp only [lPA, lPD, novO, setAll, seval, implies_true, pa_accs, pa_natL, mapI] <;> (try simp) <;> (try omega)))
      simp only [getI_upd hkl', hgj, hrs, List.mem_append, List.mem_singleton]
      by_cases e : y = x <;> simp [e]
    have e : j = (at' h b).writes.length := by omega
    subst e
    rw [List.take_length] at hgj
    repeat' (first
      | (with_reducible first | apply cond_d | apply cond_nd | apply cond_i | apply guard_d | apply guard_nd | apply guard_df | apply guard_ndf | apply guard_i | apply ag_d | apply ag_nd | apply ag_df | apply ag_ndf | apply ag_i) <;> intro _
      | with_reducible first | refine LenR_i fun _ => ?_ | refine And.intro (by omega) ?_ | refine and_assoc.2 ?_ | apply sp_cond | apply sp_guard | apply sp_ag | apply sp_call | apply sp_acall | apply sp_loop | apply sp_any | apply sp_frz | apply sp_len | apply sp_idx | apply sp_keep | apply sp_back
      | with_reducible refine frz0_i ?_
      | simp (maxSteps := 1000000) (disch := omega) only [lAL, lDF, tupA, eqA, isNil, slcNil, ptrCells, ptrAdd, cellsO, intA, boolA, readsV, readsP, isCall, wrote, srcOf, isNilSlice, Value.oneCell', seval, implies_true, forall_eq, ne_eq, wrap_i64, LenR_ok, List.length_map, IdxR_ints])
    all_goals try (exfalso; omega)
    refine back_i (i + 1, kl, f, bs, c) ⟨by simp only; omega, hw, fun y => ?_, fun k hk => ?_⟩ (by simp only; omega) (Ent.to [0,1,2] false (by simp) (by simp) rfl (by simp only [lPA, lPD, novO, setAll, seval, implies_true, pa_accs, pa_natL, mapI] <;> (try simp) <;> (try omega)) (by simp only [lPA, lPD, novO, setAll, seval, implies_true, pa_accs, pa_natL, mapI] <;> (try simp) <;> (try omega)))
    · simp only [hgj, hts, lastW_snoc]
    · by_cases e : k = i
      · subst e; exact hrok
      · exact hrd k (by simp only at hk; omega)
  have e : i = ol.length := by omega
  subst e
  rw [List.take_length] at hg
  have hfin : FinOk h ol ↔ ∀ k ∈ kl, some (f k) = srcV h k 1073741824 := by
    constructor
    · intro hf k hk
      have := hf k
      rw [← hg k, getI, if_pos hk] at this
      exact this (by simp)
    · intro hf k hk
      rw [← hg k] at hk ⊢
      by_cases hkk : k ∈ kl
      · rw [getI, if_pos hkk]; exact hf k hkk
      · rw [getI, if_neg hkk] at hk; exact absurd rfl hk
  repeat' (first
    | (with_reducible first | apply cond_d | apply cond_nd | apply cond_i | apply guard_d | apply guard_nd | apply guard_df | apply guard_ndf | apply guard_i | apply ag_d | apply ag_nd | apply ag_df | apply ag_ndf | apply ag_i) <;> intro _
    | with_reducible first | refine LenR_i fun _ => ?_ | refine And.intro (by omega) ?_ | refine and_assoc.2 ?_ | apply sp_cond | apply sp_guard | apply sp_ag | apply sp_call | apply sp_acall | apply sp_loop | apply sp_any | apply sp_frz | apply sp_len | apply sp_idx | apply sp_keep | apply sp_back
    | with_reducible refine frz0_i ?_
    | simp (maxSteps := 1000000) (disch := omega) only [lAL, lDF, tupA, eqA, isNil, slcNil, ptrCells, ptrAdd, cellsO, intA, boolA, readsV, readsP, isCall, wrote, srcOf, isNilSlice, Value.oneCell', seval, implies_true, forall_eq, ne_eq, wrap_i64, LenR_ok, List.length_map, IdxR_ints])
  all_goals try (exfalso; omega)
  refine loop_i (X := List Nat) (fun seen => SeenOk bs seen ∧ SeenF h kl f bs seen)
    (fun seen => ⟨[(10, .fn (.func 63) [] [.op 0 0]), (12, .fn (.func 65) [] [.op 2 0]), (118, .itr 3)], [.box [.view 6 (h.map accA)], .map (kl.map (AV.int .i64)) ((natL (kl.map f)).map (AV.int .i64)) bs c, .box [.mp 1], .mit (some 1) c seen c]⟩)
    (fun seen => bs.length - seen.length) [] ⟨.nil, fun i b k h1 h2 => by simp at h2⟩ (Ent.to [0,1,2,3] false (by simp) (by simp) rfl (by simp only [lPA, lPD, novO, setAll, seval, implies_true, pa_accs, pa_natL, po_mit, pa_itr] <;> (try simp) <;> (try omega)) (by simp only [lPA, lPD, novO, setAll, seval, implies_true, pa_accs, pa_natL, po_mit, pa_itr] <;> (try simp) <;> (try omega))) ?_
  rintro seen ⟨hso, hsf⟩
  repeat' (first
    | (with_reducible first | apply cond_d | apply cond_nd | apply cond_i | apply guard_d | apply guard_nd | apply guard_df | apply guard_ndf | apply guard_i | apply ag_d | apply ag_nd | apply ag_df | apply ag_ndf | apply ag_i) <;> intro _
    | with_reducible first | refine LenR_i fun _ => ?_ | refine And.intro (by omega) ?_ | refine and_assoc.2 ?_ | apply sp_cond | apply sp_guard | apply sp_ag | apply sp_call | apply sp_acall | apply sp_loop | apply sp_any | apply sp_frz | apply sp_len | apply sp_idx | apply sp_keep | apply sp_back
    | with_reducible refine frz0_i ?_
    | simp (maxSteps := 1000000) (disch := omega) only [lAL, lDF, tupA, eqA, isNil, slcNil, ptrCells, ptrAdd, cellsO, intA, boolA, readsV, readsP, isCall, wrote, srcOf, isNilSlice, Value.oneCell', seval, implies_true, forall_eq, ne_eq, wrap_i64, LenR_ok, List.length_map, IdxR_ints])
  refine nxt_i hw.2.2.1 (Nat.le_refl _) (fun hall => ?_) (fun i b kx vx hb hns hk hv => ?_)
  · simp only [lAL, lDF, tupA, eqA, isNil, slcNil, ptrCells, ptrAdd, cellsO, intA, boolA, readsV, readsP, isCall, wrote, srcOf, isNilSlice, Value.oneCell', seval, implies_true, forall_eq, ne_eq]
    have : EqvS h (natL ol) := heqv.2 ⟨hrd, hfin.2 fun k hk => hsf.all hw.2.1 hall k hk⟩
    repeat' (first
      | (with_reducible first | apply cond_d | apply cond_nd | apply cond_i | apply guard_d | apply guard_nd | apply guard_df | apply guard_ndf | apply guard_i | apply ag_d | apply ag_nd | apply ag_df | apply ag_ndf | apply ag_i) <;> intro _
      | with_reducible first | refine LenR_i fun _ => ?_ | refine And.intro (by omega) ?_ | refine and_assoc.2 ?_ | apply sp_cond | apply sp_guard | apply sp_ag | apply sp_call | apply sp_acall | apply sp_loop | apply sp_any | apply sp_frz | apply sp_len | apply sp_idx | apply sp_keep | apply sp_back
      | with_reducible refine frz0_i ?_
      | ((with_reducible refine keep0_i ?_); simp only [lPA, lPD, novO, setAll, seval, implies_true])
      | simp (maxSteps := 1000000) (disch := omega) only [lAL, lDF, tupA, eqA, isNil, slcNil, ptrCells, ptrAdd, cellsO, intA, boolA, readsV, readsP, isCall, wrote, srcOf, isNilSlice, Value.oneCell', seval, implies_true, forall_eq, ne_eq, wrap_i64, LenR_ok, List.length_map, IdxR_ints])
    all_goals simp [this]
  · simp only [lAL, lDF, tupA, eqA, isNil, slcNil, ptrCells, ptrAdd, cellsO, intA, boolA, readsV, readsP, isCall, wrote, srcOf, isNilSlice, Value.oneCell', seval, implies_true, forall_eq, ne_eq]
    have hk' := hk
    rw [List.getElem?_map] at hk'
    obtain ⟨k, hk1, rfl⟩ := Option.map_eq_some_iff.1 hk'
    refine ent_i i b rfl hb hk hv ?_
    simp only [lAL, lDF, tupA, eqA, isNil, slcNil, ptrCells, ptrAdd, cellsO, intA, boolA, readsV, readsP, isCall, wrote, srcOf, isNilSlice, Value.oneCell', seval, implies_true, forall_eq, ne_eq]
    have hkm : k ∈ kl := List.mem_of_getElem? hk1
    have hsn := hso.snoc hb hns
    have k1 := c65 kl f k
    have k2 := c63 h hform k 1073741824
    have hgi : getI kl f k = some (f k) := by rw [getI, if_pos hkm]
    repeat' (first
      | (with_reducible first | apply cond_d | apply cond_nd | apply cond_i | apply guard_d | apply guard_nd | apply guard_df | apply guard_ndf | apply guard_i | apply ag_d | apply ag_nd | apply ag_df | apply ag_ndf | apply ag_i) <;> intro _
      | with_reducible first | refine LenR_i fun _ => ?_ | refine And.intro (by omega) ?_ | refine and_assoc.2 ?_ | apply sp_cond | apply sp_guard | apply sp_ag | apply sp_call | apply sp_acall | apply sp_loop | apply sp_any | apply sp_frz | apply sp_len | apply sp_idx | apply sp_keep | apply sp_back
      | with_reducible refine frz0_i ?_
      | ((with_reducible first | refine callN_i [] true (by simp) (by simp) ?_ | refine acallN_i true ?_); simp only [lPA, lPD, novO, setAll, seval, implies_true, vw_accs]; (first | (refine ⟨_, k1, ?_⟩; rintro _ _ ⟨rfl, rfl⟩) | (refine ⟨_, k2, ?_⟩; rintro _ _ ⟨rfl, rfl⟩)); simp only [lAL, lDF, tupA, eqA, isNil, slcNil, ptrCells, ptrAdd, cellsO, intA, boolA, readsV, readsP, isCall, wrote, srcOf, isNilSlice, Value.oneCell', seval, implies_true, forall_eq, ne_eq, lPA, lPD, novO, setAll, vw_accs])
      | ((with_reducible refine keep0_i ?_); simp only [lPA, lPD, novO, setAll, seval, implies_true])
      | simp (maxSteps := 1000000) (disch := omega) only [lAL, lDF, tupA, eqA, isNil, slcNil, ptrCells, ptrAdd, cellsO, intA, boolA, readsV, readsP, isCall, wrote, srcOf, isNilSlice, Value.oneCell', seval, implies_true, forall_eq, ne_eq, wrap_i64, LenR_ok, List.length_map, IdxR_ints, vw_accs])
    all_goals try (exfalso; omega)
    all_goals clear k1 k2
    · rename_i hne
      have : ¬ EqvS h (natL ol) := fun he => hne (nextV_inj.2 (hgi.trans (hfin.1 (heqv.1 he).2 k hkm)))
      simp [this]
    · rename_i he
      exact back_i (seen ++ [b]) ⟨hsn.1, hsf.snoc hw.2.2.2 hb hk1 (hgi.symm.trans (nextV_inj.1 he))⟩ (by simp only [List.length_append, List.length_singleton]; have := hsn.2; omega) (Ent.to [0,1,2,3] false (by simp) (by simp) rfl (by simp only [lPA, lPD, novO, setAll, seval, implies_true, pa_accs, pa_natL, po_mit, pa_itr] <;> (try simp) <;> (try omega)) (by simp only [lPA, lPD, novO, setAll, seval, implies_true, pa_accs, pa_natL, po_mit, pa_itr] <;> (try simp) <;> (try omega)))
end Go.Proofs.Try
