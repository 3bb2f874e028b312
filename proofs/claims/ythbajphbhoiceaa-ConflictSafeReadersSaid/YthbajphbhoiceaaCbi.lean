/-
  A part of the proof: see the text of the law.
-/
import Derived.Test.YthbajphbhoiceaaCbf
set_option linter.unusedSimpArgs false
set_option linter.unusedVariables false
namespace Go.Proofs.Try
open Go.Al
set_option linter.unusedVariables false
set_option linter.unusedSimpArgs false
open Classical
set_option maxHeartbeats 8000000

/-! ### what the specification's Equivalent answers -/
structure OnceO (h : List Acc) (order : List Int) (ol : List Nat) : Prop where
  eq : order = natL ol
  nodup : ol.Nodup
  mem : ∀ i, i ∈ ol ↔ (i < h.length ∧ (at' h i).done = true)
def OnceS (h : List Acc) (order : List Int) : Prop := ∃ ol, OnceO h order ol
theorem natL_len {l : List Nat} : (natL l).length = l.length := by simp [natL]
theorem OnceO.len {h : List Acc} {order : List Int} {ol : List Nat} (he : OnceO h order ol) : order.length = (doneL h).length := by
  rw [he.eq, natL_len]
  have h1 := nodup_length_le he.nodup (m := doneL h) fun x hx => mem_doneL.2 ((he.mem x).1 hx)
  have h2 := nodup_length_le (doneL_nodup h) (m := ol) fun x hx => (he.mem x).2 (mem_doneL.1 hx)
  omega
theorem OnceO.next {h : List Acc} {order : List Int} {ol ol' : List Nat} (he : OnceO h order ol') (hp : PreO h order ol) (hl : ol.length < order.length) : ∃ x : Nat, order.getD ol.length 0 = x ∧ x < h.length ∧ (at' h x).done = true ∧ x ∉ ol := by
  obtain ⟨rfl, hn, hm⟩ := he
  have hl' : ol.length < ol'.length := by simpa [natL] using hl
  have e : ol'.take ol.length = ol := by
    apply natL_inj
    rw [← natL_take, hp.eq]
  refine ⟨ol'[ol.length], by rw [natL_getD hl']; simp [hl'], ((hm _).1 (List.getElem_mem _)).1, ((hm _).1 (List.getElem_mem _)).2, fun hc => ?_⟩
  have hc : ol'[ol.length] ∈ ol'.take ol.length := e.symm ▸ hc
  obtain ⟨j, hj, e2⟩ := List.getElem_of_mem hc
  rw [List.getElem_take] at e2
  have := (List.getElem_inj hn).1 e2
  simp at hj
  omega
theorem c66 (h : List Acc) (order : List Int) : ACalls E.P 66 [.view 6 (h.map accA), .view 1 (order.map (.int .i64))] [] (fun r H => r = .bool (decide (OnceS h order)) ∧ H = []) := by
  have hmax := maxLen_eq
  refine ok66.acalls hE hm (by simp) ?_
  unfold mc66
  have h58 : ACalls E.P 58 [.view 6 (h.map accA)] [] (fun r H => r = .int .i64 ((doneL h).length : Nat) ∧ H = []) := c58 h
  repeat' (first
    | (with_reducible first | apply cond_d | apply cond_nd | apply cond_i | apply guard_d | apply guard_nd | apply guard_df | apply guard_ndf | apply guard_i | apply ag_d | apply ag_nd | apply ag_df | apply ag_ndf | apply ag_i) <;> intro _
    | with_reducible first | refine LenR_i fun _ => ?_ | refine And.intro (by omega) ?_ | refine and_assoc.2 ?_ | apply sp_cond | apply sp_guard | apply sp_ag | apply sp_call | apply sp_acall | apply sp_loop | apply sp_any | apply sp_frz | apply sp_len | apply sp_idx | apply sp_keep | apply sp_back
    | with_reducible refine frz0_i ?_
    | ((with_reducible first | refine callN_i [] true (by simp) (by simp) ?_ | refine acallN_i true ?_); simp only [lPA, lPD, novO, setAll, seval, implies_true, pa_accs]; (refine ⟨_, h58, ?_⟩; rintro _ _ ⟨rfl, rfl⟩); simp only [lAL, lDF, tupA, eqA, isNil, slcNil, ptrCells, ptrAdd, cellsO, intA, boolA, readsV, readsP, isCall, wrote, srcOf, isNilSlice, Value.oneCell', seval, implies_true, forall_eq, ne_eq, lPA, lPD, novO, setAll, pa_accs])
    | ((with_reducible refine keep0_i ?_); simp only [lPA, lPD, novO, setAll, seval, implies_true])
    | simp (maxSteps := 1000000) (disch := omega) only [lAL, lDF, tupA, eqA, isNil, slcNil, ptrCells, ptrAdd, cellsO, intA, boolA, readsV, readsP, isCall, wrote, srcOf, isNilSlice, Value.oneCell', seval, implies_true, forall_eq, ne_eq, wrap_i64, LenR_ok, List.length_map, IdxR_ints, pa_accs])
  · rename_i hne
    have : ¬ OnceS h order := fun ⟨ol, ho⟩ => hne (by rw [ho.len])
    simp [this]
  rename_i heq
  refine loop_i (X := List Nat) (PreO h order) (fun ol => ⟨[(0, .view 6 (h.map accA)), (1, .view 1 (order.map (.int .i64))), (5, .int .i64 ol.length)], []⟩) (fun ol => order.length - ol.length) [] PreO.nil (Ent.to [] false (by simp) (by simp) rfl (by simp only [lPA, lPD, novO, setAll, seval, implies_true, pa_accs] <;> (try simp) <;> (try omega)) (by simp only [lPA, lPD, novO, setAll, seval, implies_true, pa_accs] <;> (try simp) <;> (try omega))) ?_
  intro ol hp
  by_cases hl : ol.length < order.length
  · have hno : (¬ ∃ n : Nat, order.getD ol.length 0 = n ∧ n < h.length ∧ (at' h n).done = true ∧ n ∉ ol) → ¬ OnceS h order := fun hh ⟨ol', ho⟩ => hh (ho.next hp hl)
    have hyes : ∀ n : Nat, order.getD ol.length 0 = n → n < h.length → (at' h n).done = true → n ∉ ol → PreO h order (ol ++ [n]) := fun n h1 h2 h3 h4 => hp.snoc hl h1 h2 h3 h4
    have htk : (order.map (AV.int .i64)).take ol.length = (natL ol).map (AV.int .i64) := by rw [← List.map_take, hp.eq]
    have e1 : ∀ {m N d k}, IdxR E.P m N (order.map (AV.int .i64)) (ol.length : Int) d k = rK E.P m N k d (.vp [.int .i64 (order.getD ol.length 0)]) := by
      intros; rw [IdxR_ints (by omega) (by omega), Int.toNat_natCast]
    generalize order.getD ol.length 0 = x at *
    by_cases hx : 0 ≤ x ∧ x < h.length
    · obtain ⟨n, rfl⟩ := Int.eq_ofNat_of_zero_le hx.1
      have hn : n < h.length := by omega
      have e2 : ∀ {m N d k}, IdxR E.P m N (h.map accA) (n : Int) d k = rK E.P m N k d (.vp (accC (at' h n))) := IdxR_at hn
      have k1 := c81 (natL ol) n
      simp only [mem_natL] at k1
      repeat' (first
        | (with_reducible first | apply cond_d | apply cond_nd | apply cond_i | apply guard_d | apply guard_nd | apply guard_df | apply guard_ndf | apply guard_i | apply ag_d | apply ag_nd | apply ag_df | apply ag_ndf | apply ag_i) <;> intro _
        | with_reducible first | refine LenR_i fun _ => ?_ | refine And.intro (by omega) ?_ | refine and_assoc.2 ?_ | apply sp_cond | apply sp_guard | apply sp_ag | apply sp_call | apply sp_acall | apply sp_loop | apply sp_any | apply sp_frz | apply sp_len | apply sp_idx | apply sp_keep | apply sp_back
        | with_reducible refine frz0_i ?_
        | with_reducible refine any_i [] ?_
        | ((with_reducible first | refine callN_i [] true (by simp) (by simp) ?_ | refine acallN_i true ?_); simp only [lPA, lPD, novO, setAll, seval, implies_true, e1, e2, accC, htk, pa_accs, List.length_map]; (refine ⟨_, k1, ?_⟩; rintro _ _ ⟨rfl, rfl⟩); simp only [lAL, lDF, tupA, eqA, isNil, slcNil, ptrCells, ptrAdd, cellsO, intA, boolA, readsV, readsP, isCall, wrote, srcOf, isNilSlice, Value.oneCell', seval, implies_true, forall_eq, ne_eq, lPA, lPD, novO, setAll, e1, e2, accC, htk, pa_accs, List.length_map])
        | ((with_reducible refine keep0_i ?_); simp only [lPA, lPD, novO, setAll, seval, implies_true])
        | simp (maxSteps := 1000000) (disch := omega) only [lAL, lDF, tupA, eqA, isNil, slcNil, ptrCells, ptrAdd, cellsO, intA, boolA, readsV, readsP, isCall, wrote, srcOf, isNilSlice, Value.oneCell', seval, implies_true, forall_eq, ne_eq, wrap_i64, LenR_ok, List.length_map, IdxR_ints, e1, e2, accC, htk, pa_accs, List.length_map])
      all_goals try (exfalso; omega)
      all_goals clear e1 e2 k1 htk
      · rename_i q1 q2
        have : ¬ OnceS h order := hno fun ⟨k, h1, _, h3, _⟩ => by
          have e := Int.ofNat.inj h1
          subst e
          rw [h3] at q2; cases q2
        simp [this]
      · rename_i q1 q2
        refine back_i (ol ++ [n]) (hyes n rfl hn (by simpa using q2) q1) (by simp; omega) (Ent.to [] false (by simp) (by simp) rfl (by simp only [lPA, lPD, novO, setAll, seval, implies_true, pa_accs, List.length_append, List.length_cons, List.length_nil] <;> (try simp) <;> (try omega)) (by simp only [lPA, lPD, novO, setAll, seval, implies_true, pa_accs, List.length_append, List.length_cons, List.length_nil] <;> (try simp) <;> (try omega)))
      · rename_i q1
        have : ¬ OnceS h order := hno fun ⟨k, h1, _, _, h4⟩ => by
          have e := Int.ofNat.inj h1
          subst e
          exact h4 q1
        simp [this]
    · have : ¬ OnceS h order := hno fun ⟨n, h1, h2, _⟩ => hx (by omega)
      repeat' (first
        | (with_reducible first | apply cond_d | apply cond_nd | apply cond_i | apply guard_d | apply guard_nd | apply guard_df | apply guard_ndf | apply guard_i | apply ag_d | apply ag_nd | apply ag_df | apply ag_ndf | apply ag_i) <;> intro _
        | with_reducible first | refine LenR_i fun _ => ?_ | refine And.intro (by omega) ?_ | refine and_assoc.2 ?_ | apply sp_cond | apply sp_guard | apply sp_ag | apply sp_call | apply sp_acall | apply sp_loop | apply sp_any | apply sp_frz | apply sp_len | apply sp_idx | apply sp_keep | apply sp_back
        | with_reducible refine frz0_i ?_
        | with_reducible refine any_i [] ?_
        | ((with_reducible refine keep0_i ?_); simp only [lPA, lPD, novO, setAll, seval, implies_true])
        | simp (maxSteps := 1000000) (disch := omega) only [lAL, lDF, tupA, eqA, isNil, slcNil, ptrCells, ptrAdd, cellsO, intA, boolA, readsV, readsP, isCall, wrote, srcOf, isNilSlice, Value.oneCell', seval, implies_true, forall_eq, ne_eq, wrap_i64, LenR_ok, List.length_map, IdxR_ints, e1, pa_accs])
      all_goals try (exfalso; omega)
      all_goals simp [this]
  · repeat' (first
      | (with_reducible first | apply cond_d | apply cond_nd | apply cond_i | apply guard_d | apply guard_nd | apply guard_df | apply guard_ndf | apply guard_i | apply ag_d | apply ag_nd | apply ag_df | apply ag_ndf | apply ag_i) <;> intro _
      | with_reducible first | refine LenR_i fun _ => ?_ | refine And.intro (by omega) ?_ | refine and_assoc.2 ?_ | apply sp_cond | apply sp_guard | apply sp_ag | apply sp_call | apply sp_acall | apply sp_loop | apply sp_any | apply sp_frz | apply sp_len | apply sp_idx | apply sp_keep | apply sp_back
      | with_reducible refine frz0_i ?_
      | ((with_reducible refine keep0_i ?_); simp only [lPA, lPD, novO, setAll, seval, implies_true])
      | simp (maxSteps := 1000000) (disch := omega) only [lAL, lDF, tupA, eqA, isNil, slcNil, ptrCells, ptrAdd, cellsO, intA, boolA, readsV, readsP, isCall, wrote, srcOf, isNilSlice, Value.oneCell', seval, implies_true, forall_eq, ne_eq, wrap_i64, LenR_ok, List.length_map, IdxR_ints])
    all_goals try (exfalso; omega)
    have : OnceS h order := by
      have e := hp.full (by omega)
      refine ⟨ol, e, hp.nodup, fun i => ⟨hp.ok i, fun hi => nodup_full hp.nodup (m := doneL h) (fun x hx => mem_doneL.2 (hp.ok x hx)) ?_ i (mem_doneL.2 hi)⟩⟩
      rw [e, natL_len] at heq
      omega
    simp [this]

def WOk (h : List Acc) (ol : List Nat) (k : Nat) : Prop := ∀ x ∈ (at' h (ol.getD k 0)).writes, lastW h ol x = srcV h x 1073741824
theorem eqv_once {h : List Acc} {ol : List Nat} (ho : OnceO h (natL ol) ol) (hc : checkS h = 0) : EqvS h (natL ol) ↔ ∀ k, k < ol.length → ReadsOk h ol k ∧ WOk h ol k := by
  constructor
  · rintro ⟨_, ol', he⟩ k hk
    cases he.same
    refine ⟨he.reads k hk, fun x hx => he.fin x fun hn => ?_⟩
    exact lastW_none.1 hn (ol.getD k 0) (by rw [getD_get hk]; exact List.getElem_mem hk) hx
  · intro hh
    refine ⟨hc, ol, rfl, ho.nodup, ho.mem, fun k hk => (hh k hk).1, fun x hx => ?_⟩
    obtain ⟨b, hb⟩ := Option.ne_none_iff_exists'.1 hx
    obtain ⟨h1, h2⟩ := lastW_some hb
    obtain ⟨k, hk, rfl⟩ := List.getElem_of_mem h1
    exact (hh k hk).2 x (by rw [getD_get hk]; exact h2)
theorem c33 (h : List Acc) (order : List Int) : ACalls E.P 33 [.view 6 (h.map accA), .view 1 (order.map (.int .i64))] [] (fun r H => r = .bool (decide (EqvS h order)) ∧ H = []) := by
  have hmax := maxLen_eq
  refine ok33.acalls hE hm (by simp) ?_
  unfold mc33
  have h66 := c66 h order
  have h19 := c19 h
  by_cases hpre : checkS h = 0 ∧ OnceS h order
  · obtain ⟨hck, ol, ho⟩ := hpre
    have hof : OnceS h order := ⟨ol, ho⟩
    obtain rfl := ho.eq
    have hiff := eqv_once ho hck
    have hol : ∀ i ∈ ol, i < h.length := fun i hi => ((ho.mem i).1 hi).1
    repeat' (first
      | (with_reducible first | apply cond_d | apply cond_nd | apply cond_i | apply guard_d | apply guard_nd | apply guard_df | apply guard_ndf | apply guard_i | apply ag_d | apply ag_nd | apply ag_df | apply ag_ndf | apply ag_i) <;> intro _
      | with_reducible first | refine LenR_i fun _ => ?_ | refine And.intro (by omega) ?_ | refine and_assoc.2 ?_ | apply sp_cond | apply sp_guard | apply sp_ag | apply sp_call | apply sp_acall | apply sp_loop | apply sp_any | apply sp_frz | apply sp_len | apply sp_idx | apply sp_keep | apply sp_back
      | with_reducible refine frz0_i ?_
      | ((with_reducible first | refine callN_i [] true (by simp) (by simp) ?_ | refine acallN_i true ?_); simp only [lPA, lPD, novO, setAll, seval, implies_true, pa_accs]; (first | (refine ⟨_, h66, ?_⟩; rintro _ _ ⟨rfl, rfl⟩) | (refine ⟨_, h19, ?_⟩; rintro _ _ ⟨rfl, rfl⟩)); simp only [lAL, lDF, tupA, eqA, isNil, slcNil, ptrCells, ptrAdd, cellsO, intA, boolA, readsV, readsP, isCall, wrote, srcOf, isNilSlice, Value.oneCell', seval, implies_true, forall_eq, ne_eq, lPA, lPD, novO, setAll, pa_accs])
      | ((with_reducible refine keep0_i ?_); simp only [lPA, lPD, novO, setAll, seval, implies_true])
      | simp (maxSteps := 1000000) (disch := omega) only [lAL, lDF, tupA, eqA, isNil, slcNil, ptrCells, ptrAdd, cellsO, intA, boolA, readsV, readsP, isCall, wrote, srcOf, isNilSlice, Value.oneCell', seval, implies_true, forall_eq, ne_eq, wrap_i64, LenR_ok, List.length_map, IdxR_ints, pa_accs])
    all_goals try (exfalso; omega)
    all_goals try (exfalso; simp_all; done)
    refine loop_i (fun i : Nat => i ≤ ol.length ∧ ∀ k, k < i → ReadsOk h ol k ∧ WOk h ol k) (fun i => ⟨[(0, .view 6 (h.map accA)), (1, .view 1 ((natL ol).map (.int .i64))), (6, .int .i64 i)], []⟩) (fun i => ol.length - i) 0 ⟨by omega, by omega⟩ (Ent.to [] false (by simp) (by simp) rfl (by simp only [lPA, lPD, novO, setAll, seval, implies_true, pa_accs] <;> (try simp) <;> (try omega)) (by simp only [lPA, lPD, novO, setAll, seval, implies_true, pa_accs] <;> (try simp) <;> (try omega))) ?_
    rintro i ⟨hi, hdone⟩
    by_cases hin : i < ol.length
    · have hb := hol _ (List.getElem_mem hin)
      have hgd : ol.getD i 0 = ol[i]'hin := getD_get hin
      have e1 : ∀ {m N d k}, IdxR E.P m N ((natL ol).map (.int .i64)) (i : Int) d k = rK E.P m N k d (.vp [.int .i64 ((ol[i]'hin : Nat) : Int)]) := by
        intros; rw [IdxR_nats hin]; simp [List.getElem?_eq_getElem hin]
      have e2 : ∀ {m N d k}, IdxR E.P m N (h.map accA) ((ol[i]'hin : Nat) : Int) d k = rK E.P m N k d (.vp (accC (at' h (ol[i]'hin)))) := IdxR_at hb
      have hro : ReadsOk h ol i ↔ ∀ x ∈ (at' h (ol[i]'hin)).reads, lastW h (ol.take i) x = srcV h x (at' h (ol[i]'hin)).snap := by unfold ReadsOk; rw [hgd]
      have hwo : WOk h ol i ↔ ∀ x ∈ (at' h (ol[i]'hin)).writes, lastW h ol x = srcV h x 1073741824 := by unfold WOk; rw [hgd]
      generalize hx : ol[i]'hin = b at *
      repeat' (first
        | (with_reducible first | apply cond_d | apply cond_nd | apply cond_i | apply guard_d | apply guard_nd | apply guard_df | apply guard_ndf | apply guard_i | apply ag_d | apply ag_nd | apply ag_df | apply ag_ndf | apply ag_i) <;> intro _
        | with_reducible first | refine LenR_i fun _ => ?_ | refine And.intro (by omega) ?_ | refine and_assoc.2 ?_ | apply sp_cond | apply sp_guard | apply sp_ag | apply sp_call | apply sp_acall | apply sp_loop | apply sp_any | apply sp_frz | apply sp_len | apply sp_idx | apply sp_keep | apply sp_back
        | with_reducible refine frz0_i ?_
        | simp (maxSteps := 1000000) (disch := omega) only [lAL, lDF, tupA, eqA, isNil, slcNil, ptrCells, ptrAdd, cellsO, intA, boolA, readsV, readsP, isCall, wrote, srcOf, isNilSlice, Value.oneCell', seval, implies_true, forall_eq, ne_eq, wrap_i64, LenR_ok, List.length_map, IdxR_ints, e1, e2, accC, natL_len])
      all_goals try (exfalso; omega)
      have hml : ol.length ≤ maxLen := by omega
      refine loop_i (fun k : Nat => k ≤ (at' h b).reads.length ∧ ∀ j, j < k → lastW h (ol.take i) ((at' h b).reads.getD j 0) = srcV h ((at' h b).reads.getD j 0) (at' h b).snap) (fun k => ⟨[(0, .view 6 (h.map accA)), (1, .view 1 ((natL ol).map (.int .i64))), (6, .int .i64 i), (7, .op 0 0), (8, .int .i64 k)], [.box (accC (at' h b))]⟩) (fun k => (at' h b).reads.length - k) 0 ⟨by omega, by omega⟩ (Ent.to [0] false (by simp) (by simp) rfl (by simp only [lPA, lPD, novO, setAll, seval, implies_true, pa_accs, accC] <;> (try simp) <;> (try omega)) (by simp only [lPA, lPD, novO, setAll, seval, implies_true, pa_accs, accC] <;> (try simp) <;> (try omega))) ?_
      rintro k ⟨hk, hread⟩
      by_cases hkn : k < (at' h b).reads.length
      · have e3 : ∀ {m N d c}, IdxR E.P m N ((at' h b).reads.map (AV.int .i64)) (k : Int) d c = rK E.P m N c d (.vp [.int .i64 ((at' h b).reads.getD k 0)]) := by
          intros; rw [IdxR_ints (by omega) (by omega), Int.toNat_natCast]
        have h67 := c67 h ol hol i hi hml ((at' h b).reads.getD k 0)
        have h68 := c68 h (at' h b).snap ((at' h b).reads.getD k 0)
        have hmem : (at' h b).reads.getD k 0 ∈ (at' h b).reads := by rw [getD_get hkn]; exact List.getElem_mem hkn
        generalize hy : (at' h b).reads.getD k 0 = y at e3 h67 h68 hmem
        repeat' (first
          | (with_reducible first | apply cond_d | apply cond_nd | apply cond_i | apply guard_d | apply guard_nd | apply guard_df | apply guard_ndf | apply guard_i | apply ag_d | apply ag_nd | apply ag_df | apply ag_ndf | apply ag_i) <;> intro _
          | with_reducible first | refine LenR_i fun _ => ?_ | refine And.intro (by omega) ?_ | refine and_assoc.2 ?_ | apply sp_cond | apply sp_guard | apply sp_ag | apply sp_call | apply sp_acall | apply sp_loop | apply sp_any | apply sp_frz | apply sp_len | apply sp_idx | apply sp_keep | apply sp_back
          | with_reducible refine frz0_i ?_
          | with_reducible refine any_i [] ?_
          | ((with_reducible first | refine callN_i [] true (by simp) (by simp) ?_ | refine acallN_i true ?_); simp only [lPA, lPD, novO, setAll, seval, implies_true, e3, accC, pa_accs, nextV_inj]; (first | (refine ⟨_, h67, ?_⟩; rintro _ _ ⟨rfl, rfl⟩) | (refine ⟨_, h68, ?_⟩; rintro _ _ ⟨rfl, rfl⟩)); simp only [lAL, lDF, tupA, eqA, isNil, slcNil, ptrCells, ptrAdd, cellsO, intA, boolA, readsV, readsP, isCall, wrote, srcOf, isNilSlice, Value.oneCell', seval, implies_true, forall_eq, ne_eq, lPA, lPD, novO, setAll, e3, accC, pa_accs, nextV_inj])
          | simp (maxSteps := 1000000) (disch := omega) only [lAL, lDF, tupA, eqA, isNil, slcNil, ptrCells, ptrAdd, cellsO, intA, boolA, readsV, readsP, isCall, wrote, srcOf, isNilSlice, Value.oneCell', seval, implies_true, forall_eq, ne_eq, wrap_i64, LenR_ok, List.length_map, IdxR_ints, e3, accC, pa_accs, nextV_inj])
        all_goals try (exfalso; omega)
        all_goals clear e1 e2 e3 h67 h68
        · rename_i hne
          have : ¬ EqvS h (natL ol) := fun he => hne (hro.1 (hiff.1 he i hin).1 y hmem)
          refine keep0_i ?_
          simp [this, lPA, lPD, novO, setAll, seval, implies_true]
        · rename_i heq
          refine back_i (k + 1) ⟨by omega, fun j hj => ?_⟩ (by omega) (Ent.to [0] false (by simp) (by simp) rfl (by simp only [lPA, lPD, novO, setAll, seval, implies_true, pa_accs, accC] <;> (try simp) <;> (try omega)) (by simp only [lPA, lPD, novO, setAll, seval, implies_true, pa_accs, accC] <;> (try simp) <;> (try omega)))
          by_cases e : j = k
          · subst e; rw [hy]; exact heq
          · exact hread j (by omega)
      · repeat' (first
          | (with_reducible first | apply cond_d | apply cond_nd | apply cond_i | apply guard_d | apply guard_nd | apply guard_df | apply guard_ndf | apply guard_i | apply ag_d | apply ag_nd | apply ag_df | apply ag_ndf | apply ag_i) <;> intro _
          | with_reducible first | refine LenR_i fun _ => ?_ | refine And.intro (by omega) ?_ | refine and_assoc.2 ?_ | apply sp_cond | apply sp_guard | apply sp_ag | apply sp_call | apply sp_acall | apply sp_loop | apply sp_any | apply sp_frz | apply sp_len | apply sp_idx | apply sp_keep | apply sp_back
          | with_reducible refine frz0_i ?_
          | simp (maxSteps := 1000000) (disch := omega) only [lAL, lDF, tupA, eqA, isNil, slcNil, ptrCells, ptrAdd, cellsO, intA, boolA, readsV, readsP, isCall, wrote, srcOf, isNilSlice, Value.oneCell', seval, implies_true, forall_eq, ne_eq, wrap_i64, LenR_ok, List.length_map, IdxR_ints, accC])
        all_goals try (exfalso; omega)
        have hreads : ReadsOk h ol i := hro.2 fun x hx => by
          obtain ⟨j, hj, rfl⟩ := mem_getD hx
          exact hread j (by omega)
        refine loop_i (fun k : Nat => k ≤ (at' h b).writes.length ∧ ∀ j, j < k → lastW h ol ((at' h b).writes.getD j 0) = srcV h ((at' h b).writes.getD j 0) 1073741824) (fun k => ⟨[(0, .view 6 (h.map accA)), (1, .view 1 ((natL ol).map (.int .i64))), (6, .int .i64 i), (7, .op 0 0), (9, .int .i64 k)], [.box (accC (at' h b))]⟩) (fun k => (at' h b).writes.length - k) 0 ⟨by omega, by omega⟩ (Ent.to [0] false (by simp) (by simp) rfl (by simp only [lPA, lPD, novO, setAll, seval, implies_true, pa_accs, accC] <;> (try simp) <;> (try omega)) (by simp only [lPA, lPD, novO, setAll, seval, implies_true, pa_accs, accC] <;> (try simp) <;> (try omega))) ?_
        rintro k ⟨hk, hwrite⟩
        by_cases hkn : k < (at' h b).writes.length
        · have e3 : ∀ {m N d c}, IdxR E.P m N ((at' h b).writes.map (AV.int .i64)) (k : Int) d c = rK E.P m N c d (.vp [.int .i64 ((at' h b).writes.getD k 0)]) := by
            intros; rw [IdxR_ints (by omega) (by omega), Int.toNat_natCast]
          have h67 := c67 h ol hol ol.length (Nat.le_refl _) hml ((at' h b).writes.getD k 0)
          have h68 := c68 h 1073741824 ((at' h b).writes.getD k 0)
          simp only [List.take_length] at h67
          have hmem : (at' h b).writes.getD k 0 ∈ (at' h b).writes := by rw [getD_get hkn]; exact List.getElem_mem hkn
          generalize hy : (at' h b).writes.getD k 0 = y at e3 h67 h68 hmem
          repeat' (first
            | (with_reducible first | apply cond_d | apply cond_nd | apply cond_i | apply guard_d | apply guard_nd | apply guard_df | apply guard_ndf | apply guard_i | apply ag_d | apply ag_nd | apply ag_df | apply ag_ndf | apply ag_i) <;> intro _
            | with_reducible first | refine LenR_i fun _ => ?_ | refine And.intro (by omega) ?_ | refine and_assoc.2 ?_ | apply sp_cond | apply sp_guard | apply sp_ag | apply sp_call | apply sp_acall | apply sp_loop | apply sp_any | apply sp_frz | apply sp_len | apply sp_idx | apply sp_keep | apply sp_back
            | with_reducible refine frz0_i ?_
            | with_reducible refine any_i [] ?_
            | ((with_reducible first | refine callN_i [] true (by simp) (by simp) ?_ | refine acallN_i true ?_); simp only [lPA, lPD, novO, setAll, seval, implies_true, e3, accC, pa_accs, natL_len]; (first | (refine ⟨_, h67, ?_⟩; rintro _ _ ⟨rfl, rfl⟩) | (refine ⟨_, h68, ?_⟩; rintro _ _ ⟨rfl, rfl⟩)); simp only [lAL, lDF, tupA, eqA, isNil, slcNil, ptrCells, ptrAdd, cellsO, intA, boolA, readsV, readsP, isCall, wrote, srcOf, isNilSlice, Value.oneCell', seval, implies_true, forall_eq, ne_eq, lPA, lPD, novO, setAll, e3, accC, pa_accs, natL_len])
            | simp (maxSteps := 1000000) (disch := omega) only [lAL, lDF, tupA, eqA, isNil, slcNil, ptrCells, ptrAdd, cellsO, intA, boolA, readsV, readsP, isCall, wrote, srcOf, isNilSlice, Value.oneCell', seval, implies_true, forall_eq, ne_eq, wrap_i64, LenR_ok, List.length_map, IdxR_ints, e3, accC, pa_accs, natL_len])
          all_goals try (exfalso; omega)
          all_goals clear e1 e2 e3 h67 h68
          · rename_i hne
            have : ¬ EqvS h (natL ol) := fun he => hne (congrArg nextV (hwo.1 (hiff.1 he i hin).2 y hmem))
            refine keep0_i ?_
            simp [this, lPA, lPD, novO, setAll, seval, implies_true]
          · rename_i heq
            refine back_i (k + 1) ⟨by omega, fun j hj => ?_⟩ (by omega) (Ent.to [0] false (by simp) (by simp) rfl (by simp only [lPA, lPD, novO, setAll, seval, implies_true, pa_accs, accC] <;> (try simp) <;> (try omega)) (by simp only [lPA, lPD, novO, setAll, seval, implies_true, pa_accs, accC] <;> (try simp) <;> (try omega)))
            by_cases e : j = k
            · subst e; rw [hy]; exact nextV_inj.1 heq
            · exact hwrite j (by omega)
        · repeat' (first
            | (with_reducible first | apply cond_d | apply cond_nd | apply cond_i | apply guard_d | apply guard_nd | apply guard_df | apply guard_ndf | apply guard_i | apply ag_d | apply ag_nd | apply ag_df | apply ag_ndf | apply ag_i) <;> intro _
            | with_reducible first | refine LenR_i fun _ => ?_ | refine And.intro (by omega) ?_ | refine and_assoc.2 ?_ | apply sp_cond | apply sp_guard | apply sp_ag | apply sp_call | apply sp_acall | apply sp_loop | apply sp_any | apply sp_frz | apply sp_len | apply sp_idx | apply sp_keep | apply sp_back
            | with_reducible refine frz0_i ?_
            | simp (maxSteps := 1000000) (disch := omega) only [lAL, lDF, tupA, eqA, isNil, slcNil, ptrCells, ptrAdd, cellsO, intA, boolA, readsV, readsP, isCall, wrote, srcOf, isNilSlice, Value.oneCell', seval, implies_true, forall_eq, ne_eq, wrap_i64, LenR_ok, List.length_map, IdxR_ints, accC])
          all_goals try (exfalso; omega)
          have hwr : WOk h ol i := hwo.2 fun x hx => by
            obtain ⟨j, hj, rfl⟩ := mem_getD hx
            exact hwrite j (by omega)
          refine back_i (i + 1) ⟨by omega, fun k hk => ?_⟩ (by omega) (Ent.to [] false (by simp) (by simp) rfl (by simp only [lPA, lPD, novO, setAll, seval, implies_true, pa_accs, accC] <;> (try simp) <;> (try omega)) (by simp only [lPA, lPD, novO, setAll, seval, implies_true, pa_accs, accC] <;> (try simp) <;> (try omega)))
          by_cases e : k = i
          · subst e; exact ⟨hreads, hwr⟩
          · exact hdone k (by omega)
    · have e : i = ol.length := by omega
      subst e
      repeat' (first
        | (with_reducible first | apply cond_d | apply cond_nd | apply cond_i | apply guard_d | apply guard_nd | apply guard_df | apply guard_ndf | apply guard_i | apply ag_d | apply ag_nd | apply ag_df | apply ag_ndf | apply ag_i) <;> intro _
        | with_reducible first | refine LenR_i fun _ => ?_ | refine And.intro (by omega) ?_ | refine and_assoc.2 ?_ | apply sp_cond | apply sp_guard | apply sp_ag | apply sp_call | apply sp_acall | apply sp_loop | apply sp_any | apply sp_frz | apply sp_len | apply sp_idx | apply sp_keep | apply sp_back
        | with_reducible refine frz0_i ?_
        | simp (maxSteps := 1000000) (disch := omega) only [lAL, lDF, tupA, eqA, isNil, slcNil, ptrCells, ptrAdd, cellsO, intA, boolA, readsV, readsP, isCall, wrote, srcOf, isNilSlice, Value.oneCell', seval, implies_true, forall_eq, ne_eq, wrap_i64, LenR_ok, List.length_map, IdxR_ints, natL_len])
      all_goals try (exfalso; omega)
      have : EqvS h (natL ol) := hiff.2 hdone
      refine keep0_i ?_
      simp [this, lPA, lPD, novO, setAll, seval, implies_true]
  · have : ¬ EqvS h order := fun ⟨hc, ol, he⟩ => hpre ⟨hc, ol, he.eq, he.nodup, he.mem⟩
    repeat' (first
      | (with_reducible first | apply cond_d | apply cond_nd | apply cond_i | apply guard_d | apply guard_nd | apply guard_df | apply guard_ndf | apply guard_i | apply ag_d | apply ag_nd | apply ag_df | apply ag_ndf | apply ag_i) <;> intro _
      | with_reducible first | refine LenR_i fun _ => ?_ | refine And.intro (by omega) ?_ | refine and_assoc.2 ?_ | apply sp_cond | apply sp_guard | apply sp_ag | apply sp_call | apply sp_acall | apply sp_loop | apply sp_any | apply sp_frz | apply sp_len | apply sp_idx | apply sp_keep | apply sp_back
      | with_reducible refine frz0_i ?_
      | ((with_reducible first | refine callN_i [] true (by simp) (by simp) ?_ | refine acallN_i true ?_); simp only [lPA, lPD, novO, setAll, seval, implies_true, pa_accs]; (first | (refine ⟨_, h66, ?_⟩; rintro _ _ ⟨rfl, rfl⟩) | (refine ⟨_, h19, ?_⟩; rintro _ _ ⟨rfl, rfl⟩)); simp only [lAL, lDF, tupA, eqA, isNil, slcNil, ptrCells, ptrAdd, cellsO, intA, boolA, readsV, readsP, isCall, wrote, srcOf, isNilSlice, Value.oneCell', seval, implies_true, forall_eq, ne_eq, lPA, lPD, novO, setAll, pa_accs])
      | ((with_reducible refine keep0_i ?_); simp only [lPA, lPD, novO, setAll, seval, implies_true])
      | simp (maxSteps := 1000000) (disch := omega) only [lAL, lDF, tupA, eqA, isNil, slcNil, ptrCells, ptrAdd, cellsO, intA, boolA, readsV, readsP, isCall, wrote, srcOf, isNilSlice, Value.oneCell', seval, implies_true, forall_eq, ne_eq, wrap_i64, LenR_ok, List.length_map, IdxR_ints, pa_accs])
    all_goals try (exfalso; omega)
    all_goals try (exfalso; simp_all; done)
    all_goals simp [this]
end Go.Proofs.Try
