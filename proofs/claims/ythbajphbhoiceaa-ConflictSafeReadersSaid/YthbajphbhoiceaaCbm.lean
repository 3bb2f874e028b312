/-
  A part of the proof: see the text of the law.
-/
import Derived.Test.YthbajphbhoiceaaCbi
set_option linter.unusedSimpArgs false
set_option linter.unusedVariables false
namespace Go.Proofs.Try
open Go.Al
set_option linter.unusedVariables false
set_option linter.unusedSimpArgs false
open Classical
set_option maxHeartbeats 8000000

/-- The places of transactions in an order. -/
def PlI (h : List Acc) (ol : List Nat) (i : Nat) (es : List Int) : Prop := es.length = h.length ∧ ∀ j, j < i → es.getD (ol.getD j 0) 0 = j
theorem PlI.step {h : List Acc} {ol : List Nat} {i n : Nat} {es : List Int} (hp : PlI h ol i es) (hi : i < ol.length) (hn : ol.getD i 0 = n) (hl : n < h.length) (hnd : ol.Nodup) : PlI h ol (i + 1) (es.set n i) := by
  refine ⟨by simpa using hp.1, fun j hj => ?_⟩
  by_cases e : j = i
  · subst e
    rw [hn, getD_set_self (by rw [hp.1]; exact hl)]
  · have hji : j < i := by omega
    have hne : ol.getD j 0 ≠ n := by
      rw [← hn, getD_get hi, getD_get (by omega)]
      intro e2
      exact e ((List.getElem_inj hnd).1 e2)
    rw [← hp.2 j hji]
    have hne' : n ≠ ol[j]?.getD 0 := by simpa using Ne.symm hne
    simp only [List.getD_eq_getElem?_getD, List.getElem?_set_ne hne']
/-- Every edge leads to a later place. -/
def FwdO (h : List Acc) (ol : List Nat) : Prop := ∀ a b, Edge h a b → ∃ i j, i < j ∧ j < ol.length ∧ ol.getD i 0 = a ∧ ol.getD j 0 = b
theorem c38 (h : List Acc) (ol : List Nat) (hck : checkS h = 0) (hol : ∀ i ∈ ol, i < h.length) (hnd : ol.Nodup) (hf : FwdO h ol) : ACalls E.P 38 [.view 6 (h.map accA), .view 1 ((natL ol).map (.int .i64))] [] (fun r H => r = .bool true ∧ H = []) := by
  have hmax := maxLen_eq
  refine ok38.acalls hE hm (by simp) ?_
  unfold mc38
  have hlen := checkS_len hck
  have h23 := c23 h
  simp only [pairsA] at h23
  have hps : pairsS h (Edge h) = pairsTo (Edge h) h.length h.length := by rw [pairsS, if_pos hck]
  rw [hps] at h23
  repeat' (first
    | (with_reducible first | apply cond_d | apply cond_nd | apply cond_i | apply guard_d | apply guard_nd | apply guard_df | apply guard_ndf | apply guard_i | apply ag_d | apply ag_nd | apply ag_df | apply ag_ndf | apply ag_i) <;> intro _
    | with_reducible first | refine LenR_i fun _ => ?_ | refine And.intro (by omega) ?_ | refine and_assoc.2 ?_ | apply sp_cond | apply sp_guard | apply sp_ag | apply sp_call | apply sp_acall | apply sp_loop | apply sp_any | apply sp_frz | apply sp_len | apply sp_idx | apply sp_keep | apply sp_back
    | with_reducible refine frz0_i ?_
    | simp (maxSteps := 1000000) (disch := omega) only [lAL, lDF, tupA, eqA, isNil, slcNil, ptrCells, ptrAdd, cellsO, intA, boolA, readsV, readsP, isCall, wrote, srcOf, isNilSlice, Value.oneCell', seval, implies_true, forall_eq, ne_eq, wrap_i64, LenR_ok, List.length_map, IdxR_ints, pa_accs])
  all_goals try (exfalso; omega)
  refine loop_i (X := Nat × List Int) (fun x => x.1 ≤ ol.length ∧ PlI h ol x.1 x.2) (fun x => ⟨[(0, .view 6 (h.map accA)), (1, .view 1 ((natL ol).map (.int .i64))), (5, .slc 0 1 h.length), (6, .int .i64 x.1)], [.arr 3 1 (x.2.map (AV.int .i64))]⟩) (fun x => ol.length - x.1) (0, List.replicate h.length 0) ⟨by simp, by simp, by omega⟩ (Ent.to [0] false (by simp) (by simp) rfl (by simp only [lPA, lPD, novO, setAll, seval, implies_true, pa_accs, List.map_replicate] <;> (try simp) <;> (try omega)) (by simp only [lPA, lPD, novO, setAll, seval, implies_true, pa_accs, List.map_replicate] <;> (try simp) <;> (try omega))) ?_
  rintro ⟨i, es⟩ ⟨hi, hp⟩
  simp only at hi hp
  by_cases hin : i < ol.length
  · have hb := hol _ (List.getElem_mem hin)
    have hgd : ol.getD i 0 = ol[i]'hin := getD_get hin
    have e1 : ∀ {m N d k}, IdxR E.P m N ((natL ol).map (.int .i64)) (i : Int) d k = rK E.P m N k d (.vp [.int .i64 ((ol[i]'hin : Nat) : Int)]) := by
      intros; rw [IdxR_nats hin]; simp [List.getElem?_eq_getElem hin]
    generalize hx : ol[i]'hin = n at *
    have ep1 : ∀ {m N d c}, epR E.P m N (some (.arr 3 1 (es.map (AV.int .i64)))) (n : Int) h.length 0 1 d c = rK E.P m N c d (.ep 0 1 n 0) := epR_ne (by simp [hp.1]) (by omega) (by omega)
    have g1 : (es.map (AV.int .i64))[n]? = some (.int .i64 (es.getD n 0)) := ints_get (by rw [hp.1]; exact hb)
    have s1 : ∀ {m N v y fr H q}, stE E.P m N (some (.arr 3 1 (es.map (AV.int .i64)))) 1 [y] (.int .i64 v) 0 1 n 0 fr H q = rE E.P m N q fr (H.set 0 (.arr 3 1 ((es.set n v).map (AV.int .i64)))) := stE_int (by rw [hp.1]; exact hb) rfl
    repeat' (first
      | (with_reducible first | apply cond_d | apply cond_nd | apply cond_i | apply guard_d | apply guard_nd | apply guard_df | apply guard_ndf | apply guard_i | apply ag_d | apply ag_nd | apply ag_df | apply ag_ndf | apply ag_i) <;> intro _
      | with_reducible first | refine LenR_i fun _ => ?_ | refine And.intro (by omega) ?_ | refine and_assoc.2 ?_ | apply sp_cond | apply sp_guard | apply sp_ag | apply sp_call | apply sp_acall | apply sp_loop | apply sp_any | apply sp_frz | apply sp_len | apply sp_idx | apply sp_keep | apply sp_back
      | with_reducible refine frz0_i ?_
      | simp (maxSteps := 1000000) (disch := omega) only [lAL, lDF, tupA, eqA, isNil, slcNil, ptrCells, ptrAdd, cellsO, intA, boolA, readsV, readsP, isCall, wrote, srcOf, isNilSlice, Value.oneCell', seval, implies_true, forall_eq, ne_eq, wrap_i64, LenR_ok, List.length_map, IdxR_ints, e1, ep1, g1, s1, natL_len])
    all_goals try (exfalso; omega)
    refine back_i (i + 1, es.set n i) ⟨by simp only; omega, hp.step hin hgd hb hnd⟩ (by simp only; omega) (Ent.to [0] false (by simp) (by simp) rfl (by simp only [lPA, lPD, novO, setAll, seval, implies_true, pa_accs] <;> (try simp) <;> (try omega)) (by simp only [lPA, lPD, novO, setAll, seval, implies_true, pa_accs] <;> (try simp) <;> (try omega)))
  · have e : i = ol.length := by omega
    subst e
    repeat' (first
      | (with_reducible first | apply cond_d | apply cond_nd | apply cond_i | apply guard_d | apply guard_nd | apply guard_df | apply guard_ndf | apply guard_i | apply ag_d | apply ag_nd | apply ag_df | apply ag_ndf | apply ag_i) <;> intro _
      | with_reducible first | refine LenR_i fun _ => ?_ | refine And.intro (by omega) ?_ | refine and_assoc.2 ?_ | apply sp_cond | apply sp_guard | apply sp_ag | apply sp_call | apply sp_acall | apply sp_loop | apply sp_any | apply sp_frz | apply sp_len | apply sp_idx | apply sp_keep | apply sp_back
      | with_reducible refine frz0_i ?_
      | ((with_reducible first | refine callN_i [] false (by simp) (by simp) ?_ | refine acallN_i false ?_); simp only [lPA, lPD, novO, setAll, seval, implies_true, natL_len, pa_accs]; (refine ⟨_, h23, ?_⟩; rintro _ _ ⟨rfl, rfl⟩); simp only [lAL, lDF, tupA, eqA, isNil, slcNil, ptrCells, ptrAdd, cellsO, intA, boolA, readsV, readsP, isCall, wrote, srcOf, isNilSlice, Value.oneCell', seval, implies_true, forall_eq, ne_eq, lPA, lPD, novO, setAll, natL_len, pa_accs])
      | simp (maxSteps := 1000000) (disch := omega) only [lAL, lDF, tupA, eqA, isNil, slcNil, ptrCells, ptrAdd, cellsO, intA, boolA, readsV, readsP, isCall, wrote, srcOf, isNilSlice, Value.oneCell', seval, implies_true, forall_eq, ne_eq, wrap_i64, LenR_ok, List.length_map, IdxR_ints, natL_len, pa_accs])
    all_goals try (exfalso; omega)
    refine loop_i (fun k : Nat => k ≤ (pairsTo (Edge h) h.length h.length).length) (fun k => ⟨[(0, .view 6 (h.map accA)), (5, .slc 0 1 h.length), (7, .view 2 ((pairsTo (Edge h) h.length h.length).map pairA)), (8, .int .i64 k)], [.arr 3 1 (es.map (AV.int .i64))]⟩) (fun k => (pairsTo (Edge h) h.length h.length).length - k) 0 (by omega) (Ent.to [0] false (by simp) (by simp) rfl (by simp only [lPA, lPD, novO, setAll, seval, implies_true, pa_accs] <;> (try simp) <;> (try omega)) (by simp only [lPA, lPD, novO, setAll, seval, implies_true, pa_accs] <;> (try simp) <;> (try omega))) ?_
    intro k hk
    by_cases hkn : k < (pairsTo (Edge h) h.length h.length).length
    · have e1 : ∀ {m N d c}, IdxR E.P m N ((pairsTo (Edge h) h.length h.length).map pairA) (k : Int) d c = rK E.P m N c d (.vp [.int .i64 ((pairsTo (Edge h) h.length h.length).getD k default).1, .int .i64 ((pairsTo (Edge h) h.length h.length).getD k default).2]) := IdxR_prs hkn
      have hm : (pairsTo (Edge h) h.length h.length).getD k default ∈ pairsTo (Edge h) h.length h.length := by rw [getD_ge hkn]; exact List.getElem_mem hkn
      generalize (pairsTo (Edge h) h.length h.length).getD k default = p at e1 hm
      obtain ⟨a, b⟩ := p
      obtain ⟨m1, m2, m3⟩ := mem_pairsTo.1 hm
      simp only at m1 m2 m3 e1
      obtain ⟨i, j, hij, hj, rfl, rfl⟩ := hf a b m3
      have p1 := hp.2 i (by omega)
      have p2 := hp.2 j hj
      generalize ol.getD i 0 = a at *
      generalize ol.getD j 0 = b at *
      have ep1 : ∀ {m N d c}, epR E.P m N (some (.arr 3 1 (es.map (AV.int .i64)))) (a : Int) h.length 0 1 d c = rK E.P m N c d (.ep 0 1 a 0) := epR_ne (by simp [hp.1]) (by omega) (by omega)
      have ep2 : ∀ {m N d c}, epR E.P m N (some (.arr 3 1 (es.map (AV.int .i64)))) (b : Int) h.length 0 1 d c = rK E.P m N c d (.ep 0 1 b 0) := epR_ne (by simp [hp.1]) (by omega) (by omega)
      have g1 : (es.map (AV.int .i64))[a]? = some (.int .i64 (i : Int)) := by rw [← p1]; exact ints_get (by rw [hp.1]; exact m1)
      have g2 : (es.map (AV.int .i64))[b]? = some (.int .i64 (j : Int)) := by rw [← p2]; exact ints_get (by rw [hp.1]; exact m2)
      repeat' (first
        | (with_reducible first | apply cond_d | apply cond_nd | apply cond_i | apply guard_d | apply guard_nd | apply guard_df | apply guard_ndf | apply guard_i | apply ag_d | apply ag_nd | apply ag_df | apply ag_ndf | apply ag_i) <;> intro _
        | with_reducible first | refine LenR_i fun _ => ?_ | refine And.intro (by omega) ?_ | refine and_assoc.2 ?_ | apply sp_cond | apply sp_guard | apply sp_ag | apply sp_call | apply sp_acall | apply sp_loop | apply sp_any | apply sp_frz | apply sp_len | apply sp_idx | apply sp_keep | apply sp_back
        | with_reducible refine frz0_i ?_
        | with_reducible refine any_i [] ?_
        | simp (maxSteps := 1000000) (disch := omega) only [lAL, lDF, tupA, eqA, isNil, slcNil, ptrCells, ptrAdd, cellsO, intA, boolA, readsV, readsP, isCall, wrote, srcOf, isNilSlice, Value.oneCell', seval, implies_true, forall_eq, ne_eq, wrap_i64, LenR_ok, List.length_map, IdxR_ints, e1, ep1, ep2, g1, g2])
      all_goals try (exfalso; omega)
      refine back_i (k + 1) (by omega) (by omega) (Ent.to [0] false (by simp) (by simp) rfl (by simp only [lPA, lPD, novO, setAll, seval, implies_true, pa_accs] <;> (try simp) <;> (try omega)) (by simp only [lPA, lPD, novO, setAll, seval, implies_true, pa_accs] <;> (try simp) <;> (try omega)))
    · repeat' (first
        | (with_reducible first | apply cond_d | apply cond_nd | apply cond_i | apply guard_d | apply guard_nd | apply guard_df | apply guard_ndf | apply guard_i | apply ag_d | apply ag_nd | apply ag_df | apply ag_ndf | apply ag_i) <;> intro _
        | with_reducible first | refine LenR_i fun _ => ?_ | refine And.intro (by omega) ?_ | refine and_assoc.2 ?_ | apply sp_cond | apply sp_guard | apply sp_ag | apply sp_call | apply sp_acall | apply sp_loop | apply sp_any | apply sp_frz | apply sp_len | apply sp_idx | apply sp_keep | apply sp_back
        | with_reducible refine frz0_i ?_
        | simp (maxSteps := 1000000) (disch := omega) only [lAL, lDF, tupA, eqA, isNil, slcNil, ptrCells, ptrAdd, cellsO, intA, boolA, readsV, readsP, isCall, wrote, srcOf, isNilSlice, Value.oneCell', seval, implies_true, forall_eq, ne_eq, wrap_i64, LenR_ok, List.length_map, IdxR_ints])
      all_goals try (exfalso; omega)
      refine keep0_i ?_
      simp [lPA, lPD, novO, setAll, seval, implies_true]
end Go.Proofs.Try
