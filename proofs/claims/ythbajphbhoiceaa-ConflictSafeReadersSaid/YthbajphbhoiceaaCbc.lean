/-
  A part of the proof: see the text of the law.
-/
import Derived.Test.YthbajphbhoiceaaCbb
import Derived.Test.YthbajphbhoiceaaCam
set_option linter.unusedSimpArgs false
set_option linter.unusedVariables false
namespace Go.Proofs.Try
open Go.Al
set_option linter.unusedVariables false
set_option linter.unusedSimpArgs false
open Classical
set_option maxHeartbeats 8000000

theorem renL_accs {ρ : Nat → Nat} {xs : List Acc} : renL ρ (xs.map accA) = xs.map accA := renL_map (fun x => by simp [accA_eq, ren, renL, renL_ints]) xs
theorem Pred3_70 (n : Nat) : Pred3 70 [] [.vp [.int .i64 n]] (fun a b c => a = n ∨ b = n ∨ c = n) where
  calls := fun a b c => (c70 a b c n).mono fun r H ⟨h1, h2⟩ => ⟨by rw [h1]; congr, h2⟩
  first := fun _ _ _ _ => rfl
  caps := fun _ _ _ n => by cases n <;> rfl
theorem lastTo_le {h : List Acc} (hc : checkS h = 0) : ∀ {m : Nat}, m ≤ h.length → lastTo h m ≤ 1073741824
  | 0, _ => by simp [lastTo]
  | m + 1, hm => by
    have := lastTo_le hc (m := m) (by omega)
    obtain ⟨f1, f2, f3, f4, f5, f6, f7, f8, f9⟩ := check_formed hc m (by omega)
    simp only [lastTo]
    have : (at' h m).stamp ≤ 1073741824 := by
      by_cases hw : (at' h m).writer = true
      · exact (f8 hw).2
      · have := f9 (by simpa using hw); omega
    omega
theorem lastS_le {h : List Acc} (hc : checkS h = 0) : lastS h ≤ 1073741824 := lastTo_le hc (Nat.le_refl _)
/-! ### what Admit answers -/
def LostW (h : List Acc) (n : Nat) : Prop := ∃ k, k < h.length ∧ (at' h k).done = true ∧ Meet (at' h n).writes (at' h k).writes ∧ (at' h n).snap < (at' h k).stamp
def DangW (h : List Acc) (n : Nat) : Prop := ∃ a b c, a < h.length ∧ b < h.length ∧ c < h.length ∧ Dang (withS h n (stampS h n)) a b c ∧ (a = n ∨ b = n ∨ c = n)
noncomputable def admitN (h : List Acc) (n : Nat) : Int × Int :=
  if 1073741824 < stampS h n then (0, 2) else if LostW h n then (0, 271) else if (at' h n).mode = 1 ∧ DangW h n then (0, 272) else (stampS h n, 0)
noncomputable def admitS (h : List Acc) (i : Int) : Int × Int :=
  if checkS h ≠ 0 then (0, checkS h) else if ¬ (0 ≤ i ∧ i < h.length ∧ (at' h i.toNat).done = false) then (0, 1) else admitN h i.toNat
def admitA (p : Int × Int) : AV := .tup [.int .i64 p.1, .int .i64 p.2]
theorem admitN_ok {h : List Acc} {n : Nat} (h1 : ¬ 1073741824 < stampS h n) (h2 : ¬ LostW h n) (h3 : ¬ ((at' h n).mode = 1 ∧ DangW h n)) : admitN h n = (stampS h n, 0) := by
  rw [admitN, if_neg h1, if_neg h2, if_neg h3]
theorem admitN_dang {h : List Acc} {n : Nat} (h1 : ¬ 1073741824 < stampS h n) (h2 : ¬ LostW h n) (h3 : (at' h n).mode = 1) (h4 : DangW h n) : admitN h n = (0, 272) := by
  rw [admitN, if_neg h1, if_neg h2, if_pos ⟨h3, h4⟩]
def Lost1 (h : List Acc) (n k : Nat) : Prop := (at' h k).writer = true ∧ (at' h n).snap < (at' h k).stamp ∧ Meet (at' h n).writes (at' h k).writes
theorem lost_iff {h : List Acc} {n : Nat} : (∀ j, j < h.length → ¬ Lost1 h n j) ↔ ¬ LostW h n := by
  constructor
  · rintro hh ⟨k, hk, hd, hm, hs⟩
    refine hh k hk ⟨?_, hs, hm⟩
    obtain ⟨x, _, hx⟩ := hm
    simp only [Acc.writer, hd, List.length_pos_of_mem hx, decide_true, Bool.and_self]
  · rintro hh j hj ⟨h1, h2, h3⟩
    exact hh ⟨j, hj, by simp only [Acc.writer, Bool.and_eq_true] at h1; exact h1.1, h3, h2⟩
theorem forall_lt_succ {p : Nat → Prop} {k : Nat} : (∀ j, j < k + 1 → p j) ↔ (∀ j, j < k → p j) ∧ p k :=
  ⟨fun h => ⟨fun j hj => h j (by omega), h k (by omega)⟩, fun ⟨h1, h2⟩ j hj => by
    by_cases e : j = k
    · subst e; exact h2
    · exact h1 j (by omega)⟩
theorem c34 (h : List Acc) (i : Int) : ACalls E.P 34 [.view 6 (h.map accA), .int .i64 i] [] (fun r H => r = admitA (admitS h i) ∧ H = []) := by
  have hmax := maxLen_eq
  refine ok34.acalls hE hm (by simp) ?_
  unfold mc34
  have h18 := c18 h
  by_cases hck : checkS h = 0
  · by_cases hi : 0 ≤ i ∧ i < h.length
    · obtain ⟨n, rfl⟩ := Int.eq_ofNat_of_zero_le hi.1
      have hn : n < h.length := by omega
      have e1 : ∀ {m N d k}, IdxR E.P m N (h.map accA) (n : Int) d k = rK E.P m N k d (.vp (accC (at' h n))) := IdxR_at hn
      cases hd : (at' h n).done with
      | true =>
        have hs : admitS h n = (0, 1) := by simp only [admitS, Int.toNat_natCast]; rw [if_neg (by simp [hck]), if_pos (fun hh => by rw [hd] at hh; cases hh.2.2)]
        repeat' (first
          | (with_reducible first | apply cond_d | apply cond_nd | apply cond_i | apply guard_d | apply guard_nd | apply guard_df | apply guard_ndf | apply guard_i | apply ag_d | apply ag_nd | apply ag_df | apply ag_ndf | apply ag_i) <;> intro _
          | with_reducible first | refine LenR_i fun _ => ?_ | refine And.intro (by omega) ?_ | refine and_assoc.2 ?_ | apply sp_cond | apply sp_guard | apply sp_ag | apply sp_call | apply sp_acall | apply sp_loop | apply sp_any | apply sp_frz | apply sp_len | apply sp_idx | apply sp_keep | apply sp_back
          | with_reducible refine frz0_i ?_
          | ((with_reducible first | refine callN_i [] true (by simp) (by simp) ?_ | refine acallN_i true ?_); simp only [lPA, lPD, novO, setAll, seval, implies_true, e1, accC, hd, pa_accs]; (refine ⟨_, h18, ?_⟩; rintro _ _ ⟨rfl, rfl⟩); simp only [lAL, lDF, tupA, eqA, isNil, slcNil, ptrCells, ptrAdd, cellsO, intA, boolA, readsV, readsP, isCall, wrote, srcOf, isNilSlice, Value.oneCell', seval, implies_true, forall_eq, ne_eq, lPA, lPD, novO, setAll, e1, accC, hd, pa_accs])
          | ((with_reducible refine keep0_i ?_); simp only [lPA, lPD, novO, setAll, seval, implies_true])
          | simp (maxSteps := 1000000) (disch := omega) only [lAL, lDF, tupA, eqA, isNil, slcNil, ptrCells, ptrAdd, cellsO, intA, boolA, readsV, readsP, isCall, wrote, srcOf, isNilSlice, Value.oneCell', seval, implies_true, forall_eq, ne_eq, wrap_i64, LenR_ok, List.length_map, IdxR_ints, e1, accC, hd, pa_accs])
        all_goals try (exfalso; omega)
        all_goals simp [hs, admitA]
      | false =>
        have hs : admitS h n = admitN h n := by simp only [admitS, Int.toNat_natCast]; rw [if_neg (by simp [hck]), if_neg (fun hh => hh ⟨by omega, by omega, hd⟩)]
        rw [hs]
        have hfm : (at' h n).Formed := check_formed hck n hn
        have hne : h ≠ [] := by rintro rfl; simp at hn
        have hlen := checkS_len hck
        have h69 := c69 h hne hlen
        have hll := lastS_le hck
        by_cases hw : 0 < (at' h n).writes.length
        · have hst : stampS h n = lastS h + 1 := by simp only [stampS, if_pos hw]
          have h44 := c44 (at' h n).writes
          repeat' (first
            | (with_reducible first | apply cond_d | apply cond_nd | apply cond_i | apply guard_d | apply guard_nd | apply guard_df | apply guard_ndf | apply guard_i | apply ag_d | apply ag_nd | apply ag_df | apply ag_ndf | apply ag_i) <;> intro _
            | with_reducible first | refine LenR_i fun _ => ?_ | refine And.intro (by omega) ?_ | refine and_assoc.2 ?_ | apply sp_cond | apply sp_guard | apply sp_ag | apply sp_call | apply sp_acall | apply sp_loop | apply sp_any | apply sp_frz | apply sp_len | apply sp_idx | apply sp_keep | apply sp_back
            | with_reducible refine frz0_i ?_
            | ((with_reducible first | refine callN_i [] true (by simp) (by simp) ?_ | refine acallN_i true ?_); simp only [lPA, lPD, novO, setAll, seval, implies_true, e1, accC, hd, pa_accs, renL_trues, novL_trues]; (first | (refine ⟨_, h18, ?_⟩; rintro _ _ ⟨rfl, rfl⟩) | (refine ⟨_, h44, ?_⟩; rintro _ _ ⟨rfl, ws, wb, wc, rfl, hws⟩)); simp only [lAL, lDF, tupA, eqA, isNil, slcNil, ptrCells, ptrAdd, cellsO, intA, boolA, readsV, readsP, isCall, wrote, srcOf, isNilSlice, Value.oneCell', seval, implies_true, forall_eq, ne_eq, lPA, lPD, novO, setAll, e1, accC, hd, pa_accs, renL_trues, novL_trues])
            | simp (maxSteps := 1000000) (disch := omega) only [lAL, lDF, tupA, eqA, isNil, slcNil, ptrCells, ptrAdd, cellsO, intA, boolA, readsV, readsP, isCall, wrote, srcOf, isNilSlice, Value.oneCell', seval, implies_true, forall_eq, ne_eq, wrap_i64, LenR_ok, List.length_map, IdxR_ints, e1, accC, hd, pa_accs, renL_trues, novL_trues])
          all_goals try (exfalso; omega)
          refine loop_i (fun k : Nat => k ≤ h.length) (fun k => ⟨[(0, .view 6 (h.map accA)), (3, .op 0 0), (7, .int .i64 (lastTo h k)), (8, .op 1 0), (9, .mp 2), (10, .bool (decide (∀ j, j < k → ¬ Lost1 h n j))), (47, .view 6 (h.map accA)), (48, .int .i64 h.length), (49, .int .i64 k)],
            [.box [.int .i64 n], .box (accC (at' h n)), .map (ws.map (AV.int .i64)) (ws.map fun _ => AV.bool true) wb wc]⟩) (fun k => h.length - k) 0 (by omega) (Ent.to [0,1,2] false (by simp) (by simp) rfl (by simp only [lPA, lPD, novO, setAll, seval, implies_true, pa_accs, pa_trues, lastTo] <;> (try simp)) (by simp only [lPA, lPD, novO, setAll, seval, implies_true, pa_trues, accC, hd])) ?_
          intro k hk
          by_cases hkn : k < h.length
          · have e2 : ∀ {m N d c}, IdxR E.P m N (h.map accA) (k : Int) d c = rK E.P m N c d (.vp (accC (at' h k))) := IdxR_at hkn
            have h45 := c45 (at' h k)
            have h47 : ∀ l, ACalls E.P 47 [setA ws, .view 1 (l.map (AV.int .i64))] [] (fun r H => r = .bool (decide (Meet (at' h n).writes l)) ∧ H = []) := fun l => (c47 ws l).mono fun r H ⟨h1, h2⟩ => ⟨by rw [h1]; congr 1; simp only [Meet, hws, and_comm], h2⟩
            have hml := lastTo_le hck (m := k) hk
            simp only [accA_eq, setA] at h45 h47
            have hL : (∀ j, j < k + 1 → ¬ Lost1 h n j) ↔ (∀ j, j < k → ¬ Lost1 h n j) ∧ ¬ Lost1 h n k := forall_lt_succ
            have hl1 : Lost1 h n k ↔ ((at' h k).writer = true ∧ (at' h n).snap < (at' h k).stamp ∧ Meet (at' h n).writes (at' h k).writes) := Iff.rfl
            repeat' (first
              | (with_reducible first | apply cond_d | apply cond_nd | apply cond_i | apply guard_d | apply guard_nd | apply guard_df | apply guard_ndf | apply guard_i | apply ag_d | apply ag_nd | apply ag_df | apply ag_ndf | apply ag_i) <;> intro _
              | with_reducible first | refine LenR_i fun _ => ?_ | refine And.intro (by omega) ?_ | refine and_assoc.2 ?_ | apply sp_cond | apply sp_guard | apply sp_ag | apply sp_call | apply sp_acall | apply sp_loop | apply sp_any | apply sp_frz | apply sp_len | apply sp_idx | apply sp_keep | apply sp_back
              | with_reducible refine frz0_i ?_
              | ((with_reducible first | refine callN_i [] true (by simp) (by simp) ?_ | refine acallN_i true ?_); simp only [lPA, lPD, novO, setAll, seval, implies_true, e2, accC, vw_trues, hd]; (first | (refine ⟨_, h45, ?_⟩; rintro _ _ ⟨rfl, rfl⟩) | (refine ⟨_, h47 _, ?_⟩; rintro _ _ ⟨rfl, rfl⟩)); simp only [lAL, lDF, tupA, eqA, isNil, slcNil, ptrCells, ptrAdd, cellsO, intA, boolA, readsV, readsP, isCall, wrote, srcOf, isNilSlice, Value.oneCell', seval, implies_true, forall_eq, ne_eq, lPA, lPD, novO, setAll, e2, accC, vw_trues, hd])
              | simp (maxSteps := 1000000) (disch := omega) only [lAL, lDF, tupA, eqA, isNil, slcNil, ptrCells, ptrAdd, cellsO, intA, boolA, readsV, readsP, isCall, wrote, srcOf, isNilSlice, Value.oneCell', seval, implies_true, forall_eq, ne_eq, wrap_i64, LenR_ok, List.length_map, IdxR_ints, e2, accC, vw_trues, hd])
            all_goals try (exfalso; omega)
            all_goals clear e1 e2 h45 h47 h18 h69 h44
            all_goals refine back_i (k + 1) (by omega) (by omega) (Ent.to [0,1,2] false (by simp) (by simp) rfl (by simp only [lPA, lPD, novO, setAll, seval, implies_true, pa_accs, pa_trues, lastTo, max3, hL, hl1] <;> (try simp only [true_and, and_true]) <;> (clear hL hl1; refine ⟨congrArg AV.bool (Bool.eq_iff_iff.2 ?_), by simp⟩; simp only [decide_eq_true_eq, Bool.not_eq_true', decide_eq_false_iff_not, Bool.false_eq_true, true_iff, false_iff]; generalize (∀ j, j < k → ¬ Lost1 h n j) = W at *; generalize Meet (at' h n).writes (at' h k).writes = M at *; clear hws hfm hs; first | grind | (simp_all; done))) (by simp only [lPA, lPD, novO, setAll, seval, implies_true, pa_trues, accC, hd]))
          · have e : k = h.length := by omega
            subst e
            have hW : (∀ j, j < h.length → ¬ Lost1 h n j) ↔ ¬ LostW h n := lost_iff
            have hwr : IntKind.i64.wrap (lastTo h h.length + 1) = lastS h + 1 := by
              have := lastTo_ge (h := h) (m := h.length)
              rw [wrap_i64 (by omega) (by simp only [lastS] at hll; omega)]; rfl
            repeat' (first
              | (with_reducible first | apply cond_d | apply cond_nd | apply cond_i | apply guard_d | apply guard_nd | apply guard_df | apply guard_ndf | apply guard_i | apply ag_d | apply ag_nd | apply ag_df | apply ag_ndf | apply ag_i) <;> intro _
              | with_reducible first | refine LenR_i fun _ => ?_ | refine And.intro (by omega) ?_ | refine and_assoc.2 ?_ | apply sp_cond | apply sp_guard | apply sp_ag | apply sp_call | apply sp_acall | apply sp_loop | apply sp_any | apply sp_frz | apply sp_len | apply sp_idx | apply sp_keep | apply sp_back
              | with_reducible refine frz0_i ?_
              | ((with_reducible first | refine callN_i [] false (by simp) (by simp) ?_ | refine acallN_i false ?_); simp only [lPA, lPD, novO, setAll, seval, implies_true, e1, accC, hd, pa_accs, hW, hwr]; (refine ⟨_, h69, ?_⟩; rintro _ _ ⟨rfl, rfl⟩); simp only [lAL, lDF, tupA, eqA, isNil, slcNil, ptrCells, ptrAdd, cellsO, intA, boolA, readsV, readsP, isCall, wrote, srcOf, isNilSlice, Value.oneCell', seval, implies_true, forall_eq, ne_eq, lPA, lPD, novO, setAll, e1, accC, hd, pa_accs, hW, hwr])
              | simp (maxSteps := 1000000) (disch := omega) only [lAL, lDF, tupA, eqA, isNil, slcNil, ptrCells, ptrAdd, cellsO, intA, boolA, readsV, readsP, isCall, wrote, srcOf, isNilSlice, Value.oneCell', seval, implies_true, forall_eq, ne_eq, wrap_i64, LenR_ok, List.length_map, IdxR_ints, e1, accC, hd, pa_accs, hW, hwr])
            all_goals try (exfalso; omega)
            · rename_i hbig
              refine keep0_i ?_
              simp only [lPA, lPD, novO, setAll, seval, implies_true]
              rw [admitN, if_pos (by omega)]; simp [admitA]
            · rename_i hbig hlo
              refine keep0_i ?_
              simp only [lPA, lPD, novO, setAll, seval, implies_true]
              rw [admitN, if_neg (by omega), if_pos (Classical.not_not.1 hlo)]; simp [admitA]
            all_goals
              have hsl : ¬ 1073741824 < stampS h n := by omega
              have hlost : ¬ LostW h n := by assumption
              have hcheck : checkS (withS h n (lastS h + 1)) = 0 := by
                have := check_with hck hn hd (by omega) fun k hk hdk hmt => Classical.byContradiction fun hgt => hlost ⟨k, hk, hdk, hmt, by omega⟩
                rwa [hst] at this
            all_goals try (exfalso; omega)
            · refine any_i [3] ?_
              have g1 := accs_get hn
              have g2 : ((doneS h n).map accA)[n]? = _ := accs_get (by rw [doneS_len]; exact hn)
              have ep1 : ∀ {m N d c}, epR E.P m N (some (.arr 44 6 (h.map accA))) (n : Int) h.length 3 6 d c = rK E.P m N c d (.ep 3 6 n 0) := epR_ne (by simp) (by omega) (by omega)
              have ep2 : ∀ {m N d c}, epR E.P m N (some (.arr 44 6 ((doneS h n).map accA))) (n : Int) h.length 3 6 d c = rK E.P m N c d (.ep 3 6 n 0) := epR_ne (by simp [doneS_len]) (by omega) (by omega)
              repeat' (first
                | (with_reducible first | apply cond_d | apply cond_nd | apply cond_i | apply guard_d | apply guard_nd | apply guard_df | apply guard_ndf | apply guard_i | apply ag_d | apply ag_nd | apply ag_df | apply ag_ndf | apply ag_i) <;> intro _
                | with_reducible first | refine LenR_i fun _ => ?_ | refine And.intro (by omega) ?_ | refine and_assoc.2 ?_ | apply sp_cond | apply sp_guard | apply sp_ag | apply sp_call | apply sp_acall | apply sp_loop | apply sp_any | apply sp_frz | apply sp_len | apply sp_idx | apply sp_keep | apply sp_back
                | simp (maxSteps := 1000000) (disch := omega) only [lAL, lDF, tupA, eqA, isNil, slcNil, ptrCells, ptrAdd, cellsO, intA, boolA, readsV, readsP, isCall, wrote, srcOf, isNilSlice, Value.oneCell', seval, implies_true, forall_eq, ne_eq, wrap_i64, LenR_ok, List.length_map, IdxR_ints, renL_accs, ep1, ep2, g1, g2, st_done hn, st_with hn])
              have hw' : h.length = ((withS h n (lastS h + 1)).map accA).length := by simp [withS_len]
              have hv : ∀ {H l m}, vwS none (some (.arr 44 6 ((withS h n (lastS h + 1)).map accA))) H l (m + 1) 6 h.length = .view 6 ((withS h n (lastS h + 1)).map accA) := by
                intro H l m
                rw [vwS_arr hw', vw_accs]
              refine frz_i (fr' := [(0, .view 6 (h.map accA)), (3, .op 0 0), (7, .int .i64 (lastS h + 1)), (13, .view 6 ((withS h n (lastS h + 1)).map accA))]) (H' := [.box [.int .i64 n]]) (Ent.to [0] true (by simp) (by simp) rfl (by simp only [lPA, lPD, novO, setAll, seval, implies_true, hv] <;> (try simp) <;> (try omega)) (by simp only [lPA, lPD, novO, setAll, seval, implies_true, hv] <;> (try simp) <;> (try omega))) ?_
              have hcw : checkS (withS h n (lastS h + 1)) = 0 := hcheck
              have k1 := c50 (withS h n (lastS h + 1))
              have k2 := c54 (withS h n (lastS h + 1)) (by rw [withS_len]; exact hlen) 70 [] [.vp [.int .i64 n]] _ (Pred3_70 n)
              simp only [hcw, if_true, graphA] at k1
              repeat' (first
                | (with_reducible first | apply cond_d | apply cond_nd | apply cond_i | apply guard_d | apply guard_nd | apply guard_df | apply guard_ndf | apply guard_i | apply ag_d | apply ag_nd | apply ag_df | apply ag_ndf | apply ag_i) <;> intro _
                | with_reducible first | refine LenR_i fun _ => ?_ | refine And.intro (by omega) ?_ | refine and_assoc.2 ?_ | apply sp_cond | apply sp_guard | apply sp_ag | apply sp_call | apply sp_acall | apply sp_loop | apply sp_any | apply sp_frz | apply sp_len | apply sp_idx | apply sp_keep | apply sp_back
                | with_reducible refine frz0_i ?_
                | ((with_reducible first | refine callN_i [] false (by simp) (by simp) ?_ | refine acallN_i false ?_); simp only [lPA, lPD, novO, setAll, seval, implies_true]; (refine ⟨_, k1, ?_⟩; rintro _ _ ⟨rfl, rfl⟩); simp only [lAL, lDF, tupA, eqA, isNil, slcNil, ptrCells, ptrAdd, cellsO, intA, boolA, readsV, readsP, isCall, wrote, srcOf, isNilSlice, Value.oneCell', seval, implies_true, forall_eq, ne_eq, lPA, lPD, novO, setAll])
                | simp (maxSteps := 1000000) (disch := omega) only [lAL, lDF, tupA, eqA, isNil, slcNil, ptrCells, ptrAdd, cellsO, intA, boolA, readsV, readsP, isCall, wrote, srcOf, isNilSlice, Value.oneCell', seval, implies_true, forall_eq, ne_eq, wrap_i64, LenR_ok, List.length_map, IdxR_ints])
              refine callN_i [] true (by simp) (by simp) ?_
              simp only [lPA, lPD, novO, setAll, seval, implies_true]
              simp only [graphA] at k2
              refine ⟨_, k2, ?_⟩
              rintro _ _ ⟨⟨t, ht, rfl⟩, rfl⟩
              rcases t with _ | ⟨a, b, c⟩
              · simp only [tripA, lPA, lPD, novO, setAll, seval, implies_true, lAL, lDF, tupA, eqA, isNil, slcNil, ptrCells, ptrAdd, cellsO, intA, boolA, readsV, readsP, isCall, wrote, srcOf, isNilSlice, Value.oneCell', seval, implies_true, forall_eq, ne_eq]
                repeat' (first
                  | (with_reducible first | apply cond_d | apply cond_nd | apply cond_i | apply guard_d | apply guard_nd | apply guard_df | apply guard_ndf | apply guard_i | apply ag_d | apply ag_nd | apply ag_df | apply ag_ndf | apply ag_i) <;> intro _
                  | with_reducible first | refine LenR_i fun _ => ?_ | refine And.intro (by omega) ?_ | refine and_assoc.2 ?_ | apply sp_cond | apply sp_guard | apply sp_ag | apply sp_call | apply sp_acall | apply sp_loop | apply sp_any | apply sp_frz | apply sp_len | apply sp_idx | apply sp_keep | apply sp_back
                  | with_reducible refine frz0_i ?_
                  | simp (maxSteps := 1000000) (disch := omega) only [lAL, lDF, tupA, eqA, isNil, slcNil, ptrCells, ptrAdd, cellsO, intA, boolA, readsV, readsP, isCall, wrote, srcOf, isNilSlice, Value.oneCell', seval, implies_true, forall_eq, ne_eq, wrap_i64, LenR_ok, List.length_map, IdxR_ints, ti30])
                have hnd : ¬ DangW h n := by
                  rintro ⟨a, b, c, ha, hb, hc, hd, he⟩
                  exact ht a b c (by rwa [withS_len]) (by rwa [withS_len]) (by rwa [withS_len]) ⟨by rw [hst] at hd; exact hd, he⟩
                rw [admitN_ok hsl hlost fun hh => hnd hh.2]
                refine keep0_i ?_
                simp [admitA, hst, lPA, lPD, novO, setAll, seval, implies_true]
              · simp only [tripA, lPA, lPD, novO, setAll, seval, implies_true, lAL, lDF, tupA, eqA, isNil, slcNil, ptrCells, ptrAdd, cellsO, intA, boolA, readsV, readsP, isCall, wrote, srcOf, isNilSlice, Value.oneCell', seval, implies_true, forall_eq, ne_eq]
                repeat' (first
                  | (with_reducible first | apply cond_d | apply cond_nd | apply cond_i | apply guard_d | apply guard_nd | apply guard_df | apply guard_ndf | apply guard_i | apply ag_d | apply ag_nd | apply ag_df | apply ag_ndf | apply ag_i) <;> intro _
                  | with_reducible first | refine LenR_i fun _ => ?_ | refine And.intro (by omega) ?_ | refine and_assoc.2 ?_ | apply sp_cond | apply sp_guard | apply sp_ag | apply sp_call | apply sp_acall | apply sp_loop | apply sp_any | apply sp_frz | apply sp_len | apply sp_idx | apply sp_keep | apply sp_back
                  | with_reducible refine frz0_i ?_
                  | simp (maxSteps := 1000000) (disch := omega) only [lAL, lDF, tupA, eqA, isNil, slcNil, ptrCells, ptrAdd, cellsO, intA, boolA, readsV, readsP, isCall, wrote, srcOf, isNilSlice, Value.oneCell', seval, implies_true, forall_eq, ne_eq, wrap_i64, LenR_ok, List.length_map, IdxR_ints, ti30])
                obtain ⟨t1, t2, t3, t4, _⟩ := ht
                rw [withS_len] at t1 t2 t3
                rw [admitN_dang hsl hlost (by assumption) ⟨a, b, c, t1, t2, t3, by rw [hst]; exact t4.1, t4.2⟩]
                refine keep0_i ?_
                simp [admitA, lPA, lPD, novO, setAll, seval, implies_true]
            · rw [admitN_ok hsl hlost fun hh => absurd hh.1 (by assumption)]
              refine keep0_i ?_
              simp [admitA, hst, lPA, lPD, novO, setAll, seval, implies_true]
        · have hst : stampS h n = 0 := by simp only [stampS, if_neg hw]
          have hsl : ¬ 1073741824 < stampS h n := by omega
          have hlost : ¬ LostW h n := fun ⟨k, _, _, ⟨x, hx, _⟩, _⟩ => absurd (List.length_pos_of_mem hx) hw
          have hcheck : checkS (withS h n 0) = 0 := by
            have := check_with hck hn hd (by rw [hst]; decide) fun k hk hdk ⟨x, hx, _⟩ => absurd (List.length_pos_of_mem hx) hw
            rwa [hst] at this
          repeat' (first
            | (with_reducible first | apply cond_d | apply cond_nd | apply cond_i | apply guard_d | apply guard_nd | apply guard_df | apply guard_ndf | apply guard_i | apply ag_d | apply ag_nd | apply ag_df | apply ag_ndf | apply ag_i) <;> intro _
            | with_reducible first | refine LenR_i fun _ => ?_ | refine And.intro (by omega) ?_ | refine and_assoc.2 ?_ | apply sp_cond | apply sp_guard | apply sp_ag | apply sp_call | apply sp_acall | apply sp_loop | apply sp_any | apply sp_frz | apply sp_len | apply sp_idx | apply sp_keep | apply sp_back
            | with_reducible refine frz0_i ?_
            | ((with_reducible first | refine callN_i [] true (by simp) (by simp) ?_ | refine acallN_i true ?_); simp only [lPA, lPD, novO, setAll, seval, implies_true, e1, accC, hd, pa_accs]; (refine ⟨_, h18, ?_⟩; rintro _ _ ⟨rfl, rfl⟩); simp only [lAL, lDF, tupA, eqA, isNil, slcNil, ptrCells, ptrAdd, cellsO, intA, boolA, readsV, readsP, isCall, wrote, srcOf, isNilSlice, Value.oneCell', seval, implies_true, forall_eq, ne_eq, lPA, lPD, novO, setAll, e1, accC, hd, pa_accs])
            | ((with_reducible first | refine callN_i [] false (by simp) (by simp) ?_ | refine acallN_i false ?_); simp only [lPA, lPD, novO, setAll, seval, implies_true, e1, accC, hd, pa_accs]; (refine ⟨_, h69, ?_⟩; rintro _ _ ⟨rfl, rfl⟩); simp only [lAL, lDF, tupA, eqA, isNil, slcNil, ptrCells, ptrAdd, cellsO, intA, boolA, readsV, readsP, isCall, wrote, srcOf, isNilSlice, Value.oneCell', seval, implies_true, forall_eq, ne_eq, lPA, lPD, novO, setAll, e1, accC, hd, pa_accs])
            | simp (maxSteps := 1000000) (disch := omega) only [lAL, lDF, tupA, eqA, isNil, slcNil, ptrCells, ptrAdd, cellsO, intA, boolA, readsV, readsP, isCall, wrote, srcOf, isNilSlice, Value.oneCell', seval, implies_true, forall_eq, ne_eq, wrap_i64, LenR_ok, List.length_map, IdxR_ints, e1, accC, hd, pa_accs])
          all_goals try (exfalso; omega)
          · refine any_i [2] ?_
            have g1 := accs_get hn
            have g2 : ((doneS h n).map accA)[n]? = _ := accs_get (by rw [doneS_len]; exact hn)
            have ep1 : ∀ {m N d c}, epR E.P m N (some (.arr 44 6 (h.map accA))) (n : Int) h.length 2 6 d c = rK E.P m N c d (.ep 2 6 n 0) := epR_ne (by simp) (by omega) (by omega)
            have ep2 : ∀ {m N d c}, epR E.P m N (some (.arr 44 6 ((doneS h n).map accA))) (n : Int) h.length 2 6 d c = rK E.P m N c d (.ep 2 6 n 0) := epR_ne (by simp [doneS_len]) (by omega) (by omega)
            repeat' (first
              | (with_reducible first | apply cond_d | apply cond_nd | apply cond_i | apply guard_d | apply guard_nd | apply guard_df | apply guard_ndf | apply guard_i | apply ag_d | apply ag_nd | apply ag_df | apply ag_ndf | apply ag_i) <;> intro _
              | with_reducible first | refine LenR_i fun _ => ?_ | refine And.intro (by omega) ?_ | refine and_assoc.2 ?_ | apply sp_cond | apply sp_guard | apply sp_ag | apply sp_call | apply sp_acall | apply sp_loop | apply sp_any | apply sp_frz | apply sp_len | apply sp_idx | apply sp_keep | apply sp_back
              | simp (maxSteps := 1000000) (disch := omega) only [lAL, lDF, tupA, eqA, isNil, slcNil, ptrCells, ptrAdd, cellsO, intA, boolA, readsV, readsP, isCall, wrote, srcOf, isNilSlice, Value.oneCell', seval, implies_true, forall_eq, ne_eq, wrap_i64, LenR_ok, List.length_map, IdxR_ints, renL_accs, ep1, ep2, g1, g2, st_done hn, st_with hn])
            have hw' : h.length = ((withS h n 0).map accA).length := by simp [withS_len]
            have hv : ∀ {H l m}, vwS none (some (.arr 44 6 ((withS h n 0).map accA))) H l (m + 1) 6 h.length = .view 6 ((withS h n 0).map accA) := by
              intro H l m
              rw [vwS_arr hw', vw_accs]
            refine frz_i (fr' := [(0, .view 6 (h.map accA)), (3, .op 0 0), (7, .int .i64 0), (13, .view 6 ((withS h n 0).map accA))]) (H' := [.box [.int .i64 n]]) (Ent.to [0] true (by simp) (by simp) rfl (by simp only [lPA, lPD, novO, setAll, seval, implies_true, hv] <;> (try simp) <;> (try omega)) (by simp only [lPA, lPD, novO, setAll, seval, implies_true, hv] <;> (try simp) <;> (try omega))) ?_
            have hcw : checkS (withS h n 0) = 0 := hcheck
            have k1 := c50 (withS h n 0)
            have k2 := c54 (withS h n 0) (by rw [withS_len]; exact hlen) 70 [] [.vp [.int .i64 n]] _ (Pred3_70 n)
            simp only [hcw, if_true, graphA] at k1
            repeat' (first
              | (with_reducible first | apply cond_d | apply cond_nd | apply cond_i | apply guard_d | apply guard_nd | apply guard_df | apply guard_ndf | apply guard_i | apply ag_d | apply ag_nd | apply ag_df | apply ag_ndf | apply ag_i) <;> intro _
              | with_reducible first | refine LenR_i fun _ => ?_ | refine And.intro (by omega) ?_ | refine and_assoc.2 ?_ | apply sp_cond | apply sp_guard | apply sp_ag | apply sp_call | apply sp_acall | apply sp_loop | apply sp_any | apply sp_frz | apply sp_len | apply sp_idx | apply sp_keep | apply sp_back
              | with_reducible refine frz0_i ?_
              | ((with_reducible first | refine callN_i [] false (by simp) (by simp) ?_ | refine acallN_i false ?_); simp only [lPA, lPD, novO, setAll, seval, implies_true]; (refine ⟨_, k1, ?_⟩; rintro _ _ ⟨rfl, rfl⟩); simp only [lAL, lDF, tupA, eqA, isNil, slcNil, ptrCells, ptrAdd, cellsO, intA, boolA, readsV, readsP, isCall, wrote, srcOf, isNilSlice, Value.oneCell', seval, implies_true, forall_eq, ne_eq, lPA, lPD, novO, setAll])
              | simp (maxSteps := 1000000) (disch := omega) only [lAL, lDF, tupA, eqA, isNil, slcNil, ptrCells, ptrAdd, cellsO, intA, boolA, readsV, readsP, isCall, wrote, srcOf, isNilSlice, Value.oneCell', seval, implies_true, forall_eq, ne_eq, wrap_i64, LenR_ok, List.length_map, IdxR_ints])
            refine callN_i [] true (by simp) (by simp) ?_
            simp only [lPA, lPD, novO, setAll, seval, implies_true]
            simp only [graphA] at k2
            refine ⟨_, k2, ?_⟩
            rintro _ _ ⟨⟨t, ht, rfl⟩, rfl⟩
            rcases t with _ | ⟨a, b, c⟩
            · simp only [tripA, lPA, lPD, novO, setAll, seval, implies_true, lAL, lDF, tupA, eqA, isNil, slcNil, ptrCells, ptrAdd, cellsO, intA, boolA, readsV, readsP, isCall, wrote, srcOf, isNilSlice, Value.oneCell', seval, implies_true, forall_eq, ne_eq]
              repeat' (first
                | (with_reducible first | apply cond_d | apply cond_nd | apply cond_i | apply guard_d | apply guard_nd | apply guard_df | apply guard_ndf | apply guard_i | apply ag_d | apply ag_nd | apply ag_df | apply ag_ndf | apply ag_i) <;> intro _
                | with_reducible first | refine LenR_i fun _ => ?_ | refine And.intro (by omega) ?_ | refine and_assoc.2 ?_ | apply sp_cond | apply sp_guard | apply sp_ag | apply sp_call | apply sp_acall | apply sp_loop | apply sp_any | apply sp_frz | apply sp_len | apply sp_idx | apply sp_keep | apply sp_back
                | with_reducible refine frz0_i ?_
                | simp (maxSteps := 1000000) (disch := omega) only [lAL, lDF, tupA, eqA, isNil, slcNil, ptrCells, ptrAdd, cellsO, intA, boolA, readsV, readsP, isCall, wrote, srcOf, isNilSlice, Value.oneCell', seval, implies_true, forall_eq, ne_eq, wrap_i64, LenR_ok, List.length_map, IdxR_ints, ti30])
              have hnd : ¬ DangW h n := by
                rintro ⟨a, b, c, ha, hb, hc, hd, he⟩
                exact ht a b c (by rwa [withS_len]) (by rwa [withS_len]) (by rwa [withS_len]) ⟨by rw [hst] at hd; exact hd, he⟩
              rw [admitN_ok hsl hlost fun hh => hnd hh.2]
              refine keep0_i ?_
              simp [admitA, hst, lPA, lPD, novO, setAll, seval, implies_true]
            · simp only [tripA, lPA, lPD, novO, setAll, seval, implies_true, lAL, lDF, tupA, eqA, isNil, slcNil, ptrCells, ptrAdd, cellsO, intA, boolA, readsV, readsP, isCall, wrote, srcOf, isNilSlice, Value.oneCell', seval, implies_true, forall_eq, ne_eq]
              repeat' (first
                | (with_reducible first | apply cond_d | apply cond_nd | apply cond_i | apply guard_d | apply guard_nd | apply guard_df | apply guard_ndf | apply guard_i | apply ag_d | apply ag_nd | apply ag_df | apply ag_ndf | apply ag_i) <;> intro _
                | with_reducible first | refine LenR_i fun _ => ?_ | refine And.intro (by omega) ?_ | refine and_assoc.2 ?_ | apply sp_cond | apply sp_guard | apply sp_ag | apply sp_call | apply sp_acall | apply sp_loop | apply sp_any | apply sp_frz | apply sp_len | apply sp_idx | apply sp_keep | apply sp_back
                | with_reducible refine frz0_i ?_
                | simp (maxSteps := 1000000) (disch := omega) only [lAL, lDF, tupA, eqA, isNil, slcNil, ptrCells, ptrAdd, cellsO, intA, boolA, readsV, readsP, isCall, wrote, srcOf, isNilSlice, Value.oneCell', seval, implies_true, forall_eq, ne_eq, wrap_i64, LenR_ok, List.length_map, IdxR_ints, ti30])
              obtain ⟨t1, t2, t3, t4, _⟩ := ht
              rw [withS_len] at t1 t2 t3
              rw [admitN_dang hsl hlost (by assumption) ⟨a, b, c, t1, t2, t3, by rw [hst]; exact t4.1, t4.2⟩]
              refine keep0_i ?_
              simp [admitA, lPA, lPD, novO, setAll, seval, implies_true]
          · rw [admitN_ok hsl hlost fun hh => absurd hh.1 (by assumption)]
            refine keep0_i ?_
            simp [admitA, hst, lPA, lPD, novO, setAll, seval, implies_true]
    · have hs : admitS h i = (0, 1) := by simp only [admitS]; rw [if_neg (by simp [hck]), if_pos (by omega)]
      repeat' (first
        | (with_reducible first | apply cond_d | apply cond_nd | apply cond_i | apply guard_d | apply guard_nd | apply guard_df | apply guard_ndf | apply guard_i | apply ag_d | apply ag_nd | apply ag_df | apply ag_ndf | apply ag_i) <;> intro _
        | with_reducible first | refine LenR_i fun _ => ?_ | refine And.intro (by omega) ?_ | refine and_assoc.2 ?_ | apply sp_cond | apply sp_guard | apply sp_ag | apply sp_call | apply sp_acall | apply sp_loop | apply sp_any | apply sp_frz | apply sp_len | apply sp_idx | apply sp_keep | apply sp_back
        | with_reducible refine frz0_i ?_
        | ((with_reducible first | refine callN_i [] true (by simp) (by simp) ?_ | refine acallN_i true ?_); simp only [lPA, lPD, novO, setAll, seval, implies_true, pa_accs]; (refine ⟨_, h18, ?_⟩; rintro _ _ ⟨rfl, rfl⟩); simp only [lAL, lDF, tupA, eqA, isNil, slcNil, ptrCells, ptrAdd, cellsO, intA, boolA, readsV, readsP, isCall, wrote, srcOf, isNilSlice, Value.oneCell', seval, implies_true, forall_eq, ne_eq, lPA, lPD, novO, setAll, pa_accs])
        | ((with_reducible refine keep0_i ?_); simp only [lPA, lPD, novO, setAll, seval, implies_true])
        | simp (maxSteps := 1000000) (disch := omega) only [lAL, lDF, tupA, eqA, isNil, slcNil, ptrCells, ptrAdd, cellsO, intA, boolA, readsV, readsP, isCall, wrote, srcOf, isNilSlice, Value.oneCell', seval, implies_true, forall_eq, ne_eq, wrap_i64, LenR_ok, List.length_map, IdxR_ints, pa_accs])
      all_goals try (exfalso; omega)
      all_goals simp [hs, admitA]
  · have hs : admitS h i = (0, checkS h) := by simp [admitS, hck]
    repeat' (first
      | (with_reducible first | apply cond_d | apply cond_nd | apply cond_i | apply guard_d | apply guard_nd | apply guard_df | apply guard_ndf | apply guard_i | apply ag_d | apply ag_nd | apply ag_df | apply ag_ndf | apply ag_i) <;> intro _
      | with_reducible first | refine LenR_i fun _ => ?_ | refine And.intro (by omega) ?_ | refine and_assoc.2 ?_ | apply sp_cond | apply sp_guard | apply sp_ag | apply sp_call | apply sp_acall | apply sp_loop | apply sp_any | apply sp_frz | apply sp_len | apply sp_idx | apply sp_keep | apply sp_back
      | with_reducible refine frz0_i ?_
      | ((with_reducible first | refine callN_i [] true (by simp) (by simp) ?_ | refine acallN_i true ?_); simp only [lPA, lPD, novO, setAll, seval, implies_true, pa_accs]; (refine ⟨_, h18, ?_⟩; rintro _ _ ⟨rfl, rfl⟩); simp only [lAL, lDF, tupA, eqA, isNil, slcNil, ptrCells, ptrAdd, cellsO, intA, boolA, readsV, readsP, isCall, wrote, srcOf, isNilSlice, Value.oneCell', seval, implies_true, forall_eq, ne_eq, lPA, lPD, novO, setAll, pa_accs])
      | ((with_reducible refine keep0_i ?_); simp only [lPA, lPD, novO, setAll, seval, implies_true])
      | simp (maxSteps := 1000000) (disch := omega) only [lAL, lDF, tupA, eqA, isNil, slcNil, ptrCells, ptrAdd, cellsO, intA, boolA, readsV, readsP, isCall, wrote, srcOf, isNilSlice, Value.oneCell', seval, implies_true, forall_eq, ne_eq, wrap_i64, LenR_ok, List.length_map, IdxR_ints, pa_accs])
    all_goals try (exfalso; omega)
    all_goals simp [hs, admitA]
end Go.Proofs.Try
