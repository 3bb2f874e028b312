/-
  A part of the proof: see the text of the law.
-/
import Derived.Test.YthbajphbhoiceaaCbf
import Derived.Test.YthbajphbhoiceaaCam
set_option linter.unusedSimpArgs false
set_option linter.unusedVariables false
namespace Go.Proofs.Try
open Go.Al
set_option linter.unusedVariables false
set_option linter.unusedSimpArgs false
open Classical
set_option maxHeartbeats 8000000

theorem c35 (h : List Acc) (i : Int) : ACalls E.P 35 [.view 6 (h.map accA), .int .i64 i] [] (fun r H => r = admitA (admitS h i) ∧ H = []) := by
  have hmax := maxLen_eq
  refine ok35.acalls hE hm (by simp) ?_
  unfold mc35
  have h19 := c19 h
  by_cases hck : checkS h = 0
  · by_cases hi : 0 ≤ i ∧ i < h.length
    · obtain ⟨n, rfl⟩ := Int.eq_ofNat_of_zero_le hi.1
      have hn : n < h.length := by omega
      have e1 : ∀ {m N d k}, IdxR E.P m N (h.map accA) (n : Int) d k = rK E.P m N k d (.vp (accC (at' h n))) := IdxR_at hn
      cases hd : (at' h n).done with
      | true =>
        have hs : admitS h n = (0, 1) := by simp only [admitS, Int.toNat_natCast]; rw [if_neg (by simp [hck]), if_pos (fun hh => by rw [hd] at hh; cases hh.2.2)]
        repeat' (first
          | (with_reducible first | apply cond_d | apply cond_nd | apply cond_i | apply guard_d | apply guard_nd | apply guard_df | apply guard_ndf | apply guard_i | apply ag_d | apply ag_nd | apply ag_df | apply ag_ndf | apply ag_i) <;> intro _
          | with_reducible first | refine LenR_i fun _ => ?_ | refine And.intro (by omega) ?_ | refine and_assoc.2 ?_ | apply sp_cond | apply sp_guard | apply sp_ag | apply sp_call | apply sp_acall | apply sp_loop | apply sp_any | apply sp_frz | apply sp_len | apply sp_idx | apply sp_keep | apply sp_back
          | with_reducible refine frz0_i ?_
          | ((with_reducible first | refine callN_i [] true (by simp) (by simp) ?_ | refine acallN_i true ?_); simp only [lPA, lPD, novO, setAll, seval, implies_true, e1, accC, hd, pa_accs]; (refine ⟨_, h19, ?_⟩; rintro _ _ ⟨rfl, rfl⟩); simp only [lAL, lDF, tupA, eqA, isNil, slcNil, ptrCells, ptrAdd, cellsO, intA, boolA, readsV, readsP, isCall, wrote, srcOf, isNilSlice, Value.oneCell', seval, implies_true, forall_eq, ne_eq, lPA, lPD, novO, setAll, e1, accC, hd, pa_accs])
          | ((with_reducible refine keep0_i ?_); simp only [lPA, lPD, novO, setAll, seval, implies_true])
          | simp (maxSteps := 1000000) (disch := omega) only [lAL, lDF, tupA, eqA, isNil, slcNil, ptrCells, ptrAdd, cellsO, intA, boolA, readsV, readsP, isCall, wrote, srcOf, isNilSlice, Value.oneCell', seval, implies_true, forall_eq, ne_eq, wrap_i64, LenR_ok, List.length_map, IdxR_ints, e1, accC, hd, pa_accs])
        all_goals try (exfalso; omega)
        all_goals simp [hs, admitA]
      | false =>
        have hs : admitS h n = admitN h n := by simp only [admitS, Int.toNat_natCast]; rw [if_neg (by simp [hck]), if_neg (fun hh => hh ⟨by omega, by omega, hd⟩)]
        rw [hs]
        have hlen := checkS_len hck
        have hll := lastS_le hck
        have hlg := lastS_nn (h := h)
        have h71 := c71 h
        have hwr : IntKind.i64.wrap (lastS h + 1) = lastS h + 1 := wrap_i64 (by omega) (by omega)
        have hst : stampS h n = if 0 < (at' h n).writes.length then lastS h + 1 else 0 := rfl
        repeat' (first
          | (with_reducible first | apply cond_d | apply cond_nd | apply cond_i | apply guard_d | apply guard_nd | apply guard_df | apply guard_ndf | apply guard_i | apply ag_d | apply ag_nd | apply ag_df | apply ag_ndf | apply ag_i) <;> intro _
          | with_reducible first | refine LenR_i fun _ => ?_ | refine And.intro (by omega) ?_ | refine and_assoc.2 ?_ | apply sp_cond | apply sp_guard | apply sp_ag | apply sp_call | apply sp_acall | apply sp_loop | apply sp_any | apply sp_frz | apply sp_len | apply sp_idx | apply sp_keep | apply sp_back
          | with_reducible refine frz0_i ?_
          | ((with_reducible first | refine callN_i [] true (by simp) (by simp) ?_ | refine acallN_i true ?_); simp only [lPA, lPD, novO, setAll, seval, implies_true, e1, accC, hd, pa_accs, hwr]; (first | (refine ⟨_, h19, ?_⟩; rintro _ _ ⟨rfl, rfl⟩) | (refine ⟨_, h71, ?_⟩; rintro _ _ ⟨rfl, rfl⟩)); simp only [lAL, lDF, tupA, eqA, isNil, slcNil, ptrCells, ptrAdd, cellsO, intA, boolA, readsV, readsP, isCall, wrote, srcOf, isNilSlice, Value.oneCell', seval, implies_true, forall_eq, ne_eq, lPA, lPD, novO, setAll, e1, accC, hd, pa_accs, hwr])
          | ((with_reducible refine keep0_i ?_); simp only [lPA, lPD, novO, setAll, seval, implies_true])
          | simp (maxSteps := 1000000) (disch := omega) only [lAL, lDF, tupA, eqA, isNil, slcNil, ptrCells, ptrAdd, cellsO, intA, boolA, readsV, readsP, isCall, wrote, srcOf, isNilSlice, Value.oneCell', seval, implies_true, forall_eq, ne_eq, wrap_i64, LenR_ok, List.length_map, IdxR_ints, e1, accC, hd, pa_accs, hwr])
        all_goals try (exfalso; omega)
        · rename_i hw hbig
          rw [if_pos (by omega)] at hst
          rw [admitN, if_pos (by omega)]; simp [admitA]
        all_goals
          have hsl : ¬ 1073741824 < stampS h n := by
            rw [hst]; split <;> omega
          have hst' : ∃ v, v = stampS h n := ⟨_, rfl⟩
          first
            | rw [if_pos (by omega)] at hst
            | rw [if_neg (by omega)] at hst
          refine loop_i (fun k : Nat => k ≤ h.length ∧ ∀ j, j < k → ¬ ((at' h j).done = true ∧ Meet (at' h n).writes (at' h j).writes ∧ (at' h n).snap < (at' h j).stamp)) (fun k => ⟨[(0, .view 6 (h.map accA)), (1, .int .i64 n), (7, .int .i64 (stampS h n)), (8, .int .i64 k)], []⟩) (fun k => h.length - k) 0 ⟨by omega, by omega⟩ (Ent.to [] false (by simp) (by simp) rfl (by simp only [lPA, lPD, novO, setAll, seval, implies_true, pa_accs, hst] <;> (try simp) <;> (try omega)) (by simp only [lPA, lPD, novO, setAll, seval, implies_true, pa_accs, hst] <;> (try simp) <;> (try omega))) ?_
          clear hst
          rintro k ⟨hk, hno⟩
          by_cases hkn : k < h.length
          · have e2 : ∀ {m N d c}, IdxR E.P m N (h.map accA) (k : Int) d c = rK E.P m N c d (.vp (accC (at' h k))) := IdxR_at hkn
            have k1 := c49 (at' h n).writes (at' h k).writes
            repeat' (first
              | (with_reducible first | apply cond_d | apply cond_nd | apply cond_i | apply guard_d | apply guard_nd | apply guard_df | apply guard_ndf | apply guard_i | apply ag_d | apply ag_nd | apply ag_df | apply ag_ndf | apply ag_i) <;> intro _
              | with_reducible first | refine LenR_i fun _ => ?_ | refine And.intro (by omega) ?_ | refine and_assoc.2 ?_ | apply sp_cond | apply sp_guard | apply sp_ag | apply sp_call | apply sp_acall | apply sp_loop | apply sp_any | apply sp_frz | apply sp_len | apply sp_idx | apply sp_keep | apply sp_back
              | with_reducible refine frz0_i ?_
              | with_reducible refine any_i [] ?_
              | ((with_reducible first | refine callN_i [] true (by simp) (by simp) ?_ | refine acallN_i true ?_); simp only [lPA, lPD, novO, setAll, seval, implies_true, e1, e2, accC, pa_accs]; (refine ⟨_, k1, ?_⟩; rintro _ _ ⟨rfl, rfl⟩); simp only [lAL, lDF, tupA, eqA, isNil, slcNil, ptrCells, ptrAdd, cellsO, intA, boolA, readsV, readsP, isCall, wrote, srcOf, isNilSlice, Value.oneCell', seval, implies_true, forall_eq, ne_eq, lPA, lPD, novO, setAll, e1, e2, accC, pa_accs])
              | ((with_reducible refine keep0_i ?_); simp only [lPA, lPD, novO, setAll, seval, implies_true])
              | simp (maxSteps := 1000000) (disch := omega) only [lAL, lDF, tupA, eqA, isNil, slcNil, ptrCells, ptrAdd, cellsO, intA, boolA, readsV, readsP, isCall, wrote, srcOf, isNilSlice, Value.oneCell', seval, implies_true, forall_eq, ne_eq, wrap_i64, LenR_ok, List.length_map, IdxR_ints, e1, e2, accC, pa_accs])
            all_goals try (exfalso; omega)
            all_goals clear e1 e2 k1
            all_goals try simp only [decide_eq_true_eq, decide_eq_false_iff_not] at *
            all_goals first
              | (have hl : LostW h n := ⟨k, hkn, by assumption, by first | assumption | exact of_decide_eq_true (by assumption), by assumption⟩
                 rw [admitN, if_neg hsl, if_pos hl]
                 simp [admitA]
                 done)
              | (refine back_i (k + 1) ⟨by omega, fun j hj => ?_⟩ (by omega) (Ent.to [] false (by simp) (by simp) rfl (by simp only [lPA, lPD, novO, setAll, seval, implies_true, pa_accs] <;> (try simp) <;> (try omega)) (by simp only [lPA, lPD, novO, setAll, seval, implies_true, pa_accs] <;> (try simp) <;> (try omega)))
                 by_cases e : j = k
                 · subst e; simp_all
                 · exact hno j (by omega))
          · have e : k = h.length := by omega
            subst e
            have hlost : ¬ LostW h n := fun ⟨k, h1, h2⟩ => hno k h1 h2
            have h72 := c72v h n hn hlen (stampS h n)
            repeat' (first
              | (with_reducible first | apply cond_d | apply cond_nd | apply cond_i | apply guard_d | apply guard_nd | apply guard_df | apply guard_ndf | apply guard_i | apply ag_d | apply ag_nd | apply ag_df | apply ag_ndf | apply ag_i) <;> intro _
              | with_reducible first | refine LenR_i fun _ => ?_ | refine And.intro (by omega) ?_ | refine and_assoc.2 ?_ | apply sp_cond | apply sp_guard | apply sp_ag | apply sp_call | apply sp_acall | apply sp_loop | apply sp_any | apply sp_frz | apply sp_len | apply sp_idx | apply sp_keep | apply sp_back
              | with_reducible refine frz0_i ?_
              | ((with_reducible first | refine callN_i [] false (by simp) (by simp) ?_ | refine acallN_i false ?_); simp only [lPA, lPD, novO, setAll, seval, implies_true, e1, accC, pa_accs]; (refine ⟨_, h72, ?_⟩; rintro _ _ ⟨rfl, rfl⟩); simp only [lAL, lDF, tupA, eqA, isNil, slcNil, ptrCells, ptrAdd, cellsO, intA, boolA, readsV, readsP, isCall, wrote, srcOf, isNilSlice, Value.oneCell', seval, implies_true, forall_eq, ne_eq, lPA, lPD, novO, setAll, e1, accC, pa_accs])
              | ((with_reducible refine keep0_i ?_); simp only [lPA, lPD, novO, setAll, seval, implies_true])
              | simp (maxSteps := 1000000) (disch := omega) only [lAL, lDF, tupA, eqA, isNil, slcNil, ptrCells, ptrAdd, cellsO, intA, boolA, readsV, readsP, isCall, wrote, srcOf, isNilSlice, Value.oneCell', seval, implies_true, forall_eq, ne_eq, wrap_i64, LenR_ok, List.length_map, IdxR_ints, e1, accC, pa_accs])
            all_goals try (exfalso; omega)
            · rename_i hmode
              clear h71 h19 h72 e1
              let D := fun a b c => Dang (withS h n (stampS h n)) a b c ∧ (a = n ∨ b = n ∨ c = n)
              have hyes : ∀ a b c, a < h.length → b < h.length → c < h.length → D a b c → admitN h n = (0, 272) := fun a b c ha hb hc hD => admitN_dang hsl hlost hmode ⟨a, b, c, ha, hb, hc, hD.1, hD.2⟩
              have hfin : NoneB D h.length h.length 0 0 → admitN h n = (stampS h n, 0) := fun hh => admitN_ok hsl hlost fun ⟨_, a, b, c, ha, hb, hc, h1, h2⟩ => hh.all a b c ha hb hc ⟨h1, h2⟩
              have hD : ∀ a b c, D a b c ↔ Dang (withS h n (stampS h n)) a b c ∧ (a = n ∨ b = n ∨ c = n) := fun _ _ _ => Iff.rfl
              generalize hh' : withS h n (stampS h n) = h' at *
              have hl' : h'.length = h.length := by rw [← hh', withS_len]
              generalize stampS h n = st at *
              clear hh'
              clear_value D
              refine loop_i (fun a : Nat => a ≤ h.length ∧ NoneB D h.length a 0 0) (fun a => ⟨[(0, .view 6 (h.map accA)), (1, .int .i64 n), (7, .int .i64 st), (10, .view 6 (h'.map accA)), (11, .int .i64 a)], []⟩) (fun a => h.length - a) 0 ⟨by omega, .zero⟩ (Ent.to [] false (by simp) (by simp) rfl (by simp only [lPA, lPD, novO, setAll, seval, implies_true, pa_accs] <;> (try simp) <;> (try omega)) (by simp only [lPA, lPD, novO, setAll, seval, implies_true, pa_accs] <;> (try simp) <;> (try omega))) ?_
              rintro a ⟨ha, hna⟩
              by_cases han : a < h.length
              · repeat' (first
                  | (with_reducible first | apply cond_d | apply cond_nd | apply cond_i | apply guard_d | apply guard_nd | apply guard_df | apply guard_ndf | apply guard_i | apply ag_d | apply ag_nd | apply ag_df | apply ag_ndf | apply ag_i) <;> intro _
                  | with_reducible first | refine LenR_i fun _ => ?_ | refine And.intro (by omega) ?_ | refine and_assoc.2 ?_ | apply sp_cond | apply sp_guard | apply sp_ag | apply sp_call | apply sp_acall | apply sp_loop | apply sp_any | apply sp_frz | apply sp_len | apply sp_idx | apply sp_keep | apply sp_back
                  | with_reducible refine frz0_i ?_
                  | ((with_reducible refine keep0_i ?_); simp only [lPA, lPD, novO, setAll, seval, implies_true])
                  | simp (maxSteps := 1000000) (disch := omega) only [lAL, lDF, tupA, eqA, isNil, slcNil, ptrCells, ptrAdd, cellsO, intA, boolA, readsV, readsP, isCall, wrote, srcOf, isNilSlice, Value.oneCell', seval, implies_true, forall_eq, ne_eq, wrap_i64, LenR_ok, List.length_map, IdxR_ints, pa_accs])
                all_goals try (exfalso; omega)
                refine loop_i (fun b : Nat => b ≤ h.length ∧ NoneB D h.length a b 0) (fun b => ⟨[(0, .view 6 (h.map accA)), (1, .int .i64 n), (7, .int .i64 st), (10, .view 6 (h'.map accA)), (11, .int .i64 a), (12, .int .i64 b)], []⟩) (fun b => h.length - b) 0 ⟨by omega, hna⟩ (Ent.to [] false (by simp) (by simp) rfl (by simp only [lPA, lPD, novO, setAll, seval, implies_true, pa_accs] <;> (try simp) <;> (try omega)) (by simp only [lPA, lPD, novO, setAll, seval, implies_true, pa_accs] <;> (try simp) <;> (try omega))) ?_
                rintro b ⟨hb, hnb⟩
                by_cases hbn : b < h.length
                · repeat' (first
                    | (with_reducible first | apply cond_d | apply cond_nd | apply cond_i | apply guard_d | apply guard_nd | apply guard_df | apply guard_ndf | apply guard_i | apply ag_d | apply ag_nd | apply ag_df | apply ag_ndf | apply ag_i) <;> intro _
                    | with_reducible first | refine LenR_i fun _ => ?_ | refine And.intro (by omega) ?_ | refine and_assoc.2 ?_ | apply sp_cond | apply sp_guard | apply sp_ag | apply sp_call | apply sp_acall | apply sp_loop | apply sp_any | apply sp_frz | apply sp_len | apply sp_idx | apply sp_keep | apply sp_back
                    | with_reducible refine frz0_i ?_
                    | ((with_reducible refine keep0_i ?_); simp only [lPA, lPD, novO, setAll, seval, implies_true])
                    | simp (maxSteps := 1000000) (disch := omega) only [lAL, lDF, tupA, eqA, isNil, slcNil, ptrCells, ptrAdd, cellsO, intA, boolA, readsV, readsP, isCall, wrote, srcOf, isNilSlice, Value.oneCell', seval, implies_true, forall_eq, ne_eq, wrap_i64, LenR_ok, List.length_map, IdxR_ints, pa_accs])
                  all_goals try (exfalso; omega)
                  refine loop_i (fun c : Nat => c ≤ h.length ∧ NoneB D h.length a b c) (fun c => ⟨[(0, .view 6 (h.map accA)), (1, .int .i64 n), (7, .int .i64 st), (10, .view 6 (h'.map accA)), (11, .int .i64 a), (12, .int .i64 b), (13, .int .i64 c)], []⟩) (fun c => h.length - c) 0 ⟨by omega, hnb⟩ (Ent.to [] false (by simp) (by simp) rfl (by simp only [lPA, lPD, novO, setAll, seval, implies_true, pa_accs] <;> (try simp) <;> (try omega)) (by simp only [lPA, lPD, novO, setAll, seval, implies_true, pa_accs] <;> (try simp) <;> (try omega))) ?_
                  rintro c ⟨hc, hnc⟩
                  by_cases hcn : c < h.length
                  · have k1 := c56 h' a b c (by omega) (by omega) (by omega)
                    repeat' (first
                      | (with_reducible first | apply cond_d | apply cond_nd | apply cond_i | apply guard_d | apply guard_nd | apply guard_df | apply guard_ndf | apply guard_i | apply ag_d | apply ag_nd | apply ag_df | apply ag_ndf | apply ag_i) <;> intro _
                      | with_reducible first | refine LenR_i fun _ => ?_ | refine And.intro (by omega) ?_ | refine and_assoc.2 ?_ | apply sp_cond | apply sp_guard | apply sp_ag | apply sp_call | apply sp_acall | apply sp_loop | apply sp_any | apply sp_frz | apply sp_len | apply sp_idx | apply sp_keep | apply sp_back
                      | with_reducible refine frz0_i ?_
                      | ((with_reducible first | refine callN_i [] true (by simp) (by simp) ?_ | refine acallN_i true ?_); simp only [lPA, lPD, novO, setAll, seval, implies_true, pa_accs]; (refine ⟨_, k1, ?_⟩; rintro _ _ ⟨rfl, rfl⟩); simp only [lAL, lDF, tupA, eqA, isNil, slcNil, ptrCells, ptrAdd, cellsO, intA, boolA, readsV, readsP, isCall, wrote, srcOf, isNilSlice, Value.oneCell', seval, implies_true, forall_eq, ne_eq, lPA, lPD, novO, setAll, pa_accs])
                      | ((with_reducible refine keep0_i ?_); simp only [lPA, lPD, novO, setAll, seval, implies_true])
                      | simp (maxSteps := 1000000) (disch := omega) only [lAL, lDF, tupA, eqA, isNil, slcNil, ptrCells, ptrAdd, cellsO, intA, boolA, readsV, readsP, isCall, wrote, srcOf, isNilSlice, Value.oneCell', seval, implies_true, forall_eq, ne_eq, wrap_i64, LenR_ok, List.length_map, IdxR_ints, pa_accs])
                    all_goals try (exfalso; omega)
                    all_goals clear k1
                    all_goals try simp only [decide_eq_true_eq, decide_eq_false_iff_not] at *
                    all_goals first
                      | (rw [hyes a b c han hbn hcn ((hD a b c).2 ⟨by assumption, by omega⟩)]
                         simp [admitA]
                         done)
                      | exact back_i (c + 1) ⟨by omega, hnc.next fun hh => by first | exact absurd ((hD a b c).1 hh).1 (by assumption) | (have := ((hD a b c).1 hh).2; omega)⟩ (by omega) (Ent.to [] false (by simp) (by simp) rfl (by simp only [lPA, lPD, novO, setAll, seval, implies_true, pa_accs] <;> (try simp) <;> (try omega)) (by simp only [lPA, lPD, novO, setAll, seval, implies_true, pa_accs] <;> (try simp) <;> (try omega)))
                  · have : c = h.length := by omega
                    subst this
                    repeat' (first
                      | (with_reducible first | apply cond_d | apply cond_nd | apply cond_i | apply guard_d | apply guard_nd | apply guard_df | apply guard_ndf | apply guard_i | apply ag_d | apply ag_nd | apply ag_df | apply ag_ndf | apply ag_i) <;> intro _
                      | with_reducible first | refine LenR_i fun _ => ?_ | refine And.intro (by omega) ?_ | refine and_assoc.2 ?_ | apply sp_cond | apply sp_guard | apply sp_ag | apply sp_call | apply sp_acall | apply sp_loop | apply sp_any | apply sp_frz | apply sp_len | apply sp_idx | apply sp_keep | apply sp_back
                      | with_reducible refine frz0_i ?_
                      | ((with_reducible refine keep0_i ?_); simp only [lPA, lPD, novO, setAll, seval, implies_true])
                      | simp (maxSteps := 1000000) (disch := omega) only [lAL, lDF, tupA, eqA, isNil, slcNil, ptrCells, ptrAdd, cellsO, intA, boolA, readsV, readsP, isCall, wrote, srcOf, isNilSlice, Value.oneCell', seval, implies_true, forall_eq, ne_eq, wrap_i64, LenR_ok, List.length_map, IdxR_ints, pa_accs])
                    all_goals try (exfalso; omega)
                    exact back_i (b + 1) ⟨by omega, hnc.row⟩ (by omega) (Ent.to [] false (by simp) (by simp) rfl (by simp only [lPA, lPD, novO, setAll, seval, implies_true, pa_accs] <;> (try simp) <;> (try omega)) (by simp only [lPA, lPD, novO, setAll, seval, implies_true, pa_accs] <;> (try simp) <;> (try omega)))
                · have : b = h.length := by omega
                  subst this
                  repeat' (first
                    | (with_reducible first | apply cond_d | apply cond_nd | apply cond_i | apply guard_d | apply guard_nd | apply guard_df | apply guard_ndf | apply guard_i | apply ag_d | apply ag_nd | apply ag_df | apply ag_ndf | apply ag_i) <;> intro _
                    | with_reducible first | refine LenR_i fun _ => ?_ | refine And.intro (by omega) ?_ | refine and_assoc.2 ?_ | apply sp_cond | apply sp_guard | apply sp_ag | apply sp_call | apply sp_acall | apply sp_loop | apply sp_any | apply sp_frz | apply sp_len | apply sp_idx | apply sp_keep | apply sp_back
                    | with_reducible refine frz0_i ?_
                    | ((with_reducible refine keep0_i ?_); simp only [lPA, lPD, novO, setAll, seval, implies_true])
                    | simp (maxSteps := 1000000) (disch := omega) only [lAL, lDF, tupA, eqA, isNil, slcNil, ptrCells, ptrAdd, cellsO, intA, boolA, readsV, readsP, isCall, wrote, srcOf, isNilSlice, Value.oneCell', seval, implies_true, forall_eq, ne_eq, wrap_i64, LenR_ok, List.length_map, IdxR_ints, pa_accs])
                  all_goals try (exfalso; omega)
                  exact back_i (a + 1) ⟨by omega, hnb.plane⟩ (by omega) (Ent.to [] false (by simp) (by simp) rfl (by simp only [lPA, lPD, novO, setAll, seval, implies_true, pa_accs] <;> (try simp) <;> (try omega)) (by simp only [lPA, lPD, novO, setAll, seval, implies_true, pa_accs] <;> (try simp) <;> (try omega)))
              · have : a = h.length := by omega
                subst this
                repeat' (first
                  | (with_reducible first | apply cond_d | apply cond_nd | apply cond_i | apply guard_d | apply guard_nd | apply guard_df | apply guard_ndf | apply guard_i | apply ag_d | apply ag_nd | apply ag_df | apply ag_ndf | apply ag_i) <;> intro _
                  | with_reducible first | refine LenR_i fun _ => ?_ | refine And.intro (by omega) ?_ | refine and_assoc.2 ?_ | apply sp_cond | apply sp_guard | apply sp_ag | apply sp_call | apply sp_acall | apply sp_loop | apply sp_any | apply sp_frz | apply sp_len | apply sp_idx | apply sp_keep | apply sp_back
                  | with_reducible refine frz0_i ?_
                  | ((with_reducible refine keep0_i ?_); simp only [lPA, lPD, novO, setAll, seval, implies_true])
                  | simp (maxSteps := 1000000) (disch := omega) only [lAL, lDF, tupA, eqA, isNil, slcNil, ptrCells, ptrAdd, cellsO, intA, boolA, readsV, readsP, isCall, wrote, srcOf, isNilSlice, Value.oneCell', seval, implies_true, forall_eq, ne_eq, wrap_i64, LenR_ok, List.length_map, IdxR_ints, pa_accs])
                all_goals try (exfalso; omega)
                rw [hfin hna]
                simp [admitA]
            · rw [admitN_ok hsl hlost fun hh => absurd hh.1 (by assumption)]
              simp [admitA]
    · have hs : admitS h i = (0, 1) := by simp only [admitS]; rw [if_neg (by simp [hck]), if_pos (by omega)]
      repeat' (first
        | (with_reducible first | apply cond_d | apply cond_nd | apply cond_i | apply guard_d | apply guard_nd | apply guard_df | apply guard_ndf | apply guard_i | apply ag_d | apply ag_nd | apply ag_df | apply ag_ndf | apply ag_i) <;> intro _
        | with_reducible first | refine LenR_i fun _ => ?_ | refine And.intro (by omega) ?_ | refine and_assoc.2 ?_ | apply sp_cond | apply sp_guard | apply sp_ag | apply sp_call | apply sp_acall | apply sp_loop | apply sp_any | apply sp_frz | apply sp_len | apply sp_idx | apply sp_keep | apply sp_back
        | with_reducible refine frz0_i ?_
        | ((with_reducible first | refine callN_i [] true (by simp) (by simp) ?_ | refine acallN_i true ?_); simp only [lPA, lPD, novO, setAll, seval, implies_true, pa_accs]; (refine ⟨_, h19, ?_⟩; rintro _ _ ⟨rfl, rfl⟩); simp only [lAL, lDF, tupA, eqA, isNil, slcNil, ptrCells, ptrAdd, cellsO, intA, boolA, readsV, readsP, isCall, wrote, srcOf, isNilSlice, Value.oneCell', seval, implies_true, forall_eq, ne_eq, lPA, lPD, novO, setAll, pa_accs])
        | ((with_reducible refine keep0_i ?_); simp only [lPA, lPD, novO, setAll, seval, implies_true])
        | simp (maxSteps := 1000000) (disch := omega) only [lAL, lDF, tupA, eqA, isNil, slcNil, ptrCells, ptrAdd, cellsO, intA, boolA, readsV, readsP, isCall, wrote, srcOf, isNilSlice, Value.oneCell', seval, implies_true, forall_eq, ne_eq, wrap_i64, LenR_ok, List.length_map, IdxR_ints, pa_accs])
      all_goals try (exfalso; omega)
      all_goals simp [hs, admitA]
  · have hs : admitS h i = (0, checkS h) := by simp [admitS, hck]
    repeat' (first
      | (with_reducible first | apply cond_d | apply cond_nd | apply cond_i | apply guard_d | apply guard_nd | apply guard_df | apply guard_ndf | apply guard_i | apply ag_d | apply ag_nd | apply ag_df | apply ag_ndf | apply ag_i) <;> intro _
      | with_reducible first | refine LenR_i fun _ => ?_ | refine And.intro (by omega) ?_ | refine and_assoc.2 ?_ | apply sp_cond | apply sp_guard | apply sp_ag | apply sp_call | apply sp_acall | apply sp_loop | apply sp_any | apply sp_frz | apply sp_len | apply sp_idx | apply sp_keep | apply sp_back
      | with_reducible refine frz0_i ?_
      | ((with_reducible first | refine callN_i [] true (by simp) (by simp) ?_ | refine acallN_i true ?_); simp only [lPA, lPD, novO, setAll, seval, implies_true, pa_accs]; (refine ⟨_, h19, ?_⟩; rintro _ _ ⟨rfl, rfl⟩); simp only [lAL, lDF, tupA, eqA, isNil, slcNil, ptrCells, ptrAdd, cellsO, intA, boolA, readsV, readsP, isCall, wrote, srcOf, isNilSlice, Value.oneCell', seval, implies_true, forall_eq, ne_eq, lPA, lPD, novO, setAll, pa_accs])
      | ((with_reducible refine keep0_i ?_); simp only [lPA, lPD, novO, setAll, seval, implies_true])
      | simp (maxSteps := 1000000) (disch := omega) only [lAL, lDF, tupA, eqA, isNil, slcNil, ptrCells, ptrAdd, cellsO, intA, boolA, readsV, readsP, isCall, wrote, srcOf, isNilSlice, Value.oneCell', seval, implies_true, forall_eq, ne_eq, wrap_i64, LenR_ok, List.length_map, IdxR_ints, pa_accs])
    all_goals try (exfalso; omega)
    all_goals simp [hs, admitA]
end Go.Proofs.Try
