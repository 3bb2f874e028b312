/-
  A part of the proof: see the text of the law.
-/
import Derived.Test.YthbajphbhoiceaaCad
set_option linter.unusedSimpArgs false
set_option linter.unusedVariables false
namespace Go.Proofs.Try
open Go.Al
set_option linter.unusedVariables false
set_option linter.unusedSimpArgs false
open Classical

theorem IdxR_accs {P : Program} {m N : Nat} {xs : List Acc} {n : Int} {d : Nat} {c : Kn} (h0 : 0 ≤ n) (h1 : n < xs.length) : IdxR P m N (xs.map accA) n d c = rK P m N c d (.vp (accC (xs.getD n.toNat default))) :=
  IdxR_map (cs := accC) (fun _ => rfl) h0 h1

abbrev at' (h : List Acc) (i : Nat) : Acc := h.getD i default
def Big (h : List Acc) : Prop := 100 < h.length ∨ ∃ i, i < h.length ∧ (64 < (at' h i).reads.length ∨ 64 < (at' h i).writes.length)
def Bad (h : List Acc) : Prop := (∃ i, i < h.length ∧ ¬ (at' h i).Formed) ∨ ∃ i j, i < j ∧ j < h.length ∧ (at' h i).stamp = (at' h j).stamp ∧ 0 < (at' h j).stamp
def Clash1 (x y : Acc) : Prop := x.writer = true ∧ y.writer = true ∧ x.snap < y.stamp ∧ y.snap < x.stamp ∧ Meet y.writes x.writes
def Clash (h : List Acc) : Prop := ∃ i j, j < i ∧ i < h.length ∧ Clash1 (at' h i) (at' h j)
noncomputable def checkS (h : List Acc) : Int := if Big h then 2 else if Bad h then 1 else if Clash h then 3 else 0

theorem vw_accs {H : List AObj} {l : List Nat} {n : Nat} {xs : List Acc} : (xs.map accA).map (vw H l (n + 1)) = xs.map accA := map_same (fun x => by simp [accA_eq, vw_agg, vw_int, vw_bool, vw_view]) xs
theorem pa_accs {H : List AObj} {l : List Nat} {bor : Bool} {n : Nat} {xs : List Acc} : (xs.map accA).map (pa H l bor (n + 1)) = xs.map accA := map_same (fun x => by simp [accA_eq, pa_agg, pa_int, pa_bool, pa_view]) xs

set_option maxHeartbeats 4000000
theorem c18 (h : List Acc) : ACalls E.P 18 [.view 6 (h.map accA)] [] (fun r H => r = .int .i64 (checkS h) ∧ H = []) := by
  have hmax := maxLen_eq
  refine ok18.acalls hE hm (by simp) ?_
  unfold mc18
  repeat' (first
    | (with_reducible first | apply cond_d | apply cond_nd | apply cond_i | apply guard_d | apply guard_nd | apply guard_df | apply guard_ndf | apply guard_i | apply ag_d | apply ag_nd | apply ag_df | apply ag_ndf | apply ag_i) <;> intro _
    | with_reducible first | refine LenR_i fun _ => ?_ | refine And.intro (by omega) ?_ | refine and_assoc.2 ?_ | apply sp_cond | apply sp_guard | apply sp_ag | apply sp_call | apply sp_acall | apply sp_loop | apply sp_any | apply sp_frz | apply sp_len | apply sp_idx | apply sp_keep | apply sp_back
    | with_reducible refine frz0_i ?_
    | ((with_reducible refine keep0_i ?_); simp only [lPA, lPD, novO, setAll, seval, implies_true])
    | simp (maxSteps := 1000000) (disch := omega) only [lAL, lDF, tupA, eqA, isNil, slcNil, ptrCells, ptrAdd, cellsO, intA, boolA, readsV, readsP, isCall, wrote, srcOf, isNilSlice, Value.oneCell', seval, implies_true, forall_eq, ne_eq, wrap_i64, LenR_ok, List.length_map, IdxR_ints])
  · rename_i h1 h2
    have : Big h := .inl (by omega)
    simp [checkS, this]
  rename_i h1 h2
  have hlen : ¬ 100 < h.length := by omega
  refine loop_i (fun i : Nat => i ≤ h.length ∧ ∀ j, j < i → (at' h j).reads.length ≤ 64 ∧ (at' h j).writes.length ≤ 64) (fun i => ⟨[(0, .view 6 (h.map accA)), (16, .view 6 (h.map accA)), (17, .int .i64 h.length), (18, .int .i64 i)], []⟩) (fun i => h.length - i) 0 ⟨by omega, by omega⟩ (Ent.to [] false (by simp) (by simp) rfl (by simp only [lPA, lPD, novO, setAll, seval, implies_true] <;> (try simp) <;> (try omega)) (by simp only [lPA, lPD, novO, setAll, seval, implies_true] <;> (try simp) <;> (try omega))) ?_
  rintro i ⟨hi, hj⟩
  repeat' (first
    | (with_reducible first | apply cond_d | apply cond_nd | apply cond_i | apply guard_d | apply guard_nd | apply guard_df | apply guard_ndf | apply guard_i | apply ag_d | apply ag_nd | apply ag_df | apply ag_ndf | apply ag_i) <;> intro _
    | with_reducible first | refine LenR_i fun _ => ?_ | refine And.intro (by omega) ?_ | refine and_assoc.2 ?_ | apply sp_cond | apply sp_guard | apply sp_ag | apply sp_call | apply sp_acall | apply sp_loop | apply sp_any | apply sp_frz | apply sp_len | apply sp_idx | apply sp_keep | apply sp_back
    | with_reducible refine frz0_i ?_
    | ((with_reducible refine keep0_i ?_); simp only [lPA, lPD, novO, setAll, seval, implies_true])
    | simp (maxSteps := 1000000) (disch := omega) only [lAL, lDF, tupA, eqA, isNil, slcNil, ptrCells, ptrAdd, cellsO, intA, boolA, readsV, readsP, isCall, wrote, srcOf, isNilSlice, Value.oneCell', seval, implies_true, forall_eq, ne_eq, wrap_i64, LenR_ok, List.length_map, IdxR_ints, IdxR_accs, accC])
  · rename_i h3 h4 h5 h6
    have : Big h := .inr ⟨i, by omega, by split at h6 <;> simp only [at'] <;> omega⟩
    simp [checkS, this]
  · rename_i h3 h4 h5 h6
    refine back_i (i + 1) ⟨by omega, fun j hj2 => ?_⟩ (by omega) (Ent.to [] false (by simp) (by simp) rfl (by simp only [lPA, lPD, novO, setAll, seval, implies_true] <;> (try simp) <;> (try omega)) (by simp only [lPA, lPD, novO, setAll, seval, implies_true] <;> (try simp) <;> (try omega)))
    by_cases hji : j < i
    · exact hj j hji
    · have : j = i := by omega
      subst this
      simp only [at']
      split at h6 <;> omega
  rename_i h3
  have hbig : ¬ Big h := by
    rintro (hb | ⟨j, hj1, hj2⟩)
    · exact hlen hb
    · have := hj j (by omega)
      omega
  refine loop_i (X := Nat × List Int × List Nat × Nat) (fun x => x.1 ≤ h.length ∧ (∀ j, j < x.1 → (at' h j).Formed) ∧ (∀ y, y ∈ x.2.1 ↔ ∃ j, j < x.1 ∧ (at' h j).stamp = y ∧ 0 < y) ∧ ∀ a b, a < b → b < x.1 → ¬ ((at' h a).stamp = (at' h b).stamp ∧ 0 < (at' h b).stamp))
    (fun x => ⟨[(0, .view 6 (h.map accA)), (5, .mp 0), (32, .view 6 (h.map accA)), (33, .int .i64 h.length), (34, .int .i64 x.1)], [.map (x.2.1.map (AV.int .i64)) (x.2.1.map fun _ => AV.bool true) x.2.2.1 x.2.2.2]⟩) (fun x => h.length - x.1) (0, [], [], 0) ⟨by simp, by simp, by simp, by simp⟩ (Ent.to [0] false (by simp) (by simp) rfl (by simp only [lPA, lPD, novO, setAll, seval, implies_true] <;> (try simp) <;> (try omega)) (by simp only [lPA, lPD, novO, setAll, seval, implies_true] <;> (try simp) <;> (try omega))) ?_
  rintro ⟨i, ks, bs, c⟩ ⟨hi, hf, hks, hnd⟩
  simp only at hi hf hks hnd
  have h43 := c43 (at' h i)
  simp only [accA_eq, at'] at h43
  repeat' (first
    | (with_reducible first | apply cond_d | apply cond_nd | apply cond_i | apply guard_d | apply guard_nd | apply guard_df | apply guard_ndf | apply guard_i | apply ag_d | apply ag_nd | apply ag_df | apply ag_ndf | apply ag_i) <;> intro _
    | with_reducible first | refine LenR_i fun _ => ?_ | refine And.intro (by omega) ?_ | refine and_assoc.2 ?_ | apply sp_cond | apply sp_guard | apply sp_ag | apply sp_call | apply sp_acall | apply sp_loop | apply sp_any | apply sp_frz | apply sp_len | apply sp_idx | apply sp_keep | apply sp_back
    | with_reducible refine frz0_i ?_
    | ((with_reducible first | refine callN_i [] true (by simp) (by simp) ?_ | refine acallN_i true ?_); simp only [lPA, lPD, novO, setAll, seval, implies_true, IdxR_accs, accC, look_set]; (refine ⟨_, h43, ?_⟩; rintro _ _ ⟨rfl, rfl⟩); simp only [lAL, lDF, tupA, eqA, isNil, slcNil, ptrCells, ptrAdd, cellsO, intA, boolA, readsV, readsP, isCall, wrote, srcOf, isNilSlice, Value.oneCell', seval, implies_true, forall_eq, ne_eq, lPA, lPD, novO, setAll, IdxR_accs, accC, look_set])
    | ((with_reducible refine keep0_i ?_); simp only [lPA, lPD, novO, setAll, seval, implies_true])
    | simp (maxSteps := 1000000) (disch := omega) only [lAL, lDF, tupA, eqA, isNil, slcNil, ptrCells, ptrAdd, cellsO, intA, boolA, readsV, readsP, isCall, wrote, srcOf, isNilSlice, Value.oneCell', seval, implies_true, forall_eq, ne_eq, wrap_i64, LenR_ok, List.length_map, IdxR_ints, IdxR_accs, accC, look_set])
  · -- a stamp twice
    rename_i h4 h5 h6
    obtain ⟨j, hj1, hj2, hj3⟩ := (hks _).1 h6
    have : Bad h := .inr ⟨j, i, hj1, by omega, by simpa [at'] using hj2, by simpa [at'] using hj3⟩
    simp [checkS, this, hbig]
  · -- a new stamp
    rename_i h4 h5 h6 h7
    obtain ⟨ks', bs', c', h8, h9⟩ := putK_set ks (h.getD i default).stamp bs c
    simp only [h8]
    repeat' (first
      | (with_reducible first | apply cond_d | apply cond_nd | apply cond_i | apply guard_d | apply guard_nd | apply guard_df | apply guard_ndf | apply guard_i | apply ag_d | apply ag_nd | apply ag_df | apply ag_ndf | apply ag_i) <;> intro _
      | with_reducible first | refine LenR_i fun _ => ?_ | refine And.intro (by omega) ?_ | refine and_assoc.2 ?_ | apply sp_cond | apply sp_guard | apply sp_ag | apply sp_call | apply sp_acall | apply sp_loop | apply sp_any | apply sp_frz | apply sp_len | apply sp_idx | apply sp_keep | apply sp_back
      | with_reducible refine frz0_i ?_
      | ((with_reducible refine keep0_i ?_); simp only [lPA, lPD, novO, setAll, seval, implies_true])
      | simp (maxSteps := 1000000) (disch := omega) only [lAL, lDF, tupA, eqA, isNil, slcNil, ptrCells, ptrAdd, cellsO, intA, boolA, readsV, readsP, isCall, wrote, srcOf, isNilSlice, Value.oneCell', seval, implies_true, forall_eq, ne_eq, wrap_i64, LenR_ok, List.length_map, IdxR_ints])
    refine back_i (i + 1, ks', bs', c') ⟨by simp only; omega, fun j hj2 => ?_, fun y => ?_, fun a b hab hb => ?_⟩ (by simp only; omega) (Ent.to [0] false (by simp) (by simp) rfl (by simp only [lPA, lPD, novO, setAll, seval, implies_true] <;> (try simp) <;> omega) (by simp only [lPA, lPD, novO, setAll, seval, implies_true, pa_trues]))
    · by_cases hji : j < i
      · exact hf j hji
      · have : j = i := by simp only at hj2; omega
        subst this; exact h5
    · simp only [h9, hks]
      constructor
      · rintro (⟨j, hj1, hj2, hj3⟩ | h)
        · exact ⟨j, by omega, hj2, hj3⟩
        · exact ⟨i, by omega, h.symm, by omega⟩
      · rintro ⟨j, hj1, hj2, hj3⟩
        by_cases hji : j < i
        · exact .inl ⟨j, hji, hj2, hj3⟩
        · have : j = i := by omega
          subst this
          exact .inr hj2.symm
    · by_cases hbi : b < i
      · exact hnd a b hab hbi
      · have : b = i := by simp only at hb; omega
        subst this
        rintro ⟨h10, h11⟩
        exact h6 ((hks _).2 ⟨a, by omega, h10, h11⟩)
  · -- no stamp
    rename_i h4 h5 h6 h7
    refine back_i (i + 1, ks, bs, c) ⟨by simp only; omega, fun j hj2 => ?_, fun y => ?_, fun a b hab hb => ?_⟩ (by simp only; omega) (Ent.to [0] false (by simp) (by simp) rfl (by simp only [lPA, lPD, novO, setAll, seval, implies_true] <;> (try simp) <;> omega) (by simp only [lPA, lPD, novO, setAll, seval, implies_true, pa_trues]))
    · by_cases hji : j < i
      · exact hf j hji
      · have : j = i := by simp only at hj2; omega
        subst this; exact h5
    · simp only [hks]
      constructor
      · rintro ⟨j, hj1, hj2, hj3⟩
        exact ⟨j, by omega, hj2, hj3⟩
      · rintro ⟨j, hj1, hj2, hj3⟩
        by_cases hji : j < i
        · exact ⟨j, hji, hj2, hj3⟩
        · have : j = i := by omega
          subst this
          simp only [at'] at hj2
          omega
    · by_cases hbi : b < i
      · exact hnd a b hab hbi
      · have : b = i := by simp only at hb; omega
        subst this
        rintro ⟨h10, h11⟩
        exact h7 h11
  · -- not formed
    rename_i h4 h5
    have : Bad h := .inl ⟨i, by omega, h5⟩
    simp [checkS, this, hbig]
  rename_i h4
  have hbad : ¬ Bad h := by
    rintro (⟨j, hj1, hj2⟩ | ⟨a, b, hab, hb, h5, h6⟩)
    · exact hj2 (hf j (by omega))
    · exact hnd a b hab (by omega) ⟨h5, h6⟩
  refine loop_i (fun i : Nat => i ≤ h.length ∧ ∀ a b, b < a → a < i → ¬ Clash1 (at' h a) (at' h b)) (fun i => ⟨[(0, .view 6 (h.map accA)), (54, .view 6 (h.map accA)), (55, .int .i64 h.length), (56, .int .i64 i)], []⟩) (fun i => h.length - i) 0 ⟨by omega, by omega⟩ (Ent.to [] false (by simp) (by simp) rfl (by simp only [lPA, lPD, novO, setAll, seval, implies_true] <;> (try simp) <;> (try omega)) (by simp only [lPA, lPD, novO, setAll, seval, implies_true] <;> (try simp) <;> (try omega))) ?_
  rintro i ⟨hi, hcl⟩
  repeat' (first
    | (with_reducible first | apply cond_d | apply cond_nd | apply cond_i | apply guard_d | apply guard_nd | apply guard_df | apply guard_ndf | apply guard_i | apply ag_d | apply ag_nd | apply ag_df | apply ag_ndf | apply ag_i) <;> intro _
    | with_reducible first | refine LenR_i fun _ => ?_ | refine And.intro (by omega) ?_ | refine and_assoc.2 ?_ | apply sp_cond | apply sp_guard | apply sp_ag | apply sp_call | apply sp_acall | apply sp_loop | apply sp_any | apply sp_frz | apply sp_len | apply sp_idx | apply sp_keep | apply sp_back
    | with_reducible refine frz0_i ?_
    | simp (maxSteps := 1000000) (disch := omega) only [lAL, lDF, tupA, eqA, isNil, slcNil, ptrCells, ptrAdd, cellsO, intA, boolA, readsV, readsP, isCall, wrote, srcOf, isNilSlice, Value.oneCell', seval, implies_true, forall_eq, ne_eq, wrap_i64, LenR_ok, List.length_map, IdxR_ints, IdxR_accs, accC])
  · rename_i h5
    refine callN_i [] true (by simp) (by simp) ?_
    simp only [lPA, lPD, novO, setAll, seval, implies_true]
    refine ⟨_, c44 _, ?_⟩
    rintro _ _ ⟨rfl, ws, wb, wc, rfl, hws⟩
    simp only [lPA, lPD, novO, setAll, seval, implies_true, lAL, lDF, tupA, eqA, isNil, slcNil, ptrCells, ptrAdd, cellsO, intA, boolA, readsV, readsP, isCall, wrote, srcOf, isNilSlice, Value.oneCell', seval, implies_true, forall_eq, ne_eq, renL_trues, novL_trues]
    repeat' (first
      | (with_reducible first | apply cond_d | apply cond_nd | apply cond_i | apply guard_d | apply guard_nd | apply guard_df | apply guard_ndf | apply guard_i | apply ag_d | apply ag_nd | apply ag_df | apply ag_ndf | apply ag_i) <;> intro _
      | with_reducible first | refine LenR_i fun _ => ?_ | refine And.intro (by omega) ?_ | refine and_assoc.2 ?_ | apply sp_cond | apply sp_guard | apply sp_ag | apply sp_call | apply sp_acall | apply sp_loop | apply sp_any | apply sp_frz | apply sp_len | apply sp_idx | apply sp_keep | apply sp_back
      | with_reducible refine frz0_i ?_
      | ((with_reducible refine keep0_i ?_); simp only [lPA, lPD, novO, setAll, seval, implies_true])
      | simp (maxSteps := 1000000) (disch := omega) only [lAL, lDF, tupA, eqA, isNil, slcNil, ptrCells, ptrAdd, cellsO, intA, boolA, readsV, readsP, isCall, wrote, srcOf, isNilSlice, Value.oneCell', seval, implies_true, forall_eq, ne_eq, wrap_i64, LenR_ok, List.length_map, IdxR_ints, ← List.map_take, List.length_take])

    refine loop_i (fun j : Nat => j ≤ i ∧ ∀ b, b < j → ¬ Clash1 (at' h i) (at' h b)) (fun j => ⟨[(0, .view 6 (h.map accA)), (8, .int .i64 i), (9, .op 0 0), (10, .mp 1), (54, .view 6 (h.map accA)), (55, .int .i64 h.length), (56, .int .i64 i), (66, .view 6 ((h.take i).map accA)), (67, .int .i64 i), (68, .int .i64 j)], [.box (accC (at' h i)), .map (ws.map (AV.int .i64)) (ws.map fun _ => AV.bool true) wb wc]⟩) (fun j => i - j) 0 ⟨by omega, by omega⟩ (Ent.to [0,1] false (by simp) (by simp) rfl (by simp only [lPA, lPD, novO, setAll, seval, implies_true, pa_trues, accC] <;> (try simp) <;> (try omega)) (by simp only [lPA, lPD, novO, setAll, seval, implies_true, pa_trues, accC] <;> (try simp) <;> (try omega))) ?_
    rintro j ⟨hj2, hcl2⟩
    have htl : (h.take i).length = i := by simp; omega
    by_cases hji : j < i
    · have htg : (h.take i).getD j default = h.getD j default := by simp [List.getD, hji]
      have h45 := c45 (at' h i)
      have h45' := c45 (at' h j)
      have h46 := c46 (at' h i) (at' h j)
      have h47 := c47 ws (at' h j).writes
      simp only [accA_eq, at', setA] at h45 h45' h46 h47
      repeat' (first
        | (with_reducible first | apply cond_d | apply cond_nd | apply cond_i | apply guard_d | apply guard_nd | apply guard_df | apply guard_ndf | apply guard_i | apply ag_d | apply ag_nd | apply ag_df | apply ag_ndf | apply ag_i) <;> intro _
        | with_reducible first | refine LenR_i fun _ => ?_ | refine And.intro (by omega) ?_ | refine and_assoc.2 ?_ | apply sp_cond | apply sp_guard | apply sp_ag | apply sp_call | apply sp_acall | apply sp_loop | apply sp_any | apply sp_frz | apply sp_len | apply sp_idx | apply sp_keep | apply sp_back
        | with_reducible refine frz0_i ?_
        | ((with_reducible first | refine callN_i [] true (by simp) (by simp) ?_ | refine acallN_i true ?_); simp only [lPA, lPD, novO, setAll, seval, implies_true, IdxR_accs, accC, vw_trues, at', htg, Int.toNat_natCast]; (first | (refine ⟨_, h45, ?_⟩; rintro _ _ ⟨rfl, rfl⟩) | (refine ⟨_, h45', ?_⟩; rintro _ _ ⟨rfl, rfl⟩) | (refine ⟨_, h46, ?_⟩; rintro _ _ ⟨rfl, rfl⟩) | (refine ⟨_, h47, ?_⟩; rintro _ _ ⟨rfl, rfl⟩)); simp only [lAL, lDF, tupA, eqA, isNil, slcNil, ptrCells, ptrAdd, cellsO, intA, boolA, readsV, readsP, isCall, wrote, srcOf, isNilSlice, Value.oneCell', seval, implies_true, forall_eq, ne_eq, lPA, lPD, novO, setAll, IdxR_accs, accC, vw_trues, at', htg, Int.toNat_natCast])
        | ((with_reducible refine keep0_i ?_); simp only [lPA, lPD, novO, setAll, seval, implies_true])
        | simp (maxSteps := 1000000) (disch := omega) only [lAL, lDF, tupA, eqA, isNil, slcNil, ptrCells, ptrAdd, cellsO, intA, boolA, readsV, readsP, isCall, wrote, srcOf, isNilSlice, Value.oneCell', seval, implies_true, forall_eq, ne_eq, wrap_i64, LenR_ok, List.length_map, IdxR_ints, IdxR_accs, accC, vw_trues, at', htg, Int.toNat_natCast])
      ·
        rename_i h6 h7 h8 h9 h10
        simp only [Bool.and_eq_true, decide_eq_true_eq] at h9
        obtain ⟨x, hx1, hx2⟩ := h10
        have : Clash h := ⟨i, j, by omega, by omega, h7, h8, h9.1, h9.2, x, hx1, (hws x).1 hx2⟩
        simp [checkS, hbig, hbad, this]
      all_goals first
        | (exfalso; omega)
        | (refine back_i (j + 1) ⟨by omega, fun b hb => ?_⟩ (by omega) (Ent.to [0,1] false (by simp) (by simp) rfl (by simp only [lPA, lPD, novO, setAll, seval, implies_true, pa_trues, accC] <;> (try simp) <;> (try omega)) (by simp only [lPA, lPD, novO, setAll, seval, implies_true, pa_trues, accC] <;> (try simp) <;> (try omega)))
           by_cases hbj : b < j
           · exact hcl2 b hbj
           · have hbj : b = j := by omega
             subst hbj
             rintro ⟨k1, k2, k3, k4, x, k5, k6⟩
             first
               | exact absurd ⟨x, k5, (hws x).2 k6⟩ ‹¬ ∃ x, x ∈ _ ∧ x ∈ ws›
               | (rename_i hn; simp only [Bool.not_true, Bool.and_eq_false_imp, decide_eq_true_eq, decide_eq_false_iff_not] at hn; exact hn k3 k4)
               | (simp_all; done))
    · repeat' (first
        | (with_reducible first | apply cond_d | apply cond_nd | apply cond_i | apply guard_d | apply guard_nd | apply guard_df | apply guard_ndf | apply guard_i | apply ag_d | apply ag_nd | apply ag_df | apply ag_ndf | apply ag_i) <;> intro _
        | with_reducible first | refine LenR_i fun _ => ?_ | refine And.intro (by omega) ?_ | refine and_assoc.2 ?_ | apply sp_cond | apply sp_guard | apply sp_ag | apply sp_call | apply sp_acall | apply sp_loop | apply sp_any | apply sp_frz | apply sp_len | apply sp_idx | apply sp_keep | apply sp_back
        | with_reducible refine frz0_i ?_
        | ((with_reducible refine keep0_i ?_); simp only [lPA, lPD, novO, setAll, seval, implies_true])
        | simp (maxSteps := 1000000) (disch := omega) only [lAL, lDF, tupA, eqA, isNil, slcNil, ptrCells, ptrAdd, cellsO, intA, boolA, readsV, readsP, isCall, wrote, srcOf, isNilSlice, Value.oneCell', seval, implies_true, forall_eq, ne_eq, wrap_i64, LenR_ok, List.length_map, IdxR_ints])
      · exfalso; omega
      · refine back_i (i + 1) ⟨by omega, fun a b hba ha => ?_⟩ (by omega) (Ent.to [] false (by simp) (by simp) rfl (by simp only [lPA, lPD, novO, setAll, seval, implies_true] <;> (try simp) <;> (try omega)) (by simp only [lPA, lPD, novO, setAll, seval, implies_true] <;> (try simp) <;> (try omega)))
        by_cases hai : a < i
        · exact hcl a b hba hai
        · have hai : a = i := by omega
          subst hai
          exact hcl2 b (by omega)
  · rename_i h5
    have : ¬ Clash h := by
      rintro ⟨a, b, hba, ha, hc⟩
      exact hcl a b hba (by omega) hc
    refine keep0_i ?_
    simp only [lPA, lPD, novO, setAll, seval, implies_true]
    simp [checkS, hbig, hbad, this]
end Go.Proofs.Try
