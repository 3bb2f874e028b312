/-
  A part of the proof: see the text of the law.
-/
import Derived.Test.YthbajphbhoiceaaCba
set_option linter.unusedSimpArgs false
set_option linter.unusedVariables false
namespace Go.Proofs.Try
open Go.Al
set_option linter.unusedVariables false
set_option linter.unusedSimpArgs false
open Classical
theorem lastTo_ge {h : List Acc} : ∀ {m : Nat}, 0 ≤ lastTo h m ∧ ∀ k, k < m → (at' h k).stamp ≤ lastTo h m ∧ (at' h k).snap ≤ lastTo h m
  | 0 => ⟨by simp [lastTo], fun k hk => by omega⟩
  | m + 1 => by
    obtain ⟨h1, h2⟩ := lastTo_ge (h := h) (m := m)
    simp only [lastTo]
    refine ⟨by omega, fun k hk => ?_⟩
    by_cases e : k = m
    · subst e; constructor <;> omega
    · obtain ⟨a, b⟩ := h2 k (by omega)
      constructor <;> omega
theorem lastS_ge {h : List Acc} {k : Nat} (hk : k < h.length) : (at' h k).stamp ≤ lastS h ∧ (at' h k).snap ≤ lastS h := lastTo_ge.2 k hk
theorem lastS_nn {h : List Acc} : 0 ≤ lastS h := lastTo_ge.1
theorem check_zero {h : List Acc} : checkS h = 0 ↔ ¬ Big h ∧ ¬ Bad h ∧ ¬ Clash h := by
  unfold checkS
  by_cases h1 : Big h <;> by_cases h2 : Bad h <;> by_cases h3 : Clash h <;> simp [h1, h2, h3]
theorem at_with {h : List Acc} {n : Nat} {s : Int} (hn : n < h.length) : at' (withS h n s) n = { at' h n with done := true, stamp := s } := at_set hn
theorem at_with_ne {h : List Acc} {n m : Nat} {s : Int} (hm : m ≠ n) : at' (withS h n s) m = at' h m := at_set_ne hm
/-- The stamp that a transaction would get. -/
def stampS (h : List Acc) (n : Nat) : Int := if 0 < (at' h n).writes.length then lastS h + 1 else 0
theorem check_with {h : List Acc} {n : Nat} (hc : checkS h = 0) (hn : n < h.length) (hd : (at' h n).done = false) (hle : stampS h n ≤ 1073741824)
    (hw : ∀ k, k < h.length → (at' h k).done = true → Meet (at' h n).writes (at' h k).writes → (at' h k).stamp ≤ (at' h n).snap) : checkS (withS h n (stampS h n)) = 0 := by
  rw [check_zero] at hc ⊢
  obtain ⟨c1, c2, c3⟩ := hc
  have hform : ∀ i, i < h.length → (at' h i).Formed := fun i hi => Classical.byContradiction fun hf => c2 (.inl ⟨i, hi, hf⟩)
  have hlast := fun k hk => lastS_ge (h := h) (k := k) hk
  have hnn := lastS_nn (h := h)
  have hfn := hform n hn
  refine ⟨?_, ?_, ?_⟩
  · rintro (hb | ⟨i, hi, hb⟩)
    · exact c1 (.inl (by rwa [withS_len] at hb))
    · rw [withS_len] at hi
      refine c1 (.inr ⟨i, hi, ?_⟩)
      by_cases e : i = n
      · subst e; rw [at_with hn] at hb; exact hb
      · rwa [at_with_ne e] at hb
  · rintro (⟨i, hi, hb⟩ | ⟨i, j, hij, hj, hb1, hb2⟩)
    · rw [withS_len] at hi
      by_cases e : i = n
      · subst e
        rw [at_with hn] at hb
        apply hb
        obtain ⟨f1, f2, f3, f4, f5, f6, f7, f8, f9⟩ := hfn
        refine ⟨f1, f2, f3, f4, f5, f6, f7, ?_, ?_⟩
        · intro hwr
          have : 0 < (at' h i).writes.length := by simpa [Acc.writer] using hwr
          have := hlast i hn
          simp only [stampS, if_pos ‹0 < (at' h i).writes.length›] at hle ⊢
          omega
        · intro hwr
          have : ¬ 0 < (at' h i).writes.length := by simpa [Acc.writer] using hwr
          simp only [stampS, if_neg this]
      · rw [at_with_ne e] at hb
        exact hb (hform i hi)
    · rw [withS_len] at hj
      have key : ∀ a, a < h.length → (at' h a).stamp = stampS h n → 0 < stampS h n → False := fun a ha h1 h2 => by
        have := hlast a ha
        simp only [stampS] at h1 h2
        split at h2
        · rename_i hp; simp only [if_pos hp] at h1; omega
        · omega
      by_cases ei : i = n
      · subst ei
        rw [at_with hn, at_with_ne (by omega)] at hb1
        rw [at_with_ne (by omega)] at hb2
        exact key j hj hb1.symm (by simp only at hb1; omega)
      · by_cases ej : j = n
        · subst ej
          rw [at_with hn, at_with_ne (by omega)] at hb1
          rw [at_with hn] at hb2
          exact key i (by omega) hb1 hb2
        · rw [at_with_ne ei, at_with_ne ej] at hb1
          rw [at_with_ne ej] at hb2
          exact c2 (.inr ⟨i, j, hij, hj, hb1, hb2⟩)
  · rintro ⟨i, j, hji, hi, hcl⟩
    rw [withS_len] at hi
    have hwd : ∀ {x : Acc}, x.writer = true → x.done = true := fun {x} hx => by simp only [Acc.writer, Bool.and_eq_true] at hx; exact hx.1
    by_cases ei : i = n
    · subst ei
      rw [at_with hn, at_with_ne (by omega)] at hcl
      obtain ⟨w1, w2, w3, w4, w5⟩ := hcl
      obtain ⟨x, hx1, hx2⟩ := w5
      have := hw j (by omega) (hwd w2) ⟨x, by first | exact hx2 | exact hx1, by first | exact hx1 | exact hx2⟩
      simp only at w3
      omega
    · by_cases ej : j = n
      · subst ej
        rw [at_with_ne ei, at_with hn] at hcl
        obtain ⟨w1, w2, w3, w4, w5⟩ := hcl
        have := hw i hi (hwd w1) w5
        simp only at w4
        omega
      · rw [at_with_ne ei, at_with_ne ej] at hcl
        exact c3 ⟨i, j, hji, hi, hcl⟩
set_option maxHeartbeats 8000000
theorem c37 (h : List Acc) (s : Int) : ACalls E.P 37 [.view 6 (h.map accA), .int .i64 s] [] (fun r H => r = .bool (decide (SafeS h s)) ∧ H = []) := by
  have hmax := maxLen_eq
  refine ok37.acalls hE hm (by simp) ?_
  unfold mc37
  have h19 := c19 h
  by_cases hck : ¬ (checkS h = 0 ∧ 0 ≤ s ∧ s ≤ 1073741824)
  · have : ¬ SafeS h s := fun hs => hck ⟨hs.check, hs.lo, hs.hi⟩
    repeat' (first
      | (with_reducible first | apply cond_d | apply cond_nd | apply cond_i | apply guard_d | apply guard_nd | apply guard_df | apply guard_ndf | apply guard_i | apply ag_d | apply ag_nd | apply ag_df | apply ag_ndf | apply ag_i) <;> intro _
      | with_reducible first | refine LenR_i fun _ => ?_ | refine And.intro (by omega) ?_ | refine and_assoc.2 ?_ | apply sp_cond | apply sp_guard | apply sp_ag | apply sp_call | apply sp_acall | apply sp_loop | apply sp_any | apply sp_frz | apply sp_len | apply sp_idx | apply sp_keep | apply sp_back
      | with_reducible refine frz0_i ?_
      | ((with_reducible first | refine callN_i [] true (by simp) (by simp) ?_ | refine acallN_i true ?_); simp only [lPA, lPD, novO, setAll, seval, implies_true, pa_accs]; (refine ⟨_, h19, ?_⟩; rintro _ _ ⟨rfl, rfl⟩); simp only [lAL, lDF, tupA, eqA, isNil, slcNil, ptrCells, ptrAdd, cellsO, intA, boolA, readsV, readsP, isCall, wrote, srcOf, isNilSlice, Value.oneCell', seval, implies_true, forall_eq, ne_eq, lPA, lPD, novO, setAll, pa_accs])
      | ((with_reducible refine keep0_i ?_); simp only [lPA, lPD, novO, setAll, seval, implies_true])
      | simp (maxSteps := 1000000) (disch := omega) only [lAL, lDF, tupA, eqA, isNil, slcNil, ptrCells, ptrAdd, cellsO, intA, boolA, readsV, readsP, isCall, wrote, srcOf, isNilSlice, Value.oneCell', seval, implies_true, forall_eq, ne_eq, wrap_i64, LenR_ok, List.length_map, IdxR_ints, pa_accs])
    all_goals try (exfalso; omega)
    all_goals simp [this]
  have hck := Classical.not_not.1 hck
  obtain ⟨hck, hlo, hhi⟩ := hck
  have hform := check_formed hck
  let Old (j : Nat) : Prop := (at' h j).done = false ∧ (at' h j).mode ≠ 2 ∧ (at' h j).snap < s
  let Bad2 (i j : Nat) : Prop := Anti h i j ∧ Spoil h s (i, j)
  have hsafe : SafeS h s ↔ (∀ i, i < h.length → ¬ Old i) ∧ ∀ i, i < h.length → ∀ j, j < h.length → ¬ Bad2 i j := by
    constructor
    · intro hs
      exact ⟨hs.old, fun i hi j hj hb => hs.anti ⟨(i, j), mem_pairsTo.2 ⟨hi, hj, hb.1⟩, hb.2⟩⟩
    · rintro ⟨h1, h2⟩
      refine ⟨hck, hlo, hhi, h1, ?_⟩
      rintro ⟨⟨i, j⟩, hp, hs⟩
      obtain ⟨a, b, c⟩ := mem_pairsTo.1 hp
      exact h2 i a j b ⟨c, hs⟩
  repeat' (first
    | (with_reducible first | apply cond_d | apply cond_nd | apply cond_i | apply guard_d | apply guard_nd | apply guard_df | apply guard_ndf | apply guard_i | apply ag_d | apply ag_nd | apply ag_df | apply ag_ndf | apply ag_i) <;> intro _
    | with_reducible first | refine LenR_i fun _ => ?_ | refine And.intro (by omega) ?_ | refine and_assoc.2 ?_ | apply sp_cond | apply sp_guard | apply sp_ag | apply sp_call | apply sp_acall | apply sp_loop | apply sp_any | apply sp_frz | apply sp_len | apply sp_idx | apply sp_keep | apply sp_back
    | with_reducible refine frz0_i ?_
    | ((with_reducible first | refine callN_i [] true (by simp) (by simp) ?_ | refine acallN_i true ?_); simp only [lPA, lPD, novO, setAll, seval, implies_true, pa_accs]; (refine ⟨_, h19, ?_⟩; rintro _ _ ⟨rfl, rfl⟩); simp only [lAL, lDF, tupA, eqA, isNil, slcNil, ptrCells, ptrAdd, cellsO, intA, boolA, readsV, readsP, isCall, wrote, srcOf, isNilSlice, Value.oneCell', seval, implies_true, forall_eq, ne_eq, lPA, lPD, novO, setAll, pa_accs])
    | ((with_reducible refine keep0_i ?_); simp only [lPA, lPD, novO, setAll, seval, implies_true])
    | simp (maxSteps := 1000000) (disch := omega) only [lAL, lDF, tupA, eqA, isNil, slcNil, ptrCells, ptrAdd, cellsO, intA, boolA, readsV, readsP, isCall, wrote, srcOf, isNilSlice, Value.oneCell', seval, implies_true, forall_eq, ne_eq, wrap_i64, LenR_ok, List.length_map, IdxR_ints, pa_accs])
  all_goals try (exfalso; omega)
  refine loop_i (fun i : Nat => i ≤ h.length ∧ (∀ k, k < i → ¬ Old k) ∧ ∀ k, k < i → ∀ j, j < h.length → ¬ Bad2 k j)
    (fun i => ⟨[(0, .view 6 (h.map accA)), (1, .int .i64 s), (5, .int .i64 i)], []⟩) (fun i => h.length - i) 0 ⟨by omega, by omega, by omega⟩ (Ent.to [] false (by simp) (by simp) rfl (by simp only [lPA, lPD, novO, setAll, seval, implies_true, pa_accs] <;> (try simp) <;> (try omega)) (by simp only [lPA, lPD, novO, setAll, seval, implies_true, pa_accs] <;> (try simp) <;> (try omega))) ?_
  rintro i ⟨hi, hold, hbad⟩
  by_cases hin : i < h.length
  · have e1 : ∀ {m N d k}, IdxR E.P m N (h.map accA) (i : Int) d k = rK E.P m N k d (.vp (accC (at' h i))) := IdxR_at hin
    have ho : Old i ↔ ((at' h i).done = false ∧ (at' h i).mode ≠ 2 ∧ (at' h i).snap < s) := Iff.rfl
    by_cases hoi : Old i
    · have : ¬ SafeS h s := fun hs => (hsafe.1 hs).1 i hin hoi
      rw [ho] at hoi
      repeat' (first
        | (with_reducible first | apply cond_d | apply cond_nd | apply cond_i | apply guard_d | apply guard_nd | apply guard_df | apply guard_ndf | apply guard_i | apply ag_d | apply ag_nd | apply ag_df | apply ag_ndf | apply ag_i) <;> intro _
        | with_reducible first | refine LenR_i fun _ => ?_ | refine And.intro (by omega) ?_ | refine and_assoc.2 ?_ | apply sp_cond | apply sp_guard | apply sp_ag | apply sp_call | apply sp_acall | apply sp_loop | apply sp_any | apply sp_frz | apply sp_len | apply sp_idx | apply sp_keep | apply sp_back
        | with_reducible refine frz0_i ?_
        | ((with_reducible refine keep0_i ?_); simp only [lPA, lPD, novO, setAll, seval, implies_true])
        | simp (maxSteps := 1000000) (disch := omega) only [lAL, lDF, tupA, eqA, isNil, slcNil, ptrCells, ptrAdd, cellsO, intA, boolA, readsV, readsP, isCall, wrote, srcOf, isNilSlice, Value.oneCell', seval, implies_true, forall_eq, ne_eq, wrap_i64, LenR_ok, List.length_map, IdxR_ints, e1, accC])
      all_goals first | (exfalso; omega) | (exfalso; simp_all; done) | simp [this]
    · have hoi' := hoi
      rw [ho] at hoi
      repeat' (first
        | (with_reducible first | apply cond_d | apply cond_nd | apply cond_i | apply guard_d | apply guard_nd | apply guard_df | apply guard_ndf | apply guard_i | apply ag_d | apply ag_nd | apply ag_df | apply ag_ndf | apply ag_i) <;> intro _
        | with_reducible first | refine LenR_i fun _ => ?_ | refine And.intro (by omega) ?_ | refine and_assoc.2 ?_ | apply sp_cond | apply sp_guard | apply sp_ag | apply sp_call | apply sp_acall | apply sp_loop | apply sp_any | apply sp_frz | apply sp_len | apply sp_idx | apply sp_keep | apply sp_back
        | with_reducible refine frz0_i ?_
        | ((with_reducible refine keep0_i ?_); simp only [lPA, lPD, novO, setAll, seval, implies_true])
        | simp (maxSteps := 1000000) (disch := omega) only [lAL, lDF, tupA, eqA, isNil, slcNil, ptrCells, ptrAdd, cellsO, intA, boolA, readsV, readsP, isCall, wrote, srcOf, isNilSlice, Value.oneCell', seval, implies_true, forall_eq, ne_eq, wrap_i64, LenR_ok, List.length_map, IdxR_ints, e1, accC])
      all_goals first | (exfalso; omega) | (exfalso; rename_i q1 q2 q3; exact hoi ⟨by simpa using q1, q2, q3⟩) | skip
      all_goals
        refine loop_i (fun j : Nat => j ≤ h.length ∧ ∀ k, k < j → ¬ Bad2 i k)
          (fun j => ⟨[(0, .view 6 (h.map accA)), (1, .int .i64 s), (5, .int .i64 i), (6, .int .i64 j)], []⟩) (fun j => h.length - j) 0 ⟨by omega, by omega⟩ (Ent.to [] false (by simp) (by simp) rfl (by simp only [lPA, lPD, novO, setAll, seval, implies_true, pa_accs] <;> (try simp) <;> (try omega)) (by simp only [lPA, lPD, novO, setAll, seval, implies_true, pa_accs] <;> (try simp) <;> (try omega))) ?_
        rintro j ⟨hj, hbj⟩
        by_cases hjn : j < h.length
        · have e2 : ∀ {m N d k}, IdxR E.P m N (h.map accA) (j : Int) d k = rK E.P m N k d (.vp (accC (at' h j))) := IdxR_at hjn
          have k1 := c52 h i j hin hjn
          have k2 := c75 (at' h i)
          have hb : Bad2 i j ↔ (Anti h i j ∧ s < (at' h i).stamp ∧ (at' h j).stamp ≤ s) := Iff.rfl
          have hwr : 0 < (at' h i).stamp → (at' h i).writer = true := fun hp => Classical.byContradiction fun hn => by
            have := (hform i hin).2.2.2.2.2.2.2.2 (by simpa using hn)
            omega
          simp only [accA_eq] at k2
          by_cases hbi : Bad2 i j
          · have : ¬ SafeS h s := fun hs => (hsafe.1 hs).2 i hin j hjn hbi
            have hw := hwr (by have := (hb.1 hbi).2.1; omega)
            rw [hb] at hbi
            repeat' (first
              | (with_reducible first | apply cond_d | apply cond_nd | apply cond_i | apply guard_d | apply guard_nd | apply guard_df | apply guard_ndf | apply guard_i | apply ag_d | apply ag_nd | apply ag_df | apply ag_ndf | apply ag_i) <;> intro _
              | with_reducible first | refine LenR_i fun _ => ?_ | refine And.intro (by omega) ?_ | refine and_assoc.2 ?_ | apply sp_cond | apply sp_guard | apply sp_ag | apply sp_call | apply sp_acall | apply sp_loop | apply sp_any | apply sp_frz | apply sp_len | apply sp_idx | apply sp_keep | apply sp_back
              | with_reducible refine frz0_i ?_
              | ((with_reducible first | refine callN_i [] true (by simp) (by simp) ?_ | refine acallN_i true ?_); simp only [lPA, lPD, novO, setAll, seval, implies_true, e1, e2, accC, pa_accs]; (first | (refine ⟨_, k1, ?_⟩; rintro _ _ ⟨rfl, rfl⟩) | (refine ⟨_, k2, ?_⟩; rintro _ _ ⟨rfl, rfl⟩)); simp only [lAL, lDF, tupA, eqA, isNil, slcNil, ptrCells, ptrAdd, cellsO, intA, boolA, readsV, readsP, isCall, wrote, srcOf, isNilSlice, Value.oneCell', seval, implies_true, forall_eq, ne_eq, lPA, lPD, novO, setAll, e1, e2, accC, pa_accs])
              | ((with_reducible refine keep0_i ?_); simp only [lPA, lPD, novO, setAll, seval, implies_true])
              | simp (maxSteps := 1000000) (disch := omega) only [lAL, lDF, tupA, eqA, isNil, slcNil, ptrCells, ptrAdd, cellsO, intA, boolA, readsV, readsP, isCall, wrote, srcOf, isNilSlice, Value.oneCell', seval, implies_true, forall_eq, ne_eq, wrap_i64, LenR_ok, List.length_map, IdxR_ints, e1, e2, accC, pa_accs])
            all_goals first | (exfalso; omega) | (exfalso; simp_all; done) | simp [this]
          · have hbi' := hbi
            rw [hb] at hbi
            repeat' (first
              | (with_reducible first | apply cond_d | apply cond_nd | apply cond_i | apply guard_d | apply guard_nd | apply guard_df | apply guard_ndf | apply guard_i | apply ag_d | apply ag_nd | apply ag_df | apply ag_ndf | apply ag_i) <;> intro _
              | with_reducible first | refine LenR_i fun _ => ?_ | refine And.intro (by omega) ?_ | refine and_assoc.2 ?_ | apply sp_cond | apply sp_guard | apply sp_ag | apply sp_call | apply sp_acall | apply sp_loop | apply sp_any | apply sp_frz | apply sp_len | apply sp_idx | apply sp_keep | apply sp_back
              | with_reducible refine frz0_i ?_
              | ((with_reducible first | refine callN_i [] true (by simp) (by simp) ?_ | refine acallN_i true ?_); simp only [lPA, lPD, novO, setAll, seval, implies_true, e1, e2, accC, pa_accs]; (first | (refine ⟨_, k1, ?_⟩; rintro _ _ ⟨rfl, rfl⟩) | (refine ⟨_, k2, ?_⟩; rintro _ _ ⟨rfl, rfl⟩)); simp only [lAL, lDF, tupA, eqA, isNil, slcNil, ptrCells, ptrAdd, cellsO, intA, boolA, readsV, readsP, isCall, wrote, srcOf, isNilSlice, Value.oneCell', seval, implies_true, forall_eq, ne_eq, lPA, lPD, novO, setAll, e1, e2, accC, pa_accs])
              | ((with_reducible refine keep0_i ?_); simp only [lPA, lPD, novO, setAll, seval, implies_true])
              | simp (maxSteps := 1000000) (disch := omega) only [lAL, lDF, tupA, eqA, isNil, slcNil, ptrCells, ptrAdd, cellsO, intA, boolA, readsV, readsP, isCall, wrote, srcOf, isNilSlice, Value.oneCell', seval, implies_true, forall_eq, ne_eq, wrap_i64, LenR_ok, List.length_map, IdxR_ints, e1, e2, accC, pa_accs])
            all_goals first
              | (exfalso; omega)
              | (refine back_i (j + 1) ⟨by omega, fun k hk => ?_⟩ (by omega) (Ent.to [] false (by simp) (by simp) rfl (by simp only [lPA, lPD, novO, setAll, seval, implies_true, pa_accs] <;> (try simp) <;> (try omega)) (by simp only [lPA, lPD, novO, setAll, seval, implies_true, pa_accs] <;> (try simp) <;> (try omega)))
                 by_cases e : k = j
                 · subst e; exact hbi'
                 · exact hbj k (by omega))
              | (exfalso; exact hbi ⟨by assumption, by omega, by omega⟩)
        · have e : j = h.length := by omega
          subst e
          repeat' (first
            | (with_reducible first | apply cond_d | apply cond_nd | apply cond_i | apply guard_d | apply guard_nd | apply guard_df | apply guard_ndf | apply guard_i | apply ag_d | apply ag_nd | apply ag_df | apply ag_ndf | apply ag_i) <;> intro _
            | with_reducible first | refine LenR_i fun _ => ?_ | refine And.intro (by omega) ?_ | refine and_assoc.2 ?_ | apply sp_cond | apply sp_guard | apply sp_ag | apply sp_call | apply sp_acall | apply sp_loop | apply sp_any | apply sp_frz | apply sp_len | apply sp_idx | apply sp_keep | apply sp_back
            | with_reducible refine frz0_i ?_
            | ((with_reducible refine keep0_i ?_); simp only [lPA, lPD, novO, setAll, seval, implies_true])
            | simp (maxSteps := 1000000) (disch := omega) only [lAL, lDF, tupA, eqA, isNil, slcNil, ptrCells, ptrAdd, cellsO, intA, boolA, readsV, readsP, isCall, wrote, srcOf, isNilSlice, Value.oneCell', seval, implies_true, forall_eq, ne_eq, wrap_i64, LenR_ok, List.length_map, IdxR_ints])
          all_goals try (exfalso; omega)
          refine back_i (i + 1) ⟨by omega, fun k hk => ?_, fun k hk => ?_⟩ (by omega) (Ent.to [] false (by simp) (by simp) rfl (by simp only [lPA, lPD, novO, setAll, seval, implies_true, pa_accs] <;> (try simp) <;> (try omega)) (by simp only [lPA, lPD, novO, setAll, seval, implies_true, pa_accs] <;> (try simp) <;> (try omega)))
          · by_cases e : k = i
            · subst e; exact hoi'
            · exact hold k (by omega)
          · by_cases e : k = i
            · subst e; exact hbj
            · exact hbad k (by omega)
  · have e : i = h.length := by omega
    subst e
    repeat' (first
      | (with_reducible first | apply cond_d | apply cond_nd | apply cond_i | apply guard_d | apply guard_nd | apply guard_df | apply guard_ndf | apply guard_i | apply ag_d | apply ag_nd | apply ag_df | apply ag_ndf | apply ag_i) <;> intro _
      | with_reducible first | refine LenR_i fun _ => ?_ | refine And.intro (by omega) ?_ | refine and_assoc.2 ?_ | apply sp_cond | apply sp_guard | apply sp_ag | apply sp_call | apply sp_acall | apply sp_loop | apply sp_any | apply sp_frz | apply sp_len | apply sp_idx | apply sp_keep | apply sp_back
      | with_reducible refine frz0_i ?_
      | ((with_reducible refine keep0_i ?_); simp only [lPA, lPD, novO, setAll, seval, implies_true])
      | simp (maxSteps := 1000000) (disch := omega) only [lAL, lDF, tupA, eqA, isNil, slcNil, ptrCells, ptrAdd, cellsO, intA, boolA, readsV, readsP, isCall, wrote, srcOf, isNilSlice, Value.oneCell', seval, implies_true, forall_eq, ne_eq, wrap_i64, LenR_ok, List.length_map, IdxR_ints])
    all_goals try (exfalso; omega)
    have : SafeS h s := hsafe.2 ⟨hold, hbad⟩
    simp [this]
end Go.Proofs.Try
