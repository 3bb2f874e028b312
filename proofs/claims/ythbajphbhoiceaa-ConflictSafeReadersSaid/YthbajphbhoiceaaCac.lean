/-
  A part of the proof: see the text of the law.
-/
import Derived.Test.YthbajphbhoiceaaCab
set_option linter.unusedSimpArgs false
set_option linter.unusedVariables false
namespace Go.Proofs.Try
open Go.Al
set_option linter.unusedVariables false
set_option linter.unusedSimpArgs false
open Classical

/-! ### sets -/
theorem findK_ints (x : Int) : ∀ (ks : List Int) (i : Nat), (x ∉ ks → findK (.int .i64) (.int .i64 x) (ks.map (AV.int .i64)) i = some none) ∧ (x ∈ ks → ∃ j, j < ks.length ∧ ks.getD j 0 = x ∧ findK (.int .i64) (.int .i64 x) (ks.map (AV.int .i64)) i = some (some (i + j)))
  | [], i => by simp [findK]
  | k :: ks, i => by
    obtain ⟨h1, h2⟩ := findK_ints x ks (i + 1)
    by_cases hk : x = k
    · subst hk
      exact ⟨fun h => by simp at h, fun _ => ⟨0, by simp, by simp, by simp [findK, eqK]⟩⟩
    · refine ⟨fun h => ?_, fun h => ?_⟩
      · simp only [List.mem_cons, not_or] at h
        simp [findK, eqK, hk, h1 h.2]
      · simp only [List.mem_cons, hk, false_or] at h
        obtain ⟨j, hj1, hj2, hj3⟩ := h2 h
        exact ⟨j + 1, by simpa using hj1, by simpa using hj2, by simp [findK, eqK, hk, hj3]; omega⟩

theorem look_set (ks : List Int) (x : Int) : Al.look (.int .i64) (.bool false) (ks.map (AV.int .i64)) (ks.map fun _ => AV.bool true) (.int .i64 x) = some (.bool (decide (x ∈ ks)), decide (x ∈ ks)) := by
  obtain ⟨h1, h2⟩ := findK_ints x ks 0
  by_cases hx : x ∈ ks
  · obtain ⟨j, hj1, hj2, hj3⟩ := h2 hx
    simp [Al.look, keyIs, hj3, hj1, hx]
  · simp [Al.look, keyIs, h1 hx, hx]

theorem putK_set (ks : List Int) (x : Int) (bs : List Nat) (c : Nat) : ∃ (ks' : List Int) (bs' : List Nat) (c' : Nat), putK (.int .i64) (ks.map (AV.int .i64)) (ks.map fun _ => AV.bool true) bs c (.int .i64 x) (.bool true) = some (.map (ks'.map (AV.int .i64)) (ks'.map fun _ => AV.bool true) bs' c') ∧ ∀ y, y ∈ ks' ↔ (y ∈ ks ∨ y = x) := by
  obtain ⟨h1, h2⟩ := findK_ints x ks 0
  by_cases hx : x ∈ ks
  · obtain ⟨j, hj1, hj2, hj3⟩ := h2 hx
    refine ⟨ks, bs, c, ?_, fun y => ⟨.inl, fun h => h.elim id fun h => h ▸ hx⟩⟩
    simp only [putK, keyIs, beq_self_eq_true, if_true, hj3, Nat.zero_add]
    congr 2
    apply List.ext_getElem?
    intro i
    rw [List.getElem?_set]
    split
    · rename_i hij; subst hij; simp [hj1]
    · rfl
  · refine ⟨ks ++ [x], bs ++ [c], c + 1, ?_, fun y => by simp⟩
    simp [putK, keyIs, h1 hx]

def setA (ks : List Int) : AV := .mview (ks.map (AV.int .i64)) (ks.map fun _ => AV.bool true)
theorem vw_trues {H : List AObj} {l : List Nat} {n : Nat} {ks : List Int} : (ks.map fun _ => AV.bool true).map (vw H l n) = ks.map fun _ => AV.bool true := map_same (fun _ => vw_bool) ks
theorem pa_trues {H : List AObj} {l : List Nat} {bor : Bool} {n : Nat} {ks : List Int} : (ks.map fun _ => AV.bool true).map (pa H l bor n) = ks.map fun _ => AV.bool true := map_same (fun _ => pa_bool) ks
theorem renL_trues {ρ : Nat → Nat} {ks : List Int} : renL ρ (ks.map fun _ => AV.bool true) = ks.map fun _ => AV.bool true := renL_map (fun _ => rfl) ks
theorem novL_trues {ks : List Int} : novL (ks.map fun _ => AV.bool true) = true := novL_map (fun _ => rfl) ks

theorem c79 (ks : List Int) (x : Int) : ACalls E.P 79 [.int .i64 x, .vp [setA ks]] [] (fun r H => r = .bool (decide (x ∈ ks)) ∧ H = []) := by
  refine ok79.acalls hE hm (by simp) ?_
  unfold mc79 setA
  repeat' (first
    | (with_reducible first | apply cond_d | apply cond_nd | apply cond_i | apply guard_d | apply guard_nd | apply guard_df | apply guard_ndf | apply guard_i | apply ag_d | apply ag_nd | apply ag_df | apply ag_ndf | apply ag_i) <;> intro _
    | with_reducible first | refine LenR_i fun _ => ?_ | refine And.intro (by omega) ?_ | refine and_assoc.2 ?_ | apply sp_cond | apply sp_guard | apply sp_ag | apply sp_call | apply sp_acall | apply sp_loop | apply sp_any | apply sp_frz | apply sp_len | apply sp_idx | apply sp_keep | apply sp_back
    | with_reducible refine frz0_i ?_
    | ((with_reducible refine keep0_i ?_); simp only [lPA, lPD, novO, setAll, seval, implies_true])
    | simp (maxSteps := 1000000) (disch := omega) only [lAL, lDF, tupA, eqA, isNil, slcNil, ptrCells, ptrAdd, cellsO, intA, boolA, readsV, readsP, isCall, wrote, srcOf, isNilSlice, Value.oneCell', seval, implies_true, forall_eq, ne_eq, wrap_i64, LenR_ok, List.length_map, IdxR_ints, look_set])

/-- A function value that tells of each item. -/
structure Pred {α : Type} (g : FuncId) (first caps : List AV) (mk : α → AV) (p : α → Prop) : Prop where
  calls : ∀ x, ∃ b : Bool, (b = true ↔ p x) ∧ ACalls E.P g (first ++ [mk x] ++ caps) [] (fun r H => r = .bool b ∧ H = [])
  first : ∀ H l bor n, first.map (pa H l bor n) = first
  caps : ∀ H l bor n, caps.map (pa H l bor n) = caps

theorem c85 (l : List Int) (g : FuncId) (first caps : List AV) (p : Int → Prop) (hp : Pred g first caps (AV.int .i64) p) :
    ACalls E.P 85 [.view 1 (l.map (AV.int .i64)), .fn (.func g) first caps] [] (fun r H => (∃ k, r = .int .i64 k ∧ (0 ≤ k ↔ ∃ x, x ∈ l ∧ p x)) ∧ H = []) := by
  have hmax := maxLen_eq
  refine ok85.acalls hE hm (by simp) ?_
  unfold mc85
  repeat' (first
    | (with_reducible first | apply cond_d | apply cond_nd | apply cond_i | apply guard_d | apply guard_nd | apply guard_df | apply guard_ndf | apply guard_i | apply ag_d | apply ag_nd | apply ag_df | apply ag_ndf | apply ag_i) <;> intro _
    | with_reducible first | refine LenR_i fun _ => ?_ | refine And.intro (by omega) ?_ | refine and_assoc.2 ?_ | apply sp_cond | apply sp_guard | apply sp_ag | apply sp_call | apply sp_acall | apply sp_loop | apply sp_any | apply sp_frz | apply sp_len | apply sp_idx | apply sp_keep | apply sp_back
    | with_reducible refine frz0_i ?_
    | ((with_reducible refine keep0_i ?_); simp only [lPA, lPD, novO, setAll, seval, implies_true])
    | simp (maxSteps := 1000000) (disch := omega) only [lAL, lDF, tupA, eqA, isNil, slcNil, ptrCells, ptrAdd, cellsO, intA, boolA, readsV, readsP, isCall, wrote, srcOf, isNilSlice, Value.oneCell', seval, implies_true, forall_eq, ne_eq, wrap_i64, LenR_ok, List.length_map, IdxR_ints])
  rename_i hl
  refine loop_i (fun i : Nat => i ≤ l.length ∧ ∀ j, j < i → ¬ p (l.getD j 0)) (fun i => ⟨[(0, .view 1 (l.map (AV.int .i64))), (1, .fn (.func g) first caps), (7, .int .i64 l.length), (8, .int .i64 i)], []⟩) (fun i => l.length - i) 0 ⟨by omega, by omega⟩ (Ent.to [] false (by simp) (by simp) rfl (by simp only [lPA, lPD, novO, setAll, seval, implies_true, hp.first, hp.caps] <;> simp) rfl) ?_
  rintro i ⟨hi, hj⟩
  repeat' (first
    | (with_reducible first | apply cond_d | apply cond_nd | apply cond_i | apply guard_d | apply guard_nd | apply guard_df | apply guard_ndf | apply guard_i | apply ag_d | apply ag_nd | apply ag_df | apply ag_ndf | apply ag_i) <;> intro _
    | with_reducible first | refine LenR_i fun _ => ?_ | refine And.intro (by omega) ?_ | refine and_assoc.2 ?_ | apply sp_cond | apply sp_guard | apply sp_ag | apply sp_call | apply sp_acall | apply sp_loop | apply sp_any | apply sp_frz | apply sp_len | apply sp_idx | apply sp_keep | apply sp_back
    | with_reducible refine frz0_i ?_
    | ((with_reducible refine keep0_i ?_); simp only [lPA, lPD, novO, setAll, seval, implies_true])
    | simp (maxSteps := 1000000) (disch := omega) only [lAL, lDF, tupA, eqA, isNil, slcNil, ptrCells, ptrAdd, cellsO, intA, boolA, readsV, readsP, isCall, wrote, srcOf, isNilSlice, Value.oneCell', seval, implies_true, forall_eq, ne_eq, wrap_i64, LenR_ok, List.length_map, IdxR_ints])
  · refine callN_i [] true (by simp) (by simp) ?_
    simp only [lPA, lPD, novO, setAll, seval, implies_true, List.map_append, hp.first, hp.caps]
    obtain ⟨b, hb, hcall⟩ := hp.calls (l.getD i 0)
    refine ⟨_, hcall, ?_⟩
    rintro _ _ ⟨rfl, rfl⟩
    simp only [lPA, lPD, novO, setAll, seval, implies_true, lAL, lDF, tupA, eqA, isNil, slcNil, ptrCells, ptrAdd, cellsO, intA, boolA, readsV, readsP, isCall, wrote, srcOf, isNilSlice, Value.oneCell', seval, implies_true, forall_eq, ne_eq]
    repeat' (first
      | (with_reducible first | apply cond_d | apply cond_nd | apply cond_i | apply guard_d | apply guard_nd | apply guard_df | apply guard_ndf | apply guard_i | apply ag_d | apply ag_nd | apply ag_df | apply ag_ndf | apply ag_i) <;> intro _
      | with_reducible first | refine LenR_i fun _ => ?_ | refine And.intro (by omega) ?_ | refine and_assoc.2 ?_ | apply sp_cond | apply sp_guard | apply sp_ag | apply sp_call | apply sp_acall | apply sp_loop | apply sp_any | apply sp_frz | apply sp_len | apply sp_idx | apply sp_keep | apply sp_back
      | with_reducible refine frz0_i ?_
      | ((with_reducible refine keep0_i ?_); simp only [lPA, lPD, novO, setAll, seval, implies_true])
      | simp (maxSteps := 1000000) (disch := omega) only [lAL, lDF, tupA, eqA, isNil, slcNil, ptrCells, ptrAdd, cellsO, intA, boolA, readsV, readsP, isCall, wrote, srcOf, isNilSlice, Value.oneCell', seval, implies_true, forall_eq, ne_eq, wrap_i64, LenR_ok, List.length_map, IdxR_ints])
    · rename_i h2 h3
      exact ⟨_, rfl, fun _ => ⟨_, getD_mem (by omega), hb.1 h3⟩, fun _ => by omega⟩
    · rename_i h2 h3
      refine back_i (i + 1) ⟨by omega, fun j hj2 => ?_⟩ (by omega) (Ent.to [] false (by simp) (by simp) rfl (by simp only [lPA, lPD, novO, setAll, seval, implies_true, hp.first, hp.caps] <;> simp) rfl)
      by_cases hji : j < i
      · exact hj j hji
      · have : j = i := by omega
        subst this
        intro hpx
        rw [hb.2 hpx] at h3
        cases h3
  · refine ⟨_, rfl, ?_⟩
    simp only [Int.reduceNeg, Int.reduceLE, false_iff]
    rintro ⟨x, hx, hpx⟩
    obtain ⟨j, hj1, hj2⟩ := mem_getD hx
    exact hj j (by omega) (hj2 ▸ hpx)

theorem c78 (l : List Int) (g : FuncId) (first caps : List AV) (p : Int → Prop) (hp : Pred g first caps (AV.int .i64) p) :
    ACalls E.P 78 [.view 1 (l.map (AV.int .i64)), .fn (.func g) first caps] [] (fun r H => r = .bool (decide (∃ x, x ∈ l ∧ p x)) ∧ H = []) := by
  refine ok78.acalls hE hm (by simp) ?_
  unfold mc78
  repeat' (first
    | (with_reducible first | apply cond_d | apply cond_nd | apply cond_i | apply guard_d | apply guard_nd | apply guard_df | apply guard_ndf | apply guard_i | apply ag_d | apply ag_nd | apply ag_df | apply ag_ndf | apply ag_i) <;> intro _
    | with_reducible first | refine LenR_i fun _ => ?_ | refine And.intro (by omega) ?_ | refine and_assoc.2 ?_ | apply sp_cond | apply sp_guard | apply sp_ag | apply sp_call | apply sp_acall | apply sp_loop | apply sp_any | apply sp_frz | apply sp_len | apply sp_idx | apply sp_keep | apply sp_back
    | with_reducible refine frz0_i ?_
    | ((with_reducible refine keep0_i ?_); simp only [lPA, lPD, novO, setAll, seval, implies_true])
    | simp (maxSteps := 1000000) (disch := omega) only [lAL, lDF, tupA, eqA, isNil, slcNil, ptrCells, ptrAdd, cellsO, intA, boolA, readsV, readsP, isCall, wrote, srcOf, isNilSlice, Value.oneCell', seval, implies_true, forall_eq, ne_eq, wrap_i64, LenR_ok, List.length_map, IdxR_ints])
  refine callN_i [] true (by simp) (by simp) ?_
  simp only [lPA, lPD, novO, setAll, seval, implies_true, hp.first, hp.caps]
  refine ⟨_, c85 _ _ _ _ p hp, ?_⟩
  rintro _ _ ⟨⟨k, rfl, hk⟩, rfl⟩
  simp only [lPA, lPD, novO, setAll, seval, implies_true, lAL, lDF, tupA, eqA, isNil, slcNil, ptrCells, ptrAdd, cellsO, intA, boolA, readsV, readsP, isCall, wrote, srcOf, isNilSlice, Value.oneCell', seval, implies_true, forall_eq, ne_eq]
  repeat' (first
    | (with_reducible first | apply cond_d | apply cond_nd | apply cond_i | apply guard_d | apply guard_nd | apply guard_df | apply guard_ndf | apply guard_i | apply ag_d | apply ag_nd | apply ag_df | apply ag_ndf | apply ag_i) <;> intro _
    | with_reducible first | refine LenR_i fun _ => ?_ | refine And.intro (by omega) ?_ | refine and_assoc.2 ?_ | apply sp_cond | apply sp_guard | apply sp_ag | apply sp_call | apply sp_acall | apply sp_loop | apply sp_any | apply sp_frz | apply sp_len | apply sp_idx | apply sp_keep | apply sp_back
    | with_reducible refine frz0_i ?_
    | ((with_reducible refine keep0_i ?_); simp only [lPA, lPD, novO, setAll, seval, implies_true])
    | simp (maxSteps := 1000000) (disch := omega) only [lAL, lDF, tupA, eqA, isNil, slcNil, ptrCells, ptrAdd, cellsO, intA, boolA, readsV, readsP, isCall, wrote, srcOf, isNilSlice, Value.oneCell', seval, implies_true, forall_eq, ne_eq, wrap_i64, LenR_ok, List.length_map, IdxR_ints])
  simp [hk]

theorem c47 (ks l : List Int) : ACalls E.P 47 [setA ks, .view 1 (l.map (AV.int .i64))] [] (fun r H => r = .bool (decide (∃ x, x ∈ l ∧ x ∈ ks)) ∧ H = []) := by
  refine ok47.acalls hE hm (by simp) ?_
  unfold mc47
  have hp : Pred 79 [] [.vp [setA ks]] (AV.int .i64) (fun x => x ∈ ks) := ⟨fun x => ⟨_, by simp, c79 ks x⟩, by simp, by simp [pa_vp]⟩
  simp only [setA] at hp ⊢
  repeat' (first
    | (with_reducible first | apply cond_d | apply cond_nd | apply cond_i | apply guard_d | apply guard_nd | apply guard_df | apply guard_ndf | apply guard_i | apply ag_d | apply ag_nd | apply ag_df | apply ag_ndf | apply ag_i) <;> intro _
    | with_reducible first | refine LenR_i fun _ => ?_ | refine And.intro (by omega) ?_ | refine and_assoc.2 ?_ | apply sp_cond | apply sp_guard | apply sp_ag | apply sp_call | apply sp_acall | apply sp_loop | apply sp_any | apply sp_frz | apply sp_len | apply sp_idx | apply sp_keep | apply sp_back
    | with_reducible refine frz0_i ?_
    | ((with_reducible refine keep0_i ?_); simp only [lPA, lPD, novO, setAll, seval, implies_true])
    | simp (maxSteps := 1000000) (disch := omega) only [lAL, lDF, tupA, eqA, isNil, slcNil, ptrCells, ptrAdd, cellsO, intA, boolA, readsV, readsP, isCall, wrote, srcOf, isNilSlice, Value.oneCell', seval, implies_true, forall_eq, ne_eq, wrap_i64, LenR_ok, List.length_map, IdxR_ints])
  refine callN_i [] true (by simp) (by simp) ?_
  simp only [lPA, lPD, novO, setAll, seval, implies_true]
  refine ⟨_, c78 _ _ _ _ _ hp, ?_⟩
  rintro _ _ ⟨rfl, rfl⟩
  simp only [lPA, lPD, novO, setAll, seval, implies_true, lAL, lDF, tupA, eqA, isNil, slcNil, ptrCells, ptrAdd, cellsO, intA, boolA, readsV, readsP, isCall, wrote, srcOf, isNilSlice, Value.oneCell', seval, implies_true, forall_eq, ne_eq]
  repeat' (first
    | (with_reducible first | apply cond_d | apply cond_nd | apply cond_i | apply guard_d | apply guard_nd | apply guard_df | apply guard_ndf | apply guard_i | apply ag_d | apply ag_nd | apply ag_df | apply ag_ndf | apply ag_i) <;> intro _
    | with_reducible first | refine LenR_i fun _ => ?_ | refine And.intro (by omega) ?_ | refine and_assoc.2 ?_ | apply sp_cond | apply sp_guard | apply sp_ag | apply sp_call | apply sp_acall | apply sp_loop | apply sp_any | apply sp_frz | apply sp_len | apply sp_idx | apply sp_keep | apply sp_back
    | with_reducible refine frz0_i ?_
    | ((with_reducible refine keep0_i ?_); simp only [lPA, lPD, novO, setAll, seval, implies_true])
    | simp (maxSteps := 1000000) (disch := omega) only [lAL, lDF, tupA, eqA, isNil, slcNil, ptrCells, ptrAdd, cellsO, intA, boolA, readsV, readsP, isCall, wrote, srcOf, isNilSlice, Value.oneCell', seval, implies_true, forall_eq, ne_eq, wrap_i64, LenR_ok, List.length_map, IdxR_ints])
  all_goals simp

theorem c44 (l : List Int) : ACalls E.P 44 [.view 1 (l.map (AV.int .i64))] [] (fun r H => r = .mp 0 ∧ ∃ (ks : List Int) (bs : List Nat) (c : Nat), H = [.map (ks.map (AV.int .i64)) (ks.map fun _ => AV.bool true) bs c] ∧ ∀ x, x ∈ ks ↔ x ∈ l) := by
  have hmax := maxLen_eq
  refine ok44.acalls hE hm (by simp) ?_
  unfold mc44
  repeat' (first
    | (with_reducible first | apply cond_d | apply cond_nd | apply cond_i | apply guard_d | apply guard_nd | apply guard_df | apply guard_ndf | apply guard_i | apply ag_d | apply ag_nd | apply ag_df | apply ag_ndf | apply ag_i) <;> intro _
    | with_reducible first | refine LenR_i fun _ => ?_ | refine And.intro (by omega) ?_ | refine and_assoc.2 ?_ | apply sp_cond | apply sp_guard | apply sp_ag | apply sp_call | apply sp_acall | apply sp_loop | apply sp_any | apply sp_frz | apply sp_len | apply sp_idx | apply sp_keep | apply sp_back
    | with_reducible refine frz0_i ?_
    | simp (maxSteps := 1000000) (disch := omega) only [lAL, lDF, tupA, eqA, isNil, slcNil, ptrCells, ptrAdd, cellsO, intA, boolA, readsV, readsP, isCall, wrote, srcOf, isNilSlice, Value.oneCell', seval, implies_true, forall_eq, ne_eq, wrap_i64, LenR_ok, List.length_map, IdxR_ints])
  rename_i hl
  refine loop_i (X := Nat × List Int × List Nat × Nat) (fun x => x.1 ≤ l.length ∧ ∀ y, y ∈ x.2.1 ↔ ∃ j, j < x.1 ∧ l.getD j 0 = y) (fun x => ⟨[(3, .mp 0), (7, .view 1 (l.map (AV.int .i64))), (8, .int .i64 l.length), (9, .int .i64 x.1)], [.map (x.2.1.map (AV.int .i64)) (x.2.1.map fun _ => AV.bool true) x.2.2.1 x.2.2.2]⟩) (fun x => l.length - x.1) (0, [], [], 0) ⟨by simp, by simp⟩ (Ent.to [0] false (by simp) (by simp) rfl (by simp only [lPA, lPD, novO, setAll, seval, implies_true] <;> (try simp) <;> (try omega)) (by simp only [lPA, lPD, novO, setAll, seval, implies_true] <;> (try simp) <;> (try omega))) ?_
  rintro ⟨i, ks, bs, c⟩ ⟨hi, hks⟩
  simp only at hi hks
  repeat' (first
    | (with_reducible first | apply cond_d | apply cond_nd | apply cond_i | apply guard_d | apply guard_nd | apply guard_df | apply guard_ndf | apply guard_i | apply ag_d | apply ag_nd | apply ag_df | apply ag_ndf | apply ag_i) <;> intro _
    | with_reducible first | refine LenR_i fun _ => ?_ | refine And.intro (by omega) ?_ | refine and_assoc.2 ?_ | apply sp_cond | apply sp_guard | apply sp_ag | apply sp_call | apply sp_acall | apply sp_loop | apply sp_any | apply sp_frz | apply sp_len | apply sp_idx | apply sp_keep | apply sp_back
    | with_reducible refine frz0_i ?_
    | simp (maxSteps := 1000000) (disch := omega) only [lAL, lDF, tupA, eqA, isNil, slcNil, ptrCells, ptrAdd, cellsO, intA, boolA, readsV, readsP, isCall, wrote, srcOf, isNilSlice, Value.oneCell', seval, implies_true, forall_eq, ne_eq, wrap_i64, LenR_ok, List.length_map, IdxR_ints])
  · rename_i h2
    obtain ⟨ks', bs', c', h3, h4⟩ := putK_set ks (l.getD i 0) bs c
    simp only [Int.toNat_natCast, h3]
    repeat' (first
      | (with_reducible first | apply cond_d | apply cond_nd | apply cond_i | apply guard_d | apply guard_nd | apply guard_df | apply guard_ndf | apply guard_i | apply ag_d | apply ag_nd | apply ag_df | apply ag_ndf | apply ag_i) <;> intro _
      | with_reducible first | refine LenR_i fun _ => ?_ | refine And.intro (by omega) ?_ | refine and_assoc.2 ?_ | apply sp_cond | apply sp_guard | apply sp_ag | apply sp_call | apply sp_acall | apply sp_loop | apply sp_any | apply sp_frz | apply sp_len | apply sp_idx | apply sp_keep | apply sp_back
      | with_reducible refine frz0_i ?_
      | simp (maxSteps := 1000000) (disch := omega) only [lAL, lDF, tupA, eqA, isNil, slcNil, ptrCells, ptrAdd, cellsO, intA, boolA, readsV, readsP, isCall, wrote, srcOf, isNilSlice, Value.oneCell', seval, implies_true, forall_eq, ne_eq, wrap_i64, LenR_ok, List.length_map, IdxR_ints])
    refine back_i (i + 1, ks', bs', c') ⟨by simp only; omega, fun y => ?_⟩ (by simp only; omega) (Ent.to [0] false (by simp) (by simp) rfl (by simp only [lPA, lPD, novO, setAll, seval, implies_true] <;> (try simp) <;> omega) (by simp only [lPA, lPD, novO, setAll, seval, implies_true, pa_trues]))
    simp only [h4, hks]
    constructor
    · rintro (⟨j, hj1, hj2⟩ | h)
      · exact ⟨j, by omega, hj2⟩
      · exact ⟨i, by omega, h.symm⟩
    · rintro ⟨j, hj1, hj2⟩
      by_cases hji : j < i
      · exact .inl ⟨j, hji, hj2⟩
      · have : j = i := by omega
        subst this
        exact .inr hj2.symm
  · refine keep_i [0] false (by simp) (by simp) rfl ?_
    simp only [lPA, lPD, novO, setAll, seval, implies_true, pa_trues]
    refine ⟨ks, bs, c, rfl, fun x => ?_⟩
    rw [hks]
    constructor
    · rintro ⟨j, hj1, rfl⟩
      exact getD_mem (by omega)
    · intro hx
      obtain ⟨j, hj1, hj2⟩ := mem_getD hx
      exact ⟨j, by omega, hj2⟩
end Go.Proofs.Try
