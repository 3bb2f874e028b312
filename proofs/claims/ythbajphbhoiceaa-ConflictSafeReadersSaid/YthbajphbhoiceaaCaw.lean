/-
  A part of the proof: see the text of the law.
-/
import Derived.Test.YthbajphbhoiceaaCav
set_option linter.unusedSimpArgs false
set_option linter.unusedVariables false
namespace Go.Proofs.Try
open Go.Al
set_option linter.unusedVariables false
set_option linter.unusedSimpArgs false
open Classical

/-- In a valid history writers have stamps. -/
theorem check_formed {h : List Acc} (hc : checkS h = 0) : ∀ i, i < h.length → (at' h i).Formed := by
  intro i hi
  simp only [checkS] at hc
  split at hc
  · omega
  · split at hc
    · omega
    · rename_i hb
      exact Classical.byContradiction fun hn => hb (.inl ⟨i, hi, hn⟩)
theorem formed_pos {x : Acc} (hf : x.Formed) (hw : x.writer = true) : 0 < x.stamp := by
  obtain ⟨_, _, h1, _, _, _, _, h2, _⟩ := hf
  have := h2 hw
  omega

noncomputable def stV (h : List Acc) : Option Nat → Int
  | none => 0
  | some b => (at' h b).stamp

set_option maxHeartbeats 8000000
theorem c63 (h : List Acc) (hf : ∀ i, i < h.length → (at' h i).Formed) (x snap : Int) : ACalls E.P 63 [.int .i64 x, .int .i64 snap, .vp [.view 6 (h.map accA)]] [] (fun r H => r = .int .i64 (nextV (srcV h x snap)) ∧ H = []) := by
  have hmax := maxLen_eq
  refine ok63.acalls hE hm (by simp) ?_
  unfold mc63
  repeat' (first
    | (with_reducible first | apply cond_d | apply cond_nd | apply cond_i | apply guard_d | apply guard_nd | apply guard_df | apply guard_ndf | apply guard_i | apply ag_d | apply ag_nd | apply ag_df | apply ag_ndf | apply ag_i) <;> intro _
    | with_reducible first | refine LenR_i fun _ => ?_ | refine And.intro (by omega) ?_ | refine and_assoc.2 ?_ | apply sp_cond | apply sp_guard | apply sp_ag | apply sp_call | apply sp_acall | apply sp_loop | apply sp_any | apply sp_frz | apply sp_len | apply sp_idx | apply sp_keep | apply sp_back
    | with_reducible refine frz0_i ?_
    | ((with_reducible refine keep0_i ?_); simp only [lPA, lPD, novO, setAll, seval, implies_true])
    | simp (maxSteps := 1000000) (disch := omega) only [lAL, lDF, tupA, eqA, isNil, slcNil, ptrCells, ptrAdd, cellsO, intA, boolA, readsV, readsP, isCall, wrote, srcOf, isNilSlice, Value.oneCell', seval, implies_true, forall_eq, ne_eq, wrap_i64, LenR_ok, List.length_map, IdxR_ints])
  refine loop_i (fun i : Nat => i ≤ h.length) (fun i => ⟨[(0, .int .i64 x), (1, .int .i64 snap), (2, .vp [.view 6 (h.map accA)]), (6, .int .i64 (nextV (srcTo h x snap i))), (7, .int .i64 (stV h (srcTo h x snap i))), (10, .view 6 (h.map accA)), (11, .int .i64 h.length), (12, .int .i64 i)], []⟩) (fun i => h.length - i) 0 (by omega) (Ent.to [] false (by simp) (by simp) rfl (by simp only [lPA, lPD, novO, setAll, seval, implies_true, srcTo, nextV, stV] <;> (try simp) <;> (try omega)) (by simp only [lPA, lPD, novO, setAll, seval, implies_true, srcTo, nextV, stV] <;> (try simp) <;> (try omega))) ?_
  intro i hi
  by_cases hin : i < h.length
  · have e1 : ∀ {m N d k}, IdxR E.P m N (h.map accA) (i : Int) d k = rK E.P m N k d (.vp (accC (at' h i))) := IdxR_at hin
    have k1 := c64 (at' h i).writes x
    have k2 := c45 (at' h i)
    have hpos := @formed_pos (at' h i) (hf i hin)
    simp only [accA_eq] at k2
    generalize hb : srcTo h x snap i = o
    repeat' (first
      | (with_reducible first | apply cond_d | apply cond_nd | apply cond_i | apply guard_d | apply guard_nd | apply guard_df | apply guard_ndf | apply guard_i | apply ag_d | apply ag_nd | apply ag_df | apply ag_ndf | apply ag_i) <;> intro _
      | with_reducible first | refine LenR_i fun _ => ?_ | refine And.intro (by omega) ?_ | refine and_assoc.2 ?_ | apply sp_cond | apply sp_guard | apply sp_ag | apply sp_call | apply sp_acall | apply sp_loop | apply sp_any | apply sp_frz | apply sp_len | apply sp_idx | apply sp_keep | apply sp_back
      | with_reducible refine frz0_i ?_
      | ((with_reducible first | refine callN_i [] true (by simp) (by simp) ?_ | refine acallN_i true ?_); simp only [lPA, lPD, novO, setAll, seval, implies_true, e1, accC]; (first | (refine ⟨_, k1, ?_⟩; rintro _ _ ⟨rfl, rfl⟩) | (refine ⟨_, k2, ?_⟩; rintro _ _ ⟨rfl, rfl⟩)); simp only [lAL, lDF, tupA, eqA, isNil, slcNil, ptrCells, ptrAdd, cellsO, intA, boolA, readsV, readsP, isCall, wrote, srcOf, isNilSlice, Value.oneCell', seval, implies_true, forall_eq, ne_eq, lPA, lPD, novO, setAll, e1, accC])
      | ((with_reducible refine keep0_i ?_); simp only [lPA, lPD, novO, setAll, seval, implies_true])
      | simp (maxSteps := 1000000) (disch := omega) only [lAL, lDF, tupA, eqA, isNil, slcNil, ptrCells, ptrAdd, cellsO, intA, boolA, readsV, readsP, isCall, wrote, srcOf, isNilSlice, Value.oneCell', seval, implies_true, forall_eq, ne_eq, wrap_i64, LenR_ok, List.length_map, IdxR_ints, e1, accC])
    all_goals try (exfalso; omega)
    all_goals clear e1 k1 k2
    all_goals cases o with
      | none =>
        simp only [nextV, stV] at *
        first
        | (refine back_i (i + 1) (by omega) (by omega) (Ent.to [] false (by simp) (by simp) rfl (by simp only [lPA, lPD, novO, setAll, seval, implies_true]; rw [srcTo_some_of hb ⟨by assumption, by simp_all, by omega⟩]; simp only [nextV, stV]; simp) (by simp only [lPA, lPD, novO, setAll, seval, implies_true])))
        | (refine back_i (i + 1) (by omega) (by omega) (Ent.to [] false (by simp) (by simp) rfl (by simp only [lPA, lPD, novO, setAll, seval, implies_true]; rw [srcTo_none_of hb (by intro hc; obtain ⟨h1, h2, h3⟩ := hc; have := hpos h2; first | omega | simp_all)]; simp only [nextV, stV]; simp) (by simp only [lPA, lPD, novO, setAll, seval, implies_true])))
      | some b =>
        simp only [nextV, stV] at *
        first
        | (refine back_i (i + 1) (by omega) (by omega) (Ent.to [] false (by simp) (by simp) rfl (by simp only [lPA, lPD, novO, setAll, seval, implies_true]; rw [srcTo_new_of hb ⟨⟨by assumption, by simp_all, by omega⟩, by omega⟩]; simp only [nextV, stV]; simp) (by simp only [lPA, lPD, novO, setAll, seval, implies_true])))
        | (refine back_i (i + 1) (by omega) (by omega) (Ent.to [] false (by simp) (by simp) rfl (by simp only [lPA, lPD, novO, setAll, seval, implies_true]; rw [srcTo_keep_of hb (by intro hc; obtain ⟨⟨h1, h2, h3⟩, h4⟩ := hc; first | omega | simp_all)]; simp only [nextV, stV]; simp) (by simp only [lPA, lPD, novO, setAll, seval, implies_true])))
  · have : i = h.length := by omega
    subst this
    repeat' (first
      | (with_reducible first | apply cond_d | apply cond_nd | apply cond_i | apply guard_d | apply guard_nd | apply guard_df | apply guard_ndf | apply guard_i | apply ag_d | apply ag_nd | apply ag_df | apply ag_ndf | apply ag_i) <;> intro _
      | with_reducible first | refine LenR_i fun _ => ?_ | refine And.intro (by omega) ?_ | refine and_assoc.2 ?_ | apply sp_cond | apply sp_guard | apply sp_ag | apply sp_call | apply sp_acall | apply sp_loop | apply sp_any | apply sp_frz | apply sp_len | apply sp_idx | apply sp_keep | apply sp_back
      | with_reducible refine frz0_i ?_
      | ((with_reducible refine keep0_i ?_); simp only [lPA, lPD, novO, setAll, seval, implies_true])
      | simp (maxSteps := 1000000) (disch := omega) only [lAL, lDF, tupA, eqA, isNil, slcNil, ptrCells, ptrAdd, cellsO, intA, boolA, readsV, readsP, isCall, wrote, srcOf, isNilSlice, Value.oneCell', seval, implies_true, forall_eq, ne_eq, wrap_i64, LenR_ok, List.length_map, IdxR_ints])
    all_goals try (exfalso; omega)
    all_goals simp [srcV]

/-! ### maps from items to places -/
def mapI (kl : List Int) (f : Int → Nat) (bs : List Nat) (c : Nat) : AObj := .map (kl.map (AV.int .i64)) ((natL (kl.map f)).map (AV.int .i64)) bs c
theorem mapI_eq (kl : List Int) (f : Int → Nat) (bs : List Nat) (c : Nat) : mapI kl f bs c = .map (kl.map (AV.int .i64)) ((natL (kl.map f)).map (AV.int .i64)) bs c := rfl
def WfI (kl : List Int) (bs : List Nat) (c : Nat) : Prop := kl.Nodup ∧ bs.length = kl.length ∧ (∀ b ∈ bs, b < c) ∧ bs.Nodup
def updI (f : Int → Nat) (x : Int) (v : Nat) : Int → Nat := fun k => if k = x then v else f k
noncomputable def getI (kl : List Int) (f : Int → Nat) (x : Int) : Option Nat := if x ∈ kl then some (f x) else none
theorem find_i {kl : List Int} {x : Int} (hx : x ∈ kl) : ∃ j, j < kl.length ∧ kl.getD j 0 = x ∧ findK (.int .i64) (.int .i64 x) (kl.map (AV.int .i64)) 0 = some (some j) := by
  obtain ⟨j, h1, h2, h3⟩ := (findK_ints x kl 0).2 hx
  exact ⟨j, h1, h2, by simpa using h3⟩
theorem look_i {kl : List Int} {f : Int → Nat} {x : Int} (hx : x ∈ kl) : Al.look (.int .i64) (.int .i64 0) (kl.map (AV.int .i64)) ((natL (kl.map f)).map (AV.int .i64)) (.int .i64 x) = some (.int .i64 (f x : Nat), true) := by
  obtain ⟨j, h1, h2, h3⟩ := find_i hx
  have : ((natL (kl.map f)).map (AV.int .i64))[j]? = some (.int .i64 (f x : Nat)) := by
    rw [getD_get h1] at h2
    simp [natL, h1, h2]
  simp [Al.look, keyIs, h3, this]
theorem look_in {kl : List Int} {f : Int → Nat} {x : Int} (hx : x ∉ kl) : Al.look (.int .i64) (.int .i64 0) (kl.map (AV.int .i64)) ((natL (kl.map f)).map (AV.int .i64)) (.int .i64 x) = some (.int .i64 0, false) := by
  simp [Al.look, keyIs, (findK_ints x kl 0).1 hx]
theorem puti_old {kl : List Int} {f : Int → Nat} {bs : List Nat} {c v : Nat} {x : Int} (hn : kl.Nodup) (hx : x ∈ kl) : putK (.int .i64) (kl.map (AV.int .i64)) ((natL (kl.map f)).map (AV.int .i64)) bs c (.int .i64 x) (.int .i64 (v : Int)) = some (mapI kl (updI f x v) bs c) := by
  obtain ⟨j, h1, h2, h3⟩ := find_i hx
  simp only [putK, keyIs, beq_self_eq_true, if_true, h3, mapI, Option.some.injEq, AObj.map.injEq, true_and, and_true]
  apply List.ext_getElem
  · simp [natL]
  · intro k k1 k2
    rw [List.getElem_set]
    have hk : k < kl.length := by simpa [natL] using k2
    rw [getD_get h1] at h2
    split
    · rename_i e; subst e
      simp [natL, updI, h2]
    · rename_i e
      have : kl[k] ≠ x := by
        intro e2
        rw [← h2] at e2
        exact e ((List.getElem_inj hn).1 e2).symm
      simp [natL, updI, this]
theorem puti_new {kl : List Int} {f : Int → Nat} {bs : List Nat} {c v : Nat} {x : Int} (hx : x ∉ kl) : putK (.int .i64) (kl.map (AV.int .i64)) ((natL (kl.map f)).map (AV.int .i64)) bs c (.int .i64 x) (.int .i64 (v : Int)) = some (mapI (kl ++ [x]) (updI f x v) (bs ++ [c]) (c + 1)) := by
  simp only [putK, keyIs, beq_self_eq_true, if_true, (findK_ints x kl 0).1 hx, mapI, Option.some.injEq, AObj.map.injEq, and_true]
  refine ⟨by simp, ?_⟩
  have : kl.map (updI f x v) = kl.map f := List.map_congr_left fun k hk => by
    have : k ≠ x := fun e => hx (e ▸ hk)
    simp [updI, this]
  simp [natL, updI, this]
/-- A put, whether the key is there or not. -/
theorem puti {kl : List Int} {f : Int → Nat} {bs : List Nat} {c v : Nat} {x : Int} (hw : WfI kl bs c) : ∃ kl' bs' c', putK (.int .i64) (kl.map (AV.int .i64)) ((natL (kl.map f)).map (AV.int .i64)) bs c (.int .i64 x) (.int .i64 (v : Int)) = some (mapI kl' (updI f x v) bs' c') ∧ WfI kl' bs' c' ∧ ∀ k, k ∈ kl' ↔ (k ∈ kl ∨ k = x) := by
  by_cases hx : x ∈ kl
  · exact ⟨kl, bs, c, puti_old hw.1 hx, hw, fun k => ⟨.inl, fun h => h.elim id fun e => e ▸ hx⟩⟩
  · obtain ⟨h1, h2, h3, h4⟩ := hw
    refine ⟨kl ++ [x], bs ++ [c], c + 1, puti_new hx, ⟨?_, by simp [h2], ?_, ?_⟩, fun k => by simp⟩
    · rw [List.nodup_append]
      exact ⟨h1, by simp, fun a ha b hb => by simp at hb; subst hb; exact fun e => hx (e ▸ ha)⟩
    · intro b hb
      rcases List.mem_append.1 hb with hb | hb
      · have := h3 b hb; omega
      · simp at hb; omega
    · rw [List.nodup_append]
      exact ⟨h4, by simp, fun a ha b hb => by simp at hb; subst hb; have := h3 a ha; omega⟩
theorem c65 (kl : List Int) (f : Int → Nat) (x : Int) : ACalls E.P 65 [.int .i64 x, .vp [.mview (kl.map (AV.int .i64)) ((natL (kl.map f)).map (AV.int .i64))]] [] (fun r H => r = .int .i64 (nextV (getI kl f x)) ∧ H = []) := by
  refine ok65.acalls hE hm (by simp) ?_
  unfold mc65
  by_cases hx : x ∈ kl
  · repeat' (first
      | (with_reducible first | apply cond_d | apply cond_nd | apply cond_i | apply guard_d | apply guard_nd | apply guard_df | apply guard_ndf | apply guard_i | apply ag_d | apply ag_nd | apply ag_df | apply ag_ndf | apply ag_i) <;> intro _
      | with_reducible first | refine LenR_i fun _ => ?_ | refine And.intro (by omega) ?_ | refine and_assoc.2 ?_ | apply sp_cond | apply sp_guard | apply sp_ag | apply sp_call | apply sp_acall | apply sp_loop | apply sp_any | apply sp_frz | apply sp_len | apply sp_idx | apply sp_keep | apply sp_back
      | with_reducible refine frz0_i ?_
      | ((with_reducible refine keep0_i ?_); simp only [lPA, lPD, novO, setAll, seval, implies_true])
      | simp (maxSteps := 1000000) (disch := omega) only [lAL, lDF, tupA, eqA, isNil, slcNil, ptrCells, ptrAdd, cellsO, intA, boolA, readsV, readsP, isCall, wrote, srcOf, isNilSlice, Value.oneCell', seval, implies_true, forall_eq, ne_eq, wrap_i64, LenR_ok, List.length_map, IdxR_ints, look_i hx])
    all_goals simp [getI, hx, nextV]
  · repeat' (first
      | (with_reducible first | apply cond_d | apply cond_nd | apply cond_i | apply guard_d | apply guard_nd | apply guard_df | apply guard_ndf | apply guard_i | apply ag_d | apply ag_nd | apply ag_df | apply ag_ndf | apply ag_i) <;> intro _
      | with_reducible first | refine LenR_i fun _ => ?_ | refine And.intro (by omega) ?_ | refine and_assoc.2 ?_ | apply sp_cond | apply sp_guard | apply sp_ag | apply sp_call | apply sp_acall | apply sp_loop | apply sp_any | apply sp_frz | apply sp_len | apply sp_idx | apply sp_keep | apply sp_back
      | with_reducible refine frz0_i ?_
      | ((with_reducible refine keep0_i ?_); simp only [lPA, lPD, novO, setAll, seval, implies_true])
      | simp (maxSteps := 1000000) (disch := omega) only [lAL, lDF, tupA, eqA, isNil, slcNil, ptrCells, ptrAdd, cellsO, intA, boolA, readsV, readsP, isCall, wrote, srcOf, isNilSlice, Value.oneCell', seval, implies_true, forall_eq, ne_eq, wrap_i64, LenR_ok, List.length_map, IdxR_ints, look_in hx])
    all_goals simp [getI, hx, nextV]
end Go.Proofs.Try
