/-
  A part of the proof: see the text of the law.
-/
import Derived.Test.YthbajphbhoiceaaCay
set_option linter.unusedSimpArgs false
set_option linter.unusedVariables false
namespace Go.Proofs.Try
open Go.Al
set_option linter.unusedVariables false
set_option linter.unusedSimpArgs false
open Classical
set_option maxHeartbeats 8000000

theorem c70 (a b c i : Nat) : ACalls E.P 70 [.int .i64 a, .int .i64 b, .int .i64 c, .vp [.int .i64 i]] [] (fun r H => r = .bool (decide (a = i ∨ b = i ∨ c = i)) ∧ H = []) := by
  refine ok70.acalls hE hm (by simp) ?_
  unfold mc70
  repeat' (first
    | (with_reducible first | apply cond_d | apply cond_nd | apply cond_i | apply guard_d | apply guard_nd | apply guard_df | apply guard_ndf | apply guard_i | apply ag_d | apply ag_nd | apply ag_df | apply ag_ndf | apply ag_i) <;> intro _
    | with_reducible first | refine LenR_i fun _ => ?_ | refine And.intro (by omega) ?_ | refine and_assoc.2 ?_ | apply sp_cond | apply sp_guard | apply sp_ag | apply sp_call | apply sp_acall | apply sp_loop | apply sp_any | apply sp_frz | apply sp_len | apply sp_idx | apply sp_keep | apply sp_back
    | with_reducible refine frz0_i ?_
    | ((with_reducible refine keep0_i ?_); simp only [lPA, lPD, novO, setAll, seval, implies_true])
    | simp (maxSteps := 1000000) (disch := omega) only [lAL, lDF, tupA, eqA, isNil, slcNil, ptrCells, ptrAdd, cellsO, intA, boolA, readsV, readsP, isCall, wrote, srcOf, isNilSlice, Value.oneCell', seval, implies_true, forall_eq, ne_eq, wrap_i64, LenR_ok, List.length_map, IdxR_ints])
  all_goals refine congrArg AV.bool (Bool.eq_iff_iff.2 ?_)
  all_goals simp
  all_goals omega

def pairA' (p : Nat × Nat) : AV := .agg [.int .i64 (p.1 : Nat), .int .i64 (p.2 : Nat)]
/-- A pair that spoils a snapshot. -/
def Spoil (h : List Acc) (s : Int) (p : Nat × Nat) : Prop := s < (at' h p.1).stamp ∧ (at' h p.2).stamp ≤ s
theorem c74 (h : List Acc) (s : Int) (a b : Nat) (ha : a < h.length) (hb : b < h.length) : ACalls E.P 74 [.agg [.int .i64 (a : Int), .int .i64 (b : Int)], .vp [.view 6 (h.map accA)], .vp [.int .i64 s]] [] (fun r H => r = .bool (decide (Spoil h s (a, b))) ∧ H = []) := by
  refine ok74.acalls hE hm (by simp) ?_
  unfold mc74
  have e1 : ∀ {m N d k}, IdxR E.P m N (h.map accA) (a : Int) d k = rK E.P m N k d (.vp (accC (at' h a))) := IdxR_at ha
  have e2 : ∀ {m N d k}, IdxR E.P m N (h.map accA) (b : Int) d k = rK E.P m N k d (.vp (accC (at' h b))) := IdxR_at hb
  repeat' (first
    | (with_reducible first | apply cond_d | apply cond_nd | apply cond_i | apply guard_d | apply guard_nd | apply guard_df | apply guard_ndf | apply guard_i | apply ag_d | apply ag_nd | apply ag_df | apply ag_ndf | apply ag_i) <;> intro _
    | with_reducible first | refine LenR_i fun _ => ?_ | refine And.intro (by omega) ?_ | refine and_assoc.2 ?_ | apply sp_cond | apply sp_guard | apply sp_ag | apply sp_call | apply sp_acall | apply sp_loop | apply sp_any | apply sp_frz | apply sp_len | apply sp_idx | apply sp_keep | apply sp_back
    | with_reducible refine frz0_i ?_
    | with_reducible refine any_i [] ?_
    | ((with_reducible refine keep0_i ?_); simp only [lPA, lPD, novO, setAll, seval, implies_true])
    | simp (maxSteps := 1000000) (disch := omega) only [lAL, lDF, tupA, eqA, isNil, slcNil, ptrCells, ptrAdd, cellsO, intA, boolA, readsV, readsP, isCall, wrote, srcOf, isNilSlice, Value.oneCell', seval, implies_true, forall_eq, ne_eq, wrap_i64, LenR_ok, List.length_map, IdxR_ints, e1, e2, accC])
  all_goals refine congrArg AV.bool (Bool.eq_iff_iff.2 ?_)
  all_goals simp only [Spoil, decide_eq_true_eq, Bool.false_eq_true, false_iff]
  all_goals first | omega | grind

theorem getD_ge {α : Type} [Inhabited α] {l : List α} {i : Nat} (h : i < l.length) : l.getD i default = l[i] := by simp [h]
theorem IdxR_prs {P : Program} {m N : Nat} {l : List (Nat × Nat)} {i d : Nat} {c : Kn} (hi : i < l.length) : IdxR P m N (l.map pairA) (i : Int) d c = rK P m N c d (.vp [.int .i64 (l.getD i default).1, .int .i64 (l.getD i default).2]) := by
  rw [IdxR_map (f := pairA) (xs := l) (dflt := default) (cs := fun p => [.int .i64 p.1, .int .i64 p.2]) (fun _ => rfl) (by omega) (by omega), Int.toNat_natCast]
theorem c84 (h : List Acc) (s : Int) (l : List (Nat × Nat)) (hl : ∀ p ∈ l, p.1 < h.length ∧ p.2 < h.length) : ACalls E.P 84 [.view 2 (l.map pairA), .fn (.func 74) [] [.vp [.view 6 (h.map accA)], .vp [.int .i64 s]]] [] (fun r H => (∃ k, r = .int .i64 k ∧ (0 ≤ k ↔ ∃ p, p ∈ l ∧ Spoil h s p)) ∧ H = []) := by
  have hmax := maxLen_eq
  refine ok84.acalls hE hm (by simp) ?_
  unfold mc84
  repeat' (first
    | (with_reducible first | apply cond_d | apply cond_nd | apply cond_i | apply guard_d | apply guard_nd | apply guard_df | apply guard_ndf | apply guard_i | apply ag_d | apply ag_nd | apply ag_df | apply ag_ndf | apply ag_i) <;> intro _
    | with_reducible first | refine LenR_i fun _ => ?_ | refine And.intro (by omega) ?_ | refine and_assoc.2 ?_ | apply sp_cond | apply sp_guard | apply sp_ag | apply sp_call | apply sp_acall | apply sp_loop | apply sp_any | apply sp_frz | apply sp_len | apply sp_idx | apply sp_keep | apply sp_back
    | with_reducible refine frz0_i ?_
    | ((with_reducible refine keep0_i ?_); simp only [lPA, lPD, novO, setAll, seval, implies_true])
    | simp (maxSteps := 1000000) (disch := omega) only [lAL, lDF, tupA, eqA, isNil, slcNil, ptrCells, ptrAdd, cellsO, intA, boolA, readsV, readsP, isCall, wrote, srcOf, isNilSlice, Value.oneCell', seval, implies_true, forall_eq, ne_eq, wrap_i64, LenR_ok, List.length_map, IdxR_ints])
  refine loop_i (fun i : Nat => i ≤ l.length ∧ ∀ j, j < i → ¬ Spoil h s (l.getD j default)) (fun i => ⟨[(0, .view 2 (l.map pairA)), (1, .fn (.func 74) [] [.vp [.view 6 (h.map accA)], .vp [.int .i64 s]]), (7, .int .i64 l.length), (8, .int .i64 i)], []⟩) (fun i => l.length - i) 0 ⟨by omega, by omega⟩ (Ent.to [] false (by simp) (by simp) rfl (by simp only [lPA, lPD, novO, setAll, seval, implies_true, pa_accs] <;> (try simp) <;> (try omega)) (by simp only [lPA, lPD, novO, setAll, seval, implies_true, pa_accs] <;> (try simp) <;> (try omega))) ?_
  rintro i ⟨hi, hj⟩
  by_cases hin : i < l.length
  · have e1 : ∀ {m N d k}, IdxR E.P m N (l.map pairA) (i : Int) d k = rK E.P m N k d (.vp [.int .i64 (l.getD i default).1, .int .i64 (l.getD i default).2]) := IdxR_prs hin
    have hm : l.getD i default ∈ l := by rw [getD_ge hin]; exact List.getElem_mem hin
    generalize hq : l.getD i default = q at *
    have k1 := c74 h s q.1 q.2 (hl q hm).1 (hl q hm).2
    repeat' (first
      | (with_reducible first | apply cond_d | apply cond_nd | apply cond_i | apply guard_d | apply guard_nd | apply guard_df | apply guard_ndf | apply guard_i | apply ag_d | apply ag_nd | apply ag_df | apply ag_ndf | apply ag_i) <;> intro _
      | with_reducible first | refine LenR_i fun _ => ?_ | refine And.intro (by omega) ?_ | refine and_assoc.2 ?_ | apply sp_cond | apply sp_guard | apply sp_ag | apply sp_call | apply sp_acall | apply sp_loop | apply sp_any | apply sp_frz | apply sp_len | apply sp_idx | apply sp_keep | apply sp_back
      | with_reducible refine frz0_i ?_
      | ((with_reducible first | refine callN_i [] true (by simp) (by simp) ?_ | refine acallN_i true ?_); simp only [lPA, lPD, novO, setAll, seval, implies_true, e1]; (refine ⟨_, k1, ?_⟩; rintro _ _ ⟨rfl, rfl⟩); simp only [lAL, lDF, tupA, eqA, isNil, slcNil, ptrCells, ptrAdd, cellsO, intA, boolA, readsV, readsP, isCall, wrote, srcOf, isNilSlice, Value.oneCell', seval, implies_true, forall_eq, ne_eq, lPA, lPD, novO, setAll, e1])
      | ((with_reducible refine keep0_i ?_); simp only [lPA, lPD, novO, setAll, seval, implies_true])
      | simp (maxSteps := 1000000) (disch := omega) only [lAL, lDF, tupA, eqA, isNil, slcNil, ptrCells, ptrAdd, cellsO, intA, boolA, readsV, readsP, isCall, wrote, srcOf, isNilSlice, Value.oneCell', seval, implies_true, forall_eq, ne_eq, wrap_i64, LenR_ok, List.length_map, IdxR_ints, e1])
    all_goals try (exfalso; omega)
    all_goals clear e1 k1
    · rename_i hsp
      exact ⟨_, rfl, fun _ => ⟨q, hm, hsp⟩, fun _ => by omega⟩
    · rename_i hsp
      refine back_i (i + 1) ⟨by omega, fun j hj2 => ?_⟩ (by omega) (Ent.to [] false (by simp) (by simp) rfl (by simp only [lPA, lPD, novO, setAll, seval, implies_true, pa_accs] <;> (try simp) <;> (try omega)) (by simp only [lPA, lPD, novO, setAll, seval, implies_true, pa_accs] <;> (try simp) <;> (try omega)))
      by_cases hji : j < i
      · exact hj j hji
      · have : j = i := by omega
        subst this
        rw [hq]; exact hsp
  · repeat' (first
      | (with_reducible first | apply cond_d | apply cond_nd | apply cond_i | apply guard_d | apply guard_nd | apply guard_df | apply guard_ndf | apply guard_i | apply ag_d | apply ag_nd | apply ag_df | apply ag_ndf | apply ag_i) <;> intro _
      | with_reducible first | refine LenR_i fun _ => ?_ | refine And.intro (by omega) ?_ | refine and_assoc.2 ?_ | apply sp_cond | apply sp_guard | apply sp_ag | apply sp_call | apply sp_acall | apply sp_loop | apply sp_any | apply sp_frz | apply sp_len | apply sp_idx | apply sp_keep | apply sp_back
      | with_reducible refine frz0_i ?_
      | ((with_reducible refine keep0_i ?_); simp only [lPA, lPD, novO, setAll, seval, implies_true])
      | simp (maxSteps := 1000000) (disch := omega) only [lAL, lDF, tupA, eqA, isNil, slcNil, ptrCells, ptrAdd, cellsO, intA, boolA, readsV, readsP, isCall, wrote, srcOf, isNilSlice, Value.oneCell', seval, implies_true, forall_eq, ne_eq, wrap_i64, LenR_ok, List.length_map, IdxR_ints])
    all_goals try (exfalso; omega)
    refine ⟨_, rfl, ?_⟩
    constructor
    · intro h; omega
    · rintro ⟨p, hp, hs⟩
      obtain ⟨j, hj1, rfl⟩ := List.getElem_of_mem hp
      refine absurd ?_ (hj j (by omega))
      rw [getD_ge hj1]; exact hs
theorem c73 (h : List Acc) (s : Int) (l : List (Nat × Nat)) (hl : ∀ p ∈ l, p.1 < h.length ∧ p.2 < h.length) : ACalls E.P 73 [.view 2 (l.map pairA), .fn (.func 74) [] [.vp [.view 6 (h.map accA)], .vp [.int .i64 s]]] [] (fun r H => r = .bool (decide (∃ p, p ∈ l ∧ Spoil h s p)) ∧ H = []) := by
  refine ok73.acalls hE hm (by simp) ?_
  unfold mc73
  have k1 := c84 h s l hl
  repeat' (first
    | (with_reducible first | apply cond_d | apply cond_nd | apply cond_i | apply guard_d | apply guard_nd | apply guard_df | apply guard_ndf | apply guard_i | apply ag_d | apply ag_nd | apply ag_df | apply ag_ndf | apply ag_i) <;> intro _
    | with_reducible first | refine LenR_i fun _ => ?_ | refine And.intro (by omega) ?_ | refine and_assoc.2 ?_ | apply sp_cond | apply sp_guard | apply sp_ag | apply sp_call | apply sp_acall | apply sp_loop | apply sp_any | apply sp_frz | apply sp_len | apply sp_idx | apply sp_keep | apply sp_back
    | with_reducible refine frz0_i ?_
    | ((with_reducible first | refine callN_i [] true (by simp) (by simp) ?_ | refine acallN_i true ?_); simp only [lPA, lPD, novO, setAll, seval, implies_true, pa_pairs, pa_accs]; (refine ⟨_, k1, ?_⟩; rintro _ _ ⟨⟨k, rfl, hk⟩, rfl⟩); simp only [lAL, lDF, tupA, eqA, isNil, slcNil, ptrCells, ptrAdd, cellsO, intA, boolA, readsV, readsP, isCall, wrote, srcOf, isNilSlice, Value.oneCell', seval, implies_true, forall_eq, ne_eq, lPA, lPD, novO, setAll, pa_pairs, pa_accs])
    | ((with_reducible refine keep0_i ?_); simp only [lPA, lPD, novO, setAll, seval, implies_true])
    | simp (maxSteps := 1000000) (disch := omega) only [lAL, lDF, tupA, eqA, isNil, slcNil, ptrCells, ptrAdd, cellsO, intA, boolA, readsV, readsP, isCall, wrote, srcOf, isNilSlice, Value.oneCell', seval, implies_true, forall_eq, ne_eq, wrap_i64, LenR_ok, List.length_map, IdxR_ints, pa_pairs, pa_accs])
  all_goals simp [← hk]
theorem mem_pairsTo {p : Nat → Nat → Prop} {n i : Nat} {q : Nat × Nat} : q ∈ pairsTo p n i ↔ q.1 < i ∧ q.2 < n ∧ p q.1 q.2 := by
  simp only [pairsTo, rowP, List.mem_flatMap, List.mem_range, List.mem_map, List.mem_filter, decide_eq_true_eq]
  constructor
  · rintro ⟨k, hk, j, ⟨hj, hp⟩, rfl⟩; exact ⟨hk, hj, hp⟩
  · rintro ⟨h1, h2, h3⟩; exact ⟨q.1, h1, q.2, ⟨h2, h3⟩, rfl⟩

/-! ### what Safe answers -/
structure SafeS (h : List Acc) (s : Int) : Prop where
  check : checkS h = 0
  lo : 0 ≤ s
  hi : s ≤ 1073741824
  old : ∀ i, i < h.length → ¬ ((at' h i).done = false ∧ (at' h i).mode ≠ 2 ∧ (at' h i).snap < s)
  anti : ¬ ∃ p, p ∈ pairsTo (Anti h) h.length h.length ∧ Spoil h s p
theorem c36 (h : List Acc) (s : Int) : ACalls E.P 36 [.view 6 (h.map accA), .int .i64 s] [] (fun r H => r = .bool (decide (SafeS h s)) ∧ H = []) := by
  have hmax := maxLen_eq
  refine ok36.acalls hE hm (by simp) ?_
  unfold mc36
  have h50 := c50 h
  by_cases hck : checkS h = 0
  · have h51 := c51 h 2 (Anti h) (kind_anti h) (checkS_len hck)
    have h73 := c73 h s (pairsTo (Anti h) h.length h.length) (fun p hp => by have := mem_pairsTo.1 hp; exact ⟨this.1, this.2.1⟩)
    simp only [graphA, hck, if_true] at h50 h51
    repeat' (first
      | (with_reducible first | apply cond_d | apply cond_nd | apply cond_i | apply guard_d | apply guard_nd | apply guard_df | apply guard_ndf | apply guard_i | apply ag_d | apply ag_nd | apply ag_df | apply ag_ndf | apply ag_i) <;> intro _
      | with_reducible first | refine LenR_i fun _ => ?_ | refine And.intro (by omega) ?_ | refine and_assoc.2 ?_ | apply sp_cond | apply sp_guard | apply sp_ag | apply sp_call | apply sp_acall | apply sp_loop | apply sp_any | apply sp_frz | apply sp_len | apply sp_idx | apply sp_keep | apply sp_back
      | with_reducible refine frz0_i ?_
      | ((with_reducible first | refine callN_i [] false (by simp) (by simp) ?_ | refine acallN_i false ?_); simp only [lPA, lPD, novO, setAll, seval, implies_true, vw_accs]; (refine ⟨_, h50, ?_⟩; rintro _ _ ⟨rfl, rfl⟩); simp only [lAL, lDF, tupA, eqA, isNil, slcNil, ptrCells, ptrAdd, cellsO, intA, boolA, readsV, readsP, isCall, wrote, srcOf, isNilSlice, Value.oneCell', seval, implies_true, forall_eq, ne_eq, lPA, lPD, novO, setAll, vw_accs])
      | simp (maxSteps := 1000000) (disch := omega) only [lAL, lDF, tupA, eqA, isNil, slcNil, ptrCells, ptrAdd, cellsO, intA, boolA, readsV, readsP, isCall, wrote, srcOf, isNilSlice, Value.oneCell', seval, implies_true, forall_eq, ne_eq, wrap_i64, LenR_ok, List.length_map, IdxR_ints, vw_accs])
    · have : ¬ SafeS h s := fun hs => by have := hs.hi; omega
      repeat' (first
        | (with_reducible first | apply cond_d | apply cond_nd | apply cond_i | apply guard_d | apply guard_nd | apply guard_df | apply guard_ndf | apply guard_i | apply ag_d | apply ag_nd | apply ag_df | apply ag_ndf | apply ag_i) <;> intro _
        | with_reducible first | refine LenR_i fun _ => ?_ | refine And.intro (by omega) ?_ | refine and_assoc.2 ?_ | apply sp_cond | apply sp_guard | apply sp_ag | apply sp_call | apply sp_acall | apply sp_loop | apply sp_any | apply sp_frz | apply sp_len | apply sp_idx | apply sp_keep | apply sp_back
        | with_reducible refine frz0_i ?_
        | ((with_reducible refine keep0_i ?_); simp only [lPA, lPD, novO, setAll, seval, implies_true])
        | simp (maxSteps := 1000000) (disch := omega) only [lAL, lDF, tupA, eqA, isNil, slcNil, ptrCells, ptrAdd, cellsO, intA, boolA, readsV, readsP, isCall, wrote, srcOf, isNilSlice, Value.oneCell', seval, implies_true, forall_eq, ne_eq, wrap_i64, LenR_ok, List.length_map, IdxR_ints])
      simp [this]
    · refine loop_i (fun i : Nat => i ≤ h.length ∧ ∀ j, j < i → ¬ ((at' h j).done = false ∧ (at' h j).mode ≠ 2 ∧ (at' h j).snap < s))
        (fun i => ⟨[(2, .op 0 0), (3, .op 1 0), (5, .vp [.view 6 (h.map accA), .view 1 ((List.range h.length).map (rowA h))]), (20, .view 6 (h.map accA)), (21, .int .i64 h.length), (22, .int .i64 i)], [.box [.view 6 (h.map accA)], .box [.int .i64 s]]⟩) (fun i => h.length - i) 0 ⟨by omega, by omega⟩ (Ent.to [0,1] false (by simp) (by simp) rfl (by simp only [lPA, lPD, novO, setAll, seval, implies_true, pa_accs] <;> (try simp) <;> (try omega)) (by simp only [lPA, lPD, novO, setAll, seval, implies_true, pa_accs] <;> (try simp) <;> (try omega))) ?_
      rintro i ⟨hi, hj⟩
      by_cases hin : i < h.length
      · have e1 : ∀ {m N d k}, IdxR E.P m N (h.map accA) (i : Int) d k = rK E.P m N k d (.vp (accC (at' h i))) := IdxR_at hin
        have hold : SafeS h s → _ := fun hs => hs.old i hin
        have hback : ¬ ((at' h i).done = false ∧ (at' h i).mode ≠ 2 ∧ (at' h i).snap < s) → ∀ j, j < i + 1 → ¬ ((at' h j).done = false ∧ (at' h j).mode ≠ 2 ∧ (at' h j).snap < s) := fun hh j hj2 => by
          by_cases e : j = i
          · subst e; exact hh
          · exact hj j (by omega)
        generalize at' h i = x at *
        repeat' (first
          | (with_reducible first | apply cond_d | apply cond_nd | apply cond_i | apply guard_d | apply guard_nd | apply guard_df | apply guard_ndf | apply guard_i | apply ag_d | apply ag_nd | apply ag_df | apply ag_ndf | apply ag_i) <;> intro _
          | with_reducible first | refine LenR_i fun _ => ?_ | refine And.intro (by omega) ?_ | refine and_assoc.2 ?_ | apply sp_cond | apply sp_guard | apply sp_ag | apply sp_call | apply sp_acall | apply sp_loop | apply sp_any | apply sp_frz | apply sp_len | apply sp_idx | apply sp_keep | apply sp_back
          | with_reducible refine frz0_i ?_
          | ((with_reducible refine keep0_i ?_); simp only [lPA, lPD, novO, setAll, seval, implies_true])
          | simp (maxSteps := 1000000) (disch := omega) only [lAL, lDF, tupA, eqA, isNil, slcNil, ptrCells, ptrAdd, cellsO, intA, boolA, readsV, readsP, isCall, wrote, srcOf, isNilSlice, Value.oneCell', seval, implies_true, forall_eq, ne_eq, wrap_i64, LenR_ok, List.length_map, IdxR_ints, e1, accC])
        all_goals try (exfalso; omega)
        all_goals clear e1
        all_goals first
          | (refine back_i (i + 1) ⟨by omega, hback (by simp_all)⟩ (by omega) (Ent.to [0,1] false (by simp) (by simp) rfl (by simp only [lPA, lPD, novO, setAll, seval, implies_true, pa_accs] <;> (try simp) <;> (try omega)) (by simp only [lPA, lPD, novO, setAll, seval, implies_true, pa_accs] <;> (try simp) <;> (try omega))))
          | (have : ¬ SafeS h s := fun hs => hold hs (by simp_all)
             simp [this])
      · have e : i = h.length := by omega
        subst e
        repeat' (first
          | (with_reducible first | apply cond_d | apply cond_nd | apply cond_i | apply guard_d | apply guard_nd | apply guard_df | apply guard_ndf | apply guard_i | apply ag_d | apply ag_nd | apply ag_df | apply ag_ndf | apply ag_i) <;> intro _
          | with_reducible first | refine LenR_i fun _ => ?_ | refine And.intro (by omega) ?_ | refine and_assoc.2 ?_ | apply sp_cond | apply sp_guard | apply sp_ag | apply sp_call | apply sp_acall | apply sp_loop | apply sp_any | apply sp_frz | apply sp_len | apply sp_idx | apply sp_keep | apply sp_back
          | with_reducible refine frz0_i ?_
          | ((with_reducible first | refine callN_i [] true (by simp) (by simp) ?_ | refine acallN_i true ?_); simp only [lPA, lPD, novO, setAll, seval, implies_true, vw_accs, vw_pairs, pa_pairs, pa_accs]; (refine ⟨_, h73, ?_⟩; rintro _ _ ⟨rfl, rfl⟩); simp only [lAL, lDF, tupA, eqA, isNil, slcNil, ptrCells, ptrAdd, cellsO, intA, boolA, readsV, readsP, isCall, wrote, srcOf, isNilSlice, Value.oneCell', seval, implies_true, forall_eq, ne_eq, lPA, lPD, novO, setAll, vw_accs, vw_pairs, pa_pairs, pa_accs])
          | ((with_reducible first | refine callN_i [] false (by simp) (by simp) ?_ | refine acallN_i false ?_); simp only [lPA, lPD, novO, setAll, seval, implies_true, vw_accs, vw_pairs, pa_pairs, pa_accs]; (refine ⟨_, h51, ?_⟩; rintro _ _ ⟨rfl, rfl⟩); simp only [lAL, lDF, tupA, eqA, isNil, slcNil, ptrCells, ptrAdd, cellsO, intA, boolA, readsV, readsP, isCall, wrote, srcOf, isNilSlice, Value.oneCell', seval, implies_true, forall_eq, ne_eq, lPA, lPD, novO, setAll, vw_accs, vw_pairs, pa_pairs, pa_accs])
          | ((with_reducible refine keep0_i ?_); simp only [lPA, lPD, novO, setAll, seval, implies_true])
          | simp (maxSteps := 1000000) (disch := omega) only [lAL, lDF, tupA, eqA, isNil, slcNil, ptrCells, ptrAdd, cellsO, intA, boolA, readsV, readsP, isCall, wrote, srcOf, isNilSlice, Value.oneCell', seval, implies_true, forall_eq, ne_eq, wrap_i64, LenR_ok, List.length_map, IdxR_ints, vw_accs, vw_pairs, pa_pairs, pa_accs])
        all_goals try (exfalso; omega)
        have : SafeS h s ↔ ¬ ∃ p, p ∈ pairsTo (Anti h) h.length h.length ∧ Spoil h s p := ⟨fun hs => hs.anti, fun hh => ⟨hck, by omega, by omega, hj, hh⟩⟩
        by_cases hh : ∃ p, p ∈ pairsTo (Anti h) h.length h.length ∧ Spoil h s p <;> simp only [this, hh, not_true_eq_false, not_false_eq_true, decide_true, decide_false, Bool.not_true, Bool.not_false]
    · have : ¬ SafeS h s := fun hs => by have := hs.lo; omega
      repeat' (first
        | (with_reducible first | apply cond_d | apply cond_nd | apply cond_i | apply guard_d | apply guard_nd | apply guard_df | apply guard_ndf | apply guard_i | apply ag_d | apply ag_nd | apply ag_df | apply ag_ndf | apply ag_i) <;> intro _
        | with_reducible first | refine LenR_i fun _ => ?_ | refine And.intro (by omega) ?_ | refine and_assoc.2 ?_ | apply sp_cond | apply sp_guard | apply sp_ag | apply sp_call | apply sp_acall | apply sp_loop | apply sp_any | apply sp_frz | apply sp_len | apply sp_idx | apply sp_keep | apply sp_back
        | with_reducible refine frz0_i ?_
        | ((with_reducible refine keep0_i ?_); simp only [lPA, lPD, novO, setAll, seval, implies_true])
        | simp (maxSteps := 1000000) (disch := omega) only [lAL, lDF, tupA, eqA, isNil, slcNil, ptrCells, ptrAdd, cellsO, intA, boolA, readsV, readsP, isCall, wrote, srcOf, isNilSlice, Value.oneCell', seval, implies_true, forall_eq, ne_eq, wrap_i64, LenR_ok, List.length_map, IdxR_ints])
      simp [this]
  · have : ¬ SafeS h s := fun hs => hck hs.check
    simp only [hck, if_false] at h50
    repeat' (first
      | (with_reducible first | apply cond_d | apply cond_nd | apply cond_i | apply guard_d | apply guard_nd | apply guard_df | apply guard_ndf | apply guard_i | apply ag_d | apply ag_nd | apply ag_df | apply ag_ndf | apply ag_i) <;> intro _
      | with_reducible first | refine LenR_i fun _ => ?_ | refine And.intro (by omega) ?_ | refine and_assoc.2 ?_ | apply sp_cond | apply sp_guard | apply sp_ag | apply sp_call | apply sp_acall | apply sp_loop | apply sp_any | apply sp_frz | apply sp_len | apply sp_idx | apply sp_keep | apply sp_back
      | with_reducible refine frz0_i ?_
      | ((with_reducible first | refine callN_i [] false (by simp) (by simp) ?_ | refine acallN_i false ?_); simp only [lPA, lPD, novO, setAll, seval, implies_true, vw_accs]; (refine ⟨_, h50, ?_⟩; rintro _ _ ⟨rfl, rfl⟩); simp only [lAL, lDF, tupA, eqA, isNil, slcNil, ptrCells, ptrAdd, cellsO, intA, boolA, readsV, readsP, isCall, wrote, srcOf, isNilSlice, Value.oneCell', seval, implies_true, forall_eq, ne_eq, lPA, lPD, novO, setAll, vw_accs])
      | ((with_reducible refine keep0_i ?_); simp only [lPA, lPD, novO, setAll, seval, implies_true])
      | simp (maxSteps := 1000000) (disch := omega) only [lAL, lDF, tupA, eqA, isNil, slcNil, ptrCells, ptrAdd, cellsO, intA, boolA, readsV, readsP, isCall, wrote, srcOf, isNilSlice, Value.oneCell', seval, implies_true, forall_eq, ne_eq, wrap_i64, LenR_ok, List.length_map, IdxR_ints, vw_accs])
    all_goals simp [this]
end Go.Proofs.Try
