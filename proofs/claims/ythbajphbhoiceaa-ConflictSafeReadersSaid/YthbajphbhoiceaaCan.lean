/-
  A part of the proof: see the text of the law.
-/
import Derived.Test.YthbajphbhoiceaaCal
set_option linter.unusedSimpArgs false
set_option linter.unusedVariables false
namespace Go.Proofs.Try
open Go.Al
set_option linter.unusedVariables false
set_option linter.unusedSimpArgs false
open Classical

/-! ### the serial order -/
def Ready (h : List Acc) (T : Nat → Prop) (j : Nat) : Prop := j < h.length ∧ (at' h j).done = true ∧ ¬ T j ∧ ∀ i, i < h.length → Edge h i j → T i
def NextS (h : List Acc) (T : Nat → Prop) : Option Nat → Prop
  | none => ∀ j, ¬ Ready h T j
  | some j => Ready h T j ∧ ∀ j', Ready h T j' → j ≤ j'
def nextV : Option Nat → Int | none => -1 | some j => j
theorem NextS.congr {h : List Acc} {T T' : Nat → Prop} (hT : ∀ i, i < h.length → (T i ↔ T' i)) {t : Option Nat} (ht : NextS h T t) : NextS h T' t := by
  have hr : ∀ j, Ready h T j ↔ Ready h T' j := by
    intro j
    unfold Ready
    constructor
    · rintro ⟨h1, h2, h3, h4⟩
      exact ⟨h1, h2, by rwa [← hT j h1], fun i hi he => (hT i hi).1 (h4 i hi he)⟩
    · rintro ⟨h1, h2, h3, h4⟩
      exact ⟨h1, h2, by rwa [hT j h1], fun i hi he => (hT i hi).2 (h4 i hi he)⟩
  cases t with
  | none => exact fun j => by rw [← hr j]; exact ht j
  | some j => exact ⟨(hr j).1 ht.1, fun j' hj' => ht.2 j' ((hr j').2 hj')⟩

theorem IdxR_bools {P : Program} {m N : Nat} {xs : List Bool} {i d : Nat} {c : Kn} (hi : i < xs.length) : IdxR P m N (xs.map AV.bool) (i : Int) d c = rK P m N c d (.vp [.bool (xs.getD i false)]) := by
  rw [IdxR_map (f := AV.bool) (xs := xs) (dflt := false) (cs := fun b => [.bool b]) (fun _ => rfl) (by omega) (by omega), Int.toNat_natCast]

set_option maxHeartbeats 8000000
theorem c58 (h : List Acc) : ACalls E.P 58 [.view 6 (h.map accA)] [] (fun r H => r = .int .i64 (((List.range h.length).filter fun j => (at' h j).done).length : Nat) ∧ H = []) := by
  have hmax := maxLen_eq
  refine ok58.acalls hE hm (by simp) ?_
  unfold mc58
  repeat' (first
    | (with_reducible first | apply cond_d | apply cond_nd | apply cond_i | apply guard_d | apply guard_nd | apply guard_df | apply guard_ndf | apply guard_i | apply ag_d | apply ag_nd | apply ag_df | apply ag_ndf | apply ag_i) <;> intro _
    | with_reducible first | refine LenR_i fun _ => ?_ | refine And.intro (by omega) ?_ | refine and_assoc.2 ?_ | apply sp_cond | apply sp_guard | apply sp_ag | apply sp_call | apply sp_acall | apply sp_loop | apply sp_any | apply sp_frz | apply sp_len | apply sp_idx | apply sp_keep | apply sp_back
    | with_reducible refine frz0_i ?_
    | ((with_reducible refine keep0_i ?_); simp only [lPA, lPD, novO, setAll, seval, implies_true])
    | simp (maxSteps := 1000000) (disch := omega) only [lAL, lDF, tupA, eqA, isNil, slcNil, ptrCells, ptrAdd, cellsO, intA, boolA, readsV, readsP, isCall, wrote, srcOf, isNilSlice, Value.oneCell', seval, implies_true, forall_eq, ne_eq, wrap_i64, LenR_ok, List.length_map, IdxR_ints])
  refine loop_i (fun i : Nat => i ≤ h.length) (fun i => ⟨[(0, .view 6 (h.map accA)), (3, .int .i64 (((List.range i).filter fun j => (at' h j).done).length : Nat)), (4, .int .i64 i)], []⟩) (fun i => h.length - i) 0 (by omega) (Ent.to [] false (by simp) (by simp) rfl (by simp only [lPA, lPD, novO, setAll, seval, implies_true] <;> (try simp) <;> (try omega)) (by simp only [lPA, lPD, novO, setAll, seval, implies_true] <;> (try simp) <;> (try omega))) ?_
  intro i hi
  have hle : ((List.range i).filter fun j => (at' h j).done).length ≤ i := Nat.le_trans (List.length_filter_le _ _) (by simp)
  by_cases hin : i < h.length
  · have e1 : ∀ {m N d k}, IdxR E.P m N (h.map accA) (i : Int) d k = rK E.P m N k d (.vp (accC (at' h i))) := IdxR_at hin
    repeat' (first
      | (with_reducible first | apply cond_d | apply cond_nd | apply cond_i | apply guard_d | apply guard_nd | apply guard_df | apply guard_ndf | apply guard_i | apply ag_d | apply ag_nd | apply ag_df | apply ag_ndf | apply ag_i) <;> intro _
      | with_reducible first | refine LenR_i fun _ => ?_ | refine And.intro (by omega) ?_ | refine and_assoc.2 ?_ | apply sp_cond | apply sp_guard | apply sp_ag | apply sp_call | apply sp_acall | apply sp_loop | apply sp_any | apply sp_frz | apply sp_len | apply sp_idx | apply sp_keep | apply sp_back
      | with_reducible refine frz0_i ?_
      | ((with_reducible refine keep0_i ?_); simp only [lPA, lPD, novO, setAll, seval, implies_true])
      | simp (maxSteps := 1000000) (disch := omega) only [lAL, lDF, tupA, eqA, isNil, slcNil, ptrCells, ptrAdd, cellsO, intA, boolA, readsV, readsP, isCall, wrote, srcOf, isNilSlice, Value.oneCell', seval, implies_true, forall_eq, ne_eq, wrap_i64, LenR_ok, List.length_map, IdxR_ints, e1, accC])
    all_goals try (exfalso; omega)
    · rename_i h1 h2 h3
      exact back_i (i + 1) (by omega) (by omega) (Ent.to [] false (by simp) (by simp) rfl (by simp only [lPA, lPD, novO, setAll, seval, implies_true, List.range_succ, List.filter_append, List.filter_cons, h3, List.filter_nil, List.length_append] <;> (try simp) <;> (try omega)) (by simp only [lPA, lPD, novO, setAll, seval, implies_true, List.range_succ, List.filter_append, List.filter_cons, h3, List.filter_nil, List.length_append] <;> (try simp) <;> (try omega)))
    · rename_i h1 h2 h3
      exact back_i (i + 1) (by omega) (by omega) (Ent.to [] false (by simp) (by simp) rfl (by simp only [lPA, lPD, novO, setAll, seval, implies_true, List.range_succ, List.filter_append, List.filter_cons, h3, List.filter_nil, List.length_append] <;> (try simp) <;> (try omega)) (by simp only [lPA, lPD, novO, setAll, seval, implies_true, List.range_succ, List.filter_append, List.filter_cons, h3, List.filter_nil, List.length_append] <;> (try simp) <;> (try omega)))
  · have : i = h.length := by omega
    subst this
    repeat' (first
      | (with_reducible first | apply cond_d | apply cond_nd | apply cond_i | apply guard_d | apply guard_nd | apply guard_df | apply guard_ndf | apply guard_i | apply ag_d | apply ag_nd | apply ag_df | apply ag_ndf | apply ag_i) <;> intro _
      | with_reducible first | refine LenR_i fun _ => ?_ | refine And.intro (by omega) ?_ | refine and_assoc.2 ?_ | apply sp_cond | apply sp_guard | apply sp_ag | apply sp_call | apply sp_acall | apply sp_loop | apply sp_any | apply sp_frz | apply sp_len | apply sp_idx | apply sp_keep | apply sp_back
      | with_reducible refine frz0_i ?_
      | ((with_reducible refine keep0_i ?_); simp only [lPA, lPD, novO, setAll, seval, implies_true])
      | simp (maxSteps := 1000000) (disch := omega) only [lAL, lDF, tupA, eqA, isNil, slcNil, ptrCells, ptrAdd, cellsO, intA, boolA, readsV, readsP, isCall, wrote, srcOf, isNilSlice, Value.oneCell', seval, implies_true, forall_eq, ne_eq, wrap_i64, LenR_ok, List.length_map, IdxR_ints])
    all_goals try (exfalso; omega)

theorem c59 (h : List Acc) (tk : List Bool) (htk : tk.length = h.length) : ACalls E.P 59 [.view 6 (h.map accA), .view 1 (tk.map AV.bool)] [] (fun r H => (∃ t, NextS h (fun i => tk.getD i false = true) t ∧ r = .int .i64 (nextV t)) ∧ H = []) := by
  have hmax := maxLen_eq
  refine ok59.acalls hE hm (by simp) ?_
  unfold mc59
  repeat' (first
    | (with_reducible first | apply cond_d | apply cond_nd | apply cond_i | apply guard_d | apply guard_nd | apply guard_df | apply guard_ndf | apply guard_i | apply ag_d | apply ag_nd | apply ag_df | apply ag_ndf | apply ag_i) <;> intro _
    | with_reducible first | refine LenR_i fun _ => ?_ | refine And.intro (by omega) ?_ | refine and_assoc.2 ?_ | apply sp_cond | apply sp_guard | apply sp_ag | apply sp_call | apply sp_acall | apply sp_loop | apply sp_any | apply sp_frz | apply sp_len | apply sp_idx | apply sp_keep | apply sp_back
    | with_reducible refine frz0_i ?_
    | ((with_reducible refine keep0_i ?_); simp only [lPA, lPD, novO, setAll, seval, implies_true])
    | simp (maxSteps := 1000000) (disch := omega) only [lAL, lDF, tupA, eqA, isNil, slcNil, ptrCells, ptrAdd, cellsO, intA, boolA, readsV, readsP, isCall, wrote, srcOf, isNilSlice, Value.oneCell', seval, implies_true, forall_eq, ne_eq, wrap_i64, LenR_ok, List.length_map, IdxR_ints])
  refine loop_i (fun j : Nat => j ≤ h.length ∧ ∀ j', j' < j → ¬ Ready h (fun i => tk.getD i false = true) j') (fun j => ⟨[(0, .view 6 (h.map accA)), (1, .view 1 (tk.map AV.bool)), (5, .int .i64 j)], []⟩) (fun j => h.length - j) 0 ⟨by omega, by omega⟩ (Ent.to [] false (by simp) (by simp) rfl (by simp only [lPA, lPD, novO, setAll, seval, implies_true] <;> (try simp) <;> (try omega)) (by simp only [lPA, lPD, novO, setAll, seval, implies_true] <;> (try simp) <;> (try omega))) ?_
  rintro j ⟨hj, hno⟩
  by_cases hjn : j < h.length
  · have e1 : ∀ {m N d k}, IdxR E.P m N (h.map accA) (j : Int) d k = rK E.P m N k d (.vp (accC (at' h j))) := IdxR_at hjn
    have e2 : ∀ {m N d k}, IdxR E.P m N (tk.map AV.bool) (j : Int) d k = rK E.P m N k d (.vp [.bool (tk.getD j false)]) := IdxR_bools (by omega)
    repeat' (first
      | (with_reducible first | apply cond_d | apply cond_nd | apply cond_i | apply guard_d | apply guard_nd | apply guard_df | apply guard_ndf | apply guard_i | apply ag_d | apply ag_nd | apply ag_df | apply ag_ndf | apply ag_i) <;> intro _
      | with_reducible first | refine LenR_i fun _ => ?_ | refine And.intro (by omega) ?_ | refine and_assoc.2 ?_ | apply sp_cond | apply sp_guard | apply sp_ag | apply sp_call | apply sp_acall | apply sp_loop | apply sp_any | apply sp_frz | apply sp_len | apply sp_idx | apply sp_keep | apply sp_back
      | with_reducible refine frz0_i ?_
      | ((with_reducible refine keep0_i ?_); simp only [lPA, lPD, novO, setAll, seval, implies_true])
      | simp (maxSteps := 1000000) (disch := omega) only [lAL, lDF, tupA, eqA, isNil, slcNil, ptrCells, ptrAdd, cellsO, intA, boolA, readsV, readsP, isCall, wrote, srcOf, isNilSlice, Value.oneCell', seval, implies_true, forall_eq, ne_eq, wrap_i64, LenR_ok, List.length_map, IdxR_ints, e1, e2, accC])
    all_goals try (exfalso; omega)
    all_goals
      refine loop_i (X := Nat × Bool) (fun x => x.1 ≤ h.length ∧ (x.2 = true ↔ ((at' h j).done = true ∧ ¬ tk.getD j false = true ∧ ∀ i, i < x.1 → Edge h i j → tk.getD i false = true)))
        (fun x => ⟨[(0, .view 6 (h.map accA)), (1, .view 1 (tk.map AV.bool)), (5, .int .i64 j), (6, .bool x.2), (7, .int .i64 x.1)], []⟩) (fun x => h.length - x.1) (0, (at' h j).done && !(tk.getD j false)) ⟨by simp, by simp⟩ (Ent.to [] false (by simp) (by simp) rfl (by simp only [lPA, lPD, novO, setAll, seval, implies_true, *] <;> (try simp) <;> (try omega)) (by simp only [lPA, lPD, novO, setAll, seval, implies_true, *] <;> (try simp) <;> (try omega))) ?_
      rintro ⟨i, f⟩ ⟨hi, hf⟩
      simp only at hi hf
      have fin : i = h.length ∨ f = false → (f = true ↔ Ready h (fun i => tk.getD i false = true) j) := by
        intro hor
        rw [hf]
        unfold Ready
        constructor
        · rintro ⟨h1, h2, h3⟩
          rcases hor with hor | hor
          · subst hor; exact ⟨hjn, h1, h2, h3⟩
          · exact absurd (hf.2 ⟨h1, h2, h3⟩) (by simp [hor])
        · rintro ⟨_, h1, h2, h3⟩
          exact ⟨h1, h2, fun i' hi' => h3 i' (by omega)⟩
      by_cases hin : i < h.length ∧ f = true
      · obtain ⟨hin, rfl⟩ := hin
        have hf := hf.1 rfl
        have e3 : ∀ {m N d k}, IdxR E.P m N (tk.map AV.bool) (i : Int) d k = rK E.P m N k d (.vp [.bool (tk.getD i false)]) := IdxR_bools (by omega)
        have k1 := c53 h i j hin hjn
        repeat' (first
          | (with_reducible first | apply cond_d | apply cond_nd | apply cond_i | apply guard_d | apply guard_nd | apply guard_df | apply guard_ndf | apply guard_i | apply ag_d | apply ag_nd | apply ag_df | apply ag_ndf | apply ag_i) <;> intro _
          | with_reducible first | refine LenR_i fun _ => ?_ | refine And.intro (by omega) ?_ | refine and_assoc.2 ?_ | apply sp_cond | apply sp_guard | apply sp_ag | apply sp_call | apply sp_acall | apply sp_loop | apply sp_any | apply sp_frz | apply sp_len | apply sp_idx | apply sp_keep | apply sp_back
          | with_reducible refine frz0_i ?_
          | ((with_reducible first | refine callN_i [] true (by simp) (by simp) ?_ | refine acallN_i true ?_); simp only [lPA, lPD, novO, setAll, seval, implies_true, e3]; (refine ⟨_, k1, ?_⟩; rintro _ _ ⟨rfl, rfl⟩); simp only [lAL, lDF, tupA, eqA, isNil, slcNil, ptrCells, ptrAdd, cellsO, intA, boolA, readsV, readsP, isCall, wrote, srcOf, isNilSlice, Value.oneCell', seval, implies_true, forall_eq, ne_eq, lPA, lPD, novO, setAll, e3])
          | ((with_reducible refine keep0_i ?_); simp only [lPA, lPD, novO, setAll, seval, implies_true])
          | simp (maxSteps := 1000000) (disch := omega) only [lAL, lDF, tupA, eqA, isNil, slcNil, ptrCells, ptrAdd, cellsO, intA, boolA, readsV, readsP, isCall, wrote, srcOf, isNilSlice, Value.oneCell', seval, implies_true, forall_eq, ne_eq, wrap_i64, LenR_ok, List.length_map, IdxR_ints, e3])
        all_goals try (exfalso; omega)
        · rename_i h5 h6
          refine back_i (i + 1, !decide (Edge h i j)) ⟨by simp only; omega, ?_⟩ (by simp only; omega) (Ent.to [] false (by simp) (by simp) rfl (by simp only [lPA, lPD, novO, setAll, seval, implies_true] <;> (try simp) <;> (try omega)) (by simp only [lPA, lPD, novO, setAll, seval, implies_true] <;> (try simp) <;> (try omega)))
          simp only [Bool.not_eq_true', decide_eq_false_iff_not]
          constructor
          · exact fun he => ⟨hf.1, hf.2.1, fun i' hi' he' => if e : i' < i then hf.2.2 i' e he' else by
              have : i' = i := by omega
              subst this
              exact absurd he' he⟩
          · rintro ⟨_, _, h9⟩ he
            have := h9 i (by omega) he
            rw [this] at h6; cases h6
        · rename_i h5 h6
          simp only [Bool.not_false] at h6
          refine back_i (i + 1, true) ⟨by simp only; omega, ?_⟩ (by simp only; omega) (Ent.to [] false (by simp) (by simp) rfl (by simp only [lPA, lPD, novO, setAll, seval, implies_true] <;> (try simp) <;> (try omega)) (by simp only [lPA, lPD, novO, setAll, seval, implies_true] <;> (try simp) <;> (try omega)))
          simp only [true_iff]
          exact ⟨hf.1, hf.2.1, fun i' hi' he' => if e : i' < i then hf.2.2 i' e he' else by
              have : i' = i := by omega
              subst this
              exact h6⟩
      · have hor : i = h.length ∨ f = false := by
          by_cases e : i < h.length
          · right; exact Bool.eq_false_iff.2 fun hf' => hin ⟨e, hf'⟩
          · left; omega
        have fin := fin hor
        by_cases hin' : i < h.length
        · have : f = false := hor.resolve_left (by omega)
          subst this
          repeat' (first
            | (with_reducible first | apply cond_d | apply cond_nd | apply cond_i | apply guard_d | apply guard_nd | apply guard_df | apply guard_ndf | apply guard_i | apply ag_d | apply ag_nd | apply ag_df | apply ag_ndf | apply ag_i) <;> intro _
            | with_reducible first | refine LenR_i fun _ => ?_ | refine And.intro (by omega) ?_ | refine and_assoc.2 ?_ | apply sp_cond | apply sp_guard | apply sp_ag | apply sp_call | apply sp_acall | apply sp_loop | apply sp_any | apply sp_frz | apply sp_len | apply sp_idx | apply sp_keep | apply sp_back
            | with_reducible refine frz0_i ?_
            | ((with_reducible refine keep0_i ?_); simp only [lPA, lPD, novO, setAll, seval, implies_true])
            | simp (maxSteps := 1000000) (disch := omega) only [lAL, lDF, tupA, eqA, isNil, slcNil, ptrCells, ptrAdd, cellsO, intA, boolA, readsV, readsP, isCall, wrote, srcOf, isNilSlice, Value.oneCell', seval, implies_true, forall_eq, ne_eq, wrap_i64, LenR_ok, List.length_map, IdxR_ints])
          all_goals try (exfalso; omega)
          refine back_i (j + 1) ⟨by omega, fun j' hj' => ?_⟩ (by omega) (Ent.to [] false (by simp) (by simp) rfl (by simp only [lPA, lPD, novO, setAll, seval, implies_true] <;> (try simp) <;> (try omega)) (by simp only [lPA, lPD, novO, setAll, seval, implies_true] <;> (try simp) <;> (try omega)))
          by_cases e : j' < j
          · exact hno j' e
          · have : j' = j := by omega
            subst this
            exact fun hr => by simpa using fin.2 hr
        · repeat' (first
            | (with_reducible first | apply cond_d | apply cond_nd | apply cond_i | apply guard_d | apply guard_nd | apply guard_df | apply guard_ndf | apply guard_i | apply ag_d | apply ag_nd | apply ag_df | apply ag_ndf | apply ag_i) <;> intro _
            | with_reducible first | refine LenR_i fun _ => ?_ | refine And.intro (by omega) ?_ | refine and_assoc.2 ?_ | apply sp_cond | apply sp_guard | apply sp_ag | apply sp_call | apply sp_acall | apply sp_loop | apply sp_any | apply sp_frz | apply sp_len | apply sp_idx | apply sp_keep | apply sp_back
            | with_reducible refine frz0_i ?_
            | ((with_reducible refine keep0_i ?_); simp only [lPA, lPD, novO, setAll, seval, implies_true])
            | simp (maxSteps := 1000000) (disch := omega) only [lAL, lDF, tupA, eqA, isNil, slcNil, ptrCells, ptrAdd, cellsO, intA, boolA, readsV, readsP, isCall, wrote, srcOf, isNilSlice, Value.oneCell', seval, implies_true, forall_eq, ne_eq, wrap_i64, LenR_ok, List.length_map, IdxR_ints])
          all_goals try (exfalso; omega)
          · rename_i h5 h6
            exact ⟨some j, ⟨fin.1 h6, fun j' hj' => Nat.le_of_not_lt fun hlt => hno j' hlt hj'⟩, rfl⟩
          · rename_i h5 h6
            refine back_i (j + 1) ⟨by omega, fun j' hj' => ?_⟩ (by omega) (Ent.to [] false (by simp) (by simp) rfl (by simp only [lPA, lPD, novO, setAll, seval, implies_true] <;> (try simp) <;> (try omega)) (by simp only [lPA, lPD, novO, setAll, seval, implies_true] <;> (try simp) <;> (try omega)))
            by_cases e : j' < j
            · exact hno j' e
            · have : j' = j := by omega
              subst this
              exact fun hr => by rw [fin.2 hr] at h6; cases h6
  · have : j = h.length := by omega
    subst this
    repeat' (first
      | (with_reducible first | apply cond_d | apply cond_nd | apply cond_i | apply guard_d | apply guard_nd | apply guard_df | apply guard_ndf | apply guard_i | apply ag_d | apply ag_nd | apply ag_df | apply ag_ndf | apply ag_i) <;> intro _
      | with_reducible first | refine LenR_i fun _ => ?_ | refine And.intro (by omega) ?_ | refine and_assoc.2 ?_ | apply sp_cond | apply sp_guard | apply sp_ag | apply sp_call | apply sp_acall | apply sp_loop | apply sp_any | apply sp_frz | apply sp_len | apply sp_idx | apply sp_keep | apply sp_back
      | with_reducible refine frz0_i ?_
      | ((with_reducible refine keep0_i ?_); simp only [lPA, lPD, novO, setAll, seval, implies_true])
      | simp (maxSteps := 1000000) (disch := omega) only [lAL, lDF, tupA, eqA, isNil, slcNil, ptrCells, ptrAdd, cellsO, intA, boolA, readsV, readsP, isCall, wrote, srcOf, isNilSlice, Value.oneCell', seval, implies_true, forall_eq, ne_eq, wrap_i64, LenR_ok, List.length_map, IdxR_ints])
    all_goals try (exfalso; omega)
    exact ⟨none, fun j' hr => hno j' hr.1 hr, rfl⟩
end Go.Proofs.Try
