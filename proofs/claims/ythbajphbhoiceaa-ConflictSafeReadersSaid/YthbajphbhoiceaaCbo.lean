/-
  A part of the proof: see the text of the law.
-/
import Derived.Test.YthbajphbhoiceaaCbn
import Derived.Test.YthbajphbhoiceaaPlaina
set_option linter.unusedSimpArgs false
set_option linter.unusedVariables false
namespace Go.Proofs.Try
open Go.Al
set_option linter.unusedVariables false
set_option linter.unusedSimpArgs false
open Classical
set_option maxHeartbeats 8000000

/-- Does Admit accept? -/
def Adm (h : List Acc) (n : Nat) : Prop := ¬ LostW h n ∧ ¬ ((at' h n).mode = 1 ∧ DangW h n)
theorem adm_yes {h : List Acc} {n : Nat} (hle : stampS h n ≤ 1073741824) (ha : Adm h n) : admitN h n = (stampS h n, 0) := admitN_ok (by omega) ha.1 ha.2
theorem adm_no {h : List Acc} {n : Nat} (hle : stampS h n ≤ 1073741824) (ha : ¬ Adm h n) : admitN h n = (0, 271) ∨ admitN h n = (0, 272) := by
  unfold admitN
  rw [if_neg (by omega)]
  by_cases h1 : LostW h n
  · rw [if_pos h1]; exact .inl rfl
  · rw [if_neg h1]
    by_cases h2 : (at' h n).mode = 1 ∧ DangW h n
    · rw [if_pos h2]; exact .inr rfl
    · exact absurd ⟨h1, h2⟩ ha
theorem stampS_gt {h : List Acc} {n : Nat} (hck : checkS h = 0) (hn : n < h.length) : ((at' h n).snap < stampS h n) = (0 < (at' h n).writes.length) := by
  have h1 := lastS_ge hn
  have h2 := (snap_nn hck hn).1
  unfold stampS
  split
  · rename_i hw; simp only [hw, eq_iff_iff, iff_true]; omega
  · rename_i hw; simp only [hw, eq_iff_iff, iff_false]; omega
theorem bne_dec {p q : Prop} [Decidable p] [Decidable q] (h : p ↔ q) : (decide p != decide q) = false := by
  by_cases hp : p
  · have := h.1 hp; simp [hp, this]
  · have hq : ¬ q := fun hq => hp (h.2 hq); simp [hp, hq]
/-- With, of a slice of its own. -/
theorem c72o (h : List Acc) (n : Nat) (hn : n < h.length) (hl : h.length ≤ 100) (s : Int) : ACalls E.P 72 [.slc 0 6 h.length, .int .i64 n, .int .i64 s] [.arr 44 6 (h.map accA)] (fun r H => r = .slc 1 6 h.length ∧ H = [.arr 44 6 (h.map accA), .arr 44 6 ((withS h n s).map accA)]) := by
  have hmax := maxLen_eq
  refine ok72.acalls hE hm (by simp) ?_
  unfold mc72
  have g1 := accs_get hn
  have g2 : ((doneS h n).map accA)[n]? = _ := accs_get (by rw [doneS_len]; exact hn)
  have ep1 : ∀ {m N d c}, epR E.P m N (some (.arr 44 6 (h.map accA))) (n : Int) h.length 2 6 d c = rK E.P m N c d (.ep 2 6 n 0) := epR_ne (by simp) (by omega) (by omega)
  have ep2 : ∀ {m N d c}, epR E.P m N (some (.arr 44 6 ((doneS h n).map accA))) (n : Int) h.length 2 6 d c = rK E.P m N c d (.ep 2 6 n 0) := epR_ne (by simp [doneS_len]) (by omega) (by omega)
  have htk : (h.map accA).take h.length = h.map accA := List.take_of_length_le (by rw [List.length_map]; exact Nat.le_refl _)
  repeat' (first
    | (with_reducible first | apply cond_d | apply cond_nd | apply cond_i | apply guard_d | apply guard_nd | apply guard_df | apply guard_ndf | apply guard_i | apply ag_d | apply ag_nd | apply ag_df | apply ag_ndf | apply ag_i) <;> intro _
    | with_reducible first | refine LenR_i fun _ => ?_ | refine And.intro (by omega) ?_ | refine and_assoc.2 ?_ | apply sp_cond | apply sp_guard | apply sp_ag | apply sp_call | apply sp_acall | apply sp_loop | apply sp_any | apply sp_frz | apply sp_len | apply sp_idx | apply sp_keep | apply sp_back
    | with_reducible refine frz0_i ?_
    | simp (maxSteps := 1000000) (disch := omega) only [lAL, lDF, tupA, eqA, isNil, slcNil, ptrCells, ptrAdd, cellsO, intA, boolA, readsV, readsP, isCall, wrote, srcOf, isNilSlice, Value.oneCell', seval, implies_true, forall_eq, ne_eq, wrap_i64, LenR_ok, List.length_map, IdxR_ints, ep1, ep2, g1, g2, st_done hn, st_with hn, htk])
  refine keep_i [0, 2] false (by simp) (by simp) rfl ?_
  simp only [lPA, lPD, novO, setAll, seval, implies_true, paR_some, pa_accs]
theorem c40 (h : List Acc) (n : Nat) (hck : checkS h = 0) (hn : n < h.length) (hd : (at' h n).done = false) (hle : stampS h n ≤ 1073741824) : ACalls E.P 40 [.slc 0 6 h.length, .int .i64 n] [.arr 44 6 (h.map accA)]
    (fun r H => (Adm h n ∧ r = .tup [.slc 1 6 h.length, .bool true] ∧ H = [.arr 44 6 (h.map accA), .arr 44 6 ((withS h n (stampS h n)).map accA)]) ∨ (¬ Adm h n ∧ r = .tup [.slc 0 6 h.length, .bool true] ∧ H = [.arr 44 6 (h.map accA)])) := by
  have hmax := maxLen_eq
  refine ok40.acalls hE hm (by simp) ?_
  unfold mc40
  have hlen := checkS_len hck
  have h34 := c34 h n
  have hs : admitS h n = admitN h n := by simp only [admitS, Int.toNat_natCast]; rw [if_neg (by simp [hck]), if_neg (fun hh => hh ⟨by omega, by omega, hd⟩)]
  rw [hs] at h34
  have hv : ∀ {H q m}, vwS none (some (.arr 44 6 (h.map accA))) H q (m + 1) 6 h.length = .view 6 (h.map accA) := by
    intro H q m
    rw [vwS_arr (by simp), vw_accs]
  by_cases ha : Adm h n
  · rw [adm_yes hle ha] at h34
    simp only [admitA] at h34
    have hgt := stampS_gt hck hn
    have h72 := c72 h n hn hlen (stampS h n)
    have ep1 : ∀ {m N d c}, epR E.P m N (some (.arr 44 6 (h.map accA))) (n : Int) h.length 0 6 d c = rK E.P m N c d (.ep 0 6 n 0) := epR_ne (by simp) (by omega) (by omega)
    have g1 := accs_get hn
    repeat' (first
      | (with_reducible first | apply cond_d | apply cond_nd | apply cond_i | apply guard_d | apply guard_nd | apply guard_df | apply guard_ndf | apply guard_i | apply ag_d | apply ag_nd | apply ag_df | apply ag_ndf | apply ag_i) <;> intro _
      | with_reducible first | refine LenR_i fun _ => ?_ | refine And.intro (by omega) ?_ | refine and_assoc.2 ?_ | apply sp_cond | apply sp_guard | apply sp_ag | apply sp_call | apply sp_acall | apply sp_loop | apply sp_any | apply sp_frz | apply sp_len | apply sp_idx | apply sp_keep | apply sp_back
      | with_reducible refine frz0_i ?_
      | with_reducible refine any_i [] ?_
      | ((with_reducible first | refine callN_i [] true (by simp) (by simp) ?_ | refine acallN_i true ?_); simp only [lPA, lPD, novO, setAll, seval, implies_true, ep1, g1, hv, accC, pa_accs]; (refine ⟨_, h34, ?_⟩; rintro _ _ ⟨rfl, rfl⟩); simp only [lAL, lDF, tupA, eqA, isNil, slcNil, ptrCells, ptrAdd, cellsO, intA, boolA, readsV, readsP, isCall, wrote, srcOf, isNilSlice, Value.oneCell', seval, implies_true, forall_eq, ne_eq, lPA, lPD, novO, setAll, ep1, g1, hv, accC, pa_accs])
      | simp (maxSteps := 1000000) (disch := omega) only [lAL, lDF, tupA, eqA, isNil, slcNil, ptrCells, ptrAdd, cellsO, intA, boolA, readsV, readsP, isCall, wrote, srcOf, isNilSlice, Value.oneCell', seval, implies_true, forall_eq, ne_eq, wrap_i64, LenR_ok, List.length_map, IdxR_ints, ep1, g1, hv, accC, pa_accs])
    · exfalso
      rename_i hx
      rw [bne_dec (by rw [hgt]; omega)] at hx
      cases hx
    · refine callN_i [0] false (by simp) (by simp) ?_
      simp only [lPA, lPD, novO, setAll, seval, implies_true, pa_accs]
      refine ⟨_, c72o h n hn hlen (stampS h n), ?_⟩
      rintro _ _ ⟨rfl, rfl⟩
      simp only [lAL, lDF, tupA, eqA, isNil, slcNil, ptrCells, ptrAdd, cellsO, intA, boolA, readsV, readsP, isCall, wrote, srcOf, isNilSlice, Value.oneCell', seval, implies_true, forall_eq, ne_eq, lPA, lPD, novO, setAll, pa_accs, renL_accs]
      repeat' (first
        | (with_reducible first | apply cond_d | apply cond_nd | apply cond_i | apply guard_d | apply guard_nd | apply guard_df | apply guard_ndf | apply guard_i | apply ag_d | apply ag_nd | apply ag_df | apply ag_ndf | apply ag_i) <;> intro _
        | with_reducible first | refine LenR_i fun _ => ?_ | refine And.intro (by omega) ?_ | refine and_assoc.2 ?_ | apply sp_cond | apply sp_guard | apply sp_ag | apply sp_call | apply sp_acall | apply sp_loop | apply sp_any | apply sp_frz | apply sp_len | apply sp_idx | apply sp_keep | apply sp_back
        | with_reducible refine frz0_i ?_
        | simp (maxSteps := 1000000) (disch := omega) only [lAL, lDF, tupA, eqA, isNil, slcNil, ptrCells, ptrAdd, cellsO, intA, boolA, readsV, readsP, isCall, wrote, srcOf, isNilSlice, Value.oneCell', seval, implies_true, forall_eq, ne_eq, wrap_i64, LenR_ok, List.length_map, IdxR_ints])
      refine keep_i [0, 1] false (by simp) (by simp) rfl ?_
      simp only [lPA, lPD, novO, setAll, seval, implies_true, pa_accs, paR_some, ha]
      simp
  · have hno := adm_no hle ha
    rcases hno with hno | hno
    all_goals
      rw [hno] at h34
      simp only [admitA] at h34
      repeat' (first
        | (with_reducible first | apply cond_d | apply cond_nd | apply cond_i | apply guard_d | apply guard_nd | apply guard_df | apply guard_ndf | apply guard_i | apply ag_d | apply ag_nd | apply ag_df | apply ag_ndf | apply ag_i) <;> intro _
        | with_reducible first | refine LenR_i fun _ => ?_ | refine And.intro (by omega) ?_ | refine and_assoc.2 ?_ | apply sp_cond | apply sp_guard | apply sp_ag | apply sp_call | apply sp_acall | apply sp_loop | apply sp_any | apply sp_frz | apply sp_len | apply sp_idx | apply sp_keep | apply sp_back
        | with_reducible refine frz0_i ?_
        | with_reducible refine any_i [] ?_
        | ((with_reducible first | refine callN_i [] true (by simp) (by simp) ?_ | refine acallN_i true ?_); simp only [lPA, lPD, novO, setAll, seval, implies_true, hv, pa_accs]; (refine ⟨_, h34, ?_⟩; rintro _ _ ⟨rfl, rfl⟩); simp only [lAL, lDF, tupA, eqA, isNil, slcNil, ptrCells, ptrAdd, cellsO, intA, boolA, readsV, readsP, isCall, wrote, srcOf, isNilSlice, Value.oneCell', seval, implies_true, forall_eq, ne_eq, lPA, lPD, novO, setAll, hv, pa_accs])
        | simp (maxSteps := 1000000) (disch := omega) only [lAL, lDF, tupA, eqA, isNil, slcNil, ptrCells, ptrAdd, cellsO, intA, boolA, readsV, readsP, isCall, wrote, srcOf, isNilSlice, Value.oneCell', seval, implies_true, forall_eq, ne_eq, wrap_i64, LenR_ok, List.length_map, IdxR_ints, hv, pa_accs])
      refine keep_i [0] false (by simp) (by simp) rfl ?_
      simp only [lPA, lPD, novO, setAll, seval, implies_true, pa_accs, ha]
      simp
end Go.Proofs.Try
