/-
  A part of the proof: see the text of the law.
-/
import Derived.Test.YthbajphbhoiceaaCbc
import Derived.Test.YthbajphbhoiceaaCaq
set_option linter.unusedSimpArgs false
set_option linter.unusedVariables false
namespace Go.Al
theorem Weak.agg_snoc {l : List AV} {x y : AV} (h : Weak x y) : Weak (.agg (l ++ [x])) (.agg (l ++ [y])) := fun γ σ v hr => by
  obtain ⟨vs, h1, h2, h3⟩ := hr
  refine ⟨vs, h1, ?_, h3⟩
  clear h1 h3
  induction l generalizing vs with
  | nil =>
    obtain ⟨u, us, rfl, h4, h5⟩ := h2
    exact ⟨u, us, rfl, h γ σ u h4, h5⟩
  | cons a l ih =>
    obtain ⟨u, us, rfl, h4, h5⟩ := h2
    exact ⟨u, us, rfl, h4, ih us h5⟩
end Go.Al
namespace Go.Proofs.Try
open Go.Al
set_option linter.unusedVariables false
set_option linter.unusedSimpArgs false
open Classical
set_option maxHeartbeats 8000000
theorem asc_snoc {l : List Int} {x : Int} (ha : Asc l) (hx : ∀ y ∈ l, y < x) : Asc (l ++ [x]) := by
  intro j hj
  rw [List.length_append, List.length_singleton] at hj
  by_cases e : j + 1 < l.length
  · have := ha j e
    simp only [List.getD_eq_getElem?_getD, List.getElem?_append_left (show j < l.length by omega), List.getElem?_append_left e]
    simpa only [List.getD_eq_getElem?_getD] using this
  · have e2 : j + 1 = l.length := by omega
    have h1 : (l ++ [x]).getD (j + 1) 0 = x := by rw [e2]; simp
    have h2 : (l ++ [x]).getD j 0 = l.getD j 0 := by simp [List.getElem?_append_left (show j < l.length by omega)]
    rw [h1, h2]
    exact hx _ (getD_mem (by omega))
/-- Is a bit set? -/
def bitOn (n : Int) (i : Nat) : Prop := IntKind.u8.wrap ((BitVec.ofInt IntKind.u8.bits (n.fdiv (2 ^ min i IntKind.u8.bits)) &&& BitVec.ofInt IntKind.u8.bits 1).toNat : Nat) = 1
/-- The first items of bits. -/
noncomputable def itemsTo (n : Int) : Nat → List Int
  | 0 => []
  | i + 1 => if bitOn n i then itemsTo n i ++ [(i : Int)] else itemsTo n i
noncomputable def itemsS (n : Int) : List Int := itemsTo n 8
theorem itemsTo_ok (n : Int) : ∀ i : Nat, (itemsTo n i).length ≤ i ∧ Asc (itemsTo n i) ∧ ∀ y ∈ itemsTo n i, y < i
  | 0 => ⟨by simp [itemsTo], by intro j hj; simp [itemsTo] at hj, by simp [itemsTo]⟩
  | i + 1 => by
    obtain ⟨h1, h2, h3⟩ := itemsTo_ok n i
    simp only [itemsTo]
    split
    · refine ⟨by simp; omega, asc_snoc h2 h3, fun y hy => ?_⟩
      rcases List.mem_append.1 hy with hy | hy
      · have := h3 y hy; omega
      · simp at hy; subst hy; omega
    · exact ⟨by omega, h2, fun y hy => by have := h3 y hy; omega⟩
theorem itemsTo_on {n : Int} {i : Nat} (h : bitOn n i) : itemsTo n (i + 1) = itemsTo n i ++ [(i : Int)] := if_pos h
theorem itemsTo_off {n : Int} {i : Nat} (h : ¬ bitOn n i) : itemsTo n (i + 1) = itemsTo n i := if_neg h
/-- The items of bits. -/
theorem c76 (n : Int) : ACalls E.P 76 [.int .u8 n] [] (fun r H => r = .view 1 ((itemsS n).map (.int .i64)) ∧ H = []) := by
  have hmax := maxLen_eq
  refine ok76.acalls hE hm (by simp) ?_
  unfold mc76
  repeat' (first
    | (with_reducible first | apply cond_d | apply cond_nd | apply cond_i | apply guard_d | apply guard_nd | apply guard_df | apply guard_ndf | apply guard_i | apply ag_d | apply ag_nd | apply ag_df | apply ag_ndf | apply ag_i) <;> intro _
    | with_reducible first | refine LenR_i fun _ => ?_ | refine And.intro (by omega) ?_ | refine and_assoc.2 ?_ | apply sp_cond | apply sp_guard | apply sp_ag | apply sp_call | apply sp_acall | apply sp_loop | apply sp_any | apply sp_frz | apply sp_len | apply sp_idx | apply sp_keep | apply sp_back
    | with_reducible refine frz0_i ?_
    | simp (maxSteps := 1000000) (disch := omega) only [lAL, lDF, tupA, eqA, isNil, slcNil, ptrCells, ptrAdd, cellsO, intA, boolA, readsV, readsP, isCall, wrote, srcOf, isNilSlice, Value.oneCell', seval, implies_true, forall_eq, ne_eq, wrap_i64, LenR_ok, List.length_map, IdxR_ints])
  refine loop_i (fun i : Nat => i ≤ 8) (fun i => ⟨[(0, .int .u8 n), (3, .slc 0 1 (itemsTo n i).length), (4, .int .i64 i)], [.arr 3 1 ((itemsTo n i).map (AV.int .i64))]⟩) (fun i => 8 - i) 0 (by simp)
    (Ent.ghost' 3 3 1 (by omega) rfl (Ent.to [0] false (by simp) (by simp) rfl (by simp only [lPA, lPD, novO, setAll, seval, implies_true, itemsTo] <;> (try simp) <;> (try omega)) (by simp only [lPA, lPD, novO, setAll, seval, implies_true, itemsTo] <;> (try simp) <;> (try omega)))) ?_
  rintro i hi
  have hl := (itemsTo_ok n i).1
  by_cases hin : i < 8
  · repeat' (first
      | (with_reducible first | apply cond_d | apply cond_nd | apply cond_i | apply guard_d | apply guard_nd | apply guard_df | apply guard_ndf | apply guard_i | apply ag_d | apply ag_nd | apply ag_df | apply ag_ndf | apply ag_i) <;> intro _
      | with_reducible first | refine LenR_i fun _ => ?_ | refine And.intro (by omega) ?_ | refine and_assoc.2 ?_ | apply sp_cond | apply sp_guard | apply sp_ag | apply sp_call | apply sp_acall | apply sp_loop | apply sp_any | apply sp_frz | apply sp_len | apply sp_idx | apply sp_keep | apply sp_back
      | with_reducible refine frz0_i ?_
      | simp (maxSteps := 1000000) (disch := omega) only [lAL, lDF, tupA, eqA, isNil, slcNil, ptrCells, ptrAdd, cellsO, intA, boolA, readsV, readsP, isCall, wrote, srcOf, isNilSlice, Value.oneCell', seval, implies_true, forall_eq, ne_eq, wrap_i64, LenR_ok, List.length_map, IdxR_ints])
    all_goals try (exfalso; omega)
    · rename_i hb
      have hb2 := itemsTo_on (show bitOn n i from hb)
      refine back_i (i + 1) (by omega) (by omega) (Ent.to [2] false (by simp) (by simp) rfl (by simp only [lPA, lPD, novO, setAll, seval, implies_true, hb2] <;> simp) (by simp only [lPA, lPD, novO, setAll, seval, implies_true, hb2, List.map_append] <;> simp))
    · rename_i hb
      have hb2 := itemsTo_off (show ¬ bitOn n i from hb)
      refine back_i (i + 1) (by omega) (by omega) (Ent.to [0] false (by simp) (by simp) rfl (by simp only [lPA, lPD, novO, setAll, seval, implies_true, hb2] <;> (try simp) <;> (try omega)) (by simp only [lPA, lPD, novO, setAll, seval, implies_true, hb2] <;> (try simp) <;> (try omega)))
  · have e : i = 8 := by omega
    subst e
    have hv : ∀ {H q n'}, vwS none (some (.arr 3 1 ((itemsTo n 8).map (AV.int .i64)))) H q n' 1 (itemsTo n 8).length = .view 1 ((itemsTo n 8).map (AV.int .i64)) := by
      intro H q n'
      rw [vwS_arr (by simp), vw_ints]
    repeat' (first
      | (with_reducible first | apply cond_d | apply cond_nd | apply cond_i | apply guard_d | apply guard_nd | apply guard_df | apply guard_ndf | apply guard_i | apply ag_d | apply ag_nd | apply ag_df | apply ag_ndf | apply ag_i) <;> intro _
      | with_reducible first | refine LenR_i fun _ => ?_ | refine And.intro (by omega) ?_ | refine and_assoc.2 ?_ | apply sp_cond | apply sp_guard | apply sp_ag | apply sp_call | apply sp_acall | apply sp_loop | apply sp_any | apply sp_frz | apply sp_len | apply sp_idx | apply sp_keep | apply sp_back
      | with_reducible refine frz0_i ?_
      | simp (maxSteps := 1000000) (disch := omega) only [lAL, lDF, tupA, eqA, isNil, slcNil, ptrCells, ptrAdd, cellsO, intA, boolA, readsV, readsP, isCall, wrote, srcOf, isNilSlice, Value.oneCell', seval, implies_true, forall_eq, ne_eq, wrap_i64, LenR_ok, List.length_map, IdxR_ints])
    all_goals try (exfalso; omega)
    refine keep_i [] true (by simp) (by simp) rfl ?_
    simp only [lPA, lPD, novO, setAll, seval, implies_true, paR_lent, hv]
    first | exact ⟨rfl, rfl⟩ | rfl

structure TryT where
  ago : Int
  mode : Int
  reads : Int
  writes : Int
  deriving Inhabited
def tryC (t : TryT) : List AV := [.int .u8 t.ago, .int .u8 t.mode, .int .u8 t.reads, .int .u8 t.writes]
def tryA (t : TryT) : AV := .agg (tryC t)
def TryT.ok (t : TryT) : Prop := 0 ≤ t.ago ∧ t.ago ≤ 255 ∧ 0 ≤ t.mode ∧ t.mode ≤ 255
/-- The transaction of a script. -/
noncomputable def begS (h : List Acc) (t : TryT) : Acc :=
  { mode := t.mode.tmod 3, snap := max 0 (lastS h - t.ago.tmod 6), done := false, stamp := 0, reads := itemsS t.reads, writes := if t.mode.tmod 3 = 2 then [] else itemsS t.writes }
theorem ti44 : E.TI 44 = some ⟨.struct [(0, 3), (1, 3), (2, 4), (3, 3), (4, 33), (5, 33)], 6, 80, [.int .i64 0, .int .i64 0, .bool false, .int .i64 0, .slice none 0 0, .slice none 0 0], true, true⟩ := rfl
theorem max0 (a : Int) : (if a > 0 then a else 0) = max 0 a := by split <;> omega
theorem conv_u8 {n : Int} (h : 0 ≤ n ∧ n ≤ 255) : IntKind.i64.wrap n = n := wrap_i64 (by omega) (by omega)
theorem c41 (h : List Acc) (hck : checkS h = 0) (t : TryT) (ht : t.ok) : ACalls E.P 41 [.slc 0 6 h.length, tryA t] [.arr 44 6 (h.map accA)] (fun r H => r = accA (begS h t) ∧ H = [.arr 44 6 (h.map accA)]) := by
  have hmax := maxLen_eq
  refine ok41.acalls hE hm (by simp) ?_
  unfold mc41
  have h71 := c71 h
  have h76 := c76 t.reads
  have h76' := c76 t.writes
  have hll := lastS_le hck
  have hlg := lastS_nn (h := h)
  obtain ⟨t1, t2, t3, t4⟩ := ht
  have hm3 : 0 ≤ t.mode.tmod 3 ∧ t.mode.tmod 3 ≤ 2 := by
    rw [Int.tmod_eq_emod_of_nonneg t3]; omega
  have hm6 : 0 ≤ t.ago.tmod 6 ∧ t.ago.tmod 6 ≤ 5 := by
    rw [Int.tmod_eq_emod_of_nonneg t1]; omega
  have cv1 := conv_u8 ⟨t1, t2⟩
  have cv2 := conv_u8 ⟨t3, t4⟩
  have hv : ∀ {H q n}, vwS none (some (.arr 44 6 (h.map accA))) H q (n + 1) 6 h.length = .view 6 (h.map accA) := by
    intro H q n
    rw [vwS_arr (by simp), vw_accs]
  simp only [tryA, tryC]
  repeat' (first
    | (with_reducible first | apply cond_d | apply cond_nd | apply cond_i | apply guard_d | apply guard_nd | apply guard_df | apply guard_ndf | apply guard_i | apply ag_d | apply ag_nd | apply ag_df | apply ag_ndf | apply ag_i) <;> intro _
    | with_reducible first | refine LenR_i fun _ => ?_ | refine And.intro (by omega) ?_ | refine and_assoc.2 ?_ | apply sp_cond | apply sp_guard | apply sp_ag | apply sp_call | apply sp_acall | apply sp_loop | apply sp_any | apply sp_frz | apply sp_len | apply sp_idx | apply sp_keep | apply sp_back
    | with_reducible refine frz0_i ?_
    | with_reducible refine any_i [] ?_
    | ((with_reducible first | refine callN_i [] true (by simp) (by simp) ?_ | refine acallN_i true ?_); simp only [lPA, lPD, novO, setAll, seval, implies_true, pa_accs, hv, cv1, cv2, max0, ti44]; (refine ⟨_, h71, ?_⟩; rintro _ _ ⟨rfl, rfl⟩); simp only [lAL, lDF, tupA, eqA, isNil, slcNil, ptrCells, ptrAdd, cellsO, intA, boolA, readsV, readsP, isCall, wrote, srcOf, isNilSlice, Value.oneCell', seval, implies_true, forall_eq, ne_eq, lPA, lPD, novO, setAll, pa_accs, hv, cv1, cv2, max0, ti44])
    | ((with_reducible first | refine callN_i [] false (by simp) (by simp) ?_ | refine acallN_i false ?_); simp only [lPA, lPD, novO, setAll, seval, implies_true, pa_accs, hv, cv1, cv2, max0, ti44]; (first | (refine ⟨_, h76, ?_⟩; rintro _ _ ⟨rfl, rfl⟩) | (refine ⟨_, h76', ?_⟩; rintro _ _ ⟨rfl, rfl⟩)); simp only [lAL, lDF, tupA, eqA, isNil, slcNil, ptrCells, ptrAdd, cellsO, intA, boolA, readsV, readsP, isCall, wrote, srcOf, isNilSlice, Value.oneCell', seval, implies_true, forall_eq, ne_eq, lPA, lPD, novO, setAll, pa_accs, hv, cv1, cv2, max0, ti44])
    | simp (maxSteps := 1000000) (disch := omega) only [lAL, lDF, tupA, eqA, isNil, slcNil, ptrCells, ptrAdd, cellsO, intA, boolA, readsV, readsP, isCall, wrote, srcOf, isNilSlice, Value.oneCell', seval, implies_true, forall_eq, ne_eq, wrap_i64, LenR_ok, List.length_map, IdxR_ints, pa_accs, hv, cv1, cv2, max0, ti44])
  all_goals by_cases h2 : t.mode.tmod 3 = 2
  all_goals try (exfalso; contradiction)
  all_goals first
    | (refine keepw_i [0] false (by simp) (by simp) rfl (r' := accA (begS h t)) (by
         simp only [lPA, lPD, novO, setAll, seval, implies_true, begS, h2, if_true, accA_eq]
         exact Weak.agg_snoc (l := [_, _, _, _, _]) weak_nil) (by
         simp only [lPA, lPD, novO, setAll, seval, implies_true, pa_accs]
         try exact ⟨rfl, rfl⟩)
       done)
    | (refine keep_i [0] false (by simp) (by simp) rfl ?_
       simp only [lPA, lPD, novO, setAll, seval, implies_true, pa_accs, begS, h2, if_false, accA_eq]
       done)
end Go.Proofs.Try
