/-
  A part of the proof: see the text of the law.
-/
import Derived.Test.YthbajphbhoiceaaCah
set_option linter.unusedSimpArgs false
set_option linter.unusedVariables false
namespace Go.Proofs.Try
open Go.Al
set_option linter.unusedVariables false
set_option linter.unusedSimpArgs false
open Classical

/-! ### the graph of a history -/
def PlainG (h : List Acc) (i j : Nat) : Prop := i ≠ j ∧ PlainE (at' h i) (at' h j)
noncomputable def ebit (h : List Acc) (i j : Nat) : Int := (if PlainG h i j then 1 else 0) + (if Anti h i j then 2 else 0)
noncomputable def erow (h : List Acc) (i : Nat) : List Int := (List.range h.length).map fun j => ebit h i j
noncomputable def rowA (h : List Acc) (i : Nat) : AV := .view 1 ((erow h i).map (AV.int .i64))
noncomputable def graphA (h : List Acc) : AV := .vp [.view 6 (h.map accA), .view 1 ((List.range h.length).map (rowA h))]
def nilS : AV := .raw (.slice none 0 0)

theorem ints_get {es : List Int} {j : Nat} (h : j < es.length) : (es.map (AV.int .i64))[j]? = some (.int .i64 (es.getD j 0)) := by
  simp [h]
theorem stE_int {P : Program} {m N : Nat} {es : List Int} {id n : Nat} {E' : TypeId} {v : Int} {cs : List AV} {fr : List (Nat × AV)} {H : List AObj} {q : Ke} (hn : n < es.length) (hc : cs.length = 1) :
    stE P m N (some (.arr E' 1 (es.map (AV.int .i64)))) 1 cs (.int .i64 v) id 1 n 0 fr H q = rE P m N q fr (H.set id (.arr E' 1 ((es.set n v).map (AV.int .i64)))) := by
  rw [stE_flat (fun _ => trivial) hn]
  simp [hc, List.map_set]
theorem stE_at {P : Program} {m N : Nat} {xs : List AV} {id n : Nat} {E' : TypeId} {x y : AV} {cs : List AV} {fr : List (Nat × AV)} {H : List AObj} {q : Ke} (hn : xs[n]? = some y) (hy : match y with | .agg _ => False | _ => True) (hc : cs.length = 1) :
    stE P m N (some (.arr E' 1 xs)) 1 cs x id 1 n 0 fr H q = rE P m N q fr (H.set id (.arr E' 1 (xs.set n x))) := by
  unfold stE
  simp only [hn]
  cases y <;> first | exact hy.elim | simp [hc]

/-- The rows made so far. -/
noncomputable def rowsTo (h : List Acc) (i : Nat) : List AV := (List.range h.length).map fun k => if k < i then rowA h k else nilS
theorem rowsTo_length (h : List Acc) (i : Nat) : (rowsTo h i).length = h.length := by simp [rowsTo]

theorem rowsTo_zero (h : List Acc) : rowsTo h 0 = List.replicate h.length nilS := by
  simp [rowsTo, List.map_const']
theorem pa_nils {H : List AObj} {l : List Nat} {bor : Bool} {k n : Nat} : (List.replicate n (AV.raw (.slice none 0 0))).map (pa H l bor k) = List.replicate n nilS := by
  simp [pa_raw, nilS]

theorem getD_set_self {es : List Int} {j : Nat} {v : Int} (h : j < es.length) : (es.set j v).getD j 0 = v := by simp [h]
theorem getD_set_ne {es : List Int} {j k : Nat} {v : Int} (h : k ≠ j) : (es.set j v).getD k 0 = es.getD k 0 := by
  simp [List.getElem?_set_ne (Ne.symm h)]
theorem erow_step {h : List Acc} {i j : Nat} {es : List Int} {v : Int} (hl : es.length = h.length) (hj : j < h.length) (he : ∀ k, k < h.length → es.getD k 0 = if k < j then ebit h i k else 0) (hv : v = ebit h i j) :
    ∀ k, k < h.length → (es.set j v).getD k 0 = if k < j + 1 then ebit h i k else 0 := by
  intro k hk
  by_cases hkj : k = j
  · subst hkj; rw [getD_set_self (by omega), hv, if_pos (by omega)]
  · rw [getD_set_ne hkj, he k hk]
    split <;> split <;> first | rfl | omega
theorem erow_step0 {h : List Acc} {i j : Nat} {es : List Int} (he : ∀ k, k < h.length → es.getD k 0 = if k < j then ebit h i k else 0) (hv : 0 = ebit h i j) :
    ∀ k, k < h.length → es.getD k 0 = if k < j + 1 then ebit h i k else 0 := by
  intro k hk
  rw [he k hk]
  by_cases hkj : k = j
  · subst hkj; rw [if_neg (by omega), hv, if_pos (by omega)]
  · split <;> split <;> first | rfl | omega
theorem erow_done {h : List Acc} {i : Nat} {es : List Int} (hl : es.length = h.length) (he : ∀ k, k < h.length → es.getD k 0 = if k < h.length then ebit h i k else 0) : es = erow h i := by
  apply List.ext_getElem
  · simp [erow, hl]
  · intro k h1 h2
    have := he k (by omega)
    rw [if_pos (by omega), getD_get h1] at this
    simp [erow, this]
theorem rowsTo_set {h : List Acc} {i : Nat} (hi : i < h.length) : (rowsTo h i).set i (rowA h i) = rowsTo h (i + 1) := by
  apply List.ext_getElem
  · simp [rowsTo]
  · intro k h1 h2
    rw [List.getElem_set]
    split
    · rename_i e; subst e; simp [rowsTo]
    · rename_i e
      simp only [rowsTo, List.getElem_map, List.getElem_range]
      split <;> split <;> first | rfl | omega
theorem rowsTo_all (h : List Acc) : rowsTo h h.length = (List.range h.length).map (rowA h) := by
  apply List.map_congr_left
  intro k hk
  rw [if_pos (by simpa using hk)]
theorem pa_rowsTo {H : List AObj} {l : List Nat} {bor : Bool} {h : List Acc} {i n : Nat} : (rowsTo h i).map (pa H l bor n) = rowsTo h i := by
  simp only [rowsTo, List.map_map]
  apply List.map_congr_left
  intro k _
  simp only [Function.comp, rowA, nilS]
  split <;> simp only [pa_view, pa_raw]
theorem vw_rowsTo {H : List AObj} {l : List Nat} {h : List Acc} {i n : Nat} : (rowsTo h i).map (vw H l n) = rowsTo h i := by
  simp only [rowsTo, List.map_map]
  apply List.map_congr_left
  intro k _
  simp only [Function.comp, rowA, nilS]
  split <;> simp only [vw_view, vw_raw]
theorem or_01 : IntKind.i64.wrap ((BitVec.ofInt IntKind.i64.bits 0 ||| BitVec.ofInt IntKind.i64.bits 1).toNat : Nat) = 1 := by decide
theorem or_02 : IntKind.i64.wrap ((BitVec.ofInt IntKind.i64.bits 0 ||| BitVec.ofInt IntKind.i64.bits 2).toNat : Nat) = 2 := by decide
theorem or_12 : IntKind.i64.wrap ((BitVec.ofInt IntKind.i64.bits 1 ||| BitVec.ofInt IntKind.i64.bits 2).toNat : Nat) = 3 := by decide

set_option maxHeartbeats 8000000
set_option pp.maxSteps 10000
theorem c50 (h : List Acc) : ACalls E.P 50 [.view 6 (h.map accA)] [] (fun r H => r = (if checkS h = 0 then graphA h else .raw (.pointer none)) ∧ H = []) := by
  have hmax := maxLen_eq
  refine ok50.acalls hE hm (by simp) ?_
  unfold mc50
  repeat' (first
    | (with_reducible first | apply cond_d | apply cond_nd | apply cond_i | apply guard_d | apply guard_nd | apply guard_df | apply guard_ndf | apply guard_i | apply ag_d | apply ag_nd | apply ag_df | apply ag_ndf | apply ag_i) <;> intro _
    | with_reducible first | refine LenR_i fun _ => ?_ | refine And.intro (by omega) ?_ | refine and_assoc.2 ?_ | apply sp_cond | apply sp_guard | apply sp_ag | apply sp_call | apply sp_acall | apply sp_loop | apply sp_any | apply sp_frz | apply sp_len | apply sp_idx | apply sp_keep | apply sp_back
    | with_reducible refine frz0_i ?_
    | ((with_reducible first | refine callN_i [] true (by simp) (by simp) ?_ | refine acallN_i true ?_); simp only [lPA, lPD, novO, setAll, seval, implies_true]; (refine ⟨_, c18 _, ?_⟩; rintro _ _ ⟨rfl, rfl⟩); simp only [lAL, lDF, tupA, eqA, isNil, slcNil, ptrCells, ptrAdd, cellsO, intA, boolA, readsV, readsP, isCall, wrote, srcOf, isNilSlice, Value.oneCell', seval, implies_true, forall_eq, ne_eq, lPA, lPD, novO, setAll])
    | ((with_reducible refine keep0_i ?_); simp only [lPA, lPD, novO, setAll, seval, implies_true])
    | simp (maxSteps := 1000000) (disch := omega) only [lAL, lDF, tupA, eqA, isNil, slcNil, ptrCells, ptrAdd, cellsO, intA, boolA, readsV, readsP, isCall, wrote, srcOf, isNilSlice, Value.oneCell', seval, implies_true, forall_eq, ne_eq, wrap_i64, LenR_ok, List.length_map, IdxR_ints])
  · rename_i h1
    simp [h1]
  rename_i hck hlm
  have hlen : h.length ≤ 100 := by
    have : ¬ Big h := fun hb => by simp [checkS, hb] at hck
    simp only [Big, not_or] at this; omega
  refine ⟨by omega, ?_⟩
  refine loop_i (fun i : Nat => i ≤ h.length) (fun i => ⟨[(0, .view 6 (h.map accA)), (3, .op 1 0), (19, .view 6 (h.map accA)), (20, .int .i64 h.length), (21, .int .i64 i)], [.arr 33 1 (rowsTo h i), .box [.view 6 (h.map accA), .slc 0 1 h.length]]⟩) (fun i => h.length - i) 0 (by omega) (Ent.to [0,1] false (by simp) (by simp) rfl (by simp only [lPA, lPD, novO, setAll, seval, implies_true, rowsTo_zero, pa_nils] <;> (try simp) <;> (try omega)) (by simp only [lPA, lPD, novO, setAll, seval, implies_true, rowsTo_zero, pa_nils] <;> (try simp) <;> (try omega))) ?_
  intro i hi
  by_cases hin : i < h.length
  · have ei : ∀ {m N d c}, IdxR E.P m N (h.map accA) (i : Int) d c = rK E.P m N c d (.vp (accC (h.getD i default))) := IdxR_accs (by omega) (by omega)
    repeat' (first
      | (with_reducible first | apply cond_d | apply cond_nd | apply cond_i | apply guard_d | apply guard_nd | apply guard_df | apply guard_ndf | apply guard_i | apply ag_d | apply ag_nd | apply ag_df | apply ag_ndf | apply ag_i) <;> intro _
      | with_reducible first | refine LenR_i fun _ => ?_ | refine And.intro (by omega) ?_ | refine and_assoc.2 ?_ | apply sp_cond | apply sp_guard | apply sp_ag | apply sp_call | apply sp_acall | apply sp_loop | apply sp_any | apply sp_frz | apply sp_len | apply sp_idx | apply sp_keep | apply sp_back
      | with_reducible refine frz0_i ?_
      | simp (maxSteps := 1000000) (disch := omega) only [lAL, lDF, tupA, eqA, isNil, slcNil, ptrCells, ptrAdd, cellsO, intA, boolA, readsV, readsP, isCall, wrote, srcOf, isNilSlice, Value.oneCell', seval, implies_true, forall_eq, ne_eq, wrap_i64, LenR_ok, List.length_map, IdxR_ints, ei, accC])
    · refine any_i [0] ?_
      have ep0 : ∀ {m N d c}, epR E.P m N (some (.arr 33 1 (rowsTo h i))) (i : Int) h.length 0 1 d c = rK E.P m N c d (.ep 0 1 i 0) := epR_ne (by simp [rowsTo_length]) (by omega) (by omega)
      have st0 : ∀ {m N y x fr H q}, stE E.P m N (some (.arr 33 1 (rowsTo h i))) 1 [y] x 0 1 i 0 fr H q = rE E.P m N q fr (H.set 0 (.arr 33 1 ((rowsTo h i).set i x))) := stE_at (y := nilS) (by simp [rowsTo, hin]) trivial rfl
      repeat' (first
        | (with_reducible first | apply cond_d | apply cond_nd | apply cond_i | apply guard_d | apply guard_nd | apply guard_df | apply guard_ndf | apply guard_i | apply ag_d | apply ag_nd | apply ag_df | apply ag_ndf | apply ag_i) <;> intro _
        | with_reducible first | refine LenR_i fun _ => ?_ | refine And.intro (by omega) ?_ | refine and_assoc.2 ?_ | apply sp_cond | apply sp_guard | apply sp_ag | apply sp_call | apply sp_acall | apply sp_loop | apply sp_any | apply sp_frz | apply sp_len | apply sp_idx | apply sp_keep | apply sp_back
        | with_reducible refine frz0_i ?_
        | simp (maxSteps := 1000000) (disch := omega) only [lAL, lDF, tupA, eqA, isNil, slcNil, ptrCells, ptrAdd, cellsO, intA, boolA, readsV, readsP, isCall, wrote, srcOf, isNilSlice, Value.oneCell', seval, implies_true, forall_eq, ne_eq, wrap_i64, LenR_ok, List.length_map, IdxR_ints, ep0, st0])
      refine acallN_i true ?_
      simp only [lPA, lPD, novO, setAll, seval, implies_true]
      refine ⟨_, c44 _, ?_⟩
      rintro _ _ ⟨rfl, rs, rb, rc, rfl, hrs⟩
      simp only [lPA, lPD, novO, setAll, seval, implies_true, lAL, lDF, tupA, eqA, isNil, slcNil, ptrCells, ptrAdd, cellsO, intA, boolA, readsV, readsP, isCall, wrote, srcOf, isNilSlice, Value.oneCell', seval, implies_true, forall_eq, ne_eq, renL_trues, novL_trues]
      refine acallN_i true ?_
      simp only [lPA, lPD, novO, setAll, seval, implies_true]
      refine ⟨_, c44 _, ?_⟩
      rintro _ _ ⟨rfl, ws, wb, wc, rfl, hws⟩
      simp only [lPA, lPD, novO, setAll, seval, implies_true, lAL, lDF, tupA, eqA, isNil, slcNil, ptrCells, ptrAdd, cellsO, intA, boolA, readsV, readsP, isCall, wrote, srcOf, isNilSlice, Value.oneCell', seval, implies_true, forall_eq, ne_eq, renL_trues, novL_trues]
      repeat' (first
        | (with_reducible first | apply cond_d | apply cond_nd | apply cond_i | apply guard_d | apply guard_nd | apply guard_df | apply guard_ndf | apply guard_i | apply ag_d | apply ag_nd | apply ag_df | apply ag_ndf | apply ag_i) <;> intro _
        | with_reducible first | refine LenR_i fun _ => ?_ | refine And.intro (by omega) ?_ | refine and_assoc.2 ?_ | apply sp_cond | apply sp_guard | apply sp_ag | apply sp_call | apply sp_acall | apply sp_loop | apply sp_any | apply sp_frz | apply sp_len | apply sp_idx | apply sp_keep | apply sp_back
        | with_reducible refine frz0_i ?_
        | simp (maxSteps := 1000000) (disch := omega) only [lAL, lDF, tupA, eqA, isNil, slcNil, ptrCells, ptrAdd, cellsO, intA, boolA, readsV, readsP, isCall, wrote, srcOf, isNilSlice, Value.oneCell', seval, implies_true, forall_eq, ne_eq, wrap_i64, LenR_ok, List.length_map, IdxR_ints])
      refine loop_i (X := Nat × List Int) (fun x => x.1 ≤ h.length ∧ x.2.length = h.length ∧ ∀ k, k < h.length → x.2.getD k 0 = if k < x.1 then ebit h i k else 0)
        (fun x => ⟨[(0, .view 6 (h.map accA)), (3, .op 1 0), (4, .int .i64 i), (5, .op 2 0), (6, .mp 4), (7, .mp 5), (19, .view 6 (h.map accA)), (20, .int .i64 h.length), (21, .int .i64 i), (41, .view 6 (h.map accA)), (42, .int .i64 h.length), (43, .int .i64 x.1)],
          [.arr 33 1 ((rowsTo h i).set i (.slc 3 1 h.length)), .box [.view 6 (h.map accA), .slc 0 1 h.length], .box (accC (at' h i)), .arr 3 1 (x.2.map (AV.int .i64)), .map (rs.map (AV.int .i64)) (rs.map fun _ => AV.bool true) rb rc, .map (ws.map (AV.int .i64)) (ws.map fun _ => AV.bool true) wb wc]⟩)
        (fun x => h.length - x.1) (0, List.replicate h.length 0) ⟨by simp, by simp, fun k hk => by simp [hk]⟩ (Ent.to [0,1,2,3,4,5] false (by simp) (by simp) rfl (by simp only [lPA, lPD, novO, setAll, seval, implies_true, pa_rowsTo, List.map_set, accC, at', pa_trues, List.map_replicate] <;> (try simp) <;> (try omega)) (by simp only [lPA, lPD, novO, setAll, seval, implies_true, pa_rowsTo, List.map_set, accC, at', pa_trues, List.map_replicate] <;> (try simp) <;> (try omega))) ?_
      rintro ⟨j, es⟩ ⟨hj, hes, heb⟩
      simp only at hj hes heb
      by_cases hjn : j < h.length
      · have ej : ∀ {m N d c}, IdxR E.P m N (h.map accA) (j : Int) d c = rK E.P m N c d (.vp (accC (h.getD j default))) := IdxR_accs (by omega) (by omega)
        have h47r : ∀ l, ACalls E.P 47 [setA rs, .view 1 (l.map (AV.int .i64))] [] (fun r H => r = .bool (decide (Meet (h.getD i default).reads l)) ∧ H = []) := fun l => (c47 rs l).mono fun r H ⟨h1, h2⟩ => ⟨by rw [h1]; congr 1; simp only [Meet, hrs, and_comm], h2⟩
        have h47w : ∀ l, ACalls E.P 47 [setA ws, .view 1 (l.map (AV.int .i64))] [] (fun r H => r = .bool (decide (Meet (h.getD i default).writes l)) ∧ H = []) := fun l => (c47 ws l).mono fun r H ⟨h1, h2⟩ => ⟨by rw [h1]; congr 1; simp only [Meet, hws, and_comm], h2⟩
        have ep1 : ∀ {m N d c}, epR E.P m N (some (.arr 33 1 ((rowsTo h i).set i (.slc 3 1 h.length)))) (i : Int) h.length 0 1 d c = rK E.P m N c d (.ep 0 1 i 0) := epR_ne (by simp [rowsTo_length]) (by omega) (by omega)
        have g1 : ((rowsTo h i).set i (.slc 3 1 h.length))[i]? = some (.slc 3 1 h.length) := by simp [rowsTo, hin]
        have ep3 : ∀ {m N d c}, epR E.P m N (some (.arr 3 1 (es.map (AV.int .i64)))) (j : Int) h.length 3 1 d c = rK E.P m N c d (.ep 3 1 j 0) := epR_ne (by simp [hes]) (by omega) (by omega)
        have g3 : (es.map (AV.int .i64))[j]? = some (.int .i64 0) := by rw [ints_get (by omega), heb j hjn, if_neg (by omega)]
        have s3 : ∀ {m N v y fr H q}, stE E.P m N (some (.arr 3 1 (es.map (AV.int .i64)))) 1 [y] (.int .i64 v) 3 1 j 0 fr H q = rE E.P m N q fr (H.set 3 (.arr 3 1 ((es.set j v).map (AV.int .i64)))) := stE_int (by omega) rfl
        have ep4 : ∀ {m N d c}, epR E.P m N (some (.arr 3 1 ((es.set j 1).map (AV.int .i64)))) (j : Int) h.length 3 1 d c = rK E.P m N c d (.ep 3 1 j 0) := epR_ne (by simp [hes]) (by omega) (by omega)
        have g4 : ((es.set j 1).map (AV.int .i64))[j]? = some (.int .i64 1) := by rw [ints_get (by simp; omega), getD_set_self (by omega)]
        have s4 : ∀ {m N v y fr H q}, stE E.P m N (some (.arr 3 1 ((es.set j 1).map (AV.int .i64)))) 1 [y] (.int .i64 v) 3 1 j 0 fr H q = rE E.P m N q fr (H.set 3 (.arr 3 1 (((es.set j 1).set j v).map (AV.int .i64)))) := stE_int (by simp; omega) rfl
        simp only [setA] at h47r h47w
        repeat' (first
          | (with_reducible first | apply cond_d | apply cond_nd | apply cond_i | apply guard_d | apply guard_nd | apply guard_df | apply guard_ndf | apply guard_i | apply ag_d | apply ag_nd | apply ag_df | apply ag_ndf | apply ag_i) <;> intro _
          | with_reducible first | refine LenR_i fun _ => ?_ | refine And.intro (by omega) ?_ | refine and_assoc.2 ?_ | apply sp_cond | apply sp_guard | apply sp_ag | apply sp_call | apply sp_acall | apply sp_loop | apply sp_any | apply sp_frz | apply sp_len | apply sp_idx | apply sp_keep | apply sp_back
          | with_reducible refine frz0_i ?_
          | ((with_reducible first | refine callN_i [] true (by simp) (by simp) ?_ | refine acallN_i true ?_); simp only [lPA, lPD, novO, setAll, seval, implies_true, ei, ej, accC, at', vw_trues, ep1, g1, ep3, g3, s3, ep4, g4, s4, or_01, or_02, or_12]; (first | (refine ⟨_, h47r _, ?_⟩; rintro _ _ ⟨rfl, rfl⟩) | (refine ⟨_, h47w _, ?_⟩; rintro _ _ ⟨rfl, rfl⟩)); simp only [lAL, lDF, tupA, eqA, isNil, slcNil, ptrCells, ptrAdd, cellsO, intA, boolA, readsV, readsP, isCall, wrote, srcOf, isNilSlice, Value.oneCell', seval, implies_true, forall_eq, ne_eq, lPA, lPD, novO, setAll, ei, ej, accC, at', vw_trues, ep1, g1, ep3, g3, s3, ep4, g4, s4, or_01, or_02, or_12])
          | simp (maxSteps := 1000000) (disch := omega) only [lAL, lDF, tupA, eqA, isNil, slcNil, ptrCells, ptrAdd, cellsO, intA, boolA, readsV, readsP, isCall, wrote, srcOf, isNilSlice, Value.oneCell', seval, implies_true, forall_eq, ne_eq, wrap_i64, LenR_ok, List.length_map, IdxR_ints, ei, ej, accC, at', vw_trues, ep1, g1, ep3, g3, s3, ep4, g4, s4, or_01, or_02, or_12])
        all_goals try (exfalso; omega)
        all_goals first
          | (refine back_i (j + 1, es) ⟨by simp only; omega, hes, erow_step0 heb ?_⟩ (by simp only; omega) (Ent.to [0,1,2,3,4,5] false (by simp) (by simp) rfl (by simp only [lPA, lPD, novO, setAll, seval, implies_true, pa_rowsTo, List.map_set, accC, at', pa_trues] <;> (try simp) <;> (try omega)) (by simp only [lPA, lPD, novO, setAll, seval, implies_true, pa_rowsTo, List.map_set, accC, at', pa_trues] <;> (try simp) <;> (try omega)))
             simp only [ebit, PlainG, PlainE, Anti, AntiE, at'] at *
             clear ep1 g1 ep3 g3 s3 ep4 g4 s4 h47r h47w ei ej ep0 st0 heb
             grind)
          | (refine back_i (j + 1, es.set j 1) ⟨by simp only; omega, by simpa using hes, erow_step hes hjn heb ?_⟩ (by simp only; omega) (Ent.to [0,1,2,3,4,5] false (by simp) (by simp) rfl (by simp only [lPA, lPD, novO, setAll, seval, implies_true, pa_rowsTo, List.map_set, accC, at', pa_trues] <;> (try simp) <;> (try omega)) (by simp only [lPA, lPD, novO, setAll, seval, implies_true, pa_rowsTo, List.map_set, accC, at', pa_trues] <;> (try simp) <;> (try omega)))
             simp only [ebit, PlainG, PlainE, Anti, AntiE, at'] at *
             clear ep1 g1 ep3 g3 s3 ep4 g4 s4 h47r h47w ei ej ep0 st0 heb
             grind)
          | (refine back_i (j + 1, es.set j 2) ⟨by simp only; omega, by simpa using hes, erow_step hes hjn heb ?_⟩ (by simp only; omega) (Ent.to [0,1,2,3,4,5] false (by simp) (by simp) rfl (by simp only [lPA, lPD, novO, setAll, seval, implies_true, pa_rowsTo, List.map_set, accC, at', pa_trues] <;> (try simp) <;> (try omega)) (by simp only [lPA, lPD, novO, setAll, seval, implies_true, pa_rowsTo, List.map_set, accC, at', pa_trues] <;> (try simp) <;> (try omega)))
             simp only [ebit, PlainG, PlainE, Anti, AntiE, at'] at *
             clear ep1 g1 ep3 g3 s3 ep4 g4 s4 h47r h47w ei ej ep0 st0 heb
             grind)
          | (refine back_i (j + 1, es.set j 3) ⟨by simp only; omega, by simpa using hes, erow_step hes hjn heb ?_⟩ (by simp only; omega) (Ent.to [0,1,2,3,4,5] false (by simp) (by simp) rfl (by simp only [lPA, lPD, novO, setAll, seval, implies_true, pa_rowsTo, List.map_set, List.set_set, accC, at', pa_trues] <;> (try simp) <;> (try omega)) (by simp only [lPA, lPD, novO, setAll, seval, implies_true, pa_rowsTo, List.map_set, List.set_set, accC, at', pa_trues] <;> (try simp) <;> (try omega)))
             simp only [ebit, PlainG, PlainE, Anti, AntiE, at'] at *
             clear ep1 g1 ep3 g3 s3 ep4 g4 s4 h47r h47w ei ej ep0 st0 heb
             grind)
      · repeat' (first
          | (with_reducible first | apply cond_d | apply cond_nd | apply cond_i | apply guard_d | apply guard_nd | apply guard_df | apply guard_ndf | apply guard_i | apply ag_d | apply ag_nd | apply ag_df | apply ag_ndf | apply ag_i) <;> intro _
          | with_reducible first | refine LenR_i fun _ => ?_ | refine And.intro (by omega) ?_ | refine and_assoc.2 ?_ | apply sp_cond | apply sp_guard | apply sp_ag | apply sp_call | apply sp_acall | apply sp_loop | apply sp_any | apply sp_frz | apply sp_len | apply sp_idx | apply sp_keep | apply sp_back
          | with_reducible refine frz0_i ?_
          | simp (maxSteps := 1000000) (disch := omega) only [lAL, lDF, tupA, eqA, isNil, slcNil, ptrCells, ptrAdd, cellsO, intA, boolA, readsV, readsP, isCall, wrote, srcOf, isNilSlice, Value.oneCell', seval, implies_true, forall_eq, ne_eq, wrap_i64, LenR_ok, List.length_map, IdxR_ints])
        · exfalso; omega
        · have hjn : j = h.length := by omega
          subst hjn
          have he := erow_done hes heb
          have hv : ∀ {H l n}, vwS none (some (.arr 3 1 (es.map (AV.int .i64)))) H l n 1 h.length = rowA h i := by
            intro H l n
            rw [vwS_arr (by simp [hes]), vw_ints, he]; rfl
          refine back_i (i + 1) (by omega) (by omega) (Ent.to [0, 1] true (by simp) (by simp) rfl (by simp only [lPA, lPD, novO, setAll, seval, implies_true] <;> (try simp)) ?_)
          simp only [lPA, lPD, novO, setAll, seval, implies_true, List.map_set, pa_rowsTo, hv, rowsTo_set hin]
    · exfalso; omega
  · have : i = h.length := by omega
    subst this
    repeat' (first
      | (with_reducible first | apply cond_d | apply cond_nd | apply cond_i | apply guard_d | apply guard_nd | apply guard_df | apply guard_ndf | apply guard_i | apply ag_d | apply ag_nd | apply ag_df | apply ag_ndf | apply ag_i) <;> intro _
      | with_reducible first | refine LenR_i fun _ => ?_ | refine And.intro (by omega) ?_ | refine and_assoc.2 ?_ | apply sp_cond | apply sp_guard | apply sp_ag | apply sp_call | apply sp_acall | apply sp_loop | apply sp_any | apply sp_frz | apply sp_len | apply sp_idx | apply sp_keep | apply sp_back
      | with_reducible refine frz0_i ?_
      | simp (maxSteps := 1000000) (disch := omega) only [lAL, lDF, tupA, eqA, isNil, slcNil, ptrCells, ptrAdd, cellsO, intA, boolA, readsV, readsP, isCall, wrote, srcOf, isNilSlice, Value.oneCell', seval, implies_true, forall_eq, ne_eq, wrap_i64, LenR_ok, List.length_map, IdxR_ints])
    · exfalso; omega
    · refine keep_i [] true (by simp) (by simp) rfl ?_
      have hv : ∀ {H l n}, vwS none (some (.arr 33 1 (rowsTo h h.length))) H l n 1 h.length = .view 1 ((List.range h.length).map (rowA h)) := by
        intro H l n
        rw [vwS_arr (by simp [rowsTo_length]), vw_rowsTo, rowsTo_all]
      simp only [lPA, lPD, novO, setAll, seval, implies_true, paR_lent, hv, hck, if_true, graphA]
end Go.Proofs.Try
