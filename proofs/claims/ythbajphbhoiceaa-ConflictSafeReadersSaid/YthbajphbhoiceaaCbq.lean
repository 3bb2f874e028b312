/-
  A part of the proof: see the text of the law.
-/
import Derived.Test.YthbajphbhoiceaaCbo
set_option linter.unusedSimpArgs false
set_option linter.unusedVariables false
namespace Go.Al
theorem ACalls.nil_arg {P : Program} {f : FuncId} {sz : Nat} {xs : List AV} {H : List AObj} {Q : AV → List AObj → Prop} (h : ACalls P f (.view sz [] :: xs) H Q) : ACalls P f (.raw (.slice none 0 0) :: xs) H Q :=
  ⟨h.1, fun γ σ w vs hi hv => by
    obtain ⟨v, vs', rfl, h1, h2⟩ := hv
    exact h.2 γ σ w _ hi ⟨v, vs', rfl, weak_nil γ σ v h1, h2⟩⟩
end Go.Al
namespace Go.Proofs.Try
open Go.Al
set_option linter.unusedVariables false
set_option linter.unusedSimpArgs false
open Classical
set_option maxHeartbeats 8000000

/-- The transaction that a script begins. -/
noncomputable def nextT (h : List Acc) (mode least : Int) (t : TryT) : Acc :=
  { begS h t with mode := if mode < 3 then mode else (begS h t).mode, snap := max (begS h t).snap least }
/-- One step of a script: the transaction begins, and commits if it may. -/
noncomputable def comS (h : List Acc) (n : Nat) : List Acc := if Adm h n then withS h n (stampS h n) else h
noncomputable def stepS (mode least : Int) (h : List Acc) (t : TryT) : List Acc := comS (h ++ [nextT h mode least t]) h.length
noncomputable def runS (mode least : Int) (h : List Acc) (l : List TryT) : List Acc := l.foldl (stepS mode least) h
/-- What a step needs. -/
structure StepOk (mode least : Int) (h : List Acc) (t : TryT) : Prop where
  check : checkS h = 0
  check' : checkS (h ++ [nextT h mode least t]) = 0
  stamp : stampS (h ++ [nextT h mode least t]) h.length ≤ 1073741824
theorem runS_snoc {mode least : Int} {h : List Acc} {l : List TryT} {k : Nat} (hk : k < l.length) : runS mode least h (l.take (k + 1)) = stepS mode least (runS mode least h (l.take k)) (l.getD k default) := by
  unfold runS
  rw [List.take_add_one, List.foldl_append, List.getElem?_eq_getElem hk]
  simp [hk]
theorem at_snoc {h : List Acc} {x : Acc} : at' (h ++ [x]) h.length = x := by simp [at']
theorem pa_trys {H : List AObj} {l : List Nat} {bor : Bool} {n : Nat} {xs : List TryT} : (xs.map tryA).map (pa H l bor (n + 1)) = xs.map tryA := map_same (fun x => by simp [tryA, tryC, pa_agg, pa_int]) xs
theorem IdxR_trys {P : Program} {m N : Nat} {xs : List TryT} {i d : Nat} {c : Kn} (hi : i < xs.length) : IdxR P m N (xs.map tryA) (i : Int) d c = rK P m N c d (.vp (tryC (xs.getD i default))) := by
  rw [IdxR_map (f := tryA) (xs := xs) (dflt := default) (cs := tryC) (fun _ => rfl) (by omega) (by omega), Int.toNat_natCast]
theorem arr_next {o : List Acc} {t : TryT} {mode least md : Int} (hmd : (nextT o mode least t).mode = md) : (o.map accA ++ [AV.agg [.int .i64 md, .int .i64 (if least > (begS o t).snap then least else (begS o t).snap), .bool (begS o t).done, .int .i64 (begS o t).stamp, .view 1 ((begS o t).reads.map (.int .i64)), .view 1 ((begS o t).writes.map (.int .i64))]]) = (o ++ [nextT o mode least t]).map accA := by
  have hmx : (nextT o mode least t).snap = (if least > (begS o t).snap then least else (begS o t).snap) := by simp only [nextT]; split <;> omega
  rw [List.map_append, List.map_singleton, accA_eq, hmd, hmx]
  rfl
theorem comS_yes {h : List Acc} {n : Nat} (ha : Adm h n) : comS h n = withS h n (stampS h n) := if_pos ha
theorem comS_no {h : List Acc} {n : Nat} (ha : ¬ Adm h n) : comS h n = h := if_neg ha
theorem comS_len {h : List Acc} {n : Nat} : (comS h n).length = h.length := by unfold comS; split <;> simp [withS_len]
theorem c39g (h : List Acc) (l : List TryT) (mode least : Int) (hl : ∀ t ∈ l, t.ok) (hok : ∀ k, k < l.length → StepOk mode least (runS mode least h (l.take k)) (l.getD k default)) (hlen : h.length ≤ 100)
    (Q : AV → List AObj → Prop) (hq : keepQ 0 Q (.tup [.slc 0 6 (runS mode least h l).length, .bool true]) [.arr 44 6 ((runS mode least h l).map accA)]) :
    ACalls E.P 39 [.view 6 (h.map accA), .view 4 (l.map tryA), .int .i64 mode, .int .i64 least] [] Q := by
  have hmax := maxLen_eq
  refine ok39.acalls hE hm (by simp) ?_
  unfold mc39
  repeat' (first
    | (with_reducible first | apply cond_d | apply cond_nd | apply cond_i | apply guard_d | apply guard_nd | apply guard_df | apply guard_ndf | apply guard_i | apply ag_d | apply ag_nd | apply ag_df | apply ag_ndf | apply ag_i) <;> intro _
    | with_reducible first | refine LenR_i fun _ => ?_ | refine And.intro (by omega) ?_ | refine and_assoc.2 ?_ | apply sp_cond | apply sp_guard | apply sp_ag | apply sp_call | apply sp_acall | apply sp_loop | apply sp_any | apply sp_frz | apply sp_len | apply sp_idx | apply sp_keep | apply sp_back
    | with_reducible refine frz0_i ?_
    | simp (maxSteps := 1000000) (disch := omega) only [lAL, lDF, tupA, eqA, isNil, slcNil, ptrCells, ptrAdd, cellsO, intA, boolA, readsV, readsP, isCall, wrote, srcOf, isNilSlice, Value.oneCell', seval, implies_true, forall_eq, ne_eq, wrap_i64, LenR_ok, List.length_map, IdxR_ints, List.length_map])
  refine loop_i (fun k : Nat => k ≤ l.length) (fun k => ⟨[(1, .view 4 (l.map tryA)), (2, .int .i64 mode), (3, .int .i64 least), (10, .slc 0 6 (runS mode least h (l.take k)).length), (11, .int .i64 k)], [.arr 44 6 ((runS mode least h (l.take k)).map accA)]⟩) (fun k => l.length - k) 0 (by omega) (Ent.to [1] false (by simp) (by simp) rfl (by simp only [lPA, lPD, novO, setAll, seval, implies_true, pa_accs, pa_trys, runS, List.foldl_nil] <;> (try simp) <;> (try omega)) (by simp only [lPA, lPD, novO, setAll, seval, implies_true, pa_accs, pa_trys, runS, List.foldl_nil] <;> (try simp) <;> (try omega))) ?_
  intro k hk
  by_cases hkn : k < l.length
  · have hs := hok k hkn
    have hr := runS_snoc (mode := mode) (least := least) (h := h) hkn
    have e1 : ∀ {m N d c}, IdxR E.P m N (l.map tryA) (k : Int) d c = rK E.P m N c d (.vp (tryC (l.getD k default))) := IdxR_trys hkn
    have ht : (l.getD k default).ok := hl _ (by rw [List.getD_eq_getElem?_getD, List.getElem?_eq_getElem hkn]; exact List.getElem_mem hkn)
    generalize runS mode least h (l.take k) = o at *
    generalize l.getD k default = t at *
    have hol := checkS_len hs.check
    repeat' (first
      | (with_reducible first | apply cond_d | apply cond_nd | apply cond_i | apply guard_d | apply guard_nd | apply guard_df | apply guard_ndf | apply guard_i | apply ag_d | apply ag_nd | apply ag_df | apply ag_ndf | apply ag_i) <;> intro _
      | with_reducible first | refine LenR_i fun _ => ?_ | refine And.intro (by omega) ?_ | refine and_assoc.2 ?_ | apply sp_cond | apply sp_guard | apply sp_ag | apply sp_call | apply sp_acall | apply sp_loop | apply sp_any | apply sp_frz | apply sp_len | apply sp_idx | apply sp_keep | apply sp_back
      | with_reducible refine frz0_i ?_
      | simp (maxSteps := 1000000) (disch := omega) only [lAL, lDF, tupA, eqA, isNil, slcNil, ptrCells, ptrAdd, cellsO, intA, boolA, readsV, readsP, isCall, wrote, srcOf, isNilSlice, Value.oneCell', seval, implies_true, forall_eq, ne_eq, wrap_i64, LenR_ok, List.length_map, IdxR_ints, e1, tryC])
    all_goals try (exfalso; omega)
    refine callN_i [0] false (by simp) (by simp) ?_
    simp only [lPA, lPD, novO, setAll, seval, implies_true, pa_accs]
    refine ⟨_, c41 o hs.check t ht, ?_⟩
    rintro _ _ ⟨rfl, rfl⟩
    simp only [lAL, lDF, tupA, eqA, isNil, slcNil, ptrCells, ptrAdd, cellsO, intA, boolA, readsV, readsP, isCall, wrote, srcOf, isNilSlice, Value.oneCell', seval, implies_true, forall_eq, ne_eq, lPA, lPD, novO, setAll, pa_accs, renL_accs, accA_eq]
    have hi : ((o.length + 1 : Nat) : Int) - 1 = (o.length : Int) := by omega
    have hnd : (at' (o ++ [nextT o mode least t]) o.length).done = false := by rw [at_snoc]; rfl
    have k40 := c40 (o ++ [nextT o mode least t]) o.length hs.check' (by simp) hnd hs.stamp
    have hla : (o ++ [nextT o mode least t]).length = o.length + 1 := by simp
    by_cases hm3 : mode < 3
    all_goals
      have hx := arr_next (o := o) (t := t) (mode := mode) (least := least) (md := if mode < 3 then mode else (begS o t).mode) rfl
      simp only [hm3, if_true, if_false] at hx
      repeat' (first
        | (with_reducible first | apply cond_d | apply cond_nd | apply cond_i | apply guard_d | apply guard_nd | apply guard_df | apply guard_ndf | apply guard_i | apply ag_d | apply ag_nd | apply ag_df | apply ag_ndf | apply ag_i) <;> intro _
        | with_reducible first | refine LenR_i fun _ => ?_ | refine And.intro (by omega) ?_ | refine and_assoc.2 ?_ | apply sp_cond | apply sp_guard | apply sp_ag | apply sp_call | apply sp_acall | apply sp_loop | apply sp_any | apply sp_frz | apply sp_len | apply sp_idx | apply sp_keep | apply sp_back
        | with_reducible refine frz0_i ?_
        | simp (maxSteps := 1000000) (disch := omega) only [lAL, lDF, tupA, eqA, isNil, slcNil, ptrCells, ptrAdd, cellsO, intA, boolA, readsV, readsP, isCall, wrote, srcOf, isNilSlice, Value.oneCell', seval, implies_true, forall_eq, ne_eq, wrap_i64, LenR_ok, List.length_map, IdxR_ints, List.length_map])
      all_goals try (exfalso; omega)
      simp only [hx, hi]
      simp only [stepS] at hr
      generalize nextT o mode least t = x at *
      refine callN_i [3] false (by simp) (by simp) ?_
      simp only [lPA, lPD, novO, setAll, seval, implies_true, pa_accs, ← hla]
      refine ⟨_, k40, ?_⟩
      rintro _ _ (⟨ha, rfl, rfl⟩ | ⟨ha, rfl, rfl⟩)
      all_goals
        simp only [lAL, lDF, tupA, eqA, isNil, slcNil, ptrCells, ptrAdd, cellsO, intA, boolA, readsV, readsP, isCall, wrote, srcOf, isNilSlice, Value.oneCell', seval, implies_true, forall_eq, ne_eq, lPA, lPD, novO, setAll, pa_accs, renL_accs]
        repeat' (first
          | (with_reducible first | apply cond_d | apply cond_nd | apply cond_i | apply guard_d | apply guard_nd | apply guard_df | apply guard_ndf | apply guard_i | apply ag_d | apply ag_nd | apply ag_df | apply ag_ndf | apply ag_i) <;> intro _
          | with_reducible first | refine LenR_i fun _ => ?_ | refine And.intro (by omega) ?_ | refine and_assoc.2 ?_ | apply sp_cond | apply sp_guard | apply sp_ag | apply sp_call | apply sp_acall | apply sp_loop | apply sp_any | apply sp_frz | apply sp_len | apply sp_idx | apply sp_keep | apply sp_back
          | with_reducible refine frz0_i ?_
          | simp (maxSteps := 1000000) (disch := omega) only [lAL, lDF, tupA, eqA, isNil, slcNil, ptrCells, ptrAdd, cellsO, intA, boolA, readsV, readsP, isCall, wrote, srcOf, isNilSlice, Value.oneCell', seval, implies_true, forall_eq, ne_eq, wrap_i64, LenR_ok, List.length_map, IdxR_ints])
      · rw [comS_yes ha] at hr
        refine back_i (k + 1) (by omega) (by omega) (Ent.to [4] false (by simp) (by simp) rfl (by simp only [lPA, lPD, novO, setAll, seval, implies_true, pa_accs, pa_trys, hr, withS_len] <;> simp) (by simp only [lPA, lPD, novO, setAll, seval, implies_true, pa_accs, hr]))
      · rw [comS_no ha] at hr
        refine back_i (k + 1) (by omega) (by omega) (Ent.to [3] false (by simp) (by simp) rfl (by simp only [lPA, lPD, novO, setAll, seval, implies_true, pa_accs, pa_trys, hr] <;> simp) (by simp only [lPA, lPD, novO, setAll, seval, implies_true, pa_accs, hr]))
  · have e : k = l.length := by omega
    subst e
    repeat' (first
      | (with_reducible first | apply cond_d | apply cond_nd | apply cond_i | apply guard_d | apply guard_nd | apply guard_df | apply guard_ndf | apply guard_i | apply ag_d | apply ag_nd | apply ag_df | apply ag_ndf | apply ag_i) <;> intro _
      | with_reducible first | refine LenR_i fun _ => ?_ | refine And.intro (by omega) ?_ | refine and_assoc.2 ?_ | apply sp_cond | apply sp_guard | apply sp_ag | apply sp_call | apply sp_acall | apply sp_loop | apply sp_any | apply sp_frz | apply sp_len | apply sp_idx | apply sp_keep | apply sp_back
      | with_reducible refine frz0_i ?_
      | simp (maxSteps := 1000000) (disch := omega) only [lAL, lDF, tupA, eqA, isNil, slcNil, ptrCells, ptrAdd, cellsO, intA, boolA, readsV, readsP, isCall, wrote, srcOf, isNilSlice, Value.oneCell', seval, implies_true, forall_eq, ne_eq, wrap_i64, LenR_ok, List.length_map, IdxR_ints, List.take_length])
    all_goals try (exfalso; omega)
    exact hq
/-- commits, its result for reading. -/
theorem c39v (h : List Acc) (l : List TryT) (mode least : Int) (hl : ∀ t ∈ l, t.ok) (hok : ∀ k, k < l.length → StepOk mode least (runS mode least h (l.take k)) (l.getD k default)) (hlen : h.length ≤ 100) :
    ACalls E.P 39 [.view 6 (h.map accA), .view 4 (l.map tryA), .int .i64 mode, .int .i64 least] [] (fun r H => r = .tup [.view 6 ((runS mode least h l).map accA), .bool true] ∧ H = []) := by
  refine c39g h l mode least hl hok hlen _ (keep_i [] true (by simp) (by simp) rfl ?_)
  generalize runS mode least h l = o
  have hv : ∀ {H q n}, vwS none (some (.arr 44 6 (o.map accA))) H q (n + 1) 6 o.length = .view 6 (o.map accA) := by
    intro H q n
    rw [vwS_arr (by simp), vw_accs]
  simp only [lPA, lPD, novO, setAll, seval, implies_true, paR_lent, hv]
/-- commits, its result for its caller alone. -/
theorem c39 (h : List Acc) (l : List TryT) (mode least : Int) (hl : ∀ t ∈ l, t.ok) (hok : ∀ k, k < l.length → StepOk mode least (runS mode least h (l.take k)) (l.getD k default)) (hlen : h.length ≤ 100) :
    ACalls E.P 39 [.view 6 (h.map accA), .view 4 (l.map tryA), .int .i64 mode, .int .i64 least] [] (fun r H => r = .tup [.slc 0 6 (runS mode least h l).length, .bool true] ∧ H = [.arr 44 6 ((runS mode least h l).map accA)]) := by
  refine c39g h l mode least hl hok hlen _ (keep_i [0] false (by simp) (by simp) rfl ?_)
  simp only [lPA, lPD, novO, setAll, seval, implies_true, pa_accs, paR_some]
end Go.Proofs.Try
