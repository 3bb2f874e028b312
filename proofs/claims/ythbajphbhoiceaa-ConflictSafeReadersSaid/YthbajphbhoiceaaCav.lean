/-
  A part of the proof: see the text of the law.
-/
import Derived.Test.YthbajphbhoiceaaCau
set_option linter.unusedSimpArgs false
set_option linter.unusedVariables false
namespace Go.Proofs.Try
open Go.Al
set_option linter.unusedVariables false
set_option linter.unusedSimpArgs false
open Classical

/-! ### versions -/
/-- May a transaction be what a snapshot sees of an item? -/
def Cand (h : List Acc) (x snap : Int) (i : Nat) : Prop := x ∈ (at' h i).writes ∧ (at' h i).writer = true ∧ (at' h i).stamp ≤ snap
/-- The writer whose version of an item a snapshot sees, of the first ones. -/
noncomputable def srcTo (h : List Acc) (x snap : Int) : Nat → Option Nat
  | 0 => none
  | m + 1 => match srcTo h x snap m with
    | none => if Cand h x snap m then some m else none
    | some b => if Cand h x snap m ∧ (at' h b).stamp < (at' h m).stamp then some m else some b
noncomputable def srcV (h : List Acc) (x snap : Int) : Option Nat := srcTo h x snap h.length
theorem srcTo_lt {h : List Acc} {x snap : Int} : ∀ {m b : Nat}, srcTo h x snap m = some b → b < m ∧ Cand h x snap b
  | 0, b, e => by cases e
  | m + 1, b, e => by
    simp only [srcTo] at e
    split at e
    · split at e
      · cases e; exact ⟨by omega, by assumption⟩
      · cases e
    · rename_i b' hb
      split at e
      · rename_i hc; cases e; exact ⟨by omega, hc.1⟩
      · cases e; have := srcTo_lt hb; exact ⟨by omega, this.2⟩
/-- The last of some transactions that writes an item. -/
noncomputable def lastW (h : List Acc) (l : List Nat) (x : Int) : Option Nat := l.foldl (fun b i => if x ∈ (at' h i).writes then some i else b) none
theorem lastW_snoc {h : List Acc} {l : List Nat} {x : Int} {i : Nat} : lastW h (l ++ [i]) x = if x ∈ (at' h i).writes then some i else lastW h l x := by
  simp [lastW]
theorem lastW_some {h : List Acc} {x : Int} : ∀ {l : List Nat} {b : Nat}, lastW h l x = some b → b ∈ l ∧ x ∈ (at' h b).writes := by
  intro l
  induction hl : l.length generalizing l with
  | zero => intro b e; rw [List.eq_nil_of_length_eq_zero hl] at e; cases e
  | succ n ih =>
    intro b e
    obtain ⟨l', i, rfl⟩ : ∃ l' i, l = l' ++ [i] := ⟨l.dropLast, l.getLast (by intro e; simp [e] at hl), (List.dropLast_concat_getLast _).symm⟩
    rw [lastW_snoc] at e
    split at e
    · cases e; exact ⟨by simp, by assumption⟩
    · have := ih (by simpa using hl) e
      exact ⟨by simp [this.1], this.2⟩
theorem lastW_none {h : List Acc} {x : Int} : ∀ {l : List Nat}, lastW h l x = none ↔ ∀ i ∈ l, x ∉ (at' h i).writes := by
  intro l
  induction hl : l.length generalizing l with
  | zero => rw [List.eq_nil_of_length_eq_zero hl]; simp [lastW]
  | succ n ih =>
    obtain ⟨l', i, rfl⟩ : ∃ l' i, l = l' ++ [i] := ⟨l.dropLast, l.getLast (by intro e; simp [e] at hl), (List.dropLast_concat_getLast _).symm⟩
    rw [lastW_snoc]
    have ih := ih (l := l') (by simpa using hl)
    constructor
    · intro e
      split at e
      · cases e
      · rename_i hn
        intro j hj
        rcases List.mem_append.1 hj with hj | hj
        · exact ih.1 e j hj
        · simp at hj; subst hj; exact hn
    · intro e
      rw [if_neg (e i (by simp)), ih]
      exact fun j hj => e j (by simp [hj])

theorem srcTo_none_of {h : List Acc} {x snap : Int} {m : Nat} (e : srcTo h x snap m = none) (c : ¬ Cand h x snap m) : srcTo h x snap (m + 1) = none := by simp only [srcTo, e, if_neg c]
theorem srcTo_some_of {h : List Acc} {x snap : Int} {m : Nat} (e : srcTo h x snap m = none) (c : Cand h x snap m) : srcTo h x snap (m + 1) = some m := by simp only [srcTo, e, if_pos c]
theorem srcTo_keep_of {h : List Acc} {x snap : Int} {m b : Nat} (e : srcTo h x snap m = some b) (c : ¬ (Cand h x snap m ∧ (at' h b).stamp < (at' h m).stamp)) : srcTo h x snap (m + 1) = some b := by simp only [srcTo, e, if_neg c]
theorem srcTo_new_of {h : List Acc} {x snap : Int} {m b : Nat} (e : srcTo h x snap m = some b) (c : Cand h x snap m ∧ (at' h b).stamp < (at' h m).stamp) : srcTo h x snap (m + 1) = some m := by simp only [srcTo, e, if_pos c]
set_option maxHeartbeats 8000000
theorem c68 (h : List Acc) (snap x : Int) : ACalls E.P 68 [.view 6 (h.map accA), .int .i64 snap, .int .i64 x] [] (fun r H => r = .int .i64 (nextV (srcV h x snap)) ∧ H = []) := by
  have hmax := maxLen_eq
  refine ok68.acalls hE hm (by simp) ?_
  unfold mc68
  repeat' (first
    | (with_reducible first | apply cond_d | apply cond_nd | apply cond_i | apply guard_d | apply guard_nd | apply guard_df | apply guard_ndf | apply guard_i | apply ag_d | apply ag_nd | apply ag_df | apply ag_ndf | apply ag_i) <;> intro _
    | with_reducible first | refine LenR_i fun _ => ?_ | refine And.intro (by omega) ?_ | refine and_assoc.2 ?_ | apply sp_cond | apply sp_guard | apply sp_ag | apply sp_call | apply sp_acall | apply sp_loop | apply sp_any | apply sp_frz | apply sp_len | apply sp_idx | apply sp_keep | apply sp_back
    | with_reducible refine frz0_i ?_
    | ((with_reducible refine keep0_i ?_); simp only [lPA, lPD, novO, setAll, seval, implies_true])
    | simp (maxSteps := 1000000) (disch := omega) only [lAL, lDF, tupA, eqA, isNil, slcNil, ptrCells, ptrAdd, cellsO, intA, boolA, readsV, readsP, isCall, wrote, srcOf, isNilSlice, Value.oneCell', seval, implies_true, forall_eq, ne_eq, wrap_i64, LenR_ok, List.length_map, IdxR_ints])
  refine loop_i (fun i : Nat => i ≤ h.length) (fun i => ⟨[(0, .view 6 (h.map accA)), (1, .int .i64 snap), (2, .int .i64 x), (7, .int .i64 (nextV (srcTo h x snap i))), (8, .int .i64 i)], []⟩) (fun i => h.length - i) 0 (by omega) (Ent.to [] false (by simp) (by simp) rfl (by simp only [lPA, lPD, novO, setAll, seval, implies_true, srcTo, nextV] <;> (try simp) <;> (try omega)) (by simp only [lPA, lPD, novO, setAll, seval, implies_true, srcTo, nextV] <;> (try simp) <;> (try omega))) ?_
  intro i hi
  by_cases hin : i < h.length
  · have e1 : ∀ {m N d k}, IdxR E.P m N (h.map accA) (i : Int) d k = rK E.P m N k d (.vp (accC (at' h i))) := IdxR_at hin
    have k1 := c81 (at' h i).writes x
    have k2 := c75 (at' h i)
    simp only [accA_eq] at k2
    cases hb : srcTo h x snap i with
    | none =>
      simp only [nextV]
      repeat' (first
        | (with_reducible first | apply cond_d | apply cond_nd | apply cond_i | apply guard_d | apply guard_nd | apply guard_df | apply guard_ndf | apply guard_i | apply ag_d | apply ag_nd | apply ag_df | apply ag_ndf | apply ag_i) <;> intro _
        | with_reducible first | refine LenR_i fun _ => ?_ | refine And.intro (by omega) ?_ | refine and_assoc.2 ?_ | apply sp_cond | apply sp_guard | apply sp_ag | apply sp_call | apply sp_acall | apply sp_loop | apply sp_any | apply sp_frz | apply sp_len | apply sp_idx | apply sp_keep | apply sp_back
        | with_reducible refine frz0_i ?_
        | ((with_reducible first | refine callN_i [] true (by simp) (by simp) ?_ | refine acallN_i true ?_); simp only [lPA, lPD, novO, setAll, seval, implies_true, e1, accC]; (first | (refine ⟨_, k1, ?_⟩; rintro _ _ ⟨rfl, rfl⟩) | (refine ⟨_, k2, ?_⟩; rintro _ _ ⟨rfl, rfl⟩)); simp only [lAL, lDF, tupA, eqA, isNil, slcNil, ptrCells, ptrAdd, cellsO, intA, boolA, readsV, readsP, isCall, wrote, srcOf, isNilSlice, Value.oneCell', seval, implies_true, forall_eq, ne_eq, lPA, lPD, novO, setAll, e1, accC])
        | ((with_reducible refine keep0_i ?_); simp only [lPA, lPD, novO, setAll, seval, implies_true])
        | simp (maxSteps := 1000000) (disch := omega) only [lAL, lDF, tupA, eqA, isNil, slcNil, ptrCells, ptrAdd, cellsO, intA, boolA, readsV, readsP, isCall, wrote, srcOf, isNilSlice, Value.oneCell', seval, implies_true, forall_eq, ne_eq, wrap_i64, LenR_ok, List.length_map, IdxR_ints, e1, accC])
      all_goals try (exfalso; omega)
      all_goals clear e1 k1 k2
      all_goals first
        | (refine back_i (i + 1) (by omega) (by omega) (Ent.to [] false (by simp) (by simp) rfl (by simp only [lPA, lPD, novO, setAll, seval, implies_true]; rw [srcTo_some_of hb ⟨by assumption, by simp_all, by omega⟩]; simp only [nextV]; simp) (by simp only [lPA, lPD, novO, setAll, seval, implies_true])))
        | (refine back_i (i + 1) (by omega) (by omega) (Ent.to [] false (by simp) (by simp) rfl (by simp only [lPA, lPD, novO, setAll, seval, implies_true]; rw [srcTo_none_of hb (by intro hc; obtain ⟨h1, h2, h3⟩ := hc; first | omega | simp_all)]; simp only [nextV]; simp) (by simp only [lPA, lPD, novO, setAll, seval, implies_true])))
    | some b =>
      have hbl := srcTo_lt hb
      have e2 : ∀ {m N d k}, IdxR E.P m N (h.map accA) (b : Int) d k = rK E.P m N k d (.vp (accC (at' h b))) := IdxR_at (by omega)
      simp only [nextV]
      repeat' (first
        | (with_reducible first | apply cond_d | apply cond_nd | apply cond_i | apply guard_d | apply guard_nd | apply guard_df | apply guard_ndf | apply guard_i | apply ag_d | apply ag_nd | apply ag_df | apply ag_ndf | apply ag_i) <;> intro _
        | with_reducible first | refine LenR_i fun _ => ?_ | refine And.intro (by omega) ?_ | refine and_assoc.2 ?_ | apply sp_cond | apply sp_guard | apply sp_ag | apply sp_call | apply sp_acall | apply sp_loop | apply sp_any | apply sp_frz | apply sp_len | apply sp_idx | apply sp_keep | apply sp_back
        | with_reducible refine frz0_i ?_
        | ((with_reducible first | refine callN_i [] true (by simp) (by simp) ?_ | refine acallN_i true ?_); simp only [lPA, lPD, novO, setAll, seval, implies_true, e1, e2, accC]; (first | (refine ⟨_, k1, ?_⟩; rintro _ _ ⟨rfl, rfl⟩) | (refine ⟨_, k2, ?_⟩; rintro _ _ ⟨rfl, rfl⟩)); simp only [lAL, lDF, tupA, eqA, isNil, slcNil, ptrCells, ptrAdd, cellsO, intA, boolA, readsV, readsP, isCall, wrote, srcOf, isNilSlice, Value.oneCell', seval, implies_true, forall_eq, ne_eq, lPA, lPD, novO, setAll, e1, e2, accC])
        | ((with_reducible refine keep0_i ?_); simp only [lPA, lPD, novO, setAll, seval, implies_true])
        | simp (maxSteps := 1000000) (disch := omega) only [lAL, lDF, tupA, eqA, isNil, slcNil, ptrCells, ptrAdd, cellsO, intA, boolA, readsV, readsP, isCall, wrote, srcOf, isNilSlice, Value.oneCell', seval, implies_true, forall_eq, ne_eq, wrap_i64, LenR_ok, List.length_map, IdxR_ints, e1, e2, accC])
      all_goals try (exfalso; omega)
      all_goals clear e1 e2 k1 k2
      all_goals first
        | (refine back_i (i + 1) (by omega) (by omega) (Ent.to [] false (by simp) (by simp) rfl (by simp only [lPA, lPD, novO, setAll, seval, implies_true]; rw [srcTo_new_of hb ⟨⟨by assumption, by simp_all, by omega⟩, by omega⟩]; simp only [nextV]; simp) (by simp only [lPA, lPD, novO, setAll, seval, implies_true])))
        | (refine back_i (i + 1) (by omega) (by omega) (Ent.to [] false (by simp) (by simp) rfl (by simp only [lPA, lPD, novO, setAll, seval, implies_true]; rw [srcTo_keep_of hb (by intro hc; obtain ⟨⟨h1, h2, h3⟩, h4⟩ := hc; first | omega | simp_all)]; simp only [nextV]; simp) (by simp only [lPA, lPD, novO, setAll, seval, implies_true])))
  · have : i = h.length := by omega
    subst this
    repeat' (first
      | (with_reducible first | apply cond_d | apply cond_nd | apply cond_i | apply guard_d | apply guard_nd | apply guard_df | apply guard_ndf | apply guard_i | apply ag_d | apply ag_nd | apply ag_df | apply ag_ndf | apply ag_i) <;> intro _
      | with_reducible first | refine LenR_i fun _ => ?_ | refine And.intro (by omega) ?_ | refine and_assoc.2 ?_ | apply sp_cond | apply sp_guard | apply sp_ag | apply sp_call | apply sp_acall | apply sp_loop | apply sp_any | apply sp_frz | apply sp_len | apply sp_idx | apply sp_keep | apply sp_back
      | with_reducible refine frz0_i ?_
      | ((with_reducible refine keep0_i ?_); simp only [lPA, lPD, novO, setAll, seval, implies_true])
      | simp (maxSteps := 1000000) (disch := omega) only [lAL, lDF, tupA, eqA, isNil, slcNil, ptrCells, ptrAdd, cellsO, intA, boolA, readsV, readsP, isCall, wrote, srcOf, isNilSlice, Value.oneCell', seval, implies_true, forall_eq, ne_eq, wrap_i64, LenR_ok, List.length_map, IdxR_ints])
    all_goals try (exfalso; omega)
    all_goals simp [srcV]
/-- The transactions of an order, read as numbers. -/
theorem c67 (h : List Acc) (ol : List Nat) (hol : ∀ i ∈ ol, i < h.length) (n : Nat) (hn : n ≤ ol.length) (hml : ol.length ≤ maxLen) (x : Int) : ACalls E.P 67 [.view 6 (h.map accA), .view 1 ((natL ol).map (.int .i64)), .int .i64 n, .int .i64 x] [] (fun r H => r = .int .i64 (nextV (lastW h (ol.take n) x)) ∧ H = []) := by
  have hmax := maxLen_eq
  refine ok67.acalls hE hm (by simp) ?_
  unfold mc67
  repeat' (first
    | (with_reducible first | apply cond_d | apply cond_nd | apply cond_i | apply guard_d | apply guard_nd | apply guard_df | apply guard_ndf | apply guard_i | apply ag_d | apply ag_nd | apply ag_df | apply ag_ndf | apply ag_i) <;> intro _
    | with_reducible first | refine LenR_i fun _ => ?_ | refine And.intro (by omega) ?_ | refine and_assoc.2 ?_ | apply sp_cond | apply sp_guard | apply sp_ag | apply sp_call | apply sp_acall | apply sp_loop | apply sp_any | apply sp_frz | apply sp_len | apply sp_idx | apply sp_keep | apply sp_back
    | with_reducible refine frz0_i ?_
    | ((with_reducible refine keep0_i ?_); simp only [lPA, lPD, novO, setAll, seval, implies_true])
    | simp (maxSteps := 1000000) (disch := omega) only [lAL, lDF, tupA, eqA, isNil, slcNil, ptrCells, ptrAdd, cellsO, intA, boolA, readsV, readsP, isCall, wrote, srcOf, isNilSlice, Value.oneCell', seval, implies_true, forall_eq, ne_eq, wrap_i64, LenR_ok, List.length_map, IdxR_ints])
  refine loop_i (fun i : Nat => i ≤ n) (fun i => ⟨[(0, .view 6 (h.map accA)), (1, .view 1 ((natL ol).map (.int .i64))), (2, .int .i64 n), (3, .int .i64 x), (9, .int .i64 (nextV (lastW h (ol.take i) x))), (10, .int .i64 i)], []⟩) (fun i => n - i) 0 (by omega) (Ent.to [] false (by simp) (by simp) rfl (by simp only [lPA, lPD, novO, setAll, seval, implies_true, lastW, nextV] <;> (try simp) <;> (try omega)) (by simp only [lPA, lPD, novO, setAll, seval, implies_true, lastW, nextV] <;> (try simp) <;> (try omega))) ?_
  intro i hi
  by_cases hin : i < n
  · have hio : i < ol.length := by omega
    have hb := hol _ (List.getElem_mem hio)
    have e1 : ∀ {m N d k}, IdxR E.P m N ((natL ol).map (.int .i64)) (i : Int) d k = rK E.P m N k d (.vp [.int .i64 ((ol[i]'hio : Nat) : Int)]) := by
      intros; rw [IdxR_nats hio]; simp [List.getElem?_eq_getElem hio]
    have e2 : ∀ {m N d k}, IdxR E.P m N (h.map accA) ((ol[i]'hio : Nat) : Int) d k = rK E.P m N k d (.vp (accC (at' h (ol[i]'hio)))) := IdxR_at hb
    have k1 := c81 (at' h (ol[i]'hio)).writes x
    have e3 : ol.take (i + 1) = ol.take i ++ [ol[i]'hio] := by rw [List.take_add_one]; simp [List.getElem?_eq_getElem hio]
    repeat' (first
      | (with_reducible first | apply cond_d | apply cond_nd | apply cond_i | apply guard_d | apply guard_nd | apply guard_df | apply guard_ndf | apply guard_i | apply ag_d | apply ag_nd | apply ag_df | apply ag_ndf | apply ag_i) <;> intro _
      | with_reducible first | refine LenR_i fun _ => ?_ | refine And.intro (by omega) ?_ | refine and_assoc.2 ?_ | apply sp_cond | apply sp_guard | apply sp_ag | apply sp_call | apply sp_acall | apply sp_loop | apply sp_any | apply sp_frz | apply sp_len | apply sp_idx | apply sp_keep | apply sp_back
      | with_reducible refine frz0_i ?_
      | ((with_reducible first | refine callN_i [] true (by simp) (by simp) ?_ | refine acallN_i true ?_); simp only [lPA, lPD, novO, setAll, seval, implies_true, e1, e2, accC]; (refine ⟨_, k1, ?_⟩; rintro _ _ ⟨rfl, rfl⟩); simp only [lAL, lDF, tupA, eqA, isNil, slcNil, ptrCells, ptrAdd, cellsO, intA, boolA, readsV, readsP, isCall, wrote, srcOf, isNilSlice, Value.oneCell', seval, implies_true, forall_eq, ne_eq, lPA, lPD, novO, setAll, e1, e2, accC])
      | ((with_reducible refine keep0_i ?_); simp only [lPA, lPD, novO, setAll, seval, implies_true])
      | simp (maxSteps := 1000000) (disch := omega) only [lAL, lDF, tupA, eqA, isNil, slcNil, ptrCells, ptrAdd, cellsO, intA, boolA, readsV, readsP, isCall, wrote, srcOf, isNilSlice, Value.oneCell', seval, implies_true, forall_eq, ne_eq, wrap_i64, LenR_ok, List.length_map, IdxR_ints, e1, e2, accC])
    all_goals try (exfalso; omega)
    all_goals clear e1 e2 k1
    all_goals first
      | (refine back_i (i + 1) (by omega) (by omega) (Ent.to [] false (by simp) (by simp) rfl (by simp only [lPA, lPD, novO, setAll, seval, implies_true]; rw [e3, lastW_snoc, if_pos (by assumption)]; simp only [nextV]; simp) (by simp only [lPA, lPD, novO, setAll, seval, implies_true])))
      | (refine back_i (i + 1) (by omega) (by omega) (Ent.to [] false (by simp) (by simp) rfl (by simp only [lPA, lPD, novO, setAll, seval, implies_true]; rw [e3, lastW_snoc, if_neg (by assumption)]; simp) (by simp only [lPA, lPD, novO, setAll, seval, implies_true])))
  · have : i = n := by omega
    subst this
    repeat' (first
      | (with_reducible first | apply cond_d | apply cond_nd | apply cond_i | apply guard_d | apply guard_nd | apply guard_df | apply guard_ndf | apply guard_i | apply ag_d | apply ag_nd | apply ag_df | apply ag_ndf | apply ag_i) <;> intro _
      | with_reducible first | refine LenR_i fun _ => ?_ | refine And.intro (by omega) ?_ | refine and_assoc.2 ?_ | apply sp_cond | apply sp_guard | apply sp_ag | apply sp_call | apply sp_acall | apply sp_loop | apply sp_any | apply sp_frz | apply sp_len | apply sp_idx | apply sp_keep | apply sp_back
      | with_reducible refine frz0_i ?_
      | ((with_reducible refine keep0_i ?_); simp only [lPA, lPD, novO, setAll, seval, implies_true])
      | simp (maxSteps := 1000000) (disch := omega) only [lAL, lDF, tupA, eqA, isNil, slcNil, ptrCells, ptrAdd, cellsO, intA, boolA, readsV, readsP, isCall, wrote, srcOf, isNilSlice, Value.oneCell', seval, implies_true, forall_eq, ne_eq, wrap_i64, LenR_ok, List.length_map, IdxR_ints])
    all_goals try (exfalso; omega)
    all_goals simp
end Go.Proofs.Try
