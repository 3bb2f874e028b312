/-
  A part of the proof: see the text of the law.
-/
import Derived.Test.YthbajphbhoiceaaCal
set_option linter.unusedSimpArgs false
set_option linter.unusedVariables false
namespace Go.Proofs.Try
open Go.Al
set_option linter.unusedVariables false
set_option linter.unusedSimpArgs false
open Classical

theorem and_anti (h : List Acc) (i j : Nat) : (IntKind.i64.wrap ((BitVec.ofInt IntKind.i64.bits (ebit h i j) &&& BitVec.ofInt IntKind.i64.bits 2).toNat : Nat) = 0) = ¬ Anti h i j :=
  propext ⟨fun e ha => (kind_anti h i j).2 ha e, fun hn => Classical.byContradiction fun e => hn ((kind_anti h i j).1 e)⟩

theorem ti30 : E.TI 30 = some ⟨.array 3 3, 3, 24, [.int .i64 0, .int .i64 0, .int .i64 0], true, true⟩ := rfl

set_option maxHeartbeats 8000000
theorem c82 (h : List Acc) (a b c : Nat) (ha : a < h.length) (hb : b < h.length) (hc : c < h.length) : ACalls E.P 82 [graphA h, .int .i64 a, .int .i64 b, .int .i64 c] [] (fun r H => r = .bool (decide (Dang h a b c)) ∧ H = []) := by
  have hmax := maxLen_eq
  have e1 : ∀ {m N d k}, IdxR E.P m N (h.map accA) (a : Int) d k = rK E.P m N k d (.vp (accC (at' h a))) := IdxR_at ha
  have e2 : ∀ {m N d k}, IdxR E.P m N (h.map accA) (b : Int) d k = rK E.P m N k d (.vp (accC (at' h b))) := IdxR_at hb
  have e3 : ∀ {m N d k}, IdxR E.P m N (h.map accA) (c : Int) d k = rK E.P m N k d (.vp (accC (at' h c))) := IdxR_at hc
  have r1 : ∀ {m N d k}, IdxR E.P m N ((List.range h.length).map (rowA h)) (a : Int) d k = rK E.P m N k d (.vp [rowA h a]) := IdxR_rows ha
  have r2 : ∀ {m N d k}, IdxR E.P m N ((List.range h.length).map (rowA h)) (b : Int) d k = rK E.P m N k d (.vp [rowA h b]) := IdxR_rows hb
  have g1 : ∀ {m N d k}, IdxR E.P m N ((erow h a).map (AV.int .i64)) (b : Int) d k = rK E.P m N k d (.vp [.int .i64 (ebit h a b)]) := IdxR_erow hb
  have g2 : ∀ {m N d k}, IdxR E.P m N ((erow h b).map (AV.int .i64)) (c : Int) d k = rK E.P m N k d (.vp [.int .i64 (ebit h b c)]) := IdxR_erow hc
  have k1 := c45 (at' h a)
  simp only [accA_eq] at k1
  refine ok82.acalls hE hm (by simp) ?_
  unfold mc82
  simp only [graphA]
  repeat' (first
    | (with_reducible first | apply cond_d | apply cond_nd | apply cond_i | apply guard_d | apply guard_nd | apply guard_df | apply guard_ndf | apply guard_i | apply ag_d | apply ag_nd | apply ag_df | apply ag_ndf | apply ag_i) <;> intro _
    | with_reducible first | refine LenR_i fun _ => ?_ | refine And.intro (by omega) ?_ | refine and_assoc.2 ?_ | apply sp_cond | apply sp_guard | apply sp_ag | apply sp_call | apply sp_acall | apply sp_loop | apply sp_any | apply sp_frz | apply sp_len | apply sp_idx | apply sp_keep | apply sp_back
    | with_reducible refine frz0_i ?_
    | with_reducible refine any_i [] ?_
    | ((with_reducible first | refine callN_i [] true (by simp) (by simp) ?_ | refine acallN_i true ?_); simp only [lPA, lPD, novO, setAll, seval, implies_true, e1, e2, e3, r1, r2, g1, g2, rowA, accC, and_anti]; (refine ⟨_, k1, ?_⟩; rintro _ _ ⟨rfl, rfl⟩); simp only [lAL, lDF, tupA, eqA, isNil, slcNil, ptrCells, ptrAdd, cellsO, intA, boolA, readsV, readsP, isCall, wrote, srcOf, isNilSlice, Value.oneCell', seval, implies_true, forall_eq, ne_eq, lPA, lPD, novO, setAll, e1, e2, e3, r1, r2, g1, g2, rowA, accC, and_anti])
    | ((with_reducible refine keep0_i ?_); simp only [lPA, lPD, novO, setAll, seval, implies_true])
    | simp (maxSteps := 1000000) (disch := omega) only [lAL, lDF, tupA, eqA, isNil, slcNil, ptrCells, ptrAdd, cellsO, intA, boolA, readsV, readsP, isCall, wrote, srcOf, isNilSlice, Value.oneCell', seval, implies_true, forall_eq, ne_eq, wrap_i64, LenR_ok, List.length_map, IdxR_ints, e1, e2, e3, r1, r2, g1, g2, rowA, accC, and_anti])
  all_goals refine congrArg AV.bool (Bool.eq_iff_iff.2 ?_)
  all_goals clear e1 e2 e3 k1 r1 r2 g1 g2
  all_goals simp only [decide_eq_true_eq, Bool.false_eq_true, Dang, Acc.writer, Anti, AntiE] at *
  all_goals grind

/-! ### the first triple -/
def LexLt (a' b' c' a b c : Nat) : Prop := a' < a ∨ (a' = a ∧ (b' < b ∨ (b' = b ∧ c' < c)))
def NoneB (p : Nat → Nat → Nat → Prop) (n a b c : Nat) : Prop := ∀ a' b' c', a' < n → b' < n → c' < n → LexLt a' b' c' a b c → ¬ p a' b' c'
def FirstT (p : Nat → Nat → Nat → Prop) (n : Nat) : Option (Nat × Nat × Nat) → Prop
  | none => ∀ a b c, a < n → b < n → c < n → ¬ p a b c
  | some (a, b, c) => a < n ∧ b < n ∧ c < n ∧ p a b c ∧ NoneB p n a b c
theorem FirstT.uniq {p : Nat → Nat → Nat → Prop} {n : Nat} : ∀ {t t' : Option (Nat × Nat × Nat)}, FirstT p n t → FirstT p n t' → t = t'
  | none, none, _, _ => rfl
  | none, some (a, b, c), h, ⟨h1, h2, h3, h4, _⟩ => absurd h4 (h a b c h1 h2 h3)
  | some (a, b, c), none, ⟨h1, h2, h3, h4, _⟩, h => absurd h4 (h a b c h1 h2 h3)
  | some (a, b, c), some (a', b', c'), ⟨h1, h2, h3, h4, h5⟩, ⟨k1, k2, k3, k4, k5⟩ => by
    by_cases hlt : LexLt a b c a' b' c'
    · exact absurd h4 (k5 a b c h1 h2 h3 hlt)
    · by_cases hgt : LexLt a' b' c' a b c
      · exact absurd k4 (h5 a' b' c' k1 k2 k3 hgt)
      · unfold LexLt at hlt hgt
        have : a = a' ∧ b = b' ∧ c = c' := by omega
        obtain ⟨rfl, rfl, rfl⟩ := this
        rfl
theorem NoneB.zero {p : Nat → Nat → Nat → Prop} {n : Nat} : NoneB p n 0 0 0 := fun a b c _ _ _ h => by unfold LexLt at h; omega
theorem NoneB.next {p : Nat → Nat → Nat → Prop} {n a b c : Nat} (h : NoneB p n a b c) (hn : ¬ p a b c) : NoneB p n a b (c + 1) := fun a' b' c' h1 h2 h3 h4 => by
  by_cases h5 : LexLt a' b' c' a b c
  · exact h a' b' c' h1 h2 h3 h5
  · unfold LexLt at h4 h5
    have : a' = a ∧ b' = b ∧ c' = c := by omega
    obtain ⟨rfl, rfl, rfl⟩ := this
    exact hn
theorem NoneB.row {p : Nat → Nat → Nat → Prop} {n a b : Nat} (h : NoneB p n a b n) : NoneB p n a (b + 1) 0 := fun a' b' c' h1 h2 h3 h4 => h a' b' c' h1 h2 h3 (by unfold LexLt at *; omega)
theorem NoneB.plane {p : Nat → Nat → Nat → Prop} {n a : Nat} (h : NoneB p n a n 0) : NoneB p n (a + 1) 0 0 := fun a' b' c' h1 h2 h3 h4 => h a' b' c' h1 h2 h3 (by unfold LexLt at *; omega)
theorem NoneB.all {p : Nat → Nat → Nat → Prop} {n : Nat} (h : NoneB p n n 0 0) : FirstT p n none := fun a b c h1 h2 h3 => h a b c h1 h2 h3 (.inl h1)

/-- A triple, and whether there is one. -/
def tripA : Option (Nat × Nat × Nat) → AV
  | none => .tup [.agg [.int .i64 0, .int .i64 0, .int .i64 0], .bool false]
  | some (a, b, c) => .tup [.agg [.int .i64 a, .int .i64 b, .int .i64 c], .bool true]

theorem c55 (a b c : Nat) : ACalls E.P 55 [.int .i64 a, .int .i64 b, .int .i64 c] [] (fun r H => r = .bool true ∧ H = []) := by
  refine ok55.acalls hE hm (by simp) ?_
  unfold mc55
  repeat' (first
    | (with_reducible first | apply cond_d | apply cond_nd | apply cond_i | apply guard_d | apply guard_nd | apply guard_df | apply guard_ndf | apply guard_i | apply ag_d | apply ag_nd | apply ag_df | apply ag_ndf | apply ag_i) <;> intro _
    | with_reducible first | refine LenR_i fun _ => ?_ | refine And.intro (by omega) ?_ | refine and_assoc.2 ?_ | apply sp_cond | apply sp_guard | apply sp_ag | apply sp_call | apply sp_acall | apply sp_loop | apply sp_any | apply sp_frz | apply sp_len | apply sp_idx | apply sp_keep | apply sp_back
    | with_reducible refine frz0_i ?_
    | ((with_reducible refine keep0_i ?_); simp only [lPA, lPD, novO, setAll, seval, implies_true])
    | simp (maxSteps := 1000000) (disch := omega) only [lAL, lDF, tupA, eqA, isNil, slcNil, ptrCells, ptrAdd, cellsO, intA, boolA, readsV, readsP, isCall, wrote, srcOf, isNilSlice, Value.oneCell', seval, implies_true, forall_eq, ne_eq, wrap_i64, LenR_ok, List.length_map, IdxR_ints])

/-- A function value that accepts triples. -/
structure Pred3 (g : FuncId) (first caps : List AV) (p : Nat → Nat → Nat → Prop) : Prop where
  calls : ∀ a b c, ACalls E.P g (first ++ [.int .i64 a, .int .i64 b, .int .i64 c] ++ caps) [] (fun r H => r = .bool (decide (p a b c)) ∧ H = [])
  first : ∀ H l bor n, first.map (pa H l bor n) = first
  caps : ∀ H l bor n, caps.map (pa H l bor n) = caps

theorem c54 (h : List Acc) (hn : h.length ≤ 100) (g : FuncId) (first caps : List AV) (p : Nat → Nat → Nat → Prop) (hp : Pred3 g first caps p) :
    ACalls E.P 54 [graphA h, .fn (.func g) first caps] [] (fun r H => (∃ t, FirstT (fun a b c => Dang h a b c ∧ p a b c) h.length t ∧ r = tripA t) ∧ H = []) := by
  have hmax := maxLen_eq
  have hpf := hp.first
  have hpc := hp.caps
  refine ok54.acalls hE hm (by simp) ?_
  unfold mc54
  simp only [graphA]
  repeat' (first
    | (with_reducible first | apply cond_d | apply cond_nd | apply cond_i | apply guard_d | apply guard_nd | apply guard_df | apply guard_ndf | apply guard_i | apply ag_d | apply ag_nd | apply ag_df | apply ag_ndf | apply ag_i) <;> intro _
    | with_reducible first | refine LenR_i fun _ => ?_ | refine And.intro (by omega) ?_ | refine and_assoc.2 ?_ | apply sp_cond | apply sp_guard | apply sp_ag | apply sp_call | apply sp_acall | apply sp_loop | apply sp_any | apply sp_frz | apply sp_len | apply sp_idx | apply sp_keep | apply sp_back
    | with_reducible refine frz0_i ?_
    | simp (maxSteps := 1000000) (disch := omega) only [lAL, lDF, tupA, eqA, isNil, slcNil, ptrCells, ptrAdd, cellsO, intA, boolA, readsV, readsP, isCall, wrote, srcOf, isNilSlice, Value.oneCell', seval, implies_true, forall_eq, ne_eq, wrap_i64, LenR_ok, List.length_map, IdxR_ints, ti30])
  refine loop_i (fun a : Nat => a ≤ h.length ∧ NoneB (fun a b c => Dang h a b c ∧ p a b c) h.length a 0 0) (fun a => ⟨[(0, graphA h), (1, .fn (.func g) first caps), (4, .op 0 0), (5, .bool false), (13, .int .i64 h.length), (14, .int .i64 a)], [.box [.int .i64 0, .int .i64 0, .int .i64 0]]⟩) (fun a => h.length - a) 0 ⟨by omega, .zero⟩ (Ent.to [0] false (by simp) (by simp) rfl (by simp only [lPA, lPD, novO, setAll, seval, implies_true, graphA, hpf, hpc] <;> (try simp) <;> (try omega)) (by simp only [lPA, lPD, novO, setAll, seval, implies_true, graphA, hpf, hpc] <;> (try simp) <;> (try omega))) ?_
  rintro a ⟨ha, hna⟩
  by_cases han : a < h.length
  · simp only [graphA]
    repeat' (first
      | (with_reducible first | apply cond_d | apply cond_nd | apply cond_i | apply guard_d | apply guard_nd | apply guard_df | apply guard_ndf | apply guard_i | apply ag_d | apply ag_nd | apply ag_df | apply ag_ndf | apply ag_i) <;> intro _
      | with_reducible first | refine LenR_i fun _ => ?_ | refine And.intro (by omega) ?_ | refine and_assoc.2 ?_ | apply sp_cond | apply sp_guard | apply sp_ag | apply sp_call | apply sp_acall | apply sp_loop | apply sp_any | apply sp_frz | apply sp_len | apply sp_idx | apply sp_keep | apply sp_back
      | with_reducible refine frz0_i ?_
      | simp (maxSteps := 1000000) (disch := omega) only [lAL, lDF, tupA, eqA, isNil, slcNil, ptrCells, ptrAdd, cellsO, intA, boolA, readsV, readsP, isCall, wrote, srcOf, isNilSlice, Value.oneCell', seval, implies_true, forall_eq, ne_eq, wrap_i64, LenR_ok, List.length_map, IdxR_ints, ti30])
    all_goals try (exfalso; omega)
    refine loop_i (fun b : Nat => b ≤ h.length ∧ NoneB (fun a b c => Dang h a b c ∧ p a b c) h.length a b 0) (fun b => ⟨[(0, graphA h), (1, .fn (.func g) first caps), (4, .op 0 0), (5, .bool false), (6, .int .i64 a), (13, .int .i64 h.length), (14, .int .i64 a), (21, .int .i64 h.length), (22, .int .i64 b)], [.box [.int .i64 0, .int .i64 0, .int .i64 0]]⟩) (fun b => h.length - b) 0 ⟨by omega, hna⟩ (Ent.to [0] false (by simp) (by simp) rfl (by simp only [lPA, lPD, novO, setAll, seval, implies_true, graphA, hpf, hpc] <;> (try simp) <;> (try omega)) (by simp only [lPA, lPD, novO, setAll, seval, implies_true, graphA, hpf, hpc] <;> (try simp) <;> (try omega))) ?_
    rintro b ⟨hb, hnb⟩
    by_cases hbn : b < h.length
    · simp only [graphA]
      repeat' (first
        | (with_reducible first | apply cond_d | apply cond_nd | apply cond_i | apply guard_d | apply guard_nd | apply guard_df | apply guard_ndf | apply guard_i | apply ag_d | apply ag_nd | apply ag_df | apply ag_ndf | apply ag_i) <;> intro _
        | with_reducible first | refine LenR_i fun _ => ?_ | refine And.intro (by omega) ?_ | refine and_assoc.2 ?_ | apply sp_cond | apply sp_guard | apply sp_ag | apply sp_call | apply sp_acall | apply sp_loop | apply sp_any | apply sp_frz | apply sp_len | apply sp_idx | apply sp_keep | apply sp_back
        | with_reducible refine frz0_i ?_
        | simp (maxSteps := 1000000) (disch := omega) only [lAL, lDF, tupA, eqA, isNil, slcNil, ptrCells, ptrAdd, cellsO, intA, boolA, readsV, readsP, isCall, wrote, srcOf, isNilSlice, Value.oneCell', seval, implies_true, forall_eq, ne_eq, wrap_i64, LenR_ok, List.length_map, IdxR_ints, ti30])
      all_goals try (exfalso; omega)
      refine loop_i (fun c : Nat => c ≤ h.length ∧ NoneB (fun a b c => Dang h a b c ∧ p a b c) h.length a b c) (fun c => ⟨[(0, graphA h), (1, .fn (.func g) first caps), (4, .op 0 0), (5, .bool false), (6, .int .i64 a), (7, .int .i64 b), (13, .int .i64 h.length), (14, .int .i64 a), (21, .int .i64 h.length), (22, .int .i64 b), (29, .int .i64 h.length), (30, .int .i64 c)], [.box [.int .i64 0, .int .i64 0, .int .i64 0]]⟩) (fun c => h.length - c) 0 ⟨by omega, hnb⟩ (Ent.to [0] false (by simp) (by simp) rfl (by simp only [lPA, lPD, novO, setAll, seval, implies_true, graphA, hpf, hpc] <;> (try simp) <;> (try omega)) (by simp only [lPA, lPD, novO, setAll, seval, implies_true, graphA, hpf, hpc] <;> (try simp) <;> (try omega))) ?_
      rintro c ⟨hc, hnc⟩
      by_cases hcn : c < h.length
      · have k1 := c82 h a b c han hbn hcn
        have k2 := hp.calls a b c
        simp only [graphA, List.append_assoc, List.cons_append, List.nil_append] at k1 k2 ⊢
        repeat' (first
          | (with_reducible first | apply cond_d | apply cond_nd | apply cond_i | apply guard_d | apply guard_nd | apply guard_df | apply guard_ndf | apply guard_i | apply ag_d | apply ag_nd | apply ag_df | apply ag_ndf | apply ag_i) <;> intro _
          | with_reducible first | refine LenR_i fun _ => ?_ | refine And.intro (by omega) ?_ | refine and_assoc.2 ?_ | apply sp_cond | apply sp_guard | apply sp_ag | apply sp_call | apply sp_acall | apply sp_loop | apply sp_any | apply sp_frz | apply sp_len | apply sp_idx | apply sp_keep | apply sp_back
          | with_reducible refine frz0_i ?_
          | ((with_reducible first | refine callN_i [] true (by simp) (by simp) ?_ | refine acallN_i true ?_); simp only [lPA, lPD, novO, setAll, seval, implies_true, ti30, hpf, hpc, List.map_append, List.append_assoc]; (first | (refine ⟨_, k1, ?_⟩; rintro _ _ ⟨rfl, rfl⟩) | (refine ⟨_, k2, ?_⟩; rintro _ _ ⟨rfl, rfl⟩)); simp only [lAL, lDF, tupA, eqA, isNil, slcNil, ptrCells, ptrAdd, cellsO, intA, boolA, readsV, readsP, isCall, wrote, srcOf, isNilSlice, Value.oneCell', seval, implies_true, forall_eq, ne_eq, lPA, lPD, novO, setAll, ti30, hpf, hpc, List.map_append, List.append_assoc])
          | simp (maxSteps := 1000000) (disch := omega) only [lAL, lDF, tupA, eqA, isNil, slcNil, ptrCells, ptrAdd, cellsO, intA, boolA, readsV, readsP, isCall, wrote, srcOf, isNilSlice, Value.oneCell', seval, implies_true, forall_eq, ne_eq, wrap_i64, LenR_ok, List.length_map, IdxR_ints, ti30, hpf, hpc, List.map_append, List.append_assoc])
        all_goals try (exfalso; omega)
        · rename_i h1 h2 h3
          refine keep0_i ?_
          simp only [lPA, lPD, novO, setAll, seval, implies_true]
          exact ⟨some (a, b, c), ⟨han, hbn, hcn, ⟨h2, h3⟩, hnc⟩, rfl⟩
        · rename_i h1 h2 h3
          exact back_i (c + 1) ⟨by omega, hnc.next fun h => h3 h.2⟩ (by omega) (Ent.to [0] false (by simp) (by simp) rfl (by simp only [lPA, lPD, novO, setAll, seval, implies_true, graphA, hpf, hpc] <;> (try simp) <;> (try omega)) (by simp only [lPA, lPD, novO, setAll, seval, implies_true, graphA, hpf, hpc] <;> (try simp) <;> (try omega)))
        · rename_i h1 h2
          exact back_i (c + 1) ⟨by omega, hnc.next fun h => h2 h.1⟩ (by omega) (Ent.to [0] false (by simp) (by simp) rfl (by simp only [lPA, lPD, novO, setAll, seval, implies_true, graphA, hpf, hpc] <;> (try simp) <;> (try omega)) (by simp only [lPA, lPD, novO, setAll, seval, implies_true, graphA, hpf, hpc] <;> (try simp) <;> (try omega)))
      · have : c = h.length := by omega
        subst this
        simp only [graphA]
        repeat' (first
          | (with_reducible first | apply cond_d | apply cond_nd | apply cond_i | apply guard_d | apply guard_nd | apply guard_df | apply guard_ndf | apply guard_i | apply ag_d | apply ag_nd | apply ag_df | apply ag_ndf | apply ag_i) <;> intro _
          | with_reducible first | refine LenR_i fun _ => ?_ | refine And.intro (by omega) ?_ | refine and_assoc.2 ?_ | apply sp_cond | apply sp_guard | apply sp_ag | apply sp_call | apply sp_acall | apply sp_loop | apply sp_any | apply sp_frz | apply sp_len | apply sp_idx | apply sp_keep | apply sp_back
          | with_reducible refine frz0_i ?_
          | simp (maxSteps := 1000000) (disch := omega) only [lAL, lDF, tupA, eqA, isNil, slcNil, ptrCells, ptrAdd, cellsO, intA, boolA, readsV, readsP, isCall, wrote, srcOf, isNilSlice, Value.oneCell', seval, implies_true, forall_eq, ne_eq, wrap_i64, LenR_ok, List.length_map, IdxR_ints, ti30])
        all_goals try (exfalso; omega)
        exact back_i (b + 1) ⟨by omega, hnc.row⟩ (by omega) (Ent.to [0] false (by simp) (by simp) rfl (by simp only [lPA, lPD, novO, setAll, seval, implies_true, graphA, hpf, hpc] <;> (try simp) <;> (try omega)) (by simp only [lPA, lPD, novO, setAll, seval, implies_true, graphA, hpf, hpc] <;> (try simp) <;> (try omega)))
    · have : b = h.length := by omega
      subst this
      simp only [graphA]
      repeat' (first
        | (with_reducible first | apply cond_d | apply cond_nd | apply cond_i | apply guard_d | apply guard_nd | apply guard_df | apply guard_ndf | apply guard_i | apply ag_d | apply ag_nd | apply ag_df | apply ag_ndf | apply ag_i) <;> intro _
        | with_reducible first | refine LenR_i fun _ => ?_ | refine And.intro (by omega) ?_ | refine and_assoc.2 ?_ | apply sp_cond | apply sp_guard | apply sp_ag | apply sp_call | apply sp_acall | apply sp_loop | apply sp_any | apply sp_frz | apply sp_len | apply sp_idx | apply sp_keep | apply sp_back
        | with_reducible refine frz0_i ?_
        | simp (maxSteps := 1000000) (disch := omega) only [lAL, lDF, tupA, eqA, isNil, slcNil, ptrCells, ptrAdd, cellsO, intA, boolA, readsV, readsP, isCall, wrote, srcOf, isNilSlice, Value.oneCell', seval, implies_true, forall_eq, ne_eq, wrap_i64, LenR_ok, List.length_map, IdxR_ints, ti30])
      all_goals try (exfalso; omega)
      exact back_i (a + 1) ⟨by omega, hnb.plane⟩ (by omega) (Ent.to [0] false (by simp) (by simp) rfl (by simp only [lPA, lPD, novO, setAll, seval, implies_true, graphA, hpf, hpc] <;> (try simp) <;> (try omega)) (by simp only [lPA, lPD, novO, setAll, seval, implies_true, graphA, hpf, hpc] <;> (try simp) <;> (try omega)))
  · have : a = h.length := by omega
    subst this
    simp only [graphA]
    repeat' (first
      | (with_reducible first | apply cond_d | apply cond_nd | apply cond_i | apply guard_d | apply guard_nd | apply guard_df | apply guard_ndf | apply guard_i | apply ag_d | apply ag_nd | apply ag_df | apply ag_ndf | apply ag_i) <;> intro _
      | with_reducible first | refine LenR_i fun _ => ?_ | refine And.intro (by omega) ?_ | refine and_assoc.2 ?_ | apply sp_cond | apply sp_guard | apply sp_ag | apply sp_call | apply sp_acall | apply sp_loop | apply sp_any | apply sp_frz | apply sp_len | apply sp_idx | apply sp_keep | apply sp_back
      | with_reducible refine frz0_i ?_
      | simp (maxSteps := 1000000) (disch := omega) only [lAL, lDF, tupA, eqA, isNil, slcNil, ptrCells, ptrAdd, cellsO, intA, boolA, readsV, readsP, isCall, wrote, srcOf, isNilSlice, Value.oneCell', seval, implies_true, forall_eq, ne_eq, wrap_i64, LenR_ok, List.length_map, IdxR_ints, ti30])
    all_goals try (exfalso; omega)
    refine keep0_i ?_
    simp only [lPA, lPD, novO, setAll, seval, implies_true]
    exact ⟨none, hna.all, rfl⟩

/-- The first dangerous structure of a valid history. -/
def FirstD (h : List Acc) (t : Option (Nat × Nat × Nat)) : Prop := if checkS h = 0 then FirstT (Dang h) h.length t else t = none
theorem FirstD.uniq {h : List Acc} {t t' : Option (Nat × Nat × Nat)} (h1 : FirstD h t) (h2 : FirstD h t') : t = t' := by
  unfold FirstD at h1 h2
  split at h1
  · rename_i hc; rw [if_pos hc] at h2; exact h1.uniq h2
  · rename_i hc; rw [if_neg hc] at h2; rw [h1, h2]

theorem c25 (h : List Acc) : ACalls E.P 25 [.view 6 (h.map accA)] [] (fun r H => (∃ t, FirstD h t ∧ r = tripA t) ∧ H = []) := by
  refine ok25.acalls hE hm (by simp) ?_
  unfold mc25
  have h50 := c50 h
  by_cases hck : checkS h = 0
  · have h54 := c54 h (checkS_len hck) 55 [] [] (fun _ _ _ => True) ⟨fun a b c => by simpa using c55 a b c, by simp, by simp⟩
    simp only [graphA, hck, if_true, and_true] at h50 h54
    repeat' (first
      | (with_reducible first | apply cond_d | apply cond_nd | apply cond_i | apply guard_d | apply guard_nd | apply guard_df | apply guard_ndf | apply guard_i | apply ag_d | apply ag_nd | apply ag_df | apply ag_ndf | apply ag_i) <;> intro _
      | with_reducible first | refine LenR_i fun _ => ?_ | refine And.intro (by omega) ?_ | refine and_assoc.2 ?_ | apply sp_cond | apply sp_guard | apply sp_ag | apply sp_call | apply sp_acall | apply sp_loop | apply sp_any | apply sp_frz | apply sp_len | apply sp_idx | apply sp_keep | apply sp_back
      | with_reducible refine frz0_i ?_
      | ((with_reducible first | refine callN_i [] false (by simp) (by simp) ?_ | refine acallN_i false ?_); simp only [lPA, lPD, novO, setAll, seval, implies_true, ti30]; (refine ⟨_, h50, ?_⟩; rintro _ _ ⟨rfl, rfl⟩); simp only [lAL, lDF, tupA, eqA, isNil, slcNil, ptrCells, ptrAdd, cellsO, intA, boolA, readsV, readsP, isCall, wrote, srcOf, isNilSlice, Value.oneCell', seval, implies_true, forall_eq, ne_eq, lPA, lPD, novO, setAll, ti30])
      | simp (maxSteps := 1000000) (disch := omega) only [lAL, lDF, tupA, eqA, isNil, slcNil, ptrCells, ptrAdd, cellsO, intA, boolA, readsV, readsP, isCall, wrote, srcOf, isNilSlice, Value.oneCell', seval, implies_true, forall_eq, ne_eq, wrap_i64, LenR_ok, List.length_map, IdxR_ints, ti30])
    refine callN_i [] true (by simp) (by simp) ?_
    simp only [lPA, lPD, novO, setAll, seval, implies_true]
    refine ⟨_, h54, ?_⟩
    rintro _ _ ⟨⟨t, ht, rfl⟩, rfl⟩
    rcases t with _ | ⟨a, b, c⟩
    · simp only [lPA, lPD, novO, setAll, seval, implies_true, lAL, lDF, tupA, eqA, isNil, slcNil, ptrCells, ptrAdd, cellsO, intA, boolA, readsV, readsP, isCall, wrote, srcOf, isNilSlice, Value.oneCell', seval, implies_true, forall_eq, ne_eq, tripA]
      repeat' (first
        | (with_reducible first | apply cond_d | apply cond_nd | apply cond_i | apply guard_d | apply guard_nd | apply guard_df | apply guard_ndf | apply guard_i | apply ag_d | apply ag_nd | apply ag_df | apply ag_ndf | apply ag_i) <;> intro _
        | with_reducible first | refine LenR_i fun _ => ?_ | refine And.intro (by omega) ?_ | refine and_assoc.2 ?_ | apply sp_cond | apply sp_guard | apply sp_ag | apply sp_call | apply sp_acall | apply sp_loop | apply sp_any | apply sp_frz | apply sp_len | apply sp_idx | apply sp_keep | apply sp_back
        | with_reducible refine frz0_i ?_
        | simp (maxSteps := 1000000) (disch := omega) only [lAL, lDF, tupA, eqA, isNil, slcNil, ptrCells, ptrAdd, cellsO, intA, boolA, readsV, readsP, isCall, wrote, srcOf, isNilSlice, Value.oneCell', seval, implies_true, forall_eq, ne_eq, wrap_i64, LenR_ok, List.length_map, IdxR_ints, ti30])
      refine keep0_i ?_
      simp only [lPA, lPD, novO, setAll, seval, implies_true]
      exact ⟨none, by simp only [FirstD, hck, if_true]; exact ht, rfl⟩
    · simp only [lPA, lPD, novO, setAll, seval, implies_true, lAL, lDF, tupA, eqA, isNil, slcNil, ptrCells, ptrAdd, cellsO, intA, boolA, readsV, readsP, isCall, wrote, srcOf, isNilSlice, Value.oneCell', seval, implies_true, forall_eq, ne_eq, tripA]
      repeat' (first
        | (with_reducible first | apply cond_d | apply cond_nd | apply cond_i | apply guard_d | apply guard_nd | apply guard_df | apply guard_ndf | apply guard_i | apply ag_d | apply ag_nd | apply ag_df | apply ag_ndf | apply ag_i) <;> intro _
        | with_reducible first | refine LenR_i fun _ => ?_ | refine And.intro (by omega) ?_ | refine and_assoc.2 ?_ | apply sp_cond | apply sp_guard | apply sp_ag | apply sp_call | apply sp_acall | apply sp_loop | apply sp_any | apply sp_frz | apply sp_len | apply sp_idx | apply sp_keep | apply sp_back
        | with_reducible refine frz0_i ?_
        | simp (maxSteps := 1000000) (disch := omega) only [lAL, lDF, tupA, eqA, isNil, slcNil, ptrCells, ptrAdd, cellsO, intA, boolA, readsV, readsP, isCall, wrote, srcOf, isNilSlice, Value.oneCell', seval, implies_true, forall_eq, ne_eq, wrap_i64, LenR_ok, List.length_map, IdxR_ints, ti30])
      refine keep0_i ?_
      simp only [lPA, lPD, novO, setAll, seval, implies_true]
      exact ⟨some (a, b, c), by simp only [FirstD, hck, if_true]; exact ht, rfl⟩
  · simp only [hck, if_false] at h50
    repeat' (first
      | (with_reducible first | apply cond_d | apply cond_nd | apply cond_i | apply guard_d | apply guard_nd | apply guard_df | apply guard_ndf | apply guard_i | apply ag_d | apply ag_nd | apply ag_df | apply ag_ndf | apply ag_i) <;> intro _
      | with_reducible first | refine LenR_i fun _ => ?_ | refine And.intro (by omega) ?_ | refine and_assoc.2 ?_ | apply sp_cond | apply sp_guard | apply sp_ag | apply sp_call | apply sp_acall | apply sp_loop | apply sp_any | apply sp_frz | apply sp_len | apply sp_idx | apply sp_keep | apply sp_back
      | with_reducible refine frz0_i ?_
      | ((with_reducible first | refine callN_i [] false (by simp) (by simp) ?_ | refine acallN_i false ?_); simp only [lPA, lPD, novO, setAll, seval, implies_true, ti30]; (refine ⟨_, h50, ?_⟩; rintro _ _ ⟨rfl, rfl⟩); simp only [lAL, lDF, tupA, eqA, isNil, slcNil, ptrCells, ptrAdd, cellsO, intA, boolA, readsV, readsP, isCall, wrote, srcOf, isNilSlice, Value.oneCell', seval, implies_true, forall_eq, ne_eq, lPA, lPD, novO, setAll, ti30])
      | simp (maxSteps := 1000000) (disch := omega) only [lAL, lDF, tupA, eqA, isNil, slcNil, ptrCells, ptrAdd, cellsO, intA, boolA, readsV, readsP, isCall, wrote, srcOf, isNilSlice, Value.oneCell', seval, implies_true, forall_eq, ne_eq, wrap_i64, LenR_ok, List.length_map, IdxR_ints, ti30])
    refine keep0_i ?_
    simp only [lPA, lPD, novO, setAll, seval, implies_true]
    exact ⟨none, by simp [FirstD, hck], rfl⟩

theorem c26 (h : List Acc) : ACalls E.P 26 [.view 6 (h.map accA)] [] (fun r H => (∃ t, FirstD h t ∧ r = tripA t) ∧ H = []) := by
  have hmax := maxLen_eq
  refine ok26.acalls hE hm (by simp) ?_
  unfold mc26
  repeat' (first
    | (with_reducible first | apply cond_d | apply cond_nd | apply cond_i | apply guard_d | apply guard_nd | apply guard_df | apply guard_ndf | apply guard_i | apply ag_d | apply ag_nd | apply ag_df | apply ag_ndf | apply ag_i) <;> intro _
    | with_reducible first | refine LenR_i fun _ => ?_ | refine And.intro (by omega) ?_ | refine and_assoc.2 ?_ | apply sp_cond | apply sp_guard | apply sp_ag | apply sp_call | apply sp_acall | apply sp_loop | apply sp_any | apply sp_frz | apply sp_len | apply sp_idx | apply sp_keep | apply sp_back
    | with_reducible refine frz0_i ?_
    | ((with_reducible first | refine callN_i [] true (by simp) (by simp) ?_ | refine acallN_i true ?_); simp only [lPA, lPD, novO, setAll, seval, implies_true, ti30]; (refine ⟨_, c19 _, ?_⟩; rintro _ _ ⟨rfl, rfl⟩); simp only [lAL, lDF, tupA, eqA, isNil, slcNil, ptrCells, ptrAdd, cellsO, intA, boolA, readsV, readsP, isCall, wrote, srcOf, isNilSlice, Value.oneCell', seval, implies_true, forall_eq, ne_eq, lPA, lPD, novO, setAll, ti30])
    | simp (maxSteps := 1000000) (disch := omega) only [lAL, lDF, tupA, eqA, isNil, slcNil, ptrCells, ptrAdd, cellsO, intA, boolA, readsV, readsP, isCall, wrote, srcOf, isNilSlice, Value.oneCell', seval, implies_true, forall_eq, ne_eq, wrap_i64, LenR_ok, List.length_map, IdxR_ints, ti30])
  · rename_i hck
    refine keep0_i ?_
    simp only [lPA, lPD, novO, setAll, seval, implies_true]
    exact ⟨none, by simp [FirstD, hck], rfl⟩
  rename_i hck
  have hck : checkS h = 0 := Classical.byContradiction fun hn => by simp_all
  have hn := checkS_len hck
  refine loop_i (fun a : Nat => a ≤ h.length ∧ NoneB (Dang h) h.length a 0 0) (fun a => ⟨[(0, .view 6 (h.map accA)), (2, .op 0 0), (3, .bool false), (4, .int .i64 a)], [.box [.int .i64 0, .int .i64 0, .int .i64 0]]⟩) (fun a => h.length - a) 0 ⟨by omega, .zero⟩ (Ent.to [0] false (by simp) (by simp) rfl (by simp only [lPA, lPD, novO, setAll, seval, implies_true] <;> (try simp) <;> (try omega)) (by simp only [lPA, lPD, novO, setAll, seval, implies_true] <;> (try simp) <;> (try omega))) ?_
  rintro a ⟨ha, hna⟩
  by_cases han : a < h.length
  · repeat' (first
      | (with_reducible first | apply cond_d | apply cond_nd | apply cond_i | apply guard_d | apply guard_nd | apply guard_df | apply guard_ndf | apply guard_i | apply ag_d | apply ag_nd | apply ag_df | apply ag_ndf | apply ag_i) <;> intro _
      | with_reducible first | refine LenR_i fun _ => ?_ | refine And.intro (by omega) ?_ | refine and_assoc.2 ?_ | apply sp_cond | apply sp_guard | apply sp_ag | apply sp_call | apply sp_acall | apply sp_loop | apply sp_any | apply sp_frz | apply sp_len | apply sp_idx | apply sp_keep | apply sp_back
      | with_reducible refine frz0_i ?_
      | simp (maxSteps := 1000000) (disch := omega) only [lAL, lDF, tupA, eqA, isNil, slcNil, ptrCells, ptrAdd, cellsO, intA, boolA, readsV, readsP, isCall, wrote, srcOf, isNilSlice, Value.oneCell', seval, implies_true, forall_eq, ne_eq, wrap_i64, LenR_ok, List.length_map, IdxR_ints, ti30])
    all_goals try (exfalso; omega)
    refine loop_i (fun b : Nat => b ≤ h.length ∧ NoneB (Dang h) h.length a b 0) (fun b => ⟨[(0, .view 6 (h.map accA)), (2, .op 0 0), (3, .bool false), (4, .int .i64 a), (5, .int .i64 b)], [.box [.int .i64 0, .int .i64 0, .int .i64 0]]⟩) (fun b => h.length - b) 0 ⟨by omega, hna⟩ (Ent.to [0] false (by simp) (by simp) rfl (by simp only [lPA, lPD, novO, setAll, seval, implies_true] <;> (try simp) <;> (try omega)) (by simp only [lPA, lPD, novO, setAll, seval, implies_true] <;> (try simp) <;> (try omega))) ?_
    rintro b ⟨hb, hnb⟩
    by_cases hbn : b < h.length
    · repeat' (first
        | (with_reducible first | apply cond_d | apply cond_nd | apply cond_i | apply guard_d | apply guard_nd | apply guard_df | apply guard_ndf | apply guard_i | apply ag_d | apply ag_nd | apply ag_df | apply ag_ndf | apply ag_i) <;> intro _
        | with_reducible first | refine LenR_i fun _ => ?_ | refine And.intro (by omega) ?_ | refine and_assoc.2 ?_ | apply sp_cond | apply sp_guard | apply sp_ag | apply sp_call | apply sp_acall | apply sp_loop | apply sp_any | apply sp_frz | apply sp_len | apply sp_idx | apply sp_keep | apply sp_back
        | with_reducible refine frz0_i ?_
        | simp (maxSteps := 1000000) (disch := omega) only [lAL, lDF, tupA, eqA, isNil, slcNil, ptrCells, ptrAdd, cellsO, intA, boolA, readsV, readsP, isCall, wrote, srcOf, isNilSlice, Value.oneCell', seval, implies_true, forall_eq, ne_eq, wrap_i64, LenR_ok, List.length_map, IdxR_ints, ti30])
      all_goals try (exfalso; omega)
      refine loop_i (fun c : Nat => c ≤ h.length ∧ NoneB (Dang h) h.length a b c) (fun c => ⟨[(0, .view 6 (h.map accA)), (2, .op 0 0), (3, .bool false), (4, .int .i64 a), (5, .int .i64 b), (6, .int .i64 c)], [.box [.int .i64 0, .int .i64 0, .int .i64 0]]⟩) (fun c => h.length - c) 0 ⟨by omega, hnb⟩ (Ent.to [0] false (by simp) (by simp) rfl (by simp only [lPA, lPD, novO, setAll, seval, implies_true] <;> (try simp) <;> (try omega)) (by simp only [lPA, lPD, novO, setAll, seval, implies_true] <;> (try simp) <;> (try omega))) ?_
      rintro c ⟨hc, hnc⟩
      by_cases hcn : c < h.length
      · have k1 := c56 h a b c han hbn hcn
        repeat' (first
          | (with_reducible first | apply cond_d | apply cond_nd | apply cond_i | apply guard_d | apply guard_nd | apply guard_df | apply guard_ndf | apply guard_i | apply ag_d | apply ag_nd | apply ag_df | apply ag_ndf | apply ag_i) <;> intro _
          | with_reducible first | refine LenR_i fun _ => ?_ | refine And.intro (by omega) ?_ | refine and_assoc.2 ?_ | apply sp_cond | apply sp_guard | apply sp_ag | apply sp_call | apply sp_acall | apply sp_loop | apply sp_any | apply sp_frz | apply sp_len | apply sp_idx | apply sp_keep | apply sp_back
          | with_reducible refine frz0_i ?_
          | ((with_reducible first | refine callN_i [] true (by simp) (by simp) ?_ | refine acallN_i true ?_); simp only [lPA, lPD, novO, setAll, seval, implies_true, ti30]; (refine ⟨_, k1, ?_⟩; rintro _ _ ⟨rfl, rfl⟩); simp only [lAL, lDF, tupA, eqA, isNil, slcNil, ptrCells, ptrAdd, cellsO, intA, boolA, readsV, readsP, isCall, wrote, srcOf, isNilSlice, Value.oneCell', seval, implies_true, forall_eq, ne_eq, lPA, lPD, novO, setAll, ti30])
          | simp (maxSteps := 1000000) (disch := omega) only [lAL, lDF, tupA, eqA, isNil, slcNil, ptrCells, ptrAdd, cellsO, intA, boolA, readsV, readsP, isCall, wrote, srcOf, isNilSlice, Value.oneCell', seval, implies_true, forall_eq, ne_eq, wrap_i64, LenR_ok, List.length_map, IdxR_ints, ti30])
        all_goals try (exfalso; omega)
        · rename_i h1 h2 h3
          refine keep0_i ?_
          simp only [lPA, lPD, novO, setAll, seval, implies_true]
          exact ⟨some (a, b, c), by simp only [FirstD, hck, if_true]; exact ⟨han, hbn, hcn, h3, hnc⟩, rfl⟩
        · rename_i h1 h2 h3
          exact back_i (c + 1) ⟨by omega, hnc.next h3⟩ (by omega) (Ent.to [0] false (by simp) (by simp) rfl (by simp only [lPA, lPD, novO, setAll, seval, implies_true] <;> (try simp) <;> (try omega)) (by simp only [lPA, lPD, novO, setAll, seval, implies_true] <;> (try simp) <;> (try omega)))
      · have : c = h.length := by omega
        subst this
        repeat' (first
          | (with_reducible first | apply cond_d | apply cond_nd | apply cond_i | apply guard_d | apply guard_nd | apply guard_df | apply guard_ndf | apply guard_i | apply ag_d | apply ag_nd | apply ag_df | apply ag_ndf | apply ag_i) <;> intro _
          | with_reducible first | refine LenR_i fun _ => ?_ | refine And.intro (by omega) ?_ | refine and_assoc.2 ?_ | apply sp_cond | apply sp_guard | apply sp_ag | apply sp_call | apply sp_acall | apply sp_loop | apply sp_any | apply sp_frz | apply sp_len | apply sp_idx | apply sp_keep | apply sp_back
          | with_reducible refine frz0_i ?_
          | simp (maxSteps := 1000000) (disch := omega) only [lAL, lDF, tupA, eqA, isNil, slcNil, ptrCells, ptrAdd, cellsO, intA, boolA, readsV, readsP, isCall, wrote, srcOf, isNilSlice, Value.oneCell', seval, implies_true, forall_eq, ne_eq, wrap_i64, LenR_ok, List.length_map, IdxR_ints, ti30])
        all_goals try (exfalso; omega)
        exact back_i (b + 1) ⟨by omega, hnc.row⟩ (by omega) (Ent.to [0] false (by simp) (by simp) rfl (by simp only [lPA, lPD, novO, setAll, seval, implies_true] <;> (try simp) <;> (try omega)) (by simp only [lPA, lPD, novO, setAll, seval, implies_true] <;> (try simp) <;> (try omega)))
    · have : b = h.length := by omega
      subst this
      repeat' (first
        | (with_reducible first | apply cond_d | apply cond_nd | apply cond_i | apply guard_d | apply guard_nd | apply guard_df | apply guard_ndf | apply guard_i | apply ag_d | apply ag_nd | apply ag_df | apply ag_ndf | apply ag_i) <;> intro _
        | with_reducible first | refine LenR_i fun _ => ?_ | refine And.intro (by omega) ?_ | refine and_assoc.2 ?_ | apply sp_cond | apply sp_guard | apply sp_ag | apply sp_call | apply sp_acall | apply sp_loop | apply sp_any | apply sp_frz | apply sp_len | apply sp_idx | apply sp_keep | apply sp_back
        | with_reducible refine frz0_i ?_
        | simp (maxSteps := 1000000) (disch := omega) only [lAL, lDF, tupA, eqA, isNil, slcNil, ptrCells, ptrAdd, cellsO, intA, boolA, readsV, readsP, isCall, wrote, srcOf, isNilSlice, Value.oneCell', seval, implies_true, forall_eq, ne_eq, wrap_i64, LenR_ok, List.length_map, IdxR_ints, ti30])
      all_goals try (exfalso; omega)
      exact back_i (a + 1) ⟨by omega, hnb.plane⟩ (by omega) (Ent.to [0] false (by simp) (by simp) rfl (by simp only [lPA, lPD, novO, setAll, seval, implies_true] <;> (try simp) <;> (try omega)) (by simp only [lPA, lPD, novO, setAll, seval, implies_true] <;> (try simp) <;> (try omega)))
  · have : a = h.length := by omega
    subst this
    repeat' (first
      | (with_reducible first | apply cond_d | apply cond_nd | apply cond_i | apply guard_d | apply guard_nd | apply guard_df | apply guard_ndf | apply guard_i | apply ag_d | apply ag_nd | apply ag_df | apply ag_ndf | apply ag_i) <;> intro _
      | with_reducible first | refine LenR_i fun _ => ?_ | refine And.intro (by omega) ?_ | refine and_assoc.2 ?_ | apply sp_cond | apply sp_guard | apply sp_ag | apply sp_call | apply sp_acall | apply sp_loop | apply sp_any | apply sp_frz | apply sp_len | apply sp_idx | apply sp_keep | apply sp_back
      | with_reducible refine frz0_i ?_
      | simp (maxSteps := 1000000) (disch := omega) only [lAL, lDF, tupA, eqA, isNil, slcNil, ptrCells, ptrAdd, cellsO, intA, boolA, readsV, readsP, isCall, wrote, srcOf, isNilSlice, Value.oneCell', seval, implies_true, forall_eq, ne_eq, wrap_i64, LenR_ok, List.length_map, IdxR_ints, ti30])
    all_goals try (exfalso; omega)
    refine keep0_i ?_
    simp only [lPA, lPD, novO, setAll, seval, implies_true]
    exact ⟨none, by simp only [FirstD, hck, if_true]; exact hna.all, rfl⟩
end Go.Proofs.Try
