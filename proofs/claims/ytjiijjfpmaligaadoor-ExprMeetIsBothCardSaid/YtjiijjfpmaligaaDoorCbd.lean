/-
  A part of the proof: see the text of the law.
-/
import Derived.Test.YtjiijjfpmaligaaDoorCan
set_option linter.unusedSimpArgs false
set_option linter.unusedVariables false
namespace Go.Proofs.Try
open Go.Al
set_option linter.unusedVariables false
set_option linter.unusedSimpArgs false
set_option maxRecDepth 20000
set_option maxHeartbeats 8000000

/-- A tree that has a kind: its columns are there, and its values are right. -/
theorem kind_ok (ks : List Int) : ∀ t : T, t.wf → (t.kind ks).2 = 0 → t.fits ks.length ∧ t.vals VL.Right
  | .col n, _, h => by
    simp only [T.kind, kN, if_pos] at h
    refine ⟨?_, trivial⟩
    split at h
    · simp at h
    · simp only [T.fits]; omega
  | .val v, _, h => by
    refine ⟨trivial, ?_⟩
    by_cases hv : v.Right
    · exact hv
    · simp [T.kind, kN, hv] at h
  | .un op a, hw, h => by
    rw [T.kind] at h
    split at h
    · rename_i h1; exact kind_ok ks a hw.2 h1
    · exact absurd h (by assumption)
  | .bin op a b, hw, h => by
    rw [T.kind] at h
    split at h
    · split at h
      · rename_i h1 h2
        obtain ⟨a1, a2⟩ := kind_ok ks a hw.2.1 h1
        obtain ⟨b1, b2⟩ := kind_ok ks b hw.2.2 h2
        exact ⟨⟨a1, b1⟩, a2, b2⟩
      · exact absurd h (by assumption)
    · exact absurd h (by assumption)
theorem chk_ok {ks : List Int} {e : EX} (h : (chk ks e).2 = 0) : e.formed = true ∧ (e.tr.kind ks).2 = 0 ∧ chk ks e = e.tr.kind ks := by
  unfold chk at h ⊢
  split at h
  · simp at h
  · rename_i h1
    split at h
    · rename_i h2; exact ⟨h2, h, by rw [if_neg h1, if_pos h2]⟩
    · simp at h

/-- A value of a column. -/
def inCol (ks : List Int) (r : List VL) (i : Nat) : Prop := (r.getD i default).Right ∧ ((r.getD i default).k = 0 ∨ (r.getD i default).k = ks.getD i 0)
instance (ks : List Int) (r : List VL) (i : Nat) : Decidable (inCol ks r i) := by unfold inCol; infer_instance
/-- A row of such columns. -/
def OfR (ks : List Int) (r : List VL) : Prop := ks.length ≤ 20 ∧ r.length = ks.length ∧ ∀ i, i < r.length → inCol ks r i
instance (ks : List Int) (r : List VL) : Decidable (OfR ks r) := by unfold OfR; infer_instance
theorem all_snoc {P : Nat → Prop} {i : Nat} (h : ∀ j, j < i → P j) (hi : P i) : ∀ j, j < i + 1 → P j := fun j hj => by
  by_cases hji : j = i
  · rw [hji]; exact hi
  · exact h j (by omega)
theorem c11 (ks : List Int) (r : List VL) : ACalls E.P 11 [ksV ks, rowV r] [] (fun q H => q = .bool (decide (OfR ks r)) ∧ H = []) := by
  have hmax := maxLen_eq
  have h21 : ∀ v : VL, ACalls E.P 21 [.agg v.cs] [] (fun r H => r = .bool (decide v.Right) ∧ H = []) := c21
  refine ok11.acalls hE hm (by simp) fun N hN => ?_
  unfold mc11
  simp only [lAL, lDF, tupA, eqA, isNil, slcNil, ptrCells, ptrAdd, cellsO, intA, boolA, readsV, readsP, isCall, wrote, srcOf, isNilSlice, Value.oneCell', seval, implies_true, forall_eq, ne_eq]
  repeat' (first
    | (with_reducible first | apply cond_d | apply cond_nd | apply cond_i | apply guard_d | apply guard_nd | apply guard_df | apply guard_ndf | apply guard_i | apply ag_d | apply ag_nd | apply ag_df | apply ag_ndf | apply ag_i) <;> intro _
    | with_reducible first | refine LenR_i fun _ => ?_ | refine And.intro (by omega) ?_ | refine and_assoc.2 ?_ | apply sp_cond | apply sp_guard | apply sp_ag | apply sp_call | apply sp_acall | apply sp_loop | apply sp_any | apply sp_frz | apply sp_len | apply sp_idx | apply sp_keep | apply sp_back
    | with_reducible refine frz0_i ?_
    | ((with_reducible refine keep0_i ?_); simp only [lPA, lPD, novO, setAll, seval, implies_true])
    | simp (maxSteps := 1000000) (disch := omega) only [lAL, lDF, tupA, eqA, isNil, slcNil, ptrCells, ptrAdd, cellsO, intA, boolA, readsV, readsP, isCall, wrote, srcOf, isNilSlice, Value.oneCell', seval, implies_true, forall_eq, ne_eq, wrap_i64, LenR_ok, List.length_map, IdxR_ints, List.length_map])
  · have : ¬ OfR ks r := fun h => by have := h.1; have := h.2.1; omega
    simp [this]
  · rename_i h2 h3 h4
    rw [List.length_map] at *
    have hlen : r.length = ks.length := by omega
    refine loop_i (fun i : Nat => i ≤ r.length ∧ ∀ j, j < i → inCol ks r j) (fun i => ⟨[(0, ksV ks), (1, rowV r), (5, .int .i64 i)], []⟩) (fun i => r.length - i) 0 ⟨by omega, fun j hj => by omega⟩ (Ent.to [] false (by simp) (by simp) rfl (by simp only [lPA, lPD, novO, setAll, seval, implies_true, List.length_map] <;> (try simp) <;> (try omega)) (by simp only [lPA, lPD, novO, setAll, seval, implies_true, List.length_map] <;> (try simp) <;> (try omega))) ?_
    rintro i ⟨hi, ho⟩
    repeat' (first
      | (with_reducible first | apply cond_d | apply cond_nd | apply cond_i | apply guard_d | apply guard_nd | apply guard_df | apply guard_ndf | apply guard_i | apply ag_d | apply ag_nd | apply ag_df | apply ag_ndf | apply ag_i) <;> intro _
      | with_reducible first | refine LenR_i fun _ => ?_ | refine And.intro (by omega) ?_ | refine and_assoc.2 ?_ | apply sp_cond | apply sp_guard | apply sp_ag | apply sp_call | apply sp_acall | apply sp_loop | apply sp_any | apply sp_frz | apply sp_len | apply sp_idx | apply sp_keep | apply sp_back
      | with_reducible refine frz0_i ?_
      | ((with_reducible first | refine callN_i [] false (by simp) (by simp) ?_ | refine acallN_i false ?_); simp only [lPA, lPD, novO, setAll, seval, implies_true, IdxR_vls, IdxR_ints, Int.toNat_natCast, List.length_map]; (refine ⟨_, h21 _, ?_⟩; rintro _ _ ⟨rfl, rfl⟩); simp only [lAL, lDF, tupA, eqA, isNil, slcNil, ptrCells, ptrAdd, cellsO, intA, boolA, readsV, readsP, isCall, wrote, srcOf, isNilSlice, Value.oneCell', seval, implies_true, forall_eq, ne_eq, lPA, lPD, novO, setAll, IdxR_vls, IdxR_ints, Int.toNat_natCast, List.length_map])
      | ((with_reducible refine keep0_i ?_); simp only [lPA, lPD, novO, setAll, seval, implies_true])
      | simp (maxSteps := 1000000) (disch := omega) only [lAL, lDF, tupA, eqA, isNil, slcNil, ptrCells, ptrAdd, cellsO, intA, boolA, readsV, readsP, isCall, wrote, srcOf, isNilSlice, Value.oneCell', seval, implies_true, forall_eq, ne_eq, wrap_i64, LenR_ok, List.length_map, IdxR_ints, IdxR_vls, IdxR_ints, Int.toNat_natCast, List.length_map])
    · rename_i g1 g2 g3 g4
      have : ¬ OfR ks r := fun h => by rcases (h.2.2 i (by omega)).2 with k | k <;> contradiction
      simp [this]
    · rename_i g1 g2 g3 g4
      exact back_i (i + 1) ⟨by omega, all_snoc ho ⟨g2, .inr g4⟩⟩ (by omega) (Ent.to [] false (by simp) (by simp) rfl (by simp only [lPA, lPD, novO, setAll, seval, implies_true] <;> (try simp) <;> (try omega)) (by simp only [lPA, lPD, novO, setAll, seval, implies_true] <;> (try simp) <;> (try omega)))
    · rename_i g1 g2 g3
      exact back_i (i + 1) ⟨by omega, all_snoc ho ⟨g2, .inl g3⟩⟩ (by omega) (Ent.to [] false (by simp) (by simp) rfl (by simp only [lPA, lPD, novO, setAll, seval, implies_true] <;> (try simp) <;> (try omega)) (by simp only [lPA, lPD, novO, setAll, seval, implies_true] <;> (try simp) <;> (try omega)))
    · rename_i g1 g2
      have : ¬ OfR ks r := fun h => g2 (h.2.2 i (by omega)).1
      simp [this]
    · rename_i g1
      have : OfR ks r := ⟨by omega, hlen, fun j hj => ho j (by omega)⟩
      simp [this]
  · have : ¬ OfR ks r := fun h => by have := h.1; have := h.2.1; omega
    simp [this]
end Go.Proofs.Try

namespace Go.Proofs.Try
open Go.Proofs.Tryd
open Go.Al
set_option maxRecDepth 100000
/-- alum/alumlaw36.ExprEvaluatesAsSpecified -/
def mc3 : MC :=
 (.seq (.ops [(none, (.e (.box 4 (.t 1)))),
 (none, (.v (.mov 6 (.c (.bool false)))))])
 (.seq (.ops [(none, (.v (.mov 19 (.t 0)))),
 (none, (.v (.mov 20 (.t 2)))),
 (none, (.e (.call (some 21) 11 [(.t 19), (.t 20)]))),
 (none, (.v (.mov 7 (.t 21))))])
 (.seq (.ops [(none, (.v (.mov 22 (.t 0)))),
 (none, (.v (.load 23 true 6 (.t 4)))),
 (none, (.e (.call (some 24) 12 [(.t 22), (.t 23)]))),
 (none, (.v (.mov 8 (.t 24))))])
 (.seq (.seq (.ops [(none, (.v (.mov 25 (.t 7)))),
 (none, (.v (.not 26 (.t 25)))),
 (none, (.v (.mov 27 (.t 26)))),
 ((some (27, false)), (.v (.mov 28 (.t 8)))),
 ((some (27, false)), (.v (.not 29 (.t 28)))),
 (none, (.v (.pick 30 (.t 27) (.c (.bool true)) (.t 29))))])
 (.cond 30
 (.seq (.ops [(none, (.e (.call (some 31) 13 []))),
 (none, (.v (.mov 6 (.t 31))))])
 .ret)
 .skip))
 (.seq (.ops [(none, (.v (.load 33 true 6 (.t 4)))),
 (none, (.v (.mov 34 (.t 2)))),
 (none, (.e (.call (some 35) 14 [(.t 33), (.t 34)]))),
 (none, (.v (.mov 32 (.t 35)))),
 (none, (.v (.ext 36 0 (.t 32)))),
 (none, (.v (.ext 37 1 (.t 32)))),
 (none, (.e (.alloc 9 [(.int .i64 0), (.int .i64 0), (.str ⟨#[]⟩)]))),
 (none, (.e (.store 3 true (.t 9) (.t 36)))),
 (none, (.v (.mov 10 (.t 37))))])
 (.seq (.ops [(none, (.v (.load 39 true 6 (.t 4)))),
 (none, (.v (.mov 40 (.t 2)))),
 (none, (.e (.call (some 41) 15 [(.t 39), (.t 40)]))),
 (none, (.v (.mov 38 (.t 41)))),
 (none, (.v (.ext 42 0 (.t 38)))),
 (none, (.v (.ext 43 1 (.t 38)))),
 (none, (.e (.alloc 11 [(.int .i64 0), (.int .i64 0), (.str ⟨#[]⟩)]))),
 (none, (.e (.store 3 true (.t 11) (.t 42)))),
 (none, (.v (.mov 12 (.t 43))))])
 (.seq (.seq (.ops [(none, (.v (.load 44 true 3 (.t 9)))),
 (none, (.v (.load 45 true 3 (.t 11)))),
 (none, (.v (.eq 46 true (.agg [(0, false, 1, .int), (1, false, 1, .int), (2, false, 1, .str)]) (.t 44) (.t 45)))),
 (none, (.v (.mov 47 (.t 46)))),
 ((some (47, false)), (.v (.mov 48 (.t 10)))),
 ((some (47, false)), (.v (.mov 49 (.t 12)))),
 ((some (47, false)), (.v (.bin 50 .neq false (.t 48) (.t 49)))),
 (none, (.v (.pick 51 (.t 47) (.c (.bool true)) (.t 50))))])
 (.cond 51
 (.seq (.ops [(none, (.v (.mov 6 (.c (.bool false)))))])
 .ret)
 .skip))
 (.seq (.ops [(none, (.v (.mov 53 (.t 0)))),
 (none, (.v (.load 54 true 6 (.t 4)))),
 (none, (.e (.call (some 55) 16 [(.t 53), (.t 54)]))),
 (none, (.v (.mov 52 (.t 55)))),
 (none, (.v (.ext 56 0 (.t 52)))),
 (none, (.v (.ext 57 1 (.t 52)))),
 (none, (.v (.mov 13 (.t 56)))),
 (none, (.v (.mov 14 (.t 57))))])
 (.seq (.seq (.ops [(none, (.v (.mov 58 (.t 13)))),
 (none, (.v (.bin 59 .eql false (.t 58) (.c (.int .i64 1))))),
 (none, (.v (.mov 60 (.t 59)))),
 ((some (60, false)), (.v (.mov 61 (.t 13)))),
 ((some (60, false)), (.v (.bin 62 .eql false (.t 61) (.c (.int .i64 2))))),
 (none, (.v (.pick 63 (.t 60) (.c (.bool true)) (.t 62))))])
 (.cond 63
 (.seq (.ops [(none, (.e (.call (some 64) 13 []))),
 (none, (.v (.mov 6 (.t 64))))])
 .ret)
 .skip))
 (.seq (.ops [(none, (.v (.load 66 true 6 (.t 4)))),
 (none, (.v (.mov 67 (.t 2)))),
 (none, (.e (.call (some 68) 17 [(.t 66), (.t 67)]))),
 (none, (.v (.mov 65 (.t 68)))),
 (none, (.v (.ext 69 0 (.t 65)))),
 (none, (.v (.ext 70 1 (.t 65)))),
 (none, (.v (.mov 15 (.t 69)))),
 (none, (.v (.mov 16 (.t 70))))])
 (.seq (.ops [(none, (.v (.load 72 true 6 (.t 4)))),
 (none, (.v (.mov 73 (.t 2)))),
 (none, (.e (.call (some 74) 18 [(.t 72), (.t 73)]))),
 (none, (.v (.mov 71 (.t 74)))),
 (none, (.v (.ext 75 0 (.t 71)))),
 (none, (.v (.ext 76 1 (.t 71)))),
 (none, (.v (.mov 17 (.t 75)))),
 (none, (.v (.mov 18 (.t 76))))])
 (.seq (.ops [(none, (.e (.call (some 77) 13 []))),
 (none, (.v (.mov 78 (.t 77)))),
 ((some (78, true)), (.v (.mov 79 (.t 15)))),
 ((some (78, true)), (.v (.mov 80 (.t 17)))),
 ((some (78, true)), (.v (.bin 81 .eql true (.t 79) (.t 80)))),
 (none, (.v (.pick 82 (.t 78) (.t 81) (.c (.bool false))))),
 (none, (.v (.mov 83 (.t 82)))),
 ((some (83, true)), (.v (.mov 84 (.t 16)))),
 ((some (83, true)), (.v (.mov 85 (.t 18)))),
 ((some (83, true)), (.v (.bin 86 .eql false (.t 84) (.t 85)))),
 (none, (.v (.pick 87 (.t 83) (.t 86) (.c (.bool false))))),
 (none, (.v (.mov 6 (.t 87))))])
 .ret))))))))))))
theorem ok3 : FnOk E 3 88 [.tmp 6] mc3 := .of func3 (by kernel_rfl) (by kernel_rfl) (by kernel_rfl) (by kernel_rfl) (by kernel_rfl)
end Go.Proofs.Try
namespace Go.Proofs.Try
open Go.Al
set_option linter.unusedVariables false
set_option linter.unusedSimpArgs false
set_option maxRecDepth 20000
set_option maxHeartbeats 8000000

abbrev Sane : Prop := ACalls E.P 13 [] [] (fun r H => r = .bool true ∧ H = [])
theorem ofR_right {ks : List Int} {r : List VL} (h : OfR ks r) : ∀ v ∈ r, v.Right := fun v hv => by
  obtain ⟨i, hi⟩ := List.getElem?_of_mem hv
  have hlt := (List.getElem?_eq_some_iff.1 hi).1
  have := (h.2.2 i hlt).1
  rwa [List.getD_eq_getElem?_getD, hi] at this

theorem c3 (h13 : Sane) (ks : List Int) (e : EX) (hI : e.okI) (r : List VL) : ACalls E.P 3 [ksV ks, e.av, rowV r] [] (fun r H => r = .bool true ∧ H = []) := by
  have h11 := c11 ks r
  have h12 := c12 ks e
  have h16 := c16 ks e hI
  simp only [av_fs] at h12 h16
  refine ok3.acalls hE hm (by simp) fun N hN => ?_
  unfold mc3
  simp only [lAL, lDF, tupA, eqA, isNil, slcNil, ptrCells, ptrAdd, cellsO, intA, boolA, readsV, readsP, isCall, wrote, srcOf, isNilSlice, Value.oneCell', seval, implies_true, forall_eq, ne_eq, av_fs]
  by_cases ho : OfR ks r
  · by_cases hc : (chk ks e).2 = 0
    · obtain ⟨hf, hk, hck⟩ := chk_ok hc
      obtain ⟨t1, t2, t3⟩ := ex_tr e hf
      obtain ⟨hfit, hvals⟩ := kind_ok ks e.tr t2 hk
      rw [← ho.2.1] at hfit
      have h14 := c14 (ofR_right ho) e.tr t2 hfit hvals
      have h15 := c15 (ofR_right ho) e.tr t2 hfit hvals
      have h17 := c17 (ofR_right ho) e.tr t2 hfit hvals
      have h18 := c18 (ofR_right ho) e.tr t2 hfit hvals
      rw [t1, av_fs] at h14 h15 h17 h18
      simp only [vl_av] at h14 h15
      repeat' (first
        | (with_reducible first | apply cond_d | apply cond_nd | apply cond_i | apply guard_d | apply guard_nd | apply guard_df | apply guard_ndf | apply guard_i | apply ag_d | apply ag_nd | apply ag_df | apply ag_ndf | apply ag_i) <;> intro _
        | with_reducible first | refine LenR_i fun _ => ?_ | refine And.intro (by omega) ?_ | refine and_assoc.2 ?_ | apply sp_cond | apply sp_guard | apply sp_ag | apply sp_call | apply sp_acall | apply sp_loop | apply sp_any | apply sp_frz | apply sp_len | apply sp_idx | apply sp_keep | apply sp_back
        | with_reducible refine frz0_i ?_
        | ((with_reducible first | refine callN_i [] true (by simp) (by simp) ?_ | refine acallN_i true ?_); simp only [lPA, lPD, novO, setAll, seval, implies_true, ho, hc, strA, flatEq]; (first | (refine ⟨_, h11, ?_⟩; rintro _ _ ⟨rfl, rfl⟩) | (refine ⟨_, h12, ?_⟩; rintro _ _ ⟨rfl, rfl⟩) | (refine ⟨_, h13, ?_⟩; rintro _ _ ⟨rfl, rfl⟩) | (refine ⟨_, h14, ?_⟩; rintro _ _ ⟨rfl, rfl⟩) | (refine ⟨_, h15, ?_⟩; rintro _ _ ⟨rfl, rfl⟩) | (refine ⟨_, h16, ?_⟩; rintro _ _ ⟨rfl, rfl⟩) | (refine ⟨_, h17, ?_⟩; rintro _ _ ⟨rfl, rfl⟩) | (refine ⟨_, h18, ?_⟩; rintro _ _ ⟨rfl, rfl⟩)); simp only [lAL, lDF, tupA, eqA, isNil, slcNil, ptrCells, ptrAdd, cellsO, intA, boolA, readsV, readsP, isCall, wrote, srcOf, isNilSlice, Value.oneCell', seval, implies_true, forall_eq, ne_eq, lPA, lPD, novO, setAll, ho, hc, strA, flatEq])
        | ((with_reducible refine keep0_i ?_); simp only [lPA, lPD, novO, setAll, seval, implies_true])
        | simp (maxSteps := 1000000) (disch := omega) only [lAL, lDF, tupA, eqA, isNil, slcNil, ptrCells, ptrAdd, cellsO, intA, boolA, readsV, readsP, isCall, wrote, srcOf, isNilSlice, Value.oneCell', seval, implies_true, forall_eq, ne_eq, wrap_i64, LenR_ok, List.length_map, IdxR_ints, ho, hc, strA, flatEq])
      all_goals trace_state
    · repeat' (first
        | (with_reducible first | apply cond_d | apply cond_nd | apply cond_i | apply guard_d | apply guard_nd | apply guard_df | apply guard_ndf | apply guard_i | apply ag_d | apply ag_nd | apply ag_df | apply ag_ndf | apply ag_i) <;> intro _
        | with_reducible first | refine LenR_i fun _ => ?_ | refine And.intro (by omega) ?_ | refine and_assoc.2 ?_ | apply sp_cond | apply sp_guard | apply sp_ag | apply sp_call | apply sp_acall | apply sp_loop | apply sp_any | apply sp_frz | apply sp_len | apply sp_idx | apply sp_keep | apply sp_back
        | with_reducible refine frz0_i ?_
        | ((with_reducible first | refine callN_i [] true (by simp) (by simp) ?_ | refine acallN_i true ?_); simp only [lPA, lPD, novO, setAll, seval, implies_true, ho, hc]; (first | (refine ⟨_, h11, ?_⟩; rintro _ _ ⟨rfl, rfl⟩) | (refine ⟨_, h12, ?_⟩; rintro _ _ ⟨rfl, rfl⟩) | (refine ⟨_, h13, ?_⟩; rintro _ _ ⟨rfl, rfl⟩)); simp only [lAL, lDF, tupA, eqA, isNil, slcNil, ptrCells, ptrAdd, cellsO, intA, boolA, readsV, readsP, isCall, wrote, srcOf, isNilSlice, Value.oneCell', seval, implies_true, forall_eq, ne_eq, lPA, lPD, novO, setAll, ho, hc])
        | ((with_reducible refine keep0_i ?_); simp only [lPA, lPD, novO, setAll, seval, implies_true])
        | simp (maxSteps := 1000000) (disch := omega) only [lAL, lDF, tupA, eqA, isNil, slcNil, ptrCells, ptrAdd, cellsO, intA, boolA, readsV, readsP, isCall, wrote, srcOf, isNilSlice, Value.oneCell', seval, implies_true, forall_eq, ne_eq, wrap_i64, LenR_ok, List.length_map, IdxR_ints, ho, hc])
      all_goals trace_state
  · repeat' (first
      | (with_reducible first | apply cond_d | apply cond_nd | apply cond_i | apply guard_d | apply guard_nd | apply guard_df | apply guard_ndf | apply guard_i | apply ag_d | apply ag_nd | apply ag_df | apply ag_ndf | apply ag_i) <;> intro _
      | with_reducible first | refine LenR_i fun _ => ?_ | refine And.intro (by omega) ?_ | refine and_assoc.2 ?_ | apply sp_cond | apply sp_guard | apply sp_ag | apply sp_call | apply sp_acall | apply sp_loop | apply sp_any | apply sp_frz | apply sp_len | apply sp_idx | apply sp_keep | apply sp_back
      | with_reducible refine frz0_i ?_
      | ((with_reducible first | refine callN_i [] true (by simp) (by simp) ?_ | refine acallN_i true ?_); simp only [lPA, lPD, novO, setAll, seval, implies_true, ho]; (first | (refine ⟨_, h11, ?_⟩; rintro _ _ ⟨rfl, rfl⟩) | (refine ⟨_, h12, ?_⟩; rintro _ _ ⟨rfl, rfl⟩) | (refine ⟨_, h13, ?_⟩; rintro _ _ ⟨rfl, rfl⟩)); simp only [lAL, lDF, tupA, eqA, isNil, slcNil, ptrCells, ptrAdd, cellsO, intA, boolA, readsV, readsP, isCall, wrote, srcOf, isNilSlice, Value.oneCell', seval, implies_true, forall_eq, ne_eq, lPA, lPD, novO, setAll, ho])
      | ((with_reducible refine keep0_i ?_); simp only [lPA, lPD, novO, setAll, seval, implies_true])
      | simp (maxSteps := 1000000) (disch := omega) only [lAL, lDF, tupA, eqA, isNil, slcNil, ptrCells, ptrAdd, cellsO, intA, boolA, readsV, readsP, isCall, wrote, srcOf, isNilSlice, Value.oneCell', seval, implies_true, forall_eq, ne_eq, wrap_i64, LenR_ok, List.length_map, IdxR_ints, ho])
    all_goals trace_state
end Go.Proofs.Try
