/-
  A part of the proof: see the text of the law.
-/
import Derived.Test.YtjiijjfpmaligaaDoorCao
set_option linter.unusedSimpArgs false
set_option linter.unusedVariables false
namespace Go.Proofs.Try
open Go.Al
set_option linter.unusedVariables false
set_option linter.unusedSimpArgs false
set_option maxRecDepth 20000
set_option maxHeartbeats 8000000

theorem ari_cmp {op : Int} (h : 3 ≤ op ∧ op ≤ 13) : op = 12 ∨ op = 13 ∨ (cmpB op = true ∧ op ≠ 12 ∧ op ≠ 13 ∧ op ≠ 14 ∧ op ≠ 3 ∧ op ≠ 4 ∧ op ≠ 5) ∨ op = 3 ∨ op = 4 ∨ op = 5 := by
  simp only [cmpB, decide_eq_true_eq]; omega
theorem c73b (op : Int) (a b : T) (hop : 3 ≤ op ∧ op ≤ 13) (hw : a.wf) (hv : a.vals VL.Right) (hw2 : b.wf) (hv2 : b.vals VL.Right) : ACalls E.P 73 [(T.bin op a b).ex.av] [] (fun r H => r = (simpR op a b).ex.av ∧ H = []) := by
  have hmax := maxLen_eq
  have hev : a.isVal = true ∧ b.isVal = true → ACalls E.P 15 [(T.bin op a b).ex.av, .raw (.slice none 0 0)] [] (fun q H => q = .tup [((T.bin op a b).eval []).1.av, .int .i64 ((T.bin op a b).eval []).2] ∧ H = []) := fun h => c15nil (t := .bin op a b) ⟨hop, hw, hw2⟩ ⟨fits_val h.1 0, fits_val h.2 0⟩ ⟨hv, hv2⟩
  have ha2 := op2_ex hw
  have hb2 := op2_ex hw2
  rw [fs_bin] at hev ⊢
  simp only [vl_av] at hev
  refine ok73.acalls hE hm (by simp) fun N hN => ?_
  unfold mc73
  simp only [lA, ptrCells, ptrAdd, isNil, readsV, readsP, isCall, wrote, srcOf, seval]
  refine loop_i (fun i : Nat => i ≤ 2) (fun i => ⟨[(1, .op 0 0), (2, .op 1 0), (3, .bool ((decide (i = 0) || a.isVal) && (decide (i ≤ 1) || b.isVal))), (4, .int .i64 i)], [.box [.int .i64 op, .int .i64 0, .int .i64 0, .int .i64 0, .str ⟨#[]⟩, .view 6 [.agg a.ex.fs, .agg b.ex.fs]], .box out0]⟩) (fun i => 2 - i) 0 (by omega) (Ent.to [0,1] false (by simp) (by simp) rfl (by simp only [lP, seval] <;> (try simp) <;> (try omega)) (by simp only [lP, seval] <;> (try simp) <;> (try omega))) ?_
  intro i hi
  have hi2 : i = 0 ∨ i = 1 ∨ i = 2 := by omega
  rcases hi2 with rfl | rfl | rfl
  · repeat' (first
     | (with_reducible apply St.o; constructor) <;> intro _
     | with_reducible first | refine LenR_i fun _ => ?_ | refine And.intro (by omega) ?_ | (apply Sp.o; constructor) | refine frz0_i ?_
     | ((with_reducible refine keep0_i ?_); simp only [lP, seval])
     | simp (maxSteps := 1000000) (disch := omega) only [lE, ptrCells, ptrAdd, isNil, readsV, readsP, isCall, wrote, srcOf, seval, Int.ofNat_zero, List.length_cons, List.length_nil, IdxR_0, ti27, ha2, Bool.true_or, Bool.false_or, Bool.and_true, Bool.true_and])
    all_goals
      refine back_i 1 (by omega) (by omega) ?_
      exact (Ent.to [0, 1] false (by simp) (by simp) rfl (by simp only [lP, seval, Bool.false_or] <;> (try simp) <;> (try omega)) (by simp only [lP, seval]))
  · repeat' (first
     | (with_reducible apply St.o; constructor) <;> intro _
     | with_reducible first | refine LenR_i fun _ => ?_ | refine And.intro (by omega) ?_ | (apply Sp.o; constructor) | refine frz0_i ?_
     | ((with_reducible refine keep0_i ?_); simp only [lP, seval])
     | simp (maxSteps := 1000000) (disch := omega) only [lE, ptrCells, ptrAdd, isNil, readsV, readsP, isCall, wrote, srcOf, seval, Int.natCast_one, List.length_cons, List.length_nil, IdxR_1, ti27, hb2, Bool.true_or, Bool.false_or, Bool.and_true, Bool.true_and])
    all_goals
      refine back_i 2 (by omega) (by omega) ?_
      refine (Ent.to [0, 1] false (by simp) (by simp) rfl (by simp only [lP, seval, Bool.false_or]; simp_all) (by simp only [lP, seval]))
  · have h58 : ∀ o, ACalls E.P 58 [.int .i64 o] [] (fun r H => r = .bool (cmpB o) ∧ H = []) := c58
    have h44 : ∀ b, ACalls E.P 44 [.bool b] [] (fun r H => r = .agg (VL.ofB b).cs ∧ H = []) := c44
    have hA : ∀ v : VL, ACalls E.P 100 [.agg a.ex.fs, .agg v.cs] [] (fun r H => r = .bool (a.isC v) ∧ H = []) := fun v => by
      have := c100 a.ex v; rwa [tv_fs, vl_av, isV_ex hw] at this
    have hB : ∀ v : VL, ACalls E.P 100 [.agg b.ex.fs, .agg v.cs] [] (fun r H => r = .bool (b.isC v) ∧ H = []) := fun v => by
      have := c100 b.ex v; rwa [tv_fs, vl_av, isV_ex hw2] at this
    have hA0 : ACalls E.P 100 [.agg a.ex.fs, .agg [.int .i64 1, .int .i64 0, .str ⟨#[]⟩]] [] (fun r H => r = .bool (a.isC zeroV) ∧ H = []) := hA zeroV
    have hA1 : ACalls E.P 100 [.agg a.ex.fs, .agg [.int .i64 1, .int .i64 1, .str ⟨#[]⟩]] [] (fun r H => r = .bool (a.isC oneV) ∧ H = []) := hA oneV
    have hB0 : ACalls E.P 100 [.agg b.ex.fs, .agg [.int .i64 1, .int .i64 0, .str ⟨#[]⟩]] [] (fun r H => r = .bool (b.isC zeroV) ∧ H = []) := hB zeroV
    have hB1 : ACalls E.P 100 [.agg b.ex.fs, .agg [.int .i64 1, .int .i64 1, .str ⟨#[]⟩]] [] (fun r H => r = .bool (b.isC oneV) ∧ H = []) := hB oneV
    have hFa : ACalls E.P 20 [.agg a.ex.fs] [] (fun r H => r = .bool a.fails ∧ H = []) := by
      have := c20 a.ex; rwa [tv_fs, T.fails_ex] at this
    have hFb : ACalls E.P 20 [.agg b.ex.fs] [] (fun r H => r = .bool b.fails ∧ H = []) := by
      have := c20 b.ex; rwa [tv_fs, T.fails_ex] at this
    have k1 : cmpB 12 = false := rfl
    have k2 : cmpB 13 = false := rfl
    have k3 : cmpB 3 = false := rfl
    have k4 : cmpB 4 = false := rfl
    have k5 : cmpB 5 = false := rfl
    have t0 : (decide ((2 : Nat) = 0)) = false := rfl
    have t1 : (decide ((2 : Nat) ≤ 1)) = false := rfl
    rcases ari_cmp hop with rfl | rfl | ⟨hc, n1, n2, n3, n4, n5, n6⟩ | rfl | rfl | rfl
    · by_cases hvv : a.isVal = true ∧ b.isVal = true
      · have hev2 := hev hvv
        clear hev
        repeat' (first
         | (with_reducible apply St.o; constructor) <;> intro _
         | with_reducible first | refine LenR_i fun _ => ?_ | refine And.intro (by omega) ?_ | (apply Sp.o; constructor) | refine frz0_i ?_
         | ((with_reducible apply Sc.o true; constructor); simp only [lP, seval, t0, t1, hvv.1, hvv.2, ha2, hb2, k1, Int.lt_irrefl, List.length_cons, List.length_nil, IdxR_0, IdxR_1, ti27, Bool.true_or, Bool.false_or, Bool.and_true, Bool.true_and, Bool.and_false, Bool.false_and, decide_true, decide_false]; (first | refine ⟨_, h58 _, ?_⟩ | refine ⟨_, hev2, ?_⟩ | refine ⟨_, hA (VL.ofB _), ?_⟩ | refine ⟨_, hB (VL.ofB _), ?_⟩ | refine ⟨_, hA0, ?_⟩ | refine ⟨_, hB0, ?_⟩ | refine ⟨_, hA1, ?_⟩ | refine ⟨_, hB1, ?_⟩ | refine ⟨_, h44 _, ?_⟩ | refine ⟨_, hFa, ?_⟩ | refine ⟨_, hFb, ?_⟩); rintro _ _ ⟨rfl, rfl⟩; simp only [lA, lP, ptrCells, ptrAdd, isNil, readsV, readsP, isCall, wrote, srcOf, seval, t0, t1, hvv.1, hvv.2, ha2, hb2, k1, Int.lt_irrefl, List.length_cons, List.length_nil, IdxR_0, IdxR_1, ti27, Bool.true_or, Bool.false_or, Bool.and_true, Bool.true_and, Bool.and_false, Bool.false_and, decide_true, decide_false])
         | with_reducible refine keep_exnil ?_
         | with_reducible refine any_i [1] ?_
         | ((with_reducible refine keep0_i ?_); simp only [lP, seval])
         | simp (maxSteps := 1000000) (disch := omega) only [lE, ptrCells, ptrAdd, isNil, readsV, readsP, isCall, wrote, srcOf, seval, t0, t1, hvv.1, hvv.2, ha2, hb2, k1, Int.lt_irrefl, List.length_cons, List.length_nil, IdxR_0, IdxR_1, ti27, Bool.true_or, Bool.false_or, Bool.and_true, Bool.true_and, Bool.and_false, Bool.false_and, decide_true, decide_false])
        all_goals clear hev2 h58 h44 hA hB hA0 hA1 hB0 hB1 hFa hFb
        all_goals (try simp only [lP, seval, pH_nil, and_true])
        all_goals (try simp only [Bool.not_eq_true', Bool.not_eq_false'] at *)
        all_goals first
          | (have e : simpR 12 a b = a := by simp [simpR, restB, *]
             rw [e, tv_fs]; done)
          | (have e : simpR 12 a b = b := by simp [simpR, restB, *]
             rw [e, tv_fs]; done)
          | (have e : simpR 12 a b = .bin 12 a b := by simp [simpR, restB, *]
             rw [e, fs_bin]; done)
          | (have e : simpR 12 a b = .bin (trn 12) b a := by simp [simpR, restB, *]
             rw [e, fs_bin]; done)
          | (have e : simpR 12 a b = .val ((T.bin 12 a b).eval []).1 := by simp [simpR, restB, *]
             rw [e, fs_val]; done)
          | trace_state
      · have hv3 : (a.isVal && b.isVal) = false := by simpa using hvv
        clear hev
        repeat' (first
         | (with_reducible apply St.o; constructor) <;> intro _
         | with_reducible first | refine LenR_i fun _ => ?_ | refine And.intro (by omega) ?_ | (apply Sp.o; constructor) | refine frz0_i ?_
         | ((with_reducible apply Sc.o true; constructor); simp only [lP, seval, t0, t1, hv3, ha2, hb2, k1, Int.lt_irrefl, List.length_cons, List.length_nil, IdxR_0, IdxR_1, ti27, Bool.true_or, Bool.false_or, Bool.and_true, Bool.true_and, Bool.and_false, Bool.false_and, decide_true, decide_false]; (first | refine ⟨_, h58 _, ?_⟩ | refine ⟨_, hA (VL.ofB _), ?_⟩ | refine ⟨_, hB (VL.ofB _), ?_⟩ | refine ⟨_, hA0, ?_⟩ | refine ⟨_, hB0, ?_⟩ | refine ⟨_, hA1, ?_⟩ | refine ⟨_, hB1, ?_⟩ | refine ⟨_, h44 _, ?_⟩ | refine ⟨_, hFa, ?_⟩ | refine ⟨_, hFb, ?_⟩); rintro _ _ ⟨rfl, rfl⟩; simp only [lA, lP, ptrCells, ptrAdd, isNil, readsV, readsP, isCall, wrote, srcOf, seval, t0, t1, hv3, ha2, hb2, k1, Int.lt_irrefl, List.length_cons, List.length_nil, IdxR_0, IdxR_1, ti27, Bool.true_or, Bool.false_or, Bool.and_true, Bool.true_and, Bool.and_false, Bool.false_and, decide_true, decide_false])
         | with_reducible refine keep_exnil ?_
         | with_reducible refine any_i [1] ?_
         | ((with_reducible refine keep0_i ?_); simp only [lP, seval])
         | simp (maxSteps := 1000000) (disch := omega) only [lE, ptrCells, ptrAdd, isNil, readsV, readsP, isCall, wrote, srcOf, seval, t0, t1, hv3, ha2, hb2, k1, Int.lt_irrefl, List.length_cons, List.length_nil, IdxR_0, IdxR_1, ti27, Bool.true_or, Bool.false_or, Bool.and_true, Bool.true_and, Bool.and_false, Bool.false_and, decide_true, decide_false])
        all_goals clear h58 h44 hA hB hA0 hA1 hB0 hB1 hFa hFb
        all_goals (try simp only [lP, seval, pH_nil, and_true])
        all_goals (try simp only [Bool.not_eq_true', Bool.not_eq_false'] at *)
        all_goals first
          | (have e : simpR 12 a b = a := by simp [simpR, restB, *]
             rw [e, tv_fs]; done)
          | (have e : simpR 12 a b = b := by simp [simpR, restB, *]
             rw [e, tv_fs]; done)
          | (have e : simpR 12 a b = .bin 12 a b := by simp [simpR, restB, *]
             rw [e, fs_bin]; done)
          | (have e : simpR 12 a b = .bin (trn 12) b a := by simp [simpR, restB, *]
             rw [e, fs_bin]; done)
          | (have e : simpR 12 a b = .val ((T.bin 12 a b).eval []).1 := by simp [simpR, restB, *]
             rw [e, fs_val]; done)
          | trace_state
    · by_cases hvv : a.isVal = true ∧ b.isVal = true
      · have hev2 := hev hvv
        clear hev
        repeat' (first
         | (with_reducible apply St.o; constructor) <;> intro _
         | with_reducible first | refine LenR_i fun _ => ?_ | refine And.intro (by omega) ?_ | (apply Sp.o; constructor) | refine frz0_i ?_
         | ((with_reducible apply Sc.o true; constructor); simp only [lP, seval, t0, t1, hvv.1, hvv.2, ha2, hb2, k2, Int.lt_irrefl, List.length_cons, List.length_nil, IdxR_0, IdxR_1, ti27, Bool.true_or, Bool.false_or, Bool.and_true, Bool.true_and, Bool.and_false, Bool.false_and, decide_true, decide_false]; (first | refine ⟨_, h58 _, ?_⟩ | refine ⟨_, hev2, ?_⟩ | refine ⟨_, hA (VL.ofB _), ?_⟩ | refine ⟨_, hB (VL.ofB _), ?_⟩ | refine ⟨_, hA0, ?_⟩ | refine ⟨_, hB0, ?_⟩ | refine ⟨_, hA1, ?_⟩ | refine ⟨_, hB1, ?_⟩ | refine ⟨_, h44 _, ?_⟩ | refine ⟨_, hFa, ?_⟩ | refine ⟨_, hFb, ?_⟩); rintro _ _ ⟨rfl, rfl⟩; simp only [lA, lP, ptrCells, ptrAdd, isNil, readsV, readsP, isCall, wrote, srcOf, seval, t0, t1, hvv.1, hvv.2, ha2, hb2, k2, Int.lt_irrefl, List.length_cons, List.length_nil, IdxR_0, IdxR_1, ti27, Bool.true_or, Bool.false_or, Bool.and_true, Bool.true_and, Bool.and_false, Bool.false_and, decide_true, decide_false])
         | with_reducible refine keep_exnil ?_
         | with_reducible refine any_i [1] ?_
         | ((with_reducible refine keep0_i ?_); simp only [lP, seval])
         | simp (maxSteps := 1000000) (disch := omega) only [lE, ptrCells, ptrAdd, isNil, readsV, readsP, isCall, wrote, srcOf, seval, t0, t1, hvv.1, hvv.2, ha2, hb2, k2, Int.lt_irrefl, List.length_cons, List.length_nil, IdxR_0, IdxR_1, ti27, Bool.true_or, Bool.false_or, Bool.and_true, Bool.true_and, Bool.and_false, Bool.false_and, decide_true, decide_false])
        all_goals clear hev2 h58 h44 hA hB hA0 hA1 hB0 hB1 hFa hFb
        all_goals (try simp only [lP, seval, pH_nil, and_true])
        all_goals (try simp only [Bool.not_eq_true', Bool.not_eq_false'] at *)
        all_goals first
          | (have e : simpR 13 a b = a := by simp [simpR, restB, *]
             rw [e, tv_fs]; done)
          | (have e : simpR 13 a b = b := by simp [simpR, restB, *]
             rw [e, tv_fs]; done)
          | (have e : simpR 13 a b = .bin 13 a b := by simp [simpR, restB, *]
             rw [e, fs_bin]; done)
          | (have e : simpR 13 a b = .bin (trn 13) b a := by simp [simpR, restB, *]
             rw [e, fs_bin]; done)
          | (have e : simpR 13 a b = .val ((T.bin 13 a b).eval []).1 := by simp [simpR, restB, *]
             rw [e, fs_val]; done)
          | trace_state
      · have hv3 : (a.isVal && b.isVal) = false := by simpa using hvv
        clear hev
        repeat' (first
         | (with_reducible apply St.o; constructor) <;> intro _
         | with_reducible first | refine LenR_i fun _ => ?_ | refine And.intro (by omega) ?_ | (apply Sp.o; constructor) | refine frz0_i ?_
         | ((with_reducible apply Sc.o true; constructor); simp only [lP, seval, t0, t1, hv3, ha2, hb2, k2, Int.lt_irrefl, List.length_cons, List.length_nil, IdxR_0, IdxR_1, ti27, Bool.true_or, Bool.false_or, Bool.and_true, Bool.true_and, Bool.and_false, Bool.false_and, decide_true, decide_false]; (first | refine ⟨_, h58 _, ?_⟩ | refine ⟨_, hA (VL.ofB _), ?_⟩ | refine ⟨_, hB (VL.ofB _), ?_⟩ | refine ⟨_, hA0, ?_⟩ | refine ⟨_, hB0, ?_⟩ | refine ⟨_, hA1, ?_⟩ | refine ⟨_, hB1, ?_⟩ | refine ⟨_, h44 _, ?_⟩ | refine ⟨_, hFa, ?_⟩ | refine ⟨_, hFb, ?_⟩); rintro _ _ ⟨rfl, rfl⟩; simp only [lA, lP, ptrCells, ptrAdd, isNil, readsV, readsP, isCall, wrote, srcOf, seval, t0, t1, hv3, ha2, hb2, k2, Int.lt_irrefl, List.length_cons, List.length_nil, IdxR_0, IdxR_1, ti27, Bool.true_or, Bool.false_or, Bool.and_true, Bool.true_and, Bool.and_false, Bool.false_and, decide_true, decide_false])
         | with_reducible refine keep_exnil ?_
         | with_reducible refine any_i [1] ?_
         | ((with_reducible refine keep0_i ?_); simp only [lP, seval])
         | simp (maxSteps := 1000000) (disch := omega) only [lE, ptrCells, ptrAdd, isNil, readsV, readsP, isCall, wrote, srcOf, seval, t0, t1, hv3, ha2, hb2, k2, Int.lt_irrefl, List.length_cons, List.length_nil, IdxR_0, IdxR_1, ti27, Bool.true_or, Bool.false_or, Bool.and_true, Bool.true_and, Bool.and_false, Bool.false_and, decide_true, decide_false])
        all_goals clear h58 h44 hA hB hA0 hA1 hB0 hB1 hFa hFb
        all_goals (try simp only [lP, seval, pH_nil, and_true])
        all_goals (try simp only [Bool.not_eq_true', Bool.not_eq_false'] at *)
        all_goals first
          | (have e : simpR 13 a b = a := by simp [simpR, restB, *]
             rw [e, tv_fs]; done)
          | (have e : simpR 13 a b = b := by simp [simpR, restB, *]
             rw [e, tv_fs]; done)
          | (have e : simpR 13 a b = .bin 13 a b := by simp [simpR, restB, *]
             rw [e, fs_bin]; done)
          | (have e : simpR 13 a b = .bin (trn 13) b a := by simp [simpR, restB, *]
             rw [e, fs_bin]; done)
          | (have e : simpR 13 a b = .val ((T.bin 13 a b).eval []).1 := by simp [simpR, restB, *]
             rw [e, fs_val]; done)
          | trace_state
    · by_cases hvv : a.isVal = true ∧ b.isVal = true
      · have hev2 := hev hvv
        clear hev
        repeat' (first
         | (with_reducible apply St.o; constructor) <;> intro _
         | with_reducible first | refine LenR_i fun _ => ?_ | refine And.intro (by omega) ?_ | (apply Sp.o; constructor) | refine frz0_i ?_
         | ((with_reducible apply Sc.o true; constructor); simp only [lP, seval, t0, t1, hvv.1, hvv.2, ha2, hb2, hc, n1, n2, n3, n4, n5, n6, Int.lt_irrefl, List.length_cons, List.length_nil, IdxR_0, IdxR_1, ti27, Bool.true_or, Bool.false_or, Bool.and_true, Bool.true_and, Bool.and_false, Bool.false_and, decide_true, decide_false]; (first | refine ⟨_, h58 _, ?_⟩ | refine ⟨_, hev2, ?_⟩ | refine ⟨_, hA (VL.ofB _), ?_⟩ | refine ⟨_, hB (VL.ofB _), ?_⟩ | refine ⟨_, hA0, ?_⟩ | refine ⟨_, hB0, ?_⟩ | refine ⟨_, hA1, ?_⟩ | refine ⟨_, hB1, ?_⟩ | refine ⟨_, h44 _, ?_⟩ | refine ⟨_, c101 op (by assumption), ?_⟩ | refine ⟨_, hFa, ?_⟩ | refine ⟨_, hFb, ?_⟩); rintro _ _ ⟨rfl, rfl⟩; simp only [lA, lP, ptrCells, ptrAdd, isNil, readsV, readsP, isCall, wrote, srcOf, seval, t0, t1, hvv.1, hvv.2, ha2, hb2, hc, n1, n2, n3, n4, n5, n6, Int.lt_irrefl, List.length_cons, List.length_nil, IdxR_0, IdxR_1, ti27, Bool.true_or, Bool.false_or, Bool.and_true, Bool.true_and, Bool.and_false, Bool.false_and, decide_true, decide_false])
         | with_reducible refine keep_exnil ?_
         | with_reducible refine keepT_i ?_
         | with_reducible refine any_i [1] ?_
         | ((with_reducible refine keep0_i ?_); simp only [lP, seval])
         | simp (maxSteps := 1000000) (disch := omega) only [lE, ptrCells, ptrAdd, isNil, readsV, readsP, isCall, wrote, srcOf, seval, t0, t1, hvv.1, hvv.2, ha2, hb2, hc, n1, n2, n3, n4, n5, n6, Int.lt_irrefl, List.length_cons, List.length_nil, IdxR_0, IdxR_1, ti27, Bool.true_or, Bool.false_or, Bool.and_true, Bool.true_and, Bool.and_false, Bool.false_and, decide_true, decide_false])
        all_goals clear hev2 h58 h44 hA hB hA0 hA1 hB0 hB1 hFa hFb
        all_goals (try simp only [lP, seval, pH_nil, and_true])
        all_goals (try simp only [Bool.not_eq_true', Bool.not_eq_false'] at *)
        all_goals first
          | (have e : simpR op a b = a := by simp [simpR, restB, *]
             rw [e, tv_fs]; done)
          | (have e : simpR op a b = b := by simp [simpR, restB, *]
             rw [e, tv_fs]; done)
          | (have e : simpR op a b = .bin op a b := by simp [simpR, restB, *]
             rw [e, fs_bin]; done)
          | (have e : simpR op a b = .bin (trn op) b a := by simp [simpR, restB, *]
             rw [e, fs_bin]; done)
          | (have e : simpR op a b = .val ((T.bin op a b).eval []).1 := by simp [simpR, restB, *]
             rw [e, fs_val]; done)
          | trace_state
      · have hv3 : (a.isVal && b.isVal) = false := by simpa using hvv
        clear hev
        repeat' (first
         | (with_reducible apply St.o; constructor) <;> intro _
         | with_reducible first | refine LenR_i fun _ => ?_ | refine And.intro (by omega) ?_ | (apply Sp.o; constructor) | refine frz0_i ?_
         | ((with_reducible apply Sc.o true; constructor); simp only [lP, seval, t0, t1, hv3, ha2, hb2, hc, n1, n2, n3, n4, n5, n6, Int.lt_irrefl, List.length_cons, List.length_nil, IdxR_0, IdxR_1, ti27, Bool.true_or, Bool.false_or, Bool.and_true, Bool.true_and, Bool.and_false, Bool.false_and, decide_true, decide_false]; (first | refine ⟨_, h58 _, ?_⟩ | refine ⟨_, hA (VL.ofB _), ?_⟩ | refine ⟨_, hB (VL.ofB _), ?_⟩ | refine ⟨_, hA0, ?_⟩ | refine ⟨_, hB0, ?_⟩ | refine ⟨_, hA1, ?_⟩ | refine ⟨_, hB1, ?_⟩ | refine ⟨_, h44 _, ?_⟩ | refine ⟨_, c101 op (by assumption), ?_⟩ | refine ⟨_, hFa, ?_⟩ | refine ⟨_, hFb, ?_⟩); rintro _ _ ⟨rfl, rfl⟩; simp only [lA, lP, ptrCells, ptrAdd, isNil, readsV, readsP, isCall, wrote, srcOf, seval, t0, t1, hv3, ha2, hb2, hc, n1, n2, n3, n4, n5, n6, Int.lt_irrefl, List.length_cons, List.length_nil, IdxR_0, IdxR_1, ti27, Bool.true_or, Bool.false_or, Bool.and_true, Bool.true_and, Bool.and_false, Bool.false_and, decide_true, decide_false])
         | with_reducible refine keep_exnil ?_
         | with_reducible refine keepT_i ?_
         | with_reducible refine any_i [1] ?_
         | ((with_reducible refine keep0_i ?_); simp only [lP, seval])
         | simp (maxSteps := 1000000) (disch := omega) only [lE, ptrCells, ptrAdd, isNil, readsV, readsP, isCall, wrote, srcOf, seval, t0, t1, hv3, ha2, hb2, hc, n1, n2, n3, n4, n5, n6, Int.lt_irrefl, List.length_cons, List.length_nil, IdxR_0, IdxR_1, ti27, Bool.true_or, Bool.false_or, Bool.and_true, Bool.true_and, Bool.and_false, Bool.false_and, decide_true, decide_false])
        all_goals clear h58 h44 hA hB hA0 hA1 hB0 hB1 hFa hFb
        all_goals (try simp only [lP, seval, pH_nil, and_true])
        all_goals (try simp only [Bool.not_eq_true', Bool.not_eq_false'] at *)
        all_goals (try (have hbv : b.isVal = false := by cases hq : b.isVal with
          | false => rfl
          | true => (exfalso; apply hvv; exact ⟨by assumption, hq⟩)))
        all_goals first
          | (have e : simpR op a b = a := by simp [simpR, restB, *]
             rw [e, tv_fs]; done)
          | (have e : simpR op a b = b := by simp [simpR, restB, *]
             rw [e, tv_fs]; done)
          | (have e : simpR op a b = .bin op a b := by simp [simpR, restB, *]
             rw [e, fs_bin]; done)
          | (have e : simpR op a b = .bin (trn op) b a := by simp [simpR, restB, *]
             rw [e, fs_bin]; done)
          | (have e : simpR op a b = .val ((T.bin op a b).eval []).1 := by simp [simpR, restB, *]
             rw [e, fs_val]; done)
          | trace_state
    · by_cases hvv : a.isVal = true ∧ b.isVal = true
      · have hev2 := hev hvv
        clear hev
        repeat' (first
         | (with_reducible apply St.o; constructor) <;> intro _
         | with_reducible first | refine LenR_i fun _ => ?_ | refine And.intro (by omega) ?_ | (apply Sp.o; constructor) | refine frz0_i ?_
         | ((with_reducible apply Sc.o true; constructor); simp only [lP, seval, t0, t1, hvv.1, hvv.2, ha2, hb2, k3, Int.lt_irrefl, List.length_cons, List.length_nil, IdxR_0, IdxR_1, ti27, Bool.true_or, Bool.false_or, Bool.and_true, Bool.true_and, Bool.and_false, Bool.false_and, decide_true, decide_false]; (first | refine ⟨_, h58 _, ?_⟩ | refine ⟨_, hev2, ?_⟩ | refine ⟨_, hA (VL.ofB _), ?_⟩ | refine ⟨_, hB (VL.ofB _), ?_⟩ | refine ⟨_, hA0, ?_⟩ | refine ⟨_, hB0, ?_⟩ | refine ⟨_, hA1, ?_⟩ | refine ⟨_, hB1, ?_⟩ | refine ⟨_, h44 _, ?_⟩ | refine ⟨_, hFa, ?_⟩ | refine ⟨_, hFb, ?_⟩); rintro _ _ ⟨rfl, rfl⟩; simp only [lA, lP, ptrCells, ptrAdd, isNil, readsV, readsP, isCall, wrote, srcOf, seval, t0, t1, hvv.1, hvv.2, ha2, hb2, k3, Int.lt_irrefl, List.length_cons, List.length_nil, IdxR_0, IdxR_1, ti27, Bool.true_or, Bool.false_or, Bool.and_true, Bool.true_and, Bool.and_false, Bool.false_and, decide_true, decide_false])
         | with_reducible refine keep_exnil ?_
         | with_reducible refine any_i [1] ?_
         | ((with_reducible refine keep0_i ?_); simp only [lP, seval])
         | simp (maxSteps := 1000000) (disch := omega) only [lE, ptrCells, ptrAdd, isNil, readsV, readsP, isCall, wrote, srcOf, seval, t0, t1, hvv.1, hvv.2, ha2, hb2, k3, Int.lt_irrefl, List.length_cons, List.length_nil, IdxR_0, IdxR_1, ti27, Bool.true_or, Bool.false_or, Bool.and_true, Bool.true_and, Bool.and_false, Bool.false_and, decide_true, decide_false])
        all_goals clear hev2 h58 h44 hA hB hA0 hA1 hB0 hB1 hFa hFb
        all_goals (try simp only [lP, seval, pH_nil, and_true])
        all_goals (try simp only [Bool.not_eq_true', Bool.not_eq_false'] at *)
        all_goals first
          | (have e : simpR 3 a b = a := by simp [simpR, restB, *]
             rw [e, tv_fs]; done)
          | (have e : simpR 3 a b = b := by simp [simpR, restB, *]
             rw [e, tv_fs]; done)
          | (have e : simpR 3 a b = .bin 3 a b := by simp [simpR, restB, *]
             rw [e, fs_bin]; done)
          | (have e : simpR 3 a b = .bin (trn 3) b a := by simp [simpR, restB, *]
             rw [e, fs_bin]; done)
          | (have e : simpR 3 a b = .val ((T.bin 3 a b).eval []).1 := by simp [simpR, restB, *]
             rw [e, fs_val]; done)
          | trace_state
      · have hv3 : (a.isVal && b.isVal) = false := by simpa using hvv
        clear hev
        repeat' (first
         | (with_reducible apply St.o; constructor) <;> intro _
         | with_reducible first | refine LenR_i fun _ => ?_ | refine And.intro (by omega) ?_ | (apply Sp.o; constructor) | refine frz0_i ?_
         | ((with_reducible apply Sc.o true; constructor); simp only [lP, seval, t0, t1, hv3, ha2, hb2, k3, Int.lt_irrefl, List.length_cons, List.length_nil, IdxR_0, IdxR_1, ti27, Bool.true_or, Bool.false_or, Bool.and_true, Bool.true_and, Bool.and_false, Bool.false_and, decide_true, decide_false]; (first | refine ⟨_, h58 _, ?_⟩ | refine ⟨_, hA (VL.ofB _), ?_⟩ | refine ⟨_, hB (VL.ofB _), ?_⟩ | refine ⟨_, hA0, ?_⟩ | refine ⟨_, hB0, ?_⟩ | refine ⟨_, hA1, ?_⟩ | refine ⟨_, hB1, ?_⟩ | refine ⟨_, h44 _, ?_⟩ | refine ⟨_, hFa, ?_⟩ | refine ⟨_, hFb, ?_⟩); rintro _ _ ⟨rfl, rfl⟩; simp only [lA, lP, ptrCells, ptrAdd, isNil, readsV, readsP, isCall, wrote, srcOf, seval, t0, t1, hv3, ha2, hb2, k3, Int.lt_irrefl, List.length_cons, List.length_nil, IdxR_0, IdxR_1, ti27, Bool.true_or, Bool.false_or, Bool.and_true, Bool.true_and, Bool.and_false, Bool.false_and, decide_true, decide_false])
         | with_reducible refine keep_exnil ?_
         | with_reducible refine any_i [1] ?_
         | ((with_reducible refine keep0_i ?_); simp only [lP, seval])
         | simp (maxSteps := 1000000) (disch := omega) only [lE, ptrCells, ptrAdd, isNil, readsV, readsP, isCall, wrote, srcOf, seval, t0, t1, hv3, ha2, hb2, k3, Int.lt_irrefl, List.length_cons, List.length_nil, IdxR_0, IdxR_1, ti27, Bool.true_or, Bool.false_or, Bool.and_true, Bool.true_and, Bool.and_false, Bool.false_and, decide_true, decide_false])
        all_goals clear h58 h44 hA hB hA0 hA1 hB0 hB1 hFa hFb
        all_goals (try simp only [lP, seval, pH_nil, and_true])
        all_goals (try simp only [Bool.not_eq_true', Bool.not_eq_false'] at *)
        all_goals first
          | (have e : simpR 3 a b = a := by simp [simpR, restB, *]
             rw [e, tv_fs]; done)
          | (have e : simpR 3 a b = b := by simp [simpR, restB, *]
             rw [e, tv_fs]; done)
          | (have e : simpR 3 a b = .bin 3 a b := by simp [simpR, restB, *]
             rw [e, fs_bin]; done)
          | (have e : simpR 3 a b = .bin (trn 3) b a := by simp [simpR, restB, *]
             rw [e, fs_bin]; done)
          | (have e : simpR 3 a b = .val ((T.bin 3 a b).eval []).1 := by simp [simpR, restB, *]
             rw [e, fs_val]; done)
          | trace_state
    · by_cases hvv : a.isVal = true ∧ b.isVal = true
      · have hev2 := hev hvv
        clear hev
        repeat' (first
         | (with_reducible apply St.o; constructor) <;> intro _
         | with_reducible first | refine LenR_i fun _ => ?_ | refine And.intro (by omega) ?_ | (apply Sp.o; constructor) | refine frz0_i ?_
         | ((with_reducible apply Sc.o true; constructor); simp only [lP, seval, t0, t1, hvv.1, hvv.2, ha2, hb2, k4, Int.lt_irrefl, List.length_cons, List.length_nil, IdxR_0, IdxR_1, ti27, Bool.true_or, Bool.false_or, Bool.and_true, Bool.true_and, Bool.and_false, Bool.false_and, decide_true, decide_false]; (first | refine ⟨_, h58 _, ?_⟩ | refine ⟨_, hev2, ?_⟩ | refine ⟨_, hA (VL.ofB _), ?_⟩ | refine ⟨_, hB (VL.ofB _), ?_⟩ | refine ⟨_, hA0, ?_⟩ | refine ⟨_, hB0, ?_⟩ | refine ⟨_, hA1, ?_⟩ | refine ⟨_, hB1, ?_⟩ | refine ⟨_, h44 _, ?_⟩ | refine ⟨_, hFa, ?_⟩ | refine ⟨_, hFb, ?_⟩); rintro _ _ ⟨rfl, rfl⟩; simp only [lA, lP, ptrCells, ptrAdd, isNil, readsV, readsP, isCall, wrote, srcOf, seval, t0, t1, hvv.1, hvv.2, ha2, hb2, k4, Int.lt_irrefl, List.length_cons, List.length_nil, IdxR_0, IdxR_1, ti27, Bool.true_or, Bool.false_or, Bool.and_true, Bool.true_and, Bool.and_false, Bool.false_and, decide_true, decide_false])
         | with_reducible refine keep_exnil ?_
         | with_reducible refine any_i [1] ?_
         | ((with_reducible refine keep0_i ?_); simp only [lP, seval])
         | simp (maxSteps := 1000000) (disch := omega) only [lE, ptrCells, ptrAdd, isNil, readsV, readsP, isCall, wrote, srcOf, seval, t0, t1, hvv.1, hvv.2, ha2, hb2, k4, Int.lt_irrefl, List.length_cons, List.length_nil, IdxR_0, IdxR_1, ti27, Bool.true_or, Bool.false_or, Bool.and_true, Bool.true_and, Bool.and_false, Bool.false_and, decide_true, decide_false])
        all_goals clear hev2 h58 h44 hA hB hA0 hA1 hB0 hB1 hFa hFb
        all_goals (try simp only [lP, seval, pH_nil, and_true])
        all_goals (try simp only [Bool.not_eq_true', Bool.not_eq_false'] at *)
        all_goals first
          | (have e : simpR 4 a b = a := by simp [simpR, restB, *]
             rw [e, tv_fs]; done)
          | (have e : simpR 4 a b = b := by simp [simpR, restB, *]
             rw [e, tv_fs]; done)
          | (have e : simpR 4 a b = .bin 4 a b := by simp [simpR, restB, *]
             rw [e, fs_bin]; done)
          | (have e : simpR 4 a b = .bin (trn 4) b a := by simp [simpR, restB, *]
             rw [e, fs_bin]; done)
          | (have e : simpR 4 a b = .val ((T.bin 4 a b).eval []).1 := by simp [simpR, restB, *]
             rw [e, fs_val]; done)
          | trace_state
      · have hv3 : (a.isVal && b.isVal) = false := by simpa using hvv
        clear hev
        repeat' (first
         | (with_reducible apply St.o; constructor) <;> intro _
         | with_reducible first | refine LenR_i fun _ => ?_ | refine And.intro (by omega) ?_ | (apply Sp.o; constructor) | refine frz0_i ?_
         | ((with_reducible apply Sc.o true; constructor); simp only [lP, seval, t0, t1, hv3, ha2, hb2, k4, Int.lt_irrefl, List.length_cons, List.length_nil, IdxR_0, IdxR_1, ti27, Bool.true_or, Bool.false_or, Bool.and_true, Bool.true_and, Bool.and_false, Bool.false_and, decide_true, decide_false]; (first | refine ⟨_, h58 _, ?_⟩ | refine ⟨_, hA (VL.ofB _), ?_⟩ | refine ⟨_, hB (VL.ofB _), ?_⟩ | refine ⟨_, hA0, ?_⟩ | refine ⟨_, hB0, ?_⟩ | refine ⟨_, hA1, ?_⟩ | refine ⟨_, hB1, ?_⟩ | refine ⟨_, h44 _, ?_⟩ | refine ⟨_, hFa, ?_⟩ | refine ⟨_, hFb, ?_⟩); rintro _ _ ⟨rfl, rfl⟩; simp only [lA, lP, ptrCells, ptrAdd, isNil, readsV, readsP, isCall, wrote, srcOf, seval, t0, t1, hv3, ha2, hb2, k4, Int.lt_irrefl, List.length_cons, List.length_nil, IdxR_0, IdxR_1, ti27, Bool.true_or, Bool.false_or, Bool.and_true, Bool.true_and, Bool.and_false, Bool.false_and, decide_true, decide_false])
         | with_reducible refine keep_exnil ?_
         | with_reducible refine any_i [1] ?_
         | ((with_reducible refine keep0_i ?_); simp only [lP, seval])
         | simp (maxSteps := 1000000) (disch := omega) only [lE, ptrCells, ptrAdd, isNil, readsV, readsP, isCall, wrote, srcOf, seval, t0, t1, hv3, ha2, hb2, k4, Int.lt_irrefl, List.length_cons, List.length_nil, IdxR_0, IdxR_1, ti27, Bool.true_or, Bool.false_or, Bool.and_true, Bool.true_and, Bool.and_false, Bool.false_and, decide_true, decide_false])
        all_goals clear h58 h44 hA hB hA0 hA1 hB0 hB1 hFa hFb
        all_goals (try simp only [lP, seval, pH_nil, and_true])
        all_goals (try simp only [Bool.not_eq_true', Bool.not_eq_false'] at *)
        all_goals first
          | (have e : simpR 4 a b = a := by simp [simpR, restB, *]
             rw [e, tv_fs]; done)
          | (have e : simpR 4 a b = b := by simp [simpR, restB, *]
             rw [e, tv_fs]; done)
          | (have e : simpR 4 a b = .bin 4 a b := by simp [simpR, restB, *]
             rw [e, fs_bin]; done)
          | (have e : simpR 4 a b = .bin (trn 4) b a := by simp [simpR, restB, *]
             rw [e, fs_bin]; done)
          | (have e : simpR 4 a b = .val ((T.bin 4 a b).eval []).1 := by simp [simpR, restB, *]
             rw [e, fs_val]; done)
          | trace_state
    · by_cases hvv : a.isVal = true ∧ b.isVal = true
      · have hev2 := hev hvv
        clear hev
        repeat' (first
         | (with_reducible apply St.o; constructor) <;> intro _
         | with_reducible first | refine LenR_i fun _ => ?_ | refine And.intro (by omega) ?_ | (apply Sp.o; constructor) | refine frz0_i ?_
         | ((with_reducible apply Sc.o true; constructor); simp only [lP, seval, t0, t1, hvv.1, hvv.2, ha2, hb2, k5, Int.lt_irrefl, List.length_cons, List.length_nil, IdxR_0, IdxR_1, ti27, Bool.true_or, Bool.false_or, Bool.and_true, Bool.true_and, Bool.and_false, Bool.false_and, decide_true, decide_false]; (first | refine ⟨_, h58 _, ?_⟩ | refine ⟨_, hev2, ?_⟩ | refine ⟨_, hA (VL.ofB _), ?_⟩ | refine ⟨_, hB (VL.ofB _), ?_⟩ | refine ⟨_, hA0, ?_⟩ | refine ⟨_, hB0, ?_⟩ | refine ⟨_, hA1, ?_⟩ | refine ⟨_, hB1, ?_⟩ | refine ⟨_, h44 _, ?_⟩ | refine ⟨_, hFa, ?_⟩ | refine ⟨_, hFb, ?_⟩); rintro _ _ ⟨rfl, rfl⟩; simp only [lA, lP, ptrCells, ptrAdd, isNil, readsV, readsP, isCall, wrote, srcOf, seval, t0, t1, hvv.1, hvv.2, ha2, hb2, k5, Int.lt_irrefl, List.length_cons, List.length_nil, IdxR_0, IdxR_1, ti27, Bool.true_or, Bool.false_or, Bool.and_true, Bool.true_and, Bool.and_false, Bool.false_and, decide_true, decide_false])
         | with_reducible refine keep_exnil ?_
         | with_reducible refine any_i [1] ?_
         | ((with_reducible refine keep0_i ?_); simp only [lP, seval])
         | simp (maxSteps := 1000000) (disch := omega) only [lE, ptrCells, ptrAdd, isNil, readsV, readsP, isCall, wrote, srcOf, seval, t0, t1, hvv.1, hvv.2, ha2, hb2, k5, Int.lt_irrefl, List.length_cons, List.length_nil, IdxR_0, IdxR_1, ti27, Bool.true_or, Bool.false_or, Bool.and_true, Bool.true_and, Bool.and_false, Bool.false_and, decide_true, decide_false])
        all_goals clear hev2 h58 h44 hA hB hA0 hA1 hB0 hB1 hFa hFb
        all_goals (try simp only [lP, seval, pH_nil, and_true])
        all_goals (try simp only [Bool.not_eq_true', Bool.not_eq_false'] at *)
        all_goals first
          | (have e : simpR 5 a b = a := by simp [simpR, restB, *]
             rw [e, tv_fs]; done)
          | (have e : simpR 5 a b = b := by simp [simpR, restB, *]
             rw [e, tv_fs]; done)
          | (have e : simpR 5 a b = .bin 5 a b := by simp [simpR, restB, *]
             rw [e, fs_bin]; done)
          | (have e : simpR 5 a b = .bin (trn 5) b a := by simp [simpR, restB, *]
             rw [e, fs_bin]; done)
          | (have e : simpR 5 a b = .val ((T.bin 5 a b).eval []).1 := by simp [simpR, restB, *]
             rw [e, fs_val]; done)
          | trace_state
      · have hv3 : (a.isVal && b.isVal) = false := by simpa using hvv
        clear hev
        repeat' (first
         | (with_reducible apply St.o; constructor) <;> intro _
         | with_reducible first | refine LenR_i fun _ => ?_ | refine And.intro (by omega) ?_ | (apply Sp.o; constructor) | refine frz0_i ?_
         | ((with_reducible apply Sc.o true; constructor); simp only [lP, seval, t0, t1, hv3, ha2, hb2, k5, Int.lt_irrefl, List.length_cons, List.length_nil, IdxR_0, IdxR_1, ti27, Bool.true_or, Bool.false_or, Bool.and_true, Bool.true_and, Bool.and_false, Bool.false_and, decide_true, decide_false]; (first | refine ⟨_, h58 _, ?_⟩ | refine ⟨_, hA (VL.ofB _), ?_⟩ | refine ⟨_, hB (VL.ofB _), ?_⟩ | refine ⟨_, hA0, ?_⟩ | refine ⟨_, hB0, ?_⟩ | refine ⟨_, hA1, ?_⟩ | refine ⟨_, hB1, ?_⟩ | refine ⟨_, h44 _, ?_⟩ | refine ⟨_, hFa, ?_⟩ | refine ⟨_, hFb, ?_⟩); rintro _ _ ⟨rfl, rfl⟩; simp only [lA, lP, ptrCells, ptrAdd, isNil, readsV, readsP, isCall, wrote, srcOf, seval, t0, t1, hv3, ha2, hb2, k5, Int.lt_irrefl, List.length_cons, List.length_nil, IdxR_0, IdxR_1, ti27, Bool.true_or, Bool.false_or, Bool.and_true, Bool.true_and, Bool.and_false, Bool.false_and, decide_true, decide_false])
         | with_reducible refine keep_exnil ?_
         | with_reducible refine any_i [1] ?_
         | ((with_reducible refine keep0_i ?_); simp only [lP, seval])
         | simp (maxSteps := 1000000) (disch := omega) only [lE, ptrCells, ptrAdd, isNil, readsV, readsP, isCall, wrote, srcOf, seval, t0, t1, hv3, ha2, hb2, k5, Int.lt_irrefl, List.length_cons, List.length_nil, IdxR_0, IdxR_1, ti27, Bool.true_or, Bool.false_or, Bool.and_true, Bool.true_and, Bool.and_false, Bool.false_and, decide_true, decide_false])
        all_goals clear h58 h44 hA hB hA0 hA1 hB0 hB1 hFa hFb
        all_goals (try simp only [lP, seval, pH_nil, and_true])
        all_goals (try simp only [Bool.not_eq_true', Bool.not_eq_false'] at *)
        all_goals first
          | (have e : simpR 5 a b = a := by simp [simpR, restB, *]
             rw [e, tv_fs]; done)
          | (have e : simpR 5 a b = b := by simp [simpR, restB, *]
             rw [e, tv_fs]; done)
          | (have e : simpR 5 a b = .bin 5 a b := by simp [simpR, restB, *]
             rw [e, fs_bin]; done)
          | (have e : simpR 5 a b = .bin (trn 5) b a := by simp [simpR, restB, *]
             rw [e, fs_bin]; done)
          | (have e : simpR 5 a b = .val ((T.bin 5 a b).eval []).1 := by simp [simpR, restB, *]
             rw [e, fs_val]; done)
          | trace_state
end Go.Proofs.Try
