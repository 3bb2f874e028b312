/-
  A part of the proof: see the text of the law.
-/
import Derived.Test.YtjiijjfpmaligaaDoorCat
set_option linter.unusedSimpArgs false
set_option linter.unusedVariables false
namespace Go.Proofs.Try
open Go.Al
set_option linter.unusedVariables false
set_option linter.unusedSimpArgs false
set_option maxRecDepth 20000
set_option maxHeartbeats 16000000

theorem c31bc (op : Int) (a0 b0 a b : T) (hc : cmpB op = true) (hw : a.wf) (hv : a.vals VL.Right) (hw2 : b.wf) (hv2 : b.vals VL.Right)
    (hrec : ACalls E.P 31 [a0.ex.av] [] (fun r H => r = a.ex.av ∧ H = [])) (hrec2 : ACalls E.P 31 [b0.ex.av] [] (fun r H => r = b.ex.av ∧ H = [])) :
    ACalls E.P 31 [(T.bin op a0 b0).ex.av] [] (fun r H => r = (simpB op a b).ex.av ∧ H = []) := by
  have hop : 3 ≤ op ∧ op ≤ 13 := by simp only [cmpB, decide_eq_true_eq] at hc; omega
  have hn : op ≠ 12 ∧ op ≠ 13 ∧ op ≠ 14 ∧ op ≠ 3 ∧ op ≠ 4 ∧ op ≠ 5 := by simp only [cmpB, decide_eq_true_eq] at hc; omega
  obtain ⟨n1, n2, n3, n4, n5, n6⟩ := hn
  have hmax := maxLen_eq
  have hev : a.isVal = true ∧ b.isVal = true → ACalls E.P 14 [(T.bin op a b).ex.av, .raw (.slice none 0 0)] [] (fun q H => q = .tup [((T.bin op a b).eval []).1.av, .int .i64 ((T.bin op a b).eval []).2] ∧ H = []) := fun h => c14nil (t := .bin op a b) ⟨hop, hw, hw2⟩ ⟨fits_val h.1 0, fits_val h.2 0⟩ ⟨hv, hv2⟩
  have ha2 := op2_ex hw
  have hb2 := op2_ex hw2
  rw [fs_bin] at hev
  rw [fs_bin]
  simp only [vl_av] at hev
  simp only [tv_fs] at hrec hrec2
  refine ok31.acalls hE hm (by simp) fun N hN => ?_
  unfold mc31
  simp only [lA, ptrCells, ptrAdd, isNil, readsV, readsP, isCall, wrote, srcOf, seval]
  have l2 : ((2 : Int) = 0) = False := by simp
  repeat' (first
   | (with_reducible apply St.o; constructor) <;> intro _
   | with_reducible first | refine LenR_i fun _ => ?_ | refine And.intro (by omega) ?_ | (apply Sp.o; constructor) | refine frz0_i ?_
   | ((with_reducible refine keep0_i ?_); simp only [lP, seval])
   | simp (maxSteps := 1000000) (disch := omega) only [lE, ptrCells, ptrAdd, isNil, readsV, readsP, isCall, wrote, srcOf, seval, List.length_cons, List.length_nil, l2, decide_false, ti27])
  refine loop_i (fun i : Nat => i ≤ 2) (fun i => ⟨[(1, .op 0 0), (2, .op 1 0), (3, .op 2 0), (4, .bool ((decide (i = 0) || a.isVal) && (decide (i ≤ 1) || b.isVal))), (25, .view 6 [.agg a0.ex.fs, .agg b0.ex.fs]), (26, .int .i64 2), (27, .int .i64 i)],
    if i = 1 then [.box [.int .i64 op, .int .i64 0, .int .i64 0, .int .i64 0, .str ⟨#[]⟩, .view 6 [.agg a0.ex.fs, .agg b0.ex.fs]], .box out0, .box [.int .i64 op, .int .i64 0, .int .i64 0, .int .i64 0, .str ⟨#[]⟩, .slc 3 6 1], .arr 27 6 [.agg a.ex.fs]]
    else [.box [.int .i64 op, .int .i64 0, .int .i64 0, .int .i64 0, .str ⟨#[]⟩, .view 6 [.agg a0.ex.fs, .agg b0.ex.fs]], .box out0, .box [.int .i64 op, .int .i64 0, .int .i64 0, .int .i64 0, .str ⟨#[]⟩, if i = 0 then .raw (.slice none 0 0) else .view 6 [.agg a.ex.fs, .agg b.ex.fs]]]⟩) (fun i => 2 - i) 0 (by omega) (by rw [if_neg (by omega)]; simp only [if_true]; exact (Ent.to [0,1,2] false (by simp) (by simp) rfl (by simp only [lP, seval] <;> (try simp) <;> (try omega)) (by simp only [lP, seval] <;> (try simp) <;> (try omega)))) ?_
  intro i hi
  have hi2 : i = 0 ∨ i = 1 ∨ i = 2 := by omega
  rcases hi2 with rfl | rfl | rfl
  · rw [if_neg (by omega)]
    simp only [if_true]
    repeat' (first
     | (with_reducible apply St.o; constructor) <;> intro _
     | with_reducible first | refine LenR_i fun _ => ?_ | refine And.intro (by omega) ?_ | (apply Sp.o; constructor) | refine frz0_i ?_
     | ((with_reducible apply Sc.o false; constructor); simp only [lP, seval, Int.ofNat_zero, List.length_cons, List.length_nil, IdxR_0, ti27, ha2, Bool.true_or, Bool.false_or, Bool.and_true, Bool.true_and]; refine ⟨_, hrec, ?_⟩; rintro _ _ ⟨rfl, rfl⟩; simp only [lA, lP, ptrCells, ptrAdd, isNil, readsV, readsP, isCall, wrote, srcOf, seval, Int.ofNat_zero, List.length_cons, List.length_nil, IdxR_0, ti27, ha2, Bool.true_or, Bool.false_or, Bool.and_true, Bool.true_and])
     | ((with_reducible refine keep0_i ?_); simp only [lP, seval])
     | simp (maxSteps := 1000000) (disch := omega) only [lE, ptrCells, ptrAdd, isNil, readsV, readsP, isCall, wrote, srcOf, seval, Int.ofNat_zero, List.length_cons, List.length_nil, IdxR_0, ti27, ha2, Bool.true_or, Bool.false_or, Bool.and_true, Bool.true_and])
    all_goals
      refine back_i 1 (by omega) (by omega) ?_
      rw [if_pos rfl]
      exact (Ent.to [0, 1, 2, 6] false (by simp) (by simp) rfl (by simp only [lP, seval, Bool.false_or] <;> (try simp) <;> (try omega)) (by simp only [lP, seval, pa_exs]))
  · rw [if_pos rfl]
    repeat' (first
     | (with_reducible apply St.o; constructor) <;> intro _
     | with_reducible first | refine LenR_i fun _ => ?_ | refine And.intro (by omega) ?_ | (apply Sp.o; constructor) | refine frz0_i ?_
     | ((with_reducible apply Sc.o false; constructor); simp only [lP, seval, Int.natCast_one, List.length_cons, List.length_nil, IdxR_1, ti27, hb2, Bool.true_or, Bool.false_or, Bool.and_true, Bool.true_and]; refine ⟨_, hrec2, ?_⟩; rintro _ _ ⟨rfl, rfl⟩; simp only [lA, lP, ptrCells, ptrAdd, isNil, readsV, readsP, isCall, wrote, srcOf, seval, Int.natCast_one, List.length_cons, List.length_nil, IdxR_1, ti27, hb2, Bool.true_or, Bool.false_or, Bool.and_true, Bool.true_and])
     | ((with_reducible refine keep0_i ?_); simp only [lP, seval])
     | simp (maxSteps := 1000000) (disch := omega) only [lE, ptrCells, ptrAdd, isNil, readsV, readsP, isCall, wrote, srcOf, seval, Int.natCast_one, List.length_cons, List.length_nil, IdxR_1, ti27, hb2, Bool.true_or, Bool.false_or, Bool.and_true, Bool.true_and])
    all_goals
      refine back_i 2 (by omega) (by omega) ?_
      rw [if_neg (by omega)]
      refine (Ent.to [0, 1, 2] true (by simp) (by simp) rfl (by simp only [lP, seval, Bool.false_or]; simp_all) (by simp only [lP, seval, vw_exs]))
  · have z1 : ((2 : Nat) = 1) = False := by simp
    have z2 : ((2 : Nat) = 0) = False := by simp
    simp only [z1, z2, if_false]
    have h53 : ∀ o, ACalls E.P 53 [.int .i64 o] [] (fun r H => r = .bool (cmpB o) ∧ H = []) := c53
    have h52 : ∀ b, ACalls E.P 52 [.bool b] [] (fun r H => r = .agg (VL.ofB b).cs ∧ H = []) := c52
    have hA : ∀ v : VL, ACalls E.P 69 [.agg a.ex.fs, .agg v.cs] [] (fun r H => r = .bool (a.isC v) ∧ H = []) := fun v => by
      have := c69 a.ex v; rwa [tv_fs, vl_av, isV_ex hw] at this
    have hB : ∀ v : VL, ACalls E.P 69 [.agg b.ex.fs, .agg v.cs] [] (fun r H => r = .bool (b.isC v) ∧ H = []) := fun v => by
      have := c69 b.ex v; rwa [tv_fs, vl_av, isV_ex hw2] at this
    have hA0 : ACalls E.P 69 [.agg a.ex.fs, .agg [.int .i64 1, .int .i64 0, .str ⟨#[]⟩]] [] (fun r H => r = .bool (a.isC zeroV) ∧ H = []) := hA zeroV
    have hA1 : ACalls E.P 69 [.agg a.ex.fs, .agg [.int .i64 1, .int .i64 1, .str ⟨#[]⟩]] [] (fun r H => r = .bool (a.isC oneV) ∧ H = []) := hA oneV
    have hB0 : ACalls E.P 69 [.agg b.ex.fs, .agg [.int .i64 1, .int .i64 0, .str ⟨#[]⟩]] [] (fun r H => r = .bool (b.isC zeroV) ∧ H = []) := hB zeroV
    have hB1 : ACalls E.P 69 [.agg b.ex.fs, .agg [.int .i64 1, .int .i64 1, .str ⟨#[]⟩]] [] (fun r H => r = .bool (b.isC oneV) ∧ H = []) := hB oneV
    have hFa : ACalls E.P 70 [.agg a.ex.fs] [] (fun r H => r = .bool a.fails ∧ H = []) := by
      have := c70 a.ex; rwa [tv_fs, T.fails_ex] at this
    have hFb : ACalls E.P 70 [.agg b.ex.fs] [] (fun r H => r = .bool b.fails ∧ H = []) := by
      have := c70 b.ex; rwa [tv_fs, T.fails_ex] at this
    have k1 : cmpB 12 = false := rfl
    have k2 : cmpB 13 = false := rfl
    have k3 : cmpB 3 = false := rfl
    have k4 : cmpB 4 = false := rfl
    have k5 : cmpB 5 = false := rfl
    have t0 : (decide ((2 : Nat) = 0)) = false := rfl
    have t1 : (decide ((2 : Nat) ≤ 1)) = false := rfl
    by_cases hvv : a.isVal = true ∧ b.isVal = true
    · have hev2 := hev hvv
      clear hev
      repeat' (first
       | (with_reducible apply St.o; constructor) <;> intro _
       | with_reducible first | refine LenR_i fun _ => ?_ | refine And.intro (by omega) ?_ | (apply Sp.o; constructor) | refine frz0_i ?_
       | ((with_reducible apply Sc.o true; constructor); simp only [lP, seval, t0, t1, hvv.1, hvv.2, hc, n1, n2, n3, n4, n5, n6, Int.lt_irrefl, List.length_cons, List.length_nil, IdxR_0, IdxR_1, ti27, Bool.true_or, Bool.false_or, Bool.and_true, Bool.true_and, Bool.and_false, Bool.false_and, decide_true, decide_false]; (first | refine ⟨_, h53 _, ?_⟩ | refine ⟨_, hev2, ?_⟩); rintro _ _ ⟨rfl, rfl⟩; simp only [lA, lP, ptrCells, ptrAdd, isNil, readsV, readsP, isCall, wrote, srcOf, seval, t0, t1, hvv.1, hvv.2, hc, n1, n2, n3, n4, n5, n6, Int.lt_irrefl, List.length_cons, List.length_nil, IdxR_0, IdxR_1, ti27, Bool.true_or, Bool.false_or, Bool.and_true, Bool.true_and, Bool.and_false, Bool.false_and, decide_true, decide_false])
       | with_reducible refine keep_exnil ?_
       | ((with_reducible refine keep0_i ?_); simp only [lP, seval])
       | simp (maxSteps := 1000000) (disch := omega) only [lE, ptrCells, ptrAdd, isNil, readsV, readsP, isCall, wrote, srcOf, seval, t0, t1, hvv.1, hvv.2, hc, n1, n2, n3, n4, n5, n6, Int.lt_irrefl, List.length_cons, List.length_nil, IdxR_0, IdxR_1, ti27, Bool.true_or, Bool.false_or, Bool.and_true, Bool.true_and, Bool.and_false, Bool.false_and, decide_true, decide_false])
      all_goals clear h53 h52 hA hB hA0 hA1 hB0 hB1 hFa hFb hev2
      all_goals (try simp only [lP, seval, pH_nil, and_true])
      · rename_i h
        have e : simpB op a b = .val ((T.bin op a b).eval []).1 := by simp only [simpB, hvv, h, if_true, and_self]
        rw [e, fs_val]
      · rename_i h
        have e : simpB op a b = .bin op a b := by simp only [simpB, hvv, h, if_true, if_false, and_self]
        rw [e, fs_bin]
    · have hv3 : (a.isVal && b.isVal) = false := by simpa using hvv
      clear hev
      repeat' (first
       | (with_reducible apply St.o; constructor) <;> intro _
       | with_reducible first | refine LenR_i fun _ => ?_ | refine And.intro (by omega) ?_ | (apply Sp.o; constructor) | refine frz0_i ?_
       | ((with_reducible apply Sc.o true; constructor); simp only [lP, seval, t0, t1, hv3, ha2, hb2, hc, n1, n2, n3, n4, n5, n6, Int.lt_irrefl, List.length_cons, List.length_nil, IdxR_0, IdxR_1, ti27, Bool.true_or, Bool.false_or, Bool.and_true, Bool.true_and, Bool.and_false, Bool.false_and, decide_true, decide_false]; (first | refine ⟨_, h53 _, ?_⟩ | refine ⟨_, hA (VL.ofB _), ?_⟩ | refine ⟨_, hB (VL.ofB _), ?_⟩ | refine ⟨_, hA0, ?_⟩ | refine ⟨_, hB0, ?_⟩ | refine ⟨_, hA1, ?_⟩ | refine ⟨_, hB1, ?_⟩ | refine ⟨_, h52 _, ?_⟩ | refine ⟨_, c72 op, ?_⟩ | refine ⟨_, hFa, ?_⟩ | refine ⟨_, hFb, ?_⟩); rintro _ _ ⟨rfl, rfl⟩; simp only [lA, lP, ptrCells, ptrAdd, isNil, readsV, readsP, isCall, wrote, srcOf, seval, t0, t1, hv3, ha2, hb2, hc, n1, n2, n3, n4, n5, n6, Int.lt_irrefl, List.length_cons, List.length_nil, IdxR_0, IdxR_1, ti27, Bool.true_or, Bool.false_or, Bool.and_true, Bool.true_and, Bool.and_false, Bool.false_and, decide_true, decide_false])
       | with_reducible refine any_i [1] ?_
       | with_reducible refine keepT_i ?_
       | ((with_reducible refine keep0_i ?_); simp only [lP, seval])
       | simp (maxSteps := 1000000) (disch := omega) only [lE, ptrCells, ptrAdd, isNil, readsV, readsP, isCall, wrote, srcOf, seval, t0, t1, hv3, ha2, hb2, hc, n1, n2, n3, n4, n5, n6, Int.lt_irrefl, List.length_cons, List.length_nil, IdxR_0, IdxR_1, ti27, Bool.true_or, Bool.false_or, Bool.and_true, Bool.true_and, Bool.and_false, Bool.false_and, decide_true, decide_false])
      all_goals clear h53 h52 hA hB hA0 hA1 hB0 hB1 hFa hFb
      all_goals (try simp only [lP, seval, pH_nil, and_true, vw_exs])
      all_goals (try simp only [Bool.not_eq_true', Bool.not_eq_false'] at *)
      all_goals (try (have hbv : b.isVal = false := by cases hq : b.isVal with
          | false => rfl
          | true => (exfalso; apply hvv; exact ⟨by assumption, hq⟩)))
      all_goals first
          | (have e : simpB op a b = a := by simp [simpB, restB, *]
             rw [e, tv_fs]; done)
          | (have e : simpB op a b = b := by simp [simpB, restB, *]
             rw [e, tv_fs]; done)
          | (have e : simpB op a b = .bin op a b := by simp [simpB, restB, *]
             rw [e, fs_bin]; done)
          | (have e : simpB op a b = .bin (trn op) b a := by simp [simpB, restB, *]
             rw [e, fs_bin]; done)
          | trace_state
end Go.Proofs.Try
