/-
  A part of the proof: see the text of the law.
-/
import Derived.Test.YtjiijjfpmaligaaDoorCao
set_option linter.unusedSimpArgs false
set_option linter.unusedVariables false
namespace Go.Proofs.Try
open Go.Al
set_option linter.unusedVariables false
set_option linter.unusedSimpArgs false
set_option maxRecDepth 20000
set_option maxHeartbeats 8000000

theorem c31u (op : Int) (a a' : T) (hop : op = 14 ∨ op = 15) (hw : a'.wf) (hv : a'.vals VL.Right) (hrec : ACalls E.P 31 [a.ex.av] [] (fun r H => r = a'.ex.av ∧ H = [])) : ACalls E.P 31 [(T.un op a).ex.av] [] (fun r H => r = (simpU op a').ex.av ∧ H = []) := by
  have hmax := maxLen_eq
  have hev : a'.isVal = true → ACalls E.P 14 [(T.un op a').ex.av, .raw (.slice none 0 0)] [] (fun q H => q = .tup [((T.un op a').eval []).1.av, .int .i64 ((T.un op a').eval []).2] ∧ H = []) := fun h => c14nil (t := .un op a') ⟨hop, hw⟩ (fits_val h 0) hv
  have hop2 := op2_ex hw
  rw [fs_un] at hev ⊢
  simp only [vl_av] at hev
  simp only [tv_fs] at hrec
  refine ok31.acalls hE hm (by simp) fun N hN => ?_
  unfold mc31
  simp only [lA, ptrCells, ptrAdd, isNil, readsV, readsP, isCall, wrote, srcOf, seval]
  repeat' (first
   | (with_reducible apply St.o; constructor) <;> intro _
   | with_reducible first | refine LenR_i fun _ => ?_ | refine And.intro (by omega) ?_ | (apply Sp.o; constructor) | refine frz0_i ?_
   | ((with_reducible refine keep0_i ?_); simp only [lP, seval])
   | simp (maxSteps := 1000000) (disch := omega) only [lE, ptrCells, ptrAdd, isNil, readsV, readsP, isCall, wrote, srcOf, seval, List.length_cons, List.length_nil, Int.natCast_one, ti27])
  refine loop_i (fun i : Nat => i ≤ 1) (fun i => ⟨[(1, .op 0 0), (2, .op 1 0), (3, .op 2 0), (4, .bool (decide (i = 0) || a'.isVal)), (25, .view 6 [.agg a.ex.fs]), (26, .int .i64 1), (27, .int .i64 i)], [.box [.int .i64 op, .int .i64 0, .int .i64 0, .int .i64 0, .str ⟨#[]⟩, .view 6 [.agg a.ex.fs]], .box out0, .box [.int .i64 op, .int .i64 0, .int .i64 0, .int .i64 0, .str ⟨#[]⟩, if i = 0 then .raw (.slice none 0 0) else .view 6 [.agg a'.ex.fs]]]⟩) (fun i => 1 - i) 0 (by omega) (by simp only [if_true]; exact (Ent.to [0,1,2] false (by simp) (by simp) rfl (by simp only [lP, seval] <;> (try simp) <;> (try omega)) (by simp only [lP, seval] <;> (try simp) <;> (try omega)))) ?_
  intro i hi
  have hi2 : i = 0 ∨ i = 1 := by omega
  rcases hi2 with rfl | rfl
  · simp only [if_true]
    repeat' (first
     | (with_reducible apply St.o; constructor) <;> intro _
     | with_reducible first | refine LenR_i fun _ => ?_ | refine And.intro (by omega) ?_ | (apply Sp.o; constructor) | refine frz0_i ?_
     | ((with_reducible apply Sc.o false; constructor); simp only [lP, seval, Int.ofNat_zero, List.length_cons, List.length_nil, IdxR_0, ti27, hop2, Bool.true_or, Bool.false_or]; refine ⟨_, hrec, ?_⟩; rintro _ _ ⟨rfl, rfl⟩; simp only [lA, lP, ptrCells, ptrAdd, isNil, readsV, readsP, isCall, wrote, srcOf, seval, Int.ofNat_zero, List.length_cons, List.length_nil, IdxR_0, ti27, hop2, Bool.true_or, Bool.false_or])
     | ((with_reducible refine keep0_i ?_); simp only [lP, seval])
     | simp (maxSteps := 1000000) (disch := omega) only [lE, ptrCells, ptrAdd, isNil, readsV, readsP, isCall, wrote, srcOf, seval, Int.ofNat_zero, List.length_cons, List.length_nil, IdxR_0, ti27, hop2, Bool.true_or, Bool.false_or])
    all_goals
      refine back_i 1 (by omega) (by omega) ?_
      rw [if_neg (by omega)]
      exact (Ent.to [0, 1, 2] true (by simp) (by simp) rfl (by simp only [lP, seval, Bool.false_or] <;> (try simp) <;> (try omega)) (by simp only [lP, seval, vw_exs]))
  · have h1 : ((1 : Nat) = 0) = False := by simp
    simp only [h1, if_false]
    have h53 : ∀ o, ACalls E.P 53 [.int .i64 o] [] (fun r H => r = .bool (cmpB o) ∧ H = []) := c53
    have h69 : ∀ (e : EX) (v : VL), ACalls E.P 69 [.agg e.fs, .agg v.cs] [] (fun r H => r = .bool (isV e v) ∧ H = []) := fun e v => by
      have := c69 e v; rwa [av_fs, vl_av] at this
    have c1 : cmpB 1 = false := rfl
    have c2 : cmpB 2 = false := rfl
    have c14' : cmpB 14 = false := rfl
    have c15' : cmpB 15 = false := rfl
    have hev0 := hev
    clear hev
    have lem : ∀ op, op = 14 ∨ op = 15 → cmpB op = false := fun op h => by simp only [cmpB, decide_eq_false_iff_not]; omega
    have cop := lem op hop
    have n12 : op ≠ 12 := by omega
    have n13 : op ≠ 13 := by omega
    have n3 : op ≠ 3 := by omega
    have n4 : op ≠ 4 := by omega
    have n5 : op ≠ 5 := by omega
    cases a' with
    | col n =>
      clear hev0
      simp only [T.isVal, fsL_col] at *
      repeat' (first
       | (with_reducible apply St.o; constructor) <;> intro _
       | with_reducible first | refine LenR_i fun _ => ?_ | refine And.intro (by omega) ?_ | (apply Sp.o; constructor) | refine frz0_i ?_
       | ((with_reducible apply Sc.o true; constructor); simp only [lP, seval, cop, n12, n13, n3, n4, n5, Int.natCast_one, Int.lt_irrefl, List.length_cons, List.length_nil, IdxR_0, ti27, Bool.true_or, Bool.false_or, c1, c2, c14', c15', decide_false, fsL_col]; refine ⟨_, h53 _, ?_⟩; rintro _ _ ⟨rfl, rfl⟩; simp only [lA, lP, ptrCells, ptrAdd, isNil, readsV, readsP, isCall, wrote, srcOf, seval, cop, n12, n13, n3, n4, n5, Int.natCast_one, Int.lt_irrefl, List.length_cons, List.length_nil, IdxR_0, ti27, Bool.true_or, Bool.false_or, c1, c2, c14', c15', decide_false, fsL_col])
       | with_reducible refine any_i [] ?_
       | ((with_reducible refine keep0_i ?_); simp only [lP, seval])
       | simp (maxSteps := 1000000) (disch := omega) only [lE, ptrCells, ptrAdd, isNil, readsV, readsP, isCall, wrote, srcOf, seval, cop, n12, n13, n3, n4, n5, Int.natCast_one, Int.lt_irrefl, List.length_cons, List.length_nil, IdxR_0, ti27, Bool.true_or, Bool.false_or, c1, c2, c14', c15', decide_false, fsL_col])
      all_goals clear h53 h69 hrec
      all_goals simp [simpU, T.isVal, negT, fs_un, fsL_col]
    | val v =>
      have hev := hev0 rfl
      clear hev0
      simp only [T.isVal, fsL_val] at *
      repeat' (first
       | (with_reducible apply St.o; constructor) <;> intro _
       | with_reducible first | refine LenR_i fun _ => ?_ | refine And.intro (by omega) ?_ | (apply Sp.o; constructor) | refine frz0_i ?_
       | ((with_reducible apply Sc.o true; constructor); simp only [lP, seval, cop, n12, n13, n3, n4, n5, Int.natCast_one, Int.lt_irrefl, List.length_cons, List.length_nil, IdxR_0, ti27, Bool.true_or, Bool.false_or, c1, c2, c14', c15', decide_false, fsL_col]; (first | refine ⟨_, h53 _, ?_⟩ | refine ⟨_, hev, ?_⟩); rintro _ _ ⟨rfl, rfl⟩; simp only [lA, lP, ptrCells, ptrAdd, isNil, readsV, readsP, isCall, wrote, srcOf, seval, cop, n12, n13, n3, n4, n5, Int.natCast_one, Int.lt_irrefl, List.length_cons, List.length_nil, IdxR_0, ti27, Bool.true_or, Bool.false_or, c1, c2, c14', c15', decide_false, fsL_col])
       | with_reducible refine any_i [] ?_
       | with_reducible refine keep_exnil ?_
       | ((with_reducible refine keep0_i ?_); simp only [lP, seval])
       | simp (maxSteps := 1000000) (disch := omega) only [lE, ptrCells, ptrAdd, isNil, readsV, readsP, isCall, wrote, srcOf, seval, cop, n12, n13, n3, n4, n5, Int.natCast_one, Int.lt_irrefl, List.length_cons, List.length_nil, IdxR_0, ti27, Bool.true_or, Bool.false_or, c1, c2, c14', c15', decide_false, fsL_col])
      all_goals clear h53 h69 hrec hev
      all_goals (try simp only [lP, seval, pH_nil, and_true])
      · rename_i h
        simp [simpU, T.isVal, h, fs_val]
      · rename_i h
        have e : simpU op (.val v) = .un op (.val v) := by simp only [simpU, T.isVal, h, and_false, if_false, negT]; split <;> rfl
        rw [e, fs_un, fsL_val]
    | un o x =>
      clear hev0
      simp only [T.isVal, fsL_un] at *
      have c3 : cmpB o = false := lem o hw.1
      have o2 : o ≠ 2 := by have := hw.1; omega
      repeat' (first
       | (with_reducible apply St.o; constructor) <;> intro _
       | with_reducible first | refine LenR_i fun _ => ?_ | refine And.intro (by omega) ?_ | (apply Sp.o; constructor) | refine frz0_i ?_
       | ((with_reducible apply Sc.o true; constructor); simp only [lP, seval, cop, c3, o2, n12, n13, n3, n4, n5, Int.natCast_one, Int.lt_irrefl, List.length_cons, List.length_nil, IdxR_0, ti27, Bool.true_or, Bool.false_or, c1, c2, c14', c15', decide_false, fsL_col]; refine ⟨_, h53 _, ?_⟩; rintro _ _ ⟨rfl, rfl⟩; simp only [lA, lP, ptrCells, ptrAdd, isNil, readsV, readsP, isCall, wrote, srcOf, seval, cop, c3, o2, n12, n13, n3, n4, n5, Int.natCast_one, Int.lt_irrefl, List.length_cons, List.length_nil, IdxR_0, ti27, Bool.true_or, Bool.false_or, c1, c2, c14', c15', decide_false, fsL_col])
       | with_reducible refine any_i [] ?_
       | ((with_reducible refine keep0_i ?_); simp only [lP, seval])
       | simp (maxSteps := 1000000) (disch := omega) only [lE, ptrCells, ptrAdd, isNil, readsV, readsP, isCall, wrote, srcOf, seval, cop, c3, o2, n12, n13, n3, n4, n5, Int.natCast_one, Int.lt_irrefl, List.length_cons, List.length_nil, IdxR_0, ti27, Bool.true_or, Bool.false_or, c1, c2, c14', c15', decide_false, fsL_col])
      all_goals clear h53 h69 hrec
      all_goals try contradiction
      all_goals (simp only [simpU, T.isVal, negT, *]; simp [fs_un, fsL_un, tv_fs, *])
    | bin o x y =>
      clear hev0
      simp only [T.isVal, fsL_bin] at *
      have o1 : o ≠ 14 := by have := hw.1; omega
      repeat' (first
       | (with_reducible apply St.o; constructor) <;> intro _
       | with_reducible first | refine LenR_i fun _ => ?_ | refine And.intro (by omega) ?_ | (apply Sp.o; constructor) | refine frz0_i ?_
       | ((with_reducible apply Sc.o true; constructor); simp only [lP, seval, cop, o1, n12, n13, n3, n4, n5, Int.natCast_one, Int.lt_irrefl, List.length_cons, List.length_nil, IdxR_0, ti27, Bool.true_or, Bool.false_or, c1, c2, c14', c15', decide_false, fsL_col]; (first | refine ⟨_, h53 _, ?_⟩ | refine ⟨_, c71 o (by assumption), ?_⟩); rintro _ _ ⟨rfl, rfl⟩; simp only [lA, lP, ptrCells, ptrAdd, isNil, readsV, readsP, isCall, wrote, srcOf, seval, cop, o1, n12, n13, n3, n4, n5, Int.natCast_one, Int.lt_irrefl, List.length_cons, List.length_nil, IdxR_0, ti27, Bool.true_or, Bool.false_or, c1, c2, c14', c15', decide_false, fsL_col])
       | with_reducible refine any_i [1] ?_
       | ((with_reducible refine keep0_i ?_); simp only [lP, seval])
       | simp (maxSteps := 1000000) (disch := omega) only [lE, ptrCells, ptrAdd, isNil, readsV, readsP, isCall, wrote, srcOf, seval, cop, o1, n12, n13, n3, n4, n5, Int.natCast_one, Int.lt_irrefl, List.length_cons, List.length_nil, IdxR_0, ti27, Bool.true_or, Bool.false_or, c1, c2, c14', c15', decide_false, fsL_col])
      all_goals clear h53 h69 hrec
      all_goals try contradiction
      all_goals (simp only [simpU, T.isVal, negT, *]; simp [fs_un, fs_bin, fsL_bin, *])
end Go.Proofs.Try
