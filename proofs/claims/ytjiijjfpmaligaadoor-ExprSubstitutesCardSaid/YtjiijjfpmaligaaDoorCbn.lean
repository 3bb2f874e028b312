/-
  A part of the proof: see the text of the law.
-/
import Derived.Test.YtjiijjfpmaligaaDoorCbm
set_option linter.unusedSimpArgs false
set_option linter.unusedVariables false
namespace Go.Proofs.Try
open Go.Al
set_option linter.unusedVariables false
set_option linter.unusedSimpArgs false
set_option maxRecDepth 20000
set_option maxHeartbeats 8000000

theorem c39col (l : List T) (n : Int) (h : 0 ≤ n ∧ n < l.length) : ACalls E.P 39 [(T.col n).ex.av, .view 6 (l.map avT)] [] (fun r H => r = (l.getD n.toNat default).ex.av ∧ H = []) := by
  have hmax := maxLen_eq
  obtain ⟨h1, h2⟩ := h
  simp only [tv_fs, fsL_col]
  refine ok39.acalls hE hm (by simp) fun N hN => ?_
  unfold mc39
  simp only [lA, ptrCells, ptrAdd, isNil, readsV, readsP, isCall, wrote, srcOf, seval]
  repeat' (first
   | (with_reducible apply St.o; constructor) <;> intro _
   | with_reducible first | refine LenR_i fun _ => ?_ | refine And.intro (by omega) ?_ | (apply Sp.o; constructor) | refine frz0_i ?_
   | ((with_reducible refine keep0_i ?_); simp only [lP, seval])
   | simp (maxSteps := 1000000) (disch := omega) only [lE, ptrCells, ptrAdd, isNil, readsV, readsP, isCall, wrote, srcOf, seval, IdxR_Ts, ti27, pa_Ts, vw_Ts, pa_exs, vw_exs])
theorem c39val (l : List T) (v : VL) : ACalls E.P 39 [(T.val v).ex.av, .view 6 (l.map avT)] [] (fun r H => r = (T.val v).ex.av ∧ H = []) := by
  have hmax := maxLen_eq
  simp only [tv_fs, fsL_val]
  refine ok39.acalls hE hm (by simp) fun N hN => ?_
  unfold mc39
  simp only [lA, ptrCells, ptrAdd, isNil, readsV, readsP, isCall, wrote, srcOf, seval]
  repeat' (first
   | (with_reducible apply St.o; constructor) <;> intro _
   | with_reducible first | refine LenR_i fun _ => ?_ | refine And.intro (by omega) ?_ | (apply Sp.o; constructor) | refine frz0_i ?_
   | ((with_reducible refine keep0_i ?_); simp only [lP, seval])
   | simp (maxSteps := 1000000) (disch := omega) only [lE, ptrCells, ptrAdd, isNil, readsV, readsP, isCall, wrote, srcOf, seval, List.length_nil, Int.ofNat_zero, ti27, ti24, decide_false])
  refine loop_i (fun i : Nat => i = 0) (fun i => ⟨[(2, .op 0 0), (4, .op 1 0), (5, .op 2 0), (23, .int .i64 0), (24, .int .i64 0)], [.box [.int .i64 2, .int .i64 0, .int .i64 v.k, .int .i64 v.n, .str v.s, .view 6 []], .box out0, .box [.int .i64 2, .int .i64 0, .int .i64 v.k, .int .i64 v.n, .str v.s, .raw (.slice none 0 0)]]⟩) (fun i => 0) 0 rfl (Ent.to [0,1,2] false (by simp) (by simp) rfl (by simp only [lP, seval, pa_Ts] <;> (try simp) <;> (try omega)) (by simp only [lP, seval, pa_Ts] <;> (try simp) <;> (try omega))) ?_
  intro i hi
  repeat' (first
   | (with_reducible apply St.o; constructor) <;> intro _
   | with_reducible first | refine LenR_i fun _ => ?_ | refine And.intro (by omega) ?_ | (apply Sp.o; constructor) | refine frz0_i ?_
   | with_reducible refine keep_exnil ?_
   | ((with_reducible refine keep0_i ?_); simp only [lP, seval])
   | simp (maxSteps := 1000000) (disch := omega) only [lE, ptrCells, ptrAdd, isNil, readsV, readsP, isCall, wrote, srcOf, seval, Int.lt_irrefl, decide_false, ti27, pa_Ts, vw_Ts])
  all_goals (simp only [lP, seval, pH_nil])
theorem c39 (l : List T) : ∀ t : T, t.wf → t.fits l.length → ACalls E.P 39 [t.ex.av, .view 6 (l.map avT)] [] (fun r H => r = (t.subst l).ex.av ∧ H = [])
  | .col n, _, h => c39col l n h
  | .val v, _, _ => c39val l v
  | .un op a, hw, h => c39u l op a (a.subst l) hw.1 (c39 l a hw.2 h)
  | .bin op a b, hw, h => c39b l op a b (a.subst l) (b.subst l) hw.1 (c39 l a hw.2.1 h.1) (c39 l b hw.2.2 h.2)
end Go.Proofs.Try
