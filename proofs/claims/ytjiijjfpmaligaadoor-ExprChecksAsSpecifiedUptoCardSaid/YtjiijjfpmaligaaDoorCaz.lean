/-
  A part of the proof: see the text of the law.
-/
import Derived.Test.YtjiijjfpmaligaaDoorCav
set_option linter.unusedSimpArgs false
set_option linter.unusedVariables false
namespace Go.Proofs.Try
open Go.Al
set_option linter.unusedVariables false
set_option linter.unusedSimpArgs false
set_option maxRecDepth 20000
set_option maxHeartbeats 16000000

/-! ### the law's own helpers -/
theorem c45 (op : Int) (a b : T) : ACalls E.P 45 [.int .i64 op, .agg a.ex.fs, .agg b.ex.fs] [] (fun r H => r = .agg (T.bin op a b).ex.fs ∧ H = []) := by
  refine ok45.acalls hE hm (by simp) fun N hN => ?_
  unfold mc45
  simp only [lA, ptrCells, ptrAdd, isNil, readsV, readsP, isCall, wrote, srcOf, seval]
  repeat' (first
   | (with_reducible apply St.o; constructor) <;> intro _
   | with_reducible first | refine LenR_i fun _ => ?_ | refine And.intro (by omega) ?_ | (apply Sp.o; constructor) | refine frz0_i ?_
   | with_reducible refine keepT_i ?_
   | ((with_reducible refine keep0_i ?_); simp only [lP, seval])
   | simp (maxSteps := 1000000) (disch := omega) only [lE, ptrCells, ptrAdd, isNil, readsV, readsP, isCall, wrote, srcOf, seval, ti27])
  simp only [lP, seval, vw_exs, fsL_bin]
theorem c46 (n : Int) : ACalls E.P 46 [.int .i64 n] [] (fun r H => r = .agg (T.col n).ex.fs ∧ H = []) := by
  refine ok46.acalls hE hm (by simp) fun N hN => ?_
  unfold mc46
  simp only [lA, ptrCells, ptrAdd, isNil, readsV, readsP, isCall, wrote, srcOf, seval]
  repeat' (first
   | (with_reducible apply St.o; constructor) <;> intro _
   | with_reducible first | refine LenR_i fun _ => ?_ | refine And.intro (by omega) ?_ | (apply Sp.o; constructor) | refine frz0_i ?_
   | with_reducible refine keep_exnil ?_
   | ((with_reducible refine keep0_i ?_); simp only [lP, seval])
   | simp (maxSteps := 1000000) (disch := omega) only [lE, ptrCells, ptrAdd, isNil, readsV, readsP, isCall, wrote, srcOf, seval, ti27])
  simp only [pH_nil, and_true]
  rfl
theorem c47 (n : Int) : ACalls E.P 47 [.int .i64 n] [] (fun r H => r = .agg (T.val ⟨1, n, ⟨#[]⟩⟩).ex.fs ∧ H = []) := by
  refine ok47.acalls hE hm (by simp) fun N hN => ?_
  unfold mc47
  simp only [lA, ptrCells, ptrAdd, isNil, readsV, readsP, isCall, wrote, srcOf, seval]
  repeat' (first
   | (with_reducible apply St.o; constructor) <;> intro _
   | with_reducible first | refine LenR_i fun _ => ?_ | refine And.intro (by omega) ?_ | (apply Sp.o; constructor) | refine frz0_i ?_
   | with_reducible refine keep_exnil ?_
   | ((with_reducible refine keep0_i ?_); simp only [lP, seval])
   | simp (maxSteps := 1000000) (disch := omega) only [lE, ptrCells, ptrAdd, isNil, readsV, readsP, isCall, wrote, srcOf, seval, ti27])
  simp only [pH_nil, and_true]
  rfl
theorem c48 (a : T) : ACalls E.P 48 [.agg a.ex.fs] [] (fun r H => r = .agg (T.un 14 a).ex.fs ∧ H = []) := by
  refine ok48.acalls hE hm (by simp) fun N hN => ?_
  unfold mc48
  simp only [lA, ptrCells, ptrAdd, isNil, readsV, readsP, isCall, wrote, srcOf, seval]
  repeat' (first
   | (with_reducible apply St.o; constructor) <;> intro _
   | with_reducible first | refine LenR_i fun _ => ?_ | refine And.intro (by omega) ?_ | (apply Sp.o; constructor) | refine frz0_i ?_
   | with_reducible refine keepT_i ?_
   | ((with_reducible refine keep0_i ?_); simp only [lP, seval])
   | simp (maxSteps := 1000000) (disch := omega) only [lE, ptrCells, ptrAdd, isNil, readsV, readsP, isCall, wrote, srcOf, seval, ti27])
  simp only [lP, seval, vw_exs, fsL_un]
/-- A constant whose arguments are nil. -/
abbrev nilC (v : VL) : AV := .agg [.int .i64 2, .int .i64 0, .int .i64 v.k, .int .i64 v.n, .str v.s, .raw (.slice none 0 0)]
theorem nil_weak (v : VL) : Weak (nilC v) (.agg (T.val v).ex.fs) := agg_snoc (l := [_, _, _, _, _]) weak_nil
theorem weak_arg3 {P : Program} {f : FuncId} {x y z z' : AV} {H : List AObj} {Q : AV → List AObj → Prop} (hw : Weak z z') (h : ACalls P f [x, y, z'] H Q) : ACalls P f [x, y, z] H Q :=
  ⟨h.1, fun γ σ w vs hi hv => by
    obtain ⟨u1, vs1, rfl, h1, u2, vs2, rfl, h2, u3, vs3, rfl, h3, h4⟩ := hv
    exact h.2 γ σ w _ hi ⟨u1, _, rfl, h1, u2, _, rfl, h2, u3, _, rfl, hw γ σ u3 h3, h4⟩⟩
theorem c45n (op : Int) (a : T) (v : VL) : ACalls E.P 45 [.int .i64 op, .agg a.ex.fs, nilC v] [] (fun r H => r = .agg (T.bin op a (.val v)).ex.fs ∧ H = []) :=
  weak_arg3 (nil_weak v) (c45 op a (.val v))
end Go.Proofs.Try
