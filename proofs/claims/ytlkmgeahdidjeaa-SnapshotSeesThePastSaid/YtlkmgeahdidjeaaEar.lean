/-
  A part of the proof: see the text of the law.
-/
import Derived.Test.YtlkmgeahdidjeaaEae
import Derived.Test.YtlkmgeahdidjeaaAlphaK
set_option linter.unusedSimpArgs false
set_option linter.unusedVariables false
namespace Go.Proofs.Try
open Go.Al
set_option maxRecDepth 100000
/-- slices.Clone[[]int,int] -/
def mc39 : MC :=
 (.seq (.ops [(none, (.v (.mov 2 (.c (.raw (.slice none 0 0))))))])
 (.seq (.seq (.ops [(none, (.v (.mov 3 (.t 0)))),
 (none, (.v (.eq 4 false .slc (.t 3) (.c (.raw (.slice none 0 0))))))])
 (.cond 4
 (.seq (.ops [(none, (.v (.mov 2 (.c (.raw (.slice none 0 0))))))])
 .ret)
 .skip))
 (.seq (.ops [(none, (.e (.mkl 5 3 1 0 (.int .i64 0) []))),
 (none, (.v (.mov 6 (.t 0)))),
 (none, (.e (.app 7 3 1 8 (.t 5) (.t 6)))),
 (none, (.v (.mov 2 (.t 7))))])
 .ret)))
theorem ok39 : FnOk E 39 8 [.tmp 2] mc39 := .of func39 (by kernel_rfl) (by kernel_rfl) (by kernel_rfl) (by kernel_rfl) (by kernel_rfl)
/-- slices.Clone[[]alum/api.Version,alum/api.Version] -/
def mc41 : MC :=
 (.seq (.ops [(none, (.v (.mov 2 (.c (.raw (.slice none 0 0))))))])
 (.seq (.seq (.ops [(none, (.v (.mov 3 (.t 0)))),
 (none, (.v (.eq 4 false .slc (.t 3) (.c (.raw (.slice none 0 0))))))])
 (.cond 4
 (.seq (.ops [(none, (.v (.mov 2 (.c (.raw (.slice none 0 0))))))])
 .ret)
 .skip))
 (.seq (.ops [(none, (.e (.mkl 5 29 4 0 (.agg [(.int .i64 0), (.int .i64 0), (.bool false), (.raw (.slice none 0 0))]) []))),
 (none, (.v (.mov 6 (.t 0)))),
 (none, (.e (.app 7 29 4 48 (.t 5) (.t 6)))),
 (none, (.v (.mov 2 (.t 7))))])
 .ret)))
theorem ok41 : FnOk E 41 8 [.tmp 2] mc41 := .of func41 (by kernel_rfl) (by kernel_rfl) (by kernel_rfl) (by kernel_rfl) (by kernel_rfl)
end Go.Proofs.Try
namespace Go.Proofs.Try
open Go.Al
set_option linter.unusedVariables false
set_option linter.unusedSimpArgs false
set_option maxRecDepth 20000
set_option maxHeartbeats 8000000

theorem c41 (v : Ver) (l : List Ver) (h60 : l.length ≤ 1048576) : ACalls E.P 41 [.view 4 ((v :: l).map Ver.av)] [] (fun r H => r = .slc 0 4 (l.length + 1) ∧ H = [.arr 29 4 ((v :: l).map Ver.av)]) := by
  have hmax := maxLen_eq
  refine ok41.acalls hE hm (by simp) fun N hN => ?_
  unfold mc41
  simp only [lA, ptrCells, ptrAdd, isNil, readsV, readsP, isCall, wrote, srcOf, seval, List.map_cons]
  repeat' (first
   | (with_reducible apply St.o; constructor) <;> intro _
   | with_reducible first | refine LenR_i fun _ => ?_ | refine And.intro (by omega) ?_ | (apply Sp.o; constructor) | refine mkl_own ?_ | refine frz0_i ?_
   | simp (maxSteps := 1000000) (disch := omega) only [lE, ptrCells, ptrAdd, isNil, readsV, readsP, isCall, wrote, srcOf, seval, List.length_map, List.length_cons])
  refine keep_i [1] false (by simp) (by simp) rfl ⟨by simp only [lP, seval], ?_⟩
  have e := pa_vers (H := [AObj.dead, AObj.arr 29 4 ((v :: l).map Ver.av)]) (l := [1]) (bor := false) (n := 7) (xs := v :: l)
  simp only [List.map_cons] at e
  simp only [lP, seval, e]
theorem c41n : ACalls E.P 41 [.view 4 []] [] (fun r H => (r = .raw (.slice none 0 0) ∧ H = []) ∨ (r = .slc 0 4 0 ∧ H = [.arr 29 4 []])) := by
  refine ACalls.view0 fun a c => ?_
  refine ok41.acalls hE hm (by simp) fun N hN => ?_
  unfold mc41
  simp only [lA, ptrCells, ptrAdd, isNil, readsV, readsP, isCall, wrote, srcOf, seval]
  cases a with
  | none =>
    repeat' (first
     | (with_reducible apply St.o; constructor) <;> intro _
     | with_reducible first | refine LenR_i fun _ => ?_ | refine And.intro (by omega) ?_ | (apply Sp.o; constructor) | refine mkl_own ?_ | refine frz0_i ?_
     | simp (maxSteps := 1000000) (disch := omega) only [lE, ptrCells, ptrAdd, isNil, readsV, readsP, isCall, wrote, srcOf, seval, slcNil, isEmptySlice, Option.isNone_none])
    all_goals try (rename_i h; simp at h; done)
    exact keep_i [] false rfl (by simp) rfl (.inl ⟨by simp only [lP, seval], by simp only [lP, seval]⟩)
  | some b =>
    repeat' (first
     | (with_reducible apply St.o; constructor) <;> intro _
     | with_reducible first | refine LenR_i fun _ => ?_ | refine And.intro (by omega) ?_ | (apply Sp.o; constructor) | refine mkl_own ?_ | refine frz0_i ?_
     | simp (maxSteps := 1000000) (disch := omega) only [lE, ptrCells, ptrAdd, isNil, readsV, readsP, isCall, wrote, srcOf, seval, slcNil, isEmptySlice, Option.isNone_some])
    all_goals try (rename_i h; simp at h; done)
    exact keep_i [1] false (by simp) (by simp) rfl (.inr ⟨by simp only [lP, seval], by simp only [lP, seval, List.map_nil]⟩)
theorem c39 (v : Int) (l : List Int) (h60 : l.length ≤ 1048576) : ACalls E.P 39 [.view 1 ((v :: l).map (AV.int .i64))] [] (fun r H => r = .slc 0 1 (l.length + 1) ∧ H = [.arr 3 1 ((v :: l).map (AV.int .i64))]) := by
  have hmax := maxLen_eq
  refine ok39.acalls hE hm (by simp) fun N hN => ?_
  unfold mc39
  simp only [lA, ptrCells, ptrAdd, isNil, readsV, readsP, isCall, wrote, srcOf, seval, List.map_cons]
  repeat' (first
   | (with_reducible apply St.o; constructor) <;> intro _
   | with_reducible first | refine LenR_i fun _ => ?_ | refine And.intro (by omega) ?_ | (apply Sp.o; constructor) | refine mkl_own ?_ | refine frz0_i ?_
   | simp (maxSteps := 1000000) (disch := omega) only [lE, ptrCells, ptrAdd, isNil, readsV, readsP, isCall, wrote, srcOf, seval, List.length_map, List.length_cons])
  exact keep_i [1] false (by simp) (by simp) rfl ⟨by simp only [lP, seval], by simp only [lP, seval, List.map_cons]⟩
theorem c39n : ACalls E.P 39 [.view 1 []] [] (fun r H => (r = .raw (.slice none 0 0) ∧ H = []) ∨ (r = .slc 0 1 0 ∧ H = [.arr 3 1 []])) := by
  refine ACalls.view0 fun a c => ?_
  refine ok39.acalls hE hm (by simp) fun N hN => ?_
  unfold mc39
  simp only [lA, ptrCells, ptrAdd, isNil, readsV, readsP, isCall, wrote, srcOf, seval]
  cases a with
  | none =>
    repeat' (first
     | (with_reducible apply St.o; constructor) <;> intro _
     | with_reducible first | refine LenR_i fun _ => ?_ | refine And.intro (by omega) ?_ | (apply Sp.o; constructor) | refine mkl_own ?_ | refine frz0_i ?_
     | simp (maxSteps := 1000000) (disch := omega) only [lE, ptrCells, ptrAdd, isNil, readsV, readsP, isCall, wrote, srcOf, seval, slcNil, isEmptySlice, Option.isNone_none])
    all_goals try (rename_i h; simp at h; done)
    exact keep_i [] false rfl (by simp) rfl (.inl ⟨by simp only [lP, seval], by simp only [lP, seval]⟩)
  | some b =>
    repeat' (first
     | (with_reducible apply St.o; constructor) <;> intro _
     | with_reducible first | refine LenR_i fun _ => ?_ | refine And.intro (by omega) ?_ | (apply Sp.o; constructor) | refine mkl_own ?_ | refine frz0_i ?_
     | simp (maxSteps := 1000000) (disch := omega) only [lE, ptrCells, ptrAdd, isNil, readsV, readsP, isCall, wrote, srcOf, seval, slcNil, isEmptySlice, Option.isNone_some])
    all_goals try (rename_i h; simp at h; done)
    exact keep_i [1] false (by simp) (by simp) rfl (.inr ⟨by simp only [lP, seval], by simp only [lP, seval, List.map_nil]⟩)
end Go.Proofs.Try
