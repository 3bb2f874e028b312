/-
  A part of the proof: see the text of the law.
-/
import Derived.Test.YtlkmgeahdidjeaaEai
set_option linter.unusedSimpArgs false
set_option linter.unusedVariables false
namespace Go.Proofs.Try
open Go.Al
set_option maxRecDepth 100000
/-- alum/snapshot.rows -/
def mc35 : MC :=
 (.seq (.ops [(none, (.e (.box 1 (.t 0)))),
 (none, (.v (.mov 2 (.c (.raw .nilFunc)))))])
 (.seq (.ops [(none, (.v (.fn 3 (.func 44) [] [(.t 1)]))),
 (none, (.v (.mov 2 (.t 3))))])
 .ret))
theorem ok35 : FnOk E 35 4 [.tmp 2] mc35 := .of func35 (by kernel_rfl) (by kernel_rfl) (by kernel_rfl) (by kernel_rfl) (by kernel_rfl)
/-- alum/snapshot.sees -/
def mc36 : MC :=
 (.seq (.ops [(none, (.v (.mov 4 (.c (.int .i64 0)))))])
 (.seq (.ops [(none, (.v (.mov 8 (.t 0)))),
 (none, (.v (.mov 9 (.t 1)))),
 (none, (.e (.call (some 10) 45 [(.t 8), (.t 9), (.c (.fn (.func 46) [] []))]))),
 (none, (.v (.mov 7 (.t 10)))),
 (none, (.v (.ext 11 0 (.t 7)))),
 (none, (.v (.ext 12 1 (.t 7)))),
 (none, (.v (.mov 5 (.t 11)))),
 (none, (.v (.mov 6 (.t 12))))])
 (.seq (.seq (.ops [(none, (.v (.mov 13 (.t 6))))])
 (.cond 13
 (.seq (.ops [(none, (.v (.mov 14 (.t 5)))),
 (none, (.v (.mov 4 (.t 14))))])
 .ret)
 .skip))
 (.seq (.ops [(none, (.v (.mov 15 (.t 5)))),
 (none, (.v (.bin 16 .sub false (.t 15) (.c (.int .i64 1))))),
 (none, (.v (.mov 4 (.t 16))))])
 .ret))))
theorem ok36 : FnOk E 36 17 [.tmp 4] mc36 := .of func36 (by kernel_rfl) (by kernel_rfl) (by kernel_rfl) (by kernel_rfl) (by kernel_rfl)
end Go.Proofs.Try
namespace Go.Proofs.Try
open Go.Al
set_option linter.unusedVariables false
set_option linter.unusedSimpArgs false
set_option maxRecDepth 20000
set_option maxHeartbeats 4000000

/-- The place that a snapshot sees among the versions of one row. -/
def seesS (r : List Ver) (snap : Int) : Int := ((r.takeWhile fun v => decide (v.stamp ≤ snap)).length : Int) - 1
theorem tw_len {α : Type} [Inhabited α] {p : α → Bool} : ∀ {l : List α} {m : Nat}, m ≤ l.length → (∀ k, k < m → p (l.getD k default) = true) → (m < l.length → p (l.getD m default) = false) → (l.takeWhile p).length = m
  | [], m, h, _, _ => by simp at h; subst h; rfl
  | x :: l, 0, h, h1, h2 => by
    have := h2 (by simp)
    simp at this
    simp [this]
  | x :: l, m + 1, h, h1, h2 => by
    have hx := h1 0 (by omega)
    simp at hx
    rw [List.takeWhile_cons, hx, if_pos rfl, List.length_cons, tw_len (l := l) (m := m) (by simpa using h) (fun k hk => by simpa using h1 (k + 1) (by omega)) (fun hm => by simpa using h2 (by simpa using hm))]
def ascS (l : List Ver) : Prop := l.Pairwise fun a b => a.stamp < b.stamp
theorem ascS.asc {l : List Ver} (h : ascS l) : asc l := h.imp fun h => Int.le_of_lt h
theorem ascS_get {l : List Ver} (h : ascS l) {i j : Nat} (hij : i < j) (hj : j < l.length) : (l.getD i default).stamp < (l.getD j default).stamp := by
  have := List.pairwise_iff_getElem.1 h i j (by omega) hj hij
  simpa [hj, show i < l.length by omega] using this
theorem c36 (r : List Ver) (snap : Int) (ha : ascS r) (hc : r.length ≤ 1048576) : ACalls E.P 36 [.view 4 (r.map Ver.av), .int .i64 snap] [] (fun q H => q = .int .i64 (seesS r snap) ∧ H = []) := by
  have h45 := c45 r snap ha.asc hc
  refine ok36.acalls hE hm (by simp) fun N hN => ?_
  unfold mc36
  simp only [lA, ptrCells, ptrAdd, isNil, readsV, readsP, isCall, wrote, srcOf, seval]
  repeat' (first
   | (with_reducible apply St.o; constructor) <;> intro _
   | with_reducible first | refine LenR_i fun _ => ?_ | refine And.intro (by omega) ?_ | (apply Sp.o; constructor) | refine mkl_own ?_ | refine frz0_i ?_
   | ((with_reducible apply Sc.o true; constructor); simp only [lP, seval]; refine ⟨_, h45, ?_⟩; rintro _ _ ⟨⟨n, hn1, hn2, hn3, rfl⟩, rfl⟩; simp only [lA, lP, ptrCells, ptrAdd, isNil, readsV, readsP, isCall, wrote, srcOf, seval])
   | ((with_reducible refine keep0_i ?_); simp only [lP, seval])
   | simp (maxSteps := 1000000) (disch := omega) only [lE, ptrCells, ptrAdd, isNil, readsV, readsP, isCall, wrote, srcOf, seval])
  · rename_i g
    simp only [AV.int.injEq, true_and, seesS]
    rw [tw_len (m := n + 1) (by omega) (fun k hk => ?_) (fun hm => ?_)]
    · omega
    · by_cases hkn : k = n
      · rw [hkn, g.2]; simp
      · have := hn2 k (by omega); simp only [decide_eq_true_eq]; omega
    · have := ascS_get ha (i := n) (j := n + 1) (by omega) hm
      simp only [decide_eq_false_iff_not]; omega
  · rename_i g
    simp only [AV.int.injEq, true_and, seesS]
    rw [tw_len (m := n) (by omega) (fun k hk => ?_) (fun hm => ?_)]
    · have := hn2 k hk; simp only [decide_eq_true_eq]; omega
    · have := hn3 n (by omega) hm
      simp only [decide_eq_false_iff_not]; omega
theorem c35 (l : List Ver) : ACalls E.P 35 [.view 4 (l.map Ver.av)] [] (fun r H => r = .fn (.func 44) [] [.vp [.view 4 (l.map Ver.av)]] ∧ H = []) := by
  refine ok35.acalls hE hm (by simp) fun N hN => ?_
  unfold mc35
  simp only [lA, ptrCells, ptrAdd, isNil, readsV, readsP, isCall, wrote, srcOf, seval]
  refine keep_i [] true (by simp) (by simp) rfl ?_
  simp only [lP, seval]

/-- How many of the first versions are of the first one's row. -/
def runN (r : List Ver) : Nat := 1 + (r.tail.takeWhile fun v => decide (v.row = (r.getD 0 default).row)).length
theorem runN_le {r : List Ver} (h : r ≠ []) : 1 ≤ runN r ∧ runN r ≤ r.length := by
  cases r with
  | nil => exact absurd rfl h
  | cons x t =>
    have := (List.takeWhile_sublist (l := t) (fun v => decide (v.row = ((x :: t).getD 0 default).row))).length_le
    simp only [runN, List.tail_cons, List.length_cons]
    omega
/-- The versions row by row. -/
def groups (r : List Ver) : List (List Ver) :=
  match h : r with
  | [] => []
  | x :: t => r.take (runN r) :: groups (r.drop (runN r))
termination_by r.length
decreasing_by
  subst h
  have := runN_le (r := x :: t) (by simp)
  simp only [List.length_drop, List.length_cons] at *
  omega
theorem groups_cons {r : List Ver} (h : r ≠ []) : groups r = r.take (runN r) :: groups (r.drop (runN r)) := by
  cases r with
  | nil => exact absurd rfl h
  | cons x t => rw [groups]
theorem groups_nil : groups [] = [] := by rw [groups]
end Go.Proofs.Try
