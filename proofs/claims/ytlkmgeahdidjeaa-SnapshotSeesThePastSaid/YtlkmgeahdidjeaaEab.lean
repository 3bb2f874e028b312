/-
  A part of the proof: see the text of the law.
-/
import Derived.Test.YtlkmgeahdidjeaaEaa
set_option linter.unusedSimpArgs false
set_option linter.unusedVariables false
namespace Go.Proofs.Try
open Go.Al
set_option maxRecDepth 100000
/-- alum/snapshot.Last -/
def mc15 : MC :=
 (.seq (.ops [(none, (.v (.mov 2 (.c (.int .i64 0)))))])
 (.seq (.ops [(none, (.v (.mov 3 (.c (.int .i64 0)))))])
 (.seq (.seq (.ops [(none, (.v (.mov 6 (.t 0)))),
 (none, (.p (.len 7 (.t 6)))),
 (none, (.v (.mov 8 (.c (.int .i64 0)))))])
 (.block 0 (.loop (.seq (.ops [(none, (.v (.bin 9 .lss false (.t 8) (.t 7))))])
 (.seq (.cond 9
 .skip
 (.exit 0))
 (.seq (.block 1 (.seq (.ops [(none, (.p (.idx 10 4 (.t 6) (.t 8)))),
 (none, (.v (.load 11 true 4 (.t 10)))),
 (none, (.e (.alloc 5 [(.int .i64 0), (.int .i64 0), (.bool false), (.raw (.slice none 0 0))]))),
 (none, (.e (.store 4 true (.t 5) (.t 11))))])
 (.ops [(none, (.v (.mov 12 (.t 3)))),
 (none, (.v (.fld 13 1 (.t 5)))),
 (none, (.v (.load 14 false 1 (.t 13)))),
 (none, (.v (.max 15 [(.t 12), (.t 14)]))),
 (none, (.v (.mov 3 (.t 15))))])))
 (.ops [(none, (.v (.bin 16 .add false (.t 8) (.c (.int .i64 1))))),
 (none, (.v (.mov 8 (.t 16))))])))))))
 (.seq (.ops [(none, (.v (.mov 17 (.t 3)))),
 (none, (.v (.mov 2 (.t 17))))])
 .ret))))
theorem ok15 : FnOk E 15 18 [.tmp 2] mc15 := .of func15 (by kernel_rfl) (by kernel_rfl) (by kernel_rfl) (by kernel_rfl) (by kernel_rfl)
/-- alum/alumref25.Last -/
def mc16 : MC :=
 (.seq (.ops [(none, (.v (.mov 2 (.c (.int .i64 0)))))])
 (.seq (.ops [(none, (.v (.mov 3 (.c (.int .i64 0)))))])
 (.seq (.seq (.ops [(none, (.v (.mov 4 (.c (.int .i64 0)))))])
 (.block 0 (.loop (.seq (.seq (.ops [(none, (.v (.mov 5 (.t 4)))),
 (none, (.v (.mov 6 (.t 0)))),
 (none, (.p (.len 7 (.t 6)))),
 (none, (.v (.bin 8 .lss false (.t 5) (.t 7))))])
 (.cond 8
 .skip
 (.exit 0)))
 (.seq (.block 1 (.ops [(none, (.v (.mov 11 (.t 3)))),
 (none, (.v (.mov 12 (.t 0)))),
 (none, (.v (.mov 13 (.t 4)))),
 (none, (.p (.idx 14 4 (.t 12) (.t 13)))),
 (none, (.v (.fld 15 1 (.t 14)))),
 (none, (.v (.load 16 false 1 (.t 15)))),
 (none, (.v (.max 17 [(.t 11), (.t 16)]))),
 (none, (.v (.mov 3 (.t 17))))]))
 (.ops [(none, (.v (.mov 9 (.t 4)))),
 (none, (.v (.bin 10 .add false (.t 9) (.c (.int .i64 1))))),
 (none, (.v (.mov 4 (.t 10))))]))))))
 (.seq (.ops [(none, (.v (.mov 18 (.t 3)))),
 (none, (.v (.mov 2 (.t 18))))])
 .ret))))
theorem ok16 : FnOk E 16 19 [.tmp 2] mc16 := .of func16 (by kernel_rfl) (by kernel_rfl) (by kernel_rfl) (by kernel_rfl) (by kernel_rfl)
/-- alum/alumref25.Newer -/
def mc18 : MC :=
 (.seq (.ops [(none, (.v (.mov 6 (.c (.bool false)))))])
 (.seq (.seq (.ops [(none, (.v (.mov 7 (.c (.int .i64 0)))))])
 (.block 0 (.loop (.seq (.seq (.ops [(none, (.v (.mov 8 (.t 7)))),
 (none, (.v (.mov 9 (.t 0)))),
 (none, (.p (.len 10 (.t 9)))),
 (none, (.v (.bin 11 .lss false (.t 8) (.t 10))))])
 (.cond 11
 .skip
 (.exit 0)))
 (.seq (.block 1 (.seq (.ops [(none, (.v (.mov 14 (.t 0)))),
 (none, (.v (.mov 15 (.t 7)))),
 (none, (.p (.idx 16 4 (.t 14) (.t 15)))),
 (none, (.v (.fld 17 0 (.t 16)))),
 (none, (.v (.load 18 false 1 (.t 17)))),
 (none, (.v (.mov 19 (.t 1)))),
 (none, (.v (.bin 20 .eql false (.t 18) (.t 19)))),
 (none, (.v (.mov 21 (.t 20)))),
 ((some (21, true)), (.v (.mov 22 (.t 0)))),
 ((some (21, true)), (.v (.mov 23 (.t 7)))),
 ((some (21, true)), (.p (.idx 24 4 (.t 22) (.t 23)))),
 ((some (21, true)), (.v (.fld 25 1 (.t 24)))),
 ((some (21, true)), (.v (.load 26 false 1 (.t 25)))),
 ((some (21, true)), (.v (.mov 27 (.t 2)))),
 ((some (21, true)), (.v (.bin 28 .gtr false (.t 26) (.t 27)))),
 (none, (.v (.pick 29 (.t 21) (.t 28) (.c (.bool false)))))])
 (.cond 29
 (.seq (.ops [(none, (.v (.mov 6 (.c (.bool true)))))])
 .ret)
 .skip)))
 (.ops [(none, (.v (.mov 12 (.t 7)))),
 (none, (.v (.bin 13 .add false (.t 12) (.c (.int .i64 1))))),
 (none, (.v (.mov 7 (.t 13))))]))))))
 (.seq (.ops [(none, (.v (.mov 6 (.c (.bool false)))))])
 .ret)))
theorem ok18 : FnOk E 18 30 [.tmp 6] mc18 := .of func18 (by kernel_rfl) (by kernel_rfl) (by kernel_rfl) (by kernel_rfl) (by kernel_rfl)
/-- alum/snapshot.Newer$1 -/
def mc33 : MC :=
 (.seq (.ops [(none, (.e (.box 3 (.t 0)))),
 (none, (.v (.mov 4 (.c (.bool false)))))])
 (.seq (.ops [(none, (.v (.fld 5 0 (.t 3)))),
 (none, (.v (.load 6 false 1 (.t 5)))),
 (none, (.v (.load 7 false 1 (.t 1)))),
 (none, (.v (.bin 8 .eql false (.t 6) (.t 7)))),
 (none, (.v (.mov 9 (.t 8)))),
 ((some (9, true)), (.v (.fld 10 1 (.t 3)))),
 ((some (9, true)), (.v (.load 11 false 1 (.t 10)))),
 ((some (9, true)), (.v (.load 12 false 1 (.t 2)))),
 ((some (9, true)), (.v (.bin 13 .gtr false (.t 11) (.t 12)))),
 (none, (.v (.pick 14 (.t 9) (.t 13) (.c (.bool false))))),
 (none, (.v (.mov 4 (.t 14))))])
 .ret))
theorem ok33 : FnOk E 33 15 [.tmp 4] mc33 := .of func33 (by kernel_rfl) (by kernel_rfl) (by kernel_rfl) (by kernel_rfl) (by kernel_rfl)
end Go.Proofs.Try
namespace Go.Proofs.Try
open Go.Al
set_option linter.unusedVariables false
set_option linter.unusedSimpArgs false
set_option maxRecDepth 20000

theorem take_succD {α : Type} [Inhabited α] {l : List α} {i : Nat} (h : i < l.length) : l.take (i + 1) = l.take i ++ [l.getD i default] := by
  rw [List.take_succ_eq_append_getElem h]
  simp [h]
/-- The greatest stamp. -/
def last (l : List Ver) : Int := l.foldl (fun m v => max m v.stamp) 0
theorem last_next {l : List Ver} {i : Nat} (h : i < l.length) : last (l.take (i + 1)) = max (last (l.take i)) (l.getD i default).stamp := by
  rw [take_succD h, last, List.foldl_append]; rfl
theorem last_nextI {l : List Ver} {i : Nat} (h : i < l.length) : (if last (l.take i) < (l[i]?.getD default).stamp then (l[i]?.getD default).stamp else last (l.take i)) = last (l.take (i + 1)) := by
  rw [last_next h, List.getD_eq_getElem?_getD]
  split <;> omega
theorem c15 (l : List Ver) : ACalls E.P 15 [.view 4 (l.map Ver.av)] [] (fun r H => r = .int .i64 (last l) ∧ H = []) := by
  have hmax := maxLen_eq
  refine ok15.acalls hE hm (by simp) fun N hN => ?_
  unfold mc15
  simp only [lA, ptrCells, ptrAdd, isNil, readsV, readsP, isCall, wrote, srcOf, seval]
  refine LenR_i fun hl => ?_
  rw [List.length_map, hmax] at hl
  simp only [lA, ptrCells, ptrAdd, isNil, readsV, readsP, isCall, wrote, srcOf, seval, List.length_map]
  refine loop_i (fun i : Nat => i ≤ l.length) (fun i => ⟨[(0, .view 4 (l.map Ver.av)), (3, .int .i64 (last (l.take i))), (6, .view 4 (l.map Ver.av)), (7, .int .i64 l.length), (8, .int .i64 i)], []⟩) (fun i => l.length - i) 0 (by omega) (Ent.to [] false (by simp) (by simp) rfl (by simp only [lP, seval, List.length_map, last, List.take_zero, List.foldl_nil] <;> (try simp) <;> (try omega)) (by simp only [lP, seval, List.length_map, last, List.take_zero, List.foldl_nil] <;> (try simp) <;> (try omega))) ?_
  intro i hi
  repeat' (first
   | (with_reducible apply St.o; constructor) <;> intro _
   | with_reducible first | refine LenR_i fun _ => ?_ | refine And.intro (by omega) ?_ | (apply Sp.o; constructor) | refine mkl_own ?_ | refine frz0_i ?_
   | ((with_reducible refine keep0_i ?_); simp only [lP, seval])
   | simp (maxSteps := 1000000) (disch := omega) only [lE, ptrCells, ptrAdd, isNil, readsV, readsP, isCall, wrote, srcOf, seval, IdxR_vers, Int.toNat_natCast, List.length_map])
  · rename_i h1
    have e := last_nextI (l := l) (i := i) (by omega)
    exact back_i (i + 1) (by omega) (by omega) (Ent.to [] false (by simp) (by simp) rfl (by simp only [lP, seval, e] <;> (try simp) <;> (try omega)) (by simp only [lP, seval, e] <;> (try simp) <;> (try omega)))
  · rename_i h1
    rw [List.take_of_length_le (by omega)]
theorem c16 (l : List Ver) : ACalls E.P 16 [.view 4 (l.map Ver.av)] [] (fun r H => r = .int .i64 (last l) ∧ H = []) := by
  have hmax := maxLen_eq
  refine ok16.acalls hE hm (by simp) fun N hN => ?_
  unfold mc16
  simp only [lA, ptrCells, ptrAdd, isNil, readsV, readsP, isCall, wrote, srcOf, seval]
  refine loop_i (fun i : Nat => i ≤ l.length) (fun i => ⟨[(0, .view 4 (l.map Ver.av)), (3, .int .i64 (last (l.take i))), (4, .int .i64 i)], []⟩) (fun i => l.length - i) 0 (by omega) (Ent.to [] false (by simp) (by simp) rfl (by simp only [lP, seval, List.length_map, last, List.take_zero, List.foldl_nil] <;> (try simp) <;> (try omega)) (by simp only [lP, seval, List.length_map, last, List.take_zero, List.foldl_nil] <;> (try simp) <;> (try omega))) ?_
  intro i hi
  repeat' (first
   | (with_reducible apply St.o; constructor) <;> intro _
   | with_reducible first | refine LenR_i fun _ => ?_ | refine And.intro (by omega) ?_ | (apply Sp.o; constructor) | refine mkl_own ?_ | refine frz0_i ?_
   | ((with_reducible refine keep0_i ?_); simp only [lP, seval])
   | simp (maxSteps := 1000000) (disch := omega) only [lE, ptrCells, ptrAdd, isNil, readsV, readsP, isCall, wrote, srcOf, seval, IdxR_vers, Int.toNat_natCast, List.length_map])
  · rename_i h1
    have e := last_nextI (l := l) (i := i) (by omega)
    exact back_i (i + 1) (by omega) (by omega) (Ent.to [] false (by simp) (by simp) rfl (by simp only [lP, seval, e] <;> (try simp) <;> (try omega)) (by simp only [lP, seval, e] <;> (try simp) <;> (try omega)))
  · rename_i h1
    rw [List.take_of_length_le (by omega)]
/-- Is there a newer version? -/
def newer (l : List Ver) (row snap : Int) : Bool := l.any fun v => decide (v.row = row) && decide (v.stamp > snap)
theorem any_next {α : Type} [Inhabited α] {p : α → Bool} {l : List α} {i : Nat} (h : i < l.length) (h1 : (l.take i).any p = false) (h2 : p (l.getD i default) = false) : (l.take (i + 1)).any p = false := by
  rw [take_succD h, List.any_append, h1]
  simpa using h2
theorem any_at {α : Type} [Inhabited α] {p : α → Bool} {l : List α} {i : Nat} (h : i < l.length) (h2 : p (l.getD i default) = true) : l.any p = true := by
  rw [List.any_eq_true]
  exact ⟨l[i], by simp, by simpa [h] using h2⟩
theorem c18 (l : List Ver) (row snap : Int) : ACalls E.P 18 [.view 4 (l.map Ver.av), .int .i64 row, .int .i64 snap] [] (fun r H => r = .bool (newer l row snap) ∧ H = []) := by
  have hmax := maxLen_eq
  refine ok18.acalls hE hm (by simp) fun N hN => ?_
  unfold mc18
  simp only [lA, ptrCells, ptrAdd, isNil, readsV, readsP, isCall, wrote, srcOf, seval]
  refine loop_i (fun i : Nat => i ≤ l.length ∧ newer (l.take i) row snap = false) (fun i => ⟨[(0, .view 4 (l.map Ver.av)), (1, .int .i64 row), (2, .int .i64 snap), (7, .int .i64 i)], []⟩) (fun i => l.length - i) 0 ⟨by omega, rfl⟩ (Ent.to [] false (by simp) (by simp) rfl (by simp only [lP, seval, List.length_map] <;> (try simp) <;> (try omega)) (by simp only [lP, seval, List.length_map] <;> (try simp) <;> (try omega))) ?_
  rintro i ⟨hi, ha⟩
  repeat' (first
   | (with_reducible apply St.o; constructor) <;> intro _
   | with_reducible first | refine LenR_i fun _ => ?_ | refine And.intro (by omega) ?_ | (apply Sp.o; constructor) | refine mkl_own ?_ | refine frz0_i ?_
   | ((with_reducible refine keep0_i ?_); simp only [lP, seval])
   | simp (maxSteps := 1000000) (disch := omega) only [lE, ptrCells, ptrAdd, isNil, readsV, readsP, isCall, wrote, srcOf, seval, IdxR_vers, Int.toNat_natCast, List.length_map])
  all_goals try (rename_i h1 h2 h3; rw [eq_comm, AV.bool.injEq]; exact any_at (i := i) (by omega) (by simp; exact ⟨by simpa using h2, by simpa using h3⟩))
  · rename_i h1 h2 h3
    exact back_i (i + 1) ⟨by omega, any_next (by omega) ha (by simp; intro _; simpa using h3)⟩ (by omega) (Ent.to [] false (by simp) (by simp) rfl (by simp only [lP, seval] <;> (try simp) <;> (try omega)) (by simp only [lP, seval] <;> (try simp) <;> (try omega)))
  · rename_i h1 h2
    exact back_i (i + 1) ⟨by omega, any_next (by omega) ha (by simp; intro h; exact absurd h (by simpa using h2))⟩ (by omega) (Ent.to [] false (by simp) (by simp) rfl (by simp only [lP, seval] <;> (try simp) <;> (try omega)) (by simp only [lP, seval] <;> (try simp) <;> (try omega)))
  · rename_i h1
    rw [List.take_of_length_le (by omega)] at ha
    rw [ha]
/-- The function that Newer hands over. -/
theorem c33 (v : Ver) (row snap : Int) : ACalls E.P 33 [v.av, .vp [.int .i64 row], .vp [.int .i64 snap]] [] (fun r H => r = .bool (decide (v.row = row) && decide (v.stamp > snap)) ∧ H = []) := by
  refine ok33.acalls hE hm (by simp) fun N hN => ?_
  unfold mc33
  simp only [lA, ptrCells, ptrAdd, isNil, readsV, readsP, isCall, wrote, srcOf, seval, ver_av]
  repeat' (first
   | (with_reducible apply St.o; constructor) <;> intro _
   | with_reducible first | refine LenR_i fun _ => ?_ | refine And.intro (by omega) ?_ | (apply Sp.o; constructor) | refine mkl_own ?_ | refine frz0_i ?_
   | ((with_reducible refine keep0_i ?_); simp only [lP, seval])
   | simp (maxSteps := 1000000) (disch := omega) only [lE, ptrCells, ptrAdd, isNil, readsV, readsP, isCall, wrote, srcOf, seval])
  all_goals simp_all
end Go.Proofs.Try
