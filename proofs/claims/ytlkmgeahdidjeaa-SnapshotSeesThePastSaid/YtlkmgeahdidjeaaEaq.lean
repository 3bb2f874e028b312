/-
  A part of the proof: see the text of the law.
-/
import Derived.Test.YtlkmgeahdidjeaaEap
set_option linter.unusedSimpArgs false
set_option linter.unusedVariables false
namespace Go.Proofs.Try
open Go.Al
set_option maxRecDepth 100000
/-- alum/snapshot.Changed -/
def mc24 : MC :=
 (.seq (.ops [(none, (.v (.mov 6 (.c (.raw (.slice none 0 0))))))])
 (.seq (.ops [(none, (.v (.mov 7 (.c (.raw (.slice none 0 0))))))])
 (.seq (.seq (.ops [(none, (.v (.mov 10 (.t 0)))),
 (none, (.p (.len 11 (.t 10)))),
 (none, (.v (.mov 12 (.c (.int .i64 0)))))])
 (.block 0 (.loop (.seq (.ops [(none, (.v (.bin 13 .lss false (.t 12) (.t 11))))])
 (.seq (.cond 13
 .skip
 (.exit 0))
 (.seq (.block 1 (.seq (.ops [(none, (.p (.idx 14 4 (.t 10) (.t 12)))),
 (none, (.v (.load 15 true 4 (.t 14)))),
 (none, (.e (.alloc 9 [(.int .i64 0), (.int .i64 0), (.bool false), (.raw (.slice none 0 0))]))),
 (none, (.e (.store 4 true (.t 9) (.t 15))))])
 (.seq (.ops [(none, (.v (.fld 16 1 (.t 9)))),
 (none, (.v (.load 17 false 1 (.t 16)))),
 (none, (.v (.mov 18 (.t 1)))),
 (none, (.v (.bin 19 .gtr false (.t 17) (.t 18)))),
 (none, (.v (.mov 20 (.t 19)))),
 ((some (20, true)), (.v (.fld 21 1 (.t 9)))),
 ((some (20, true)), (.v (.load 22 false 1 (.t 21)))),
 ((some (20, true)), (.v (.mov 23 (.t 2)))),
 ((some (20, true)), (.v (.bin 24 .leq false (.t 22) (.t 23)))),
 (none, (.v (.pick 25 (.t 20) (.t 24) (.c (.bool false)))))])
 (.cond 25
 (.ops [(none, (.v (.mov 26 (.t 7)))),
 (none, (.v (.fld 27 0 (.t 9)))),
 (none, (.v (.load 28 false 1 (.t 27)))),
 (none, (.e (.mkl 29 3 1 1 (.int .i64 0) [(0, (.t 28))]))),
 (none, (.e (.app 30 3 1 8 (.t 26) (.t 29)))),
 (none, (.v (.mov 7 (.t 30))))])
 .skip))))
 (.ops [(none, (.v (.bin 31 .add false (.t 12) (.c (.int .i64 1))))),
 (none, (.v (.mov 12 (.t 31))))])))))))
 (.seq (.ops [(none, (.v (.mov 32 (.t 7)))),
 (none, (.e (.call (some 33) 37 [(.t 32)])))])
 (.seq (.ops [(none, (.v (.mov 34 (.t 7)))),
 (none, (.e (.call (some 35) 38 [(.t 34)]))),
 (none, (.v (.mov 6 (.t 35))))])
 .ret)))))
theorem ok24 : FnOk E 24 36 [.tmp 6] mc24 := .of func24 (by kernel_rfl) (by kernel_rfl) (by kernel_rfl) (by kernel_rfl) (by kernel_rfl)
end Go.Proofs.Try
namespace Go.Proofs.Try
open Go.Al
set_option linter.unusedVariables false
set_option linter.unusedSimpArgs false
set_option maxRecDepth 20000
set_option maxHeartbeats 8000000

theorem c24 (l : List Ver) (from_ to_ : Int) (h60 : l.length ≤ 1048576) : ACalls E.P 24 [.view 4 (l.map Ver.av), .int .i64 from_, .int .i64 to_] [] (fun r H => r = .view 1 ((changed l from_ to_).map (AV.int .i64)) ∧ H = []) := by
  have hmax := maxLen_eq
  refine ok24.acalls hE hm (by simp) fun N hN => ?_
  unfold mc24
  simp only [lA, ptrCells, ptrAdd, isNil, readsV, readsP, isCall, wrote, srcOf, seval]
  refine LenR_i fun hl => ?_
  rw [List.length_map, hmax] at hl
  simp only [lA, ptrCells, ptrAdd, isNil, readsV, readsP, isCall, wrote, srcOf, seval, List.length_map]
  refine loop_i (fun i : Nat => i ≤ l.length) (fun i => ⟨[(1, .int .i64 from_), (2, .int .i64 to_), (7, .slc 0 1 (chS (l.take i) from_ to_).length), (10, .view 4 (l.map Ver.av)), (11, .int .i64 l.length), (12, .int .i64 i)], [.arr 3 1 ((chS (l.take i) from_ to_).map (AV.int .i64))]⟩) (fun i => l.length - i) 0 (by omega)
    (Ent.ghost' 7 3 1 (by omega) rfl (Ent.to [0] false (by simp) (by simp) rfl (by simp only [lP, seval, List.take_zero, chS, List.filter_nil, List.map_nil, List.length_nil] <;> (try simp) <;> (try omega)) (by simp only [lP, seval, List.take_zero, chS, List.filter_nil, List.map_nil, List.length_nil] <;> (try simp) <;> (try omega)))) ?_
  intro i hi
  have hlen := chS_le (l.take i) from_ to_
  rw [List.length_take] at hlen
  by_cases hil : i < l.length
  · have hnx := chS_next hil from_ to_
    generalize chS (l.take i) from_ to_ = o at *
    repeat' (first
     | (with_reducible apply St.o; constructor) <;> intro _
     | with_reducible first | refine LenR_i fun _ => ?_ | refine And.intro (by omega) ?_ | (apply Sp.o; constructor) | refine mkl_own ?_ | refine frz0_i ?_
     | simp (maxSteps := 1000000) (disch := omega) only [lE, ptrCells, ptrAdd, isNil, readsV, readsP, isCall, wrote, srcOf, seval, IdxR_vers, Int.toNat_natCast, List.length_map, List.length_append, List.length_cons, List.length_nil])
    all_goals try (exfalso; omega)
    · rename_i g1 g2 g3
      rw [if_pos ⟨by omega, by omega⟩] at hnx
      exact back_i (i + 1) (by omega) (by omega) (Ent.to [3] false (by simp) (by simp) rfl (by simp only [lP, seval, hnx, List.map_append, List.map_cons, List.map_nil, List.length_append, List.length_cons, List.length_nil] <;> (try simp) <;> (try omega)) (by simp only [lP, seval, hnx, List.map_append, List.map_cons, List.map_nil, List.length_append, List.length_cons, List.length_nil] <;> (try simp) <;> (try omega)))
    all_goals (
      rw [if_neg (by omega), List.append_nil] at hnx
      exact back_i (i + 1) (by omega) (by omega) (Ent.to [0] false (by simp) (by simp) rfl (by simp only [lP, seval, hnx] <;> (try simp) <;> (try omega)) (by simp only [lP, seval, hnx] <;> (try simp) <;> (try omega))))
  · have hii : i = l.length := by omega
    subst hii
    rw [List.take_length]
    have hle2 := chS_le l from_ to_
    have h37 := c37 (chS l from_ to_) (by omega)
    obtain ⟨ts, h38⟩ := c38 (srt (chS l from_ to_))
    have hc2 := compact_len (srt (chS l from_ to_))
    rw [srt_len] at h38 hc2
    unfold changed
    generalize chS l from_ to_ = o at *
    simp only [lA, ptrCells, ptrAdd, isNil, readsV, readsP, isCall, wrote, srcOf, seval, Int.lt_irrefl, decide_false]
    refine callN_i [0] false (by simp) (by simp) ?_
    simp only [lP, seval, renL_ints]
    refine ⟨_, h37, ?_⟩
    rintro _ _ ⟨rfl, rfl⟩
    simp only [lA, lP, ptrCells, ptrAdd, isNil, readsV, readsP, isCall, wrote, srcOf, seval]
    refine callN_i [0] false (by simp) (by simp) ?_
    simp only [lP, seval, renL_ints]
    refine ⟨_, h38, ?_⟩
    rintro _ _ ⟨rfl, rfl⟩
    simp only [lA, lP, ptrCells, ptrAdd, isNil, readsV, readsP, isCall, wrote, srcOf, seval]
    refine keep_i [] true rfl (by simp) rfl ?_
    simp only [lP, seval]
    unfold vwS
    simp only [List.length_map, List.length_append]
    rw [if_pos ⟨trivial, by omega⟩, List.map_append, List.take_left' (by simp)]
    simp only [lP, seval]
end Go.Proofs.Try
