/-
  A part of the proof: see the text of the law.
-/
import Derived.Test.YtlkmgeahdidjeaaEal
set_option linter.unusedSimpArgs false
set_option linter.unusedVariables false
namespace Go.Proofs.Try
open Go.Al
set_option maxRecDepth 100000
/-- alum/alumlaw25.few -/
def mc11 : MC :=
 (.seq (.ops [(none, (.v (.mov 2 (.c (.bool false)))))])
 (.seq (.seq (.ops [(none, (.v (.mov 5 (.t 0)))),
 (none, (.p (.len 6 (.t 5)))),
 (none, (.v (.bin 7 .gtr false (.t 6) (.c (.int .i64 60)))))])
 (.cond 7
 (.seq (.ops [(none, (.v (.mov 2 (.c (.bool false)))))])
 .ret)
 .skip))
 (.seq (.seq (.ops [(none, (.v (.mov 8 (.t 0)))),
 (none, (.p (.len 9 (.t 8)))),
 (none, (.v (.mov 10 (.c (.int .i64 0)))))])
 (.block 0 (.loop (.seq (.ops [(none, (.v (.bin 11 .lss false (.t 10) (.t 9))))])
 (.seq (.cond 11
 .skip
 (.exit 0))
 (.seq (.block 1 (.seq (.ops [(none, (.p (.idx 12 4 (.t 8) (.t 10)))),
 (none, (.v (.load 13 true 4 (.t 12)))),
 (none, (.e (.alloc 4 [(.int .i64 0), (.int .i64 0), (.bool false), (.raw (.slice none 0 0))]))),
 (none, (.e (.store 4 true (.t 4) (.t 13))))])
 (.seq (.ops [(none, (.v (.fld 14 3 (.t 4)))),
 (none, (.v (.load 15 false 1 (.t 14)))),
 (none, (.p (.len 16 (.t 15)))),
 (none, (.v (.bin 17 .gtr false (.t 16) (.c (.int .i64 10)))))])
 (.cond 17
 (.seq (.ops [(none, (.v (.mov 2 (.c (.bool false)))))])
 .ret)
 .skip))))
 (.ops [(none, (.v (.bin 18 .add false (.t 10) (.c (.int .i64 1))))),
 (none, (.v (.mov 10 (.t 18))))])))))))
 (.seq (.ops [(none, (.v (.mov 19 (.t 0)))),
 (none, (.e (.call (some 20) 10 [(.t 19)]))),
 (none, (.v (.mov 2 (.t 20))))])
 .ret))))
theorem ok11 : FnOk E 11 21 [.tmp 2] mc11 := .of func11 (by kernel_rfl) (by kernel_rfl) (by kernel_rfl) (by kernel_rfl) (by kernel_rfl)
end Go.Proofs.Try
namespace Go.Proofs.Try
open Go.Al
set_option linter.unusedVariables false
set_option linter.unusedSimpArgs false
set_option maxRecDepth 20000
set_option maxHeartbeats 4000000

/-- Right, and not too many. -/
def fewL (l : List Ver) : Prop := l.length ≤ 60 ∧ (∀ v ∈ l, v.vals.length ≤ 10) ∧ goodL l
instance (l : List Ver) : Decidable (fewL l) := by unfold fewL; infer_instance
theorem all_next {α : Type} [Inhabited α] {P : α → Prop} {l : List α} {i : Nat} (h : i < l.length) (h1 : ∀ v ∈ l.take i, P v) (h2 : P (l.getD i default)) : ∀ v ∈ l.take (i + 1), P v := by
  rw [take_succD h]
  intro v hv
  rcases List.mem_append.1 hv with hv | hv
  · exact h1 v hv
  · simp only [List.mem_singleton] at hv; rw [hv]; exact h2
theorem c11 (l : List Ver) : ACalls E.P 11 [.view 4 (l.map Ver.av)] [] (fun r H => r = .bool (decide (fewL l)) ∧ H = []) := by
  have hmax := maxLen_eq
  have h10 := c10 l
  refine ok11.acalls hE hm (by simp) fun N hN => ?_
  unfold mc11
  simp only [lA, ptrCells, ptrAdd, isNil, readsV, readsP, isCall, wrote, srcOf, seval]
  refine LenR_i fun hl => ?_
  simp only [lA, ptrCells, ptrAdd, isNil, readsV, readsP, isCall, wrote, srcOf, seval, List.length_map]
  refine cond_i (fun h1 => ?_) (fun h1 => ?_)
  · simp only [decide_eq_true_eq] at h1
    repeat' (first
     | (with_reducible apply St.o; constructor) <;> intro _
     | with_reducible first | refine LenR_i fun _ => ?_ | refine And.intro (by omega) ?_ | (apply Sp.o; constructor) | refine mkl_own ?_ | refine frz0_i ?_
     | ((with_reducible refine keep0_i ?_); simp only [lP, seval])
     | simp (maxSteps := 1000000) (disch := omega) only [lE, ptrCells, ptrAdd, isNil, readsV, readsP, isCall, wrote, srcOf, seval])
    rw [eq_comm, AV.bool.injEq, decide_eq_false_iff_not]
    exact fun h => by have := h.1; omega
  · simp only [decide_eq_false_iff_not] at h1
    simp only [lA, ptrCells, ptrAdd, isNil, readsV, readsP, isCall, wrote, srcOf, seval]
    refine LenR_i fun _ => ?_
    simp only [lA, ptrCells, ptrAdd, isNil, readsV, readsP, isCall, wrote, srcOf, seval, List.length_map]
    refine loop_i (fun i : Nat => i ≤ l.length ∧ ∀ v ∈ l.take i, v.vals.length ≤ 10) (fun i => ⟨[(0, .view 4 (l.map Ver.av)), (8, .view 4 (l.map Ver.av)), (9, .int .i64 l.length), (10, .int .i64 i)], []⟩) (fun i => l.length - i) 0 ⟨by omega, by simp⟩ (Ent.to [] false (by simp) (by simp) rfl (by simp only [lP, seval, List.length_map] <;> (try simp) <;> (try omega)) (by simp only [lP, seval, List.length_map] <;> (try simp) <;> (try omega))) ?_
    rintro i ⟨hi, hg⟩
    repeat' (first
     | (with_reducible apply St.o; constructor) <;> intro _
     | with_reducible first | refine LenR_i fun _ => ?_ | refine And.intro (by omega) ?_ | (apply Sp.o; constructor) | refine mkl_own ?_ | refine frz0_i ?_
     | ((with_reducible apply Sc.o true; constructor); simp only [lP, seval, IdxR_vers, Int.toNat_natCast, List.length_map]; refine ⟨_, h10, ?_⟩; rintro _ _ ⟨rfl, rfl⟩; simp only [lA, lP, ptrCells, ptrAdd, isNil, readsV, readsP, isCall, wrote, srcOf, seval, IdxR_vers, Int.toNat_natCast, List.length_map])
     | ((with_reducible refine keep0_i ?_); simp only [lP, seval])
     | simp (maxSteps := 1000000) (disch := omega) only [lE, ptrCells, ptrAdd, isNil, readsV, readsP, isCall, wrote, srcOf, seval, IdxR_vers, Int.toNat_natCast, List.length_map])
    · rename_i g1 g2
      rw [eq_comm, AV.bool.injEq, decide_eq_false_iff_not]
      intro h
      have := h.2.1 (l.getD i default) (by simp [show i < l.length by omega])
      omega
    · rename_i g1 g2
      exact back_i (i + 1) ⟨by omega, all_next (by omega) hg (by omega)⟩ (by omega) (Ent.to [] false (by simp) (by simp) rfl (by simp only [lP, seval] <;> (try simp) <;> (try omega)) (by simp only [lP, seval] <;> (try simp) <;> (try omega)))
    · rename_i g1
      rw [List.take_of_length_le (by omega)] at hg
      rw [AV.bool.injEq]
      exact decide_eq_decide.2 ⟨fun h => ⟨by omega, hg, h⟩, fun h => h.2.2⟩
end Go.Proofs.Try
