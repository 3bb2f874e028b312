/-
  A part of the proof: see the text of the law.
-/
import Derived.Test.YtlkmgeahdidjeaaPaa
import Derived.Test.YtlkmgeahdidjeaaEac
set_option linter.unusedSimpArgs false
set_option linter.unusedVariables false
namespace Go.Proofs.Try
open Go.Al
set_option maxRecDepth 100000
/-- alum/alumref25.Check -/
def mc10 : MC :=
 (.seq (.ops [(none, (.v (.mov 2 (.c (.bool false)))))])
 (.seq (.seq (.ops [(none, (.v (.mov 3 (.c (.int .i64 0)))))])
 (.block 0 (.loop (.seq (.seq (.ops [(none, (.v (.mov 6 (.t 3)))),
 (none, (.v (.mov 7 (.t 0)))),
 (none, (.p (.len 8 (.t 7)))),
 (none, (.v (.bin 9 .lss false (.t 6) (.t 8))))])
 (.cond 9
 .skip
 (.exit 0)))
 (.seq (.block 1 (.seq (.ops [(none, (.v (.mov 12 (.t 0)))),
 (none, (.v (.mov 13 (.t 3)))),
 (none, (.p (.idx 14 4 (.t 12) (.t 13)))),
 (none, (.v (.load 15 true 4 (.t 14)))),
 (none, (.e (.alloc 4 [(.int .i64 0), (.int .i64 0), (.bool false), (.raw (.slice none 0 0))]))),
 (none, (.e (.store 4 true (.t 4) (.t 15))))])
 (.seq (.seq (.ops [(none, (.v (.fld 16 0 (.t 4)))),
 (none, (.v (.load 17 false 1 (.t 16)))),
 (none, (.v (.bin 18 .lss false (.t 17) (.c (.int .i64 1))))),
 (none, (.v (.mov 19 (.t 18)))),
 ((some (19, false)), (.v (.fld 20 0 (.t 4)))),
 ((some (19, false)), (.v (.load 21 false 1 (.t 20)))),
 ((some (19, false)), (.v (.bin 22 .gtr false (.t 21) (.c (.int .i64 1073741824))))),
 (none, (.v (.pick 23 (.t 19) (.c (.bool true)) (.t 22)))),
 (none, (.v (.mov 24 (.t 23)))),
 ((some (24, false)), (.v (.fld 25 1 (.t 4)))),
 ((some (24, false)), (.v (.load 26 false 1 (.t 25)))),
 ((some (24, false)), (.v (.bin 27 .lss false (.t 26) (.c (.int .i64 1))))),
 (none, (.v (.pick 28 (.t 24) (.c (.bool true)) (.t 27)))),
 (none, (.v (.mov 29 (.t 28)))),
 ((some (29, false)), (.v (.fld 30 1 (.t 4)))),
 ((some (29, false)), (.v (.load 31 false 1 (.t 30)))),
 ((some (29, false)), (.v (.bin 32 .gtr false (.t 31) (.c (.int .i64 1073741824))))),
 (none, (.v (.pick 33 (.t 29) (.c (.bool true)) (.t 32)))),
 (none, (.v (.mov 34 (.t 33)))),
 ((some (34, false)), (.v (.fld 35 2 (.t 4)))),
 ((some (34, false)), (.v (.load 36 false 1 (.t 35)))),
 ((some (34, false)), (.v (.mov 37 (.t 36)))),
 ((some (37, true)), (.v (.fld 38 3 (.t 4)))),
 ((some (37, true)), (.v (.load 39 false 1 (.t 38)))),
 ((some (37, true)), (.p (.len 40 (.t 39)))),
 ((some (37, true)), (.v (.bin 41 .gtr false (.t 40) (.c (.int .i64 0))))),
 ((some (34, false)), (.v (.pick 42 (.t 37) (.t 41) (.c (.bool false))))),
 (none, (.v (.pick 43 (.t 34) (.c (.bool true)) (.t 42))))])
 (.cond 43
 (.seq (.ops [(none, (.v (.mov 2 (.c (.bool false)))))])
 .ret)
 .skip))
 (.seq (.ops [(none, (.v (.mov 5 (.c (.int .i64 0)))))])
 (.block 2 (.loop (.seq (.seq (.ops [(none, (.v (.mov 44 (.t 5)))),
 (none, (.v (.mov 45 (.t 3)))),
 (none, (.v (.bin 46 .lss false (.t 44) (.t 45))))])
 (.cond 46
 .skip
 (.exit 2)))
 (.seq (.block 3 (.seq (.any false (.pure0 none (.v (.mov 49 (.t 0)))
 (.pure0 none (.v (.mov 50 (.t 5)))
 (.pure0 none (.p (.idx 51 4 (.t 49) (.t 50)))
 (.pure0 none (.v (.fld 52 0 (.t 51)))
 (.pure0 none (.v (.load 53 false 1 (.t 52)))
 (.pure0 none (.v (.fld 54 0 (.t 4)))
 (.pure0 none (.v (.load 55 false 1 (.t 54)))
 (.pure0 none (.v (.bin 56 .eql false (.t 53) (.t 55)))
 (.pure0 none (.v (.mov 57 (.t 56)))
 (.pure0 (some (57, true)) (.v (.mov 58 (.t 0)))
 (.pure0 (some (57, true)) (.v (.mov 59 (.t 5)))
 (.pure0 (some (57, true)) (.p (.idx 60 4 (.t 58) (.t 59)))
 (.pure0 (some (57, true)) (.v (.fld 61 1 (.t 60)))
 (.pure0 (some (57, true)) (.v (.load 62 false 1 (.t 61)))
 (.pure0 (some (57, true)) (.v (.fld 63 1 (.t 4)))
 (.pure0 (some (57, true)) (.v (.load 64 false 1 (.t 63)))
 (.pure0 (some (57, true)) (.v (.bin 65 .eql false (.t 62) (.t 64)))
 (.pure0 none (.v (.pick 66 (.t 57) (.t 65) (.c (.bool false))))
 .done)))))))))))))))))))
 (.cond 66
 (.seq (.ops [(none, (.v (.mov 2 (.c (.bool false)))))])
 .ret)
 .skip)))
 (.ops [(none, (.v (.mov 47 (.t 5)))),
 (none, (.v (.bin 48 .add false (.t 47) (.c (.int .i64 1))))),
 (none, (.v (.mov 5 (.t 48))))])))))))))
 (.ops [(none, (.v (.mov 10 (.t 3)))),
 (none, (.v (.bin 11 .add false (.t 10) (.c (.int .i64 1))))),
 (none, (.v (.mov 3 (.t 11))))]))))))
 (.seq (.ops [(none, (.v (.mov 2 (.c (.bool true)))))])
 .ret)))
theorem ok10 : FnOk E 10 67 [.tmp 2] mc10 := .of func10 (by kernel_rfl) (by kernel_rfl) (by kernel_rfl) (by kernel_rfl) (by kernel_rfl)
end Go.Proofs.Try
namespace Go.Proofs.Try
open Go.Al
set_option linter.unusedVariables false
set_option linter.unusedSimpArgs false
set_option maxRecDepth 20000
set_option maxHeartbeats 4000000

/-- A right version; a right history. -/
def okV (v : Ver) : Prop := 1 ≤ v.row ∧ v.row ≤ 1073741824 ∧ 1 ≤ v.stamp ∧ v.stamp ≤ 1073741824 ∧ (v.dead = true → v.vals = [])
instance (v : Ver) : Decidable (okV v) := by unfold okV; infer_instance
instance (l : List Ver) : Decidable (diff l) := by unfold diff; infer_instance
def goodL (l : List Ver) : Prop := (∀ v ∈ l, okV v) ∧ diff l
instance (l : List Ver) : Decidable (goodL l) := by unfold goodL; infer_instance
theorem good_next {l : List Ver} {i : Nat} (hi : i < l.length) (h : goodL (l.take i)) (h1 : okV (l.getD i default)) (h2 : ∀ k, k < i → ¬((l.getD k default).row = (l.getD i default).row ∧ (l.getD k default).stamp = (l.getD i default).stamp)) : goodL (l.take (i + 1)) := by
  rw [take_succD hi]
  refine ⟨fun v hv => ?_, List.pairwise_append.2 ⟨h.2, by simp, fun a ha b hb => ?_⟩⟩
  · rcases List.mem_append.1 hv with hv | hv
    · exact h.1 v hv
    · simp only [List.mem_singleton] at hv; rw [hv]; exact h1
  · simp only [List.mem_singleton] at hb
    subst hb
    obtain ⟨k, hk⟩ := List.getElem?_of_mem ha
    rw [List.getElem?_take] at hk
    split at hk
    · rename_i hki
      have := h2 k hki
      rwa [List.getD_eq_getElem?_getD, hk, Option.getD_some] at this
    · cases hk
theorem bad_v {l : List Ver} {i : Nat} (hi : i < l.length) (h : ¬ okV (l.getD i default)) : ¬ goodL l := fun hg => h (hg.1 _ (by simp [hi]))
theorem bad_k {l : List Ver} {k i : Nat} (hi : i < l.length) (hk : k < i) (h : (l.getD k default).row = (l.getD i default).row ∧ (l.getD k default).stamp = (l.getD i default).stamp) : ¬ goodL l := fun hg => by
  have := List.pairwise_iff_getElem.1 hg.2 k i (by omega) hi hk
  simp [hi, show k < l.length by omega] at h
  exact this h
theorem c10 (l : List Ver) : ACalls E.P 10 [.view 4 (l.map Ver.av)] [] (fun r H => r = .bool (decide (goodL l)) ∧ H = []) := by
  have hmax := maxLen_eq
  refine ok10.acalls hE hm (by simp) fun N hN => ?_
  unfold mc10
  simp only [lA, ptrCells, ptrAdd, isNil, readsV, readsP, isCall, wrote, srcOf, seval]
  refine loop_i (fun i : Nat => i ≤ l.length ∧ goodL (l.take i)) (fun i => ⟨[(0, .view 4 (l.map Ver.av)), (3, .int .i64 i)], []⟩) (fun i => l.length - i) 0 ⟨by omega, by simp [goodL, diff]⟩ (Ent.to [] false (by simp) (by simp) rfl (by simp only [lP, seval, List.length_map] <;> (try simp) <;> (try omega)) (by simp only [lP, seval, List.length_map] <;> (try simp) <;> (try omega))) ?_
  rintro i ⟨hi, hg⟩
  repeat' (first
   | (with_reducible apply St.o; constructor) <;> intro _
   | with_reducible first | refine LenR_i fun _ => ?_ | refine And.intro (by omega) ?_ | (apply Sp.o; constructor) | refine mkl_own ?_ | refine frz0_i ?_
   | ((with_reducible refine keep0_i ?_); simp only [lP, seval])
   | simp (maxSteps := 1000000) (disch := omega) only [lE, ptrCells, ptrAdd, isNil, readsV, readsP, isCall, wrote, srcOf, seval, IdxR_vers, Int.toNat_natCast, List.length_map])
  all_goals try (
    rw [eq_comm, AV.bool.injEq, decide_eq_false_iff_not]
    refine bad_v (i := i) (by omega) (fun ⟨h1, h2, h3, h4, h5⟩ => ?_)
    first
    | omega
    | (have e := congrArg List.length (h5 (by assumption)); simp only [List.length_nil] at e; omega))
  all_goals try (
    rw [eq_comm, AV.bool.injEq, decide_eq_true_iff]
    rw [List.take_of_length_le (by omega)] at hg
    exact hg)
  all_goals (
    have hok : okV (l.getD i default) := ⟨by omega, by omega, by omega, by omega, fun h => by
      first
      | exact List.eq_nil_of_length_eq_zero (by omega)
      | (have g : (l.getD i default).dead = !true := by assumption
         rw [h] at g
         exact absurd g (by simp))⟩
    refine loop_i (fun k : Nat => k ≤ i ∧ ∀ j, j < k → ¬((l.getD j default).row = (l.getD i default).row ∧ (l.getD j default).stamp = (l.getD i default).stamp)) (fun k => ⟨[(0, .view 4 (l.map Ver.av)), (3, .int .i64 i), (4, .op 0 0), (5, .int .i64 k)], [.box (l.getD i default).cs]⟩) (fun k => i - k) 0 ⟨by omega, fun j hj => by omega⟩ (Ent.to [0] false (by simp) (by simp) rfl (by simp only [lP, seval, List.length_map] <;> (try simp) <;> (try omega)) (by simp only [lP, seval, List.length_map] <;> (try simp) <;> (try omega))) ?_
    rintro k ⟨hk, hall⟩
    repeat' (first
     | (with_reducible apply St.o; constructor) <;> intro _
     | with_reducible first | refine LenR_i fun _ => ?_ | refine And.intro (by omega) ?_ | (apply Sp.o; constructor) | refine mkl_own ?_ | refine frz0_i ?_ | refine any_i [] ?_
     | ((with_reducible refine keep0_i ?_); simp only [lP, seval])
     | simp (maxSteps := 1000000) (disch := omega) only [lE, ptrCells, ptrAdd, isNil, readsV, readsP, isCall, wrote, srcOf, seval, IdxR_vers, Int.toNat_natCast, List.length_map])
    all_goals first
      | (rw [eq_comm, AV.bool.injEq, decide_eq_false_iff_not]; exact bad_k (k := k) (i := i) (by omega) (by omega) ⟨by assumption, by assumption⟩)
      | (rename_i g1 g2
         exact back_i (k + 1) ⟨by omega, fun j hj => by
           by_cases hjk : j = k
           · rw [hjk]; rintro ⟨e1, e2⟩; first | exact absurd e1 (by assumption) | exact absurd e2 (by assumption)
           · exact hall j (by omega)⟩ (by omega) (Ent.to [0] false (by simp) (by simp) rfl (by simp only [lP, seval] <;> (try simp) <;> (try omega)) (by simp only [lP, seval] <;> (try simp) <;> (try omega))))
      | exact back_i (i + 1) ⟨by omega, good_next (by omega) hg hok (fun j hj => hall j (by omega))⟩ (by omega) (Ent.to [] false (by simp) (by simp) rfl (by simp only [lP, seval] <;> (try simp) <;> (try omega)) (by simp only [lP, seval] <;> (try simp) <;> (try omega)))
    )
end Go.Proofs.Try
