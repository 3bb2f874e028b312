/-
  A part of the proof: see the text of the law.
-/
import Derived.Test.YtlkmgeahdidjeaaEan
set_option linter.unusedSimpArgs false
set_option linter.unusedVariables false
namespace Go.Proofs.Try
open Go.Al
set_option maxRecDepth 100000
/-- alum/snapshot.Check -/
def mc9 : MC :=
 (.seq (.ops [(none, (.v (.mov 2 (.c (.bool false)))))])
 (.seq (.ops [(none, (.e (.mkmap 7))),
 (none, (.v (.mov 3 (.t 7))))])
 (.seq (.seq (.ops [(none, (.v (.mov 8 (.t 0)))),
 (none, (.p (.len 9 (.t 8)))),
 (none, (.v (.mov 10 (.c (.int .i64 0)))))])
 (.block 0 (.loop (.seq (.ops [(none, (.v (.bin 11 .lss false (.t 10) (.t 9))))])
 (.seq (.cond 11
 .skip
 (.exit 0))
 (.seq (.block 1 (.seq (.ops [(none, (.p (.idx 12 4 (.t 8) (.t 10)))),
 (none, (.v (.load 13 true 4 (.t 12)))),
 (none, (.e (.alloc 5 [(.int .i64 0), (.int .i64 0), (.bool false), (.raw (.slice none 0 0))]))),
 (none, (.e (.store 4 true (.t 5) (.t 13))))])
 (.seq (.ops [(none, (.v (.fld 14 0 (.t 5)))),
 (none, (.v (.load 15 false 1 (.t 14)))),
 (none, (.v (.fld 16 1 (.t 5)))),
 (none, (.v (.load 17 false 1 (.t 16)))),
 (none, (.v (.build 18 [(.int .i64 0), (.int .i64 0)] [(0, 1, (.t 15)), (1, 1, (.t 17))]))),
 (none, (.e (.alloc 6 [(.int .i64 0), (.int .i64 0)]))),
 (none, (.e (.store 2 true (.t 6) (.t 18))))])
 (.seq (.seq (.ops [(none, (.v (.fld 19 0 (.t 5)))),
 (none, (.v (.load 20 false 1 (.t 19)))),
 (none, (.v (.fld 21 1 (.t 5)))),
 (none, (.v (.load 22 false 1 (.t 21)))),
 (none, (.v (.min 23 [(.t 20), (.t 22)]))),
 (none, (.v (.bin 24 .lss false (.t 23) (.c (.int .i64 1))))),
 (none, (.v (.mov 25 (.t 24)))),
 ((some (25, false)), (.v (.fld 26 0 (.t 5)))),
 ((some (25, false)), (.v (.load 27 false 1 (.t 26)))),
 ((some (25, false)), (.v (.fld 28 1 (.t 5)))),
 ((some (25, false)), (.v (.load 29 false 1 (.t 28)))),
 ((some (25, false)), (.v (.max 30 [(.t 27), (.t 29)]))),
 ((some (25, false)), (.v (.bin 31 .gtr false (.t 30) (.c (.int .i64 1073741824))))),
 (none, (.v (.pick 32 (.t 25) (.c (.bool true)) (.t 31)))),
 (none, (.v (.mov 33 (.t 32)))),
 ((some (33, false)), (.v (.fld 34 2 (.t 5)))),
 ((some (33, false)), (.v (.load 35 false 1 (.t 34)))),
 ((some (33, false)), (.v (.mov 36 (.t 35)))),
 ((some (36, true)), (.v (.fld 37 3 (.t 5)))),
 ((some (36, true)), (.v (.load 38 false 1 (.t 37)))),
 ((some (36, true)), (.p (.len 39 (.t 38)))),
 ((some (36, true)), (.v (.bin 40 .gtr false (.t 39) (.c (.int .i64 0))))),
 ((some (33, false)), (.v (.pick 41 (.t 36) (.t 40) (.c (.bool false))))),
 (none, (.v (.pick 42 (.t 33) (.c (.bool true)) (.t 41)))),
 (none, (.v (.mov 43 (.t 42)))),
 ((some (43, false)), (.v (.mov 44 (.t 3)))),
 ((some (43, false)), (.v (.load 45 true 2 (.t 6)))),
 ((some (43, false)), (.p (.look 46 false (.wide [.int .i64, .int .i64]) (.bool false) (.t 44) (.t 45)))),
 (none, (.v (.pick 47 (.t 43) (.c (.bool true)) (.t 46))))])
 (.cond 47
 (.seq (.ops [(none, (.v (.mov 2 (.c (.bool false)))))])
 .ret)
 .skip))
 (.ops [(none, (.v (.mov 48 (.t 3)))),
 (none, (.v (.load 49 true 2 (.t 6)))),
 (none, (.e (.mput (.wide [.int .i64, .int .i64]) (.t 48) (.t 49) (.c (.bool true)))))])))))
 (.ops [(none, (.v (.bin 50 .add false (.t 10) (.c (.int .i64 1))))),
 (none, (.v (.mov 10 (.t 50))))])))))))
 (.seq (.ops [(none, (.v (.mov 2 (.c (.bool true)))))])
 .ret))))
theorem ok9 : FnOk E 9 51 [.tmp 2] mc9 := .of func9 (by kernel_rfl) (by kernel_rfl) (by kernel_rfl) (by kernel_rfl) (by kernel_rfl)
end Go.Proofs.Try
namespace Go.Proofs.Try
open Go.Al
set_option linter.unusedVariables false
set_option linter.unusedSimpArgs false
set_option maxRecDepth 20000
set_option maxHeartbeats 4000000

theorem pa_k {H : List AObj} {l : List Nat} {bor : Bool} {n : Nat} (v : Ver) : pa H l bor (n + 1) (kAV v) = kAV v := by simp [kAV, pa_agg, pa_int]
theorem pa_ks {H : List AObj} {l : List Nat} {bor : Bool} {n : Nat} {xs : List Ver} : (xs.map kAV).map (pa H l bor (n + 1)) = xs.map kAV := map_same pa_k xs
theorem pa_ts {H : List AObj} {l : List Nat} {bor : Bool} {n : Nat} {xs : List Ver} : (xs.map fun _ => AV.bool true).map (pa H l bor (n + 1)) = xs.map fun _ => AV.bool true := map_same (fun _ => by simp [pa_bool]) xs
theorem c9 (l : List Ver) : ACalls E.P 9 [.view 4 (l.map Ver.av)] [] (fun r H => r = .bool (decide (goodL l)) ∧ H = []) := by
  have hmax := maxLen_eq
  refine ok9.acalls hE hm (by simp) fun N hN => ?_
  unfold mc9
  simp only [lA, ptrCells, ptrAdd, isNil, readsV, readsP, isCall, wrote, srcOf, seval]
  refine LenR_i fun hl => ?_
  rw [List.length_map, hmax] at hl
  simp only [lA, ptrCells, ptrAdd, isNil, readsV, readsP, isCall, wrote, srcOf, seval, List.length_map]
  refine loop_i (fun p : Nat × List Nat × Nat => p.1 ≤ l.length ∧ goodL (l.take p.1)) (fun p => ⟨[(3, .mp 0), (8, .view 4 (l.map Ver.av)), (9, .int .i64 l.length), (10, .int .i64 p.1)], [.map ((l.take p.1).map kAV) ((l.take p.1).map fun _ => AV.bool true) p.2.1 p.2.2]⟩) (fun p => l.length - p.1) (0, [], 0) ⟨by simp, by simp [goodL, diff]⟩ (Ent.to [0] false (by simp) (by simp) rfl (by simp only [lP, seval, List.take_zero, List.map_nil] <;> (try simp) <;> (try omega)) (by simp only [lP, seval, List.take_zero, List.map_nil] <;> (try simp) <;> (try omega))) ?_
  rintro ⟨i, bs, c⟩ ⟨hi, hg⟩
  simp only at hi hg
  have hin : ∀ u ∈ l.take i, inM u := fun u hu => ⟨(hg.1 u hu).1, (hg.1 u hu).2.1, (hg.1 u hu).2.2.1, (hg.1 u hu).2.2.2.1⟩
  by_cases hM : inM (l.getD i default)
  · have hlook := look_k hM hin
    have hsm := any_same (l := l) (i := i)
    cases hs : (l.take i).any (sameK · (l.getD i default)) with
    | true =>
      have hbadT : i < l.length → ¬ goodL l := fun hil hgl => by
        have h := (any_same hil).2 (fun k hk he => bad_k hil hk he hgl)
        rw [hs] at h; cases h
      simp only [hs, kAV] at hlook
      repeat' (first
       | (with_reducible apply St.o; constructor) <;> intro _
       | with_reducible first | refine LenR_i fun _ => ?_ | refine And.intro (by omega) ?_ | (apply Sp.o; constructor) | refine mkl_own ?_ | refine frz0_i ?_
       | ((with_reducible refine keep0_i ?_); simp only [lP, seval])
       | simp (maxSteps := 1000000) (disch := omega) only [lE, ptrCells, ptrAdd, isNil, readsV, readsP, isCall, wrote, srcOf, seval, IdxR_vers, Int.toNat_natCast, List.length_map, hlook])
      all_goals try (rw [eq_comm, AV.bool.injEq, decide_eq_true_iff]; rw [List.take_of_length_le (by omega)] at hg; exact hg)
      all_goals (rw [eq_comm, AV.bool.injEq, decide_eq_false_iff_not]; exact hbadT (by omega))
    | false =>
      have hput := put_k (v := l.getD i default) hM hin hs
      simp only [hs, kAV] at hlook hput
      repeat' (first
       | (with_reducible apply St.o; constructor) <;> intro _
       | with_reducible first | refine LenR_i fun _ => ?_ | refine And.intro (by omega) ?_ | (apply Sp.o; constructor) | refine mkl_own ?_ | refine frz0_i ?_
       | ((with_reducible refine keep0_i ?_); simp only [lP, seval])
       | simp (maxSteps := 1000000) (disch := omega) only [lE, ptrCells, ptrAdd, isNil, readsV, readsP, isCall, wrote, srcOf, seval, IdxR_vers, Int.toNat_natCast, List.length_map, hlook, hput])
      all_goals try (rw [eq_comm, AV.bool.injEq, decide_eq_true_iff]; rw [List.take_of_length_le (by omega)] at hg; exact hg)
      all_goals obtain ⟨m1, m2, m3, m4⟩ := hM
      all_goals try (
        rw [eq_comm, AV.bool.injEq, decide_eq_false_iff_not]
        refine bad_v (i := i) (by omega) (fun ⟨h1, h2, h3, h4, h5⟩ => ?_)
        first
        | omega
        | (have e := congrArg List.length (h5 (by assumption)); simp only [List.length_nil] at e; omega))
      all_goals (
        have hil : i < l.length := by omega
        have hok : okV (l.getD i default) := ⟨m1, m2, m3, m4, fun h => by
          first
          | exact List.eq_nil_of_length_eq_zero (by omega)
          | (have g : (l.getD i default).dead = !true := by assumption
             rw [h] at g
             exact absurd g (by simp))⟩
        have e := take_succD hil
        exact back_i (i + 1, bs ++ [c], c + 1) ⟨by simp only; omega, good_next hil hg hok ((any_same hil).1 hs)⟩ (by simp only; omega) (Ent.to [0] false (by simp) (by simp) rfl (by simp only [lP, seval, e, pa_ks, pa_ts] <;> (try simp) <;> (try omega)) (by simp only [lP, seval, e, pa_ks, pa_ts] <;> (try simp) <;> (try omega))))
  · repeat' (first
     | (with_reducible apply St.o; constructor) <;> intro _
     | with_reducible first | refine LenR_i fun _ => ?_ | refine And.intro (by omega) ?_ | (apply Sp.o; constructor) | refine mkl_own ?_ | refine frz0_i ?_
     | ((with_reducible refine keep0_i ?_); simp only [lP, seval])
     | simp (maxSteps := 1000000) (disch := omega) only [lE, ptrCells, ptrAdd, isNil, readsV, readsP, isCall, wrote, srcOf, seval, IdxR_vers, Int.toNat_natCast, List.length_map])
    all_goals try (rw [eq_comm, AV.bool.injEq, decide_eq_true_iff]; rw [List.take_of_length_le (by omega)] at hg; exact hg)
    all_goals try (exfalso; exact hM ⟨by omega, by omega, by omega, by omega⟩)
    all_goals (rw [eq_comm, AV.bool.injEq, decide_eq_false_iff_not]; exact bad_v (i := i) (by omega) (fun h => hM ⟨h.1, h.2.1, h.2.2.1, h.2.2.2.1⟩))
end Go.Proofs.Try
