/-
  For every right history, two snapshots and a row: both see the same of the row unless Changed names it, what it names has a newer version, and with nothing named both see the same rows; no condition.
-/
import Derived.Test.YtlkmgeahdidjeaaEay
import Derived.Test.YtlkmgeahdidjeaaPag
import Derived.Test.YtlkmgeahdidjeaaReads
import Derived.Test.YtlkmgeahdidjeaaRows
set_option linter.unusedSimpArgs false
set_option linter.unusedVariables false
namespace Go.Proofs.Try
open Go.Al
set_option maxRecDepth 100000
/-- alum/alumlaw25.SnapshotUnchanged -/
def mc5 : MC :=
 (.seq (.ops [(none, (.v (.mov 8 (.c (.bool false)))))])
 (.seq (.seq (.ops [(none, (.v (.mov 17 (.t 0)))),
 (none, (.e (.call (some 18) 11 [(.t 17)]))),
 (none, (.v (.not 19 (.t 18)))),
 (none, (.v (.mov 20 (.t 19)))),
 ((some (20, false)), (.v (.mov 21 (.t 1)))),
 ((some (20, false)), (.v (.mov 22 (.t 2)))),
 ((some (20, false)), (.v (.bin 23 .gtr false (.t 21) (.t 22)))),
 (none, (.v (.pick 24 (.t 20) (.c (.bool true)) (.t 23))))])
 (.cond 24
 (.seq (.ops [(none, (.e (.call (some 25) 8 []))),
 (none, (.v (.mov 8 (.t 25))))])
 .ret)
 .skip))
 (.seq (.ops [(none, (.v (.mov 26 (.t 0)))),
 (none, (.v (.mov 27 (.t 1)))),
 (none, (.v (.mov 28 (.t 2)))),
 (none, (.e (.call (some 29) 24 [(.t 26), (.t 27), (.t 28)]))),
 (none, (.v (.mov 9 (.t 29))))])
 (.seq (.ops [(none, (.v (.mov 10 (.c (.bool false)))))])
 (.seq (.seq (.ops [(none, (.v (.mov 30 (.t 9)))),
 (none, (.p (.len 31 (.t 30)))),
 (none, (.v (.mov 32 (.c (.int .i64 0)))))])
 (.block 0 (.loop (.seq (.ops [(none, (.v (.bin 33 .lss false (.t 32) (.t 31))))])
 (.seq (.cond 33
 .skip
 (.exit 0))
 (.seq (.block 1 (.seq (.ops [(none, (.v (.mov 34 (.t 32)))),
 (none, (.p (.idx 35 1 (.t 30) (.t 32)))),
 (none, (.v (.load 36 false 1 (.t 35)))),
 (none, (.v (.mov 11 (.t 34)))),
 (none, (.v (.mov 12 (.t 36))))])
 (.seq (.seq (.ops [(none, (.v (.mov 37 (.t 0)))),
 (none, (.v (.mov 38 (.t 12)))),
 (none, (.v (.mov 39 (.t 1)))),
 (none, (.e (.call (some 40) 17 [(.t 37), (.t 38), (.t 39)]))),
 (none, (.v (.not 41 (.t 40)))),
 (none, (.v (.mov 42 (.t 41)))),
 ((some (42, false)), (.v (.mov 43 (.t 11)))),
 ((some (42, false)), (.v (.bin 44 .gtr false (.t 43) (.c (.int .i64 0))))),
 ((some (42, false)), (.v (.mov 45 (.t 44)))),
 ((some (45, true)), (.v (.mov 46 (.t 12)))),
 ((some (45, true)), (.v (.mov 47 (.t 9)))),
 ((some (45, true)), (.v (.mov 48 (.t 11)))),
 ((some (45, true)), (.v (.bin 49 .sub false (.t 48) (.c (.int .i64 1))))),
 ((some (45, true)), (.p (.idx 50 1 (.t 47) (.t 49)))),
 ((some (45, true)), (.v (.load 51 false 1 (.t 50)))),
 ((some (45, true)), (.v (.bin 52 .leq false (.t 46) (.t 51)))),
 ((some (42, false)), (.v (.pick 53 (.t 45) (.t 52) (.c (.bool false))))),
 (none, (.v (.pick 54 (.t 42) (.c (.bool true)) (.t 53))))])
 (.cond 54
 (.seq (.ops [(none, (.v (.mov 8 (.c (.bool false)))))])
 .ret)
 .skip))
 (.ops [(none, (.v (.mov 55 (.t 10)))),
 (none, (.v (.mov 56 (.t 55)))),
 ((some (56, false)), (.v (.mov 57 (.t 12)))),
 ((some (56, false)), (.v (.mov 58 (.t 3)))),
 ((some (56, false)), (.v (.bin 59 .eql false (.t 57) (.t 58)))),
 (none, (.v (.pick 60 (.t 56) (.c (.bool true)) (.t 59)))),
 (none, (.v (.mov 10 (.t 60))))]))))
 (.ops [(none, (.v (.bin 61 .add false (.t 32) (.c (.int .i64 1))))),
 (none, (.v (.mov 32 (.t 61))))])))))))
 (.seq (.ops [(none, (.v (.mov 63 (.t 0)))),
 (none, (.v (.mov 64 (.t 3)))),
 (none, (.v (.mov 65 (.t 1)))),
 (none, (.e (.call (some 66) 12 [(.t 63), (.t 64), (.t 65)]))),
 (none, (.v (.mov 62 (.t 66)))),
 (none, (.v (.ext 67 0 (.t 62)))),
 (none, (.v (.ext 68 1 (.t 62)))),
 (none, (.e (.alloc 13 [(.int .i64 0), (.int .i64 0), (.bool false), (.raw (.slice none 0 0))]))),
 (none, (.e (.store 4 true (.t 13) (.t 67)))),
 (none, (.v (.mov 14 (.t 68))))])
 (.seq (.ops [(none, (.v (.mov 70 (.t 0)))),
 (none, (.v (.mov 71 (.t 3)))),
 (none, (.v (.mov 72 (.t 2)))),
 (none, (.e (.call (some 73) 12 [(.t 70), (.t 71), (.t 72)]))),
 (none, (.v (.mov 69 (.t 73)))),
 (none, (.v (.ext 74 0 (.t 69)))),
 (none, (.v (.ext 75 1 (.t 69)))),
 (none, (.e (.alloc 15 [(.int .i64 0), (.int .i64 0), (.bool false), (.raw (.slice none 0 0))]))),
 (none, (.e (.store 4 true (.t 15) (.t 74)))),
 (none, (.v (.mov 16 (.t 75))))])
 (.seq (.seq (.ops [(none, (.v (.mov 76 (.t 10)))),
 (none, (.v (.not 77 (.t 76)))),
 (none, (.v (.mov 78 (.t 77)))),
 ((some (78, true)), (.v (.mov 79 (.t 14)))),
 ((some (78, true)), (.v (.mov 80 (.t 16)))),
 ((some (78, true)), (.v (.bin 81 .neq true (.t 79) (.t 80)))),
 ((some (78, true)), (.v (.mov 82 (.t 81)))),
 ((some (82, false)), (.v (.load 83 true 4 (.t 13)))),
 ((some (82, false)), (.v (.load 84 true 4 (.t 15)))),
 ((some (82, false)), (.e (.call (some 85) 14 [(.t 83), (.t 84)]))),
 ((some (82, false)), (.v (.not 86 (.t 85)))),
 ((some (78, true)), (.v (.pick 87 (.t 82) (.c (.bool true)) (.t 86)))),
 (none, (.v (.pick 88 (.t 78) (.t 87) (.c (.bool false)))))])
 (.cond 88
 (.seq (.ops [(none, (.v (.mov 8 (.c (.bool false)))))])
 .ret)
 .skip))
 (.seq (.ops [(none, (.e (.call (some 89) 8 []))),
 (none, (.v (.mov 90 (.t 89)))),
 ((some (90, true)), (.v (.mov 91 (.t 9)))),
 ((some (90, true)), (.p (.len 92 (.t 91)))),
 ((some (90, true)), (.v (.bin 93 .gtr false (.t 92) (.c (.int .i64 0))))),
 ((some (90, true)), (.v (.mov 94 (.t 93)))),
 ((some (94, false)), (.v (.mov 95 (.t 0)))),
 ((some (94, false)), (.v (.mov 96 (.t 1)))),
 ((some (94, false)), (.e (.call (some 97) 21 [(.t 95), (.t 96)]))),
 ((some (94, false)), (.v (.mov 98 (.t 0)))),
 ((some (94, false)), (.v (.mov 99 (.t 2)))),
 ((some (94, false)), (.e (.call (some 100) 21 [(.t 98), (.t 99)]))),
 ((some (94, false)), (.e (.call (some 101) 20 [(.t 97), (.t 100)]))),
 ((some (90, true)), (.v (.pick 102 (.t 94) (.c (.bool true)) (.t 101)))),
 (none, (.v (.pick 103 (.t 90) (.t 102) (.c (.bool false))))),
 (none, (.v (.mov 8 (.t 103))))])
 .ret)))))))))
theorem ok5 : FnOk E 5 104 [.tmp 8] mc5 := .of func5 (by kernel_rfl) (by kernel_rfl) (by kernel_rfl) (by kernel_rfl) (by kernel_rfl)
end Go.Proofs.Try
namespace Go.Proofs.Try
open Go.Al
set_option linter.unusedVariables false
set_option linter.unusedSimpArgs false
set_option maxHeartbeats 8000000
theorem mem_next {l : List Int} {i : Nat} {x : Int} (h : i < l.length) : decide (x ∈ l.take (i + 1)) = (decide (x ∈ l.take i) || decide (l.getD i 0 = x)) := by
  rw [take_succD h]
  have e : (default : Int) = 0 := rfl
  rw [e, ← Bool.decide_or]
  congr 1
  simp [eq_comm]
theorem c5 (l : List Ver) (fro to_ row : Int) : ACalls E.P 5 [.view 4 (l.map Ver.av), .int .i64 fro, .int .i64 to_, .int .i64 row] [] (fun r H => r = .bool true ∧ H = []) := by
  have hmax := maxLen_eq
  have h8 := c8
  have h11 := c11 l
  refine ok5.acalls hE hm (by simp) fun N hN => ?_
  unfold mc5
  simp only [lA, ptrCells, ptrAdd, isNil, readsV, readsP, isCall, wrote, srcOf, seval]
  by_cases hf : fewL l
  · obtain ⟨hl, _, hg⟩ := id hf
    rw [decide_eq_true hf] at h11
    by_cases hs : fro ≤ to_
    · have h24 := c24 l fro to_ (by omega)
      obtain ⟨ha, _⟩ := changed_spec l fro to_
      have hnw := fun x => newer_of (l := l) (x := x) (from_ := fro) (to_ := to_)
      have hvs := vis_same hg (row := row) hs
      have hrs := rows_same hg hs
      generalize changed l fro to_ = rc at *
      repeat' (first
       | (with_reducible apply St.o; constructor) <;> intro _
       | with_reducible first | refine LenR_i fun _ => ?_ | refine And.intro (by omega) ?_ | (apply Sp.o; constructor) | refine mkl_own ?_ | refine frz0_i ?_
       | ((with_reducible apply Sc.o true; constructor); simp only [lP, seval, List.length_map]; (first | refine ⟨_, h11, ?_⟩ | refine ⟨_, h8, ?_⟩); rintro _ _ ⟨rfl, rfl⟩; simp only [lA, lP, ptrCells, ptrAdd, isNil, readsV, readsP, isCall, wrote, srcOf, seval, List.length_map])
       | ((with_reducible apply Sc.o false; constructor); simp only [lP, seval, List.length_map]; refine ⟨_, h24, ?_⟩; rintro _ _ ⟨rfl, rfl⟩; simp only [lA, lP, ptrCells, ptrAdd, isNil, readsV, readsP, isCall, wrote, srcOf, seval, List.length_map])
       | ((with_reducible refine keep0_i ?_); simp only [lP, seval])
       | simp (maxSteps := 1000000) (disch := omega) only [lE, ptrCells, ptrAdd, isNil, readsV, readsP, isCall, wrote, srcOf, seval, List.length_map])
      all_goals try (exfalso; omega)
      refine loop_i (fun i : Nat => i ≤ rc.length) (fun i => ⟨[(0, .view 4 (l.map Ver.av)), (1, .int .i64 fro), (2, .int .i64 to_), (3, .int .i64 row), (9, .view 1 (rc.map (AV.int .i64))), (10, .bool (decide (row ∈ rc.take i))), (30, .view 1 (rc.map (AV.int .i64))), (31, .int .i64 rc.length), (32, .int .i64 i)], []⟩) (fun i => rc.length - i) 0 (by omega) (Ent.to [] false (by simp) (by simp) rfl (by simp only [lP, seval, List.take_zero, List.not_mem_nil, decide_false] <;> (try simp) <;> (try omega)) (by simp only [lP, seval, List.take_zero, List.not_mem_nil, decide_false] <;> (try simp) <;> (try omega))) ?_
      intro i hi
      by_cases hil : i < rc.length
      · have hlt : ((i : Int) < rc.length) = True := by simp; omega
        have hmem : rc.getD i 0 ∈ rc := by simp [hil]
        have h17 := c17 l (rc.getD i 0) fro
        rw [hnw _ hmem] at h17
        have hasc : 0 < i → ¬ rc.getD i 0 ≤ rc.getD (i - 1) 0 := fun h0 => by
          have := List.pairwise_iff_getElem.1 ha (i - 1) i (by omega) hil (by omega)
          simp [hil, show i - 1 < rc.length by omega]
          omega
        have hn1 : ((i : Int) - 1).toNat = i - 1 := by omega
        have hnx := mem_next (x := row) hil
        generalize hM : decide (row ∈ rc.take i) = M at *
        generalize hx : rc.getD i 0 = x at *
        repeat' (first
         | (with_reducible apply St.o; constructor) <;> intro _
         | with_reducible first | refine LenR_i fun _ => ?_ | refine And.intro (by omega) ?_ | (apply Sp.o; constructor) | refine mkl_own ?_ | refine frz0_i ?_ | refine any_i [] ?_
         | ((with_reducible apply Sc.o true; constructor); simp only [lP, seval, IdxR_ints, Int.toNat_natCast, List.length_map, hlt, hn1, hx, decide_true, Bool.not_true]; refine ⟨_, h17, ?_⟩; rintro _ _ ⟨rfl, rfl⟩; simp only [lA, lP, ptrCells, ptrAdd, isNil, readsV, readsP, isCall, wrote, srcOf, seval, IdxR_ints, Int.toNat_natCast, List.length_map, hlt, hn1, hx, decide_true, Bool.not_true])
         | ((with_reducible refine keep0_i ?_); simp only [lP, seval])
         | simp (maxSteps := 1000000) (disch := omega) only [lE, ptrCells, ptrAdd, isNil, readsV, readsP, isCall, wrote, srcOf, seval, IdxR_ints, Int.toNat_natCast, List.length_map, hlt, hn1, hx, decide_true, Bool.not_true])
        all_goals first
          | (exfalso; exact hasc (by omega) (by assumption))
          | (rename_i q; subst q
             exact back_i (i + 1) (by omega) (by omega) (Ent.to [] false (by simp) (by simp) rfl (by simp only [lP, seval, hnx, Bool.false_or, Bool.true_or, Bool.not_false] <;> (try simp) <;> (try omega)) (by simp only [lP, seval, hnx, Bool.false_or, Bool.true_or, Bool.not_false] <;> (try simp) <;> (try omega))))
      · have hlt : ((rc.length : Int) < rc.length) = False := by simp
        have hie : i = rc.length := by omega
        rw [hie, List.take_length]
        have h12a := c12 l row fro
        have h12b := c12 l row to_
        have h14 := fun a b => c14 a b
        have h21a := c21 l fro hg.2 (by omega)
        have h21b := c21 l to_ hg.2 (by omega)
        by_cases hin : row ∈ rc
        · have hpos : ((0 : Int) < rc.length) = True := by
            have := List.length_pos_of_mem hin
            simp; omega
          rw [decide_eq_true hin]
          repeat' (first
           | (with_reducible apply St.o; constructor) <;> intro _
           | with_reducible first | refine LenR_i fun _ => ?_ | refine And.intro (by omega) ?_ | (apply Sp.o; constructor) | refine mkl_own ?_ | refine frz0_i ?_
           | ((with_reducible apply Sc.o true; constructor); simp only [lP, seval, hlt, hpos, decide_false, decide_true, List.length_map, ren_ver, ver_av]; refine ⟨_, h8, ?_⟩; rintro _ _ ⟨rfl, rfl⟩; simp only [lA, lP, ptrCells, ptrAdd, isNil, readsV, readsP, isCall, wrote, srcOf, seval, hlt, hpos, decide_false, decide_true, List.length_map, ren_ver, ver_av])
           | ((with_reducible apply Sc.o false; constructor); simp only [lP, seval, hlt, hpos, decide_false, decide_true, List.length_map, ren_ver, ver_av]; (first | refine ⟨_, h12a, ?_⟩ | refine ⟨_, h12b, ?_⟩); rintro _ _ ⟨rfl, rfl⟩; simp only [lA, lP, ptrCells, ptrAdd, isNil, readsV, readsP, isCall, wrote, srcOf, seval, hlt, hpos, decide_false, decide_true, List.length_map, ren_ver, ver_av])
           | ((with_reducible refine keep0_i ?_); simp only [lP, seval])
           | simp (maxSteps := 1000000) (disch := omega) only [lE, ptrCells, ptrAdd, isNil, readsV, readsP, isCall, wrote, srcOf, seval, hlt, hpos, decide_false, decide_true, List.length_map, ren_ver, ver_av])
        · rw [decide_eq_false hin]
          rw [hvs hin] at h12a
          generalize vis l row to_ = rv at *
          obtain ⟨rv, rb⟩ := rv
          have h14 := c14 rv rv
          simp only [decide_true, ver_av] at h12a h12b h14
          by_cases h0 : rc = []
          · rw [hrs h0] at h21a
            have h20 := c20 (snapRows l to_) (snapRows l to_)
            simp only [decide_true] at h20
            repeat' (first
             | (with_reducible apply St.o; constructor) <;> intro _
             | with_reducible first | refine LenR_i fun _ => ?_ | refine And.intro (by omega) ?_ | (apply Sp.o; constructor) | refine mkl_own ?_ | refine frz0_i ?_
             | ((with_reducible apply Sc.o true; constructor); simp only [lP, seval, hlt, decide_false, decide_true, List.length_map, bne_self_eq_false, Bool.not_true, Bool.not_false]; (first | refine ⟨_, h8, ?_⟩ | refine ⟨_, h14, ?_⟩ | refine ⟨_, h20, ?_⟩); rintro _ _ ⟨rfl, rfl⟩; simp only [lA, lP, ptrCells, ptrAdd, isNil, readsV, readsP, isCall, wrote, srcOf, seval, hlt, decide_false, decide_true, List.length_map, bne_self_eq_false, Bool.not_true, Bool.not_false])
             | ((with_reducible apply Sc.o false; constructor); simp only [lP, seval, hlt, decide_false, decide_true, List.length_map, bne_self_eq_false, Bool.not_true, Bool.not_false]; (first | refine ⟨_, h12a, ?_⟩ | refine ⟨_, h12b, ?_⟩ | refine ⟨_, h21a, ?_⟩ | refine ⟨_, h21b, ?_⟩); rintro _ _ ⟨rfl, rfl⟩; simp only [lA, lP, ptrCells, ptrAdd, isNil, readsV, readsP, isCall, wrote, srcOf, seval, hlt, decide_false, decide_true, List.length_map, bne_self_eq_false, Bool.not_true, Bool.not_false])
             | ((with_reducible refine keep0_i ?_); simp only [lP, seval])
             | simp (maxSteps := 1000000) (disch := omega) only [lE, ptrCells, ptrAdd, isNil, readsV, readsP, isCall, wrote, srcOf, seval, hlt, decide_false, decide_true, List.length_map, bne_self_eq_false, Bool.not_true, Bool.not_false])
          · have hpos : ((0 : Int) < rc.length) = True := by
              have := List.length_pos_iff.2 h0
              simp; omega
            repeat' (first
             | (with_reducible apply St.o; constructor) <;> intro _
             | with_reducible first | refine LenR_i fun _ => ?_ | refine And.intro (by omega) ?_ | (apply Sp.o; constructor) | refine mkl_own ?_ | refine frz0_i ?_
             | ((with_reducible apply Sc.o true; constructor); simp only [lP, seval, hlt, hpos, decide_false, decide_true, List.length_map, bne_self_eq_false, Bool.not_true, Bool.not_false]; (first | refine ⟨_, h8, ?_⟩ | refine ⟨_, h14, ?_⟩); rintro _ _ ⟨rfl, rfl⟩; simp only [lA, lP, ptrCells, ptrAdd, isNil, readsV, readsP, isCall, wrote, srcOf, seval, hlt, hpos, decide_false, decide_true, List.length_map, bne_self_eq_false, Bool.not_true, Bool.not_false])
             | ((with_reducible apply Sc.o false; constructor); simp only [lP, seval, hlt, hpos, decide_false, decide_true, List.length_map, bne_self_eq_false, Bool.not_true, Bool.not_false]; (first | refine ⟨_, h12a, ?_⟩ | refine ⟨_, h12b, ?_⟩); rintro _ _ ⟨rfl, rfl⟩; simp only [lA, lP, ptrCells, ptrAdd, isNil, readsV, readsP, isCall, wrote, srcOf, seval, hlt, hpos, decide_false, decide_true, List.length_map, bne_self_eq_false, Bool.not_true, Bool.not_false])
             | ((with_reducible refine keep0_i ?_); simp only [lP, seval])
             | simp (maxSteps := 1000000) (disch := omega) only [lE, ptrCells, ptrAdd, isNil, readsV, readsP, isCall, wrote, srcOf, seval, hlt, hpos, decide_false, decide_true, List.length_map, bne_self_eq_false, Bool.not_true, Bool.not_false])
    · repeat' (first
       | (with_reducible apply St.o; constructor) <;> intro _
       | with_reducible first | refine LenR_i fun _ => ?_ | refine And.intro (by omega) ?_ | (apply Sp.o; constructor) | refine mkl_own ?_ | refine frz0_i ?_
       | ((with_reducible apply Sc.o true; constructor); simp only [lP, seval, List.length_map]; (first | refine ⟨_, h11, ?_⟩ | refine ⟨_, h8, ?_⟩); rintro _ _ ⟨rfl, rfl⟩; simp only [lA, lP, ptrCells, ptrAdd, isNil, readsV, readsP, isCall, wrote, srcOf, seval, List.length_map])
       | ((with_reducible refine keep0_i ?_); simp only [lP, seval])
       | simp (maxSteps := 1000000) (disch := omega) only [lE, ptrCells, ptrAdd, isNil, readsV, readsP, isCall, wrote, srcOf, seval, List.length_map])
      all_goals try (exfalso; omega)
  · rw [decide_eq_false hf] at h11
    repeat' (first
     | (with_reducible apply St.o; constructor) <;> intro _
     | with_reducible first | refine LenR_i fun _ => ?_ | refine And.intro (by omega) ?_ | (apply Sp.o; constructor) | refine mkl_own ?_ | refine frz0_i ?_
     | ((with_reducible apply Sc.o true; constructor); simp only [lP, seval, List.length_map]; (first | refine ⟨_, h11, ?_⟩ | refine ⟨_, h8, ?_⟩); rintro _ _ ⟨rfl, rfl⟩; simp only [lA, lP, ptrCells, ptrAdd, isNil, readsV, readsP, isCall, wrote, srcOf, seval, List.length_map])
     | ((with_reducible refine keep0_i ?_); simp only [lP, seval])
     | simp (maxSteps := 1000000) (disch := omega) only [lE, ptrCells, ptrAdd, isNil, readsV, readsP, isCall, wrote, srcOf, seval, List.length_map])
end Go.Proofs.Try


namespace Go.Proofs.Ytlkmgeahdidjeaa
open Go.Al Go.Proofs.Try
open Go.ChangeShapes Go.WideShapes Go.ChangeAt Go.RowKit
set_option linter.unusedVariables false
set_option maxRecDepth 100000 in
theorem lifted5 (os : Os) (started : os.Started) (H : Type) (enc : TypeId × Value → H) :
    ReturnsInHanded {} Try.checked os 5 .any (Rows.snapshotUnchangedSpec.pre6 enc Try.prog Try.f5 Rows.snapshotUnchangedRow.domain false) (Rows.snapshotUnchangedSpec.post enc Try.prog Try.f5 false true false false) := by
  refine returnsInHanded_of_change (C := Try.checked) own started (by kernel_rfl) Try.func5
    (ChangeSpec.witness6 (enc := enc) (C := Try.checked) false ⟨#[], #[.slice none 0 0, .int .i64 0, .int .i64 0, .int .i64 0], []⟩ 8 (by kernel_rfl) (by kernel_rfl) (by kernel_rfl) (by kernel_rfl)) ?_
  intro W base args ds gs before hval hW _ _
  exact contract_of hE kids full (s := Rows.snapshotUnchangedSpec) (tb := 4) (by rw [Try.params5]; decide +kernel) (by rw [Try.params5]; exact reads_cons rv22 (reads_cons rv3 (reads_cons rv3 (reads_cons rv3 (reads_nil))))) (by rintro _ ⟨a, _, ha, ⟨b, _, hb, ⟨c, _, hc, ⟨d, _, hd, rfl, rfl⟩, rfl⟩, rfl⟩, rfl⟩; exact c5 a b c d) rfl
    (by rw [Try.params5]; rintro H (_ | ⟨d0, (_ | ⟨d1, (_ | ⟨d2, (_ | ⟨d3, (_ | ⟨dz, ds⟩)⟩)⟩)⟩)⟩) hl <;> simp at hl; exact ⟨rfl, rfl, rfl⟩) (by kernel_rfl) (by kernel_rfl) H enc W base args ds gs before (glob_ok _) hval hW
theorem snapshotUnchanged_holds : Rows.SnapshotUnchangedSaid :=
  OpenClaim.holds_of_wide 5 Try.f5 rfl rfl rfl rfl rfl rfl rfl ⟨rfl, rfl, rfl, rfl, rfl⟩ rfl rfl rfl rfl rfl (by kernel_rfl) Try.func5 (by kernel_rfl)
    (of_decide_eq_true (by kernel_rfl)) (by unfold Func.isWrapper; first | (rw [if_pos (by decide +kernel)]; kernel_rfl) | (rw [if_neg (by decide +kernel)]; exact ⟨rfl, rfl⟩))
    (fun os started H enc _ => lifted5 os started H enc)
end Go.Proofs.Ytlkmgeahdidjeaa
