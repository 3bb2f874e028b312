/-
  Where exactly those transactions commit that Admit accepts, the history stays valid, and no two concurrent ones write a common item; no condition.
-/
import Derived.Test.YthbajphbhoiceaaPlaine
import Derived.Test.YthbajphbhoiceaaCbf
import Derived.Test.YthbajphbhoiceaaReadsTry
import Derived.Test.YthbajphbhoiceaaReads
import Derived.Test.YthbajphbhoiceaaRows
set_option linter.unusedSimpArgs false
set_option linter.unusedVariables false
namespace Go.Proofs.Try
open Go.Al
set_option maxRecDepth 100000
/-- alum/alumlaw26.ConflictFirstCommitterWins -/
def mc14 : MC :=
 (.seq (.ops [(none, (.v (.mov 2 (.c (.bool false)))))])
 (.seq (.ops [(none, (.e (.call (some 11) 16 []))),
  (none, (.v (.mov 3 (.t 11))))])
 (.seq (.seq (.ops [(none, (.v (.mov 12 (.t 0)))),
  (none, (.p (.len 13 (.t 12)))),
  (none, (.v (.bin 14 .gtr false (.t 13) (.c (.int .i64 9)))))])
 (.cond 14
  (.seq (.ops [(none, (.v (.mov 15 (.t 3)))),
   (none, (.v (.mov 2 (.t 15))))])
  .ret)
  .skip))
 (.seq (.ops [(none, (.v (.mov 17 (.t 0)))),
  (none, (.e (.call (some 18) 39 [(.c (.raw (.slice none 0 0))), (.t 17), (.c (.int .i64 3)), (.c (.int .i64 0))]))),
  (none, (.v (.mov 16 (.t 18)))),
  (none, (.v (.ext 19 0 (.t 16)))),
  (none, (.v (.ext 20 1 (.t 16)))),
  (none, (.v (.mov 4 (.t 19)))),
  (none, (.v (.mov 5 (.t 20))))])
 (.seq (.seq (.ops [(none, (.v (.mov 21 (.t 5)))),
  (none, (.v (.not 22 (.t 21))))])
 (.cond 22
  (.seq (.ops [(none, (.v (.mov 2 (.c (.bool false)))))])
  .ret)
  .skip))
 (.seq (.seq (.ops [(none, (.v (.mov 6 (.c (.int .i64 0)))))])
 (.block 0 (.loop (.seq (.seq (.ops [(none, (.v (.mov 23 (.t 6)))),
    (none, (.v (.mov 24 (.t 4)))),
    (none, (.p (.len 25 (.t 24)))),
    (none, (.v (.bin 26 .lss false (.t 23) (.t 25))))])
   (.cond 26
    .skip
    (.exit 0)))
   (.seq (.block 1 (.seq (.ops [(none, (.v (.mov 7 (.c (.int .i64 0)))))])
    (.block 2 (.loop (.seq (.seq (.ops [(none, (.v (.mov 29 (.t 7)))),
       (none, (.v (.mov 30 (.t 6)))),
       (none, (.v (.bin 31 .lss false (.t 29) (.t 30))))])
      (.cond 31
       .skip
       (.exit 2)))
      (.seq (.block 3 (.seq (.any false (.pure0 none (.v (.mov 34 (.t 4)))
        (.pure0 none (.v (.mov 35 (.t 6)))
        (.pure0 none (.p (.idx 36 6 (.t 34) (.t 35)))
        (.pure0 none (.v (.fld 37 2 (.t 36)))
        (.pure0 none (.v (.load 38 false 1 (.t 37)))
        (.pure0 none (.v (.mov 39 (.t 38)))
        (.pure0 (some (39, true)) (.v (.mov 40 (.t 4)))
        (.pure0 (some (39, true)) (.v (.mov 41 (.t 7)))
        (.pure0 (some (39, true)) (.p (.idx 42 6 (.t 40) (.t 41)))
        (.pure0 (some (39, true)) (.v (.fld 43 2 (.t 42)))
        (.pure0 (some (39, true)) (.v (.load 44 false 1 (.t 43)))
        (.pure0 none (.v (.pick 45 (.t 39) (.t 44) (.c (.bool false))))
        (.pure0 none (.v (.mov 46 (.t 45)))
        (.pure0 (some (46, true)) (.v (.mov 47 (.t 4)))
        (.pure0 (some (46, true)) (.v (.mov 48 (.t 6)))
        (.pure0 (some (46, true)) (.p (.idx 49 6 (.t 47) (.t 48)))
        (.pure0 (some (46, true)) (.v (.fld 50 1 (.t 49)))
        (.pure0 (some (46, true)) (.v (.load 51 false 1 (.t 50)))
        (.pure0 (some (46, true)) (.v (.mov 52 (.t 4)))
        (.pure0 (some (46, true)) (.v (.mov 53 (.t 7)))
        (.pure0 (some (46, true)) (.p (.idx 54 6 (.t 52) (.t 53)))
        (.pure0 (some (46, true)) (.v (.fld 55 3 (.t 54)))
        (.pure0 (some (46, true)) (.v (.load 56 false 1 (.t 55)))
        (.pure0 (some (46, true)) (.v (.bin 57 .lss false (.t 51) (.t 56)))
        (.pure0 none (.v (.pick 58 (.t 46) (.t 57) (.c (.bool false))))
        (.pure0 none (.v (.mov 59 (.t 58)))
        (.pure0 (some (59, true)) (.v (.mov 60 (.t 4)))
        (.pure0 (some (59, true)) (.v (.mov 61 (.t 7)))
        (.pure0 (some (59, true)) (.p (.idx 62 6 (.t 60) (.t 61)))
        (.pure0 (some (59, true)) (.v (.fld 63 1 (.t 62)))
        (.pure0 (some (59, true)) (.v (.load 64 false 1 (.t 63)))
        (.pure0 (some (59, true)) (.v (.mov 65 (.t 4)))
        (.pure0 (some (59, true)) (.v (.mov 66 (.t 6)))
        (.pure0 (some (59, true)) (.p (.idx 67 6 (.t 65) (.t 66)))
        (.pure0 (some (59, true)) (.v (.fld 68 3 (.t 67)))
        (.pure0 (some (59, true)) (.v (.load 69 false 1 (.t 68)))
        (.pure0 (some (59, true)) (.v (.bin 70 .lss false (.t 64) (.t 69)))
        (.pure0 none (.v (.pick 71 (.t 59) (.t 70) (.c (.bool false))))
        (.pure0 none (.v (.mov 8 (.t 71)))
        .done))))))))))))))))))))))))))))))))))))))))
       (.seq (.ops [(none, (.v (.mov 9 (.c (.int .i64 0)))))])
       (.block 4 (.loop (.seq (.seq (.ops [(none, (.v (.mov 72 (.t 9)))),
          (none, (.v (.mov 73 (.t 4)))),
          (none, (.v (.mov 74 (.t 6)))),
          (none, (.p (.idx 75 6 (.t 73) (.t 74)))),
          (none, (.v (.fld 76 5 (.t 75)))),
          (none, (.v (.load 77 false 1 (.t 76)))),
          (none, (.p (.len 78 (.t 77)))),
          (none, (.v (.bin 79 .lss false (.t 72) (.t 78)))),
          (none, (.v (.mov 80 (.t 79)))),
          ((some (80, true)), (.v (.mov 81 (.t 8)))),
          (none, (.v (.pick 82 (.t 80) (.t 81) (.c (.bool false)))))])
         (.cond 82
          .skip
          (.exit 4)))
         (.seq (.block 5 (.seq (.ops [(none, (.v (.mov 10 (.c (.int .i64 0)))))])
          (.block 6 (.loop (.seq (.seq (.ops [(none, (.v (.mov 85 (.t 10)))),
             (none, (.v (.mov 86 (.t 4)))),
             (none, (.v (.mov 87 (.t 7)))),
             (none, (.p (.idx 88 6 (.t 86) (.t 87)))),
             (none, (.v (.fld 89 5 (.t 88)))),
             (none, (.v (.load 90 false 1 (.t 89)))),
             (none, (.p (.len 91 (.t 90)))),
             (none, (.v (.bin 92 .lss false (.t 85) (.t 91))))])
            (.cond 92
             .skip
             (.exit 6)))
            (.seq (.block 7 (.seq (.any false (.pure0 none (.v (.mov 95 (.t 4)))
              (.pure0 none (.v (.mov 96 (.t 6)))
              (.pure0 none (.p (.idx 97 6 (.t 95) (.t 96)))
              (.pure0 none (.v (.fld 98 5 (.t 97)))
              (.pure0 none (.v (.load 99 false 1 (.t 98)))
              (.pure0 none (.v (.mov 100 (.t 9)))
              (.pure0 none (.p (.idx 101 1 (.t 99) (.t 100)))
              (.pure0 none (.v (.load 102 false 1 (.t 101)))
              (.pure0 none (.v (.mov 103 (.t 4)))
              (.pure0 none (.v (.mov 104 (.t 7)))
              (.pure0 none (.p (.idx 105 6 (.t 103) (.t 104)))
              (.pure0 none (.v (.fld 106 5 (.t 105)))
              (.pure0 none (.v (.load 107 false 1 (.t 106)))
              (.pure0 none (.v (.mov 108 (.t 10)))
              (.pure0 none (.p (.idx 109 1 (.t 107) (.t 108)))
              (.pure0 none (.v (.load 110 false 1 (.t 109)))
              (.pure0 none (.v (.bin 111 .eql false (.t 102) (.t 110)))
              .done))))))))))))))))))
             (.cond 111
              (.seq (.ops [(none, (.v (.mov 2 (.c (.bool false)))))])
              .ret)
              .skip)))
            (.ops [(none, (.v (.mov 93 (.t 10)))),
             (none, (.v (.bin 94 .add false (.t 93) (.c (.int .i64 1))))),
             (none, (.v (.mov 10 (.t 94))))])))))))
         (.ops [(none, (.v (.mov 83 (.t 9)))),
          (none, (.v (.bin 84 .add false (.t 83) (.c (.int .i64 1))))),
          (none, (.v (.mov 9 (.t 84))))]))))))))
      (.ops [(none, (.v (.mov 32 (.t 7)))),
       (none, (.v (.bin 33 .add false (.t 32) (.c (.int .i64 1))))),
       (none, (.v (.mov 7 (.t 33))))])))))))
   (.ops [(none, (.v (.mov 27 (.t 6)))),
    (none, (.v (.bin 28 .add false (.t 27) (.c (.int .i64 1))))),
    (none, (.v (.mov 6 (.t 28))))]))))))
 (.seq (.ops [(none, (.v (.mov 112 (.t 3)))),
  (none, (.v (.mov 113 (.t 112)))),
  ((some (113, true)), (.v (.mov 114 (.t 4)))),
  ((some (113, true)), (.e (.call (some 115) 18 [(.t 114)]))),
  ((some (113, true)), (.v (.bin 116 .eql false (.t 115) (.c (.int .i64 0))))),
  (none, (.v (.pick 117 (.t 113) (.t 116) (.c (.bool false))))),
  (none, (.v (.mov 2 (.t 117))))])
 .ret)))))))
theorem ok14 : FnOk E 14 118 [.tmp 2] mc14 := .of func14 (by kernel_rfl) (by kernel_rfl) (by kernel_rfl) (by kernel_rfl) (by kernel_rfl)
end Go.Proofs.Try
namespace Go.Proofs.Try
open Go.Al
set_option linter.unusedVariables false
set_option linter.unusedSimpArgs false
open Classical
set_option maxHeartbeats 8000000
/-- Two committed transactions that are concurrent. -/
def Conc (h : List Acc) (i k : Nat) : Prop := (at' h i).done = true ∧ (at' h k).done = true ∧ (at' h i).snap < (at' h k).stamp ∧ (at' h k).snap < (at' h i).stamp
theorem conc_no {h : List Acc} {i k n j : Nat} (hck : checkS h = 0) (hc : Conc h i k) (hik : k ≠ i) (hn : n < (at' h i).writes.length) (hj : j < (at' h k).writes.length) : ¬ (at' h i).writes.getD n 0 = (at' h k).writes.getD j 0 := by
  intro e
  obtain ⟨d1, d2, s1, s2⟩ := hc
  exact no_clash hck ⟨done_lt d1, d1, by omega⟩ ⟨done_lt d2, d2, by omega⟩ (Ne.symm hik) ⟨_, getD_mem hn, by rw [e]; exact getD_mem hj⟩ ⟨s1, s2⟩
theorem c14 (l : List TryT) (hts : ∀ t ∈ l, t.ok) : ACalls E.P 14 [.view 4 (l.map tryA)] [] (fun r H => r = .bool true ∧ H = []) := by
  have hmax := maxLen_eq
  refine ok14.acalls hE hm (by simp) ?_
  unfold mc14
  have h16 := c16
  repeat' (first
    | (with_reducible first | apply cond_d | apply cond_nd | apply cond_i | apply guard_d | apply guard_nd | apply guard_df | apply guard_ndf | apply guard_i | apply ag_d | apply ag_nd | apply ag_df | apply ag_ndf | apply ag_i) <;> intro _
    | with_reducible first | refine LenR_i fun _ => ?_ | refine And.intro (by omega) ?_ | refine and_assoc.2 ?_ | apply sp_cond | apply sp_guard | apply sp_ag | apply sp_call | apply sp_acall | apply sp_loop | apply sp_any | apply sp_frz | apply sp_len | apply sp_idx | apply sp_keep | apply sp_back
    | with_reducible refine frz0_i ?_
    | ((with_reducible first | refine callN_i [] true (by simp) (by simp) ?_ | refine acallN_i true ?_); simp only [lPA, lPD, novO, setAll, seval, implies_true, pa_trys, List.length_map]; (refine ⟨_, h16, ?_⟩; rintro _ _ ⟨rfl, rfl⟩); simp only [lAL, lDF, tupA, eqA, isNil, slcNil, ptrCells, ptrAdd, cellsO, intA, boolA, readsV, readsP, isCall, wrote, srcOf, isNilSlice, Value.oneCell', seval, implies_true, forall_eq, ne_eq, lPA, lPD, novO, setAll, pa_trys, List.length_map])
    | simp (maxSteps := 1000000) (disch := omega) only [lAL, lDF, tupA, eqA, isNil, slcNil, ptrCells, ptrAdd, cellsO, intA, boolA, readsV, readsP, isCall, wrote, srcOf, isNilSlice, Value.oneCell', seval, implies_true, forall_eq, ne_eq, wrap_i64, LenR_ok, List.length_map, IdxR_ints, pa_trys, List.length_map])
  · refine keep0_i ?_
    simp [lPA, lPD, novO, setAll, seval, implies_true]
  · rename_i hle
    obtain ⟨hok, hinv⟩ := run_ok (mode := 3) (least := 0) (h := []) (l := l) (.inr rfl) check_nil (by simp; omega) (by decide) ⟨by omega, by omega⟩ hts
    have k39 := (c39v [] l 3 0 hts hok (by simp)).nil_arg
    have hck := hinv.check
    generalize runS 3 0 [] l = h at *
    refine callN_i [] false (by simp) (by simp) ?_
    simp only [lPA, lPD, novO, setAll, seval, implies_true, pa_trys]
    refine ⟨_, k39, ?_⟩
    rintro _ _ ⟨rfl, rfl⟩
    clear k39 hok hinv h16
    simp only [lAL, lDF, tupA, eqA, isNil, slcNil, ptrCells, ptrAdd, cellsO, intA, boolA, readsV, readsP, isCall, wrote, srcOf, isNilSlice, Value.oneCell', seval, implies_true, forall_eq, ne_eq, lPA, lPD, novO, setAll, pa_accs, renL_accs]
    repeat' (first
      | (with_reducible first | apply cond_d | apply cond_nd | apply cond_i | apply guard_d | apply guard_nd | apply guard_df | apply guard_ndf | apply guard_i | apply ag_d | apply ag_nd | apply ag_df | apply ag_ndf | apply ag_i) <;> intro _
      | with_reducible first | refine LenR_i fun _ => ?_ | refine And.intro (by omega) ?_ | refine and_assoc.2 ?_ | apply sp_cond | apply sp_guard | apply sp_ag | apply sp_call | apply sp_acall | apply sp_loop | apply sp_any | apply sp_frz | apply sp_len | apply sp_idx | apply sp_keep | apply sp_back
      | with_reducible refine frz0_i ?_
      | simp (maxSteps := 1000000) (disch := omega) only [lAL, lDF, tupA, eqA, isNil, slcNil, ptrCells, ptrAdd, cellsO, intA, boolA, readsV, readsP, isCall, wrote, srcOf, isNilSlice, Value.oneCell', seval, implies_true, forall_eq, ne_eq, wrap_i64, LenR_ok, List.length_map, IdxR_ints])
    refine loop_i (fun i : Nat => i ≤ h.length) (fun i => ⟨[(3, .bool true), (4, .view 6 (h.map accA)), (6, .int .i64 i)], []⟩) (fun i => h.length - i) 0 (by omega) (Ent.to [] false (by simp) (by simp) rfl (by simp only [lPA, lPD, novO, setAll, seval, implies_true, pa_accs] <;> (try simp) <;> (try omega)) (by simp only [lPA, lPD, novO, setAll, seval, implies_true, pa_accs] <;> (try simp) <;> (try omega))) ?_
    intro i hi
    by_cases hin : i < h.length
    · have e1 : ∀ {m N d k}, IdxR E.P m N (h.map accA) (i : Int) d k = rK E.P m N k d (.vp (accC (at' h i))) := IdxR_at hin
      repeat' (first
        | (with_reducible first | apply cond_d | apply cond_nd | apply cond_i | apply guard_d | apply guard_nd | apply guard_df | apply guard_ndf | apply guard_i | apply ag_d | apply ag_nd | apply ag_df | apply ag_ndf | apply ag_i) <;> intro _
        | with_reducible first | refine LenR_i fun _ => ?_ | refine And.intro (by omega) ?_ | refine and_assoc.2 ?_ | apply sp_cond | apply sp_guard | apply sp_ag | apply sp_call | apply sp_acall | apply sp_loop | apply sp_any | apply sp_frz | apply sp_len | apply sp_idx | apply sp_keep | apply sp_back
        | with_reducible refine frz0_i ?_
        | simp (maxSteps := 1000000) (disch := omega) only [lAL, lDF, tupA, eqA, isNil, slcNil, ptrCells, ptrAdd, cellsO, intA, boolA, readsV, readsP, isCall, wrote, srcOf, isNilSlice, Value.oneCell', seval, implies_true, forall_eq, ne_eq, wrap_i64, LenR_ok, List.length_map, IdxR_ints])
      all_goals try (exfalso; omega)
      refine loop_i (fun k : Nat => k ≤ i) (fun k => ⟨[(3, .bool true), (4, .view 6 (h.map accA)), (6, .int .i64 i), (7, .int .i64 k)], []⟩) (fun k => i - k) 0 (by omega) (Ent.to [] false (by simp) (by simp) rfl (by simp only [lPA, lPD, novO, setAll, seval, implies_true, pa_accs] <;> (try simp) <;> (try omega)) (by simp only [lPA, lPD, novO, setAll, seval, implies_true, pa_accs] <;> (try simp) <;> (try omega))) ?_
      intro k hk
      by_cases hki : k < i
      · have e2 : ∀ {m N d q}, IdxR E.P m N (h.map accA) (k : Int) d q = rK E.P m N q d (.vp (accC (at' h k))) := IdxR_at (by omega)
        have hno := fun n j (hc : Conc h i k) => conc_no (n := n) (j := j) hck hc (by omega)
        have hcd : Conc h i k ↔ (at' h i).done = true ∧ (at' h k).done = true ∧ (at' h i).snap < (at' h k).stamp ∧ (at' h k).snap < (at' h i).stamp := Iff.rfl
        generalize Conc h i k = C at *
        repeat' (first
          | (with_reducible first | apply cond_d | apply cond_nd | apply cond_i | apply guard_d | apply guard_nd | apply guard_df | apply guard_ndf | apply guard_i | apply ag_d | apply ag_nd | apply ag_df | apply ag_ndf | apply ag_i) <;> intro _
          | with_reducible first | refine LenR_i fun _ => ?_ | refine And.intro (by omega) ?_ | refine and_assoc.2 ?_ | apply sp_cond | apply sp_guard | apply sp_ag | apply sp_call | apply sp_acall | apply sp_loop | apply sp_any | apply sp_frz | apply sp_len | apply sp_idx | apply sp_keep | apply sp_back
          | with_reducible refine frz0_i ?_
          | with_reducible refine any_i [] ?_
          | simp (maxSteps := 1000000) (disch := omega) only [lAL, lDF, tupA, eqA, isNil, slcNil, ptrCells, ptrAdd, cellsO, intA, boolA, readsV, readsP, isCall, wrote, srcOf, isNilSlice, Value.oneCell', seval, implies_true, forall_eq, ne_eq, wrap_i64, LenR_ok, List.length_map, IdxR_ints, e1, e2, accC])
        all_goals try (exfalso; omega)
        all_goals
          refine loop_i (fun n : Nat => n ≤ (at' h i).writes.length) (fun n => ⟨[(3, .bool true), (4, .view 6 (h.map accA)), (6, .int .i64 i), (7, .int .i64 k), (8, .bool (decide C)), (9, .int .i64 n)], []⟩) (fun n => (at' h i).writes.length - n) 0 (by omega) (Ent.to [] false (by simp) (by simp) rfl (by simp only [lPA, lPD, novO, setAll, seval, implies_true, pa_accs] <;> (clear e1 e2 hno hck; refine congrArg AV.bool (Bool.eq_iff_iff.2 ?_); simp only [decide_eq_true_eq, Bool.false_eq_true, hcd, false_iff]; clear hcd; first | grind | (simp_all; done))) (by simp only [lPA, lPD, novO, setAll, seval, implies_true])) ?_
          clear hcd
          intro n hn
          by_cases hnn : n < (at' h i).writes.length
          · have e3 : ∀ {m N d c}, IdxR E.P m N ((at' h i).writes.map (AV.int .i64)) (n : Int) d c = rK E.P m N c d (.vp [.int .i64 ((at' h i).writes.getD n 0)]) := by
              intros; rw [IdxR_ints (by omega) (by omega), Int.toNat_natCast]
            repeat' (first
              | (with_reducible first | apply cond_d | apply cond_nd | apply cond_i | apply guard_d | apply guard_nd | apply guard_df | apply guard_ndf | apply guard_i | apply ag_d | apply ag_nd | apply ag_df | apply ag_ndf | apply ag_i) <;> intro _
              | with_reducible first | refine LenR_i fun _ => ?_ | refine And.intro (by omega) ?_ | refine and_assoc.2 ?_ | apply sp_cond | apply sp_guard | apply sp_ag | apply sp_call | apply sp_acall | apply sp_loop | apply sp_any | apply sp_frz | apply sp_len | apply sp_idx | apply sp_keep | apply sp_back
              | with_reducible refine frz0_i ?_
              | simp (maxSteps := 1000000) (disch := omega) only [lAL, lDF, tupA, eqA, isNil, slcNil, ptrCells, ptrAdd, cellsO, intA, boolA, readsV, readsP, isCall, wrote, srcOf, isNilSlice, Value.oneCell', seval, implies_true, forall_eq, ne_eq, wrap_i64, LenR_ok, List.length_map, IdxR_ints, e1, accC])
            all_goals try (exfalso; omega)
            · have hC : C := by assumption
              refine loop_i (fun j : Nat => j ≤ (at' h k).writes.length) (fun j => ⟨[(3, .bool true), (4, .view 6 (h.map accA)), (6, .int .i64 i), (7, .int .i64 k), (8, .bool (decide C)), (9, .int .i64 n), (10, .int .i64 j)], []⟩) (fun j => (at' h k).writes.length - j) 0 (by omega) (Ent.to [] false (by simp) (by simp) rfl (by simp only [lPA, lPD, novO, setAll, seval, implies_true, pa_accs] <;> simp [hC]) (by simp only [lPA, lPD, novO, setAll, seval, implies_true])) ?_
              intro j hj
              by_cases hjn : j < (at' h k).writes.length
              · have e4 : ∀ {m N d c}, IdxR E.P m N ((at' h k).writes.map (AV.int .i64)) (j : Int) d c = rK E.P m N c d (.vp [.int .i64 ((at' h k).writes.getD j 0)]) := by
                  intros; rw [IdxR_ints (by omega) (by omega), Int.toNat_natCast]
                have hne := hno n j hC hnn hjn
                repeat' (first
                  | (with_reducible first | apply cond_d | apply cond_nd | apply cond_i | apply guard_d | apply guard_nd | apply guard_df | apply guard_ndf | apply guard_i | apply ag_d | apply ag_nd | apply ag_df | apply ag_ndf | apply ag_i) <;> intro _
                  | with_reducible first | refine LenR_i fun _ => ?_ | refine And.intro (by omega) ?_ | refine and_assoc.2 ?_ | apply sp_cond | apply sp_guard | apply sp_ag | apply sp_call | apply sp_acall | apply sp_loop | apply sp_any | apply sp_frz | apply sp_len | apply sp_idx | apply sp_keep | apply sp_back
                  | with_reducible refine frz0_i ?_
                  | with_reducible refine any_i [] ?_
                  | simp (maxSteps := 1000000) (disch := omega) only [lAL, lDF, tupA, eqA, isNil, slcNil, ptrCells, ptrAdd, cellsO, intA, boolA, readsV, readsP, isCall, wrote, srcOf, isNilSlice, Value.oneCell', seval, implies_true, forall_eq, ne_eq, wrap_i64, LenR_ok, List.length_map, IdxR_ints, e1, e2, e3, e4, accC, hne])
                all_goals try (exfalso; omega)
                all_goals refine back_i (j + 1) (by omega) (by omega) (Ent.to [] false (by simp) (by simp) rfl (by simp only [lPA, lPD, novO, setAll, seval, implies_true, pa_accs] <;> (try simp) <;> (try omega)) (by simp only [lPA, lPD, novO, setAll, seval, implies_true, pa_accs] <;> (try simp) <;> (try omega)))
              · repeat' (first
                  | (with_reducible first | apply cond_d | apply cond_nd | apply cond_i | apply guard_d | apply guard_nd | apply guard_df | apply guard_ndf | apply guard_i | apply ag_d | apply ag_nd | apply ag_df | apply ag_ndf | apply ag_i) <;> intro _
                  | with_reducible first | refine LenR_i fun _ => ?_ | refine And.intro (by omega) ?_ | refine and_assoc.2 ?_ | apply sp_cond | apply sp_guard | apply sp_ag | apply sp_call | apply sp_acall | apply sp_loop | apply sp_any | apply sp_frz | apply sp_len | apply sp_idx | apply sp_keep | apply sp_back
                  | with_reducible refine frz0_i ?_
                  | simp (maxSteps := 1000000) (disch := omega) only [lAL, lDF, tupA, eqA, isNil, slcNil, ptrCells, ptrAdd, cellsO, intA, boolA, readsV, readsP, isCall, wrote, srcOf, isNilSlice, Value.oneCell', seval, implies_true, forall_eq, ne_eq, wrap_i64, LenR_ok, List.length_map, IdxR_ints, e2, accC])
                all_goals try (exfalso; omega)
                refine back_i (n + 1) (by omega) (by omega) (Ent.to [] false (by simp) (by simp) rfl (by simp only [lPA, lPD, novO, setAll, seval, implies_true, pa_accs] <;> (try simp) <;> (try omega)) (by simp only [lPA, lPD, novO, setAll, seval, implies_true, pa_accs] <;> (try simp) <;> (try omega)))
            · refine back_i (k + 1) (by omega) (by omega) (Ent.to [] false (by simp) (by simp) rfl (by simp only [lPA, lPD, novO, setAll, seval, implies_true, pa_accs] <;> (try simp) <;> (try omega)) (by simp only [lPA, lPD, novO, setAll, seval, implies_true, pa_accs] <;> (try simp) <;> (try omega)))
          · repeat' (first
              | (with_reducible first | apply cond_d | apply cond_nd | apply cond_i | apply guard_d | apply guard_nd | apply guard_df | apply guard_ndf | apply guard_i | apply ag_d | apply ag_nd | apply ag_df | apply ag_ndf | apply ag_i) <;> intro _
              | with_reducible first | refine LenR_i fun _ => ?_ | refine And.intro (by omega) ?_ | refine and_assoc.2 ?_ | apply sp_cond | apply sp_guard | apply sp_ag | apply sp_call | apply sp_acall | apply sp_loop | apply sp_any | apply sp_frz | apply sp_len | apply sp_idx | apply sp_keep | apply sp_back
              | with_reducible refine frz0_i ?_
              | simp (maxSteps := 1000000) (disch := omega) only [lAL, lDF, tupA, eqA, isNil, slcNil, ptrCells, ptrAdd, cellsO, intA, boolA, readsV, readsP, isCall, wrote, srcOf, isNilSlice, Value.oneCell', seval, implies_true, forall_eq, ne_eq, wrap_i64, LenR_ok, List.length_map, IdxR_ints, e1, accC])
            all_goals try (exfalso; omega)
            refine back_i (k + 1) (by omega) (by omega) (Ent.to [] false (by simp) (by simp) rfl (by simp only [lPA, lPD, novO, setAll, seval, implies_true, pa_accs] <;> (try simp) <;> (try omega)) (by simp only [lPA, lPD, novO, setAll, seval, implies_true, pa_accs] <;> (try simp) <;> (try omega)))
      · repeat' (first
          | (with_reducible first | apply cond_d | apply cond_nd | apply cond_i | apply guard_d | apply guard_nd | apply guard_df | apply guard_ndf | apply guard_i | apply ag_d | apply ag_nd | apply ag_df | apply ag_ndf | apply ag_i) <;> intro _
          | with_reducible first | refine LenR_i fun _ => ?_ | refine And.intro (by omega) ?_ | refine and_assoc.2 ?_ | apply sp_cond | apply sp_guard | apply sp_ag | apply sp_call | apply sp_acall | apply sp_loop | apply sp_any | apply sp_frz | apply sp_len | apply sp_idx | apply sp_keep | apply sp_back
          | with_reducible refine frz0_i ?_
          | simp (maxSteps := 1000000) (disch := omega) only [lAL, lDF, tupA, eqA, isNil, slcNil, ptrCells, ptrAdd, cellsO, intA, boolA, readsV, readsP, isCall, wrote, srcOf, isNilSlice, Value.oneCell', seval, implies_true, forall_eq, ne_eq, wrap_i64, LenR_ok, List.length_map, IdxR_ints])
        all_goals try (exfalso; omega)
        refine back_i (i + 1) (by omega) (by omega) (Ent.to [] false (by simp) (by simp) rfl (by simp only [lPA, lPD, novO, setAll, seval, implies_true, pa_accs] <;> (try simp) <;> (try omega)) (by simp only [lPA, lPD, novO, setAll, seval, implies_true, pa_accs] <;> (try simp) <;> (try omega)))
    · have h18 := c18 h
      simp only [hck] at h18
      repeat' (first
        | (with_reducible first | apply cond_d | apply cond_nd | apply cond_i | apply guard_d | apply guard_nd | apply guard_df | apply guard_ndf | apply guard_i | apply ag_d | apply ag_nd | apply ag_df | apply ag_ndf | apply ag_i) <;> intro _
        | with_reducible first | refine LenR_i fun _ => ?_ | refine And.intro (by omega) ?_ | refine and_assoc.2 ?_ | apply sp_cond | apply sp_guard | apply sp_ag | apply sp_call | apply sp_acall | apply sp_loop | apply sp_any | apply sp_frz | apply sp_len | apply sp_idx | apply sp_keep | apply sp_back
        | with_reducible refine frz0_i ?_
        | ((with_reducible first | refine callN_i [] true (by simp) (by simp) ?_ | refine acallN_i true ?_); simp only [lPA, lPD, novO, setAll, seval, implies_true]; (refine ⟨_, h18, ?_⟩; rintro _ _ ⟨rfl, rfl⟩); simp only [lAL, lDF, tupA, eqA, isNil, slcNil, ptrCells, ptrAdd, cellsO, intA, boolA, readsV, readsP, isCall, wrote, srcOf, isNilSlice, Value.oneCell', seval, implies_true, forall_eq, ne_eq, lPA, lPD, novO, setAll])
        | simp (maxSteps := 1000000) (disch := omega) only [lAL, lDF, tupA, eqA, isNil, slcNil, ptrCells, ptrAdd, cellsO, intA, boolA, readsV, readsP, isCall, wrote, srcOf, isNilSlice, Value.oneCell', seval, implies_true, forall_eq, ne_eq, wrap_i64, LenR_ok, List.length_map, IdxR_ints])
      all_goals try (exfalso; omega)
      refine keep0_i ?_
      simp [lPA, lPD, novO, setAll, seval, implies_true]
end Go.Proofs.Try


namespace Go.Proofs.Ythbajphbhoiceaa
open Go.Al Go.Proofs.Try
open Go.ChangeShapes Go.WideShapes Go.ChangeAt Go.RowKit
set_option linter.unusedVariables false
set_option maxRecDepth 100000 in
theorem lifted14 (os : Os) (started : os.Started) (H : Type) (enc : TypeId × Value → H) :
    ReturnsInHanded {} Try.checked os 14 .any (Rows.conflictFirstCommitterWinsSpec.pre6 enc Try.prog Try.f14 Rows.conflictFirstCommitterWinsRow.domain false) (Rows.conflictFirstCommitterWinsSpec.post enc Try.prog Try.f14 false true false false) := by
  refine returnsInHanded_of_change (C := Try.checked) own started (by kernel_rfl) Try.func14
    (ChangeSpec.witness6 (enc := enc) (C := Try.checked) false ⟨#[], #[.slice none 0 0], []⟩ 8 (by kernel_rfl) (by kernel_rfl) (by kernel_rfl) (by kernel_rfl)) ?_
  intro W base args ds gs before hval hW _ _
  exact contract_of hE kids full (s := Rows.conflictFirstCommitterWinsSpec) (tb := 4) (by rw [Try.params14]; decide +kernel) (by rw [Try.params14]; exact reads_cons rv46 (reads_nil)) (by rintro _ ⟨a, _, ha, rfl, rfl⟩; exact c14 a ha) rfl
    (by rw [Try.params14]; rintro H (_ | ⟨d0, (_ | ⟨dz, ds⟩)⟩) hl <;> simp at hl; exact ⟨rfl, rfl, rfl⟩) (by kernel_rfl) (by kernel_rfl) H enc W base args ds gs before hval hW
theorem conflictFirstCommitterWins_holds : Rows.ConflictFirstCommitterWinsSaid :=
  OpenClaim.holds_of_wide 14 Try.f14 rfl rfl rfl rfl rfl rfl rfl ⟨rfl, rfl, rfl, rfl, rfl⟩ rfl rfl rfl rfl rfl (by kernel_rfl) Try.func14 (by kernel_rfl)
    (of_decide_eq_true (by kernel_rfl)) (by unfold Func.isWrapper; first | (rw [if_pos (by decide +kernel)]; kernel_rfl) | (rw [if_neg (by decide +kernel)]; exact ⟨rfl, rfl⟩))
    (fun os started H enc _ => lifted14 os started H enc)
end Go.Proofs.Ythbajphbhoiceaa
