/-
  A part of the proof: see the text of the law.
-/
import Derived.Test.YtjiijjfpmaligaaDoorCbk
import Derived.Test.YtjiijjfpmaligaaDoorCbd
set_option linter.unusedSimpArgs false
set_option linter.unusedVariables false
namespace Go.Proofs.Try
open Go.Proofs.Tryd
open Go.Al
set_option maxRecDepth 100000
/-- alum/alumlaw36.ExprMeetIsBoth -/
def mc5 : MC :=
 (.seq (.ops [(none, (.e (.box 4 (.t 0)))),
 (none, (.e (.box 5 (.t 1)))),
 (none, (.e (.box 6 (.t 2)))),
 (none, (.v (.mov 8 (.c (.bool false)))))])
 (.seq (.ops [(none, (.v (.load 13 true 11 (.t 4)))),
 (none, (.e (.call (some 14) 22 [(.t 13)]))),
 (none, (.v (.mov 9 (.t 14))))])
 (.seq (.ops [(none, (.v (.load 15 true 11 (.t 5)))),
 (none, (.e (.call (some 16) 22 [(.t 15)]))),
 (none, (.v (.mov 10 (.t 16))))])
 (.seq (.ops [(none, (.v (.load 17 true 3 (.t 6)))),
 (none, (.e (.call (some 18) 21 [(.t 17)]))),
 (none, (.v (.mov 11 (.t 18))))])
 (.seq (.seq (.ops [(none, (.v (.mov 19 (.t 9)))),
 (none, (.v (.not 20 (.t 19)))),
 (none, (.v (.mov 21 (.t 20)))),
 ((some (21, false)), (.v (.mov 22 (.t 10)))),
 ((some (21, false)), (.v (.not 23 (.t 22)))),
 (none, (.v (.pick 24 (.t 21) (.c (.bool true)) (.t 23)))),
 (none, (.v (.mov 25 (.t 24)))),
 ((some (25, false)), (.v (.mov 26 (.t 11)))),
 ((some (25, false)), (.v (.not 27 (.t 26)))),
 (none, (.v (.pick 28 (.t 25) (.c (.bool true)) (.t 27)))),
 (none, (.v (.mov 29 (.t 28)))),
 ((some (29, false)), (.v (.load 30 true 11 (.t 4)))),
 ((some (29, false)), (.v (.mov 31 (.t 3)))),
 ((some (29, false)), (.e (.call (some 32) 23 [(.t 30), (.t 31)]))),
 ((some (29, false)), (.v (.not 33 (.t 32)))),
 (none, (.v (.pick 34 (.t 29) (.c (.bool true)) (.t 33)))),
 (none, (.v (.mov 35 (.t 34)))),
 ((some (35, false)), (.v (.load 36 true 11 (.t 5)))),
 ((some (35, false)), (.v (.mov 37 (.t 3)))),
 ((some (35, false)), (.e (.call (some 38) 23 [(.t 36), (.t 37)]))),
 ((some (35, false)), (.v (.not 39 (.t 38)))),
 (none, (.v (.pick 40 (.t 35) (.c (.bool true)) (.t 39))))])
 (.cond 40
 (.seq (.ops [(none, (.e (.call (some 41) 13 []))),
 (none, (.v (.mov 8 (.t 41))))])
 .ret)
 .skip))
 (.seq (.ops [(none, (.v (.load 42 true 11 (.t 4)))),
 (none, (.v (.load 43 true 11 (.t 5)))),
 (none, (.e (.call (some 44) 24 [(.t 42), (.t 43)]))),
 (none, (.e (.alloc 12 [(.bool false), (.bool false), (.bool false), (.int .i64 0), (.int .i64 0), (.str ⟨#[]⟩), (.int .i64 0), (.int .i64 0), (.str ⟨#[]⟩), (.bool false), (.bool false)]))),
 (none, (.e (.store 11 true (.t 12) (.t 44))))])
 (.seq (.any false (.alt none (.e (.call (some 45) 13 []))
 (.base (.pure0 none (.v (.mov 46 (.t 45)))
 (.pure0 (some (46, true)) (.v (.load 47 true 11 (.t 12)))
 (.pure0 (some (46, true)) (.v (.load 48 true 3 (.t 6)))
 (.pure0 (some (46, true)) (.v (.load 50 true 11 (.t 4)))
 (.pure0 (some (46, true)) (.v (.load 51 true 3 (.t 6)))
 (.alt (some (46, true)) (.e (.call (some 49) 25 [(.t 47), (.t 48)]))
 (.base (.alt (some (46, true)) (.e (.call (some 52) 25 [(.t 50), (.t 51)]))
 (.base (.pure0 (some (46, true)) (.v (.mov 53 (.t 52)))
 (.pure0 (some (53, true)) (.v (.load 54 true 11 (.t 5)))
 (.pure0 (some (53, true)) (.v (.load 55 true 3 (.t 6)))
 (.alt (some (53, true)) (.e (.call (some 56) 25 [(.t 54), (.t 55)]))
 (.base (.pure0 (some (46, true)) (.v (.pick 57 (.t 53) (.t 56) (.c (.bool false))))
 (.pure0 (some (46, true)) (.v (.bin 58 .eql true (.t 49) (.t 57)))
 (.pure0 none (.v (.pick 59 (.t 46) (.t 58) (.c (.bool false))))
 (.pure0 none (.v (.mov 60 (.t 59)))
 (.pure0 (some (60, true)) (.v (.load 61 true 11 (.t 12)))
 (.alt (some (60, true)) (.e (.call (some 62) 22 [(.t 61)]))
 (.base (.pure0 none (.v (.pick 63 (.t 60) (.t 62) (.c (.bool false))))
 (.pure0 none (.v (.mov 64 (.t 63)))
 (.pure0 (some (64, true)) (.v (.load 65 true 11 (.t 12)))
 (.pure0 (some (64, true)) (.v (.load 66 true 11 (.t 5)))
 (.pure0 (some (64, true)) (.v (.load 67 true 11 (.t 4)))
 (.alt (some (64, true)) (.e (.call (some 68) 24 [(.t 66), (.t 67)]))
 (.base (.pure0 (some (64, true)) (.v (.eq 69 false (.agg [(0, false, 1, .bool), (1, false, 1, .bool), (2, false, 1, .bool), (3, true, 3, (.agg [(0, false, 1, .int), (1, false, 1, .int), (2, false, 1, .str)])), (6, true, 3, (.agg [(0, false, 1, .int), (1, false, 1, .int), (2, false, 1, .str)])), (9, false, 1, .bool), (10, false, 1, .bool)]) (.t 65) (.t 68)))
 (.pure0 none (.v (.pick 70 (.t 64) (.t 69) (.c (.bool false))))
 (.pure0 none (.v (.mov 8 (.t 70)))
 .done))))
 .stop)))))))
 .stop)))))))
 .stop)))))
 .stop))
 .stop)))))))
 .stop))
 .ret)))))))
theorem ok5 : FnOk E 5 71 [.tmp 8] mc5 := .of func5 (by kernel_rfl) (by kernel_rfl) (by kernel_rfl) (by kernel_rfl) (by kernel_rfl)
end Go.Proofs.Try
namespace Go.Proofs.Try
open Go.Al
set_option linter.unusedVariables false
set_option linter.unusedSimpArgs false
set_option maxRecDepth 20000
set_option maxHeartbeats 16000000

theorem c5 (h13 : Sane) (a b : RG) (v : VL) (k : Int) : ACalls E.P 5 [a.av, b.av, v.av, .int .i64 k] [] (fun r H => r = .bool true ∧ H = []) := by
  have h22a := c22 a
  have h22b := c22 b
  have h23a := c23 a k
  have h23b := c23 b k
  have h21 := c21 v
  have h24 := c24 a b
  have h24' := c24 b a
  have h25 := c25 (a.meet b) v
  have h25a := c25 a v
  have h25b := c25 b v
  have h22m := c22 (a.meet b)
  by_cases hc : a.rt = true ∧ b.rt = true ∧ v.Right ∧ a.ofK k = true ∧ b.ofK k = true
  · obtain ⟨g1, g2, g3, g4, g5⟩ := hc
    obtain ⟨m1, m2, m3⟩ := meet_law g1 g2 g4 g5 g3
    rw [← m3] at h24'
    rw [m1] at h25
    rw [m2] at h22m
    rw [g1] at h22a
    rw [g2] at h22b
    rw [g4] at h23a
    rw [g5] at h23b
    generalize a.meet b = m at *
    simp only [rg_av, vl_av] at *
    refine ok5.acalls hE hm (by simp) fun N hN => ?_
    unfold mc5
    simp only [lAL, lDF, tupA, eqA, isNil, slcNil, ptrCells, ptrAdd, cellsO, intA, boolA, readsV, readsP, isCall, wrote, srcOf, isNilSlice, Value.oneCell', seval, implies_true, forall_eq, ne_eq]
    clear m1 m2 m3 g1 g2 g4 g5
    repeat' (first
      | (with_reducible first | apply cond_d | apply cond_nd | apply cond_i | apply guard_d | apply guard_nd | apply guard_df | apply guard_ndf | apply guard_i | apply ag_d | apply ag_nd | apply ag_df | apply ag_ndf | apply ag_i) <;> intro _
      | with_reducible first | refine LenR_i fun _ => ?_ | refine And.intro (by omega) ?_ | refine and_assoc.2 ?_ | apply sp_cond | apply sp_guard | apply sp_ag | apply sp_call | apply sp_acall | apply sp_loop | apply sp_any | apply sp_frz | apply sp_len | apply sp_idx | apply sp_keep | apply sp_back
      | with_reducible refine frz0_i ?_
      | ((with_reducible first | refine callN_i [] true (by simp) (by simp) ?_ | refine acallN_i true ?_); simp only [lPA, lPD, novO, setAll, seval, implies_true, g3, ti45, strA, flatEq]; (first | (refine ⟨_, h22a, ?_⟩; rintro _ _ ⟨rfl, rfl⟩) | (refine ⟨_, h22b, ?_⟩; rintro _ _ ⟨rfl, rfl⟩) | (refine ⟨_, h22m, ?_⟩; rintro _ _ ⟨rfl, rfl⟩) | (refine ⟨_, h21, ?_⟩; rintro _ _ ⟨rfl, rfl⟩) | (refine ⟨_, h23a, ?_⟩; rintro _ _ ⟨rfl, rfl⟩) | (refine ⟨_, h23b, ?_⟩; rintro _ _ ⟨rfl, rfl⟩) | (refine ⟨_, h13, ?_⟩; rintro _ _ ⟨rfl, rfl⟩) | (refine ⟨_, h24, ?_⟩; rintro _ _ ⟨rfl, rfl⟩) | (refine ⟨_, h24', ?_⟩; rintro _ _ ⟨rfl, rfl⟩) | (refine ⟨_, h25, ?_⟩; rintro _ _ ⟨rfl, rfl⟩) | (refine ⟨_, h25a, ?_⟩; rintro _ _ ⟨rfl, rfl⟩) | (refine ⟨_, h25b, ?_⟩; rintro _ _ ⟨rfl, rfl⟩)); simp only [lAL, lDF, tupA, eqA, isNil, slcNil, ptrCells, ptrAdd, cellsO, intA, boolA, readsV, readsP, isCall, wrote, srcOf, isNilSlice, Value.oneCell', seval, implies_true, forall_eq, ne_eq, lPA, lPD, novO, setAll, g3, ti45, strA, flatEq])
      | ((with_reducible refine keep0_i ?_); simp only [lPA, lPD, novO, setAll, seval, implies_true])
      | simp (maxSteps := 1000000) (disch := omega) only [lAL, lDF, tupA, eqA, isNil, slcNil, ptrCells, ptrAdd, cellsO, intA, boolA, readsV, readsP, isCall, wrote, srcOf, isNilSlice, Value.oneCell', seval, implies_true, forall_eq, ne_eq, wrap_i64, LenR_ok, List.length_map, IdxR_ints, g3, ti45, strA, flatEq])
    all_goals
      rename_i u1 u2
      revert u1 u2
      generalize a.has v = x
      generalize b.has v = y
      cases x <;> cases y <;> simp
  · simp only [rg_av, vl_av] at *
    refine ok5.acalls hE hm (by simp) fun N hN => ?_
    unfold mc5
    simp only [lAL, lDF, tupA, eqA, isNil, slcNil, ptrCells, ptrAdd, cellsO, intA, boolA, readsV, readsP, isCall, wrote, srcOf, isNilSlice, Value.oneCell', seval, implies_true, forall_eq, ne_eq]
    clear h22m h24 h24' h25 h25a h25b
    cases g1 : a.rt
    · repeat' (first
        | (with_reducible first | apply cond_d | apply cond_nd | apply cond_i | apply guard_d | apply guard_nd | apply guard_df | apply guard_ndf | apply guard_i | apply ag_d | apply ag_nd | apply ag_df | apply ag_ndf | apply ag_i) <;> intro _
        | with_reducible first | refine LenR_i fun _ => ?_ | refine And.intro (by omega) ?_ | refine and_assoc.2 ?_ | apply sp_cond | apply sp_guard | apply sp_ag | apply sp_call | apply sp_acall | apply sp_loop | apply sp_any | apply sp_frz | apply sp_len | apply sp_idx | apply sp_keep | apply sp_back
        | with_reducible refine frz0_i ?_
        | ((with_reducible first | refine callN_i [] true (by simp) (by simp) ?_ | refine acallN_i true ?_); simp only [lPA, lPD, novO, setAll, seval, implies_true, g1]; (first | (refine ⟨_, h22a, ?_⟩; rintro _ _ ⟨rfl, rfl⟩) | (refine ⟨_, h22b, ?_⟩; rintro _ _ ⟨rfl, rfl⟩) | (refine ⟨_, h21, ?_⟩; rintro _ _ ⟨rfl, rfl⟩) | (refine ⟨_, h13, ?_⟩; rintro _ _ ⟨rfl, rfl⟩)); simp only [lAL, lDF, tupA, eqA, isNil, slcNil, ptrCells, ptrAdd, cellsO, intA, boolA, readsV, readsP, isCall, wrote, srcOf, isNilSlice, Value.oneCell', seval, implies_true, forall_eq, ne_eq, lPA, lPD, novO, setAll, g1])
        | ((with_reducible refine keep0_i ?_); simp only [lPA, lPD, novO, setAll, seval, implies_true])
        | simp (maxSteps := 1000000) (disch := omega) only [lAL, lDF, tupA, eqA, isNil, slcNil, ptrCells, ptrAdd, cellsO, intA, boolA, readsV, readsP, isCall, wrote, srcOf, isNilSlice, Value.oneCell', seval, implies_true, forall_eq, ne_eq, wrap_i64, LenR_ok, List.length_map, IdxR_ints, g1])
    cases g2 : b.rt
    · repeat' (first
        | (with_reducible first | apply cond_d | apply cond_nd | apply cond_i | apply guard_d | apply guard_nd | apply guard_df | apply guard_ndf | apply guard_i | apply ag_d | apply ag_nd | apply ag_df | apply ag_ndf | apply ag_i) <;> intro _
        | with_reducible first | refine LenR_i fun _ => ?_ | refine And.intro (by omega) ?_ | refine and_assoc.2 ?_ | apply sp_cond | apply sp_guard | apply sp_ag | apply sp_call | apply sp_acall | apply sp_loop | apply sp_any | apply sp_frz | apply sp_len | apply sp_idx | apply sp_keep | apply sp_back
        | with_reducible refine frz0_i ?_
        | ((with_reducible first | refine callN_i [] true (by simp) (by simp) ?_ | refine acallN_i true ?_); simp only [lPA, lPD, novO, setAll, seval, implies_true, g1, g2]; (first | (refine ⟨_, h22a, ?_⟩; rintro _ _ ⟨rfl, rfl⟩) | (refine ⟨_, h22b, ?_⟩; rintro _ _ ⟨rfl, rfl⟩) | (refine ⟨_, h21, ?_⟩; rintro _ _ ⟨rfl, rfl⟩) | (refine ⟨_, h13, ?_⟩; rintro _ _ ⟨rfl, rfl⟩)); simp only [lAL, lDF, tupA, eqA, isNil, slcNil, ptrCells, ptrAdd, cellsO, intA, boolA, readsV, readsP, isCall, wrote, srcOf, isNilSlice, Value.oneCell', seval, implies_true, forall_eq, ne_eq, lPA, lPD, novO, setAll, g1, g2])
        | ((with_reducible refine keep0_i ?_); simp only [lPA, lPD, novO, setAll, seval, implies_true])
        | simp (maxSteps := 1000000) (disch := omega) only [lAL, lDF, tupA, eqA, isNil, slcNil, ptrCells, ptrAdd, cellsO, intA, boolA, readsV, readsP, isCall, wrote, srcOf, isNilSlice, Value.oneCell', seval, implies_true, forall_eq, ne_eq, wrap_i64, LenR_ok, List.length_map, IdxR_ints, g1, g2])
    by_cases g3 : v.Right
    · cases g4 : a.ofK k
      · repeat' (first
          | (with_reducible first | apply cond_d | apply cond_nd | apply cond_i | apply guard_d | apply guard_nd | apply guard_df | apply guard_ndf | apply guard_i | apply ag_d | apply ag_nd | apply ag_df | apply ag_ndf | apply ag_i) <;> intro _
          | with_reducible first | refine LenR_i fun _ => ?_ | refine And.intro (by omega) ?_ | refine and_assoc.2 ?_ | apply sp_cond | apply sp_guard | apply sp_ag | apply sp_call | apply sp_acall | apply sp_loop | apply sp_any | apply sp_frz | apply sp_len | apply sp_idx | apply sp_keep | apply sp_back
          | with_reducible refine frz0_i ?_
          | ((with_reducible first | refine callN_i [] true (by simp) (by simp) ?_ | refine acallN_i true ?_); simp only [lPA, lPD, novO, setAll, seval, implies_true, g1, g2, g3, g4]; (first | (refine ⟨_, h22a, ?_⟩; rintro _ _ ⟨rfl, rfl⟩) | (refine ⟨_, h22b, ?_⟩; rintro _ _ ⟨rfl, rfl⟩) | (refine ⟨_, h21, ?_⟩; rintro _ _ ⟨rfl, rfl⟩) | (refine ⟨_, h23a, ?_⟩; rintro _ _ ⟨rfl, rfl⟩) | (refine ⟨_, h13, ?_⟩; rintro _ _ ⟨rfl, rfl⟩)); simp only [lAL, lDF, tupA, eqA, isNil, slcNil, ptrCells, ptrAdd, cellsO, intA, boolA, readsV, readsP, isCall, wrote, srcOf, isNilSlice, Value.oneCell', seval, implies_true, forall_eq, ne_eq, lPA, lPD, novO, setAll, g1, g2, g3, g4])
          | ((with_reducible refine keep0_i ?_); simp only [lPA, lPD, novO, setAll, seval, implies_true])
          | simp (maxSteps := 1000000) (disch := omega) only [lAL, lDF, tupA, eqA, isNil, slcNil, ptrCells, ptrAdd, cellsO, intA, boolA, readsV, readsP, isCall, wrote, srcOf, isNilSlice, Value.oneCell', seval, implies_true, forall_eq, ne_eq, wrap_i64, LenR_ok, List.length_map, IdxR_ints, g1, g2, g3, g4])
      cases g5 : b.ofK k
      · repeat' (first
          | (with_reducible first | apply cond_d | apply cond_nd | apply cond_i | apply guard_d | apply guard_nd | apply guard_df | apply guard_ndf | apply guard_i | apply ag_d | apply ag_nd | apply ag_df | apply ag_ndf | apply ag_i) <;> intro _
          | with_reducible first | refine LenR_i fun _ => ?_ | refine And.intro (by omega) ?_ | refine and_assoc.2 ?_ | apply sp_cond | apply sp_guard | apply sp_ag | apply sp_call | apply sp_acall | apply sp_loop | apply sp_any | apply sp_frz | apply sp_len | apply sp_idx | apply sp_keep | apply sp_back
          | with_reducible refine frz0_i ?_
          | ((with_reducible first | refine callN_i [] true (by simp) (by simp) ?_ | refine acallN_i true ?_); simp only [lPA, lPD, novO, setAll, seval, implies_true, g1, g2, g3, g4, g5]; (first | (refine ⟨_, h22a, ?_⟩; rintro _ _ ⟨rfl, rfl⟩) | (refine ⟨_, h22b, ?_⟩; rintro _ _ ⟨rfl, rfl⟩) | (refine ⟨_, h21, ?_⟩; rintro _ _ ⟨rfl, rfl⟩) | (refine ⟨_, h23a, ?_⟩; rintro _ _ ⟨rfl, rfl⟩) | (refine ⟨_, h23b, ?_⟩; rintro _ _ ⟨rfl, rfl⟩) | (refine ⟨_, h13, ?_⟩; rintro _ _ ⟨rfl, rfl⟩)); simp only [lAL, lDF, tupA, eqA, isNil, slcNil, ptrCells, ptrAdd, cellsO, intA, boolA, readsV, readsP, isCall, wrote, srcOf, isNilSlice, Value.oneCell', seval, implies_true, forall_eq, ne_eq, lPA, lPD, novO, setAll, g1, g2, g3, g4, g5])
          | ((with_reducible refine keep0_i ?_); simp only [lPA, lPD, novO, setAll, seval, implies_true])
          | simp (maxSteps := 1000000) (disch := omega) only [lAL, lDF, tupA, eqA, isNil, slcNil, ptrCells, ptrAdd, cellsO, intA, boolA, readsV, readsP, isCall, wrote, srcOf, isNilSlice, Value.oneCell', seval, implies_true, forall_eq, ne_eq, wrap_i64, LenR_ok, List.length_map, IdxR_ints, g1, g2, g3, g4, g5])
      exact absurd ⟨g1, g2, g3, g4, g5⟩ hc
    · repeat' (first
        | (with_reducible first | apply cond_d | apply cond_nd | apply cond_i | apply guard_d | apply guard_nd | apply guard_df | apply guard_ndf | apply guard_i | apply ag_d | apply ag_nd | apply ag_df | apply ag_ndf | apply ag_i) <;> intro _
        | with_reducible first | refine LenR_i fun _ => ?_ | refine And.intro (by omega) ?_ | refine and_assoc.2 ?_ | apply sp_cond | apply sp_guard | apply sp_ag | apply sp_call | apply sp_acall | apply sp_loop | apply sp_any | apply sp_frz | apply sp_len | apply sp_idx | apply sp_keep | apply sp_back
        | with_reducible refine frz0_i ?_
        | ((with_reducible first | refine callN_i [] true (by simp) (by simp) ?_ | refine acallN_i true ?_); simp only [lPA, lPD, novO, setAll, seval, implies_true, g1, g2, g3]; (first | (refine ⟨_, h22a, ?_⟩; rintro _ _ ⟨rfl, rfl⟩) | (refine ⟨_, h22b, ?_⟩; rintro _ _ ⟨rfl, rfl⟩) | (refine ⟨_, h21, ?_⟩; rintro _ _ ⟨rfl, rfl⟩) | (refine ⟨_, h13, ?_⟩; rintro _ _ ⟨rfl, rfl⟩)); simp only [lAL, lDF, tupA, eqA, isNil, slcNil, ptrCells, ptrAdd, cellsO, intA, boolA, readsV, readsP, isCall, wrote, srcOf, isNilSlice, Value.oneCell', seval, implies_true, forall_eq, ne_eq, lPA, lPD, novO, setAll, g1, g2, g3])
        | ((with_reducible refine keep0_i ?_); simp only [lPA, lPD, novO, setAll, seval, implies_true])
        | simp (maxSteps := 1000000) (disch := omega) only [lAL, lDF, tupA, eqA, isNil, slcNil, ptrCells, ptrAdd, cellsO, intA, boolA, readsV, readsP, isCall, wrote, srcOf, isNilSlice, Value.oneCell', seval, implies_true, forall_eq, ne_eq, wrap_i64, LenR_ok, List.length_map, IdxR_ints, g1, g2, g3])
end Go.Proofs.Try
