/-
  A part of the proof: see the text of the law.
-/
import Derived.Test.YtjiijjfpmaligaaDoorCbf
set_option linter.unusedSimpArgs false
set_option linter.unusedVariables false
namespace Go.Proofs.Try
open Go.Proofs.Tryd
open Go.Al
set_option maxRecDepth 100000
/-- alum/alumlaw36.ExprKeepsKinds -/
def mc4 : MC :=
 (.seq (.ops [(none, (.e (.box 4 (.t 1)))),
 (none, (.v (.mov 6 (.c (.bool false)))))])
 (.seq (.ops [(none, (.v (.mov 12 (.t 0)))),
 (none, (.v (.mov 13 (.t 2)))),
 (none, (.e (.call (some 14) 11 [(.t 12), (.t 13)]))),
 (none, (.v (.mov 7 (.t 14))))])
 (.seq (.seq (.ops [(none, (.v (.mov 15 (.t 7)))),
 (none, (.v (.not 16 (.t 15)))),
 (none, (.v (.mov 17 (.t 16)))),
 ((some (17, false)), (.v (.load 18 true 6 (.t 4)))),
 ((some (17, false)), (.e (.call (some 19) 19 [(.t 18)]))),
 ((some (17, false)), (.v (.bin 20 .gtr false (.t 19) (.c (.int .i64 300))))),
 (none, (.v (.pick 21 (.t 17) (.c (.bool true)) (.t 20))))])
 (.cond 21
 (.seq (.ops [(none, (.e (.call (some 22) 13 []))),
 (none, (.v (.mov 6 (.t 22))))])
 .ret)
 .skip))
 (.seq (.ops [(none, (.v (.mov 24 (.t 0)))),
 (none, (.v (.load 25 true 6 (.t 4)))),
 (none, (.e (.call (some 26) 16 [(.t 24), (.t 25)]))),
 (none, (.v (.mov 23 (.t 26)))),
 (none, (.v (.ext 27 0 (.t 23)))),
 (none, (.v (.ext 28 1 (.t 23)))),
 (none, (.v (.mov 8 (.t 27)))),
 (none, (.v (.mov 9 (.t 28))))])
 (.seq (.seq (.ops [(none, (.v (.mov 29 (.t 9)))),
 (none, (.v (.bin 30 .neq false (.t 29) (.c (.int .i64 0)))))])
 (.cond 30
 (.seq (.ops [(none, (.e (.call (some 31) 13 []))),
 (none, (.v (.mov 6 (.t 31))))])
 .ret)
 .skip))
 (.seq (.ops [(none, (.v (.load 33 true 6 (.t 4)))),
 (none, (.v (.mov 34 (.t 2)))),
 (none, (.e (.call (some 35) 14 [(.t 33), (.t 34)]))),
 (none, (.v (.mov 32 (.t 35)))),
 (none, (.v (.ext 36 0 (.t 32)))),
 (none, (.v (.ext 37 1 (.t 32)))),
 (none, (.e (.alloc 10 [(.int .i64 0), (.int .i64 0), (.str ⟨#[]⟩)]))),
 (none, (.e (.store 3 true (.t 10) (.t 36)))),
 (none, (.v (.mov 11 (.t 37))))])
 (.seq (.seq (.ops [(none, (.v (.mov 38 (.t 11)))),
 (none, (.v (.bin 39 .neq false (.t 38) (.c (.int .i64 0)))))])
 (.cond 39
 (.seq (.ops [(none, (.e (.call (some 40) 13 []))),
 (none, (.v (.mov 41 (.t 40)))),
 ((some (41, true)), (.v (.mov 42 (.t 11)))),
 ((some (41, true)), (.v (.bin 43 .eql false (.t 42) (.c (.int .i64 360))))),
 (none, (.v (.pick 44 (.t 41) (.t 43) (.c (.bool false))))),
 (none, (.v (.mov 45 (.t 44)))),
 ((some (45, true)), (.v (.load 46 true 6 (.t 4)))),
 ((some (45, true)), (.e (.call (some 47) 20 [(.t 46)]))),
 (none, (.v (.pick 48 (.t 45) (.t 47) (.c (.bool false))))),
 (none, (.v (.mov 49 (.t 48)))),
 ((some (49, true)), (.v (.load 50 true 3 (.t 10)))),
 ((some (49, true)), (.v (.build 51 [(.int .i64 0), (.int .i64 0), (.str ⟨#[]⟩)] []))),
 ((some (49, true)), (.v (.eq 52 false (.agg [(0, false, 1, .int), (1, false, 1, .int), (2, false, 1, .str)]) (.t 50) (.t 51)))),
 (none, (.v (.pick 53 (.t 49) (.t 52) (.c (.bool false))))),
 (none, (.v (.mov 6 (.t 53))))])
 .ret)
 .skip))
 (.seq (.ops [(none, (.e (.call (some 54) 13 []))),
 (none, (.v (.mov 55 (.t 54)))),
 ((some (55, true)), (.v (.load 56 true 3 (.t 10)))),
 ((some (55, true)), (.e (.call (some 57) 21 [(.t 56)]))),
 (none, (.v (.pick 58 (.t 55) (.t 57) (.c (.bool false))))),
 (none, (.v (.mov 59 (.t 58)))),
 ((some (59, true)), (.v (.fld 60 0 (.t 10)))),
 ((some (59, true)), (.v (.load 61 false 1 (.t 60)))),
 ((some (59, true)), (.v (.mov 62 (.t 8)))),
 ((some (59, true)), (.v (.bin 63 .eql false (.t 61) (.t 62)))),
 ((some (59, true)), (.v (.mov 64 (.t 63)))),
 ((some (64, false)), (.v (.fld 65 0 (.t 10)))),
 ((some (64, false)), (.v (.load 66 false 1 (.t 65)))),
 ((some (64, false)), (.v (.bin 67 .eql false (.t 66) (.c (.int .i64 0))))),
 ((some (59, true)), (.v (.pick 68 (.t 64) (.c (.bool true)) (.t 67)))),
 (none, (.v (.pick 69 (.t 59) (.t 68) (.c (.bool false))))),
 (none, (.v (.mov 6 (.t 69))))])
 .ret))))))))
theorem ok4 : FnOk E 4 70 [.tmp 6] mc4 := .of func4 (by kernel_rfl) (by kernel_rfl) (by kernel_rfl) (by kernel_rfl) (by kernel_rfl)
end Go.Proofs.Try
namespace Go.Proofs.Try
open Go.Al
set_option linter.unusedVariables false
set_option linter.unusedSimpArgs false
set_option maxRecDepth 20000
set_option maxHeartbeats 8000000

theorem c4 (h13 : Sane) (ks : List Int) (e : EX) (hI : e.okI) (r : List VL) : ACalls E.P 4 [ksV ks, e.av, rowV r] [] (fun r H => r = .bool true ∧ H = []) := by
  have h11 := c11 ks r
  have h19 := c19 e
  have h16 := c16 ks e hI
  have h20 := c20 e
  have h21 : ∀ v : VL, ACalls E.P 21 [.agg v.cs] [] (fun r H => r = .bool (decide v.Right) ∧ H = []) := c21
  simp only [av_fs] at h19 h16 h20
  generalize IntKind.i64.wrap (e.count : Int) = sz at h19
  refine ok4.acalls hE hm (by simp) fun N hN => ?_
  unfold mc4
  simp only [lAL, lDF, tupA, eqA, isNil, slcNil, ptrCells, ptrAdd, cellsO, intA, boolA, readsV, readsP, isCall, wrote, srcOf, isNilSlice, Value.oneCell', seval, implies_true, forall_eq, ne_eq, av_fs]
  by_cases ho : OfR ks r
  · by_cases hc : (chk ks e).2 = 0
    · obtain ⟨hf, hk, hck⟩ := chk_ok hc
      obtain ⟨t1, t2, t3⟩ := ex_tr e hf
      obtain ⟨hfit, hvals⟩ := kind_ok ks e.tr t2 hk
      rw [← ho.2.1] at hfit
      have h14 := c14 (ofR_right ho) e.tr t2 hfit hvals
      have hr := T.eval_right (ofR_right ho) e.tr t2 hfit hvals
      have hek := eval_kind ho e.tr t2 hk
      have hfe := T.fails_ex e.tr
      rw [t1] at hfe
      rw [← hfe, ← hck] at hek
      rw [t1, av_fs] at h14
      simp only [vl_av] at h14
      generalize (e.tr.eval r).1 = v at *
      generalize (e.tr.eval r).2 = er at *
      have h21v := h21 v
      rcases hek with ⟨rfl, hk2⟩ | ⟨rfl, rfl, hk3⟩
      · repeat' (first
          | (with_reducible first | apply cond_d | apply cond_nd | apply cond_i | apply guard_d | apply guard_nd | apply guard_df | apply guard_ndf | apply guard_i | apply ag_d | apply ag_nd | apply ag_df | apply ag_ndf | apply ag_i) <;> intro _
          | with_reducible first | refine LenR_i fun _ => ?_ | refine And.intro (by omega) ?_ | refine and_assoc.2 ?_ | apply sp_cond | apply sp_guard | apply sp_ag | apply sp_call | apply sp_acall | apply sp_loop | apply sp_any | apply sp_frz | apply sp_len | apply sp_idx | apply sp_keep | apply sp_back
          | with_reducible refine frz0_i ?_
          | ((with_reducible first | refine callN_i [] true (by simp) (by simp) ?_ | refine acallN_i true ?_); simp only [lPA, lPD, novO, setAll, seval, implies_true, ho, hc, hr, strA, flatEq]; (first | (refine ⟨_, h11, ?_⟩; rintro _ _ ⟨rfl, rfl⟩) | (refine ⟨_, h19, ?_⟩; rintro _ _ ⟨rfl, rfl⟩) | (refine ⟨_, h13, ?_⟩; rintro _ _ ⟨rfl, rfl⟩) | (refine ⟨_, h14, ?_⟩; rintro _ _ ⟨rfl, rfl⟩) | (refine ⟨_, h16, ?_⟩; rintro _ _ ⟨rfl, rfl⟩) | (refine ⟨_, h20, ?_⟩; rintro _ _ ⟨rfl, rfl⟩) | (refine ⟨_, h21v, ?_⟩; rintro _ _ ⟨rfl, rfl⟩)); simp only [lAL, lDF, tupA, eqA, isNil, slcNil, ptrCells, ptrAdd, cellsO, intA, boolA, readsV, readsP, isCall, wrote, srcOf, isNilSlice, Value.oneCell', seval, implies_true, forall_eq, ne_eq, lPA, lPD, novO, setAll, ho, hc, hr, strA, flatEq])
          | ((with_reducible refine keep0_i ?_); simp only [lPA, lPD, novO, setAll, seval, implies_true])
          | simp (maxSteps := 1000000) (disch := omega) only [lAL, lDF, tupA, eqA, isNil, slcNil, ptrCells, ptrAdd, cellsO, intA, boolA, readsV, readsP, isCall, wrote, srcOf, isNilSlice, Value.oneCell', seval, implies_true, forall_eq, ne_eq, wrap_i64, LenR_ok, List.length_map, IdxR_ints, ho, hc, hr, strA, flatEq])
        all_goals (rcases hk2 with h | h <;> first | (simp [h]; done) | contradiction)
      · repeat' (first
          | (with_reducible first | apply cond_d | apply cond_nd | apply cond_i | apply guard_d | apply guard_nd | apply guard_df | apply guard_ndf | apply guard_i | apply ag_d | apply ag_nd | apply ag_df | apply ag_ndf | apply ag_i) <;> intro _
          | with_reducible first | refine LenR_i fun _ => ?_ | refine And.intro (by omega) ?_ | refine and_assoc.2 ?_ | apply sp_cond | apply sp_guard | apply sp_ag | apply sp_call | apply sp_acall | apply sp_loop | apply sp_any | apply sp_frz | apply sp_len | apply sp_idx | apply sp_keep | apply sp_back
          | with_reducible refine frz0_i ?_
          | ((with_reducible first | refine callN_i [] true (by simp) (by simp) ?_ | refine acallN_i true ?_); simp only [lPA, lPD, novO, setAll, seval, implies_true, ho, hc, hk3, VL.null, strA, flatEq]; (first | (refine ⟨_, h11, ?_⟩; rintro _ _ ⟨rfl, rfl⟩) | (refine ⟨_, h19, ?_⟩; rintro _ _ ⟨rfl, rfl⟩) | (refine ⟨_, h13, ?_⟩; rintro _ _ ⟨rfl, rfl⟩) | (refine ⟨_, h14, ?_⟩; rintro _ _ ⟨rfl, rfl⟩) | (refine ⟨_, h16, ?_⟩; rintro _ _ ⟨rfl, rfl⟩) | (refine ⟨_, h20, ?_⟩; rintro _ _ ⟨rfl, rfl⟩)); simp only [lAL, lDF, tupA, eqA, isNil, slcNil, ptrCells, ptrAdd, cellsO, intA, boolA, readsV, readsP, isCall, wrote, srcOf, isNilSlice, Value.oneCell', seval, implies_true, forall_eq, ne_eq, lPA, lPD, novO, setAll, ho, hc, hk3, VL.null, strA, flatEq])
          | ((with_reducible refine keep0_i ?_); simp only [lPA, lPD, novO, setAll, seval, implies_true])
          | simp (maxSteps := 1000000) (disch := omega) only [lAL, lDF, tupA, eqA, isNil, slcNil, ptrCells, ptrAdd, cellsO, intA, boolA, readsV, readsP, isCall, wrote, srcOf, isNilSlice, Value.oneCell', seval, implies_true, forall_eq, ne_eq, wrap_i64, LenR_ok, List.length_map, IdxR_ints, ho, hc, hk3, VL.null, strA, flatEq])
    · repeat' (first
        | (with_reducible first | apply cond_d | apply cond_nd | apply cond_i | apply guard_d | apply guard_nd | apply guard_df | apply guard_ndf | apply guard_i | apply ag_d | apply ag_nd | apply ag_df | apply ag_ndf | apply ag_i) <;> intro _
        | with_reducible first | refine LenR_i fun _ => ?_ | refine And.intro (by omega) ?_ | refine and_assoc.2 ?_ | apply sp_cond | apply sp_guard | apply sp_ag | apply sp_call | apply sp_acall | apply sp_loop | apply sp_any | apply sp_frz | apply sp_len | apply sp_idx | apply sp_keep | apply sp_back
        | with_reducible refine frz0_i ?_
        | ((with_reducible first | refine callN_i [] true (by simp) (by simp) ?_ | refine acallN_i true ?_); simp only [lPA, lPD, novO, setAll, seval, implies_true, ho, hc]; (first | (refine ⟨_, h11, ?_⟩; rintro _ _ ⟨rfl, rfl⟩) | (refine ⟨_, h19, ?_⟩; rintro _ _ ⟨rfl, rfl⟩) | (refine ⟨_, h13, ?_⟩; rintro _ _ ⟨rfl, rfl⟩) | (refine ⟨_, h16, ?_⟩; rintro _ _ ⟨rfl, rfl⟩)); simp only [lAL, lDF, tupA, eqA, isNil, slcNil, ptrCells, ptrAdd, cellsO, intA, boolA, readsV, readsP, isCall, wrote, srcOf, isNilSlice, Value.oneCell', seval, implies_true, forall_eq, ne_eq, lPA, lPD, novO, setAll, ho, hc])
        | ((with_reducible refine keep0_i ?_); simp only [lPA, lPD, novO, setAll, seval, implies_true])
        | simp (maxSteps := 1000000) (disch := omega) only [lAL, lDF, tupA, eqA, isNil, slcNil, ptrCells, ptrAdd, cellsO, intA, boolA, readsV, readsP, isCall, wrote, srcOf, isNilSlice, Value.oneCell', seval, implies_true, forall_eq, ne_eq, wrap_i64, LenR_ok, List.length_map, IdxR_ints, ho, hc])
  · repeat' (first
      | (with_reducible first | apply cond_d | apply cond_nd | apply cond_i | apply guard_d | apply guard_nd | apply guard_df | apply guard_ndf | apply guard_i | apply ag_d | apply ag_nd | apply ag_df | apply ag_ndf | apply ag_i) <;> intro _
      | with_reducible first | refine LenR_i fun _ => ?_ | refine And.intro (by omega) ?_ | refine and_assoc.2 ?_ | apply sp_cond | apply sp_guard | apply sp_ag | apply sp_call | apply sp_acall | apply sp_loop | apply sp_any | apply sp_frz | apply sp_len | apply sp_idx | apply sp_keep | apply sp_back
      | with_reducible refine frz0_i ?_
      | ((with_reducible first | refine callN_i [] true (by simp) (by simp) ?_ | refine acallN_i true ?_); simp only [lPA, lPD, novO, setAll, seval, implies_true, ho]; (first | (refine ⟨_, h11, ?_⟩; rintro _ _ ⟨rfl, rfl⟩) | (refine ⟨_, h19, ?_⟩; rintro _ _ ⟨rfl, rfl⟩) | (refine ⟨_, h13, ?_⟩; rintro _ _ ⟨rfl, rfl⟩)); simp only [lAL, lDF, tupA, eqA, isNil, slcNil, ptrCells, ptrAdd, cellsO, intA, boolA, readsV, readsP, isCall, wrote, srcOf, isNilSlice, Value.oneCell', seval, implies_true, forall_eq, ne_eq, lPA, lPD, novO, setAll, ho])
      | ((with_reducible refine keep0_i ?_); simp only [lPA, lPD, novO, setAll, seval, implies_true])
      | simp (maxSteps := 1000000) (disch := omega) only [lAL, lDF, tupA, eqA, isNil, slcNil, ptrCells, ptrAdd, cellsO, intA, boolA, readsV, readsP, isCall, wrote, srcOf, isNilSlice, Value.oneCell', seval, implies_true, forall_eq, ne_eq, wrap_i64, LenR_ok, List.length_map, IdxR_ints, ho])
end Go.Proofs.Try
