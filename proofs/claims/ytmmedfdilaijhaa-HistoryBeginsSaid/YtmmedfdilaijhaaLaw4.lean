/-
  for every history, every order and every number, the law HistoryBegins returns true
-/
import Derived.Test.YtmmedfdilaijhaaEauk
import Derived.Test.YtmmedfdilaijhaaPaf
import Derived.Test.YtmmedfdilaijhaaReads
import Derived.Test.YtmmedfdilaijhaaRows
set_option linter.unusedSimpArgs false
set_option linter.unusedVariables false
namespace Go.Proofs.Try
open Go.Al
set_option maxRecDepth 100000
/-- alum/alumlaw30.HistoryBegins -/
def mc4 : MC :=
 (.seq (.ops [(none, (.v (.mov 6 (.c (.bool false)))))])
 (.seq (.seq (.ops [(none, (.v (.mov 9 (.t 0)))),
 (none, (.e (.call (some 10) 5 [(.t 9)]))),
 (none, (.v (.not 11 (.t 10)))),
 (none, (.v (.mov 12 (.t 11)))),
 ((some (12, false)), (.v (.mov 13 (.t 0)))),
 ((some (12, false)), (.e (.call (some 14) 6 [(.t 13)]))),
 ((some (12, false)), (.v (.not 15 (.t 14)))),
 (none, (.v (.pick 16 (.t 12) (.c (.bool true)) (.t 15)))),
 (none, (.v (.mov 17 (.t 16)))),
 ((some (17, false)), (.v (.mov 18 (.t 1)))),
 ((some (17, false)), (.p (.len 19 (.t 18)))),
 ((some (17, false)), (.v (.bin 20 .gtr false (.t 19) (.c (.int .i64 80))))),
 (none, (.v (.pick 21 (.t 17) (.c (.bool true)) (.t 20)))),
 (none, (.v (.mov 22 (.t 21)))),
 ((some (22, false)), (.v (.mov 23 (.t 0)))),
 ((some (22, false)), (.v (.mov 24 (.t 1)))),
 ((some (22, false)), (.e (.call (some 25) 7 [(.t 23), (.t 24)]))),
 ((some (22, false)), (.v (.bin 26 .neq false (.t 25) (.c (.int .i64 (-1)))))),
 (none, (.v (.pick 27 (.t 22) (.c (.bool true)) (.t 26)))),
 (none, (.v (.mov 28 (.t 27)))),
 ((some (28, false)), (.v (.mov 29 (.t 2)))),
 ((some (28, false)), (.v (.bin 30 .lss false (.t 29) (.c (.int .i64 0))))),
 (none, (.v (.pick 31 (.t 28) (.c (.bool true)) (.t 30))))])
 (.cond 31
 (.seq (.ops [(none, (.e (.call (some 32) 8 []))),
 (none, (.v (.mov 6 (.t 32))))])
 .ret)
 .skip))
 (.seq (.ops [(none, (.v (.mov 33 (.t 0)))),
 (none, (.v (.mov 34 (.t 2)))),
 (none, (.v (.mov 35 (.t 0)))),
 (none, (.p (.len 36 (.t 35)))),
 (none, (.v (.bin 37 .add false (.t 36) (.c (.int .i64 1))))),
 (none, (.p (.rem 38 (.t 34) (.t 37)))),
 (none, (.p (.pre 39 5 (.t 33) (some (.t 38))))),
 (none, (.v (.mov 7 (.t 39))))])
 (.seq (.ops [(none, (.v (.mov 40 (.t 7)))),
 (none, (.e (.call (some 41) 9 [(.t 40)]))),
 (none, (.v (.mov 8 (.t 41))))])
 (.seq (.ops [(none, (.e (.call (some 42) 8 []))),
 (none, (.v (.mov 43 (.t 42)))),
 ((some (43, true)), (.v (.mov 44 (.t 7)))),
 ((some (43, true)), (.e (.call (some 45) 10 [(.t 44)]))),
 (none, (.v (.pick 46 (.t 43) (.t 45) (.c (.bool false))))),
 (none, (.v (.mov 47 (.t 46)))),
 ((some (47, true)), (.v (.mov 48 (.t 8)))),
 ((some (47, true)), (.v (.mov 49 (.t 1)))),
 ((some (47, true)), (.p (.len 50 (.t 49)))),
 ((some (47, true)), (.v (.bin 51 .leq false (.t 48) (.t 50)))),
 (none, (.v (.pick 52 (.t 47) (.t 51) (.c (.bool false))))),
 (none, (.v (.mov 53 (.t 52)))),
 ((some (53, true)), (.v (.mov 54 (.t 7)))),
 ((some (53, true)), (.v (.mov 55 (.t 1)))),
 ((some (53, true)), (.v (.mov 56 (.t 8)))),
 ((some (53, true)), (.v (.mov 57 (.t 1)))),
 ((some (53, true)), (.p (.len 58 (.t 57)))),
 ((some (53, true)), (.v (.min 59 [(.t 56), (.t 58)]))),
 ((some (53, true)), (.p (.pre 60 1 (.t 55) (some (.t 59))))),
 ((some (53, true)), (.e (.call (some 61) 7 [(.t 54), (.t 60)]))),
 ((some (53, true)), (.v (.bin 62 .eql false (.t 61) (.c (.int .i64 (-1)))))),
 (none, (.v (.pick 63 (.t 53) (.t 62) (.c (.bool false))))),
 (none, (.v (.mov 6 (.t 63))))])
 .ret)))))
theorem ok4 : FnOk E 4 64 [.tmp 6] mc4 := .of func4 (by kernel_rfl) (by kernel_rfl) (by kernel_rfl) (by kernel_rfl) (by kernel_rfl)
end Go.Proofs.Try
namespace Go.Proofs.Try
open Go.Al
set_option linter.unusedVariables false
set_option linter.unusedSimpArgs false
set_option maxRecDepth 20000
set_option maxHeartbeats 8000000
theorem c4 (h : List Hap) (order : List Int) (n : Int) : ACalls E.P 4 [.view 5 (h.map Hap.av), .view 1 (order.map (AV.int .i64)), .int .i64 n] [] (fun r H => r = .bool true ∧ H = []) := by
  have hmax := maxLen_eq
  have h5 := c5 h
  have h6 := c6 h
  have h8 := c8
  refine ok4.acalls hE hm (by simp) fun N hN => ?_
  unfold mc4
  simp only [lA, ptrCells, ptrAdd, isNil, readsV, readsP, isCall, wrote, srcOf, seval]
  by_cases hf : fewB h = true
  · rw [hf] at h5
    by_cases hr : rightB h = true
    · rw [hr] at h6
      by_cases ho : 80 < (order.length : Int)
      · repeat' (first
         | (with_reducible apply St.o; constructor) <;> intro _
         | with_reducible first | refine LenR_i fun _ => ?_ | refine And.intro (by omega) ?_ | (apply Sp.o; constructor) | refine mkl_own ?_ | refine frz0_i ?_
         | ((with_reducible apply Sc.o true; constructor); simp only [lP, seval, ho, decide_true]; (first | refine ⟨_, h5, ?_⟩ | refine ⟨_, h6, ?_⟩ | refine ⟨_, h8, ?_⟩); rintro _ _ ⟨rfl, rfl⟩; simp only [lA, lP, ptrCells, ptrAdd, isNil, readsV, readsP, isCall, wrote, srcOf, seval, ho, decide_true])
         | simp (maxSteps := 1000000) (disch := omega) only [lE, ptrCells, ptrAdd, isNil, readsV, readsP, isCall, wrote, srcOf, seval, ho, decide_true])
        all_goals first
          | (exfalso; omega)
          | exact keep0_i ⟨rfl, rfl⟩
      · have h7 := c7 h hr order (by omega)
        by_cases hc : checkH h order = -1
        · rw [hc] at h7
          by_cases hn : n < 0
          · repeat' (first
             | (with_reducible apply St.o; constructor) <;> intro _
             | with_reducible first | refine LenR_i fun _ => ?_ | refine And.intro (by omega) ?_ | (apply Sp.o; constructor) | refine mkl_own ?_ | refine frz0_i ?_
             | ((with_reducible apply Sc.o true; constructor); simp only [lP, seval, ho, hn, decide_true, decide_false]; (first | refine ⟨_, h5, ?_⟩ | refine ⟨_, h6, ?_⟩ | refine ⟨_, h7, ?_⟩ | refine ⟨_, h8, ?_⟩); rintro _ _ ⟨rfl, rfl⟩; simp only [lA, lP, ptrCells, ptrAdd, isNil, readsV, readsP, isCall, wrote, srcOf, seval, ho, hn, decide_true, decide_false])
             | simp (maxSteps := 1000000) (disch := omega) only [lE, ptrCells, ptrAdd, isNil, readsV, readsP, isCall, wrote, srcOf, seval, ho, hn, decide_true, decide_false])
            all_goals first
              | (exfalso; omega)
              | exact keep0_i ⟨rfl, rfl⟩
          · have hl4 := rightB_len hr
            have hwr : IntKind.i64.wrap ((h.length : Int) + 1) = (h.length : Int) + 1 := wrap_i64 (by omega) (by omega)
            obtain ⟨m, hm⟩ : ∃ m : Nat, n.tmod ((h.length : Int) + 1) = m := ⟨(n.tmod ((h.length : Int) + 1)).toNat, by have := Int.tmod_nonneg (a := n) ((h.length : Int) + 1) (by omega); omega⟩
            have hml : m ≤ h.length := by
              have := Int.tmod_lt_of_pos n (show (0 : Int) < (h.length : Int) + 1 by omega)
              omega
            obtain ⟨hk, hck⟩ := begins_law hr hc hml
            have hk0 := lenH_pos (h.take m)
            have hvt : (h.map Hap.av).take m = (h.take m).map Hap.av := List.map_take.symm
            have hrt := right_take hr m
            have h9 := c9 (h.take m)
            have h10 := c10 (h.take m) (by rw [List.length_take]; omega)
            rw [hrt] at h10
            have h7b := c7 (h.take m) hrt (order.take (lenH (h.take m)).toNat) (by rw [List.length_take]; omega)
            rw [hck] at h7b
            have hmin : (if (order.length : Int) < lenH (h.take m) then (order.length : Int) else lenH (h.take m)) = lenH (h.take m) := if_neg (by omega)
            have hvo : (order.map (AV.int .i64)).take (lenH (h.take m)).toNat = (order.take (lenH (h.take m)).toNat).map (AV.int .i64) := List.map_take.symm
            generalize lenH (h.take m) = K at *
            repeat' (first
             | (with_reducible apply St.o; constructor) <;> intro _
             | with_reducible first | refine LenR_i fun _ => ?_ | refine And.intro (by omega) ?_ | (apply Sp.o; constructor) | refine mkl_own ?_ | refine frz0_i ?_
             | ((with_reducible apply Sc.o true; constructor); simp only [lP, seval, ho, hn, hwr, hm, hvt, hvo, hmin, Int.toNat_natCast, decide_true, decide_false]; (first | refine ⟨_, h5, ?_⟩ | refine ⟨_, h6, ?_⟩ | refine ⟨_, h7, ?_⟩ | refine ⟨_, h8, ?_⟩ | refine ⟨_, h9, ?_⟩ | refine ⟨_, h10, ?_⟩ | refine ⟨_, h7b, ?_⟩); rintro _ _ ⟨rfl, rfl⟩; simp only [lA, lP, ptrCells, ptrAdd, isNil, readsV, readsP, isCall, wrote, srcOf, seval, ho, hn, hwr, hm, hvt, hvo, hmin, Int.toNat_natCast, decide_true, decide_false])
             | simp (maxSteps := 1000000) (disch := omega) only [lE, ptrCells, ptrAdd, isNil, readsV, readsP, isCall, wrote, srcOf, seval, ho, hn, hwr, hm, hvt, hvo, hmin, Int.toNat_natCast, decide_true, decide_false])
            all_goals first
              | (exfalso; omega)
              | exact keep0_i ⟨rfl, rfl⟩
        · repeat' (first
           | (with_reducible apply St.o; constructor) <;> intro _
           | with_reducible first | refine LenR_i fun _ => ?_ | refine And.intro (by omega) ?_ | (apply Sp.o; constructor) | refine mkl_own ?_ | refine frz0_i ?_
           | ((with_reducible apply Sc.o true; constructor); simp only [lP, seval, ho, decide_true, decide_false]; (first | refine ⟨_, h5, ?_⟩ | refine ⟨_, h6, ?_⟩ | refine ⟨_, h7, ?_⟩ | refine ⟨_, h8, ?_⟩); rintro _ _ ⟨rfl, rfl⟩; simp only [lA, lP, ptrCells, ptrAdd, isNil, readsV, readsP, isCall, wrote, srcOf, seval, ho, decide_true, decide_false])
           | simp (maxSteps := 1000000) (disch := omega) only [lE, ptrCells, ptrAdd, isNil, readsV, readsP, isCall, wrote, srcOf, seval, ho, decide_true, decide_false])
          all_goals first
            | (exfalso; omega)
            | exact keep0_i ⟨rfl, rfl⟩
    · replace hr : rightB h = false := by simpa using hr
      rw [hr] at h6
      repeat' (first
       | (with_reducible apply St.o; constructor) <;> intro _
       | with_reducible first | refine LenR_i fun _ => ?_ | refine And.intro (by omega) ?_ | (apply Sp.o; constructor) | refine mkl_own ?_ | refine frz0_i ?_
       | ((with_reducible apply Sc.o true; constructor); simp only [lP, seval]; (first | refine ⟨_, h5, ?_⟩ | refine ⟨_, h6, ?_⟩ | refine ⟨_, h8, ?_⟩); rintro _ _ ⟨rfl, rfl⟩; simp only [lA, lP, ptrCells, ptrAdd, isNil, readsV, readsP, isCall, wrote, srcOf, seval])
       | simp (maxSteps := 1000000) (disch := omega) only [lE, ptrCells, ptrAdd, isNil, readsV, readsP, isCall, wrote, srcOf, seval])
      all_goals exact keep0_i ⟨rfl, rfl⟩
  · replace hf : fewB h = false := by simpa using hf
    rw [hf] at h5
    repeat' (first
     | (with_reducible apply St.o; constructor) <;> intro _
     | with_reducible first | refine LenR_i fun _ => ?_ | refine And.intro (by omega) ?_ | (apply Sp.o; constructor) | refine mkl_own ?_ | refine frz0_i ?_
     | ((with_reducible apply Sc.o true; constructor); simp only [lP, seval]; (first | refine ⟨_, h5, ?_⟩ | refine ⟨_, h8, ?_⟩); rintro _ _ ⟨rfl, rfl⟩; simp only [lA, lP, ptrCells, ptrAdd, isNil, readsV, readsP, isCall, wrote, srcOf, seval])
     | simp (maxSteps := 1000000) (disch := omega) only [lE, ptrCells, ptrAdd, isNil, readsV, readsP, isCall, wrote, srcOf, seval])
    all_goals exact keep0_i ⟨rfl, rfl⟩
end Go.Proofs.Try


namespace Go.Proofs.Ytmmedfdilaijhaa
open Go.Al Go.Proofs.Try
open Go.ChangeShapes Go.WideShapes Go.ChangeAt Go.RowKit
set_option linter.unusedVariables false
set_option maxRecDepth 100000 in
theorem lifted4 (os : Os) (started : os.Started) (H : Type) (enc : TypeId × Value → H) :
    ReturnsInHanded {} Try.checked os 4 .any (Rows.historyBeginsSpec.pre6 enc Try.prog Try.f4 Rows.historyBeginsRow.domain false) (Rows.historyBeginsSpec.post enc Try.prog Try.f4 false true false false) := by
  refine returnsInHanded_of_change (C := Try.checked) own started (by kernel_rfl) Try.func4
    (ChangeSpec.witness6 (enc := enc) (C := Try.checked) false ⟨#[], #[.slice none 0 0, .slice none 0 0, .int .i64 0], []⟩ 8 (by kernel_rfl) (by kernel_rfl) (by kernel_rfl) (by kernel_rfl)) ?_
  intro W base args ds gs before hval hW _ _
  exact contract_of hE kids full (s := Rows.historyBeginsSpec) (tb := 4) (by rw [Try.params4]; decide +kernel) (by rw [Try.params4]; exact reads_cons rv22 (reads_cons rv23 (reads_cons rv3 (reads_nil)))) (by rintro _ ⟨a, _, ha, ⟨b, _, hb, ⟨c, _, hc, rfl, rfl⟩, rfl⟩, rfl⟩; exact c4 a b c) rfl
    (by rw [Try.params4]; rintro H (_ | ⟨d0, (_ | ⟨d1, (_ | ⟨d2, (_ | ⟨dz, ds⟩)⟩)⟩)⟩) hl <;> simp at hl; exact ⟨rfl, rfl, rfl⟩) (by kernel_rfl) (by kernel_rfl) H enc W base args ds gs before (glob_ok _) hval hW
theorem historyBegins_holds : Rows.HistoryBeginsSaid :=
  OpenClaim.holds_of_wide 4 Try.f4 rfl rfl rfl rfl rfl rfl rfl ⟨rfl, rfl, rfl, rfl, rfl⟩ rfl rfl rfl rfl rfl (by kernel_rfl) Try.func4 (by kernel_rfl)
    (of_decide_eq_true (by kernel_rfl)) (by unfold Func.isWrapper; first | (rw [if_pos (by decide +kernel)]; kernel_rfl) | (rw [if_neg (by decide +kernel)]; exact ⟨rfl, rfl⟩))
    (fun os started H enc _ => lifted4 os started H enc)
end Go.Proofs.Ytmmedfdilaijhaa
