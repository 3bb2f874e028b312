/-
  For every right history of at most 60 versions and all integers, Last, Visible, Rows, Count, Newer, Changed and Trim return what the specification returns; no condition.
-/
import Derived.Test.YtlkmgeahdidjeaaEay
import Derived.Test.YtlkmgeahdidjeaaPag
import Derived.Test.YtlkmgeahdidjeaaReads
import Derived.Test.YtlkmgeahdidjeaaRows
set_option linter.unusedSimpArgs false
set_option linter.unusedVariables false
namespace Go.Proofs.Try
open Go.Al
set_option maxRecDepth 100000
/-- alum/alumlaw25.SnapshotMatchesSpec -/
def mc4 : MC :=
 (.seq (.ops [(none, (.v (.mov 10 (.c (.bool false)))))])
 (.seq (.seq (.ops [(none, (.v (.mov 16 (.t 0)))),
 (none, (.e (.call (some 17) 11 [(.t 16)]))),
 (none, (.v (.not 18 (.t 17)))),
 (none, (.v (.mov 19 (.t 18)))),
 ((some (19, false)), (.v (.mov 20 (.t 4)))),
 ((some (19, false)), (.p (.len 21 (.t 20)))),
 ((some (19, false)), (.v (.bin 22 .gtr false (.t 21) (.c (.int .i64 20))))),
 (none, (.v (.pick 23 (.t 19) (.c (.bool true)) (.t 22))))])
 (.cond 23
 (.seq (.ops [(none, (.e (.call (some 24) 8 []))),
 (none, (.v (.mov 10 (.t 24))))])
 .ret)
 .skip))
 (.seq (.ops [(none, (.v (.mov 26 (.t 0)))),
 (none, (.v (.mov 27 (.t 1)))),
 (none, (.v (.mov 28 (.t 2)))),
 (none, (.e (.call (some 29) 12 [(.t 26), (.t 27), (.t 28)]))),
 (none, (.v (.mov 25 (.t 29)))),
 (none, (.v (.ext 30 0 (.t 25)))),
 (none, (.v (.ext 31 1 (.t 25)))),
 (none, (.e (.alloc 11 [(.int .i64 0), (.int .i64 0), (.bool false), (.raw (.slice none 0 0))]))),
 (none, (.e (.store 4 true (.t 11) (.t 30)))),
 (none, (.v (.mov 12 (.t 31))))])
 (.seq (.ops [(none, (.v (.mov 33 (.t 0)))),
 (none, (.v (.mov 34 (.t 1)))),
 (none, (.v (.mov 35 (.t 2)))),
 (none, (.e (.call (some 36) 13 [(.t 33), (.t 34), (.t 35)]))),
 (none, (.v (.mov 32 (.t 36)))),
 (none, (.v (.ext 37 0 (.t 32)))),
 (none, (.v (.ext 38 1 (.t 32)))),
 (none, (.e (.alloc 13 [(.int .i64 0), (.int .i64 0), (.bool false), (.raw (.slice none 0 0))]))),
 (none, (.e (.store 4 true (.t 13) (.t 37)))),
 (none, (.v (.mov 14 (.t 38))))])
 (.seq (.seq (.ops [(none, (.v (.mov 39 (.t 12)))),
 (none, (.v (.mov 40 (.t 14)))),
 (none, (.v (.bin 41 .neq true (.t 39) (.t 40)))),
 (none, (.v (.mov 42 (.t 41)))),
 ((some (42, false)), (.v (.load 43 true 4 (.t 11)))),
 ((some (42, false)), (.v (.load 44 true 4 (.t 13)))),
 ((some (42, false)), (.e (.call (some 45) 14 [(.t 43), (.t 44)]))),
 ((some (42, false)), (.v (.not 46 (.t 45)))),
 (none, (.v (.pick 47 (.t 42) (.c (.bool true)) (.t 46)))),
 (none, (.v (.mov 48 (.t 47)))),
 ((some (48, false)), (.v (.mov 49 (.t 0)))),
 ((some (48, false)), (.e (.call (some 50) 15 [(.t 49)]))),
 ((some (48, false)), (.v (.mov 51 (.t 0)))),
 ((some (48, false)), (.e (.call (some 52) 16 [(.t 51)]))),
 ((some (48, false)), (.v (.bin 53 .neq false (.t 50) (.t 52)))),
 (none, (.v (.pick 54 (.t 48) (.c (.bool true)) (.t 53)))),
 (none, (.v (.mov 55 (.t 54)))),
 ((some (55, false)), (.v (.mov 56 (.t 0)))),
 ((some (55, false)), (.v (.mov 57 (.t 1)))),
 ((some (55, false)), (.v (.mov 58 (.t 2)))),
 ((some (55, false)), (.e (.call (some 59) 17 [(.t 56), (.t 57), (.t 58)]))),
 ((some (55, false)), (.v (.mov 60 (.t 0)))),
 ((some (55, false)), (.v (.mov 61 (.t 1)))),
 ((some (55, false)), (.v (.mov 62 (.t 2)))),
 ((some (55, false)), (.e (.call (some 63) 18 [(.t 60), (.t 61), (.t 62)]))),
 ((some (55, false)), (.v (.bin 64 .neq true (.t 59) (.t 63)))),
 (none, (.v (.pick 65 (.t 55) (.c (.bool true)) (.t 64))))])
 (.cond 65
 (.seq (.ops [(none, (.v (.mov 10 (.c (.bool false)))))])
 .ret)
 .skip))
 (.seq (.ops [(none, (.v (.mov 66 (.t 0)))),
 (none, (.v (.mov 67 (.t 2)))),
 (none, (.e (.call (some 68) 19 [(.t 66), (.t 67)]))),
 (none, (.v (.mov 15 (.t 68))))])
 (.seq (.seq (.ops [(none, (.v (.mov 69 (.t 0)))),
 (none, (.v (.mov 70 (.t 2)))),
 (none, (.e (.call (some 71) 21 [(.t 69), (.t 70)]))),
 (none, (.v (.mov 72 (.t 15)))),
 (none, (.e (.call (some 73) 20 [(.t 71), (.t 72)]))),
 (none, (.v (.not 74 (.t 73)))),
 (none, (.v (.mov 75 (.t 74)))),
 ((some (75, false)), (.v (.mov 76 (.t 0)))),
 ((some (75, false)), (.v (.mov 77 (.t 2)))),
 ((some (75, false)), (.e (.call (some 78) 22 [(.t 76), (.t 77)]))),
 ((some (75, false)), (.v (.mov 79 (.t 15)))),
 ((some (75, false)), (.p (.len 80 (.t 79)))),
 ((some (75, false)), (.v (.bin 81 .neq false (.t 78) (.t 80)))),
 (none, (.v (.pick 82 (.t 75) (.c (.bool true)) (.t 81)))),
 (none, (.v (.mov 83 (.t 82)))),
 ((some (83, false)), (.v (.mov 84 (.t 0)))),
 ((some (83, false)), (.v (.mov 85 (.t 2)))),
 ((some (83, false)), (.v (.mov 86 (.t 3)))),
 ((some (83, false)), (.e (.call (some 87) 24 [(.t 84), (.t 85), (.t 86)]))),
 ((some (83, false)), (.v (.mov 88 (.t 0)))),
 ((some (83, false)), (.v (.mov 89 (.t 2)))),
 ((some (83, false)), (.v (.mov 90 (.t 3)))),
 ((some (83, false)), (.e (.call (some 91) 25 [(.t 88), (.t 89), (.t 90)]))),
 ((some (83, false)), (.e (.call (some 92) 23 [(.t 87), (.t 91)]))),
 ((some (83, false)), (.v (.not 93 (.t 92)))),
 (none, (.v (.pick 94 (.t 83) (.c (.bool true)) (.t 93))))])
 (.cond 94
 (.seq (.ops [(none, (.v (.mov 10 (.c (.bool false)))))])
 .ret)
 .skip))
 (.seq (.ops [(none, (.e (.call (some 95) 8 []))),
 (none, (.v (.mov 96 (.t 95)))),
 ((some (96, true)), (.v (.mov 97 (.t 0)))),
 ((some (96, true)), (.v (.mov 98 (.t 4)))),
 ((some (96, true)), (.e (.call (some 99) 26 [(.t 97), (.t 98)]))),
 ((some (96, true)), (.v (.mov 100 (.t 0)))),
 ((some (96, true)), (.v (.mov 101 (.t 4)))),
 ((some (96, true)), (.e (.call (some 102) 27 [(.t 100), (.t 101)]))),
 ((some (96, true)), (.e (.call (some 103) 20 [(.t 99), (.t 102)]))),
 (none, (.v (.pick 104 (.t 96) (.t 103) (.c (.bool false))))),
 (none, (.v (.mov 10 (.t 104))))])
 .ret))))))))
theorem ok4 : FnOk E 4 105 [.tmp 10] mc4 := .of func4 (by kernel_rfl) (by kernel_rfl) (by kernel_rfl) (by kernel_rfl) (by kernel_rfl)
end Go.Proofs.Try
namespace Go.Proofs.Try
open Go.Al
set_option linter.unusedVariables false
set_option linter.unusedSimpArgs false
set_option maxHeartbeats 8000000
theorem c4 (l : List Ver) (row snap to_ : Int) (ss : List Int) : ACalls E.P 4 [.view 4 (l.map Ver.av), .int .i64 row, .int .i64 snap, .int .i64 to_, .view 1 (ss.map (AV.int .i64))] [] (fun r H => r = .bool true ∧ H = []) := by
  have hmax := maxLen_eq
  have h8 := c8
  have h11 := c11 l
  refine ok4.acalls hE hm (by simp) fun N hN => ?_
  unfold mc4
  simp only [lA, ptrCells, ptrAdd, isNil, readsV, readsP, isCall, wrote, srcOf, seval]
  by_cases hf : fewL l
  · obtain ⟨hl, _, hg⟩ := id hf
    rw [decide_eq_true hf] at h11
    by_cases hs : ss.length ≤ 20
    · have h12 := c12 l row snap
      rw [vis_ref (good_stamp hg) hg.2] at h12
      have h13 := c13 l row snap
      generalize refVis l row snap = rv at *
      obtain ⟨rv, rb⟩ := rv
      have h14 := c14 rv rv
      have h15 := c15 l
      have h16 := c16 l
      have h17 := c17 l row snap
      have h18 := c18 l row snap
      have h19 := lendV (c19 l snap (by omega))
      have h21 := c21 l snap hg.2 (by omega)
      rw [rows_ref hg.2] at h21
      have h22 := c22 l snap hg.2 (by omega)
      rw [rows_ref hg.2] at h22
      have h20 := c20 (refRows l snap) (refRows l snap)
      have h24 := c24 l snap to_ (by omega)
      rw [changed_ref] at h24
      have h25 := lendI (c25 l snap to_ (by omega))
      have h23 := c23 (refChanged l snap to_) (refChanged l snap to_)
      have h26 := c26 l ss hg.2 (by omega) (by omega)
      rw [trim_ref hg.2] at h26
      have h27 := lendV (c27 l ss (by omega))
      have h20' := c20 (refTrim l ss) (refTrim l ss)
      generalize refRows l snap = rr at *
      generalize refChanged l snap to_ = rc at *
      generalize refTrim l ss = rt at *
      simp only [decide_true, ver_av] at h12 h13 h14 h20 h20' h23
      repeat' (first
       | (with_reducible apply St.o; constructor) <;> intro _
       | with_reducible first | refine LenR_i fun _ => ?_ | refine And.intro (by omega) ?_ | (apply Sp.o; constructor) | refine mkl_own ?_ | refine frz0_i ?_
       | ((with_reducible apply Sc.o true; constructor); simp only [lP, seval, List.length_map, bne_self_eq_false, Bool.not_false]; (first | refine ⟨_, h11, ?_⟩ | refine ⟨_, h8, ?_⟩ | refine ⟨_, h14, ?_⟩ | refine ⟨_, h15, ?_⟩ | refine ⟨_, h16, ?_⟩ | refine ⟨_, h17, ?_⟩ | refine ⟨_, h18, ?_⟩ | refine ⟨_, h22, ?_⟩ | refine ⟨_, h20, ?_⟩ | refine ⟨_, h23, ?_⟩ | refine ⟨_, h20', ?_⟩); rintro _ _ ⟨rfl, rfl⟩; simp only [lA, lP, ptrCells, ptrAdd, isNil, readsV, readsP, isCall, wrote, srcOf, seval, List.length_map, bne_self_eq_false, Bool.not_false])
       | ((with_reducible apply Sc.o false; constructor); simp only [lP, seval, List.length_map, bne_self_eq_false, Bool.not_false]; (first | refine ⟨_, h12, ?_⟩ | refine ⟨_, h13, ?_⟩ | refine ⟨_, h19, ?_⟩ | refine ⟨_, h21, ?_⟩ | refine ⟨_, h24, ?_⟩ | refine ⟨_, h25, ?_⟩ | refine ⟨_, h26, ?_⟩ | refine ⟨_, h27, ?_⟩); rintro _ _ ⟨rfl, rfl⟩; simp only [lA, lP, ptrCells, ptrAdd, isNil, readsV, readsP, isCall, wrote, srcOf, seval, List.length_map, bne_self_eq_false, Bool.not_false])
       | ((with_reducible refine keep0_i ?_); simp only [lP, seval])
       | simp (maxSteps := 1000000) (disch := omega) only [lE, ptrCells, ptrAdd, isNil, readsV, readsP, isCall, wrote, srcOf, seval, List.length_map, bne_self_eq_false, Bool.not_false])
    · repeat' (first
       | (with_reducible apply St.o; constructor) <;> intro _
       | with_reducible first | refine LenR_i fun _ => ?_ | refine And.intro (by omega) ?_ | (apply Sp.o; constructor) | refine mkl_own ?_ | refine frz0_i ?_
       | ((with_reducible apply Sc.o true; constructor); simp only [lP, seval, List.length_map]; (first | refine ⟨_, h11, ?_⟩ | refine ⟨_, h8, ?_⟩); rintro _ _ ⟨rfl, rfl⟩; simp only [lA, lP, ptrCells, ptrAdd, isNil, readsV, readsP, isCall, wrote, srcOf, seval, List.length_map])
       | ((with_reducible refine keep0_i ?_); simp only [lP, seval])
       | simp (maxSteps := 1000000) (disch := omega) only [lE, ptrCells, ptrAdd, isNil, readsV, readsP, isCall, wrote, srcOf, seval, List.length_map])
      exfalso; omega
  · rw [decide_eq_false hf] at h11
    repeat' (first
     | (with_reducible apply St.o; constructor) <;> intro _
     | with_reducible first | refine LenR_i fun _ => ?_ | refine And.intro (by omega) ?_ | (apply Sp.o; constructor) | refine mkl_own ?_ | refine frz0_i ?_
     | ((with_reducible apply Sc.o true; constructor); simp only [lP, seval, List.length_map]; (first | refine ⟨_, h11, ?_⟩ | refine ⟨_, h8, ?_⟩); rintro _ _ ⟨rfl, rfl⟩; simp only [lA, lP, ptrCells, ptrAdd, isNil, readsV, readsP, isCall, wrote, srcOf, seval, List.length_map])
     | ((with_reducible refine keep0_i ?_); simp only [lP, seval])
     | simp (maxSteps := 1000000) (disch := omega) only [lE, ptrCells, ptrAdd, isNil, readsV, readsP, isCall, wrote, srcOf, seval, List.length_map])
end Go.Proofs.Try


namespace Go.Proofs.Ytlkmgeahdidjeaa
open Go.Al Go.Proofs.Try
open Go.ChangeShapes Go.WideShapes Go.ChangeAt Go.RowKit
set_option linter.unusedVariables false
set_option maxRecDepth 100000 in
theorem lifted4 (os : Os) (started : os.Started) (H : Type) (enc : TypeId × Value → H) :
    ReturnsInHanded {} Try.checked os 4 .any (Rows.snapshotMatchesSpecSpec.pre6 enc Try.prog Try.f4 Rows.snapshotMatchesSpecRow.domain false) (Rows.snapshotMatchesSpecSpec.post enc Try.prog Try.f4 false true false false) := by
  refine returnsInHanded_of_change (C := Try.checked) own started (by kernel_rfl) Try.func4
    (ChangeSpec.witness6 (enc := enc) (C := Try.checked) false ⟨#[], #[.slice none 0 0, .int .i64 0, .int .i64 0, .int .i64 0, .slice none 0 0], []⟩ 8 (by kernel_rfl) (by kernel_rfl) (by kernel_rfl) (by kernel_rfl)) ?_
  intro W base args ds gs before hval hW _ _
  exact contract_of hE kids full (s := Rows.snapshotMatchesSpecSpec) (tb := 4) (by rw [Try.params4]; decide +kernel) (by rw [Try.params4]; exact reads_cons rv22 (reads_cons rv3 (reads_cons rv3 (reads_cons rv3 (reads_cons rv25 (reads_nil)))))) (by rintro _ ⟨a, _, ha, ⟨b, _, hb, ⟨c, _, hc, ⟨d, _, hd, ⟨e, _, he, rfl, rfl⟩, rfl⟩, rfl⟩, rfl⟩, rfl⟩; exact c4 a b c d e) rfl
    (by rw [Try.params4]; rintro H (_ | ⟨d0, (_ | ⟨d1, (_ | ⟨d2, (_ | ⟨d3, (_ | ⟨d4, (_ | ⟨dz, ds⟩)⟩)⟩)⟩)⟩)⟩) hl <;> simp at hl; exact ⟨rfl, rfl, rfl⟩) (by kernel_rfl) (by kernel_rfl) H enc W base args ds gs before (glob_ok _) hval hW
theorem snapshotMatchesSpec_holds : Rows.SnapshotMatchesSpecSaid :=
  OpenClaim.holds_of_wide 4 Try.f4 rfl rfl rfl rfl rfl rfl rfl ⟨rfl, rfl, rfl, rfl, rfl⟩ rfl rfl rfl rfl rfl (by kernel_rfl) Try.func4 (by kernel_rfl)
    (of_decide_eq_true (by kernel_rfl)) (by unfold Func.isWrapper; first | (rw [if_pos (by decide +kernel)]; kernel_rfl) | (rw [if_neg (by decide +kernel)]; exact ⟨rfl, rfl⟩))
    (fun os started H enc _ => lifted4 os started H enc)
end Go.Proofs.Ytlkmgeahdidjeaa
