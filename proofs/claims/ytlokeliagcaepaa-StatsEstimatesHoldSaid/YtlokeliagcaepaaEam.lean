/-
  A part of the proof: see the text of the law.
-/
import Derived.Test.YtlokeliagcaepaaEal
import Derived.Test.YtlokeliagcaepaaPab
set_option linter.unusedSimpArgs false
set_option linter.unusedVariables false
namespace Go.Proofs.Try
open Go.Al
set_option maxRecDepth 100000
/-- alum/alumref39.shared -/
def mc57 : MC :=
 (.seq (.ops [(none, (.e (.box 2 (.t 0)))),
 (none, (.e (.box 3 (.t 1)))),
 (none, (.v (.mov 4 (.c (.int .i64 0)))))])
 (.seq (.ops [(none, (.v (.fld 8 0 (.t 2)))),
 (none, (.v (.load 9 true 3 (.t 8)))),
 (none, (.v (.fld 10 3 (.t 2)))),
 (none, (.v (.load 11 true 3 (.t 10)))),
 (none, (.e (.mkl 12 40 3 2 (.agg [(.int .i64 0), (.int .i64 0), (.str ⟨#[]⟩)]) [(0, (.t 9)), (1, (.t 11))]))),
 (none, (.e (.call (some 13) 32 [(.t 12)]))),
 (none, (.v (.mov 5 (.t 13))))])
 (.seq (.ops [(none, (.v (.mov 6 (.c (.int .i64 0)))))])
 (.seq (.seq (.ops [(none, (.v (.mov 7 (.c (.int .i64 0)))))])
 (.block 0 (.loop (.seq (.seq (.ops [(none, (.v (.mov 14 (.t 7)))),
 (none, (.v (.mov 15 (.t 5)))),
 (none, (.p (.len 16 (.t 15)))),
 (none, (.v (.bin 17 .lss false (.t 14) (.t 16))))])
 (.cond 17
 .skip
 (.exit 0)))
 (.seq (.block 1 (.seq (.any false (.pure0 none (.v (.mov 20 (.t 5)))
 (.pure0 none (.v (.mov 21 (.t 7)))
 (.pure0 none (.p (.idx 22 3 (.t 20) (.t 21)))
 (.pure0 none (.v (.load 23 true 3 (.t 22)))
 (.pure0 none (.v (.fld 24 0 (.t 3)))
 (.pure0 none (.v (.load 25 true 3 (.t 24)))
 (.pure0 none (.v (.eq 26 false (.agg [(0, false, 1, .int), (1, false, 1, .int), (2, false, 1, .str)]) (.t 23) (.t 25)))
 (.pure0 none (.v (.mov 27 (.t 26)))
 (.pure0 (some (27, false)) (.v (.mov 28 (.t 5)))
 (.pure0 (some (27, false)) (.v (.mov 29 (.t 7)))
 (.pure0 (some (27, false)) (.p (.idx 30 3 (.t 28) (.t 29)))
 (.pure0 (some (27, false)) (.v (.load 31 true 3 (.t 30)))
 (.pure0 (some (27, false)) (.v (.fld 32 3 (.t 3)))
 (.pure0 (some (27, false)) (.v (.load 33 true 3 (.t 32)))
 (.pure0 (some (27, false)) (.v (.eq 34 false (.agg [(0, false, 1, .int), (1, false, 1, .int), (2, false, 1, .str)]) (.t 31) (.t 33)))
 (.pure0 none (.v (.pick 35 (.t 27) (.c (.bool true)) (.t 34)))
 .done)))))))))))))))))
 (.cond 35
 (.ops [(none, (.v (.mov 36 (.t 6)))),
 (none, (.v (.bin 37 .add false (.t 36) (.c (.int .i64 1))))),
 (none, (.v (.mov 6 (.t 37))))])
 .skip)))
 (.ops [(none, (.v (.mov 18 (.t 7)))),
 (none, (.v (.bin 19 .add false (.t 18) (.c (.int .i64 1))))),
 (none, (.v (.mov 7 (.t 19))))]))))))
 (.seq (.seq (.ops [(none, (.v (.fld 38 0 (.t 2)))),
 (none, (.v (.load 39 true 3 (.t 38)))),
 (none, (.v (.fld 40 3 (.t 2)))),
 (none, (.v (.load 41 true 3 (.t 40)))),
 (none, (.v (.eq 42 false (.agg [(0, false, 1, .int), (1, false, 1, .int), (2, false, 1, .str)]) (.t 39) (.t 41)))),
 (none, (.v (.mov 43 (.t 42)))),
 ((some (43, true)), (.v (.fld 44 0 (.t 3)))),
 ((some (43, true)), (.v (.load 45 true 3 (.t 44)))),
 ((some (43, true)), (.v (.fld 46 3 (.t 3)))),
 ((some (43, true)), (.v (.load 47 true 3 (.t 46)))),
 ((some (43, true)), (.v (.eq 48 false (.agg [(0, false, 1, .int), (1, false, 1, .int), (2, false, 1, .str)]) (.t 45) (.t 47)))),
 (none, (.v (.pick 49 (.t 43) (.t 48) (.c (.bool false)))))])
 (.cond 49
 (.seq (.ops [(none, (.v (.mov 50 (.t 6)))),
 (none, (.v (.fld 51 6 (.t 2)))),
 (none, (.v (.load 52 false 1 (.t 51)))),
 (none, (.v (.bin 53 .mul false (.t 50) (.t 52)))),
 (none, (.v (.fld 54 6 (.t 3)))),
 (none, (.v (.load 55 false 1 (.t 54)))),
 (none, (.v (.bin 56 .mul false (.t 53) (.t 55)))),
 (none, (.v (.mov 4 (.t 56))))])
 .ret)
 .skip))
 (.seq (.seq (.ops [(none, (.v (.fld 57 0 (.t 2)))),
 (none, (.v (.load 58 true 3 (.t 57)))),
 (none, (.v (.fld 59 3 (.t 2)))),
 (none, (.v (.load 60 true 3 (.t 59)))),
 (none, (.v (.eq 61 false (.agg [(0, false, 1, .int), (1, false, 1, .int), (2, false, 1, .str)]) (.t 58) (.t 60))))])
 (.cond 61
 (.seq (.ops [(none, (.v (.mov 62 (.t 6)))),
 (none, (.v (.fld 63 6 (.t 2)))),
 (none, (.v (.load 64 false 1 (.t 63)))),
 (none, (.v (.bin 65 .mul false (.t 62) (.t 64)))),
 (none, (.v (.mov 4 (.t 65))))])
 .ret)
 .skip))
 (.seq (.seq (.ops [(none, (.v (.fld 66 0 (.t 3)))),
 (none, (.v (.load 67 true 3 (.t 66)))),
 (none, (.v (.fld 68 3 (.t 3)))),
 (none, (.v (.load 69 true 3 (.t 68)))),
 (none, (.v (.eq 70 false (.agg [(0, false, 1, .int), (1, false, 1, .int), (2, false, 1, .str)]) (.t 67) (.t 69))))])
 (.cond 70
 (.seq (.ops [(none, (.v (.mov 71 (.t 6)))),
 (none, (.v (.fld 72 6 (.t 3)))),
 (none, (.v (.load 73 false 1 (.t 72)))),
 (none, (.v (.bin 74 .mul false (.t 71) (.t 73)))),
 (none, (.v (.mov 4 (.t 74))))])
 .ret)
 .skip))
 (.seq (.ops [(none, (.v (.mov 75 (.t 6)))),
 (none, (.v (.mov 4 (.t 75))))])
 .ret))))))))
theorem ok57 : FnOk E 57 76 [.tmp 4] mc57 := .of func57 (by kernel_rfl) (by kernel_rfl) (by kernel_rfl) (by kernel_rfl) (by kernel_rfl)
end Go.Proofs.Try
namespace Go.Proofs.Try
open Go.Al
set_option linter.unusedVariables false
set_option linter.unusedSimpArgs false
set_option maxRecDepth 20000
set_option maxHeartbeats 8000000

theorem epR_map {P : Program} {m : Nat} {N : FN} {c : Kn} {α : Type} {f : α → AV} {E : TypeId} {sz0 : Nat} {xs : List α} {n : Int} {q id sz d : Nat} (h : q = xs.length) (h0 : 0 ≤ n) (h1 : n < q) : epR P m N (some (.arr E sz0 (xs.map f))) n q id sz d c = rK P m N c d (.ep id sz n.toNat 0) :=
  epR_ne (by simpa using h) h0 h1
theorem c57 (x y : Bar) (hx : x.small) (hy : y.small) : ACalls E.P 57 [x.av, y.av] [] (fun r H => r = .int .i64 (x.shared y) ∧ H = []) := by
  have hmax := maxLen_eq
  have h32 := c32 [x.lo, x.hi] (by simp)
  simp only [List.map_cons, List.map_nil, vl_av] at h32
  have hle := diffV_le [x.lo, x.hi] []
  rw [show [x.lo, x.hi].foldl withV [] = diffV [x.lo, x.hi] from rfl] at hle
  simp only [List.length_nil, List.length_cons] at hle
  simp only [Bar.shared]
  obtain ⟨hx0, hx1, _, _⟩ := hx
  obtain ⟨hy0, hy1, _, _⟩ := hy
  refine ok57.acalls hE hm (by simp) fun N hN => ?_
  unfold mc57
  simp only [lA, ptrCells, ptrAdd, isNil, readsV, readsP, isCall, wrote, srcOf, seval, bar_av]
  generalize diffV [x.lo, x.hi] = l at *
  repeat' (first
   | (with_reducible apply St.o; constructor) <;> intro _
   | ((with_reducible refine mkl_view ?_ ?_ ?_); (focus decide); (focus rfl))
   | with_reducible first | refine LenR_i fun _ => ?_ | refine And.intro (by omega) ?_ | (apply Sp.o; constructor) | refine mkl_own ?_ | refine frz0_i ?_
   | ((with_reducible apply Sc.o true; constructor); simp only [lP, seval, pa_vls, vw_vls, List.length_map, novL_vls]; refine ⟨_, h32, ?_⟩; rintro _ _ ⟨rfl, rfl⟩; simp only [lA, lP, ptrCells, ptrAdd, isNil, readsV, readsP, isCall, wrote, srcOf, seval, pa_vls, vw_vls, List.length_map, novL_vls])
   | simp (maxSteps := 1000000) (disch := omega) only [lE, ptrCells, ptrAdd, isNil, readsV, readsP, isCall, wrote, srcOf, seval, pa_vls, vw_vls, List.length_map, novL_vls])
  refine loop_i (fun i : Nat => i ≤ l.length) (fun i => ⟨[(2, .op 0 0), (3, .op 1 0), (4, .int .i64 0), (5, .slc 2 3 l.length), (6, .int .i64 (cntE y (l.take i))), (7, .int .i64 i)], [.box x.cs, .box y.cs, .arr 40 3 (l.map VL.av)]⟩) (fun i => l.length - i) 0 (by omega) (Ent.to [0, 1, 2] false (by simp) (by simp) rfl (by simp only [lP, seval, List.length_map, List.take_zero, renL_vls, pa_vls, cntE, List.filter_nil, List.length_nil] <;> (try simp) <;> (try omega)) (by simp only [lP, seval, List.length_map, List.take_zero, renL_vls, pa_vls, cntE, List.filter_nil, List.length_nil] <;> (try simp) <;> (try omega))) ?_
  intro i hi
  have hci := cntE_le y (l.take i)
  simp only [List.length_take] at hci
  by_cases hil : i < l.length
  · have hnx := cntE_next (y := y) hil
    have hx : (l.map VL.av)[i]? = some (l.getD i default).av := by simp [hil]
    by_cases h1 : l.getD i default = y.lo ∨ l.getD i default = y.hi
    · have e : cntE y (l.take (i + 1)) = cntE y (l.take i) + 1 := by rw [hnx, if_pos (by simpa [isEnd] using h1)]
      repeat' (first
       | (with_reducible apply St.o; constructor) <;> intro _
       | with_reducible first | refine LenR_i fun _ => ?_ | refine And.intro (by omega) ?_ | (apply Sp.o; constructor) | refine mkl_own ?_ | refine frz0_i ?_ | refine any_i [] ?_
       | simp (maxSteps := 1000000) (disch := omega) only [lE, ptrCells, ptrAdd, isNil, readsV, readsP, isCall, wrote, srcOf, seval, IdxR_vls, epR_map, hx, vl_av, isEnd, Int.toNat_natCast, List.length_map, vl_eq, vl_eq2])
      all_goals try (exfalso; first | omega | (rcases h1 with h1 | h1 <;> contradiction))
      all_goals exact back_i (i + 1) (by omega) (by omega) (Ent.to [0, 1, 2] false (by simp) (by simp) rfl (by simp only [lP, seval, e, pa_vls, Int.natCast_add, Int.natCast_one] <;> (try simp) <;> (try omega)) (by simp only [lP, seval, e, pa_vls, Int.natCast_add, Int.natCast_one] <;> (try simp) <;> (try omega)))
    · have e : cntE y (l.take (i + 1)) = cntE y (l.take i) := by rw [hnx, if_neg (by simpa [isEnd] using h1)]; rfl
      repeat' (first
       | (with_reducible apply St.o; constructor) <;> intro _
       | with_reducible first | refine LenR_i fun _ => ?_ | refine And.intro (by omega) ?_ | (apply Sp.o; constructor) | refine mkl_own ?_ | refine frz0_i ?_ | refine any_i [] ?_
       | simp (maxSteps := 1000000) (disch := omega) only [lE, ptrCells, ptrAdd, isNil, readsV, readsP, isCall, wrote, srcOf, seval, IdxR_vls, epR_map, hx, vl_av, isEnd, Int.toNat_natCast, List.length_map, vl_eq, vl_eq2])
      all_goals try (exfalso; first | omega | exact h1 (Or.inl ‹_›) | exact h1 (Or.inr ‹_›))
      all_goals exact back_i (i + 1) (by omega) (by omega) (Ent.to [0, 1, 2] false (by simp) (by simp) rfl (by simp only [lP, seval, e, pa_vls] <;> (try simp) <;> (try omega)) (by simp only [lP, seval, e, pa_vls] <;> (try simp) <;> (try omega)))
  · have hie : i = l.length := by omega
    subst hie
    rw [List.take_length] at hci ⊢
    have a := mul_rng (a := (cntE y l : Int)) (A := 2) (by omega) (by omega) hx0 hx1
    have b := mul_rng (a := (cntE y l : Int)) (A := 2) (by omega) (by omega) hy0 hy1
    have c := mul_rng a.1 a.2 hy0 hy1
    repeat' (first
     | (with_reducible apply St.o; constructor) <;> intro _
     | with_reducible first | refine LenR_i fun _ => ?_ | refine And.intro (by omega) ?_ | (apply Sp.o; constructor) | refine mkl_own ?_ | refine frz0_i ?_
     | ((with_reducible refine keep0_i ?_); simp only [lP, seval])
     | simp (maxSteps := 1000000) (disch := omega) only [lE, ptrCells, ptrAdd, isNil, readsV, readsP, isCall, wrote, srcOf, seval, List.length_map, Int.lt_irrefl, decide_false, vl_eq, vl_eq2])
    all_goals (simp only [sharedN]; simp_all)
end Go.Proofs.Try
