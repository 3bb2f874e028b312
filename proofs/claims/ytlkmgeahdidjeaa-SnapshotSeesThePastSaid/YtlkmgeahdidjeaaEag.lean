/-
  A part of the proof: see the text of the law.
-/
import Derived.Test.YtlkmgeahdidjeaaEad
import Derived.Test.YtlkmgeahdidjeaaAlphaS
import Derived.Test.YtlkmgeahdidjeaaShelf
set_option linter.unusedSimpArgs false
set_option linter.unusedVariables false
namespace Go.Proofs.Try
open Go.Al
set_option maxRecDepth 100000
/-- cmp.Compare[int] -/
def mc47 : MC :=
 (.seq (.ops [(none, (.v (.mov 4 (.c (.int .i64 0)))))])
 (.seq (.ops [(none, (.v (.mov 7 (.t 0)))),
 (none, (.e (.call (some 8) 54 [(.t 7)]))),
 (none, (.v (.mov 5 (.t 8))))])
 (.seq (.ops [(none, (.v (.mov 9 (.t 1)))),
 (none, (.e (.call (some 10) 54 [(.t 9)]))),
 (none, (.v (.mov 6 (.t 10))))])
 (.seq (.seq (.ops [(none, (.v (.mov 11 (.t 5))))])
 (.cond 11
 (.seq (.seq (.ops [(none, (.v (.mov 12 (.t 6))))])
 (.cond 12
 (.seq (.ops [(none, (.v (.mov 4 (.c (.int .i64 0)))))])
 .ret)
 .skip))
 (.seq (.ops [(none, (.v (.mov 4 (.c (.int .i64 (-1))))))])
 .ret))
 .skip))
 (.seq (.seq (.ops [(none, (.v (.mov 13 (.t 6))))])
 (.cond 13
 (.seq (.ops [(none, (.v (.mov 4 (.c (.int .i64 1)))))])
 .ret)
 .skip))
 (.seq (.seq (.ops [(none, (.v (.mov 14 (.t 0)))),
 (none, (.v (.mov 15 (.t 1)))),
 (none, (.v (.bin 16 .lss false (.t 14) (.t 15))))])
 (.cond 16
 (.seq (.ops [(none, (.v (.mov 4 (.c (.int .i64 (-1))))))])
 .ret)
 .skip))
 (.seq (.seq (.ops [(none, (.v (.mov 17 (.t 0)))),
 (none, (.v (.mov 18 (.t 1)))),
 (none, (.v (.bin 19 .gtr false (.t 17) (.t 18))))])
 (.cond 19
 (.seq (.ops [(none, (.v (.mov 4 (.c (.int .i64 1)))))])
 .ret)
 .skip))
 (.seq (.ops [(none, (.v (.mov 4 (.c (.int .i64 0)))))])
 .ret))))))))
theorem ok47 : FnOk E 47 20 [.tmp 4] mc47 := .of func47 (by kernel_rfl) (by kernel_rfl) (by kernel_rfl) (by kernel_rfl) (by kernel_rfl)
/-- alum/snapshot.ordered$1 -/
def mc50 : MC :=
 (.seq (.ops [(none, (.e (.box 2 (.t 0)))),
 (none, (.e (.box 3 (.t 1)))),
 (none, (.v (.mov 4 (.c (.int .i64 0)))))])
 (.seq (.any false (.pure0 none (.v (.fld 5 0 (.t 2)))
 (.pure0 none (.v (.load 6 false 1 (.t 5)))
 (.pure0 none (.v (.fld 7 0 (.t 3)))
 (.pure0 none (.v (.load 8 false 1 (.t 7)))
 (.pure0 none (.v (.fld 10 1 (.t 2)))
 (.pure0 none (.v (.load 11 false 1 (.t 10)))
 (.pure0 none (.v (.fld 12 1 (.t 3)))
 (.pure0 none (.v (.load 13 false 1 (.t 12)))
 (.alt none (.e (.call (some 9) 47 [(.t 6), (.t 8)]))
 (.base (.alt none (.e (.call (some 14) 47 [(.t 11), (.t 13)]))
 (.base (.alt none (.e (.mkl 15 3 1 2 (.int .i64 0) [(0, (.t 9)), (1, (.t 14))]))
 (.base (.alt none (.e (.call (some 16) 51 [(.t 15)]))
 (.base (.pure0 none (.v (.mov 4 (.t 16)))
 .done))
 .stop))
 .stop))
 .stop))
 .stop))))))))))
 .ret))
theorem ok50 : FnOk E 50 17 [.tmp 4] mc50 := .of func50 (by kernel_rfl) (by kernel_rfl) (by kernel_rfl) (by kernel_rfl) (by kernel_rfl)
/-- cmp.Or[int] -/
def mc51 : MC :=
 (.seq (.ops [(none, (.v (.mov 2 (.c (.int .i64 0)))))])
 (.seq (.ops [(none, (.v (.mov 3 (.c (.int .i64 0)))))])
 (.seq (.seq (.ops [(none, (.v (.mov 6 (.t 0)))),
 (none, (.p (.len 7 (.t 6)))),
 (none, (.v (.mov 8 (.c (.int .i64 0)))))])
 (.block 0 (.loop (.seq (.ops [(none, (.v (.bin 9 .lss false (.t 8) (.t 7))))])
 (.seq (.cond 9
 .skip
 (.exit 0))
 (.seq (.block 1 (.seq (.ops [(none, (.p (.idx 10 1 (.t 6) (.t 8)))),
 (none, (.v (.load 11 false 1 (.t 10)))),
 (none, (.v (.mov 5 (.t 11))))])
 (.seq (.ops [(none, (.v (.mov 12 (.t 5)))),
 (none, (.v (.mov 13 (.t 3)))),
 (none, (.v (.bin 14 .neq false (.t 12) (.t 13))))])
 (.cond 14
 (.seq (.ops [(none, (.v (.mov 15 (.t 5)))),
 (none, (.v (.mov 2 (.t 15))))])
 .ret)
 .skip))))
 (.ops [(none, (.v (.bin 16 .add false (.t 8) (.c (.int .i64 1))))),
 (none, (.v (.mov 8 (.t 16))))])))))))
 (.seq (.ops [(none, (.v (.mov 17 (.t 3)))),
 (none, (.v (.mov 2 (.t 17))))])
 .ret))))
theorem ok51 : FnOk E 51 18 [.tmp 2] mc51 := .of func51 (by kernel_rfl) (by kernel_rfl) (by kernel_rfl) (by kernel_rfl) (by kernel_rfl)
/-- cmp.isNaN[int] -/
def mc54 : MC :=
 (.seq (.ops [(none, (.v (.mov 2 (.c (.bool false)))))])
 (.seq (.ops [(none, (.v (.mov 3 (.t 0)))),
 (none, (.v (.mov 4 (.t 0)))),
 (none, (.v (.bin 5 .neq false (.t 3) (.t 4)))),
 (none, (.v (.mov 2 (.t 5))))])
 .ret))
theorem ok54 : FnOk E 54 6 [.tmp 2] mc54 := .of func54 (by kernel_rfl) (by kernel_rfl) (by kernel_rfl) (by kernel_rfl) (by kernel_rfl)
end Go.Proofs.Try
namespace Go.Proofs.Try
open Go.Al
set_option linter.unusedVariables false
set_option linter.unusedSimpArgs false
set_option maxRecDepth 20000

theorem c54 (a : Int) : ACalls E.P 54 [.int .i64 a] [] (fun r H => r = .bool false ∧ H = []) := by
  refine ok54.acalls hE hm (by simp) fun N hN => ?_
  unfold mc54
  simp only [lA, ptrCells, ptrAdd, isNil, readsV, readsP, isCall, wrote, srcOf, seval]
  repeat' (first
   | (with_reducible apply St.o; constructor) <;> intro _
   | with_reducible first | refine LenR_i fun _ => ?_ | refine And.intro (by omega) ?_ | (apply Sp.o; constructor) | refine mkl_own ?_ | refine frz0_i ?_
   | ((with_reducible refine keep0_i ?_); simp only [lP, seval])
   | simp (maxSteps := 1000000) (disch := omega) only [lE, ptrCells, ptrAdd, isNil, readsV, readsP, isCall, wrote, srcOf, seval])
  all_goals simp
/-- The order of integers. -/
def sgn (a b : Int) : Int := if a < b then -1 else if a > b then 1 else 0
theorem c47 (a b : Int) : ACalls E.P 47 [.int .i64 a, .int .i64 b] [] (fun r H => r = .int .i64 (sgn a b) ∧ H = []) := by
  refine ok47.acalls hE hm (by simp) fun N hN => ?_
  unfold mc47
  simp only [lA, ptrCells, ptrAdd, isNil, readsV, readsP, isCall, wrote, srcOf, seval]
  repeat' (first
   | (with_reducible apply St.o; constructor) <;> intro _
   | with_reducible first | refine LenR_i fun _ => ?_ | refine And.intro (by omega) ?_ | (apply Sp.o; constructor) | refine mkl_own ?_ | refine frz0_i ?_
   | ((with_reducible apply Sc.o true; constructor); simp only [lP, seval]; (first | refine ⟨_, c54 a, ?_⟩ | refine ⟨_, c54 b, ?_⟩); rintro _ _ ⟨rfl, rfl⟩; simp only [lA, lP, ptrCells, ptrAdd, isNil, readsV, readsP, isCall, wrote, srcOf, seval])
   | ((with_reducible refine keep0_i ?_); simp only [lP, seval])
   | simp (maxSteps := 1000000) (disch := omega) only [lE, ptrCells, ptrAdd, isNil, readsV, readsP, isCall, wrote, srcOf, seval])
  all_goals (simp only [sgn, AV.int.injEq, true_and]; (repeat' split) <;> omega)
/-- The first that is not 0. -/
def orI : List Int → Int
  | [] => 0
  | x :: l => if x = 0 then orI l else x
theorem orI_drop {l : List Int} {i : Nat} (h : i < l.length) : orI (l.drop i) = if l.getD i 0 = 0 then orI (l.drop (i + 1)) else l.getD i 0 := by
  rw [List.drop_eq_getElem_cons h]
  simp [orI, h]
theorem c51 (l : List Int) : ACalls E.P 51 [.view 1 (l.map (AV.int .i64))] [] (fun r H => r = .int .i64 (orI l) ∧ H = []) := by
  have hmax := maxLen_eq
  refine ok51.acalls hE hm (by simp) fun N hN => ?_
  unfold mc51
  simp only [lA, ptrCells, ptrAdd, isNil, readsV, readsP, isCall, wrote, srcOf, seval]
  refine LenR_i fun hl => ?_
  rw [List.length_map, hmax] at hl
  simp only [lA, ptrCells, ptrAdd, isNil, readsV, readsP, isCall, wrote, srcOf, seval, List.length_map]
  refine loop_i (fun i : Nat => i ≤ l.length ∧ orI l = orI (l.drop i)) (fun i => ⟨[(3, .int .i64 0), (6, .view 1 (l.map (AV.int .i64))), (7, .int .i64 l.length), (8, .int .i64 i)], []⟩) (fun i => l.length - i) 0 ⟨by omega, by simp⟩ (Ent.to [] false (by simp) (by simp) rfl (by simp only [lP, seval, List.length_map] <;> (try simp) <;> (try omega)) (by simp only [lP, seval, List.length_map] <;> (try simp) <;> (try omega))) ?_
  rintro i ⟨hi, ho⟩
  repeat' (first
   | (with_reducible apply St.o; constructor) <;> intro _
   | with_reducible first | refine LenR_i fun _ => ?_ | refine And.intro (by omega) ?_ | (apply Sp.o; constructor) | refine mkl_own ?_ | refine frz0_i ?_
   | ((with_reducible refine keep0_i ?_); simp only [lP, seval])
   | simp (maxSteps := 1000000) (disch := omega) only [lE, ptrCells, ptrAdd, isNil, readsV, readsP, isCall, wrote, srcOf, seval])
  · rename_i h1 h2
    rw [ho, orI_drop (by omega), if_neg h2]
  · rename_i h1 h2
    exact back_i (i + 1) ⟨by omega, by rw [ho, orI_drop (by omega), if_pos h2]⟩ (by omega) (Ent.to [] false (by simp) (by simp) rfl (by simp only [lP, seval] <;> (try simp) <;> (try omega)) (by simp only [lP, seval] <;> (try simp) <;> (try omega)))
  · rw [ho, List.drop_eq_nil_of_le (by omega)]; rfl
/-- The order of versions. -/
def cmpV (a b : Ver) : Int := orI [sgn a.row b.row, sgn a.stamp b.stamp]
theorem c50 (a b : Ver) : ACalls E.P 50 [a.av, b.av] [] (fun r H => r = .int .i64 (cmpV a b) ∧ H = []) := by
  have h51 := c51 [sgn a.row b.row, sgn a.stamp b.stamp]
  refine ok50.acalls hE hm (by simp) fun N hN => ?_
  unfold mc50
  simp only [lA, ptrCells, ptrAdd, isNil, readsV, readsP, isCall, wrote, srcOf, seval, ver_av]
  repeat' (first
   | (with_reducible apply St.o; constructor) <;> intro _
   | with_reducible first | refine LenR_i fun _ => ?_ | refine And.intro (by omega) ?_ | (apply Sp.o; constructor) | refine mkl_own ?_ | refine frz0_i ?_ | refine any_i [] ?_
   | ((with_reducible apply Sc.o true; constructor); simp only [lP, seval, cmpV]; (first | refine ⟨_, c47 a.row b.row, ?_⟩ | refine ⟨_, c47 a.stamp b.stamp, ?_⟩ | refine ⟨_, h51, ?_⟩); rintro _ _ ⟨rfl, rfl⟩; simp only [lA, lP, ptrCells, ptrAdd, isNil, readsV, readsP, isCall, wrote, srcOf, seval, cmpV])
   | ((with_reducible refine keep0_i ?_); simp only [lP, seval])
   | simp (maxSteps := 1000000) (disch := omega) only [lE, ptrCells, ptrAdd, isNil, readsV, readsP, isCall, wrote, srcOf, seval, cmpV])
theorem lt_cmpV (a b : Ver) : ltOf cmpV a b = gtV b a := by
  rw [Bool.eq_iff_iff]
  simp only [ltOf, gtV, decide_eq_true_eq, Bool.or_eq_true, Bool.and_eq_true]
  by_cases h1 : a.row < b.row
  · simp [cmpV, orI, sgn, h1]
  · by_cases h2 : b.row < a.row
    · have h5 : ¬ b.row = a.row := by omega
      simp [cmpV, orI, sgn, h1, h2, h5]
    · have h5 : b.row = a.row := by omega
      by_cases h3 : a.stamp < b.stamp
      · simp [cmpV, orI, sgn, h3, h5]
      · by_cases h4 : b.stamp < a.stamp <;> simp [cmpV, orI, sgn, h3, h4, h5]
theorem swoV : Go.Sort.SWO (ltOf cmpV) where
  irrefl x := by rw [lt_cmpV]; simp [gtV]
  trans x y z h1 h2 := by
    rw [lt_cmpV] at *
    simp only [gtV, decide_eq_true_eq, Bool.or_eq_true, Bool.and_eq_true] at *
    omega
  ntrans x y z h1 h2 := by
    rw [lt_cmpV] at *
    simp only [gtV, Bool.or_eq_false_iff, Bool.and_eq_false_iff, decide_eq_false_iff_not] at *
    omega
theorem bodied67 : Bodied E.P 67 := ⟨_, Try.func67, by kernel_rfl, by kernel_rfl⟩
theorem c67 (l : List Ver) (h : l.length < 4611686018427387904) : ACalls E.P 67 [.slc 0 4 l.length, .fn (.func 50) [] []] [.arr 29 4 (l.map Ver.av)] (fun r H => r = .tup [] ∧ ∃ l' : List Ver, l'.Perm l ∧ l'.Pairwise (fun a b => gtV a b = false) ∧ H = [.arr 29 4 (l'.map Ver.av)]) := by
  refine (bridge_sort bodied67 swoV (fun a _ b _ => c50 a b) (fun a _ => by simp [Ver.av, sc, scL]) (fun a _ => ⟨_, rfl⟩) h (fun p cap fv w => AnyF.slices_SortFunc_none Try.sortV p cap fv w) ?_).mono ?_
  · intro α _ enc hk h1 cf' hO blk cap d w hc hH hb hs
    exact AnyQ.slices_SortFunc Try.sortV 4 (fun w => Try.isAgg29 w) (fun w => Try.sizeOf29 w) enc hk h1 cf' hO 50 #[] blk 0 cap d w (enters_of Try.func50 (by kernel_rfl) rfl) hc hH hb hs
  · rintro r H ⟨rfl, l', h1, h2, rfl⟩
    exact ⟨rfl, l', h1, h2.imp fun h => by rwa [lt_cmpV] at h, rfl⟩
end Go.Proofs.Try
