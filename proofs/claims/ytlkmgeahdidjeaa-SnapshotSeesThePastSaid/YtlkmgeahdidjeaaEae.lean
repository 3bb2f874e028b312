/-
  A part of the proof: see the text of the law.
-/
import Derived.Test.YtlkmgeahdidjeaaEad
set_option linter.unusedSimpArgs false
set_option linter.unusedVariables false
namespace Go.Proofs.Try
open Go.Al
set_option maxRecDepth 100000
/-- alum/alumref25.Rows -/
def mc19 : MC :=
 (.seq (.ops [(none, (.v (.mov 4 (.c (.raw (.slice none 0 0))))))])
 (.seq (.ops [(none, (.v (.mov 5 (.c (.raw (.slice none 0 0))))))])
 (.seq (.ops [(none, (.v (.mov 8 (.t 0)))),
 (none, (.e (.call (some 9) 34 [(.t 8)]))),
 (none, (.v (.mov 6 (.t 9))))])
 (.seq (.seq (.ops [(none, (.v (.mov 7 (.c (.int .i64 0)))))])
 (.block 0 (.loop (.seq (.seq (.ops [(none, (.v (.mov 10 (.t 7)))),
 (none, (.v (.mov 11 (.t 6)))),
 (none, (.p (.len 12 (.t 11)))),
 (none, (.v (.bin 13 .lss false (.t 10) (.t 12))))])
 (.cond 13
 .skip
 (.exit 0)))
 (.seq (.block 1 (.seq (.ops [(none, (.v (.mov 16 (.t 6)))),
 (none, (.v (.mov 17 (.t 6)))),
 (none, (.v (.mov 18 (.t 7)))),
 (none, (.p (.idx 19 4 (.t 17) (.t 18)))),
 (none, (.v (.fld 20 0 (.t 19)))),
 (none, (.v (.load 21 false 1 (.t 20)))),
 (none, (.v (.mov 22 (.t 1)))),
 (none, (.e (.call (some 23) 31 [(.t 16), (.t 21), (.t 22)]))),
 (none, (.v (.mov 24 (.t 7)))),
 (none, (.v (.bin 25 .eql false (.t 23) (.t 24)))),
 (none, (.v (.mov 26 (.t 25)))),
 ((some (26, true)), (.v (.mov 27 (.t 6)))),
 ((some (26, true)), (.v (.mov 28 (.t 7)))),
 ((some (26, true)), (.p (.idx 29 4 (.t 27) (.t 28)))),
 ((some (26, true)), (.v (.fld 30 2 (.t 29)))),
 ((some (26, true)), (.v (.load 31 false 1 (.t 30)))),
 ((some (26, true)), (.v (.not 32 (.t 31)))),
 (none, (.v (.pick 33 (.t 26) (.t 32) (.c (.bool false)))))])
 (.cond 33
 (.ops [(none, (.v (.mov 34 (.t 5)))),
 (none, (.v (.mov 35 (.t 6)))),
 (none, (.v (.mov 36 (.t 7)))),
 (none, (.p (.idx 37 4 (.t 35) (.t 36)))),
 (none, (.v (.load 38 true 4 (.t 37)))),
 (none, (.e (.mkl 39 29 4 1 (.agg [(.int .i64 0), (.int .i64 0), (.bool false), (.raw (.slice none 0 0))]) [(0, (.t 38))]))),
 (none, (.e (.app 40 29 4 48 (.t 34) (.t 39)))),
 (none, (.v (.mov 5 (.t 40))))])
 .skip)))
 (.ops [(none, (.v (.mov 14 (.t 7)))),
 (none, (.v (.bin 15 .add false (.t 14) (.c (.int .i64 1))))),
 (none, (.v (.mov 7 (.t 15))))]))))))
 (.seq (.ops [(none, (.v (.mov 41 (.t 5)))),
 (none, (.v (.mov 4 (.t 41))))])
 .ret)))))
theorem ok19 : FnOk E 19 42 [.tmp 4] mc19 := .of func19 (by kernel_rfl) (by kernel_rfl) (by kernel_rfl) (by kernel_rfl) (by kernel_rfl)
/-- alum/alumref25.Changed -/
def mc25 : MC :=
 (.seq (.ops [(none, (.v (.mov 6 (.c (.raw (.slice none 0 0))))))])
 (.seq (.ops [(none, (.v (.mov 7 (.c (.raw (.slice none 0 0))))))])
 (.seq (.ops [(none, (.v (.mov 10 (.t 0)))),
 (none, (.e (.call (some 11) 34 [(.t 10)]))),
 (none, (.v (.mov 8 (.t 11))))])
 (.seq (.seq (.ops [(none, (.v (.mov 9 (.c (.int .i64 0)))))])
 (.block 0 (.loop (.seq (.seq (.ops [(none, (.v (.mov 12 (.t 9)))),
 (none, (.v (.mov 13 (.t 8)))),
 (none, (.p (.len 14 (.t 13)))),
 (none, (.v (.bin 15 .lss false (.t 12) (.t 14))))])
 (.cond 15
 .skip
 (.exit 0)))
 (.seq (.block 1 (.seq (.any false (.pure0 none (.v (.mov 18 (.t 8)))
 (.pure0 none (.v (.mov 19 (.t 9)))
 (.pure0 none (.p (.idx 20 4 (.t 18) (.t 19)))
 (.pure0 none (.v (.fld 21 1 (.t 20)))
 (.pure0 none (.v (.load 22 false 1 (.t 21)))
 (.pure0 none (.v (.mov 23 (.t 1)))
 (.pure0 none (.v (.bin 24 .gtr false (.t 22) (.t 23)))
 (.pure0 none (.v (.mov 25 (.t 24)))
 (.pure0 (some (25, true)) (.v (.mov 26 (.t 8)))
 (.pure0 (some (25, true)) (.v (.mov 27 (.t 9)))
 (.pure0 (some (25, true)) (.p (.idx 28 4 (.t 26) (.t 27)))
 (.pure0 (some (25, true)) (.v (.fld 29 1 (.t 28)))
 (.pure0 (some (25, true)) (.v (.load 30 false 1 (.t 29)))
 (.pure0 (some (25, true)) (.v (.mov 31 (.t 2)))
 (.pure0 (some (25, true)) (.v (.bin 32 .leq false (.t 30) (.t 31)))
 (.pure0 none (.v (.pick 33 (.t 25) (.t 32) (.c (.bool false))))
 (.pure0 none (.v (.mov 34 (.t 33)))
 (.pure0 (some (34, true)) (.v (.mov 35 (.t 7)))
 (.pure0 (some (34, true)) (.p (.len 36 (.t 35)))
 (.pure0 (some (34, true)) (.v (.bin 37 .eql false (.t 36) (.c (.int .i64 0))))
 (.pure0 (some (34, true)) (.v (.mov 38 (.t 37)))
 (.pure0 (some (38, false)) (.v (.mov 39 (.t 7)))
 (.pure0 (some (38, false)) (.v (.mov 40 (.t 7)))
 (.pure0 (some (38, false)) (.p (.len 41 (.t 40)))
 (.pure0 (some (38, false)) (.v (.bin 42 .sub false (.t 41) (.c (.int .i64 1))))
 (.pure0 (some (38, false)) (.p (.idx 43 1 (.t 39) (.t 42)))
 (.pure0 (some (38, false)) (.v (.load 44 false 1 (.t 43)))
 (.pure0 (some (38, false)) (.v (.mov 45 (.t 8)))
 (.pure0 (some (38, false)) (.v (.mov 46 (.t 9)))
 (.pure0 (some (38, false)) (.p (.idx 47 4 (.t 45) (.t 46)))
 (.pure0 (some (38, false)) (.v (.fld 48 0 (.t 47)))
 (.pure0 (some (38, false)) (.v (.load 49 false 1 (.t 48)))
 (.pure0 (some (38, false)) (.v (.bin 50 .neq false (.t 44) (.t 49)))
 (.pure0 (some (34, true)) (.v (.pick 51 (.t 38) (.c (.bool true)) (.t 50)))
 (.pure0 none (.v (.pick 52 (.t 34) (.t 51) (.c (.bool false))))
 .done))))))))))))))))))))))))))))))))))))
 (.cond 52
 (.ops [(none, (.v (.mov 53 (.t 7)))),
 (none, (.v (.mov 54 (.t 8)))),
 (none, (.v (.mov 55 (.t 9)))),
 (none, (.p (.idx 56 4 (.t 54) (.t 55)))),
 (none, (.v (.fld 57 0 (.t 56)))),
 (none, (.v (.load 58 false 1 (.t 57)))),
 (none, (.e (.mkl 59 3 1 1 (.int .i64 0) [(0, (.t 58))]))),
 (none, (.e (.app 60 3 1 8 (.t 53) (.t 59)))),
 (none, (.v (.mov 7 (.t 60))))])
 .skip)))
 (.ops [(none, (.v (.mov 16 (.t 9)))),
 (none, (.v (.bin 17 .add false (.t 16) (.c (.int .i64 1))))),
 (none, (.v (.mov 9 (.t 17))))]))))))
 (.seq (.ops [(none, (.v (.mov 61 (.t 7)))),
 (none, (.v (.mov 6 (.t 61))))])
 .ret)))))
theorem ok25 : FnOk E 25 62 [.tmp 6] mc25 := .of func25 (by kernel_rfl) (by kernel_rfl) (by kernel_rfl) (by kernel_rfl) (by kernel_rfl)
/-- alum/alumref25.seen -/
def mc40 : MC :=
 (.seq (.ops [(none, (.v (.mov 6 (.c (.bool false)))))])
 (.seq (.seq (.any false (.pure0 none (.v (.mov 8 (.t 0)))
 (.pure0 none (.v (.mov 9 (.t 0)))
 (.pure0 none (.v (.mov 10 (.t 1)))
 (.pure0 none (.p (.idx 11 4 (.t 9) (.t 10)))
 (.pure0 none (.v (.fld 12 0 (.t 11)))
 (.pure0 none (.v (.load 13 false 1 (.t 12)))
 (.pure0 none (.v (.mov 14 (.t 0)))
 (.pure0 none (.v (.mov 17 (.t 1)))
 (.alt none (.e (.call (some 15) 16 [(.t 14)]))
 (.base (.alt none (.e (.call (some 16) 31 [(.t 8), (.t 13), (.t 15)]))
 (.base (.pure0 none (.v (.bin 18 .eql false (.t 16) (.t 17)))
 .done))
 .stop))
 .stop))))))))))
 (.cond 18
 (.seq (.ops [(none, (.v (.mov 6 (.c (.bool true)))))])
 .ret)
 .skip))
 (.seq (.seq (.ops [(none, (.v (.mov 7 (.c (.int .i64 0)))))])
 (.block 0 (.loop (.seq (.seq (.ops [(none, (.v (.mov 19 (.t 7)))),
 (none, (.v (.mov 20 (.t 2)))),
 (none, (.p (.len 21 (.t 20)))),
 (none, (.v (.bin 22 .lss false (.t 19) (.t 21))))])
 (.cond 22
 .skip
 (.exit 0)))
 (.seq (.block 1 (.seq (.any false (.pure0 none (.v (.mov 25 (.t 0)))
 (.pure0 none (.v (.mov 26 (.t 0)))
 (.pure0 none (.v (.mov 27 (.t 1)))
 (.pure0 none (.p (.idx 28 4 (.t 26) (.t 27)))
 (.pure0 none (.v (.fld 29 0 (.t 28)))
 (.pure0 none (.v (.load 30 false 1 (.t 29)))
 (.pure0 none (.v (.mov 31 (.t 2)))
 (.pure0 none (.v (.mov 32 (.t 7)))
 (.pure0 none (.p (.idx 33 1 (.t 31) (.t 32)))
 (.pure0 none (.v (.load 34 false 1 (.t 33)))
 (.pure0 none (.v (.mov 36 (.t 1)))
 (.alt none (.e (.call (some 35) 31 [(.t 25), (.t 30), (.t 34)]))
 (.base (.pure0 none (.v (.bin 37 .eql false (.t 35) (.t 36)))
 .done))
 .stop)))))))))))))
 (.cond 37
 (.seq (.ops [(none, (.v (.mov 6 (.c (.bool true)))))])
 .ret)
 .skip)))
 (.ops [(none, (.v (.mov 23 (.t 7)))),
 (none, (.v (.bin 24 .add false (.t 23) (.c (.int .i64 1))))),
 (none, (.v (.mov 7 (.t 24))))]))))))
 (.seq (.ops [(none, (.v (.mov 6 (.c (.bool false)))))])
 .ret))))
theorem ok40 : FnOk E 40 38 [.tmp 6] mc40 := .of func40 (by kernel_rfl) (by kernel_rfl) (by kernel_rfl) (by kernel_rfl) (by kernel_rfl)
end Go.Proofs.Try
namespace Go.Proofs.Try
open Go.Al
set_option linter.unusedVariables false
set_option linter.unusedSimpArgs false
set_option maxRecDepth 20000

/-- A list that a call returns, only to be read. -/
theorem lendV {f : FuncId} {args : List AV} {l : List Ver} (h : ACalls E.P f args [] (fun r H => r = .slc 0 4 l.length ∧ H = [.arr 29 4 (l.map Ver.av)])) : ACalls E.P f args [] (fun r H => r = .view 4 (l.map Ver.av) ∧ H = []) :=
  ACalls.keep (h.mono fun r H ⟨hr, hH⟩ => by
    subst hr hH
    refine keep_i [] true (by simp) (by simp) rfl ?_
    simp only [lP, seval, vw_vers, List.length_map, List.take_length])
theorem lendI {f : FuncId} {args : List AV} {l : List Int} (h : ACalls E.P f args [] (fun r H => r = .slc 0 1 l.length ∧ H = [.arr 3 1 (l.map (AV.int .i64))])) : ACalls E.P f args [] (fun r H => r = .view 1 (l.map (AV.int .i64)) ∧ H = []) :=
  ACalls.keep (h.mono fun r H ⟨hr, hH⟩ => by
    subst hr hH
    refine keep_i [] true (by simp) (by simp) rfl ?_
    simp only [lP, seval, List.length_map, List.take_length])
/-- What a snapshot sees. -/
def rowsN (a : List Ver) (snap : Int) : Nat → List Ver
  | 0 => []
  | i + 1 => if sees a (a.getD i default).row snap = i ∧ (a.getD i default).dead = false then rowsN a snap i ++ [a.getD i default] else rowsN a snap i
theorem rowsN_le (a : List Ver) (snap : Int) : ∀ i, (rowsN a snap i).length ≤ i
  | 0 => by simp [rowsN]
  | i + 1 => by
    have := rowsN_le a snap i
    simp only [rowsN]
    split <;> simp <;> omega
def refRows (l : List Ver) (snap : Int) : List Ver := rowsN (ordered l) snap (ordered l).length
theorem c19 (l : List Ver) (snap : Int) (h60 : l.length ≤ 1048576) : ACalls E.P 19 [.view 4 (l.map Ver.av), .int .i64 snap] [] (fun r H => r = .slc 0 4 (refRows l snap).length ∧ H = [.arr 29 4 ((refRows l snap).map Ver.av)]) := by
  have hmax := maxLen_eq
  have hol := ordered_length l
  have h34 := lendV (l := ordered l) (by rw [hol]; exact c34 l h60)
  refine ok19.acalls hE hm (by simp) fun N hN => ?_
  unfold mc19
  simp only [lA, ptrCells, ptrAdd, isNil, readsV, readsP, isCall, wrote, srcOf, seval]
  repeat' (first
   | (with_reducible apply St.o; constructor) <;> intro _
   | with_reducible first | refine LenR_i fun _ => ?_ | refine And.intro (by omega) ?_ | (apply Sp.o; constructor) | refine mkl_own ?_ | refine frz0_i ?_
   | ((with_reducible apply Sc.o false; constructor); simp only [lP, seval]; refine ⟨_, h34, ?_⟩; rintro _ _ ⟨rfl, rfl⟩; simp only [lA, lP, ptrCells, ptrAdd, isNil, readsV, readsP, isCall, wrote, srcOf, seval])
   | ((with_reducible refine keep0_i ?_); simp only [lP, seval])
   | simp (maxSteps := 1000000) (disch := omega) only [lE, ptrCells, ptrAdd, isNil, readsV, readsP, isCall, wrote, srcOf, seval])
  unfold refRows
  generalize ordered l = a at *
  refine loop_i (fun i : Nat => i ≤ a.length) (fun i => ⟨[(1, .int .i64 snap), (5, .slc 0 4 (rowsN a snap i).length), (6, .view 4 (a.map Ver.av)), (7, .int .i64 i)], [.arr 29 4 ((rowsN a snap i).map Ver.av)]⟩) (fun i => a.length - i) 0 (by omega)
    (Ent.ghost' 5 29 4 (by omega) rfl (Ent.to [0] false (by simp) (by simp) rfl (by simp only [lP, seval, rowsN, List.map_nil, List.length_nil] <;> (try simp) <;> (try omega)) (by simp only [lP, seval, rowsN, List.map_nil, List.length_nil] <;> (try simp) <;> (try omega)))) ?_
  intro i hi
  have hlen := rowsN_le a snap i
  have h31 := c31 a (a.getD i default).row snap
  repeat' (first
   | (with_reducible apply St.o; constructor) <;> intro _
   | with_reducible first | refine LenR_i fun _ => ?_ | refine And.intro (by omega) ?_ | (apply Sp.o; constructor) | refine mkl_own ?_ | refine frz0_i ?_
   | ((with_reducible apply Sc.o true; constructor); simp only [lP, seval, IdxR_vers, Int.toNat_natCast, List.length_map, List.length_append, List.length_cons, List.length_nil]; refine ⟨_, h31, ?_⟩; rintro _ _ ⟨rfl, rfl⟩; simp only [lA, lP, ptrCells, ptrAdd, isNil, readsV, readsP, isCall, wrote, srcOf, seval, IdxR_vers, Int.toNat_natCast, List.length_map, List.length_append, List.length_cons, List.length_nil])
   | simp (maxSteps := 1000000) (disch := omega) only [lE, ptrCells, ptrAdd, isNil, readsV, readsP, isCall, wrote, srcOf, seval, IdxR_vers, Int.toNat_natCast, List.length_map, List.length_append, List.length_cons, List.length_nil])
  · rename_i h1 h2 h3
    have e : rowsN a snap (i + 1) = rowsN a snap i ++ [a.getD i default] := if_pos ⟨h2, by simpa using h3⟩
    exact back_i (i + 1) (by omega) (by omega) (Ent.to [2] false (by simp) (by simp) rfl (by simp only [lP, seval, e, List.map_append, List.map_cons, List.map_nil, List.length_append, List.length_cons, List.length_nil, pa_vers, ver_av, pa_agg] <;> (try simp) <;> (try omega)) (by simp only [lP, seval, e, List.map_append, List.map_cons, List.map_nil, List.length_append, List.length_cons, List.length_nil, pa_vers, ver_av, pa_agg] <;> (try simp) <;> (try omega)))
  · rename_i h1 h2 h3
    have e : rowsN a snap (i + 1) = rowsN a snap i := if_neg fun h => by rw [h.2] at h3; cases h3
    exact back_i (i + 1) (by omega) (by omega) (Ent.to [0] false (by simp) (by simp) rfl (by simp only [lP, seval, e, pa_vers] <;> (try simp) <;> (try omega)) (by simp only [lP, seval, e, pa_vers] <;> (try simp) <;> (try omega)))
  · rename_i h1 h2
    have e : rowsN a snap (i + 1) = rowsN a snap i := if_neg fun h => h2 h.1
    exact back_i (i + 1) (by omega) (by omega) (Ent.to [0] false (by simp) (by simp) rfl (by simp only [lP, seval, e, pa_vers] <;> (try simp) <;> (try omega)) (by simp only [lP, seval, e, pa_vers] <;> (try simp) <;> (try omega)))
  · rename_i h1
    rw [show i = a.length by omega]
    exact keep_i [0] false (by simp) (by simp) rfl ⟨by simp only [lP, seval], by simp only [lP, seval, pa_vers]⟩

/-- .. and by whom. -/
def seenB (l : List Ver) (i : Nat) (snaps : List Int) : Bool := decide (sees l (l.getD i default).row (last l) = i) || snaps.any fun s => decide (sees l (l.getD i default).row s = i)
theorem c40 (l : List Ver) (i : Nat) (snaps : List Int) (hi : i < l.length) : ACalls E.P 40 [.view 4 (l.map Ver.av), .int .i64 i, .view 1 (snaps.map (AV.int .i64))] [] (fun r H => r = .bool (seenB l i snaps) ∧ H = []) := by
  have hmax := maxLen_eq
  have h16 := c16 l
  have h31 := c31 l (l.getD i default).row (last l)
  refine ok40.acalls hE hm (by simp) fun N hN => ?_
  unfold mc40
  simp only [lA, ptrCells, ptrAdd, isNil, readsV, readsP, isCall, wrote, srcOf, seval]
  repeat' (first
   | (with_reducible apply St.o; constructor) <;> intro _
   | with_reducible first | refine LenR_i fun _ => ?_ | refine And.intro (by omega) ?_ | (apply Sp.o; constructor) | refine mkl_own ?_ | refine frz0_i ?_ | refine any_i [] ?_
   | ((with_reducible apply Sc.o true; constructor); simp only [lP, seval, IdxR_vers, Int.toNat_natCast, List.length_map]; (first | refine ⟨_, h16, ?_⟩ | refine ⟨_, h31, ?_⟩); rintro _ _ ⟨rfl, rfl⟩; simp only [lA, lP, ptrCells, ptrAdd, isNil, readsV, readsP, isCall, wrote, srcOf, seval, IdxR_vers, Int.toNat_natCast, List.length_map])
   | ((with_reducible refine keep0_i ?_); simp only [lP, seval])
   | simp (maxSteps := 1000000) (disch := omega) only [lE, ptrCells, ptrAdd, isNil, readsV, readsP, isCall, wrote, srcOf, seval, IdxR_vers, Int.toNat_natCast, List.length_map])
  · rename_i h1
    rw [seenB, decide_eq_true h1]; rfl
  · rename_i h1
    refine loop_i (fun j : Nat => j ≤ snaps.length ∧ (snaps.take j).any (fun s => decide (sees l (l.getD i default).row s = i)) = false) (fun j => ⟨[(0, .view 4 (l.map Ver.av)), (1, .int .i64 i), (2, .view 1 (snaps.map (AV.int .i64))), (7, .int .i64 j)], []⟩) (fun j => snaps.length - j) 0 ⟨by omega, rfl⟩ (Ent.to [] false (by simp) (by simp) rfl (by simp only [lP, seval, List.length_map] <;> (try simp) <;> (try omega)) (by simp only [lP, seval, List.length_map] <;> (try simp) <;> (try omega))) ?_
    rintro j ⟨hj, ha⟩
    have h31' := c31 l (l.getD i default).row (snaps.getD j 0)
    repeat' (first
     | (with_reducible apply St.o; constructor) <;> intro _
     | with_reducible first | refine LenR_i fun _ => ?_ | refine And.intro (by omega) ?_ | (apply Sp.o; constructor) | refine mkl_own ?_ | refine frz0_i ?_ | refine any_i [] ?_
     | ((with_reducible apply Sc.o true; constructor); simp only [lP, seval, IdxR_vers, IdxR_ints, Int.toNat_natCast, List.length_map]; refine ⟨_, h31', ?_⟩; rintro _ _ ⟨rfl, rfl⟩; simp only [lA, lP, ptrCells, ptrAdd, isNil, readsV, readsP, isCall, wrote, srcOf, seval, IdxR_vers, IdxR_ints, Int.toNat_natCast, List.length_map])
     | ((with_reducible refine keep0_i ?_); simp only [lP, seval])
     | simp (maxSteps := 1000000) (disch := omega) only [lE, ptrCells, ptrAdd, isNil, readsV, readsP, isCall, wrote, srcOf, seval, IdxR_vers, IdxR_ints, Int.toNat_natCast, List.length_map])
    · rename_i h2 h3
      rw [eq_comm, AV.bool.injEq, seenB, any_at (i := j) (by omega) (by exact decide_eq_true h3), Bool.or_true]
    · rename_i h2 h3
      exact back_i (j + 1) ⟨by omega, any_next (by omega) ha (by exact decide_eq_false h3)⟩ (by omega) (Ent.to [] false (by simp) (by simp) rfl (by simp only [lP, seval] <;> (try simp) <;> (try omega)) (by simp only [lP, seval] <;> (try simp) <;> (try omega)))
    · rename_i h2
      rw [List.take_of_length_le (by omega)] at ha
      rw [seenB, ha, decide_eq_false h1]; rfl

/-- The rows that changed. -/
def chgN (a : List Ver) (from_ to_ : Int) : Nat → List Int
  | 0 => []
  | i + 1 => if (a.getD i default).stamp > from_ ∧ (a.getD i default).stamp ≤ to_ ∧ (chgN a from_ to_ i).getLast? ≠ some (a.getD i default).row then chgN a from_ to_ i ++ [(a.getD i default).row] else chgN a from_ to_ i
theorem chgN_le (a : List Ver) (from_ to_ : Int) : ∀ i, (chgN a from_ to_ i).length ≤ i
  | 0 => by simp [chgN]
  | i + 1 => by
    have := chgN_le a from_ to_ i
    simp only [chgN]
    split <;> simp <;> omega
def refChanged (l : List Ver) (from_ to_ : Int) : List Int := chgN (ordered l) from_ to_ (ordered l).length
theorem c25 (l : List Ver) (from_ to_ : Int) (h60 : l.length ≤ 1048576) : ACalls E.P 25 [.view 4 (l.map Ver.av), .int .i64 from_, .int .i64 to_] [] (fun r H => r = .slc 0 1 (refChanged l from_ to_).length ∧ H = [.arr 3 1 ((refChanged l from_ to_).map (AV.int .i64))]) := by
  have hmax := maxLen_eq
  have hol := ordered_length l
  have h34 := lendV (l := ordered l) (by rw [hol]; exact c34 l h60)
  refine ok25.acalls hE hm (by simp) fun N hN => ?_
  unfold mc25
  simp only [lA, ptrCells, ptrAdd, isNil, readsV, readsP, isCall, wrote, srcOf, seval]
  repeat' (first
   | (with_reducible apply St.o; constructor) <;> intro _
   | with_reducible first | refine LenR_i fun _ => ?_ | refine And.intro (by omega) ?_ | (apply Sp.o; constructor) | refine mkl_own ?_ | refine frz0_i ?_
   | ((with_reducible apply Sc.o false; constructor); simp only [lP, seval]; refine ⟨_, h34, ?_⟩; rintro _ _ ⟨rfl, rfl⟩; simp only [lA, lP, ptrCells, ptrAdd, isNil, readsV, readsP, isCall, wrote, srcOf, seval])
   | ((with_reducible refine keep0_i ?_); simp only [lP, seval])
   | simp (maxSteps := 1000000) (disch := omega) only [lE, ptrCells, ptrAdd, isNil, readsV, readsP, isCall, wrote, srcOf, seval])
  unfold refChanged
  generalize ordered l = a at *
  refine loop_i (fun i : Nat => i ≤ a.length) (fun i => ⟨[(1, .int .i64 from_), (2, .int .i64 to_), (7, .slc 0 1 (chgN a from_ to_ i).length), (8, .view 4 (a.map Ver.av)), (9, .int .i64 i)], [.arr 3 1 ((chgN a from_ to_ i).map (AV.int .i64))]⟩) (fun i => a.length - i) 0 (by omega)
    (Ent.ghost' 7 3 1 (by omega) rfl (Ent.to [0] false (by simp) (by simp) rfl (by simp only [lP, seval, chgN, List.map_nil, List.length_nil] <;> (try simp) <;> (try omega)) (by simp only [lP, seval, chgN, List.map_nil, List.length_nil] <;> (try simp) <;> (try omega)))) ?_
  intro i hi
  have hlen := chgN_le a from_ to_ i
  have hT : (a.getD i default).stamp > from_ ∧ (a.getD i default).stamp ≤ to_ ∧ (chgN a from_ to_ i).getLast? ≠ some (a.getD i default).row → chgN a from_ to_ (i + 1) = chgN a from_ to_ i ++ [(a.getD i default).row] := fun h => if_pos h
  have hF : ¬((a.getD i default).stamp > from_ ∧ (a.getD i default).stamp ≤ to_ ∧ (chgN a from_ to_ i).getLast? ≠ some (a.getD i default).row) → chgN a from_ to_ (i + 1) = chgN a from_ to_ i := fun h => if_neg h
  have hend : a.length ≤ i → chgN a from_ to_ a.length = chgN a from_ to_ i := fun h => by rw [show i = a.length by omega]
  generalize chgN a from_ to_ i = o at *
  rcases List.eq_nil_or_concat o with hn | ⟨o', x, hn⟩
  · subst hn
    repeat' (first
     | (with_reducible apply St.o; constructor) <;> intro _
     | with_reducible first | refine LenR_i fun _ => ?_ | refine And.intro (by omega) ?_ | (apply Sp.o; constructor) | refine mkl_own ?_ | refine frz0_i ?_ | refine any_i [] ?_
     | simp (maxSteps := 1000000) (disch := omega) only [lE, ptrCells, ptrAdd, isNil, readsV, readsP, isCall, wrote, srcOf, seval, IdxR_vers, Int.toNat_natCast, List.length_map, List.length_append, List.length_cons, List.length_nil, List.map_nil, Int.ofNat_zero])
    all_goals try (have e := hT ⟨by omega, by omega, by simp⟩
                   exact back_i (i + 1) (by omega) (by omega) (Ent.to [2] false (by simp) (by simp) rfl (by simp only [lP, seval, e, List.map_append, List.map_cons, List.map_nil, List.length_append, List.length_cons, List.length_nil, List.nil_append] <;> (try simp) <;> (try omega)) (by simp only [lP, seval, e, List.map_append, List.map_cons, List.map_nil, List.length_append, List.length_cons, List.length_nil, List.nil_append] <;> (try simp) <;> (try omega))))
    all_goals try (have e := hF (fun ⟨p, q, r⟩ => by omega)
                   exact back_i (i + 1) (by omega) (by omega) (Ent.to [0] false (by simp) (by simp) rfl (by simp only [lP, seval, e, List.map_nil, List.length_nil] <;> (try simp) <;> (try omega)) (by simp only [lP, seval, e, List.map_nil, List.length_nil] <;> (try simp) <;> (try omega))))
    rename_i h1
    rw [hend (by omega)]
    exact keep_i [0] false (by simp) (by simp) rfl ⟨by simp only [lP, seval, List.length_nil], by simp only [lP, seval, List.map_nil]⟩
  · have hx : (o.map (AV.int .i64))[((o.length : Int) - 1).toNat]? = some (.int .i64 x) := by
      rw [hn]; simp
    have hpos : 0 < o.length := by rw [hn]; simp
    have hl : o.getLast? = some x := by rw [hn]; simp
    repeat' (first
     | (with_reducible apply St.o; constructor) <;> intro _
     | with_reducible first | refine LenR_i fun _ => ?_ | refine And.intro (by omega) ?_ | (apply Sp.o; constructor) | refine mkl_own ?_ | refine frz0_i ?_ | refine any_i [] ?_
     | simp (maxSteps := 1000000) (disch := omega) only [lE, ptrCells, ptrAdd, isNil, readsV, readsP, isCall, wrote, srcOf, seval, IdxR_vers, Int.toNat_natCast, List.length_map, List.length_append, List.length_cons, List.length_nil, epR_map, hx])
    all_goals try (exfalso; omega)
    all_goals try (have e := hT ⟨by omega, by omega, by rw [hl]; intro h; cases h; contradiction⟩
                   exact back_i (i + 1) (by omega) (by omega) (Ent.to [2] false (by simp) (by simp) rfl (by simp only [lP, seval, e, List.map_append, List.map_cons, List.map_nil, List.length_append, List.length_cons, List.length_nil] <;> (try simp) <;> (try omega)) (by simp only [lP, seval, e, List.map_append, List.map_cons, List.map_nil, List.length_append, List.length_cons, List.length_nil] <;> (try simp) <;> (try omega))))
    all_goals try (have e := hF (fun ⟨p, q, r⟩ => by first | omega | (apply r; rw [hl]; congr 1))
                   exact back_i (i + 1) (by omega) (by omega) (Ent.to [0] false (by simp) (by simp) rfl (by simp only [lP, seval, e] <;> (try simp) <;> (try omega)) (by simp only [lP, seval, e] <;> (try simp) <;> (try omega))))
    rename_i h1
    rw [hend (by omega)]
    exact keep_i [0] false (by simp) (by simp) rfl ⟨by simp only [lP, seval], by simp only [lP, seval]⟩
end Go.Proofs.Try
