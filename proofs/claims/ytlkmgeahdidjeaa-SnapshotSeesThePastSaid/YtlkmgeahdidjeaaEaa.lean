/-
  A part of the proof: see the text of the law.
-/
import Derived.Test.YtlkmgeahdidjeaaBase
set_option linter.unusedSimpArgs false
set_option linter.unusedVariables false
namespace Go.Proofs.Try
open Go.Al
set_option maxRecDepth 100000
/-- alum/alumref25.SameVersion -/
def mc14 : MC :=
 (.seq (.ops [(none, (.e (.box 2 (.t 0)))),
 (none, (.e (.box 3 (.t 1)))),
 (none, (.v (.mov 4 (.c (.bool false)))))])
 (.seq (.ops [(none, (.v (.fld 5 0 (.t 2)))),
 (none, (.v (.load 6 false 1 (.t 5)))),
 (none, (.v (.fld 7 0 (.t 3)))),
 (none, (.v (.load 8 false 1 (.t 7)))),
 (none, (.v (.bin 9 .eql false (.t 6) (.t 8)))),
 (none, (.v (.mov 10 (.t 9)))),
 ((some (10, true)), (.v (.fld 11 1 (.t 2)))),
 ((some (10, true)), (.v (.load 12 false 1 (.t 11)))),
 ((some (10, true)), (.v (.fld 13 1 (.t 3)))),
 ((some (10, true)), (.v (.load 14 false 1 (.t 13)))),
 ((some (10, true)), (.v (.bin 15 .eql false (.t 12) (.t 14)))),
 (none, (.v (.pick 16 (.t 10) (.t 15) (.c (.bool false))))),
 (none, (.v (.mov 17 (.t 16)))),
 ((some (17, true)), (.v (.fld 18 2 (.t 2)))),
 ((some (17, true)), (.v (.load 19 false 1 (.t 18)))),
 ((some (17, true)), (.v (.fld 20 2 (.t 3)))),
 ((some (17, true)), (.v (.load 21 false 1 (.t 20)))),
 ((some (17, true)), (.v (.bin 22 .eql true (.t 19) (.t 21)))),
 (none, (.v (.pick 23 (.t 17) (.t 22) (.c (.bool false))))),
 (none, (.v (.mov 24 (.t 23)))),
 ((some (24, true)), (.v (.fld 25 3 (.t 2)))),
 ((some (24, true)), (.v (.load 26 false 1 (.t 25)))),
 ((some (24, true)), (.v (.fld 27 3 (.t 3)))),
 ((some (24, true)), (.v (.load 28 false 1 (.t 27)))),
 ((some (24, true)), (.e (.call (some 29) 30 [(.t 26), (.t 28)]))),
 (none, (.v (.pick 30 (.t 24) (.t 29) (.c (.bool false))))),
 (none, (.v (.mov 4 (.t 30))))])
 .ret))
theorem ok14 : FnOk E 14 31 [.tmp 4] mc14 := .of func14 (by kernel_rfl) (by kernel_rfl) (by kernel_rfl) (by kernel_rfl) (by kernel_rfl)
/-- alum/alumref25.Same -/
def mc20 : MC :=
 (.seq (.ops [(none, (.v (.mov 4 (.c (.bool false)))))])
 (.seq (.seq (.ops [(none, (.v (.mov 6 (.t 0)))),
 (none, (.p (.len 7 (.t 6)))),
 (none, (.v (.mov 8 (.t 1)))),
 (none, (.p (.len 9 (.t 8)))),
 (none, (.v (.bin 10 .neq false (.t 7) (.t 9))))])
 (.cond 10
 (.seq (.ops [(none, (.v (.mov 4 (.c (.bool false)))))])
 .ret)
 .skip))
 (.seq (.seq (.ops [(none, (.v (.mov 5 (.c (.int .i64 0)))))])
 (.block 0 (.loop (.seq (.seq (.ops [(none, (.v (.mov 11 (.t 5)))),
 (none, (.v (.mov 12 (.t 0)))),
 (none, (.p (.len 13 (.t 12)))),
 (none, (.v (.bin 14 .lss false (.t 11) (.t 13))))])
 (.cond 14
 .skip
 (.exit 0)))
 (.seq (.block 1 (.seq (.any false (.pure0 none (.v (.mov 17 (.t 0)))
 (.pure0 none (.v (.mov 18 (.t 5)))
 (.pure0 none (.p (.idx 19 4 (.t 17) (.t 18)))
 (.pure0 none (.v (.load 20 true 4 (.t 19)))
 (.pure0 none (.v (.mov 21 (.t 1)))
 (.pure0 none (.v (.mov 22 (.t 5)))
 (.pure0 none (.p (.idx 23 4 (.t 21) (.t 22)))
 (.pure0 none (.v (.load 24 true 4 (.t 23)))
 (.alt none (.e (.call (some 25) 14 [(.t 20), (.t 24)]))
 (.base (.pure0 none (.v (.not 26 (.t 25)))
 .done))
 .stop))))))))))
 (.cond 26
 (.seq (.ops [(none, (.v (.mov 4 (.c (.bool false)))))])
 .ret)
 .skip)))
 (.ops [(none, (.v (.mov 15 (.t 5)))),
 (none, (.v (.bin 16 .add false (.t 15) (.c (.int .i64 1))))),
 (none, (.v (.mov 5 (.t 16))))]))))))
 (.seq (.ops [(none, (.v (.mov 4 (.c (.bool true)))))])
 .ret))))
theorem ok20 : FnOk E 20 27 [.tmp 4] mc20 := .of func20 (by kernel_rfl) (by kernel_rfl) (by kernel_rfl) (by kernel_rfl) (by kernel_rfl)
/-- alum/alumref19.SameInts -/
def mc23 : MC :=
 (.seq (.ops [(none, (.v (.mov 4 (.c (.bool false)))))])
 (.seq (.seq (.ops [(none, (.v (.mov 6 (.t 0)))),
 (none, (.p (.len 7 (.t 6)))),
 (none, (.v (.mov 8 (.t 1)))),
 (none, (.p (.len 9 (.t 8)))),
 (none, (.v (.bin 10 .neq false (.t 7) (.t 9))))])
 (.cond 10
 (.seq (.ops [(none, (.v (.mov 4 (.c (.bool false)))))])
 .ret)
 .skip))
 (.seq (.seq (.ops [(none, (.v (.mov 5 (.c (.int .i64 0)))))])
 (.block 0 (.loop (.seq (.seq (.ops [(none, (.v (.mov 11 (.t 5)))),
 (none, (.v (.mov 12 (.t 0)))),
 (none, (.p (.len 13 (.t 12)))),
 (none, (.v (.bin 14 .lss false (.t 11) (.t 13))))])
 (.cond 14
 .skip
 (.exit 0)))
 (.seq (.block 1 (.seq (.any false (.pure0 none (.v (.mov 17 (.t 0)))
 (.pure0 none (.v (.mov 18 (.t 5)))
 (.pure0 none (.p (.idx 19 1 (.t 17) (.t 18)))
 (.pure0 none (.v (.load 20 false 1 (.t 19)))
 (.pure0 none (.v (.mov 21 (.t 1)))
 (.pure0 none (.v (.mov 22 (.t 5)))
 (.pure0 none (.p (.idx 23 1 (.t 21) (.t 22)))
 (.pure0 none (.v (.load 24 false 1 (.t 23)))
 (.pure0 none (.v (.bin 25 .neq false (.t 20) (.t 24)))
 .done))))))))))
 (.cond 25
 (.seq (.ops [(none, (.v (.mov 4 (.c (.bool false)))))])
 .ret)
 .skip)))
 (.ops [(none, (.v (.mov 15 (.t 5)))),
 (none, (.v (.bin 16 .add false (.t 15) (.c (.int .i64 1))))),
 (none, (.v (.mov 5 (.t 16))))]))))))
 (.seq (.ops [(none, (.v (.mov 4 (.c (.bool true)))))])
 .ret))))
theorem ok23 : FnOk E 23 26 [.tmp 4] mc23 := .of func23 (by kernel_rfl) (by kernel_rfl) (by kernel_rfl) (by kernel_rfl) (by kernel_rfl)
/-- alum/alumref19.Same -/
def mc30 : MC :=
 (.seq (.ops [(none, (.v (.mov 4 (.c (.bool false)))))])
 (.seq (.seq (.ops [(none, (.v (.mov 6 (.t 0)))),
 (none, (.p (.len 7 (.t 6)))),
 (none, (.v (.mov 8 (.t 1)))),
 (none, (.p (.len 9 (.t 8)))),
 (none, (.v (.bin 10 .neq false (.t 7) (.t 9))))])
 (.cond 10
 (.seq (.ops [(none, (.v (.mov 4 (.c (.bool false)))))])
 .ret)
 .skip))
 (.seq (.seq (.ops [(none, (.v (.mov 5 (.c (.int .i64 0)))))])
 (.block 0 (.loop (.seq (.seq (.ops [(none, (.v (.mov 11 (.t 5)))),
 (none, (.v (.mov 12 (.t 0)))),
 (none, (.p (.len 13 (.t 12)))),
 (none, (.v (.bin 14 .lss false (.t 11) (.t 13))))])
 (.cond 14
 .skip
 (.exit 0)))
 (.seq (.block 1 (.seq (.any false (.pure0 none (.v (.mov 17 (.t 0)))
 (.pure0 none (.v (.mov 18 (.t 5)))
 (.pure0 none (.p (.idx 19 3 (.t 17) (.t 18)))
 (.pure0 none (.v (.load 20 true 3 (.t 19)))
 (.pure0 none (.v (.mov 21 (.t 1)))
 (.pure0 none (.v (.mov 22 (.t 5)))
 (.pure0 none (.p (.idx 23 3 (.t 21) (.t 22)))
 (.pure0 none (.v (.load 24 true 3 (.t 23)))
 (.pure0 none (.v (.eq 25 true (.agg [(0, false, 1, .int), (1, false, 1, .int), (2, false, 1, .str)]) (.t 20) (.t 24)))
 .done))))))))))
 (.cond 25
 (.seq (.ops [(none, (.v (.mov 4 (.c (.bool false)))))])
 .ret)
 .skip)))
 (.ops [(none, (.v (.mov 15 (.t 5)))),
 (none, (.v (.bin 16 .add false (.t 15) (.c (.int .i64 1))))),
 (none, (.v (.mov 5 (.t 16))))]))))))
 (.seq (.ops [(none, (.v (.mov 4 (.c (.bool true)))))])
 .ret))))
theorem ok30 : FnOk E 30 26 [.tmp 4] mc30 := .of func30 (by kernel_rfl) (by kernel_rfl) (by kernel_rfl) (by kernel_rfl) (by kernel_rfl)
end Go.Proofs.Try
namespace Go.Proofs.Try
open Go.Al
set_option linter.unusedVariables false
set_option linter.unusedSimpArgs false
set_option maxRecDepth 20000

/-- Values: kind, number, text. -/
structure VL where
  k : Int
  n : Int
  s : ByteArray
  deriving DecidableEq
instance : Inhabited VL := ⟨⟨0, 0, ⟨#[]⟩⟩⟩
def VL.av (v : VL) : AV := .agg [.int .i64 v.k, .int .i64 v.n, .str v.s]
abbrev VL.cs (v : VL) : List AV := [.int .i64 v.k, .int .i64 v.n, .str v.s]
theorem vl_cells (v : VL) : cellsO v.av = some v.cs := rfl
theorem vl_av (v : VL) : v.av = .agg v.cs := rfl
theorem vw_vl {H : List AObj} {l : List Nat} {n : Nat} (v : VL) : vw H l (n + 1) v.av = v.av := by simp [VL.av, vw_agg, vw_int, vw_str]
theorem pa_vl {H : List AObj} {l : List Nat} {bor : Bool} {n : Nat} (v : VL) : pa H l bor (n + 1) v.av = v.av := by simp [VL.av, pa_agg, pa_int, pa_str]
theorem vw_vls {H : List AObj} {l : List Nat} {n : Nat} {xs : List VL} : (xs.map VL.av).map (vw H l (n + 1)) = xs.map VL.av := map_same vw_vl xs
theorem pa_vls {H : List AObj} {l : List Nat} {bor : Bool} {n : Nat} {xs : List VL} : (xs.map VL.av).map (pa H l bor (n + 1)) = xs.map VL.av := map_same pa_vl xs
theorem IdxR_vls {P : Program} {m : Nat} {N : FN} {xs : List VL} {n : Int} {d : Nat} {c : Kn} (h0 : 0 ≤ n) (h1 : n < xs.length) : IdxR P m N (xs.map VL.av) n d c = rK P m N c d (.vp (xs.getD n.toNat default).cs) :=
  IdxR_map (cs := VL.cs) (fun _ => rfl) h0 h1
theorem maxLen_eq' : maxLen = 9223372036854775807 := maxLen_eq

theorem take_next {α : Type} [Inhabited α] {a b : List α} {i : Nat} (hl : a.length = b.length) (hi : i < a.length) (h : a.take i = b.take i) (he : a.getD i default = b.getD i default) : a.take (i + 1) = b.take (i + 1) := by
  rw [List.take_succ_eq_append_getElem hi, List.take_succ_eq_append_getElem (by omega : i < b.length), h]
  simp only [List.getD_eq_getElem?_getD, List.getElem?_eq_getElem hi, List.getElem?_eq_getElem (by omega : i < b.length), Option.getD_some] at he
  rw [he]
theorem ne_at {α : Type} [Inhabited α] {a b : List α} {i : Nat} (he : a.getD i default ≠ b.getD i default) : a ≠ b := fun h => he (by rw [h])
theorem eq_all {α : Type} {a b : List α} {i : Nat} (hl : a.length = b.length) (hi : a.length ≤ i) (h : a.take i = b.take i) : a = b := by
  rwa [List.take_of_length_le hi, List.take_of_length_le (by omega)] at h
theorem vl_eq (x y : VL) : (decide (x.k = y.k) && (decide (x.n = y.n) && (decide (x.s = y.s) && true))) = decide (x = y) := by
  obtain ⟨a, b, c⟩ := x
  obtain ⟨d, e, f⟩ := y
  simp only [Bool.and_true, VL.mk.injEq, Bool.decide_and]

/-- Two lists of values. -/
theorem c30 (a b : List VL) : ACalls E.P 30 [.view 3 (a.map VL.av), .view 3 (b.map VL.av)] [] (fun r H => r = .bool (decide (a = b)) ∧ H = []) := by
  have hmax := maxLen_eq
  refine ok30.acalls hE hm (by simp) fun N hN => ?_
  unfold mc30
  simp only [lA, ptrCells, ptrAdd, isNil, readsV, readsP, isCall, wrote, srcOf, seval]
  refine LenR_i fun hl => ?_
  rw [List.length_map, hmax] at hl
  simp only [lA, ptrCells, ptrAdd, isNil, readsV, readsP, isCall, wrote, srcOf, seval, List.length_map]
  refine LenR_i fun hl2 => ?_
  rw [hmax] at hl2
  simp only [lA, ptrCells, ptrAdd, isNil, readsV, readsP, isCall, wrote, srcOf, seval, List.length_map]
  repeat' (first
   | (with_reducible apply St.o; constructor) <;> intro _
   | with_reducible first | refine LenR_i fun _ => ?_ | refine And.intro (by omega) ?_ | (apply Sp.o; constructor) | refine mkl_own ?_ | refine frz0_i ?_
   | ((with_reducible refine keep0_i ?_); simp only [lP, seval])
   | simp (maxSteps := 1000000) (disch := omega) only [lE, ptrCells, ptrAdd, isNil, readsV, readsP, isCall, wrote, srcOf, seval, List.length_map])
  · rename_i h
    simp only [AV.bool.injEq, and_true]
    rw [eq_comm, decide_eq_false_iff_not]
    rintro rfl; simp at h
  · rename_i h
    have he : a.length = b.length := by omega
    refine loop_i (fun i : Nat => i ≤ a.length ∧ a.take i = b.take i) (fun i => ⟨[(0, .view 3 (a.map VL.av)), (1, .view 3 (b.map VL.av)), (5, .int .i64 i)], []⟩) (fun i => a.length - i) 0 ⟨by omega, by simp⟩ (Ent.to [] false (by simp) (by simp) rfl (by simp only [lP, seval, List.length_map] <;> (try simp) <;> (try omega)) (by simp only [lP, seval, List.length_map] <;> (try simp) <;> (try omega))) ?_
    rintro i ⟨hi, ha⟩
    repeat' (first
     | (with_reducible apply St.o; constructor) <;> intro _
     | with_reducible first | refine LenR_i fun _ => ?_ | refine And.intro (by omega) ?_ | (apply Sp.o; constructor) | refine mkl_own ?_ | refine frz0_i ?_
     | ((with_reducible refine keep0_i ?_); simp only [lP, seval])
     | simp (maxSteps := 1000000) (disch := omega) only [lE, ptrCells, ptrAdd, isNil, readsV, readsP, isCall, wrote, srcOf, seval, IdxR_vls, Int.toNat_natCast, List.length_map, vl_eq])
    · rename_i h1 h2
      rw [eq_comm, AV.bool.injEq, decide_eq_false_iff_not]
      exact ne_at (i := i) (by simpa using h2)
    · rename_i h1 h2
      exact back_i (i + 1) ⟨by omega, take_next he (by omega) ha (by simpa using h2)⟩ (by omega) (Ent.to [] false (by simp) (by simp) rfl (by simp only [lP, seval] <;> (try simp) <;> (try omega)) (by simp only [lP, seval] <;> (try simp) <;> (try omega)))
    · rename_i h1
      rw [eq_comm, AV.bool.injEq, decide_eq_true_iff]
      exact eq_all he (by omega) ha

/-- Versions. -/
structure Ver where
  row : Int
  stamp : Int
  dead : Bool
  vals : List VL
  deriving DecidableEq
instance : Inhabited Ver := ⟨⟨0, 0, false, []⟩⟩
abbrev Ver.cs (v : Ver) : List AV := [.int .i64 v.row, .int .i64 v.stamp, .bool v.dead, .view 3 (v.vals.map VL.av)]
def Ver.av (v : Ver) : AV := .agg v.cs
theorem ver_cells (v : Ver) : cellsO v.av = some v.cs := rfl
theorem ver_av (v : Ver) : v.av = .agg v.cs := rfl
theorem vw_ver {H : List AObj} {l : List Nat} {n : Nat} (v : Ver) : vw H l (n + 1) v.av = v.av := by simp [Ver.av, vw_agg, vw_int, vw_bool, vw_view]
theorem pa_ver {H : List AObj} {l : List Nat} {bor : Bool} {n : Nat} (v : Ver) : pa H l bor (n + 1) v.av = v.av := by simp [Ver.av, pa_agg, pa_int, pa_bool, pa_view]
theorem vw_vers {H : List AObj} {l : List Nat} {n : Nat} {xs : List Ver} : (xs.map Ver.av).map (vw H l (n + 1)) = xs.map Ver.av := map_same vw_ver xs
theorem pa_vers {H : List AObj} {l : List Nat} {bor : Bool} {n : Nat} {xs : List Ver} : (xs.map Ver.av).map (pa H l bor (n + 1)) = xs.map Ver.av := map_same pa_ver xs
theorem IdxR_vers {P : Program} {m : Nat} {N : FN} {xs : List Ver} {n : Int} {d : Nat} {c : Kn} (h0 : 0 ≤ n) (h1 : n < xs.length) : IdxR P m N (xs.map Ver.av) n d c = rK P m N c d (.vp (xs.getD n.toNat default).cs) :=
  IdxR_map (cs := Ver.cs) (fun _ => rfl) h0 h1

theorem ver_eq (x y : Ver) : (decide (x.row = y.row) && (decide (x.stamp = y.stamp) && (decide (x.dead = y.dead) && decide (x.vals = y.vals)))) = decide (x = y) := by
  obtain ⟨a, b, c, d⟩ := x
  obtain ⟨e, f, g, h⟩ := y
  simp only [Ver.mk.injEq, Bool.decide_and]
theorem c14 (a b : Ver) : ACalls E.P 14 [a.av, b.av] [] (fun r H => r = .bool (decide (a = b)) ∧ H = []) := by
  refine ok14.acalls hE hm (by simp) fun N hN => ?_
  unfold mc14
  simp only [lA, ptrCells, ptrAdd, isNil, readsV, readsP, isCall, wrote, srcOf, seval, ver_av]
  repeat' (first
   | (with_reducible apply St.o; constructor) <;> intro _
   | with_reducible first | refine LenR_i fun _ => ?_ | refine And.intro (by omega) ?_ | (apply Sp.o; constructor) | refine mkl_own ?_ | refine frz0_i ?_
   | ((with_reducible apply Sc.o true; constructor); simp only [lP, seval]; refine ⟨_, c30 a.vals b.vals, ?_⟩; rintro _ _ ⟨rfl, rfl⟩; simp only [lA, lP, ptrCells, ptrAdd, isNil, readsV, readsP, isCall, wrote, srcOf, seval])
   | ((with_reducible refine keep0_i ?_); simp only [lP, seval])
   | simp (maxSteps := 1000000) (disch := omega) only [lE, ptrCells, ptrAdd, isNil, readsV, readsP, isCall, wrote, srcOf, seval])
  all_goals (obtain ⟨a1, a2, a3, a4⟩ := a; obtain ⟨b1, b2, b3, b4⟩ := b; simp_all)
theorem c20 (a b : List Ver) : ACalls E.P 20 [.view 4 (a.map Ver.av), .view 4 (b.map Ver.av)] [] (fun r H => r = .bool (decide (a = b)) ∧ H = []) := by
  have hmax := maxLen_eq
  refine ok20.acalls hE hm (by simp) fun N hN => ?_
  unfold mc20
  simp only [lA, ptrCells, ptrAdd, isNil, readsV, readsP, isCall, wrote, srcOf, seval]
  refine LenR_i fun hl => ?_
  rw [List.length_map, hmax] at hl
  simp only [lA, ptrCells, ptrAdd, isNil, readsV, readsP, isCall, wrote, srcOf, seval, List.length_map]
  refine LenR_i fun hl2 => ?_
  rw [hmax] at hl2
  simp only [lA, ptrCells, ptrAdd, isNil, readsV, readsP, isCall, wrote, srcOf, seval, List.length_map]
  repeat' (first
   | (with_reducible apply St.o; constructor) <;> intro _
   | with_reducible first | refine LenR_i fun _ => ?_ | refine And.intro (by omega) ?_ | (apply Sp.o; constructor) | refine mkl_own ?_ | refine frz0_i ?_
   | ((with_reducible refine keep0_i ?_); simp only [lP, seval])
   | simp (maxSteps := 1000000) (disch := omega) only [lE, ptrCells, ptrAdd, isNil, readsV, readsP, isCall, wrote, srcOf, seval, List.length_map])
  · rename_i h
    simp only [AV.bool.injEq, and_true]
    rw [eq_comm, decide_eq_false_iff_not]
    rintro rfl; simp at h
  · rename_i h
    have he : a.length = b.length := by omega
    refine loop_i (fun i : Nat => i ≤ a.length ∧ a.take i = b.take i) (fun i => ⟨[(0, .view 4 (a.map Ver.av)), (1, .view 4 (b.map Ver.av)), (5, .int .i64 i)], []⟩) (fun i => a.length - i) 0 ⟨by omega, by simp⟩ (Ent.to [] false (by simp) (by simp) rfl (by simp only [lP, seval, List.length_map] <;> (try simp) <;> (try omega)) (by simp only [lP, seval, List.length_map] <;> (try simp) <;> (try omega))) ?_
    rintro i ⟨hi, ha⟩
    have h14 := c14 (a.getD i default) (b.getD i default)
    simp only [ver_av] at h14
    repeat' (first
     | (with_reducible apply St.o; constructor) <;> intro _
     | with_reducible first | refine LenR_i fun _ => ?_ | refine And.intro (by omega) ?_ | (apply Sp.o; constructor) | refine mkl_own ?_ | refine frz0_i ?_ | refine any_i [] ?_
     | ((with_reducible apply Sc.o true; constructor); simp only [lP, seval, IdxR_vers, Int.toNat_natCast, List.length_map]; refine ⟨_, h14, ?_⟩; rintro _ _ ⟨rfl, rfl⟩; simp only [lA, lP, ptrCells, ptrAdd, isNil, readsV, readsP, isCall, wrote, srcOf, seval, IdxR_vers, Int.toNat_natCast, List.length_map])
     | ((with_reducible refine keep0_i ?_); simp only [lP, seval])
     | simp (maxSteps := 1000000) (disch := omega) only [lE, ptrCells, ptrAdd, isNil, readsV, readsP, isCall, wrote, srcOf, seval, IdxR_vers, Int.toNat_natCast, List.length_map])
    · rename_i h1 h2
      rw [eq_comm, AV.bool.injEq, decide_eq_false_iff_not]
      exact ne_at (i := i) (by simpa using h2)
    · rename_i h1 h2
      exact back_i (i + 1) ⟨by omega, take_next he (by omega) ha (by simpa using h2)⟩ (by omega) (Ent.to [] false (by simp) (by simp) rfl (by simp only [lP, seval] <;> (try simp) <;> (try omega)) (by simp only [lP, seval] <;> (try simp) <;> (try omega)))
    · rename_i h1
      rw [eq_comm, AV.bool.injEq, decide_eq_true_iff]
      exact eq_all he (by omega) ha
theorem c23 (a b : List Int) : ACalls E.P 23 [.view 1 (a.map (AV.int .i64)), .view 1 (b.map (AV.int .i64))] [] (fun r H => r = .bool (decide (a = b)) ∧ H = []) := by
  have hmax := maxLen_eq
  refine ok23.acalls hE hm (by simp) fun N hN => ?_
  unfold mc23
  simp only [lA, ptrCells, ptrAdd, isNil, readsV, readsP, isCall, wrote, srcOf, seval]
  refine LenR_i fun hl => ?_
  rw [List.length_map, hmax] at hl
  simp only [lA, ptrCells, ptrAdd, isNil, readsV, readsP, isCall, wrote, srcOf, seval, List.length_map]
  refine LenR_i fun hl2 => ?_
  rw [hmax] at hl2
  simp only [lA, ptrCells, ptrAdd, isNil, readsV, readsP, isCall, wrote, srcOf, seval, List.length_map]
  repeat' (first
   | (with_reducible apply St.o; constructor) <;> intro _
   | with_reducible first | refine LenR_i fun _ => ?_ | refine And.intro (by omega) ?_ | (apply Sp.o; constructor) | refine mkl_own ?_ | refine frz0_i ?_
   | ((with_reducible refine keep0_i ?_); simp only [lP, seval])
   | simp (maxSteps := 1000000) (disch := omega) only [lE, ptrCells, ptrAdd, isNil, readsV, readsP, isCall, wrote, srcOf, seval, List.length_map])
  · rename_i h
    simp only [AV.bool.injEq, and_true]
    rw [eq_comm, decide_eq_false_iff_not]
    rintro rfl; simp at h
  · rename_i h
    have he : a.length = b.length := by omega
    refine loop_i (fun i : Nat => i ≤ a.length ∧ a.take i = b.take i) (fun i => ⟨[(0, .view 1 (a.map (AV.int .i64))), (1, .view 1 (b.map (AV.int .i64))), (5, .int .i64 i)], []⟩) (fun i => a.length - i) 0 ⟨by omega, by simp⟩ (Ent.to [] false (by simp) (by simp) rfl (by simp only [lP, seval, List.length_map] <;> (try simp) <;> (try omega)) (by simp only [lP, seval, List.length_map] <;> (try simp) <;> (try omega))) ?_
    rintro i ⟨hi, ha⟩
    repeat' (first
     | (with_reducible apply St.o; constructor) <;> intro _
     | with_reducible first | refine LenR_i fun _ => ?_ | refine And.intro (by omega) ?_ | (apply Sp.o; constructor) | refine mkl_own ?_ | refine frz0_i ?_
     | ((with_reducible refine keep0_i ?_); simp only [lP, seval])
     | simp (maxSteps := 1000000) (disch := omega) only [lE, ptrCells, ptrAdd, isNil, readsV, readsP, isCall, wrote, srcOf, seval, IdxR_ints, Int.toNat_natCast, List.length_map])
    · rename_i h1 h2
      rw [eq_comm, AV.bool.injEq, decide_eq_false_iff_not]
      exact ne_at (i := i) (by simpa using h2)
    · rename_i h1 h2
      exact back_i (i + 1) ⟨by omega, take_next he (by omega) ha (by simpa using h2)⟩ (by omega) (Ent.to [] false (by simp) (by simp) rfl (by simp only [lP, seval] <;> (try simp) <;> (try omega)) (by simp only [lP, seval] <;> (try simp) <;> (try omega)))
    · rename_i h1
      rw [eq_comm, AV.bool.injEq, decide_eq_true_iff]
      exact eq_all he (by omega) ha
end Go.Proofs.Try
