/-
  A part of the proof: see the text of the law.
-/
import Derived.Test.YtlokeliagcaepaaEab
import Derived.Test.YtlokeliagcaepaaPab
set_option linter.unusedSimpArgs false
set_option linter.unusedVariables false
namespace Go.Proofs.Try
open Go.Al
set_option maxRecDepth 100000
/-- alum/alumref19.SameInts -/
def mc15 : MC :=
 (.seq (.ops [(none, (.v (.mov 4 (.c (.bool false)))))])
 (.seq (.seq (.ops [(none, (.v (.mov 6 (.t 0)))),
 (none, (.p (.len 7 (.t 6)))),
 (none, (.v (.mov 8 (.t 1)))),
 (none, (.p (.len 9 (.t 8)))),
 (none, (.v (.bin 10 .neq false (.t 7) (.t 9))))])
 (.cond 10
 (.seq (.ops [(none, (.v (.mov 4 (.c (.bool false)))))])
 .ret)
 .skip))
 (.seq (.seq (.ops [(none, (.v (.mov 5 (.c (.int .i64 0)))))])
 (.block 0 (.loop (.seq (.seq (.ops [(none, (.v (.mov 11 (.t 5)))),
 (none, (.v (.mov 12 (.t 0)))),
 (none, (.p (.len 13 (.t 12)))),
 (none, (.v (.bin 14 .lss false (.t 11) (.t 13))))])
 (.cond 14
 .skip
 (.exit 0)))
 (.seq (.block 1 (.seq (.any false (.pure0 none (.v (.mov 17 (.t 0)))
 (.pure0 none (.v (.mov 18 (.t 5)))
 (.pure0 none (.p (.idx 19 1 (.t 17) (.t 18)))
 (.pure0 none (.v (.load 20 false 1 (.t 19)))
 (.pure0 none (.v (.mov 21 (.t 1)))
 (.pure0 none (.v (.mov 22 (.t 5)))
 (.pure0 none (.p (.idx 23 1 (.t 21) (.t 22)))
 (.pure0 none (.v (.load 24 false 1 (.t 23)))
 (.pure0 none (.v (.bin 25 .neq false (.t 20) (.t 24)))
 .done))))))))))
 (.cond 25
 (.seq (.ops [(none, (.v (.mov 4 (.c (.bool false)))))])
 .ret)
 .skip)))
 (.ops [(none, (.v (.mov 15 (.t 5)))),
 (none, (.v (.bin 16 .add false (.t 15) (.c (.int .i64 1))))),
 (none, (.v (.mov 5 (.t 16))))]))))))
 (.seq (.ops [(none, (.v (.mov 4 (.c (.bool true)))))])
 .ret))))
theorem ok15 : FnOk E 15 26 [.tmp 4] mc15 := .of func15 (by kernel_rfl) (by kernel_rfl) (by kernel_rfl) (by kernel_rfl) (by kernel_rfl)
/-- alum/alumref39.Same -/
def mc16 : MC :=
 (.seq (.ops [(none, (.e (.box 2 (.t 0)))),
 (none, (.e (.box 3 (.t 1)))),
 (none, (.v (.mov 4 (.c (.bool false)))))])
 (.seq (.seq (.ops [(none, (.v (.fld 6 0 (.t 2)))),
 (none, (.v (.load 7 false 1 (.t 6)))),
 (none, (.v (.fld 8 0 (.t 3)))),
 (none, (.v (.load 9 false 1 (.t 8)))),
 (none, (.v (.bin 10 .neq false (.t 7) (.t 9)))),
 (none, (.v (.mov 11 (.t 10)))),
 ((some (11, false)), (.v (.fld 12 1 (.t 2)))),
 ((some (11, false)), (.v (.load 13 false 1 (.t 12)))),
 ((some (11, false)), (.v (.fld 14 1 (.t 3)))),
 ((some (11, false)), (.v (.load 15 false 1 (.t 14)))),
 ((some (11, false)), (.v (.bin 16 .neq false (.t 13) (.t 15)))),
 (none, (.v (.pick 17 (.t 11) (.c (.bool true)) (.t 16)))),
 (none, (.v (.mov 18 (.t 17)))),
 ((some (18, false)), (.v (.fld 19 2 (.t 2)))),
 ((some (18, false)), (.v (.load 20 false 1 (.t 19)))),
 ((some (18, false)), (.p (.len 21 (.t 20)))),
 ((some (18, false)), (.v (.fld 22 2 (.t 3)))),
 ((some (18, false)), (.v (.load 23 false 1 (.t 22)))),
 ((some (18, false)), (.p (.len 24 (.t 23)))),
 ((some (18, false)), (.v (.bin 25 .neq false (.t 21) (.t 24)))),
 (none, (.v (.pick 26 (.t 18) (.c (.bool true)) (.t 25))))])
 (.cond 26
 (.seq (.ops [(none, (.v (.mov 4 (.c (.bool false)))))])
 .ret)
 .skip))
 (.seq (.seq (.ops [(none, (.v (.mov 5 (.c (.int .i64 0)))))])
 (.block 0 (.loop (.seq (.seq (.ops [(none, (.v (.mov 27 (.t 5)))),
 (none, (.v (.fld 28 2 (.t 2)))),
 (none, (.v (.load 29 false 1 (.t 28)))),
 (none, (.p (.len 30 (.t 29)))),
 (none, (.v (.bin 31 .lss false (.t 27) (.t 30))))])
 (.cond 31
 .skip
 (.exit 0)))
 (.seq (.block 1 (.seq (.any false (.pure0 none (.v (.fld 34 2 (.t 2)))
 (.pure0 none (.v (.load 35 false 1 (.t 34)))
 (.pure0 none (.v (.mov 36 (.t 5)))
 (.pure0 none (.p (.idx 37 9 (.t 35) (.t 36)))
 (.pure0 none (.v (.load 38 true 9 (.t 37)))
 (.pure0 none (.v (.fld 39 2 (.t 3)))
 (.pure0 none (.v (.load 40 false 1 (.t 39)))
 (.pure0 none (.v (.mov 41 (.t 5)))
 (.pure0 none (.p (.idx 42 9 (.t 40) (.t 41)))
 (.pure0 none (.v (.load 43 true 9 (.t 42)))
 (.pure0 none (.v (.eq 44 true (.agg [(0, true, 3, (.agg [(0, false, 1, .int), (1, false, 1, .int), (2, false, 1, .str)])), (3, true, 3, (.agg [(0, false, 1, .int), (1, false, 1, .int), (2, false, 1, .str)])), (6, false, 1, .int), (7, false, 1, .int), (8, false, 1, .int)]) (.t 38) (.t 43)))
 .done))))))))))))
 (.cond 44
 (.seq (.ops [(none, (.v (.mov 4 (.c (.bool false)))))])
 .ret)
 .skip)))
 (.ops [(none, (.v (.mov 32 (.t 5)))),
 (none, (.v (.bin 33 .add false (.t 32) (.c (.int .i64 1))))),
 (none, (.v (.mov 5 (.t 33))))]))))))
 (.seq (.ops [(none, (.v (.mov 4 (.c (.bool true)))))])
 .ret))))
theorem ok16 : FnOk E 16 45 [.tmp 4] mc16 := .of func16 (by kernel_rfl) (by kernel_rfl) (by kernel_rfl) (by kernel_rfl) (by kernel_rfl)
/-- alum/alumlaw39.bounds -/
def mc21 : MC :=
 (.seq (.ops [(none, (.e (.alloc 4 [(.int .i64 0), (.int .i64 0)])))])
 (.seq (.ops [(none, (.v (.mov 5 (.t 0)))),
 (none, (.v (.mov 6 (.t 1)))),
 (none, (.v (.build 7 [(.int .i64 0), (.int .i64 0)] [(0, 1, (.t 5)), (1, 1, (.t 6))]))),
 (none, (.e (.store 2 true (.t 4) (.t 7))))])
 .ret))
theorem ok21 : FnOk E 21 8 [.cell 4 46] mc21 := .of func21 (by kernel_rfl) (by kernel_rfl) (by kernel_rfl) (by kernel_rfl) (by kernel_rfl)
/-- alum/stats.single -/
def mc49 : MC :=
 (.seq (.ops [(none, (.e (.box 1 (.t 0)))),
 (none, (.v (.mov 2 (.c (.bool false)))))])
 (.seq (.ops [(none, (.v (.fld 3 0 (.t 1)))),
 (none, (.v (.load 4 true 3 (.t 3)))),
 (none, (.v (.fld 5 3 (.t 1)))),
 (none, (.v (.load 6 true 3 (.t 5)))),
 (none, (.v (.eq 7 false (.agg [(0, false, 1, .int), (1, false, 1, .int), (2, false, 1, .str)]) (.t 4) (.t 6)))),
 (none, (.v (.mov 2 (.t 7))))])
 .ret))
theorem ok49 : FnOk E 49 8 [.tmp 2] mc49 := .of func49 (by kernel_rfl) (by kernel_rfl) (by kernel_rfl) (by kernel_rfl) (by kernel_rfl)
/-- alum/stats.meet -/
def mc51 : MC :=
 (.seq (.ops [(none, (.e (.box 2 (.t 0)))),
 (none, (.e (.box 3 (.t 1)))),
 (none, (.v (.mov 4 (.c (.bool false)))))])
 (.seq (.ops [(none, (.v (.fld 5 0 (.t 2)))),
 (none, (.v (.load 6 true 3 (.t 5)))),
 (none, (.v (.fld 7 3 (.t 3)))),
 (none, (.v (.load 8 true 3 (.t 7)))),
 (none, (.e (.call (some 9) 43 [(.t 6), (.t 8)]))),
 (none, (.v (.bin 10 .leq false (.t 9) (.c (.int .i64 0))))),
 (none, (.v (.mov 11 (.t 10)))),
 ((some (11, true)), (.v (.fld 12 0 (.t 3)))),
 ((some (11, true)), (.v (.load 13 true 3 (.t 12)))),
 ((some (11, true)), (.v (.fld 14 3 (.t 2)))),
 ((some (11, true)), (.v (.load 15 true 3 (.t 14)))),
 ((some (11, true)), (.e (.call (some 16) 43 [(.t 13), (.t 15)]))),
 ((some (11, true)), (.v (.bin 17 .leq false (.t 16) (.c (.int .i64 0))))),
 (none, (.v (.pick 18 (.t 11) (.t 17) (.c (.bool false))))),
 (none, (.v (.mov 4 (.t 18))))])
 .ret))
theorem ok51 : FnOk E 51 19 [.tmp 4] mc51 := .of func51 (by kernel_rfl) (by kernel_rfl) (by kernel_rfl) (by kernel_rfl) (by kernel_rfl)
/-- alum/stats.count -/
def mc54 : MC :=
 (.seq (.ops [(none, (.v (.mov 2 (.c (.int .i64 0)))))])
 (.seq (.seq (.ops [(none, (.v (.mov 3 (.t 0))))])
 (.cond 3
 (.seq (.ops [(none, (.v (.mov 2 (.c (.int .i64 1)))))])
 .ret)
 .skip))
 (.seq (.ops [(none, (.v (.mov 2 (.c (.int .i64 0)))))])
 .ret)))
theorem ok54 : FnOk E 54 4 [.tmp 2] mc54 := .of func54 (by kernel_rfl) (by kernel_rfl) (by kernel_rfl) (by kernel_rfl) (by kernel_rfl)
/-- alum/stats.end -/
def mc55 : MC :=
 (.seq (.ops [(none, (.e (.box 2 (.t 0)))),
 (none, (.e (.box 3 (.t 1)))),
 (none, (.v (.mov 4 (.c (.bool false)))))])
 (.seq (.ops [(none, (.v (.fld 5 0 (.t 2)))),
 (none, (.v (.load 6 true 3 (.t 5)))),
 (none, (.v (.load 7 true 3 (.t 3)))),
 (none, (.v (.eq 8 false (.agg [(0, false, 1, .int), (1, false, 1, .int), (2, false, 1, .str)]) (.t 6) (.t 7)))),
 (none, (.v (.mov 9 (.t 8)))),
 ((some (9, false)), (.v (.fld 10 3 (.t 2)))),
 ((some (9, false)), (.v (.load 11 true 3 (.t 10)))),
 ((some (9, false)), (.v (.load 12 true 3 (.t 3)))),
 ((some (9, false)), (.v (.eq 13 false (.agg [(0, false, 1, .int), (1, false, 1, .int), (2, false, 1, .str)]) (.t 11) (.t 12)))),
 (none, (.v (.pick 14 (.t 9) (.c (.bool true)) (.t 13)))),
 (none, (.v (.mov 4 (.t 14))))])
 .ret))
theorem ok55 : FnOk E 55 15 [.tmp 4] mc55 := .of func55 (by kernel_rfl) (by kernel_rfl) (by kernel_rfl) (by kernel_rfl) (by kernel_rfl)
/-- alum/alumref39.meet -/
def mc56 : MC :=
 (.seq (.ops [(none, (.e (.box 2 (.t 0)))),
 (none, (.e (.box 3 (.t 1)))),
 (none, (.v (.mov 4 (.c (.bool false)))))])
 (.seq (.ops [(none, (.v (.fld 5 0 (.t 2)))),
 (none, (.v (.fld 6 0 (.t 5)))),
 (none, (.v (.load 7 false 1 (.t 6)))),
 (none, (.v (.fld 8 0 (.t 3)))),
 (none, (.v (.fld 9 0 (.t 8)))),
 (none, (.v (.load 10 false 1 (.t 9)))),
 (none, (.v (.bin 11 .eql false (.t 7) (.t 10)))),
 (none, (.v (.mov 12 (.t 11)))),
 ((some (12, true)), (.v (.fld 13 0 (.t 2)))),
 ((some (12, true)), (.v (.load 14 true 3 (.t 13)))),
 ((some (12, true)), (.v (.fld 15 3 (.t 3)))),
 ((some (12, true)), (.v (.load 16 true 3 (.t 15)))),
 ((some (12, true)), (.e (.call (some 17) 47 [(.t 14), (.t 16)]))),
 ((some (12, true)), (.v (.bin 18 .leq false (.t 17) (.c (.int .i64 0))))),
 (none, (.v (.pick 19 (.t 12) (.t 18) (.c (.bool false))))),
 (none, (.v (.mov 20 (.t 19)))),
 ((some (20, true)), (.v (.fld 21 0 (.t 3)))),
 ((some (20, true)), (.v (.load 22 true 3 (.t 21)))),
 ((some (20, true)), (.v (.fld 23 3 (.t 2)))),
 ((some (20, true)), (.v (.load 24 true 3 (.t 23)))),
 ((some (20, true)), (.e (.call (some 25) 47 [(.t 22), (.t 24)]))),
 ((some (20, true)), (.v (.bin 26 .leq false (.t 25) (.c (.int .i64 0))))),
 (none, (.v (.pick 27 (.t 20) (.t 26) (.c (.bool false))))),
 (none, (.v (.mov 4 (.t 27))))])
 .ret))
theorem ok56 : FnOk E 56 28 [.tmp 4] mc56 := .of func56 (by kernel_rfl) (by kernel_rfl) (by kernel_rfl) (by kernel_rfl) (by kernel_rfl)
end Go.Proofs.Try
namespace Go.Proofs.Try
open Go.Al
set_option linter.unusedVariables false
set_option linter.unusedSimpArgs false
set_option maxRecDepth 20000

theorem maxLen_eq' : maxLen = 9223372036854775807 := maxLen_eq
theorem take_succD {α : Type} [Inhabited α] {l : List α} {i : Nat} (h : i < l.length) : l.take (i + 1) = l.take i ++ [l.getD i default] := by
  rw [List.take_succ_eq_append_getElem h]
  simp [h]
theorem take_next {α : Type} [Inhabited α] {a b : List α} {i : Nat} (hl : a.length = b.length) (hi : i < a.length) (h : a.take i = b.take i) (he : a.getD i default = b.getD i default) : a.take (i + 1) = b.take (i + 1) := by
  rw [take_succD hi, take_succD (by omega : i < b.length), h, he]
theorem ne_at {α : Type} [Inhabited α] {a b : List α} {i : Nat} (he : a.getD i default ≠ b.getD i default) : a ≠ b := fun h => he (by rw [h])
theorem eq_all {α : Type} {a b : List α} {i : Nat} (hl : a.length = b.length) (hi : a.length ≤ i) (h : a.take i = b.take i) : a = b := by
  rwa [List.take_of_length_le hi, List.take_of_length_le (by omega)] at h
theorem vl_eq (x y : VL) : (decide (x.k = y.k) && (decide (x.n = y.n) && (decide (x.s = y.s) && true))) = decide (x = y) := by
  obtain ⟨a, b, c⟩ := x
  obtain ⟨d, e, f⟩ := y
  simp only [Bool.and_true, VL.mk.injEq, Bool.decide_and]

theorem vl_eq2 (x y : VL) : (decide (x.k = y.k) && (decide (x.n = y.n) && decide (x.s = y.s))) = decide (x = y) := by
  rw [← vl_eq, Bool.and_true]
/-! ### bars and histograms -/
abbrev Bar.cs (b : Bar) : List AV := [.int .i64 b.lo.k, .int .i64 b.lo.n, .str b.lo.s, .int .i64 b.hi.k, .int .i64 b.hi.n, .str b.hi.s, .int .i64 b.rows, .int .i64 b.least, .int .i64 b.most]
def Bar.av (b : Bar) : AV := .agg b.cs
theorem bar_cells (v : Bar) : cellsO v.av = some v.cs := rfl
theorem bar_av (v : Bar) : v.av = .agg v.cs := rfl
theorem vw_bar {H : List AObj} {l : List Nat} {n : Nat} (v : Bar) : vw H l (n + 1) v.av = v.av := by simp [Bar.av, vw_agg, vw_int, vw_str]
theorem pa_bar {H : List AObj} {l : List Nat} {bor : Bool} {n : Nat} (v : Bar) : pa H l bor (n + 1) v.av = v.av := by simp [Bar.av, pa_agg, pa_int, pa_str]
theorem vw_bars {H : List AObj} {l : List Nat} {n : Nat} {xs : List Bar} : (xs.map Bar.av).map (vw H l (n + 1)) = xs.map Bar.av := map_same vw_bar xs
theorem pa_bars {H : List AObj} {l : List Nat} {bor : Bool} {n : Nat} {xs : List Bar} : (xs.map Bar.av).map (pa H l bor (n + 1)) = xs.map Bar.av := map_same pa_bar xs
theorem ren_bar {ρ : Nat → Nat} (v : Bar) : ren ρ v.av = v.av := by simp [Bar.av, ren, renL]
theorem ren_vl {ρ : Nat → Nat} (v : VL) : ren ρ v.av = v.av := by simp [VL.av, ren, renL]
theorem renL_bars {ρ : Nat → Nat} {xs : List Bar} : renL ρ (xs.map Bar.av) = xs.map Bar.av := renL_map ren_bar xs
theorem renL_vls {ρ : Nat → Nat} {xs : List VL} : renL ρ (xs.map VL.av) = xs.map VL.av := renL_map ren_vl xs
theorem IdxR_bars {P : Program} {m : Nat} {N : FN} {xs : List Bar} {n : Int} {d : Nat} {c : Kn} (h0 : 0 ≤ n) (h1 : n < xs.length) : IdxR P m N (xs.map Bar.av) n d c = rK P m N c d (.vp (xs.getD n.toNat default).cs) :=
  IdxR_map (cs := Bar.cs) (fun _ => rfl) h0 h1
abbrev Hist.cs (h : Hist) : List AV := [.int .i64 h.rows, .int .i64 h.nulls, .view 9 (h.bars.map Bar.av)]
def Hist.av (h : Hist) : AV := .agg h.cs
theorem hist_av (h : Hist) : h.av = .agg h.cs := rfl
theorem bar_eq (x y : Bar) : (decide (x.lo.k = y.lo.k) && (decide (x.lo.n = y.lo.n) && (decide (x.lo.s = y.lo.s) && true)) && (decide (x.hi.k = y.hi.k) && (decide (x.hi.n = y.hi.n) && (decide (x.hi.s = y.hi.s) && true)) && (decide (x.rows = y.rows) && (decide (x.least = y.least) && (decide (x.most = y.most) && true))))) = decide (x = y) := by
  rw [vl_eq, vl_eq]
  obtain ⟨a, b, c, d, e⟩ := x
  obtain ⟨f, g, h, i, j⟩ := y
  simp only [Bool.and_true, Bar.mk.injEq, Bool.decide_and]

theorem bar_eq2 (x y : Bar) : (decide (x.lo.k = y.lo.k) && (decide (x.lo.n = y.lo.n) && decide (x.lo.s = y.lo.s)) && (decide (x.hi.k = y.hi.k) && (decide (x.hi.n = y.hi.n) && decide (x.hi.s = y.hi.s)) && (decide (x.rows = y.rows) && (decide (x.least = y.least) && decide (x.most = y.most))))) = decide (x = y) := by
  rw [← bar_eq]; simp only [Bool.and_true]
theorem c49 (b : Bar) : ACalls E.P 49 [b.av] [] (fun r H => r = .bool b.single ∧ H = []) := by
  refine ok49.acalls hE hm (by simp) fun N hN => ?_
  unfold mc49
  simp only [lA, ptrCells, ptrAdd, isNil, readsV, readsP, isCall, wrote, srcOf, seval, bar_av]
  repeat' (first
   | (with_reducible apply St.o; constructor) <;> intro _
   | with_reducible first | refine LenR_i fun _ => ?_ | refine And.intro (by omega) ?_ | (apply Sp.o; constructor) | refine mkl_own ?_ | refine frz0_i ?_
   | ((with_reducible refine keep0_i ?_); simp only [lP, seval])
   | simp (maxSteps := 1000000) (disch := omega) only [lE, ptrCells, ptrAdd, isNil, readsV, readsP, isCall, wrote, srcOf, seval, vl_eq2, Bar.single])
theorem c51 (x y : Bar) : ACalls E.P 51 [x.av, y.av] [] (fun r H => r = .bool (x.meet y) ∧ H = []) := by
  have h1 := c43 x.lo y.hi
  have h2 := c43 y.lo x.hi
  simp only [vl_av] at h1 h2
  refine ok51.acalls hE hm (by simp) fun N hN => ?_
  unfold mc51
  simp only [lA, ptrCells, ptrAdd, isNil, readsV, readsP, isCall, wrote, srcOf, seval, bar_av]
  repeat' (first
   | (with_reducible apply St.o; constructor) <;> intro _
   | with_reducible first | refine LenR_i fun _ => ?_ | refine And.intro (by omega) ?_ | (apply Sp.o; constructor) | refine mkl_own ?_ | refine frz0_i ?_
   | ((with_reducible apply Sc.o true; constructor); simp only [lP, seval]; (first | refine ⟨_, h1, ?_⟩ | refine ⟨_, h2, ?_⟩); rintro _ _ ⟨rfl, rfl⟩; simp only [lA, lP, ptrCells, ptrAdd, isNil, readsV, readsP, isCall, wrote, srcOf, seval])
   | ((with_reducible refine keep0_i ?_); simp only [lP, seval])
   | simp (maxSteps := 1000000) (disch := omega) only [lE, ptrCells, ptrAdd, isNil, readsV, readsP, isCall, wrote, srcOf, seval])
  all_goals (simp only [Bar.meet]; simp_all; try omega)
theorem c54 (b : Bool) : ACalls E.P 54 [.bool b] [] (fun r H => r = .int .i64 (if b = true then 1 else 0) ∧ H = []) := by
  refine ok54.acalls hE hm (by simp) fun N hN => ?_
  unfold mc54
  simp only [lA, ptrCells, ptrAdd, isNil, readsV, readsP, isCall, wrote, srcOf, seval]
  repeat' (first
   | (with_reducible apply St.o; constructor) <;> intro _
   | with_reducible first | refine LenR_i fun _ => ?_ | refine And.intro (by omega) ?_ | (apply Sp.o; constructor) | refine mkl_own ?_ | refine frz0_i ?_
   | ((with_reducible refine keep0_i ?_); simp only [lP, seval])
   | simp (maxSteps := 1000000) (disch := omega) only [lE, ptrCells, ptrAdd, isNil, readsV, readsP, isCall, wrote, srcOf, seval])
  all_goals simp_all
theorem c55 (b : Bar) (v : VL) : ACalls E.P 55 [b.av, v.av] [] (fun r H => r = .bool (b.ends v) ∧ H = []) := by
  refine ok55.acalls hE hm (by simp) fun N hN => ?_
  unfold mc55
  simp only [lA, ptrCells, ptrAdd, isNil, readsV, readsP, isCall, wrote, srcOf, seval, bar_av, vl_av]
  repeat' (first
   | (with_reducible apply St.o; constructor) <;> intro _
   | with_reducible first | refine LenR_i fun _ => ?_ | refine And.intro (by omega) ?_ | (apply Sp.o; constructor) | refine mkl_own ?_ | refine frz0_i ?_
   | ((with_reducible refine keep0_i ?_); simp only [lP, seval])
   | simp (maxSteps := 1000000) (disch := omega) only [lE, ptrCells, ptrAdd, isNil, readsV, readsP, isCall, wrote, srcOf, seval, vl_eq, vl_eq2])
  all_goals (rename_i q; rw [vl_eq] at q; simp only [Bar.ends]; simp_all)
theorem c56 (x y : Bar) : ACalls E.P 56 [x.av, y.av] [] (fun r H => r = .bool (x.meet19 y) ∧ H = []) := by
  have h1 := c47 x.lo y.hi
  have h2 := c47 y.lo x.hi
  simp only [vl_av] at h1 h2
  refine ok56.acalls hE hm (by simp) fun N hN => ?_
  unfold mc56
  simp only [lA, ptrCells, ptrAdd, isNil, readsV, readsP, isCall, wrote, srcOf, seval, bar_av]
  repeat' (first
   | (with_reducible apply St.o; constructor) <;> intro _
   | with_reducible first | refine LenR_i fun _ => ?_ | refine And.intro (by omega) ?_ | (apply Sp.o; constructor) | refine mkl_own ?_ | refine frz0_i ?_
   | ((with_reducible apply Sc.o true; constructor); simp only [lP, seval]; (first | refine ⟨_, h1, ?_⟩ | refine ⟨_, h2, ?_⟩); rintro _ _ ⟨rfl, rfl⟩; simp only [lA, lP, ptrCells, ptrAdd, isNil, readsV, readsP, isCall, wrote, srcOf, seval])
   | ((with_reducible refine keep0_i ?_); simp only [lP, seval])
   | simp (maxSteps := 1000000) (disch := omega) only [lE, ptrCells, ptrAdd, isNil, readsV, readsP, isCall, wrote, srcOf, seval])
  all_goals (simp only [Bar.meet19]; simp_all; try omega)
theorem ti46 : E.TI 46 = some ⟨.struct [(0, 3), (1, 3)], 2, 16, [.int .i64 0, .int .i64 0], true, true, false⟩ := rfl
theorem c21 (a b : Int) : ACalls E.P 21 [.int .i64 a, .int .i64 b] [] (fun r H => r = .agg [.int .i64 a, .int .i64 b] ∧ H = []) := by
  refine ok21.acalls hE hm (by simp) fun N hN => ?_
  unfold mc21
  simp only [lA, ptrCells, ptrAdd, isNil, readsV, readsP, isCall, wrote, srcOf, seval]
  repeat' (first
   | (with_reducible apply St.o; constructor) <;> intro _
   | with_reducible first | refine LenR_i fun _ => ?_ | refine And.intro (by omega) ?_ | (apply Sp.o; constructor) | refine mkl_own ?_ | refine frz0_i ?_
   | ((with_reducible refine keep0_i ?_); simp only [lP, seval])
   | simp (maxSteps := 1000000) (disch := omega) only [lE, ptrCells, ptrAdd, isNil, readsV, readsP, isCall, wrote, srcOf, seval, ti46])
theorem c15 (a b : List Int) : ACalls E.P 15 [.view 1 (a.map (AV.int .i64)), .view 1 (b.map (AV.int .i64))] [] (fun r H => r = .bool (decide (a = b)) ∧ H = []) := by
  have hmax := maxLen_eq
  refine ok15.acalls hE hm (by simp) fun N hN => ?_
  unfold mc15
  simp only [lA, ptrCells, ptrAdd, isNil, readsV, readsP, isCall, wrote, srcOf, seval]
  refine LenR_i fun hl => ?_
  rw [List.length_map, hmax] at hl
  simp only [lA, ptrCells, ptrAdd, isNil, readsV, readsP, isCall, wrote, srcOf, seval, List.length_map]
  refine LenR_i fun hl2 => ?_
  rw [hmax] at hl2
  simp only [lA, ptrCells, ptrAdd, isNil, readsV, readsP, isCall, wrote, srcOf, seval, List.length_map]
  repeat' (first
   | (with_reducible apply St.o; constructor) <;> intro _
   | with_reducible first | refine LenR_i fun _ => ?_ | refine And.intro (by omega) ?_ | (apply Sp.o; constructor) | refine mkl_own ?_ | refine frz0_i ?_
   | ((with_reducible refine keep0_i ?_); simp only [lP, seval])
   | simp (maxSteps := 1000000) (disch := omega) only [lE, ptrCells, ptrAdd, isNil, readsV, readsP, isCall, wrote, srcOf, seval, List.length_map])
  · rename_i h
    simp only [AV.bool.injEq, and_true]
    rw [eq_comm, decide_eq_false_iff_not]
    rintro rfl; simp at h
  · rename_i h
    have he : a.length = b.length := by omega
    refine loop_i (fun i : Nat => i ≤ a.length ∧ a.take i = b.take i) (fun i => ⟨[(0, .view 1 (a.map (AV.int .i64))), (1, .view 1 (b.map (AV.int .i64))), (5, .int .i64 i)], []⟩) (fun i => a.length - i) 0 ⟨by omega, by simp⟩ (Ent.to [] false (by simp) (by simp) rfl (by simp only [lP, seval, List.length_map] <;> (try simp) <;> (try omega)) (by simp only [lP, seval, List.length_map] <;> (try simp) <;> (try omega))) ?_
    rintro i ⟨hi, ha⟩
    repeat' (first
     | (with_reducible apply St.o; constructor) <;> intro _
     | with_reducible first | refine LenR_i fun _ => ?_ | refine And.intro (by omega) ?_ | (apply Sp.o; constructor) | refine mkl_own ?_ | refine frz0_i ?_
     | ((with_reducible refine keep0_i ?_); simp only [lP, seval])
     | simp (maxSteps := 1000000) (disch := omega) only [lE, ptrCells, ptrAdd, isNil, readsV, readsP, isCall, wrote, srcOf, seval, IdxR_ints, Int.toNat_natCast, List.length_map])
    · rename_i h1 h2
      rw [eq_comm, AV.bool.injEq, decide_eq_false_iff_not]
      exact ne_at (i := i) (by simpa using h2)
    · rename_i h1 h2
      exact back_i (i + 1) ⟨by omega, take_next he (by omega) ha (by simpa using h2)⟩ (by omega) (Ent.to [] false (by simp) (by simp) rfl (by simp only [lP, seval] <;> (try simp) <;> (try omega)) (by simp only [lP, seval] <;> (try simp) <;> (try omega)))
    · rename_i h1
      rw [eq_comm, AV.bool.injEq, decide_eq_true_iff]
      exact eq_all he (by omega) ha
theorem c16 (a b : Hist) : ACalls E.P 16 [a.av, b.av] [] (fun r H => r = .bool (decide (a = b)) ∧ H = []) := by
  have hmax := maxLen_eq
  obtain ⟨ar, an, a⟩ := a
  obtain ⟨br, bn, b⟩ := b
  refine ok16.acalls hE hm (by simp) fun N hN => ?_
  unfold mc16
  simp only [lA, ptrCells, ptrAdd, isNil, readsV, readsP, isCall, wrote, srcOf, seval, hist_av]
  have hno : ar ≠ br ∨ an ≠ bn ∨ a.length ≠ b.length → decide ((⟨ar, an, a⟩ : Hist) = ⟨br, bn, b⟩) = false := fun h => by
    rw [decide_eq_false_iff_not, Hist.mk.injEq]
    rintro ⟨h1, h2, rfl⟩
    simp_all
  repeat' (first
   | (with_reducible apply St.o; constructor) <;> intro _
   | with_reducible first | refine LenR_i fun _ => ?_ | refine And.intro (by omega) ?_ | (apply Sp.o; constructor) | refine mkl_own ?_ | refine frz0_i ?_
   | ((with_reducible refine keep0_i ?_); simp only [lP, seval])
   | simp (maxSteps := 1000000) (disch := omega) only [lE, ptrCells, ptrAdd, isNil, readsV, readsP, isCall, wrote, srcOf, seval, List.length_map])
  all_goals try (rw [hno (by omega)])
  rename_i e1 e2 _ _ e3
  subst e1 e2
  have he : a.length = b.length := by omega
  refine loop_i (fun i : Nat => i ≤ a.length ∧ a.take i = b.take i) (fun i => ⟨[(2, .op 0 0), (3, .op 1 0), (5, .int .i64 i)], [.box (Hist.mk ar an a).cs, .box (Hist.mk ar an b).cs]⟩) (fun i => a.length - i) 0 ⟨by omega, by simp⟩ (Ent.to [0, 1] false (by simp) (by simp) rfl (by simp only [lP, seval, List.length_map] <;> (try simp) <;> (try omega)) (by simp only [lP, seval, List.length_map] <;> (try simp) <;> (try omega))) ?_
  rintro i ⟨hi, ha⟩
  repeat' (first
   | (with_reducible apply St.o; constructor) <;> intro _
   | with_reducible first | refine LenR_i fun _ => ?_ | refine And.intro (by omega) ?_ | (apply Sp.o; constructor) | refine mkl_own ?_ | refine frz0_i ?_ | refine any_i [] ?_
   | ((with_reducible refine keep0_i ?_); simp only [lP, seval])
   | simp (maxSteps := 1000000) (disch := omega) only [lE, ptrCells, ptrAdd, isNil, readsV, readsP, isCall, wrote, srcOf, seval, IdxR_bars, Int.toNat_natCast, List.length_map, bar_eq])
  · rename_i h1 h2
    rw [eq_comm, AV.bool.injEq, decide_eq_false_iff_not, Hist.mk.injEq]
    exact fun h => ne_at (i := i) (by simpa using h2) h.2.2
  · rename_i h1 h2
    exact back_i (i + 1) ⟨by omega, take_next he (by omega) ha (by simpa using h2)⟩ (by omega) (Ent.to [0, 1] false (by simp) (by simp) rfl (by simp only [lP, seval] <;> (try simp) <;> (try omega)) (by simp only [lP, seval] <;> (try simp) <;> (try omega)))
  · rename_i h1
    rw [eq_comm, AV.bool.injEq, decide_eq_true_iff, eq_all he (by omega) ha]
end Go.Proofs.Try
