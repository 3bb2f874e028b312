/-
  A part of the proof: see the text of the law.
-/
import Derived.Test.YtlokeliagcaepaaEas
import Derived.Test.YtlokeliagcaepaaPab
set_option linter.unusedSimpArgs false
set_option linter.unusedVariables false
namespace Go.Proofs.Try
open Go.Al
set_option maxRecDepth 100000
/-- alum/value.Compare -/
def mc43 : MC :=
 (.seq (.ops [(none, (.e (.box 2 (.t 0)))),
 (none, (.e (.box 3 (.t 1)))),
 (none, (.v (.mov 4 (.c (.int .i64 0)))))])
 (.seq (.any false (.pure0 none (.v (.fld 5 0 (.t 2)))
 (.pure0 none (.v (.load 6 false 1 (.t 5)))
 (.pure0 none (.v (.fld 7 0 (.t 3)))
 (.pure0 none (.v (.load 8 false 1 (.t 7)))
 (.pure0 none (.v (.fld 10 1 (.t 2)))
 (.pure0 none (.v (.load 11 false 1 (.t 10)))
 (.pure0 none (.v (.fld 12 1 (.t 3)))
 (.pure0 none (.v (.load 13 false 1 (.t 12)))
 (.pure0 none (.v (.fld 15 2 (.t 2)))
 (.pure0 none (.v (.load 16 false 1 (.t 15)))
 (.pure0 none (.v (.fld 17 2 (.t 3)))
 (.pure0 none (.v (.load 18 false 1 (.t 17)))
 (.alt none (.e (.call (some 9) 66 [(.t 6), (.t 8)]))
 (.base (.alt none (.e (.call (some 14) 66 [(.t 11), (.t 13)]))
 (.base (.alt none (.e (.call (some 19) 67 [(.t 16), (.t 18)]))
 (.base (.alt none (.e (.mkl 20 3 1 3 (.int .i64 0) [(0, (.t 9)), (1, (.t 14)), (2, (.t 19))]))
 (.base (.alt none (.e (.call (some 21) 65 [(.t 20)]))
 (.base (.pure0 none (.v (.mov 4 (.t 21)))
 .done))
 .stop))
 .stop))
 .stop))
 .stop))
 .stop))))))))))))))
 .ret))
theorem ok43 : FnOk E 43 22 [.tmp 4] mc43 := .of func43 (by kernel_rfl) (by kernel_rfl) (by kernel_rfl) (by kernel_rfl) (by kernel_rfl)
/-- alum/alumref19.Compare -/
def mc47 : MC :=
 (.seq (.ops [(none, (.e (.box 2 (.t 0)))),
 (none, (.e (.box 3 (.t 1)))),
 (none, (.v (.mov 4 (.c (.int .i64 0)))))])
 (.seq (.seq (.ops [(none, (.v (.fld 5 0 (.t 2)))),
 (none, (.v (.load 6 false 1 (.t 5)))),
 (none, (.v (.fld 7 0 (.t 3)))),
 (none, (.v (.load 8 false 1 (.t 7)))),
 (none, (.v (.bin 9 .neq false (.t 6) (.t 8))))])
 (.cond 9
 (.seq (.ops [(none, (.v (.fld 10 0 (.t 2)))),
 (none, (.v (.load 11 false 1 (.t 10)))),
 (none, (.v (.fld 12 0 (.t 3)))),
 (none, (.v (.load 13 false 1 (.t 12)))),
 (none, (.e (.call (some 14) 70 [(.t 11), (.t 13)]))),
 (none, (.v (.mov 4 (.t 14))))])
 .ret)
 .skip))
 (.seq (.seq (.ops [(none, (.v (.fld 15 2 (.t 2)))),
 (none, (.v (.load 16 false 1 (.t 15)))),
 (none, (.v (.fld 17 2 (.t 3)))),
 (none, (.v (.load 18 false 1 (.t 17)))),
 (none, (.v (.bin 19 .lss false (.t 16) (.t 18))))])
 (.cond 19
 (.seq (.ops [(none, (.v (.mov 4 (.c (.int .i64 (-1))))))])
 .ret)
 .skip))
 (.seq (.seq (.ops [(none, (.v (.fld 20 2 (.t 2)))),
 (none, (.v (.load 21 false 1 (.t 20)))),
 (none, (.v (.fld 22 2 (.t 3)))),
 (none, (.v (.load 23 false 1 (.t 22)))),
 (none, (.v (.bin 24 .gtr false (.t 21) (.t 23))))])
 (.cond 24
 (.seq (.ops [(none, (.v (.mov 4 (.c (.int .i64 1)))))])
 .ret)
 .skip))
 (.seq (.ops [(none, (.v (.fld 25 1 (.t 2)))),
 (none, (.v (.load 26 false 1 (.t 25)))),
 (none, (.v (.fld 27 1 (.t 3)))),
 (none, (.v (.load 28 false 1 (.t 27)))),
 (none, (.e (.call (some 29) 70 [(.t 26), (.t 28)]))),
 (none, (.v (.mov 4 (.t 29))))])
 .ret)))))
theorem ok47 : FnOk E 47 30 [.tmp 4] mc47 := .of func47 (by kernel_rfl) (by kernel_rfl) (by kernel_rfl) (by kernel_rfl) (by kernel_rfl)
/-- cmp.Or[int] -/
def mc65 : MC :=
 (.seq (.ops [(none, (.v (.mov 2 (.c (.int .i64 0)))))])
 (.seq (.ops [(none, (.v (.mov 3 (.c (.int .i64 0)))))])
 (.seq (.seq (.ops [(none, (.v (.mov 6 (.t 0)))),
 (none, (.p (.len 7 (.t 6)))),
 (none, (.v (.mov 8 (.c (.int .i64 0)))))])
 (.block 0 (.loop (.seq (.ops [(none, (.v (.bin 9 .lss false (.t 8) (.t 7))))])
 (.seq (.cond 9
 .skip
 (.exit 0))
 (.seq (.block 1 (.seq (.ops [(none, (.p (.idx 10 1 (.t 6) (.t 8)))),
 (none, (.v (.load 11 false 1 (.t 10)))),
 (none, (.v (.mov 5 (.t 11))))])
 (.seq (.ops [(none, (.v (.mov 12 (.t 5)))),
 (none, (.v (.mov 13 (.t 3)))),
 (none, (.v (.bin 14 .neq false (.t 12) (.t 13))))])
 (.cond 14
 (.seq (.ops [(none, (.v (.mov 15 (.t 5)))),
 (none, (.v (.mov 2 (.t 15))))])
 .ret)
 .skip))))
 (.ops [(none, (.v (.bin 16 .add false (.t 8) (.c (.int .i64 1))))),
 (none, (.v (.mov 8 (.t 16))))])))))))
 (.seq (.ops [(none, (.v (.mov 17 (.t 3)))),
 (none, (.v (.mov 2 (.t 17))))])
 .ret))))
theorem ok65 : FnOk E 65 18 [.tmp 2] mc65 := .of func65 (by kernel_rfl) (by kernel_rfl) (by kernel_rfl) (by kernel_rfl) (by kernel_rfl)
/-- cmp.Compare[int] -/
def mc66 : MC :=
 (.seq (.ops [(none, (.v (.mov 4 (.c (.int .i64 0)))))])
 (.seq (.ops [(none, (.v (.mov 7 (.t 0)))),
 (none, (.e (.call (some 8) 75 [(.t 7)]))),
 (none, (.v (.mov 5 (.t 8))))])
 (.seq (.ops [(none, (.v (.mov 9 (.t 1)))),
 (none, (.e (.call (some 10) 75 [(.t 9)]))),
 (none, (.v (.mov 6 (.t 10))))])
 (.seq (.seq (.ops [(none, (.v (.mov 11 (.t 5))))])
 (.cond 11
 (.seq (.seq (.ops [(none, (.v (.mov 12 (.t 6))))])
 (.cond 12
 (.seq (.ops [(none, (.v (.mov 4 (.c (.int .i64 0)))))])
 .ret)
 .skip))
 (.seq (.ops [(none, (.v (.mov 4 (.c (.int .i64 (-1))))))])
 .ret))
 .skip))
 (.seq (.seq (.ops [(none, (.v (.mov 13 (.t 6))))])
 (.cond 13
 (.seq (.ops [(none, (.v (.mov 4 (.c (.int .i64 1)))))])
 .ret)
 .skip))
 (.seq (.seq (.ops [(none, (.v (.mov 14 (.t 0)))),
 (none, (.v (.mov 15 (.t 1)))),
 (none, (.v (.bin 16 .lss false (.t 14) (.t 15))))])
 (.cond 16
 (.seq (.ops [(none, (.v (.mov 4 (.c (.int .i64 (-1))))))])
 .ret)
 .skip))
 (.seq (.seq (.ops [(none, (.v (.mov 17 (.t 0)))),
 (none, (.v (.mov 18 (.t 1)))),
 (none, (.v (.bin 19 .gtr false (.t 17) (.t 18))))])
 (.cond 19
 (.seq (.ops [(none, (.v (.mov 4 (.c (.int .i64 1)))))])
 .ret)
 .skip))
 (.seq (.ops [(none, (.v (.mov 4 (.c (.int .i64 0)))))])
 .ret))))))))
theorem ok66 : FnOk E 66 20 [.tmp 4] mc66 := .of func66 (by kernel_rfl) (by kernel_rfl) (by kernel_rfl) (by kernel_rfl) (by kernel_rfl)
/-- strings.Compare -/
def mc67 : MC :=
 (.seq (.ops [(none, (.v (.mov 4 (.c (.int .i64 0)))))])
 (.seq (.ops [(none, (.v (.mov 5 (.t 0)))),
 (none, (.v (.mov 6 (.t 1)))),
 (none, (.e (.call (some 7) 76 [(.t 5), (.t 6)]))),
 (none, (.v (.mov 4 (.t 7))))])
 .ret))
theorem ok67 : FnOk E 67 8 [.tmp 4] mc67 := .of func67 (by kernel_rfl) (by kernel_rfl) (by kernel_rfl) (by kernel_rfl) (by kernel_rfl)
/-- alum/alumref19.sign -/
def mc70 : MC :=
 (.seq (.ops [(none, (.v (.mov 4 (.c (.int .i64 0)))))])
 (.seq (.seq (.ops [(none, (.v (.mov 5 (.t 0)))),
 (none, (.v (.mov 6 (.t 1)))),
 (none, (.v (.bin 7 .lss false (.t 5) (.t 6))))])
 (.cond 7
 (.seq (.ops [(none, (.v (.mov 4 (.c (.int .i64 (-1))))))])
 .ret)
 .skip))
 (.seq (.seq (.ops [(none, (.v (.mov 8 (.t 0)))),
 (none, (.v (.mov 9 (.t 1)))),
 (none, (.v (.bin 10 .gtr false (.t 8) (.t 9))))])
 (.cond 10
 (.seq (.ops [(none, (.v (.mov 4 (.c (.int .i64 1)))))])
 .ret)
 .skip))
 (.seq (.ops [(none, (.v (.mov 4 (.c (.int .i64 0)))))])
 .ret))))
theorem ok70 : FnOk E 70 11 [.tmp 4] mc70 := .of func70 (by kernel_rfl) (by kernel_rfl) (by kernel_rfl) (by kernel_rfl) (by kernel_rfl)
/-- cmp.isNaN[int] -/
def mc75 : MC :=
 (.seq (.ops [(none, (.v (.mov 2 (.c (.bool false)))))])
 (.seq (.ops [(none, (.v (.mov 3 (.t 0)))),
 (none, (.v (.mov 4 (.t 0)))),
 (none, (.v (.bin 5 .neq false (.t 3) (.t 4)))),
 (none, (.v (.mov 2 (.t 5))))])
 .ret))
theorem ok75 : FnOk E 75 6 [.tmp 2] mc75 := .of func75 (by kernel_rfl) (by kernel_rfl) (by kernel_rfl) (by kernel_rfl) (by kernel_rfl)
end Go.Proofs.Try
namespace Go.Proofs.Try
open Go.Al
set_option linter.unusedVariables false
set_option linter.unusedSimpArgs false
set_option maxRecDepth 20000

theorem c67 (a b : ByteArray) : ACalls E.P 67 [.str a, .str b] [] (fun r H => r = .int .i64 (Lib.compareBytes a.data.toList b.data.toList) ∧ H = []) := by
  refine ok67.acalls hE hm (by simp) fun N hN => ?_
  unfold mc67
  simp only [lA, ptrCells, ptrAdd, isNil, readsV, readsP, isCall, wrote, srcOf, seval]
  repeat' (first
   | (with_reducible apply St.o; constructor) <;> intro _
   | with_reducible first | refine LenR_i fun _ => ?_ | refine And.intro (by omega) ?_ | (apply Sp.o; constructor) | refine mkl_own ?_ | refine frz0_i ?_
   | ((with_reducible apply Sc.o true; constructor); simp only [lP, seval]; refine ⟨_, c76 a b, ?_⟩; rintro _ _ ⟨rfl, rfl⟩; simp only [lA, lP, ptrCells, ptrAdd, isNil, readsV, readsP, isCall, wrote, srcOf, seval])
   | ((with_reducible refine keep0_i ?_); simp only [lP, seval])
   | simp (maxSteps := 1000000) (disch := omega) only [lE, ptrCells, ptrAdd, isNil, readsV, readsP, isCall, wrote, srcOf, seval])
theorem c75 (a : Int) : ACalls E.P 75 [.int .i64 a] [] (fun r H => r = .bool false ∧ H = []) := by
  refine ok75.acalls hE hm (by simp) fun N hN => ?_
  unfold mc75
  simp only [lA, ptrCells, ptrAdd, isNil, readsV, readsP, isCall, wrote, srcOf, seval]
  repeat' (first
   | (with_reducible apply St.o; constructor) <;> intro _
   | with_reducible first | refine LenR_i fun _ => ?_ | refine And.intro (by omega) ?_ | (apply Sp.o; constructor) | refine mkl_own ?_ | refine frz0_i ?_
   | ((with_reducible refine keep0_i ?_); simp only [lP, seval])
   | simp (maxSteps := 1000000) (disch := omega) only [lE, ptrCells, ptrAdd, isNil, readsV, readsP, isCall, wrote, srcOf, seval])
  all_goals simp
theorem c70 (a b : Int) : ACalls E.P 70 [.int .i64 a, .int .i64 b] [] (fun r H => r = .int .i64 (sgn a b) ∧ H = []) := by
  refine ok70.acalls hE hm (by simp) fun N hN => ?_
  unfold mc70
  simp only [lA, ptrCells, ptrAdd, isNil, readsV, readsP, isCall, wrote, srcOf, seval]
  repeat' (first
   | (with_reducible apply St.o; constructor) <;> intro _
   | with_reducible first | refine LenR_i fun _ => ?_ | refine And.intro (by omega) ?_ | (apply Sp.o; constructor) | refine mkl_own ?_ | refine frz0_i ?_
   | ((with_reducible refine keep0_i ?_); simp only [lP, seval])
   | simp (maxSteps := 1000000) (disch := omega) only [lE, ptrCells, ptrAdd, isNil, readsV, readsP, isCall, wrote, srcOf, seval])
  all_goals (simp only [sgn, AV.int.injEq, true_and]; (repeat' split) <;> omega)
theorem c66 (a b : Int) : ACalls E.P 66 [.int .i64 a, .int .i64 b] [] (fun r H => r = .int .i64 (sgn a b) ∧ H = []) := by
  refine ok66.acalls hE hm (by simp) fun N hN => ?_
  unfold mc66
  simp only [lA, ptrCells, ptrAdd, isNil, readsV, readsP, isCall, wrote, srcOf, seval]
  repeat' (first
   | (with_reducible apply St.o; constructor) <;> intro _
   | with_reducible first | refine LenR_i fun _ => ?_ | refine And.intro (by omega) ?_ | (apply Sp.o; constructor) | refine mkl_own ?_ | refine frz0_i ?_
   | ((with_reducible apply Sc.o true; constructor); simp only [lP, seval]; (first | refine ⟨_, c75 a, ?_⟩ | refine ⟨_, c75 b, ?_⟩); rintro _ _ ⟨rfl, rfl⟩; simp only [lA, lP, ptrCells, ptrAdd, isNil, readsV, readsP, isCall, wrote, srcOf, seval])
   | ((with_reducible refine keep0_i ?_); simp only [lP, seval])
   | simp (maxSteps := 1000000) (disch := omega) only [lE, ptrCells, ptrAdd, isNil, readsV, readsP, isCall, wrote, srcOf, seval])
  all_goals (simp only [sgn, AV.int.injEq, true_and]; (repeat' split) <;> omega)

theorem orI_drop {l : List Int} {i : Nat} (h : i < l.length) : orI (l.drop i) = if l.getD i 0 = 0 then orI (l.drop (i + 1)) else l.getD i 0 := by
  rw [List.drop_eq_getElem_cons h]
  simp [orI, h]
theorem c65 (l : List Int) : ACalls E.P 65 [.view 1 (l.map (AV.int .i64))] [] (fun r H => r = .int .i64 (orI l) ∧ H = []) := by
  have hmax := maxLen_eq
  refine ok65.acalls hE hm (by simp) fun N hN => ?_
  unfold mc65
  simp only [lA, ptrCells, ptrAdd, isNil, readsV, readsP, isCall, wrote, srcOf, seval]
  refine LenR_i fun hl => ?_
  rw [List.length_map, hmax] at hl
  simp only [lA, ptrCells, ptrAdd, isNil, readsV, readsP, isCall, wrote, srcOf, seval, List.length_map]
  refine loop_i (fun i : Nat => i ≤ l.length ∧ orI l = orI (l.drop i)) (fun i => ⟨[(3, .int .i64 0), (6, .view 1 (l.map (AV.int .i64))), (7, .int .i64 l.length), (8, .int .i64 i)], []⟩) (fun i => l.length - i) 0 ⟨by omega, by simp⟩ (Ent.to [] false (by simp) (by simp) rfl (by simp only [lP, seval, List.length_map] <;> (try simp) <;> (try omega)) (by simp only [lP, seval, List.length_map] <;> (try simp) <;> (try omega))) ?_
  rintro i ⟨hi, ho⟩
  repeat' (first
   | (with_reducible apply St.o; constructor) <;> intro _
   | with_reducible first | refine LenR_i fun _ => ?_ | refine And.intro (by omega) ?_ | (apply Sp.o; constructor) | refine mkl_own ?_ | refine frz0_i ?_
   | ((with_reducible refine keep0_i ?_); simp only [lP, seval])
   | simp (maxSteps := 1000000) (disch := omega) only [lE, ptrCells, ptrAdd, isNil, readsV, readsP, isCall, wrote, srcOf, seval])
  · rename_i h1 h2
    rw [ho, orI_drop (by omega), if_neg h2]
  · rename_i h1 h2
    exact back_i (i + 1) ⟨by omega, by rw [ho, orI_drop (by omega), if_pos h2]⟩ (by omega) (Ent.to [] false (by simp) (by simp) rfl (by simp only [lP, seval] <;> (try simp) <;> (try omega)) (by simp only [lP, seval] <;> (try simp) <;> (try omega)))
  · rw [ho, List.drop_eq_nil_of_le (by omega)]; rfl

def VL.av (v : VL) : AV := .agg [.int .i64 v.k, .int .i64 v.n, .str v.s]
abbrev VL.cs (v : VL) : List AV := [.int .i64 v.k, .int .i64 v.n, .str v.s]
theorem vl_cells (v : VL) : cellsO v.av = some v.cs := rfl
theorem vl_av (v : VL) : v.av = .agg v.cs := rfl
theorem vw_vl {H : List AObj} {l : List Nat} {n : Nat} (v : VL) : vw H l (n + 1) v.av = v.av := by simp [VL.av, vw_agg, vw_int, vw_str]
theorem pa_vl {H : List AObj} {l : List Nat} {bor : Bool} {n : Nat} (v : VL) : pa H l bor (n + 1) v.av = v.av := by simp [VL.av, pa_agg, pa_int, pa_str]
theorem vw_vls {H : List AObj} {l : List Nat} {n : Nat} {xs : List VL} : (xs.map VL.av).map (vw H l (n + 1)) = xs.map VL.av := map_same vw_vl xs
theorem pa_vls {H : List AObj} {l : List Nat} {bor : Bool} {n : Nat} {xs : List VL} : (xs.map VL.av).map (pa H l bor (n + 1)) = xs.map VL.av := map_same pa_vl xs
theorem IdxR_vls {P : Program} {m : Nat} {N : FN} {xs : List VL} {n : Int} {d : Nat} {c : Kn} (h0 : 0 ≤ n) (h1 : n < xs.length) : IdxR P m N (xs.map VL.av) n d c = rK P m N c d (.vp (xs.getD n.toNat default).cs) :=
  IdxR_map (cs := VL.cs) (fun _ => rfl) h0 h1
theorem c43 (a b : VL) : ACalls E.P 43 [a.av, b.av] [] (fun r H => r = .int .i64 (a.cmp b) ∧ H = []) := by
  obtain ⟨ka, na, sa⟩ := a
  obtain ⟨kb, nb, sb⟩ := b
  have h94 := c65 [sgn ka kb, sgn na nb, Lib.compareBytes sa.data.toList sb.data.toList]
  refine ok43.acalls hE hm (by simp) fun N hN => ?_
  unfold mc43
  simp only [lA, ptrCells, ptrAdd, isNil, readsV, readsP, isCall, wrote, srcOf, seval, VL.av]
  repeat' (first
   | (with_reducible apply St.o; constructor) <;> intro _
   | with_reducible first | refine LenR_i fun _ => ?_ | refine And.intro (by omega) ?_ | (apply Sp.o; constructor) | refine mkl_own ?_ | refine frz0_i ?_
   | ((with_reducible apply Sc.o true; constructor); simp only [lP, seval, VL.cmp]; (first | refine ⟨_, c66 ka kb, ?_⟩ | refine ⟨_, c66 na nb, ?_⟩ | refine ⟨_, c67 sa sb, ?_⟩ | refine ⟨_, h94, ?_⟩); rintro _ _ ⟨rfl, rfl⟩; simp only [lA, lP, ptrCells, ptrAdd, isNil, readsV, readsP, isCall, wrote, srcOf, seval, VL.cmp])
   | ((with_reducible refine keep0_i ?_); simp only [lP, seval])
   | simp (maxSteps := 1000000) (disch := omega) only [lE, ptrCells, ptrAdd, isNil, readsV, readsP, isCall, wrote, srcOf, seval, VL.cmp])
theorem c47 (a b : VL) : ACalls E.P 47 [a.av, b.av] [] (fun r H => r = .int .i64 (a.cmp19 b) ∧ H = []) := by
  obtain ⟨ka, na, sa⟩ := a
  obtain ⟨kb, nb, sb⟩ := b
  refine ok47.acalls hE hm (by simp) fun N hN => ?_
  unfold mc47
  simp only [lA, ptrCells, ptrAdd, isNil, readsV, readsP, isCall, wrote, srcOf, seval, VL.av]
  repeat' (first
   | (with_reducible apply St.o; constructor) <;> intro _
   | with_reducible first | refine LenR_i fun _ => ?_ | refine And.intro (by omega) ?_ | (apply Sp.o; constructor) | refine mkl_own ?_ | refine frz0_i ?_
   | ((with_reducible apply Sc.o true; constructor); simp only [lP, seval, strA]; (first | refine ⟨_, c70 ka kb, ?_⟩ | refine ⟨_, c70 na nb, ?_⟩); rintro _ _ ⟨rfl, rfl⟩; simp only [lA, lP, ptrCells, ptrAdd, isNil, readsV, readsP, isCall, wrote, srcOf, seval, strA])
   | ((with_reducible refine keep0_i ?_); simp only [lP, seval])
   | simp (maxSteps := 1000000) (disch := omega) only [lE, ptrCells, ptrAdd, isNil, readsV, readsP, isCall, wrote, srcOf, seval, strA])
  all_goals (simp only [VL.cmp19]; simp_all)
end Go.Proofs.Try
