/-
  A part of the proof: see the text of the law.
-/
import Derived.Test.YtmmedfdilaijhaaEac
import Derived.Test.YtmmedfdilaijhaaPaa
set_option linter.unusedSimpArgs false
set_option linter.unusedVariables false
namespace Go.Proofs.Try
open Go.Al
set_option maxRecDepth 100000
/-- alum/alumlaw30.few -/
def mc5 : MC :=
 (.seq (.ops [(none, (.v (.mov 2 (.c (.bool false)))))])
 (.seq (.seq (.ops [(none, (.v (.mov 5 (.t 0)))),
 (none, (.p (.len 6 (.t 5)))),
 (none, (.v (.mov 7 (.c (.int .i64 0)))))])
 (.block 0 (.loop (.seq (.ops [(none, (.v (.bin 8 .lss false (.t 7) (.t 6))))])
 (.seq (.cond 8
 .skip
 (.exit 0))
 (.seq (.block 1 (.seq (.ops [(none, (.p (.idx 9 5 (.t 5) (.t 7)))),
 (none, (.v (.load 10 true 5 (.t 9)))),
 (none, (.e (.alloc 4 [(.int .i64 0), (.int .i64 0), (.int .i64 0), (.raw (.slice none 0 0)), (.raw (.slice none 0 0))]))),
 (none, (.e (.store 5 true (.t 4) (.t 10))))])
 (.seq (.ops [(none, (.v (.fld 11 3 (.t 4)))),
 (none, (.v (.load 12 false 1 (.t 11)))),
 (none, (.p (.len 13 (.t 12)))),
 (none, (.v (.bin 14 .gtr false (.t 13) (.c (.int .i64 66))))),
 (none, (.v (.mov 15 (.t 14)))),
 ((some (15, false)), (.v (.fld 16 4 (.t 4)))),
 ((some (15, false)), (.v (.load 17 false 1 (.t 16)))),
 ((some (15, false)), (.p (.len 18 (.t 17)))),
 ((some (15, false)), (.v (.bin 19 .gtr false (.t 18) (.c (.int .i64 60))))),
 (none, (.v (.pick 20 (.t 15) (.c (.bool true)) (.t 19))))])
 (.cond 20
 (.seq (.ops [(none, (.v (.mov 2 (.c (.bool false)))))])
 .ret)
 .skip))))
 (.ops [(none, (.v (.bin 21 .add false (.t 7) (.c (.int .i64 1))))),
 (none, (.v (.mov 7 (.t 21))))])))))))
 (.seq (.ops [(none, (.v (.mov 22 (.t 0)))),
 (none, (.p (.len 23 (.t 22)))),
 (none, (.v (.bin 24 .leq false (.t 23) (.c (.int .i64 410))))),
 (none, (.v (.mov 2 (.t 24))))])
 .ret)))
theorem ok5 : FnOk E 5 25 [.tmp 2] mc5 := .of func5 (by kernel_rfl) (by kernel_rfl) (by kernel_rfl) (by kernel_rfl) (by kernel_rfl)
/-- alum/history.Length -/
def mc9 : MC :=
 (.seq (.ops [(none, (.v (.mov 2 (.c (.int .i64 0)))))])
 (.seq (.ops [(none, (.v (.mov 3 (.c (.int .i64 0)))))])
 (.seq (.seq (.ops [(none, (.v (.mov 6 (.t 0)))),
 (none, (.p (.len 7 (.t 6)))),
 (none, (.v (.mov 8 (.c (.int .i64 0)))))])
 (.block 0 (.loop (.seq (.ops [(none, (.v (.bin 9 .lss false (.t 8) (.t 7))))])
 (.seq (.cond 9
 .skip
 (.exit 0))
 (.seq (.block 1 (.seq (.ops [(none, (.p (.idx 10 5 (.t 6) (.t 8)))),
 (none, (.v (.load 11 true 5 (.t 10)))),
 (none, (.e (.alloc 5 [(.int .i64 0), (.int .i64 0), (.int .i64 0), (.raw (.slice none 0 0)), (.raw (.slice none 0 0))]))),
 (none, (.e (.store 5 true (.t 5) (.t 11))))])
 (.seq (.ops [(none, (.v (.fld 12 0 (.t 5)))),
 (none, (.v (.load 13 false 1 (.t 12)))),
 (none, (.v (.bin 14 .eql false (.t 13) (.c (.int .i64 2))))),
 (none, (.v (.mov 15 (.t 14)))),
 ((some (15, false)), (.v (.fld 16 0 (.t 5)))),
 ((some (15, false)), (.v (.load 17 false 1 (.t 16)))),
 ((some (15, false)), (.v (.bin 18 .eql false (.t 17) (.c (.int .i64 5))))),
 (none, (.v (.pick 19 (.t 15) (.c (.bool true)) (.t 18))))])
 (.cond 19
 (.ops [(none, (.v (.mov 20 (.t 3)))),
 (none, (.v (.fld 21 2 (.t 5)))),
 (none, (.v (.load 22 false 1 (.t 21)))),
 (none, (.v (.max 23 [(.t 20), (.t 22)]))),
 (none, (.v (.mov 3 (.t 23))))])
 .skip))))
 (.ops [(none, (.v (.bin 24 .add false (.t 8) (.c (.int .i64 1))))),
 (none, (.v (.mov 8 (.t 24))))])))))))
 (.seq (.ops [(none, (.v (.mov 25 (.t 3)))),
 (none, (.v (.mov 2 (.t 25))))])
 .ret))))
theorem ok9 : FnOk E 9 26 [.tmp 2] mc9 := .of func9 (by kernel_rfl) (by kernel_rfl) (by kernel_rfl) (by kernel_rfl) (by kernel_rfl)
/-- alum/history.compare -/
def mc31 : MC :=
 (.seq (.ops [(none, (.e (.box 2 (.t 0)))),
 (none, (.e (.box 3 (.t 1)))),
 (none, (.v (.mov 4 (.c (.int .i64 0)))))])
 (.seq (.any false (.pure0 none (.v (.fld 5 0 (.t 2)))
 (.pure0 none (.v (.load 6 false 1 (.t 5)))
 (.pure0 none (.v (.fld 7 0 (.t 3)))
 (.pure0 none (.v (.load 8 false 1 (.t 7)))
 (.pure0 none (.v (.fld 10 1 (.t 2)))
 (.pure0 none (.v (.load 11 false 1 (.t 10)))
 (.pure0 none (.v (.fld 12 1 (.t 3)))
 (.pure0 none (.v (.load 13 false 1 (.t 12)))
 (.alt none (.e (.call (some 9) 58 [(.t 6), (.t 8)]))
 (.base (.alt none (.e (.call (some 14) 58 [(.t 11), (.t 13)]))
 (.base (.alt none (.e (.mkl 15 3 1 2 (.int .i64 0) [(0, (.t 9)), (1, (.t 14))]))
 (.base (.alt none (.e (.call (some 16) 57 [(.t 15)]))
 (.base (.pure0 none (.v (.mov 4 (.t 16)))
 .done))
 .stop))
 .stop))
 .stop))
 .stop))))))))))
 .ret))
theorem ok31 : FnOk E 31 17 [.tmp 4] mc31 := .of func31 (by kernel_rfl) (by kernel_rfl) (by kernel_rfl) (by kernel_rfl) (by kernel_rfl)
/-- cmp.Or[int] -/
def mc57 : MC :=
 (.seq (.ops [(none, (.v (.mov 2 (.c (.int .i64 0)))))])
 (.seq (.ops [(none, (.v (.mov 3 (.c (.int .i64 0)))))])
 (.seq (.seq (.ops [(none, (.v (.mov 6 (.t 0)))),
 (none, (.p (.len 7 (.t 6)))),
 (none, (.v (.mov 8 (.c (.int .i64 0)))))])
 (.block 0 (.loop (.seq (.ops [(none, (.v (.bin 9 .lss false (.t 8) (.t 7))))])
 (.seq (.cond 9
 .skip
 (.exit 0))
 (.seq (.block 1 (.seq (.ops [(none, (.p (.idx 10 1 (.t 6) (.t 8)))),
 (none, (.v (.load 11 false 1 (.t 10)))),
 (none, (.v (.mov 5 (.t 11))))])
 (.seq (.ops [(none, (.v (.mov 12 (.t 5)))),
 (none, (.v (.mov 13 (.t 3)))),
 (none, (.v (.bin 14 .neq false (.t 12) (.t 13))))])
 (.cond 14
 (.seq (.ops [(none, (.v (.mov 15 (.t 5)))),
 (none, (.v (.mov 2 (.t 15))))])
 .ret)
 .skip))))
 (.ops [(none, (.v (.bin 16 .add false (.t 8) (.c (.int .i64 1))))),
 (none, (.v (.mov 8 (.t 16))))])))))))
 (.seq (.ops [(none, (.v (.mov 17 (.t 3)))),
 (none, (.v (.mov 2 (.t 17))))])
 .ret))))
theorem ok57 : FnOk E 57 18 [.tmp 2] mc57 := .of func57 (by kernel_rfl) (by kernel_rfl) (by kernel_rfl) (by kernel_rfl) (by kernel_rfl)
/-- cmp.Compare[int] -/
def mc58 : MC :=
 (.seq (.ops [(none, (.v (.mov 4 (.c (.int .i64 0)))))])
 (.seq (.ops [(none, (.v (.mov 7 (.t 0)))),
 (none, (.e (.call (some 8) 68 [(.t 7)]))),
 (none, (.v (.mov 5 (.t 8))))])
 (.seq (.ops [(none, (.v (.mov 9 (.t 1)))),
 (none, (.e (.call (some 10) 68 [(.t 9)]))),
 (none, (.v (.mov 6 (.t 10))))])
 (.seq (.seq (.ops [(none, (.v (.mov 11 (.t 5))))])
 (.cond 11
 (.seq (.seq (.ops [(none, (.v (.mov 12 (.t 6))))])
 (.cond 12
 (.seq (.ops [(none, (.v (.mov 4 (.c (.int .i64 0)))))])
 .ret)
 .skip))
 (.seq (.ops [(none, (.v (.mov 4 (.c (.int .i64 (-1))))))])
 .ret))
 .skip))
 (.seq (.seq (.ops [(none, (.v (.mov 13 (.t 6))))])
 (.cond 13
 (.seq (.ops [(none, (.v (.mov 4 (.c (.int .i64 1)))))])
 .ret)
 .skip))
 (.seq (.seq (.ops [(none, (.v (.mov 14 (.t 0)))),
 (none, (.v (.mov 15 (.t 1)))),
 (none, (.v (.bin 16 .lss false (.t 14) (.t 15))))])
 (.cond 16
 (.seq (.ops [(none, (.v (.mov 4 (.c (.int .i64 (-1))))))])
 .ret)
 .skip))
 (.seq (.seq (.ops [(none, (.v (.mov 17 (.t 0)))),
 (none, (.v (.mov 18 (.t 1)))),
 (none, (.v (.bin 19 .gtr false (.t 17) (.t 18))))])
 (.cond 19
 (.seq (.ops [(none, (.v (.mov 4 (.c (.int .i64 1)))))])
 .ret)
 .skip))
 (.seq (.ops [(none, (.v (.mov 4 (.c (.int .i64 0)))))])
 .ret))))))))
theorem ok58 : FnOk E 58 20 [.tmp 4] mc58 := .of func58 (by kernel_rfl) (by kernel_rfl) (by kernel_rfl) (by kernel_rfl) (by kernel_rfl)
/-- cmp.isNaN[int] -/
def mc68 : MC :=
 (.seq (.ops [(none, (.v (.mov 2 (.c (.bool false)))))])
 (.seq (.ops [(none, (.v (.mov 3 (.t 0)))),
 (none, (.v (.mov 4 (.t 0)))),
 (none, (.v (.bin 5 .neq false (.t 3) (.t 4)))),
 (none, (.v (.mov 2 (.t 5))))])
 .ret))
theorem ok68 : FnOk E 68 6 [.tmp 2] mc68 := .of func68 (by kernel_rfl) (by kernel_rfl) (by kernel_rfl) (by kernel_rfl) (by kernel_rfl)
end Go.Proofs.Try
namespace Go.Proofs.Try
open Go.Al
set_option linter.unusedVariables false
set_option linter.unusedSimpArgs false
set_option maxRecDepth 20000
set_option maxHeartbeats 8000000

theorem vl_eq (x y : VL) : (decide (x.k = y.k) && (decide (x.n = y.n) && (decide (x.s = y.s) && true))) = decide (x = y) := by
  obtain ⟨a, b, c⟩ := x
  obtain ⟨d, e, f⟩ := y
  simp only [Bool.and_true, VL.mk.injEq, Bool.decide_and]
theorem IdxR_int {P : Program} {m : Nat} {N : FN} {xs : List Int} {n : Int} {d : Nat} {c : Kn} (h0 : 0 ≤ n) (h1 : n < xs.length) : IdxR P m N (xs.map (AV.int .i64)) n d c = rK P m N c d (.vp [.int .i64 (xs.getD n.toNat default)]) :=
  IdxR_map (cs := fun r => [.int .i64 r]) (fun _ => rfl) h0 h1
theorem c5 (h : List Hap) : ACalls E.P 5 [.view 5 (h.map Hap.av)] [] (fun r H => r = .bool (fewB h) ∧ H = []) := by
  have hmax := maxLen_eq
  refine ok5.acalls hE hm (by simp) fun N hN => ?_
  unfold mc5
  simp only [lA, ptrCells, ptrAdd, isNil, readsV, readsP, isCall, wrote, srcOf, seval]
  refine LenR_i fun hl => ?_
  rw [List.length_map, hmax] at hl
  simp only [lA, ptrCells, ptrAdd, isNil, readsV, readsP, isCall, wrote, srcOf, seval, List.length_map]
  refine loop_i (fun i : Nat => i ≤ h.length ∧ ∀ x ∈ h.take i, x.ws.length ≤ 66 ∧ x.rs.length ≤ 60) (fun i => ⟨[(0, .view 5 (h.map Hap.av)), (5, .view 5 (h.map Hap.av)), (6, .int .i64 h.length), (7, .int .i64 i)], []⟩) (fun i => h.length - i) 0 ⟨by omega, by simp⟩ (Ent.to [] false (by simp) (by simp) rfl (by simp only [lP, seval] <;> (try simp) <;> (try omega)) (by simp only [lP, seval] <;> (try simp) <;> (try omega))) ?_
  rintro i ⟨hi, hn⟩
  by_cases hil : i < h.length
  · have hbad : ¬ ((h.getD i default).ws.length ≤ 66 ∧ (h.getD i default).rs.length ≤ 60) → fewB h = false := fun hb => by
      unfold fewB
      rw [decide_eq_false, Bool.false_and]
      exact fun q => hb (q _ (getD_mem hil))
    have hgood : ((h.getD i default).ws.length ≤ 66 ∧ (h.getD i default).rs.length ≤ 60) → ∀ x ∈ h.take (i + 1), x.ws.length ≤ 66 ∧ x.rs.length ≤ 60 := fun q => all_step hil hn q
    generalize hx : h.getD i default = x at *
    repeat' (first
     | (with_reducible apply St.o; constructor) <;> intro _
     | with_reducible first | refine LenR_i fun _ => ?_ | refine And.intro (by omega) ?_ | (apply Sp.o; constructor) | refine mkl_own ?_ | refine frz0_i ?_
     | simp (maxSteps := 1000000) (disch := omega) only [lE, ptrCells, ptrAdd, isNil, readsV, readsP, isCall, wrote, srcOf, seval, IdxR_haps, hx, Int.toNat_natCast, List.length_map, fillE, List.length_cons, List.length_nil])
    all_goals first
      | (exfalso; omega)
      | (refine keep_b (hbad ?_).symm; omega)
      | (refine back_i (i + 1) ⟨by omega, hgood ?_⟩ (by omega) (Ent.to [] false (by simp) (by simp) rfl (by simp only [lP, seval] <;> (try simp) <;> (try omega)) (by simp only [lP, seval] <;> (try simp) <;> (try omega))); omega)
  · have hie : i = h.length := by omega
    subst hie
    rw [List.take_length] at hn
    repeat' (first
     | (with_reducible apply St.o; constructor) <;> intro _
     | with_reducible first | refine LenR_i fun _ => ?_ | refine And.intro (by omega) ?_ | (apply Sp.o; constructor) | refine mkl_own ?_ | refine frz0_i ?_
     | simp (maxSteps := 1000000) (disch := omega) only [lE, ptrCells, ptrAdd, isNil, readsV, readsP, isCall, wrote, srcOf, seval, List.length_map, Int.lt_irrefl, decide_false])
    refine keep_b ?_
    unfold fewB
    rw [decide_eq_true hn, Bool.true_and, decide_eq_decide]
    omega
theorem c9 (h : List Hap) : ACalls E.P 9 [.view 5 (h.map Hap.av)] [] (fun r H => r = .int .i64 (lenH h) ∧ H = []) := by
  have hmax := maxLen_eq
  refine ok9.acalls hE hm (by simp) fun N hN => ?_
  unfold mc9
  simp only [lA, ptrCells, ptrAdd, isNil, readsV, readsP, isCall, wrote, srcOf, seval]
  refine LenR_i fun hl => ?_
  rw [List.length_map, hmax] at hl
  simp only [lA, ptrCells, ptrAdd, isNil, readsV, readsP, isCall, wrote, srcOf, seval, List.length_map]
  refine loop_i (fun i : Nat => i ≤ h.length) (fun i => ⟨[(3, .int .i64 (lenH (h.take i))), (6, .view 5 (h.map Hap.av)), (7, .int .i64 h.length), (8, .int .i64 i)], []⟩) (fun i => h.length - i) 0 (by omega) (Ent.to [] false (by simp) (by simp) rfl (by simp only [lP, seval, List.take_zero, lenH, List.foldl_nil] <;> (try simp) <;> (try omega)) (by simp only [lP, seval, List.take_zero, lenH, List.foldl_nil] <;> (try simp) <;> (try omega))) ?_
  rintro i hi
  by_cases hil : i < h.length
  · have hnx := lenH_next hil
    generalize lenH (h.take i) = n at *
    generalize hx : h.getD i default = x at *
    have hm : max n x.st = if x.st > n then x.st else n := by split <;> omega
    rw [hm] at hnx
    repeat' (first
     | (with_reducible apply St.o; constructor) <;> intro _
     | with_reducible first | refine LenR_i fun _ => ?_ | refine And.intro (by omega) ?_ | (apply Sp.o; constructor) | refine mkl_own ?_ | refine frz0_i ?_
     | simp (maxSteps := 1000000) (disch := omega) only [lE, ptrCells, ptrAdd, isNil, readsV, readsP, isCall, wrote, srcOf, seval, IdxR_haps, hx, Int.toNat_natCast, List.length_map, fillE, List.length_cons, List.length_nil])
    all_goals try (exfalso; omega)
    all_goals first
      | (rw [if_pos (by omega)] at hnx; exact back_i (i + 1) (by omega) (by omega) (Ent.to [] false (by simp) (by simp) rfl (by simp only [lP, seval, hnx] <;> (try simp) <;> (try omega)) (by simp only [lP, seval, hnx] <;> (try simp) <;> (try omega))))
      | (rw [if_neg (by omega)] at hnx; exact back_i (i + 1) (by omega) (by omega) (Ent.to [] false (by simp) (by simp) rfl (by simp only [lP, seval, hnx] <;> (try simp) <;> (try omega)) (by simp only [lP, seval, hnx] <;> (try simp) <;> (try omega))))
  · have hie : i = h.length := by omega
    subst hie
    rw [List.take_length]
    repeat' (first
     | (with_reducible apply St.o; constructor) <;> intro _
     | with_reducible first | refine LenR_i fun _ => ?_ | refine And.intro (by omega) ?_ | (apply Sp.o; constructor) | refine mkl_own ?_ | refine frz0_i ?_
     | simp (maxSteps := 1000000) (disch := omega) only [lE, ptrCells, ptrAdd, isNil, readsV, readsP, isCall, wrote, srcOf, seval, List.length_map, Int.lt_irrefl, decide_false])
    exact keep_n rfl
theorem c68 (a : Int) : ACalls E.P 68 [.int .i64 a] [] (fun r H => r = .bool false ∧ H = []) := by
  refine ok68.acalls hE hm (by simp) fun N hN => ?_
  unfold mc68
  simp only [lA, ptrCells, ptrAdd, isNil, readsV, readsP, isCall, wrote, srcOf, seval]
  repeat' (first
   | (with_reducible apply St.o; constructor) <;> intro _
   | with_reducible first | refine LenR_i fun _ => ?_ | refine And.intro (by omega) ?_ | (apply Sp.o; constructor) | refine mkl_own ?_ | refine frz0_i ?_
   | ((with_reducible refine keep0_i ?_); simp only [lP, seval])
   | simp (maxSteps := 1000000) (disch := omega) only [lE, ptrCells, ptrAdd, isNil, readsV, readsP, isCall, wrote, srcOf, seval])
  all_goals simp
theorem c58 (a b : Int) : ACalls E.P 58 [.int .i64 a, .int .i64 b] [] (fun r H => r = .int .i64 (sgn a b) ∧ H = []) := by
  refine ok58.acalls hE hm (by simp) fun N hN => ?_
  unfold mc58
  simp only [lA, ptrCells, ptrAdd, isNil, readsV, readsP, isCall, wrote, srcOf, seval]
  repeat' (first
   | (with_reducible apply St.o; constructor) <;> intro _
   | with_reducible first | refine LenR_i fun _ => ?_ | refine And.intro (by omega) ?_ | (apply Sp.o; constructor) | refine mkl_own ?_ | refine frz0_i ?_
   | ((with_reducible apply Sc.o true; constructor); simp only [lP, seval]; (first | refine ⟨_, c68 a, ?_⟩ | refine ⟨_, c68 b, ?_⟩); rintro _ _ ⟨rfl, rfl⟩; simp only [lA, lP, ptrCells, ptrAdd, isNil, readsV, readsP, isCall, wrote, srcOf, seval])
   | ((with_reducible refine keep0_i ?_); simp only [lP, seval])
   | simp (maxSteps := 1000000) (disch := omega) only [lE, ptrCells, ptrAdd, isNil, readsV, readsP, isCall, wrote, srcOf, seval])
  all_goals (simp only [sgn, AV.int.injEq, true_and]; (repeat' split) <;> omega)
theorem c57 (l : List Int) : ACalls E.P 57 [.view 1 (l.map (AV.int .i64))] [] (fun r H => r = .int .i64 (orI l) ∧ H = []) := by
  have hmax := maxLen_eq
  refine ok57.acalls hE hm (by simp) fun N hN => ?_
  unfold mc57
  simp only [lA, ptrCells, ptrAdd, isNil, readsV, readsP, isCall, wrote, srcOf, seval]
  refine LenR_i fun hl => ?_
  rw [List.length_map, hmax] at hl
  simp only [lA, ptrCells, ptrAdd, isNil, readsV, readsP, isCall, wrote, srcOf, seval, List.length_map]
  refine loop_i (fun i : Nat => i ≤ l.length ∧ orI l = orI (l.drop i)) (fun i => ⟨[(3, .int .i64 0), (6, .view 1 (l.map (AV.int .i64))), (7, .int .i64 l.length), (8, .int .i64 i)], []⟩) (fun i => l.length - i) 0 ⟨by omega, by simp⟩ (Ent.to [] false (by simp) (by simp) rfl (by simp only [lP, seval] <;> (try simp) <;> (try omega)) (by simp only [lP, seval] <;> (try simp) <;> (try omega))) ?_
  rintro i ⟨hi, ho⟩
  by_cases hil : i < l.length
  · have hd := orI_drop hil
    rw [← ho] at hd
    generalize hx : l.getD i default = x at *
    have hx0 : l.getD i 0 = x := hx
    repeat' (first
     | (with_reducible apply St.o; constructor) <;> intro _
     | with_reducible first | refine LenR_i fun _ => ?_ | refine And.intro (by omega) ?_ | (apply Sp.o; constructor) | refine mkl_own ?_ | refine frz0_i ?_
     | simp (maxSteps := 1000000) (disch := omega) only [lE, ptrCells, ptrAdd, isNil, readsV, readsP, isCall, wrote, srcOf, seval, IdxR_int, hx, hx0, Int.toNat_natCast, List.length_map])
    all_goals try (exfalso; omega)
    · rename_i h1
      rw [if_neg h1] at hd
      exact keep_n hd.symm
    · rename_i h1
      rw [if_pos h1] at hd
      exact back_i (i + 1) ⟨by omega, hd⟩ (by omega) (Ent.to [] false (by simp) (by simp) rfl (by simp only [lP, seval] <;> (try simp) <;> (try omega)) (by simp only [lP, seval] <;> (try simp) <;> (try omega)))
  · have hie : i = l.length := by omega
    subst hie
    repeat' (first
     | (with_reducible apply St.o; constructor) <;> intro _
     | with_reducible first | refine LenR_i fun _ => ?_ | refine And.intro (by omega) ?_ | (apply Sp.o; constructor) | refine mkl_own ?_ | refine frz0_i ?_
     | simp (maxSteps := 1000000) (disch := omega) only [lE, ptrCells, ptrAdd, isNil, readsV, readsP, isCall, wrote, srcOf, seval, List.length_map, Int.lt_irrefl, decide_false])
    exact keep_n (by rw [ho, List.drop_eq_nil_of_le (by omega)]; rfl)
theorem c31 (a b : Hd) : ACalls E.P 31 [a.av, b.av] [] (fun r H => r = .int .i64 (a.cmp b) ∧ H = []) := by
  have h1 := c58 a.t b.t
  have h2 := c58 a.r b.r
  have h3 := c57 [sgn a.t b.t, sgn a.r b.r]
  simp only [List.map_cons, List.map_nil] at h3
  refine ok31.acalls hE hm (by simp) fun N hN => ?_
  unfold mc31
  simp only [lA, ptrCells, ptrAdd, isNil, readsV, readsP, isCall, wrote, srcOf, seval, hd_av]
  repeat' (first
   | (with_reducible apply St.o; constructor) <;> intro _
   | ((with_reducible refine mkl_view ?_ ?_ ?_); (focus decide); (focus rfl))
   | with_reducible first | refine LenR_i fun _ => ?_ | refine And.intro (by omega) ?_ | (apply Sp.o; constructor) | refine mkl_own ?_ | refine frz0_i ?_ | refine any_i [] ?_
   | ((with_reducible apply Sc.o true; constructor); simp only [lP, seval, fillE, setAll]; (first | refine ⟨_, h1, ?_⟩ | refine ⟨_, h2, ?_⟩ | refine ⟨_, h3, ?_⟩); rintro _ _ ⟨rfl, rfl⟩; simp only [lA, lP, ptrCells, ptrAdd, isNil, readsV, readsP, isCall, wrote, srcOf, seval, fillE, setAll])
   | simp (maxSteps := 1000000) (disch := omega) only [lE, ptrCells, ptrAdd, isNil, readsV, readsP, isCall, wrote, srcOf, seval, fillE, setAll])
  all_goals exact keep_n rfl
end Go.Proofs.Try
