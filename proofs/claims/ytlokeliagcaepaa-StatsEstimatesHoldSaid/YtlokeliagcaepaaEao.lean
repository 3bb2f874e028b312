/-
  A part of the proof: see the text of the law.
-/
import Derived.Test.YtlokeliagcaepaaEan
set_option linter.unusedSimpArgs false
set_option linter.unusedVariables false
namespace Go.Proofs.Try
open Go.Al
set_option maxRecDepth 100000
/-- alum/stats.Join -/
def mc24 : MC :=
 (.seq (.ops [(none, (.e (.box 2 (.t 0)))),
 (none, (.e (.box 3 (.t 1)))),
 (none, (.v (.mov 4 (.c (.int .i64 0))))),
 (none, (.v (.mov 5 (.c (.int .i64 0)))))])
 (.seq (.seq (.ops [(none, (.v (.fld 10 2 (.t 2)))),
 (none, (.v (.load 11 false 1 (.t 10)))),
 (none, (.p (.len 12 (.t 11)))),
 (none, (.v (.mov 13 (.c (.int .i64 0)))))])
 (.block 0 (.loop (.seq (.ops [(none, (.v (.bin 14 .lss false (.t 13) (.t 12))))])
 (.seq (.cond 14
 .skip
 (.exit 0))
 (.seq (.block 1 (.seq (.ops [(none, (.p (.idx 15 9 (.t 11) (.t 13)))),
 (none, (.v (.load 16 true 9 (.t 15)))),
 (none, (.e (.alloc 7 [(.int .i64 0), (.int .i64 0), (.str ⟨#[]⟩), (.int .i64 0), (.int .i64 0), (.str ⟨#[]⟩), (.int .i64 0), (.int .i64 0), (.int .i64 0)]))),
 (none, (.e (.store 9 true (.t 7) (.t 16))))])
 (.seq (.ops [(none, (.v (.fld 17 2 (.t 3)))),
 (none, (.v (.load 18 false 1 (.t 17)))),
 (none, (.p (.len 19 (.t 18)))),
 (none, (.v (.mov 20 (.c (.int .i64 0)))))])
 (.block 2 (.loop (.seq (.ops [(none, (.v (.bin 21 .lss false (.t 20) (.t 19))))])
 (.seq (.cond 21
 .skip
 (.exit 2))
 (.seq (.block 3 (.seq (.ops [(none, (.p (.idx 22 9 (.t 18) (.t 20)))),
 (none, (.v (.load 23 true 9 (.t 22)))),
 (none, (.e (.alloc 9 [(.int .i64 0), (.int .i64 0), (.str ⟨#[]⟩), (.int .i64 0), (.int .i64 0), (.str ⟨#[]⟩), (.int .i64 0), (.int .i64 0), (.int .i64 0)]))),
 (none, (.e (.store 9 true (.t 9) (.t 23))))])
 (.seq (.seq (.ops [(none, (.v (.fld 24 0 (.t 7)))),
 (none, (.v (.fld 25 0 (.t 24)))),
 (none, (.v (.load 26 false 1 (.t 25)))),
 (none, (.v (.fld 27 0 (.t 9)))),
 (none, (.v (.fld 28 0 (.t 27)))),
 (none, (.v (.load 29 false 1 (.t 28)))),
 (none, (.v (.bin 30 .neq false (.t 26) (.t 29)))),
 (none, (.v (.mov 31 (.t 30)))),
 ((some (31, false)), (.v (.load 32 true 9 (.t 7)))),
 ((some (31, false)), (.v (.load 33 true 9 (.t 9)))),
 ((some (31, false)), (.e (.call (some 34) 51 [(.t 32), (.t 33)]))),
 ((some (31, false)), (.v (.not 35 (.t 34)))),
 (none, (.v (.pick 36 (.t 31) (.c (.bool true)) (.t 35))))])
 (.cond 36
 (.exit 3)
 .skip))
 (.seq (.ops [(none, (.v (.mov 37 (.t 5)))),
 (none, (.v (.fld 38 6 (.t 7)))),
 (none, (.v (.load 39 false 1 (.t 38)))),
 (none, (.v (.fld 40 6 (.t 9)))),
 (none, (.v (.load 41 false 1 (.t 40)))),
 (none, (.v (.fld 42 7 (.t 9)))),
 (none, (.v (.load 43 false 1 (.t 42)))),
 (none, (.v (.bin 44 .sub false (.t 41) (.t 43)))),
 (none, (.v (.bin 45 .add false (.t 44) (.c (.int .i64 1))))),
 (none, (.v (.bin 46 .mul false (.t 39) (.t 45)))),
 (none, (.v (.fld 47 6 (.t 9)))),
 (none, (.v (.load 48 false 1 (.t 47)))),
 (none, (.v (.fld 49 6 (.t 7)))),
 (none, (.v (.load 50 false 1 (.t 49)))),
 (none, (.v (.fld 51 7 (.t 7)))),
 (none, (.v (.load 52 false 1 (.t 51)))),
 (none, (.v (.bin 53 .sub false (.t 50) (.t 52)))),
 (none, (.v (.bin 54 .add false (.t 53) (.c (.int .i64 1))))),
 (none, (.v (.bin 55 .mul false (.t 48) (.t 54)))),
 (none, (.v (.min 56 [(.t 46), (.t 55)]))),
 (none, (.v (.bin 57 .add false (.t 37) (.t 56)))),
 (none, (.v (.mov 5 (.t 57))))])
 (.block 4 (.seq (.ops [(none, (.v (.load 72 true 9 (.t 7)))),
 (none, (.e (.call (some 73) 49 [(.t 72)]))),
 (none, (.v (.mov 74 (.t 73)))),
 ((some (74, true)), (.v (.load 75 true 9 (.t 9)))),
 ((some (74, true)), (.e (.call (some 76) 49 [(.t 75)]))),
 (none, (.v (.pick 77 (.t 74) (.t 76) (.c (.bool false))))),
 (none, (.v (.mov 71 (.t 77))))])
 (.cond 71
 (.ops [(none, (.v (.mov 78 (.t 4)))),
 (none, (.v (.fld 79 6 (.t 7)))),
 (none, (.v (.load 80 false 1 (.t 79)))),
 (none, (.v (.fld 81 6 (.t 9)))),
 (none, (.v (.load 82 false 1 (.t 81)))),
 (none, (.v (.bin 83 .mul false (.t 80) (.t 82)))),
 (none, (.v (.bin 84 .add false (.t 78) (.t 83)))),
 (none, (.v (.mov 4 (.t 84))))])
 (.seq (.ops [(none, (.v (.load 86 true 9 (.t 7)))),
 (none, (.e (.call (some 87) 49 [(.t 86)]))),
 (none, (.v (.mov 85 (.t 87))))])
 (.cond 85
 (.any false (.pure0 none (.v (.mov 88 (.t 4)))
 (.pure0 none (.v (.fld 89 6 (.t 7)))
 (.pure0 none (.v (.load 90 false 1 (.t 89)))
 (.pure0 none (.v (.load 91 true 9 (.t 9)))
 (.pure0 none (.v (.fld 92 0 (.t 7)))
 (.pure0 none (.v (.load 93 true 3 (.t 92)))
 (.alt none (.e (.call (some 94) 55 [(.t 91), (.t 93)]))
 (.base (.alt none (.e (.call (some 95) 54 [(.t 94)]))
 (.base (.pure0 none (.v (.bin 96 .mul false (.t 90) (.t 95)))
 (.pure0 none (.v (.bin 97 .add false (.t 88) (.t 96)))
 (.pure0 none (.v (.mov 4 (.t 97)))
 .done))))
 .stop))
 .stop))))))))
 (.seq (.ops [(none, (.v (.load 99 true 9 (.t 9)))),
 (none, (.e (.call (some 100) 49 [(.t 99)]))),
 (none, (.v (.mov 98 (.t 100))))])
 (.cond 98
 (.any false (.pure0 none (.v (.mov 101 (.t 4)))
 (.pure0 none (.v (.fld 102 6 (.t 9)))
 (.pure0 none (.v (.load 103 false 1 (.t 102)))
 (.pure0 none (.v (.load 104 true 9 (.t 7)))
 (.pure0 none (.v (.fld 105 0 (.t 9)))
 (.pure0 none (.v (.load 106 true 3 (.t 105)))
 (.alt none (.e (.call (some 107) 55 [(.t 104), (.t 106)]))
 (.base (.alt none (.e (.call (some 108) 54 [(.t 107)]))
 (.base (.pure0 none (.v (.bin 109 .mul false (.t 103) (.t 108)))
 (.pure0 none (.v (.bin 110 .add false (.t 101) (.t 109)))
 (.pure0 none (.v (.mov 4 (.t 110)))
 .done))))
 .stop))
 .stop))))))))
 (.any false (.pure0 none (.v (.mov 58 (.t 4)))
 (.pure0 none (.v (.load 59 true 9 (.t 9)))
 (.pure0 none (.v (.fld 60 0 (.t 7)))
 (.pure0 none (.v (.load 61 true 3 (.t 60)))
 (.pure0 none (.v (.load 64 true 9 (.t 9)))
 (.pure0 none (.v (.fld 65 3 (.t 7)))
 (.pure0 none (.v (.load 66 true 3 (.t 65)))
 (.alt none (.e (.call (some 62) 55 [(.t 59), (.t 61)]))
 (.base (.alt none (.e (.call (some 63) 54 [(.t 62)]))
 (.base (.alt none (.e (.call (some 67) 55 [(.t 64), (.t 66)]))
 (.base (.alt none (.e (.call (some 68) 54 [(.t 67)]))
 (.base (.pure0 none (.v (.bin 69 .add false (.t 63) (.t 68)))
 (.pure0 none (.v (.bin 70 .add false (.t 58) (.t 69)))
 (.pure0 none (.v (.mov 4 (.t 70)))
 .done))))
 .stop))
 .stop))
 .stop))
 .stop))))))))))))))))))))
 (.ops [(none, (.v (.bin 111 .add false (.t 20) (.c (.int .i64 1))))),
 (none, (.v (.mov 20 (.t 111))))])))))))))
 (.ops [(none, (.v (.bin 112 .add false (.t 13) (.c (.int .i64 1))))),
 (none, (.v (.mov 13 (.t 112))))])))))))
 (.seq (.ops [(none, (.v (.mov 113 (.t 4)))),
 (none, (.v (.mov 114 (.t 5)))),
 (none, (.v (.mov 4 (.t 113)))),
 (none, (.v (.mov 5 (.t 114))))])
 .ret)))
theorem ok24 : FnOk E 24 115 [.tmp 4, .tmp 5] mc24 := .of func24 (by kernel_rfl) (by kernel_rfl) (by kernel_rfl) (by kernel_rfl) (by kernel_rfl)
end Go.Proofs.Try
namespace Go.Proofs.Try
open Go.Al
set_option linter.unusedVariables false
set_option linter.unusedSimpArgs false
set_option maxRecDepth 20000
set_option maxHeartbeats 8000000

theorem c24 (a b : Hist) (ha : ∀ x ∈ a.bars, x.small) (hb : ∀ y ∈ b.bars, y.small) (ha40 : a.bars.length ≤ 64) (hb40 : b.bars.length ≤ 64) :
    ACalls E.P 24 [a.av, b.av] [] (fun r H => r = .tup [.int .i64 (joinAll joinC a.bars b.bars).1, .int .i64 (joinAll joinC a.bars b.bars).2] ∧ H = []) := by
  have hmax := maxLen_eq
  obtain ⟨ar, an, k⟩ := a
  obtain ⟨br, bn, l⟩ := b
  simp only at ha hb ha40 hb40
  have hle : ∀ x ∈ k, ∀ y ∈ l, inM (joinC x y) := fun x hx y hy => joinC_le (ha x hx) (hb y hy)
  refine ok24.acalls hE hm (by simp) fun N hN => ?_
  unfold mc24
  simp only [lA, ptrCells, ptrAdd, isNil, readsV, readsP, isCall, wrote, srcOf, seval, hist_av]
  repeat' (first
   | (with_reducible apply St.o; constructor) <;> intro _
   | with_reducible first | refine LenR_i fun _ => ?_ | refine And.intro (by omega) ?_ | (apply Sp.o; constructor) | refine mkl_own ?_ | refine frz0_i ?_
   | ((with_reducible refine keep0_i ?_); simp only [lP, seval])
   | simp (maxSteps := 1000000) (disch := omega) only [lE, ptrCells, ptrAdd, isNil, readsV, readsP, isCall, wrote, srcOf, seval, List.length_map])
  refine loop_i (fun i : Nat => i ≤ k.length) (fun i => ⟨[(2, .op 0 0), (3, .op 1 0), (4, .int .i64 (joinAll joinC (k.take i) l).1), (5, .int .i64 (joinAll joinC (k.take i) l).2), (11, .view 9 (k.map Bar.av)), (12, .int .i64 k.length), (13, .int .i64 i)], [.box (Hist.mk ar an k).cs, .box (Hist.mk br bn l).cs]⟩) (fun i => k.length - i) 0 (by omega) (Ent.to [0, 1] false (by simp) (by simp) rfl (by simp only [lP, seval, List.length_map, List.take_zero, joinAll, List.foldl_nil] <;> (try simp) <;> (try omega)) (by simp only [lP, seval, List.length_map, List.take_zero, joinAll, List.foldl_nil] <;> (try simp) <;> (try omega))) ?_
  intro i hi
  by_cases hik : i < k.length
  · have hA := joinAll_le hle hb40 i hi
    have hnx := joinAll_next (f := joinC) (l := l) hik
    have hxs := ha _ (getD_mem hik)
    have hxl := hle _ (getD_mem hik)
    generalize joinAll joinC (k.take i) l = p at *
    repeat' (first
     | (with_reducible apply St.o; constructor) <;> intro _
     | with_reducible first | refine LenR_i fun _ => ?_ | refine And.intro (by omega) ?_ | (apply Sp.o; constructor) | refine mkl_own ?_ | refine frz0_i ?_
     | ((with_reducible refine keep0_i ?_); simp only [lP, seval])
     | simp (maxSteps := 1000000) (disch := omega) only [lE, ptrCells, ptrAdd, isNil, readsV, readsP, isCall, wrote, srcOf, seval, IdxR_bars, Int.toNat_natCast, List.length_map])
    all_goals try (exfalso; omega)
    generalize k.getD i default = x at *
    refine loop_i (fun j : Nat => j ≤ l.length) (fun j => ⟨[(2, .op 0 0), (3, .op 1 0), (4, .int .i64 (joinRow joinC x (l.take j) p).1), (5, .int .i64 (joinRow joinC x (l.take j) p).2), (7, .op 2 0), (11, .view 9 (k.map Bar.av)), (12, .int .i64 k.length), (13, .int .i64 i), (18, .view 9 (l.map Bar.av)), (19, .int .i64 l.length), (20, .int .i64 j)], [.box (Hist.mk ar an k).cs, .box (Hist.mk br bn l).cs, .box x.cs]⟩) (fun j => l.length - j) 0 (by omega) (Ent.to [0, 1, 2] false (by simp) (by simp) rfl (by simp only [lP, seval, List.length_map, List.take_zero, joinRow, List.foldl_nil] <;> (try simp) <;> (try omega)) (by simp only [lP, seval, List.length_map, List.take_zero, joinRow, List.foldl_nil] <;> (try simp) <;> (try omega))) ?_
    intro j hj
    by_cases hjl : j < l.length
    · have hR := joinRow_le hxl p j hj
      have hnr := joinRow_next (f := joinC) (x := x) (p := p) hjl
      have hys := hb _ (getD_mem hjl)
      have hM := hxl _ (getD_mem hjl)
      generalize joinRow joinC x (l.take j) p = q at *
      generalize hyy : l.getD j default = y at *
      have h49a := c49 x
      have h49b := c49 y
      have h51 := c51 x y
      have h55a := c55 y x.lo
      have h55b := c55 y x.hi
      have h55c := c55 x y.lo
      have h54a : ACalls E.P 54 [.bool (y.ends x.lo)] [] (fun r H => r = .int .i64 (cntB (y.ends x.lo)) ∧ H = []) := c54 _
      have h54b : ACalls E.P 54 [.bool (y.ends x.hi)] [] (fun r H => r = .int .i64 (cntB (y.ends x.hi)) ∧ H = []) := c54 _
      have h54c : ACalls E.P 54 [.bool (x.ends y.lo)] [] (fun r H => r = .int .i64 (cntB (x.ends y.lo)) ∧ H = []) := c54 _
      simp only [bar_av, vl_av] at h49a h49b h51 h55a h55b h55c
      have m1 := pMost_le hxs hys
      have m2 := pMost_le hys hxs
      obtain ⟨g1, g2, g3, g4⟩ := hxs
      obtain ⟨g5, g6, g7, g8⟩ := hys
      have m3 := mul_rng g1 g2 g5 g6
      have q1 := cntB_le (y.ends x.lo)
      have q2 := cntB_le (y.ends x.hi)
      have q3 := cntB_le (x.ends y.lo)
      have m4 := mul_rng g1 g2 q1.1 q1.2
      have m5 := mul_rng g5 g6 q3.1 q3.2
      simp only [joinC, pLeast, pMost, inM] at hnr hM
      generalize x.meet y = u at *
      generalize x.single = v at *
      generalize y.single = w at *
      generalize cntB (y.ends x.lo) = z1 at *
      generalize cntB (y.ends x.hi) = z2 at *
      generalize cntB (x.ends y.lo) = z3 at *
      by_cases hk : x.lo.k = y.lo.k <;> cases u <;> cases v <;> cases w
      all_goals (
        simp only [hk, decide_true, decide_false, Bool.and_true, Bool.and_false, Bool.true_and, Bool.false_and, if_true, if_false, Bool.false_eq_true, addQ] at hnr hM
        repeat' (first
         | (with_reducible apply St.o; constructor) <;> intro _
         | with_reducible first | refine LenR_i fun _ => ?_ | refine And.intro (by omega) ?_ | (apply Sp.o; constructor) | refine mkl_own ?_ | refine frz0_i ?_ | refine any_i [] ?_
         | ((with_reducible apply Sc.o true; constructor); simp only [lP, seval, IdxR_bars, Int.toNat_natCast, List.length_map, hyy]; (first | refine ⟨_, h49a, ?_⟩ | refine ⟨_, h49b, ?_⟩ | refine ⟨_, h51, ?_⟩ | refine ⟨_, h55a, ?_⟩ | refine ⟨_, h55b, ?_⟩ | refine ⟨_, h55c, ?_⟩ | refine ⟨_, h54a, ?_⟩ | refine ⟨_, h54b, ?_⟩ | refine ⟨_, h54c, ?_⟩); rintro _ _ ⟨rfl, rfl⟩; simp only [lA, lP, ptrCells, ptrAdd, isNil, readsV, readsP, isCall, wrote, srcOf, seval, IdxR_bars, Int.toNat_natCast, List.length_map, hyy])
         | ((with_reducible refine keep0_i ?_); simp only [lP, seval])
         | simp (maxSteps := 1000000) (disch := omega) only [lE, ptrCells, ptrAdd, isNil, readsV, readsP, isCall, wrote, srcOf, seval, IdxR_bars, Int.toNat_natCast, List.length_map, hyy])
        all_goals try (exfalso; omega)
        all_goals exact back_i (j + 1) (by omega) (by omega) (Ent.to [0, 1, 2] false (by simp) (by simp) rfl (by simp only [lP, seval, hnr] <;> (try simp) <;> (try omega)) (by simp only [lP, seval, hnr] <;> (try simp) <;> (try omega))))
    · have hje : j = l.length := by omega
      subst hje
      rw [List.take_length]
      repeat' (first
       | (with_reducible apply St.o; constructor) <;> intro _
       | with_reducible first | refine LenR_i fun _ => ?_ | refine And.intro (by omega) ?_ | (apply Sp.o; constructor) | refine mkl_own ?_ | refine frz0_i ?_
       | ((with_reducible refine keep0_i ?_); simp only [lP, seval])
       | simp (maxSteps := 1000000) (disch := omega) only [lE, ptrCells, ptrAdd, isNil, readsV, readsP, isCall, wrote, srcOf, seval, List.length_map, Int.lt_irrefl, decide_false])
      exact back_i (i + 1) (by omega) (by omega) (Ent.to [0, 1] false (by simp) (by simp) rfl (by simp only [lP, seval, hnx] <;> (try simp) <;> (try omega)) (by simp only [lP, seval, hnx] <;> (try simp) <;> (try omega)))
  · have hie : i = k.length := by omega
    subst hie
    rw [List.take_length]
    repeat' (first
     | (with_reducible apply St.o; constructor) <;> intro _
     | with_reducible first | refine LenR_i fun _ => ?_ | refine And.intro (by omega) ?_ | (apply Sp.o; constructor) | refine mkl_own ?_ | refine frz0_i ?_
     | ((with_reducible refine keep0_i ?_); simp only [lP, seval])
     | simp (maxSteps := 1000000) (disch := omega) only [lE, ptrCells, ptrAdd, isNil, readsV, readsP, isCall, wrote, srcOf, seval, List.length_map, Int.lt_irrefl, decide_false])
end Go.Proofs.Try
