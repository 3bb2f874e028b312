/-
  A part of the proof: see the text of the law.
-/
import Derived.Test.YtlokeliagcaepaaEao
set_option linter.unusedSimpArgs false
set_option linter.unusedVariables false
namespace Go.Proofs.Try
open Go.Al
set_option maxRecDepth 100000
/-- alum/alumref39.Join -/
def mc25 : MC :=
 (.seq (.ops [(none, (.e (.box 2 (.t 0)))),
 (none, (.e (.box 3 (.t 1)))),
 (none, (.e (.alloc 4 [(.int .i64 0), (.int .i64 0)])))])
 (.seq (.ops [(none, (.v (.build 11 [(.int .i64 0), (.int .i64 0)] []))),
 (none, (.e (.alloc 5 [(.int .i64 0), (.int .i64 0)]))),
 (none, (.e (.store 2 true (.t 5) (.t 11))))])
 (.seq (.seq (.ops [(none, (.v (.mov 6 (.c (.int .i64 0)))))])
 (.block 0 (.loop (.seq (.seq (.ops [(none, (.v (.mov 12 (.t 6)))),
 (none, (.v (.fld 13 2 (.t 2)))),
 (none, (.v (.load 14 false 1 (.t 13)))),
 (none, (.p (.len 15 (.t 14)))),
 (none, (.v (.bin 16 .lss false (.t 12) (.t 15))))])
 (.cond 16
 .skip
 (.exit 0)))
 (.seq (.block 1 (.seq (.ops [(none, (.v (.mov 7 (.c (.int .i64 0)))))])
 (.block 2 (.loop (.seq (.seq (.ops [(none, (.v (.mov 19 (.t 7)))),
 (none, (.v (.fld 20 2 (.t 3)))),
 (none, (.v (.load 21 false 1 (.t 20)))),
 (none, (.p (.len 22 (.t 21)))),
 (none, (.v (.bin 23 .lss false (.t 19) (.t 22))))])
 (.cond 23
 .skip
 (.exit 2)))
 (.seq (.block 3 (.seq (.ops [(none, (.v (.fld 26 2 (.t 2)))),
 (none, (.v (.load 27 false 1 (.t 26)))),
 (none, (.v (.mov 28 (.t 6)))),
 (none, (.p (.idx 29 9 (.t 27) (.t 28)))),
 (none, (.v (.load 30 true 9 (.t 29)))),
 (none, (.e (.alloc 8 [(.int .i64 0), (.int .i64 0), (.str ⟨#[]⟩), (.int .i64 0), (.int .i64 0), (.str ⟨#[]⟩), (.int .i64 0), (.int .i64 0), (.int .i64 0)]))),
 (none, (.e (.store 9 true (.t 8) (.t 30))))])
 (.seq (.ops [(none, (.v (.fld 31 2 (.t 3)))),
 (none, (.v (.load 32 false 1 (.t 31)))),
 (none, (.v (.mov 33 (.t 7)))),
 (none, (.p (.idx 34 9 (.t 32) (.t 33)))),
 (none, (.v (.load 35 true 9 (.t 34)))),
 (none, (.e (.alloc 9 [(.int .i64 0), (.int .i64 0), (.str ⟨#[]⟩), (.int .i64 0), (.int .i64 0), (.str ⟨#[]⟩), (.int .i64 0), (.int .i64 0), (.int .i64 0)]))),
 (none, (.e (.store 9 true (.t 9) (.t 35))))])
 (.seq (.ops [(none, (.v (.load 36 true 9 (.t 8)))),
 (none, (.v (.load 37 true 9 (.t 9)))),
 (none, (.e (.call (some 38) 56 [(.t 36), (.t 37)]))),
 (none, (.v (.mov 10 (.t 38))))])
 (.seq (.seq (.ops [(none, (.v (.mov 39 (.t 10)))),
 (none, (.v (.not 40 (.t 39))))])
 (.cond 40
 (.exit 3)
 .skip))
 (.seq (.ops [(none, (.v (.fld 41 1 (.t 5)))),
 (none, (.v (.load 42 false 1 (.t 41)))),
 (none, (.v (.fld 43 6 (.t 8)))),
 (none, (.v (.load 44 false 1 (.t 43)))),
 (none, (.v (.fld 45 6 (.t 9)))),
 (none, (.v (.load 46 false 1 (.t 45)))),
 (none, (.v (.fld 47 7 (.t 9)))),
 (none, (.v (.load 48 false 1 (.t 47)))),
 (none, (.v (.bin 49 .sub false (.t 46) (.t 48)))),
 (none, (.v (.bin 50 .add false (.t 49) (.c (.int .i64 1))))),
 (none, (.v (.bin 51 .mul false (.t 44) (.t 50)))),
 (none, (.v (.fld 52 6 (.t 9)))),
 (none, (.v (.load 53 false 1 (.t 52)))),
 (none, (.v (.fld 54 6 (.t 8)))),
 (none, (.v (.load 55 false 1 (.t 54)))),
 (none, (.v (.fld 56 7 (.t 8)))),
 (none, (.v (.load 57 false 1 (.t 56)))),
 (none, (.v (.bin 58 .sub false (.t 55) (.t 57)))),
 (none, (.v (.bin 59 .add false (.t 58) (.c (.int .i64 1))))),
 (none, (.v (.bin 60 .mul false (.t 53) (.t 59)))),
 (none, (.v (.min 61 [(.t 51), (.t 60)]))),
 (none, (.v (.bin 62 .add false (.t 42) (.t 61)))),
 (none, (.v (.fld 63 1 (.t 5)))),
 (none, (.e (.store 1 false (.t 63) (.t 62))))])
 (.any true (.pure0 none (.v (.fld 64 0 (.t 5)))
 (.pure0 none (.v (.load 66 true 9 (.t 8)))
 (.pure0 none (.v (.load 67 true 9 (.t 9)))
 (.alt none (.v (.load 65 false 1 (.t 64)))
 (.alt none (.e (.call (some 68) 57 [(.t 66), (.t 67)]))
 (.pure1 none (.v (.bin 69 .add false (.t 65) (.t 68)))
 (.pure0 none (.v (.fld 70 0 (.t 5)))
 (.alt none (.e (.store 1 false (.t 70) (.t 69)))
 .done
 .stop)))
 .stop)
 (.alt none (.e (.call (some 68) 57 [(.t 66), (.t 67)]))
 (.alt none (.v (.load 65 false 1 (.t 64)))
 (.pure1 none (.v (.bin 69 .add false (.t 65) (.t 68)))
 (.pure0 none (.v (.fld 70 0 (.t 5)))
 (.alt none (.e (.store 1 false (.t 70) (.t 69)))
 .done
 .stop)))
 .stop)
 .stop))))))))))))
 (.ops [(none, (.v (.mov 24 (.t 7)))),
 (none, (.v (.bin 25 .add false (.t 24) (.c (.int .i64 1))))),
 (none, (.v (.mov 7 (.t 25))))])))))))
 (.ops [(none, (.v (.mov 17 (.t 6)))),
 (none, (.v (.bin 18 .add false (.t 17) (.c (.int .i64 1))))),
 (none, (.v (.mov 6 (.t 18))))]))))))
 (.seq (.ops [(none, (.v (.load 71 true 2 (.t 5)))),
 (none, (.e (.store 2 true (.t 4) (.t 71))))])
 .ret))))
theorem ok25 : FnOk E 25 72 [.cell 4 46] mc25 := .of func25 (by kernel_rfl) (by kernel_rfl) (by kernel_rfl) (by kernel_rfl) (by kernel_rfl)
end Go.Proofs.Try
namespace Go.Proofs.Try
open Go.Al
set_option linter.unusedVariables false
set_option linter.unusedSimpArgs false
set_option maxRecDepth 20000
set_option maxHeartbeats 8000000

theorem c25 (a b : Hist) (ha : ∀ x ∈ a.bars, x.small) (hb : ∀ y ∈ b.bars, y.small) (ha40 : a.bars.length ≤ 40) (hb40 : b.bars.length ≤ 40) :
    ACalls E.P 25 [a.av, b.av] [] (fun r H => r = .agg [.int .i64 (joinAll joinR a.bars b.bars).1, .int .i64 (joinAll joinR a.bars b.bars).2] ∧ H = []) := by
  have hmax := maxLen_eq
  obtain ⟨ar, an, k⟩ := a
  obtain ⟨br, bn, l⟩ := b
  simp only at ha hb ha40 hb40
  have hle : ∀ x ∈ k, ∀ y ∈ l, inM (joinR x y) := fun x hx y hy => joinR_le (ha x hx) (hb y hy)
  refine ok25.acalls hE hm (by simp) fun N hN => ?_
  unfold mc25
  simp only [lA, ptrCells, ptrAdd, isNil, readsV, readsP, isCall, wrote, srcOf, seval, hist_av]
  repeat' (first
   | (with_reducible apply St.o; constructor) <;> intro _
   | with_reducible first | refine LenR_i fun _ => ?_ | refine And.intro (by omega) ?_ | (apply Sp.o; constructor) | refine mkl_own ?_ | refine frz0_i ?_
   | ((with_reducible refine keep0_i ?_); simp only [lP, seval])
   | simp (maxSteps := 1000000) (disch := omega) only [lE, ptrCells, ptrAdd, isNil, readsV, readsP, isCall, wrote, srcOf, seval, List.length_map, ti46])
  refine loop_i (fun i : Nat => i ≤ k.length) (fun i => ⟨[(2, .op 0 0), (3, .op 1 0), (4, .op 2 0), (5, .op 3 0), (6, .int .i64 i)], [.box (Hist.mk ar an k).cs, .box (Hist.mk br bn l).cs, .box [.int .i64 0, .int .i64 0], .box [.int .i64 (joinAll joinR (k.take i) l).1, .int .i64 (joinAll joinR (k.take i) l).2]]⟩) (fun i => k.length - i) 0 (by omega) (Ent.to [0, 1, 2, 3] false (by simp) (by simp) rfl (by simp only [lP, seval, List.length_map, List.take_zero, joinAll, List.foldl_nil] <;> (try simp) <;> (try omega)) (by simp only [lP, seval, List.length_map, List.take_zero, joinAll, List.foldl_nil] <;> (try simp) <;> (try omega))) ?_
  intro i hi
  by_cases hik : i < k.length
  · have hA := joinAll_le hle (by omega) i hi
    have hnx := joinAll_next (f := joinR) (l := l) hik
    have hxs := ha _ (getD_mem hik)
    have hxl := hle _ (getD_mem hik)
    generalize joinAll joinR (k.take i) l = p at *
    repeat' (first
     | (with_reducible apply St.o; constructor) <;> intro _
     | with_reducible first | refine LenR_i fun _ => ?_ | refine And.intro (by omega) ?_ | (apply Sp.o; constructor) | refine mkl_own ?_ | refine frz0_i ?_
     | ((with_reducible refine keep0_i ?_); simp only [lP, seval])
     | simp (maxSteps := 1000000) (disch := omega) only [lE, ptrCells, ptrAdd, isNil, readsV, readsP, isCall, wrote, srcOf, seval, IdxR_bars, Int.toNat_natCast, List.length_map])
    all_goals try (exfalso; omega)
    generalize hxx : k.getD i default = x at *
    refine loop_i (fun j : Nat => j ≤ l.length) (fun j => ⟨[(2, .op 0 0), (3, .op 1 0), (4, .op 2 0), (5, .op 3 0), (6, .int .i64 i), (7, .int .i64 j)], [.box (Hist.mk ar an k).cs, .box (Hist.mk br bn l).cs, .box [.int .i64 0, .int .i64 0], .box [.int .i64 (joinRow joinR x (l.take j) p).1, .int .i64 (joinRow joinR x (l.take j) p).2]]⟩) (fun j => l.length - j) 0 (by omega) (Ent.to [0, 1, 2, 3] false (by simp) (by simp) rfl (by simp only [lP, seval, List.length_map, List.take_zero, joinRow, List.foldl_nil] <;> (try simp) <;> (try omega)) (by simp only [lP, seval, List.length_map, List.take_zero, joinRow, List.foldl_nil] <;> (try simp) <;> (try omega))) ?_
    intro j hj
    by_cases hjl : j < l.length
    · have hR := joinRow_le hxl p j hj
      have hnr := joinRow_next (f := joinR) (x := x) (p := p) hjl
      have hys := hb _ (getD_mem hjl)
      have hM := hxl _ (getD_mem hjl)
      generalize joinRow joinR x (l.take j) p = q at *
      generalize hyy : l.getD j default = y at *
      have h56 := c56 x y
      have h57 := c57 x y hxs hys
      simp only [bar_av] at h56 h57
      have m1 := pMost_le hxs hys
      have m2 := pMost_le hys hxs
      obtain ⟨g1, g2, g3, g4⟩ := hxs
      obtain ⟨g5, g6, g7, g8⟩ := hys
      simp only [joinR, pMost, inM] at hnr hM
      generalize x.meet19 y = u at *
      generalize x.shared y = v at *
      cases u
      all_goals (
        simp only [if_true, if_false, Bool.false_eq_true, addQ] at hnr hM
        repeat' (first
         | (with_reducible apply St.o; constructor) <;> intro _
         | with_reducible first | refine LenR_i fun _ => ?_ | refine And.intro (by omega) ?_ | (apply Sp.o; constructor) | refine mkl_own ?_ | refine frz0_i ?_
         | ((with_reducible apply Sc.o true; constructor); simp only [lP, seval, IdxR_bars, Int.toNat_natCast, List.length_map, hxx, hyy]; (first | refine ⟨_, h56, ?_⟩ | refine ⟨_, h57, ?_⟩); rintro _ _ ⟨rfl, rfl⟩; simp only [lA, lP, ptrCells, ptrAdd, isNil, readsV, readsP, isCall, wrote, srcOf, seval, IdxR_bars, Int.toNat_natCast, List.length_map, hxx, hyy])
         | with_reducible refine any_i [3] ?_
         | ((with_reducible refine keep0_i ?_); simp only [lP, seval])
         | simp (maxSteps := 1000000) (disch := omega) only [lE, ptrCells, ptrAdd, isNil, readsV, readsP, isCall, wrote, srcOf, seval, IdxR_bars, Int.toNat_natCast, List.length_map, hxx, hyy])
        all_goals try (exfalso; omega)
        all_goals exact back_i (j + 1) (by omega) (by omega) (Ent.to [0, 1, 2, 3] false (by simp) (by simp) rfl (by simp only [lP, seval, hnr] <;> (try simp) <;> (try omega)) (by simp only [lP, seval, hnr] <;> (try simp) <;> (try omega))))
    · have hje : j = l.length := by omega
      subst hje
      rw [List.take_length]
      repeat' (first
       | (with_reducible apply St.o; constructor) <;> intro _
       | with_reducible first | refine LenR_i fun _ => ?_ | refine And.intro (by omega) ?_ | (apply Sp.o; constructor) | refine mkl_own ?_ | refine frz0_i ?_
       | ((with_reducible refine keep0_i ?_); simp only [lP, seval])
       | simp (maxSteps := 1000000) (disch := omega) only [lE, ptrCells, ptrAdd, isNil, readsV, readsP, isCall, wrote, srcOf, seval, List.length_map, Int.lt_irrefl, decide_false])
      exact back_i (i + 1) (by omega) (by omega) (Ent.to [0, 1, 2, 3] false (by simp) (by simp) rfl (by simp only [lP, seval, hnx] <;> (try simp) <;> (try omega)) (by simp only [lP, seval, hnx] <;> (try simp) <;> (try omega)))
  · have hie : i = k.length := by omega
    subst hie
    rw [List.take_length]
    repeat' (first
     | (with_reducible apply St.o; constructor) <;> intro _
     | with_reducible first | refine LenR_i fun _ => ?_ | refine And.intro (by omega) ?_ | (apply Sp.o; constructor) | refine mkl_own ?_ | refine frz0_i ?_
     | ((with_reducible refine keep0_i ?_); simp only [lP, seval])
     | simp (maxSteps := 1000000) (disch := omega) only [lE, ptrCells, ptrAdd, isNil, readsV, readsP, isCall, wrote, srcOf, seval, List.length_map, Int.lt_irrefl, decide_false, ti46])
end Go.Proofs.Try
