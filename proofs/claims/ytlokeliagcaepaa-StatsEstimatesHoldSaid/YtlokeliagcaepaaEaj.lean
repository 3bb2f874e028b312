/-
  A part of the proof: see the text of the law.
-/
import Derived.Test.YtlokeliagcaepaaEai
set_option linter.unusedSimpArgs false
set_option linter.unusedVariables false
namespace Go.Proofs.Try
open Go.Al
set_option maxRecDepth 100000
/-- alum/stats.Estimate -/
def mc27 : MC :=
 (.seq (.ops [(none, (.e (.box 2 (.t 0)))),
 (none, (.e (.box 3 (.t 1)))),
 (none, (.v (.mov 4 (.c (.int .i64 0))))),
 (none, (.v (.mov 5 (.c (.int .i64 0)))))])
 (.seq (.block 0 (.seq (.ops [(none, (.v (.fld 11 0 (.t 3)))),
 (none, (.v (.load 12 false 1 (.t 11)))),
 (none, (.v (.mov 10 (.t 12))))])
 (.cond 10
 (.seq (.ops [(none, (.v (.mov 4 (.c (.int .i64 0))))),
 (none, (.v (.mov 5 (.c (.int .i64 0)))))])
 .ret)
 (.seq (.ops [(none, (.v (.fld 14 2 (.t 3)))),
 (none, (.v (.load 15 false 1 (.t 14)))),
 (none, (.v (.mov 13 (.t 15))))])
 (.cond 13
 (.seq (.any false (.pure0 none (.v (.fld 16 0 (.t 2)))
 (.pure0 none (.v (.load 17 false 1 (.t 16)))
 (.pure0 none (.v (.fld 18 0 (.t 2)))
 (.pure0 none (.v (.load 19 false 1 (.t 18)))
 (.pure0 none (.v (.mov 4 (.t 17)))
 (.pure0 none (.v (.mov 5 (.t 19)))
 .done)))))))
 .ret)
 (.seq (.ops [(none, (.v (.fld 21 1 (.t 3)))),
 (none, (.v (.load 22 false 1 (.t 21)))),
 (none, (.v (.mov 20 (.t 22))))])
 (.cond 20
 (.seq (.any false (.pure0 none (.v (.fld 23 1 (.t 2)))
 (.pure0 none (.v (.load 24 false 1 (.t 23)))
 (.pure0 none (.v (.fld 25 1 (.t 2)))
 (.pure0 none (.v (.load 26 false 1 (.t 25)))
 (.pure0 none (.v (.mov 4 (.t 24)))
 (.pure0 none (.v (.mov 5 (.t 26)))
 .done)))))))
 .ret)
 .skip)))))))
 (.seq (.seq (.ops [(none, (.v (.fld 27 2 (.t 2)))),
 (none, (.v (.load 28 false 1 (.t 27)))),
 (none, (.p (.len 29 (.t 28)))),
 (none, (.v (.mov 30 (.c (.int .i64 0)))))])
 (.block 1 (.loop (.seq (.ops [(none, (.v (.bin 31 .lss false (.t 30) (.t 29))))])
 (.seq (.cond 31
 .skip
 (.exit 1))
 (.seq (.block 2 (.seq (.ops [(none, (.p (.idx 32 9 (.t 28) (.t 30)))),
 (none, (.v (.load 33 true 9 (.t 32)))),
 (none, (.e (.alloc 7 [(.int .i64 0), (.int .i64 0), (.str ⟨#[]⟩), (.int .i64 0), (.int .i64 0), (.str ⟨#[]⟩), (.int .i64 0), (.int .i64 0), (.int .i64 0)]))),
 (none, (.e (.store 9 true (.t 7) (.t 33))))])
 (.seq (.ops [(none, (.v (.load 35 true 9 (.t 7)))),
 (none, (.v (.load 36 true 11 (.t 3)))),
 (none, (.e (.call (some 37) 60 [(.t 35), (.t 36)]))),
 (none, (.v (.mov 34 (.t 37)))),
 (none, (.v (.ext 38 0 (.t 34)))),
 (none, (.v (.ext 39 1 (.t 34)))),
 (none, (.v (.mov 8 (.t 38)))),
 (none, (.v (.mov 9 (.t 39))))])
 (.ops [(none, (.v (.mov 40 (.t 4)))),
 (none, (.v (.mov 41 (.t 8)))),
 (none, (.v (.bin 42 .add false (.t 40) (.t 41)))),
 (none, (.v (.mov 43 (.t 5)))),
 (none, (.v (.mov 44 (.t 9)))),
 (none, (.v (.bin 45 .add false (.t 43) (.t 44)))),
 (none, (.v (.mov 4 (.t 42)))),
 (none, (.v (.mov 5 (.t 45))))]))))
 (.ops [(none, (.v (.bin 46 .add false (.t 30) (.c (.int .i64 1))))),
 (none, (.v (.mov 30 (.t 46))))])))))))
 (.seq (.ops [(none, (.v (.mov 47 (.t 4)))),
 (none, (.v (.mov 48 (.t 5)))),
 (none, (.v (.mov 4 (.t 47)))),
 (none, (.v (.mov 5 (.t 48))))])
 .ret))))
theorem ok27 : FnOk E 27 49 [.tmp 4, .tmp 5] mc27 := .of func27 (by kernel_rfl) (by kernel_rfl) (by kernel_rfl) (by kernel_rfl) (by kernel_rfl)
/-- alum/alumref39.Estimate -/
def mc28 : MC :=
 (.seq (.ops [(none, (.e (.box 2 (.t 0)))),
 (none, (.e (.box 3 (.t 1)))),
 (none, (.e (.alloc 4 [(.int .i64 0), (.int .i64 0)])))])
 (.seq (.seq (.ops [(none, (.v (.fld 8 0 (.t 3)))),
 (none, (.v (.load 9 false 1 (.t 8))))])
 (.cond 9
 (.seq (.ops [(none, (.v (.build 10 [(.int .i64 0), (.int .i64 0)] []))),
 (none, (.e (.store 2 true (.t 4) (.t 10))))])
 .ret)
 .skip))
 (.seq (.seq (.ops [(none, (.v (.fld 11 2 (.t 3)))),
 (none, (.v (.load 12 false 1 (.t 11))))])
 (.cond 12
 (.seq (.ops [(none, (.v (.fld 13 0 (.t 2)))),
 (none, (.v (.load 14 false 1 (.t 13)))),
 (none, (.v (.fld 15 0 (.t 2)))),
 (none, (.v (.load 16 false 1 (.t 15)))),
 (none, (.v (.build 17 [(.int .i64 0), (.int .i64 0)] [(0, 1, (.t 14)), (1, 1, (.t 16))]))),
 (none, (.e (.store 2 true (.t 4) (.t 17))))])
 .ret)
 .skip))
 (.seq (.seq (.ops [(none, (.v (.fld 18 1 (.t 3)))),
 (none, (.v (.load 19 false 1 (.t 18))))])
 (.cond 19
 (.seq (.ops [(none, (.v (.fld 20 1 (.t 2)))),
 (none, (.v (.load 21 false 1 (.t 20)))),
 (none, (.v (.fld 22 1 (.t 2)))),
 (none, (.v (.load 23 false 1 (.t 22)))),
 (none, (.v (.build 24 [(.int .i64 0), (.int .i64 0)] [(0, 1, (.t 21)), (1, 1, (.t 23))]))),
 (none, (.e (.store 2 true (.t 4) (.t 24))))])
 .ret)
 .skip))
 (.seq (.ops [(none, (.v (.build 25 [(.int .i64 0), (.int .i64 0)] []))),
 (none, (.e (.alloc 5 [(.int .i64 0), (.int .i64 0)]))),
 (none, (.e (.store 2 true (.t 5) (.t 25))))])
 (.seq (.seq (.ops [(none, (.v (.mov 6 (.c (.int .i64 0)))))])
 (.block 0 (.loop (.seq (.seq (.ops [(none, (.v (.mov 26 (.t 6)))),
 (none, (.v (.fld 27 2 (.t 2)))),
 (none, (.v (.load 28 false 1 (.t 27)))),
 (none, (.p (.len 29 (.t 28)))),
 (none, (.v (.bin 30 .lss false (.t 26) (.t 29))))])
 (.cond 30
 .skip
 (.exit 0)))
 (.seq (.block 1 (.seq (.any true (.pure0 none (.v (.fld 33 2 (.t 2)))
 (.pure0 none (.v (.load 34 false 1 (.t 33)))
 (.pure0 none (.v (.mov 35 (.t 6)))
 (.pure0 none (.p (.idx 36 9 (.t 34) (.t 35)))
 (.pure0 none (.v (.load 37 true 9 (.t 36)))
 (.pure0 none (.v (.load 38 true 11 (.t 3)))
 (.alt none (.e (.call (some 39) 61 [(.t 37), (.t 38)]))
 (.alt none (.e (.alloc 7 [(.int .i64 0), (.int .i64 0)]))
 (.alt none (.e (.store 2 true (.t 7) (.t 39)))
 .done
 .stop)
 .stop)
 (.alt none (.e (.alloc 7 [(.int .i64 0), (.int .i64 0)]))
 (.alt none (.e (.call (some 39) 61 [(.t 37), (.t 38)]))
 (.alt none (.e (.store 2 true (.t 7) (.t 39)))
 .done
 .stop)
 .stop)
 .stop)))))))))
 (.seq (.ops [(none, (.v (.fld 40 0 (.t 5)))),
 (none, (.v (.load 41 false 1 (.t 40)))),
 (none, (.v (.fld 42 0 (.t 7)))),
 (none, (.v (.load 43 false 1 (.t 42)))),
 (none, (.v (.bin 44 .add false (.t 41) (.t 43)))),
 (none, (.v (.fld 45 0 (.t 5)))),
 (none, (.e (.store 1 false (.t 45) (.t 44))))])
 (.ops [(none, (.v (.fld 46 1 (.t 5)))),
 (none, (.v (.load 47 false 1 (.t 46)))),
 (none, (.v (.fld 48 1 (.t 7)))),
 (none, (.v (.load 49 false 1 (.t 48)))),
 (none, (.v (.bin 50 .add false (.t 47) (.t 49)))),
 (none, (.v (.fld 51 1 (.t 5)))),
 (none, (.e (.store 1 false (.t 51) (.t 50))))]))))
 (.ops [(none, (.v (.mov 31 (.t 6)))),
 (none, (.v (.bin 32 .add false (.t 31) (.c (.int .i64 1))))),
 (none, (.v (.mov 6 (.t 32))))]))))))
 (.seq (.ops [(none, (.v (.load 52 true 2 (.t 5)))),
 (none, (.e (.store 2 true (.t 4) (.t 52))))])
 .ret)))))))
theorem ok28 : FnOk E 28 53 [.cell 4 46] mc28 := .of func28 (by kernel_rfl) (by kernel_rfl) (by kernel_rfl) (by kernel_rfl) (by kernel_rfl)
end Go.Proofs.Try
namespace Go.Proofs.Try
open Go.Al
set_option linter.unusedVariables false
set_option linter.unusedSimpArgs false
set_option maxRecDepth 20000
set_option maxHeartbeats 8000000

def addP (p q : Int × Int) : Int × Int := (p.1 + q.1, p.2 + q.2)
def estS (f : Bar → Int × Int) (l : List Bar) : Int × Int := l.foldl (fun p b => addP p (f b)) (0, 0)
def Hist.est (h : Hist) (x : RG) : Int × Int := if x.e = true then (0, 0) else if x.all = true then (h.rows, h.rows) else if x.nl = true then (h.nulls, h.nulls) else estS (fun b => b.within x) h.bars
def Hist.est19 (h : Hist) (x : RG) : Int × Int := if x.e = true then (0, 0) else if x.all = true then (h.rows, h.rows) else if x.nl = true then (h.nulls, h.nulls) else estS (fun b => b.one x) h.bars
theorem estS_next {f : Bar → Int × Int} {l : List Bar} {i : Nat} (h : i < l.length) : estS f (l.take (i + 1)) = addP (estS f (l.take i)) (f (l.getD i default)) := by
  rw [take_succD h, estS, List.foldl_append]
  rfl
theorem estS_le {f : Bar → Int × Int} {l : List Bar} (hf : ∀ b ∈ l, -33554432 ≤ (f b).1 ∧ (f b).1 ≤ 33554432 ∧ -33554432 ≤ (f b).2 ∧ (f b).2 ≤ 33554432) : ∀ i, i ≤ l.length → -(i * 33554432 : Int) ≤ (estS f (l.take i)).1 ∧ (estS f (l.take i)).1 ≤ i * 33554432 ∧ -(i * 33554432 : Int) ≤ (estS f (l.take i)).2 ∧ (estS f (l.take i)).2 ≤ i * 33554432
  | 0, _ => by simp [estS]
  | i + 1, hi => by
    have hil : i < l.length := by omega
    have h1 := estS_le hf i (by omega)
    have h2 := hf _ (getD_mem hil)
    rw [estS_next hil]
    simp only [addP]
    omega
theorem cntB_le (b : Bool) : 0 ≤ cntB b ∧ cntB b ≤ 1 := by cases b <;> simp [cntB]
theorem within_le (b : Bar) (x : RG) (hb : b.small) : -33554432 ≤ (b.within x).1 ∧ (b.within x).1 ≤ 33554432 ∧ -33554432 ≤ (b.within x).2 ∧ (b.within x).2 ≤ 33554432 := by
  obtain ⟨h1, h2, h3, h4⟩ := hb
  have c1 := cntB_le (x.has b.lo || x.has b.hi)
  have c2 := cntB_le (!x.has b.lo)
  have c3 := cntB_le (!x.has b.hi)
  unfold Bar.within
  (repeat' split) <;> simp only <;> omega
theorem one_le (b : Bar) (x : RG) (hb : b.small) : -33554432 ≤ (b.one x).1 ∧ (b.one x).1 ≤ 33554432 ∧ -33554432 ≤ (b.one x).2 ∧ (b.one x).2 ≤ 33554432 := by
  obtain ⟨h1, h2, h3, h4⟩ := hb
  have c1 := cntB_le (x.has19 b.lo || x.has19 b.hi)
  have c2 := cntB_le (!x.has19 b.lo)
  have c3 := cntB_le (!x.has19 b.hi)
  unfold Bar.one
  (repeat' split) <;> simp only <;> omega
theorem c27 (h : Hist) (x : RG) (hs : ∀ b ∈ h.bars, b.small) (hl60 : h.bars.length ≤ 1048576) : ACalls E.P 27 [h.av, x.av] [] (fun r H => r = .tup [.int .i64 (h.est x).1, .int .i64 (h.est x).2] ∧ H = []) := by
  have hmax := maxLen_eq
  have hwl := fun b hb => within_le b x (hs b hb)
  obtain ⟨hr, hn, l⟩ := h
  simp only at hs hl60 hwl
  refine ok27.acalls hE hm (by simp) fun N hN => ?_
  unfold mc27
  obtain ⟨e, nl, all, lo, hi, li, ri⟩ := x
  simp only [lA, ptrCells, ptrAdd, isNil, readsV, readsP, isCall, wrote, srcOf, seval, hist_av, rg_av]
  simp only [Hist.est]
  repeat' (first
   | (with_reducible apply St.o; constructor) <;> intro _
   | with_reducible first | refine LenR_i fun _ => ?_ | refine And.intro (by omega) ?_ | (apply Sp.o; constructor) | refine mkl_own ?_ | refine frz0_i ?_
   | ((with_reducible refine keep0_i ?_); simp only [lP, seval])
   | simp (maxSteps := 1000000) (disch := omega) only [lE, ptrCells, ptrAdd, isNil, readsV, readsP, isCall, wrote, srcOf, seval, List.length_map])
  all_goals try (simp [*]; done)
  rename_i q1 q2 q3
  simp only [q1, q2, q3, Bool.false_eq_true, if_false]
  subst q1 q2 q3
  refine loop_i (fun i : Nat => i ≤ l.length) (fun i => ⟨[(3, .op 0 0), (4, .int .i64 (estS (fun b => b.within ⟨false, false, false, lo, hi, li, ri⟩) (l.take i)).1), (5, .int .i64 (estS (fun b => b.within ⟨false, false, false, lo, hi, li, ri⟩) (l.take i)).2), (28, .view 9 (l.map Bar.av)), (29, .int .i64 l.length), (30, .int .i64 i)], [.box (RG.mk false false false lo hi li ri).cs]⟩) (fun i => l.length - i) 0 (by omega) (Ent.to [1] false (by simp) (by simp) rfl (by simp only [lP, seval, List.length_map, List.take_zero, estS, List.foldl_nil] <;> (try simp) <;> (try omega)) (by simp only [lP, seval, List.length_map, List.take_zero, estS, List.foldl_nil] <;> (try simp) <;> (try omega))) ?_
  intro i hi'
  have hle := estS_le hwl i hi'
  by_cases hil : i < l.length
  · have hnx := estS_next (f := fun b => b.within ⟨false, false, false, lo, hi, li, ri⟩) hil
    have h60 := c60 (l.getD i default) ⟨false, false, false, lo, hi, li, ri⟩ (hs _ (getD_mem hil))
    have h3 := hwl _ (getD_mem hil)
    simp only [bar_av, rg_av] at h60
    generalize hx : l.getD i default = x at *
    generalize estS (fun b => b.within ⟨false, false, false, lo, hi, li, ri⟩) (l.take i) = u at *
    generalize x.within ⟨false, false, false, lo, hi, li, ri⟩ = v at *
    obtain ⟨u1, u2⟩ := u
    obtain ⟨v1, v2⟩ := v
    simp only [addP] at hnx hle h3 h60
    repeat' (first
     | (with_reducible apply St.o; constructor) <;> intro _
     | with_reducible first | refine LenR_i fun _ => ?_ | refine And.intro (by omega) ?_ | (apply Sp.o; constructor) | refine mkl_own ?_ | refine frz0_i ?_
     | ((with_reducible apply Sc.o false; constructor); simp only [lP, seval, IdxR_bars, Int.toNat_natCast, List.length_map, hx]; refine ⟨_, h60, ?_⟩; rintro _ _ ⟨rfl, rfl⟩; simp only [lA, lP, ptrCells, ptrAdd, isNil, readsV, readsP, isCall, wrote, srcOf, seval, IdxR_bars, Int.toNat_natCast, List.length_map, hx])
     | ((with_reducible refine keep0_i ?_); simp only [lP, seval])
     | simp (maxSteps := 1000000) (disch := omega) only [lE, ptrCells, ptrAdd, isNil, readsV, readsP, isCall, wrote, srcOf, seval, IdxR_bars, Int.toNat_natCast, List.length_map, hx])
    all_goals try (exfalso; omega)
    exact back_i (i + 1) (by omega) (by omega) (Ent.to [0] false (by simp) (by simp) rfl (by simp only [lP, seval, hnx] <;> (try simp) <;> (try omega)) (by simp only [lP, seval, hnx] <;> (try simp) <;> (try omega)))
  · have hie : i = l.length := by omega
    rw [hie, List.take_length]
    repeat' (first
     | (with_reducible apply St.o; constructor) <;> intro _
     | with_reducible first | refine LenR_i fun _ => ?_ | refine And.intro (by omega) ?_ | (apply Sp.o; constructor) | refine mkl_own ?_ | refine frz0_i ?_
     | ((with_reducible refine keep0_i ?_); simp only [lP, seval])
     | simp (maxSteps := 1000000) (disch := omega) only [lE, ptrCells, ptrAdd, isNil, readsV, readsP, isCall, wrote, srcOf, seval, List.length_map, Int.lt_irrefl, decide_false])
theorem c28 (h : Hist) (x : RG) (hs : ∀ b ∈ h.bars, b.small) (hl60 : h.bars.length ≤ 1048576) : ACalls E.P 28 [h.av, x.av] [] (fun r H => r = .agg [.int .i64 (h.est19 x).1, .int .i64 (h.est19 x).2] ∧ H = []) := by
  have hmax := maxLen_eq
  have hwl := fun b hb => one_le b x (hs b hb)
  obtain ⟨hr, hn, l⟩ := h
  simp only at hs hl60 hwl
  refine ok28.acalls hE hm (by simp) fun N hN => ?_
  unfold mc28
  obtain ⟨e, nl, all, lo, hi, li, ri⟩ := x
  simp only [lA, ptrCells, ptrAdd, isNil, readsV, readsP, isCall, wrote, srcOf, seval, hist_av, rg_av]
  simp only [Hist.est19]
  repeat' (first
   | (with_reducible apply St.o; constructor) <;> intro _
   | with_reducible first | refine LenR_i fun _ => ?_ | refine And.intro (by omega) ?_ | (apply Sp.o; constructor) | refine mkl_own ?_ | refine frz0_i ?_
   | ((with_reducible refine keep0_i ?_); simp only [lP, seval])
   | simp (maxSteps := 1000000) (disch := omega) only [lE, ptrCells, ptrAdd, isNil, readsV, readsP, isCall, wrote, srcOf, seval, List.length_map, ti46])
  all_goals try (simp [*]; done)
  rename_i q1 q2 q3
  simp only [q1, q2, q3, Bool.false_eq_true, if_false]
  subst q1 q2 q3
  refine loop_i (fun i : Nat => i ≤ l.length) (fun i => ⟨[(2, .op 0 0), (3, .op 1 0), (4, .op 2 0), (5, .op 3 0), (6, .int .i64 i)], [.box (Hist.mk hr hn l).cs, .box (RG.mk false false false lo hi li ri).cs, .box [.int .i64 0, .int .i64 0],
    .box [.int .i64 (estS (fun b => b.one ⟨false, false, false, lo, hi, li, ri⟩) (l.take i)).1, .int .i64 (estS (fun b => b.one ⟨false, false, false, lo, hi, li, ri⟩) (l.take i)).2]]⟩) (fun i => l.length - i) 0 (by omega) (Ent.to [0, 1, 2, 3] false (by simp) (by simp) rfl (by simp only [lP, seval, List.length_map, List.take_zero, estS, List.foldl_nil] <;> (try simp) <;> (try omega)) (by simp only [lP, seval, List.length_map, List.take_zero, estS, List.foldl_nil] <;> (try simp) <;> (try omega))) ?_
  intro i hi'
  have hle := estS_le hwl i hi'
  by_cases hil : i < l.length
  · have hnx := estS_next (f := fun b => b.one ⟨false, false, false, lo, hi, li, ri⟩) hil
    have h61 := c61 (l.getD i default) ⟨false, false, false, lo, hi, li, ri⟩ (hs _ (getD_mem hil))
    have h3 := hwl _ (getD_mem hil)
    simp only [bar_av, rg_av] at h61
    generalize hx : l.getD i default = x at *
    generalize estS (fun b => b.one ⟨false, false, false, lo, hi, li, ri⟩) (l.take i) = u at *
    generalize x.one ⟨false, false, false, lo, hi, li, ri⟩ = v at *
    obtain ⟨u1, u2⟩ := u
    obtain ⟨v1, v2⟩ := v
    simp only [addP] at hnx hle h3 h61
    repeat' (first
     | (with_reducible apply St.o; constructor) <;> intro _
     | with_reducible first | refine LenR_i fun _ => ?_ | refine And.intro (by omega) ?_ | (apply Sp.o; constructor) | refine mkl_own ?_ | refine frz0_i ?_ | refine any_i [] ?_
     | ((with_reducible apply Sc.o true; constructor); simp only [lP, seval, IdxR_bars, Int.toNat_natCast, List.length_map, hx]; refine ⟨_, h61, ?_⟩; rintro _ _ ⟨rfl, rfl⟩; simp only [lA, lP, ptrCells, ptrAdd, isNil, readsV, readsP, isCall, wrote, srcOf, seval, IdxR_bars, Int.toNat_natCast, List.length_map, hx])
     | ((with_reducible refine keep0_i ?_); simp only [lP, seval])
     | simp (maxSteps := 1000000) (disch := omega) only [lE, ptrCells, ptrAdd, isNil, readsV, readsP, isCall, wrote, srcOf, seval, IdxR_bars, Int.toNat_natCast, List.length_map, hx])
    all_goals try (exfalso; omega)
    all_goals exact back_i (i + 1) (by omega) (by omega) (Ent.to [0, 1, 2, 3] false (by simp) (by simp) rfl (by simp only [lP, seval, hnx] <;> (try simp) <;> (try omega)) (by simp only [lP, seval, hnx] <;> (try simp) <;> (try omega)))
  · have hie : i = l.length := by omega
    rw [hie, List.take_length]
    repeat' (first
     | (with_reducible apply St.o; constructor) <;> intro _
     | with_reducible first | refine LenR_i fun _ => ?_ | refine And.intro (by omega) ?_ | (apply Sp.o; constructor) | refine mkl_own ?_ | refine frz0_i ?_
     | ((with_reducible refine keep0_i ?_); simp only [lP, seval])
     | simp (maxSteps := 1000000) (disch := omega) only [lE, ptrCells, ptrAdd, isNil, readsV, readsP, isCall, wrote, srcOf, seval, List.length_map, Int.lt_irrefl, decide_false, ti46])
end Go.Proofs.Try
