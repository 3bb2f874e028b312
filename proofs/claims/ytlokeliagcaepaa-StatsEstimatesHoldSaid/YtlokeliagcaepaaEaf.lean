/-
  A part of the proof: see the text of the law.
-/
import Derived.Test.YtlokeliagcaepaaEae
set_option linter.unusedSimpArgs false
set_option linter.unusedVariables false
namespace Go.Proofs.Try
open Go.Al
set_option maxRecDepth 100000
/-- alum/stats.Distinct -/
def mc22 : MC :=
 (.seq (.ops [(none, (.e (.box 1 (.t 0)))),
 (none, (.v (.mov 2 (.c (.int .i64 0))))),
 (none, (.v (.mov 3 (.c (.int .i64 0)))))])
 (.seq (.seq (.ops [(none, (.v (.fld 6 2 (.t 1)))),
 (none, (.v (.load 7 false 1 (.t 6)))),
 (none, (.p (.len 8 (.t 7)))),
 (none, (.v (.mov 9 (.c (.int .i64 0)))))])
 (.block 0 (.loop (.seq (.ops [(none, (.v (.bin 10 .lss false (.t 9) (.t 8))))])
 (.seq (.cond 10
 .skip
 (.exit 0))
 (.seq (.block 1 (.seq (.ops [(none, (.p (.idx 11 9 (.t 7) (.t 9)))),
 (none, (.v (.load 12 true 9 (.t 11)))),
 (none, (.e (.alloc 5 [(.int .i64 0), (.int .i64 0), (.str ⟨#[]⟩), (.int .i64 0), (.int .i64 0), (.str ⟨#[]⟩), (.int .i64 0), (.int .i64 0), (.int .i64 0)]))),
 (none, (.e (.store 9 true (.t 5) (.t 12))))])
 (.seq (.ops [(none, (.v (.mov 13 (.t 2)))),
 (none, (.v (.fld 14 7 (.t 5)))),
 (none, (.v (.load 15 false 1 (.t 14)))),
 (none, (.v (.bin 16 .add false (.t 13) (.t 15)))),
 (none, (.v (.mov 2 (.t 16))))])
 (.ops [(none, (.v (.mov 17 (.t 3)))),
 (none, (.v (.fld 18 8 (.t 5)))),
 (none, (.v (.load 19 false 1 (.t 18)))),
 (none, (.v (.bin 20 .add false (.t 17) (.t 19)))),
 (none, (.v (.mov 3 (.t 20))))]))))
 (.ops [(none, (.v (.bin 21 .add false (.t 9) (.c (.int .i64 1))))),
 (none, (.v (.mov 9 (.t 21))))])))))))
 (.seq (.ops [(none, (.v (.mov 22 (.t 2)))),
 (none, (.v (.mov 23 (.t 3)))),
 (none, (.v (.mov 2 (.t 22)))),
 (none, (.v (.mov 3 (.t 23))))])
 .ret)))
theorem ok22 : FnOk E 22 24 [.tmp 2, .tmp 3] mc22 := .of func22 (by kernel_rfl) (by kernel_rfl) (by kernel_rfl) (by kernel_rfl) (by kernel_rfl)
/-- alum/alumref39.Distinct -/
def mc23 : MC :=
 (.seq (.ops [(none, (.e (.box 1 (.t 0)))),
 (none, (.e (.alloc 2 [(.int .i64 0), (.int .i64 0)])))])
 (.seq (.ops [(none, (.v (.build 5 [(.int .i64 0), (.int .i64 0)] []))),
 (none, (.e (.alloc 3 [(.int .i64 0), (.int .i64 0)]))),
 (none, (.e (.store 2 true (.t 3) (.t 5))))])
 (.seq (.seq (.ops [(none, (.v (.mov 4 (.c (.int .i64 0)))))])
 (.block 0 (.loop (.seq (.seq (.ops [(none, (.v (.mov 6 (.t 4)))),
 (none, (.v (.fld 7 2 (.t 1)))),
 (none, (.v (.load 8 false 1 (.t 7)))),
 (none, (.p (.len 9 (.t 8)))),
 (none, (.v (.bin 10 .lss false (.t 6) (.t 9))))])
 (.cond 10
 .skip
 (.exit 0)))
 (.seq (.block 1 (.seq (.any true (.pure0 none (.v (.fld 13 0 (.t 3)))
 (.pure0 none (.v (.fld 15 2 (.t 1)))
 (.pure0 none (.v (.load 16 false 1 (.t 15)))
 (.pure0 none (.v (.mov 17 (.t 4)))
 (.pure0 none (.p (.idx 18 9 (.t 16) (.t 17)))
 (.pure0 none (.v (.fld 19 7 (.t 18)))
 (.pure0 none (.v (.load 20 false 1 (.t 19)))
 (.alt none (.v (.load 14 false 1 (.t 13)))
 (.pure1 none (.v (.bin 21 .add false (.t 14) (.t 20)))
 (.pure0 none (.v (.fld 22 0 (.t 3)))
 (.alt none (.e (.store 1 false (.t 22) (.t 21)))
 .done
 .stop)))
 .stop)))))))))
 (.any true (.pure0 none (.v (.fld 23 1 (.t 3)))
 (.pure0 none (.v (.fld 25 2 (.t 1)))
 (.pure0 none (.v (.load 26 false 1 (.t 25)))
 (.pure0 none (.v (.mov 27 (.t 4)))
 (.pure0 none (.p (.idx 28 9 (.t 26) (.t 27)))
 (.pure0 none (.v (.fld 29 8 (.t 28)))
 (.pure0 none (.v (.load 30 false 1 (.t 29)))
 (.alt none (.v (.load 24 false 1 (.t 23)))
 (.pure1 none (.v (.bin 31 .add false (.t 24) (.t 30)))
 (.pure0 none (.v (.fld 32 1 (.t 3)))
 (.alt none (.e (.store 1 false (.t 32) (.t 31)))
 .done
 .stop)))
 .stop)))))))))))
 (.ops [(none, (.v (.mov 11 (.t 4)))),
 (none, (.v (.bin 12 .add false (.t 11) (.c (.int .i64 1))))),
 (none, (.v (.mov 4 (.t 12))))]))))))
 (.seq (.ops [(none, (.v (.load 33 true 2 (.t 3)))),
 (none, (.e (.store 2 true (.t 2) (.t 33))))])
 .ret))))
theorem ok23 : FnOk E 23 34 [.cell 2 46] mc23 := .of func23 (by kernel_rfl) (by kernel_rfl) (by kernel_rfl) (by kernel_rfl) (by kernel_rfl)
/-- slices.ContainsFunc[[]alum/api.Value,alum/api.Value] -/
def mc40 : MC :=
 (.seq (.ops [(none, (.v (.mov 4 (.c (.bool false)))))])
 (.seq (.ops [(none, (.v (.mov 5 (.t 0)))),
 (none, (.v (.mov 6 (.t 1)))),
 (none, (.e (.call (some 7) 64 [(.t 5), (.t 6)]))),
 (none, (.v (.bin 8 .geq false (.t 7) (.c (.int .i64 0))))),
 (none, (.v (.mov 4 (.t 8))))])
 .ret))
theorem ok40 : FnOk E 40 9 [.tmp 4] mc40 := .of func40 (by kernel_rfl) (by kernel_rfl) (by kernel_rfl) (by kernel_rfl) (by kernel_rfl)
/-- slices.IndexFunc[[]alum/api.Value,alum/api.Value] -/
def mc64 : MC :=
 (.seq (.ops [(none, (.v (.mov 4 (.c (.int .i64 0)))))])
 (.seq (.seq (.ops [(none, (.v (.mov 6 (.t 0)))),
 (none, (.p (.len 7 (.t 6)))),
 (none, (.v (.mov 8 (.c (.int .i64 0)))))])
 (.block 0 (.loop (.seq (.ops [(none, (.v (.bin 9 .lss false (.t 8) (.t 7))))])
 (.seq (.cond 9
 .skip
 (.exit 0))
 (.seq (.block 1 (.seq (.ops [(none, (.v (.mov 10 (.t 8)))),
 (none, (.v (.mov 5 (.t 10))))])
 (.seq (.ops [(none, (.v (.mov 11 (.t 1)))),
 (none, (.v (.mov 12 (.t 0)))),
 (none, (.v (.mov 13 (.t 5)))),
 (none, (.p (.idx 14 3 (.t 12) (.t 13)))),
 (none, (.v (.load 15 true 3 (.t 14)))),
 (none, (.e (.callv (some 16) (.t 11) [(.t 15)])))])
 (.cond 16
 (.seq (.ops [(none, (.v (.mov 17 (.t 5)))),
 (none, (.v (.mov 4 (.t 17))))])
 .ret)
 .skip))))
 (.ops [(none, (.v (.bin 18 .add false (.t 8) (.c (.int .i64 1))))),
 (none, (.v (.mov 8 (.t 18))))])))))))
 (.seq (.ops [(none, (.v (.mov 4 (.c (.int .i64 (-1))))))])
 .ret)))
theorem ok64 : FnOk E 64 19 [.tmp 4] mc64 := .of func64 (by kernel_rfl) (by kernel_rfl) (by kernel_rfl) (by kernel_rfl) (by kernel_rfl)
end Go.Proofs.Try
namespace Go.Proofs.Try
open Go.Al
set_option linter.unusedVariables false
set_option linter.unusedSimpArgs false
set_option maxRecDepth 20000
set_option maxHeartbeats 4000000

theorem c64 (l : List VL) (f : FuncId) (caps : List AV) (p : VL → Bool) (hp : ∀ r ∈ l, ACalls E.P f (r.av :: caps) [] (fun q H => q = .bool (p r) ∧ H = [])) (hcap : ∀ H ids bor, caps.map (pa H ids bor 8) = caps) :
    ACalls E.P 64 [.view 3 (l.map VL.av), .fn (.func f) [] caps] [] (fun r H => (∃ n : Int, r = .int .i64 n ∧ (0 ≤ n ↔ l.any p = true)) ∧ H = []) := by
  have hmax := maxLen_eq
  refine ok64.acalls hE hm (by simp) fun N hN => ?_
  unfold mc64
  simp only [lA, ptrCells, ptrAdd, isNil, readsV, readsP, isCall, wrote, srcOf, seval]
  refine LenR_i fun hl => ?_
  rw [List.length_map, hmax] at hl
  simp only [lA, ptrCells, ptrAdd, isNil, readsV, readsP, isCall, wrote, srcOf, seval, List.length_map]
  refine loop_i (fun i : Nat => i ≤ l.length ∧ (l.take i).any p = false) (fun i => ⟨[(0, .view 3 (l.map VL.av)), (1, .fn (.func f) [] caps), (7, .int .i64 l.length), (8, .int .i64 i)], []⟩) (fun i => l.length - i) 0 ⟨by omega, rfl⟩ (Ent.fr (by simp [FrSub, Go.Al.get])) ?_
  rintro i ⟨hi, ha⟩
  by_cases hil : i < l.length
  · have hpi := hp _ (getD_mem hil)
    have hnx := any_next (p := p) hil ha
    have hat := any_at (p := p) hil
    simp only [vl_av] at hpi
    generalize hx : l.getD i default = x at *
    repeat' (first
     | (with_reducible apply St.o; constructor) <;> intro _
     | with_reducible first | refine LenR_i fun _ => ?_ | refine And.intro (by omega) ?_ | (apply Sp.o; constructor) | refine mkl_own ?_ | refine frz0_i ?_
     | ((with_reducible apply Sc.o true; constructor); simp only [lP, seval, IdxR_vls, Int.toNat_natCast, List.length_map, hx, hcap]; refine ⟨_, hpi, ?_⟩; rintro _ _ ⟨rfl, rfl⟩; simp only [lA, lP, ptrCells, ptrAdd, isNil, readsV, readsP, isCall, wrote, srcOf, seval, IdxR_vls, Int.toNat_natCast, List.length_map, hx, hcap])
     | ((with_reducible refine keep0_i ?_); simp only [lP, seval])
     | simp (maxSteps := 1000000) (disch := omega) only [lE, ptrCells, ptrAdd, isNil, readsV, readsP, isCall, wrote, srcOf, seval, IdxR_vls, Int.toNat_natCast, List.length_map, hx, hcap])
    · rename_i h1 h2
      exact ⟨i, rfl, by simp [hat h2]⟩
    · rename_i h1 h2
      exact back_i (i + 1) ⟨by omega, hnx h2⟩ (by omega) (Ent.fr (by simp [FrSub, Go.Al.get]))
    · omega
  · have hlt : ((i : Int) < l.length) = False := by simp; omega
    rw [List.take_of_length_le (by omega)] at ha
    repeat' (first
     | (with_reducible apply St.o; constructor) <;> intro _
     | with_reducible first | refine LenR_i fun _ => ?_ | refine And.intro (by omega) ?_ | (apply Sp.o; constructor) | refine mkl_own ?_ | refine frz0_i ?_
     | ((with_reducible refine keep0_i ?_); simp only [lP, seval])
     | simp (maxSteps := 1000000) (disch := omega) only [lE, ptrCells, ptrAdd, isNil, readsV, readsP, isCall, wrote, srcOf, seval, hlt, decide_false])
    exact ⟨-1, rfl, by simp [ha]⟩
theorem c40 (l : List VL) (f : FuncId) (caps : List AV) (p : VL → Bool) (hp : ∀ r ∈ l, ACalls E.P f (r.av :: caps) [] (fun q H => q = .bool (p r) ∧ H = [])) (hcap : ∀ H ids bor, caps.map (pa H ids bor 8) = caps) (hcap7 : ∀ H ids bor, caps.map (pa H ids bor 7) = caps) :
    ACalls E.P 40 [.view 3 (l.map VL.av), .fn (.func f) [] caps] [] (fun r H => r = .bool (l.any p) ∧ H = []) := by
  have h64 := c64 l f caps p hp hcap
  refine ok40.acalls hE hm (by simp) fun N hN => ?_
  unfold mc40
  simp only [lA, ptrCells, ptrAdd, isNil, readsV, readsP, isCall, wrote, srcOf, seval]
  repeat' (first
   | (with_reducible apply St.o; constructor) <;> intro _
   | with_reducible first | refine LenR_i fun _ => ?_ | refine And.intro (by omega) ?_ | (apply Sp.o; constructor) | refine mkl_own ?_ | refine frz0_i ?_
   | ((with_reducible apply Sc.o true; constructor); simp only [lP, seval, hcap, hcap7]; refine ⟨_, h64, ?_⟩; rintro _ _ ⟨⟨n, rfl, hn⟩, rfl⟩; simp only [lA, lP, ptrCells, ptrAdd, isNil, readsV, readsP, isCall, wrote, srcOf, seval, hcap, hcap7])
   | ((with_reducible refine keep0_i ?_); simp only [lP, seval])
   | simp (maxSteps := 1000000) (disch := omega) only [lE, ptrCells, ptrAdd, isNil, readsV, readsP, isCall, wrote, srcOf, seval, hcap, hcap7])
  simp only [ge_iff_le, hn, Bool.decide_eq_true]

/-! ### Distinct -/
def smallB (l : List Bar) : Prop := (∀ b ∈ l, 0 ≤ b.least ∧ b.least ≤ 16777216 ∧ 0 ≤ b.most ∧ b.most ≤ 16777216) ∧ l.length ≤ 1048576
theorem sums_next {l : List Bar} {i : Nat} (h : i < l.length) : leastSum (l.take (i + 1)) = leastSum (l.take i) + (l.getD i default).least ∧ mostSum (l.take (i + 1)) = mostSum (l.take i) + (l.getD i default).most := by
  rw [take_succD h, leastSum, mostSum, List.foldl_append, List.foldl_append]
  exact ⟨rfl, rfl⟩
theorem sums_le {l : List Bar} (hs : smallB l) : ∀ i, i ≤ l.length → 0 ≤ leastSum (l.take i) ∧ leastSum (l.take i) ≤ i * 16777216 ∧ 0 ≤ mostSum (l.take i) ∧ mostSum (l.take i) ≤ i * 16777216
  | 0, _ => by simp [leastSum, mostSum]
  | i + 1, hi => by
    obtain ⟨h1, h2⟩ := sums_next (show i < l.length by omega)
    have h3 := hs.1 _ (getD_mem (show i < l.length by omega))
    have h4 := sums_le hs i (by omega)
    rw [h1, h2]
    omega
theorem c22 (h : Hist) (hs : smallB h.bars) : ACalls E.P 22 [h.av] [] (fun r H => r = .tup [.int .i64 (leastSum h.bars), .int .i64 (mostSum h.bars)] ∧ H = []) := by
  have hmax := maxLen_eq
  obtain ⟨hr, hn, l⟩ := h
  simp only at hs
  refine ok22.acalls hE hm (by simp) fun N hN => ?_
  unfold mc22
  simp only [lA, ptrCells, ptrAdd, isNil, readsV, readsP, isCall, wrote, srcOf, seval, hist_av]
  refine LenR_i fun hl => ?_
  rw [List.length_map, hmax] at hl
  simp only [lA, ptrCells, ptrAdd, isNil, readsV, readsP, isCall, wrote, srcOf, seval, List.length_map]
  refine loop_i (fun i : Nat => i ≤ l.length) (fun i => ⟨[(2, .int .i64 (leastSum (l.take i))), (3, .int .i64 (mostSum (l.take i))), (7, .view 9 (l.map Bar.av)), (8, .int .i64 l.length), (9, .int .i64 i)], []⟩) (fun i => l.length - i) 0 (by omega) (Ent.to [] false (by simp) (by simp) rfl (by simp only [lP, seval, List.length_map, List.take_zero, leastSum, mostSum, List.foldl_nil] <;> (try simp) <;> (try omega)) (by simp only [lP, seval, List.length_map, List.take_zero, leastSum, mostSum, List.foldl_nil] <;> (try simp) <;> (try omega))) ?_
  intro i hi
  have hle := sums_le hs i hi
  have hsl := hs.2
  by_cases hil : i < l.length
  · obtain ⟨e1, e2⟩ := sums_next hil
    have h3 := hs.1 _ (getD_mem hil)
    generalize hx : l.getD i default = x at *
    generalize leastSum (l.take i) = u at *
    generalize mostSum (l.take i) = v at *
    repeat' (first
     | (with_reducible apply St.o; constructor) <;> intro _
     | with_reducible first | refine LenR_i fun _ => ?_ | refine And.intro (by omega) ?_ | (apply Sp.o; constructor) | refine mkl_own ?_ | refine frz0_i ?_
     | ((with_reducible refine keep0_i ?_); simp only [lP, seval])
     | simp (maxSteps := 1000000) (disch := omega) only [lE, ptrCells, ptrAdd, isNil, readsV, readsP, isCall, wrote, srcOf, seval, IdxR_bars, Int.toNat_natCast, List.length_map, hx])
    all_goals try (exfalso; omega)
    exact back_i (i + 1) (by omega) (by omega) (Ent.to [] false (by simp) (by simp) rfl (by simp only [lP, seval, e1, e2] <;> (try simp) <;> (try omega)) (by simp only [lP, seval, e1, e2] <;> (try simp) <;> (try omega)))
  · have hie : i = l.length := by omega
    rw [hie, List.take_length]
    repeat' (first
     | (with_reducible apply St.o; constructor) <;> intro _
     | with_reducible first | refine LenR_i fun _ => ?_ | refine And.intro (by omega) ?_ | (apply Sp.o; constructor) | refine mkl_own ?_ | refine frz0_i ?_
     | ((with_reducible refine keep0_i ?_); simp only [lP, seval])
     | simp (maxSteps := 1000000) (disch := omega) only [lE, ptrCells, ptrAdd, isNil, readsV, readsP, isCall, wrote, srcOf, seval, List.length_map, Int.lt_irrefl, decide_false])
theorem c23 (h : Hist) (hs : smallB h.bars) : ACalls E.P 23 [h.av] [] (fun r H => r = .agg [.int .i64 (leastSum h.bars), .int .i64 (mostSum h.bars)] ∧ H = []) := by
  have hmax := maxLen_eq
  obtain ⟨hr, hn, l⟩ := h
  simp only at hs
  refine ok23.acalls hE hm (by simp) fun N hN => ?_
  unfold mc23
  simp only [lA, ptrCells, ptrAdd, isNil, readsV, readsP, isCall, wrote, srcOf, seval, hist_av]
  repeat' (first
   | (with_reducible apply St.o; constructor) <;> intro _
   | with_reducible first | refine LenR_i fun _ => ?_ | refine And.intro (by omega) ?_ | (apply Sp.o; constructor) | refine mkl_own ?_ | refine frz0_i ?_
   | simp (maxSteps := 1000000) (disch := omega) only [lE, ptrCells, ptrAdd, isNil, readsV, readsP, isCall, wrote, srcOf, seval])
  refine loop_i (fun i : Nat => i ≤ l.length) (fun i => ⟨[(1, .op 0 0), (2, .op 1 0), (3, .op 2 0), (4, .int .i64 i)], [.box (Hist.mk hr hn l).cs, .box [.int .i64 0, .int .i64 0], .box [.int .i64 (leastSum (l.take i)), .int .i64 (mostSum (l.take i))]]⟩) (fun i => l.length - i) 0 (by omega) (Ent.to [0, 1, 2] false (by simp) (by simp) rfl (by simp only [lP, seval, List.length_map, List.take_zero, leastSum, mostSum, List.foldl_nil] <;> (try simp) <;> (try omega)) (by simp only [lP, seval, List.length_map, List.take_zero, leastSum, mostSum, List.foldl_nil] <;> (try simp) <;> (try omega))) ?_
  intro i hi
  have hle := sums_le hs i hi
  have hsl := hs.2
  by_cases hil : i < l.length
  · obtain ⟨e1, e2⟩ := sums_next hil
    have h3 := hs.1 _ (getD_mem hil)
    generalize hx : l.getD i default = x at *
    generalize leastSum (l.take i) = u at *
    generalize mostSum (l.take i) = v at *
    repeat' (first
     | (with_reducible apply St.o; constructor) <;> intro _
     | with_reducible first | refine LenR_i fun _ => ?_ | refine And.intro (by omega) ?_ | (apply Sp.o; constructor) | refine mkl_own ?_ | refine frz0_i ?_
     | with_reducible refine any_i [2] ?_
     | ((with_reducible refine keep0_i ?_); simp only [lP, seval])
     | simp (maxSteps := 1000000) (disch := omega) only [lE, ptrCells, ptrAdd, isNil, readsV, readsP, isCall, wrote, srcOf, seval, IdxR_bars, Int.toNat_natCast, List.length_map, hx, List.mem_singleton])
    all_goals try (exfalso; omega)
    all_goals exact back_i (i + 1) (by omega) (by omega) (Ent.to [0, 1, 2] false (by simp) (by simp) rfl (by simp only [lP, seval, e1, e2] <;> (try simp) <;> (try omega)) (by simp only [lP, seval, e1, e2] <;> (try simp) <;> (try omega)))
  · have hie : i = l.length := by omega
    rw [hie, List.take_length]
    repeat' (first
     | (with_reducible apply St.o; constructor) <;> intro _
     | with_reducible first | refine LenR_i fun _ => ?_ | refine And.intro (by omega) ?_ | (apply Sp.o; constructor) | refine mkl_own ?_ | refine frz0_i ?_
     | ((with_reducible refine keep0_i ?_); simp only [lP, seval])
     | simp (maxSteps := 1000000) (disch := omega) only [lE, ptrCells, ptrAdd, isNil, readsV, readsP, isCall, wrote, srcOf, seval, List.length_map, Int.lt_irrefl, decide_false, ti46])
end Go.Proofs.Try
