/-
  A part of the proof: see the text of the law.
-/
import Derived.Test.YtlokeliagcaepaaEac
import Derived.Test.YtlokeliagcaepaaPab
set_option linter.unusedSimpArgs false
set_option linter.unusedVariables false
namespace Go.Proofs.Try
open Go.Al
set_option maxRecDepth 100000
/-- alum/alumref39.Few -/
def mc9 : MC :=
 (.seq (.ops [(none, (.v (.mov 2 (.c (.bool false)))))])
 (.seq (.seq (.ops [(none, (.v (.mov 3 (.c (.int .i64 0)))))])
 (.block 0 (.loop (.seq (.seq (.ops [(none, (.v (.mov 5 (.t 3)))),
 (none, (.v (.mov 6 (.t 0)))),
 (none, (.p (.len 7 (.t 6)))),
 (none, (.v (.bin 8 .lss false (.t 5) (.t 7))))])
 (.cond 8
 .skip
 (.exit 0)))
 (.seq (.block 1 (.seq (.ops [(none, (.v (.mov 11 (.t 0)))),
 (none, (.v (.mov 12 (.t 3)))),
 (none, (.p (.idx 13 1 (.t 11) (.t 12)))),
 (none, (.v (.load 14 false 1 (.t 13)))),
 (none, (.e (.call (some 15) 34 [(.t 14)]))),
 (none, (.v (.mov 4 (.t 15))))])
 (.seq (.ops [(none, (.v (.mov 16 (.t 4)))),
 (none, (.v (.not 17 (.t 16)))),
 (none, (.v (.mov 18 (.t 17)))),
 ((some (18, false)), (.v (.mov 19 (.t 0)))),
 ((some (18, false)), (.v (.mov 20 (.t 3)))),
 ((some (18, false)), (.p (.idx 21 1 (.t 19) (.t 20)))),
 ((some (18, false)), (.v (.load 22 false 1 (.t 21)))),
 ((some (18, false)), (.p (.len 23 (.t 22)))),
 ((some (18, false)), (.v (.bin 24 .gtr false (.t 23) (.c (.int .i64 8))))),
 (none, (.v (.pick 25 (.t 18) (.c (.bool true)) (.t 24))))])
 (.cond 25
 (.seq (.ops [(none, (.v (.mov 2 (.c (.bool false)))))])
 .ret)
 .skip))))
 (.ops [(none, (.v (.mov 9 (.t 3)))),
 (none, (.v (.bin 10 .add false (.t 9) (.c (.int .i64 1))))),
 (none, (.v (.mov 3 (.t 10))))]))))))
 (.seq (.ops [(none, (.v (.mov 26 (.t 0)))),
 (none, (.p (.len 27 (.t 26)))),
 (none, (.v (.bin 28 .leq false (.t 27) (.c (.int .i64 60))))),
 (none, (.v (.mov 2 (.t 28))))])
 .ret)))
theorem ok9 : FnOk E 9 29 [.tmp 2] mc9 := .of func9 (by kernel_rfl) (by kernel_rfl) (by kernel_rfl) (by kernel_rfl) (by kernel_rfl)
/-- alum/alumref39.Values -/
def mc33 : MC :=
 (.seq (.ops [(none, (.v (.mov 4 (.c (.raw (.slice none 0 0))))))])
 (.seq (.ops [(none, (.v (.mov 5 (.c (.raw (.slice none 0 0))))))])
 (.seq (.seq (.ops [(none, (.v (.mov 6 (.c (.int .i64 0)))))])
 (.block 0 (.loop (.seq (.seq (.ops [(none, (.v (.mov 7 (.t 6)))),
 (none, (.v (.mov 8 (.t 0)))),
 (none, (.p (.len 9 (.t 8)))),
 (none, (.v (.bin 10 .lss false (.t 7) (.t 9))))])
 (.cond 10
 .skip
 (.exit 0)))
 (.seq (.block 1 (.seq (.ops [(none, (.v (.mov 13 (.t 0)))),
 (none, (.v (.mov 14 (.t 6)))),
 (none, (.p (.idx 15 1 (.t 13) (.t 14)))),
 (none, (.v (.load 16 false 1 (.t 15)))),
 (none, (.v (.mov 17 (.t 1)))),
 (none, (.p (.idx 18 3 (.t 16) (.t 17)))),
 (none, (.v (.fld 19 0 (.t 18)))),
 (none, (.v (.load 20 false 1 (.t 19)))),
 (none, (.v (.bin 21 .neq false (.t 20) (.c (.int .i64 0)))))])
 (.cond 21
 (.ops [(none, (.v (.mov 22 (.t 5)))),
 (none, (.v (.mov 23 (.t 0)))),
 (none, (.v (.mov 24 (.t 6)))),
 (none, (.p (.idx 25 1 (.t 23) (.t 24)))),
 (none, (.v (.load 26 false 1 (.t 25)))),
 (none, (.v (.mov 27 (.t 1)))),
 (none, (.p (.idx 28 3 (.t 26) (.t 27)))),
 (none, (.v (.load 29 true 3 (.t 28)))),
 (none, (.e (.mkl 30 40 3 1 (.agg [(.int .i64 0), (.int .i64 0), (.str ⟨#[]⟩)]) [(0, (.t 29))]))),
 (none, (.e (.app 31 40 3 32 (.t 22) (.t 30)))),
 (none, (.v (.mov 5 (.t 31))))])
 .skip)))
 (.ops [(none, (.v (.mov 11 (.t 6)))),
 (none, (.v (.bin 12 .add false (.t 11) (.c (.int .i64 1))))),
 (none, (.v (.mov 6 (.t 12))))]))))))
 (.seq (.ops [(none, (.v (.mov 32 (.t 5)))),
 (none, (.v (.mov 4 (.t 32))))])
 .ret))))
theorem ok33 : FnOk E 33 33 [.tmp 4] mc33 := .of func33 (by kernel_rfl) (by kernel_rfl) (by kernel_rfl) (by kernel_rfl) (by kernel_rfl)
/-- alum/alumref19.RightRow -/
def mc34 : MC :=
 (.seq (.ops [(none, (.v (.mov 2 (.c (.bool false)))))])
 (.seq (.seq (.ops [(none, (.v (.mov 3 (.c (.int .i64 0)))))])
 (.block 0 (.loop (.seq (.seq (.ops [(none, (.v (.mov 5 (.t 3)))),
 (none, (.v (.mov 6 (.t 0)))),
 (none, (.p (.len 7 (.t 6)))),
 (none, (.v (.bin 8 .lss false (.t 5) (.t 7))))])
 (.cond 8
 .skip
 (.exit 0)))
 (.seq (.block 1 (.seq (.ops [(none, (.v (.mov 11 (.t 0)))),
 (none, (.v (.mov 12 (.t 3)))),
 (none, (.p (.idx 13 3 (.t 11) (.t 12)))),
 (none, (.v (.load 14 true 3 (.t 13)))),
 (none, (.e (.call (some 15) 58 [(.t 14)]))),
 (none, (.v (.mov 4 (.t 15))))])
 (.seq (.ops [(none, (.v (.mov 16 (.t 4)))),
 (none, (.v (.not 17 (.t 16))))])
 (.cond 17
 (.seq (.ops [(none, (.v (.mov 2 (.c (.bool false)))))])
 .ret)
 .skip))))
 (.ops [(none, (.v (.mov 9 (.t 3)))),
 (none, (.v (.bin 10 .add false (.t 9) (.c (.int .i64 1))))),
 (none, (.v (.mov 3 (.t 10))))]))))))
 (.seq (.ops [(none, (.v (.mov 2 (.c (.bool true)))))])
 .ret)))
theorem ok34 : FnOk E 34 18 [.tmp 2] mc34 := .of func34 (by kernel_rfl) (by kernel_rfl) (by kernel_rfl) (by kernel_rfl) (by kernel_rfl)
/-- alum/alumref39.times -/
def mc45 : MC :=
 (.seq (.ops [(none, (.e (.box 3 (.t 1)))),
 (none, (.v (.mov 4 (.c (.int .i64 0)))))])
 (.seq (.ops [(none, (.v (.mov 5 (.c (.int .i64 0)))))])
 (.seq (.seq (.ops [(none, (.v (.mov 6 (.c (.int .i64 0)))))])
 (.block 0 (.loop (.seq (.seq (.ops [(none, (.v (.mov 7 (.t 6)))),
 (none, (.v (.mov 8 (.t 0)))),
 (none, (.p (.len 9 (.t 8)))),
 (none, (.v (.bin 10 .lss false (.t 7) (.t 9))))])
 (.cond 10
 .skip
 (.exit 0)))
 (.seq (.block 1 (.seq (.any false (.pure0 none (.v (.mov 13 (.t 0)))
 (.pure0 none (.v (.mov 14 (.t 6)))
 (.pure0 none (.p (.idx 15 3 (.t 13) (.t 14)))
 (.pure0 none (.v (.load 16 true 3 (.t 15)))
 (.pure0 none (.v (.load 17 true 3 (.t 3)))
 (.pure0 none (.v (.eq 18 false (.agg [(0, false, 1, .int), (1, false, 1, .int), (2, false, 1, .str)]) (.t 16) (.t 17)))
 .done)))))))
 (.cond 18
 (.ops [(none, (.v (.mov 19 (.t 5)))),
 (none, (.v (.bin 20 .add false (.t 19) (.c (.int .i64 1))))),
 (none, (.v (.mov 5 (.t 20))))])
 .skip)))
 (.ops [(none, (.v (.mov 11 (.t 6)))),
 (none, (.v (.bin 12 .add false (.t 11) (.c (.int .i64 1))))),
 (none, (.v (.mov 6 (.t 12))))]))))))
 (.seq (.ops [(none, (.v (.mov 21 (.t 5)))),
 (none, (.v (.mov 4 (.t 21))))])
 .ret))))
theorem ok45 : FnOk E 45 22 [.tmp 4] mc45 := .of func45 (by kernel_rfl) (by kernel_rfl) (by kernel_rfl) (by kernel_rfl) (by kernel_rfl)
/-- alum/alumref39.with -/
def mc62 : MC :=
 (.seq (.ops [(none, (.e (.box 3 (.t 1)))),
 (none, (.v (.mov 4 (.c (.raw (.slice none 0 0))))))])
 (.seq (.ops [(none, (.v (.mov 5 (.c (.raw (.slice none 0 0))))))])
 (.seq (.ops [(none, (.v (.mov 6 (.c (.bool false)))))])
 (.seq (.seq (.ops [(none, (.v (.mov 7 (.c (.int .i64 0)))))])
 (.block 0 (.loop (.seq (.seq (.ops [(none, (.v (.mov 8 (.t 7)))),
 (none, (.v (.mov 9 (.t 0)))),
 (none, (.p (.len 10 (.t 9)))),
 (none, (.v (.bin 11 .lss false (.t 8) (.t 10))))])
 (.cond 11
 .skip
 (.exit 0)))
 (.seq (.block 1 (.seq (.seq (.any false (.pure0 none (.v (.mov 14 (.t 6)))
 (.pure0 none (.v (.not 15 (.t 14)))
 (.pure0 none (.v (.mov 16 (.t 15)))
 (.pure0 (some (16, true)) (.v (.load 17 true 3 (.t 3)))
 (.pure0 (some (16, true)) (.v (.mov 18 (.t 0)))
 (.pure0 (some (16, true)) (.v (.mov 19 (.t 7)))
 (.pure0 (some (16, true)) (.p (.idx 20 3 (.t 18) (.t 19)))
 (.pure0 (some (16, true)) (.v (.load 21 true 3 (.t 20)))
 (.alt (some (16, true)) (.e (.call (some 22) 47 [(.t 17), (.t 21)]))
 (.base (.pure0 (some (16, true)) (.v (.bin 23 .leq false (.t 22) (.c (.int .i64 0))))
 (.pure0 none (.v (.pick 24 (.t 16) (.t 23) (.c (.bool false))))
 .done)))
 .stop))))))))))
 (.cond 24
 (.seq (.ops [(none, (.v (.mov 25 (.t 5)))),
 (none, (.v (.load 26 true 3 (.t 3)))),
 (none, (.e (.mkl 27 40 3 1 (.agg [(.int .i64 0), (.int .i64 0), (.str ⟨#[]⟩)]) [(0, (.t 26))]))),
 (none, (.e (.app 28 40 3 32 (.t 25) (.t 27)))),
 (none, (.v (.mov 5 (.t 28))))])
 (.ops [(none, (.v (.mov 6 (.c (.bool true)))))]))
 .skip))
 (.seq (.any false (.pure0 none (.v (.mov 29 (.t 0)))
 (.pure0 none (.v (.mov 30 (.t 7)))
 (.pure0 none (.p (.idx 31 3 (.t 29) (.t 30)))
 (.pure0 none (.v (.load 32 true 3 (.t 31)))
 (.pure0 none (.v (.load 33 true 3 (.t 3)))
 (.pure0 none (.v (.eq 34 true (.agg [(0, false, 1, .int), (1, false, 1, .int), (2, false, 1, .str)]) (.t 32) (.t 33)))
 .done)))))))
 (.cond 34
 (.ops [(none, (.v (.mov 35 (.t 5)))),
 (none, (.v (.mov 36 (.t 0)))),
 (none, (.v (.mov 37 (.t 7)))),
 (none, (.p (.idx 38 3 (.t 36) (.t 37)))),
 (none, (.v (.load 39 true 3 (.t 38)))),
 (none, (.e (.mkl 40 40 3 1 (.agg [(.int .i64 0), (.int .i64 0), (.str ⟨#[]⟩)]) [(0, (.t 39))]))),
 (none, (.e (.app 41 40 3 32 (.t 35) (.t 40)))),
 (none, (.v (.mov 5 (.t 41))))])
 .skip))))
 (.ops [(none, (.v (.mov 12 (.t 7)))),
 (none, (.v (.bin 13 .add false (.t 12) (.c (.int .i64 1))))),
 (none, (.v (.mov 7 (.t 13))))]))))))
 (.seq (.seq (.ops [(none, (.v (.mov 42 (.t 6)))),
 (none, (.v (.not 43 (.t 42))))])
 (.cond 43
 (.ops [(none, (.v (.mov 44 (.t 5)))),
 (none, (.v (.load 45 true 3 (.t 3)))),
 (none, (.e (.mkl 46 40 3 1 (.agg [(.int .i64 0), (.int .i64 0), (.str ⟨#[]⟩)]) [(0, (.t 45))]))),
 (none, (.e (.app 47 40 3 32 (.t 44) (.t 46)))),
 (none, (.v (.mov 5 (.t 47))))])
 .skip))
 (.seq (.ops [(none, (.v (.mov 48 (.t 5)))),
 (none, (.v (.mov 4 (.t 48))))])
 .ret))))))
theorem ok62 : FnOk E 62 49 [.tmp 4] mc62 := .of func62 (by kernel_rfl) (by kernel_rfl) (by kernel_rfl) (by kernel_rfl) (by kernel_rfl)
end Go.Proofs.Try
namespace Go.Proofs.Try
open Go.Al
set_option linter.unusedVariables false
set_option linter.unusedSimpArgs false
set_option maxRecDepth 20000
set_option maxHeartbeats 4000000

abbrev rowV (r : List VL) : AV := .view 3 (r.map VL.av)
theorem IdxR_rows {P : Program} {m : Nat} {N : FN} {xs : List (List VL)} {n : Int} {d : Nat} {c : Kn} (h0 : 0 ≤ n) (h1 : n < xs.length) : IdxR P m N (xs.map rowV) n d c = rK P m N c d (.vp [rowV (xs.getD n.toNat default)]) :=
  IdxR_map (cs := fun r => [rowV r]) (fun _ => rfl) h0 h1
theorem all_next {α : Type} [Inhabited α] {P : α → Prop} {l : List α} {i : Nat} (h : i < l.length) (h1 : ∀ v ∈ l.take i, P v) (h2 : P (l.getD i default)) : ∀ v ∈ l.take (i + 1), P v := by
  rw [take_succD h]
  intro v hv
  rcases List.mem_append.1 hv with hv | hv
  · exact h1 v hv
  · simp only [List.mem_singleton] at hv; rw [hv]; exact h2
theorem getD_mem {α : Type} [Inhabited α] {l : List α} {i : Nat} (h : i < l.length) : l.getD i default ∈ l := by simp [h]
theorem c34 (l : List VL) : ACalls E.P 34 [.view 3 (l.map VL.av)] [] (fun r H => r = .bool (decide (∀ v ∈ l, v.Right)) ∧ H = []) := by
  have hmax := maxLen_eq
  refine ok34.acalls hE hm (by simp) fun N hN => ?_
  unfold mc34
  simp only [lA, ptrCells, ptrAdd, isNil, readsV, readsP, isCall, wrote, srcOf, seval]
  refine loop_i (fun i : Nat => i ≤ l.length ∧ ∀ v ∈ l.take i, v.Right) (fun i => ⟨[(0, .view 3 (l.map VL.av)), (3, .int .i64 i)], []⟩) (fun i => l.length - i) 0 ⟨by omega, by simp⟩ (Ent.to [] false (by simp) (by simp) rfl (by simp only [lP, seval, List.length_map] <;> (try simp) <;> (try omega)) (by simp only [lP, seval, List.length_map] <;> (try simp) <;> (try omega))) ?_
  rintro i ⟨hi, ha⟩
  have h58 := c58 (l.getD i default)
  simp only [vl_av] at h58
  repeat' (first
   | (with_reducible apply St.o; constructor) <;> intro _
   | with_reducible first | refine LenR_i fun _ => ?_ | refine And.intro (by omega) ?_ | (apply Sp.o; constructor) | refine mkl_own ?_ | refine frz0_i ?_
   | ((with_reducible apply Sc.o true; constructor); simp only [lP, seval, IdxR_vls, Int.toNat_natCast, List.length_map]; refine ⟨_, h58, ?_⟩; rintro _ _ ⟨rfl, rfl⟩; simp only [lA, lP, ptrCells, ptrAdd, isNil, readsV, readsP, isCall, wrote, srcOf, seval, IdxR_vls, Int.toNat_natCast, List.length_map])
   | ((with_reducible refine keep0_i ?_); simp only [lP, seval])
   | simp (maxSteps := 1000000) (disch := omega) only [lE, ptrCells, ptrAdd, isNil, readsV, readsP, isCall, wrote, srcOf, seval, IdxR_vls, Int.toNat_natCast, List.length_map])
  · rename_i h1 h2
    rw [eq_comm, AV.bool.injEq, decide_eq_false_iff_not]
    have h2 : ¬ (l.getD i default).Right := by simpa using h2
    exact fun h => h2 (h _ (getD_mem (by omega)))
  · rename_i h1 h2
    exact back_i (i + 1) ⟨by omega, all_next (by omega) ha (by simpa using h2)⟩ (by omega) (Ent.to [] false (by simp) (by simp) rfl (by simp only [lP, seval] <;> (try simp) <;> (try omega)) (by simp only [lP, seval] <;> (try simp) <;> (try omega)))
  · rename_i h1
    rw [List.take_of_length_le (by omega)] at ha
    rw [decide_eq_true ha]
theorem c9 (l : List (List VL)) : ACalls E.P 9 [.view 1 (l.map rowV)] [] (fun r H => r = .bool (decide (fewR l)) ∧ H = []) := by
  have hmax := maxLen_eq
  refine ok9.acalls hE hm (by simp) fun N hN => ?_
  unfold mc9
  simp only [lA, ptrCells, ptrAdd, isNil, readsV, readsP, isCall, wrote, srcOf, seval]
  refine loop_i (fun i : Nat => i ≤ l.length ∧ ∀ r ∈ l.take i, (∀ v ∈ r, v.Right) ∧ r.length ≤ 8) (fun i => ⟨[(0, .view 1 (l.map rowV)), (3, .int .i64 i)], []⟩) (fun i => l.length - i) 0 ⟨by omega, by simp⟩ (Ent.to [] false (by simp) (by simp) rfl (by simp only [lP, seval, List.length_map] <;> (try simp) <;> (try omega)) (by simp only [lP, seval, List.length_map] <;> (try simp) <;> (try omega))) ?_
  rintro i ⟨hi, ha⟩
  have h34 := c34 (l.getD i default)
  repeat' (first
   | (with_reducible apply St.o; constructor) <;> intro _
   | with_reducible first | refine LenR_i fun _ => ?_ | refine And.intro (by omega) ?_ | (apply Sp.o; constructor) | refine mkl_own ?_ | refine frz0_i ?_
   | ((with_reducible apply Sc.o true; constructor); simp only [lP, seval, IdxR_rows, Int.toNat_natCast, List.length_map]; refine ⟨_, h34, ?_⟩; rintro _ _ ⟨rfl, rfl⟩; simp only [lA, lP, ptrCells, ptrAdd, isNil, readsV, readsP, isCall, wrote, srcOf, seval, IdxR_rows, Int.toNat_natCast, List.length_map])
   | ((with_reducible refine keep0_i ?_); simp only [lP, seval])
   | simp (maxSteps := 1000000) (disch := omega) only [lE, ptrCells, ptrAdd, isNil, readsV, readsP, isCall, wrote, srcOf, seval, IdxR_rows, Int.toNat_natCast, List.length_map])
  · rename_i h1 h2 _ h3
    rw [eq_comm, AV.bool.injEq, decide_eq_false_iff_not]
    exact fun h => by have := (h.1 _ (getD_mem (show i < l.length by omega))).2; omega
  · rename_i h1 h2 _ h3
    exact back_i (i + 1) ⟨by omega, all_next (by omega) ha ⟨h2, by omega⟩⟩ (by omega) (Ent.to [] false (by simp) (by simp) rfl (by simp only [lP, seval] <;> (try simp) <;> (try omega)) (by simp only [lP, seval] <;> (try simp) <;> (try omega)))
  · rename_i h1 h2
    rw [eq_comm, AV.bool.injEq, decide_eq_false_iff_not]
    exact fun h => h2 (h.1 _ (getD_mem (show i < l.length by omega))).1
  · rename_i h1
    rw [List.take_of_length_le (by omega)] at ha
    congr 1
    rw [decide_eq_decide]
    exact ⟨fun h => ⟨ha, by omega⟩, fun h => by have := h.2; omega⟩
theorem c45 (l : List VL) (v : VL) : ACalls E.P 45 [.view 3 (l.map VL.av), v.av] [] (fun r H => r = .int .i64 (timesV l v) ∧ H = []) := by
  have hmax := maxLen_eq
  refine ok45.acalls hE hm (by simp) fun N hN => ?_
  unfold mc45
  simp only [lA, ptrCells, ptrAdd, isNil, readsV, readsP, isCall, wrote, srcOf, seval, vl_av]
  refine loop_i (fun i : Nat => i ≤ l.length) (fun i => ⟨[(0, .view 3 (l.map VL.av)), (3, .op 0 0), (5, .int .i64 (timesV (l.take i) v)), (6, .int .i64 i)], [.box v.cs]⟩) (fun i => l.length - i) 0 (by omega) (Ent.to [0] false (by simp) (by simp) rfl (by simp only [lP, seval, List.length_map, timesV, List.take_zero, List.filter_nil, List.length_nil] <;> (try simp) <;> (try omega)) (by simp only [lP, seval, List.length_map, timesV, List.take_zero, List.filter_nil, List.length_nil] <;> (try simp) <;> (try omega))) ?_
  rintro i hi
  have hle : timesV (l.take i) v ≤ i := Nat.le_trans (List.length_filter_le _ _) (by simp; omega)
  by_cases hil : i < l.length
  · have hnx : timesV (l.take (i + 1)) v = timesV (l.take i) v + (if l.getD i default = v then 1 else 0) := by
      rw [take_succD hil, timesV, List.filter_append, List.length_append, List.filter_cons]
      split <;> rename_i h <;> simp at h <;> simp [timesV, h]
    generalize timesV (l.take i) v = q at *
    generalize hx : l.getD i default = x at *
    repeat' (first
     | (with_reducible apply St.o; constructor) <;> intro _
     | with_reducible first | refine LenR_i fun _ => ?_ | refine And.intro (by omega) ?_ | (apply Sp.o; constructor) | refine mkl_own ?_ | refine frz0_i ?_ | refine any_i [] ?_
     | ((with_reducible refine keep0_i ?_); simp only [lP, seval])
     | simp (maxSteps := 1000000) (disch := omega) only [lE, ptrCells, ptrAdd, isNil, readsV, readsP, isCall, wrote, srcOf, seval, IdxR_vls, Int.toNat_natCast, List.length_map, hx, vl_eq, vl_eq2])
    · rename_i h1 h2
      rw [if_pos h2] at hnx
      exact back_i (i + 1) (by omega) (by omega) (Ent.to [0] false (by simp) (by simp) rfl (by simp only [lP, seval, hnx, Int.natCast_add, Int.natCast_one] <;> (try simp) <;> (try omega)) (by simp only [lP, seval, hnx, Int.natCast_add, Int.natCast_one] <;> (try simp) <;> (try omega)))
    · rename_i h1 h2
      rw [if_neg h2] at hnx
      exact back_i (i + 1) (by omega) (by omega) (Ent.to [0] false (by simp) (by simp) rfl (by simp only [lP, seval, hnx, Nat.add_zero] <;> (try simp) <;> (try omega)) (by simp only [lP, seval, hnx, Nat.add_zero] <;> (try simp) <;> (try omega)))
    · omega
  · have hie : i = l.length := by omega
    rw [hie, List.take_length]
    repeat' (first
     | (with_reducible apply St.o; constructor) <;> intro _
     | with_reducible first | refine LenR_i fun _ => ?_ | refine And.intro (by omega) ?_ | (apply Sp.o; constructor) | refine mkl_own ?_ | refine frz0_i ?_
     | ((with_reducible refine keep0_i ?_); simp only [lP, seval])
     | simp (maxSteps := 1000000) (disch := omega) only [lE, ptrCells, ptrAdd, isNil, readsV, readsP, isCall, wrote, srcOf, seval, List.length_map, Int.lt_irrefl, decide_false])
theorem c33 (l : List (List VL)) (c : Nat) (hc : ∀ r ∈ l, c < r.length) (hl60 : l.length ≤ 1048576) : ACalls E.P 33 [.view 1 (l.map rowV), .int .i64 c] [] (fun r H => r = .slc 0 3 (valuesC l c).length ∧ H = [.arr 40 3 ((valuesC l c).map VL.av)]) := by
  have hmax := maxLen_eq
  refine ok33.acalls hE hm (by simp) fun N hN => ?_
  unfold mc33
  simp only [lA, ptrCells, ptrAdd, isNil, readsV, readsP, isCall, wrote, srcOf, seval]
  refine loop_i (fun i : Nat => i ≤ l.length) (fun i => ⟨[(0, .view 1 (l.map rowV)), (1, .int .i64 c), (5, .slc 0 3 (valuesC (l.take i) c).length), (6, .int .i64 i)], [.arr 40 3 ((valuesC (l.take i) c).map VL.av)]⟩) (fun i => l.length - i) 0 (by omega)
    (Ent.ghost' 5 40 3 (by omega) rfl (Ent.to [0] false (by simp) (by simp) rfl (by simp only [lP, seval, List.length_map, valuesC, List.take_zero, List.map_nil, List.filter_nil, List.length_nil] <;> (try simp) <;> (try omega)) (by simp only [lP, seval, List.length_map, valuesC, List.take_zero, List.map_nil, List.filter_nil, List.length_nil] <;> (try simp) <;> (try omega)))) ?_
  rintro i hi
  have hle : (valuesC (l.take i) c).length ≤ l.length := Nat.le_trans (List.length_filter_le _ _) (by simp; omega)
  by_cases hil : i < l.length
  · have hcr := hc _ (getD_mem hil)
    have hnx : valuesC (l.take (i + 1)) c = valuesC (l.take i) c ++ (if ((l.getD i default).getD c default).k = 0 then [] else [(l.getD i default).getD c default]) := by
      rw [take_succD hil, valuesC, List.map_append, List.filter_append]
      congr 1
      simp only [List.map_cons, List.map_nil, List.filter_cons, List.filter_nil]
      split <;> rename_i h <;> simp at h <;> simp [h]
    generalize valuesC (l.take i) c = q at *
    generalize hx : l.getD i default = x at *
    generalize hv : x.getD c default = v at *
    repeat' (first
     | (with_reducible apply St.o; constructor) <;> intro _
     | with_reducible first | refine LenR_i fun _ => ?_ | refine And.intro (by omega) ?_ | (apply Sp.o; constructor) | refine mkl_own ?_ | refine frz0_i ?_ | refine any_i [] ?_
     | simp (maxSteps := 1000000) (disch := omega) only [lE, ptrCells, ptrAdd, isNil, readsV, readsP, isCall, wrote, srcOf, seval, IdxR_rows, IdxR_vls, Int.toNat_natCast, List.length_map, List.length_cons, List.length_nil, fillE, hx, hv])
    · rename_i h1 h2
      rw [if_neg h2] at hnx
      exact back_i (i + 1) (by omega) (by omega) (Ent.to [2] false (by simp) (by simp) rfl (by simp only [lP, seval, hnx, List.map_append, List.map_cons, List.map_nil, List.length_append, List.length_cons, List.length_nil, pa_vls, vl_av, pa_agg] <;> (try simp) <;> (try omega)) (by simp only [lP, seval, hnx, List.map_append, List.map_cons, List.map_nil, List.length_append, List.length_cons, List.length_nil, pa_vls, vl_av, pa_agg] <;> (try simp) <;> (try omega)))
    · rename_i h1 h2
      rw [if_pos h2, List.append_nil] at hnx
      exact back_i (i + 1) (by omega) (by omega) (Ent.to [0] false (by simp) (by simp) rfl (by simp only [lP, seval, hnx, pa_vls] <;> (try simp) <;> (try omega)) (by simp only [lP, seval, hnx, pa_vls] <;> (try simp) <;> (try omega)))
    · omega
  · have hie : i = l.length := by omega
    rw [hie, List.take_length]
    repeat' (first
     | (with_reducible apply St.o; constructor) <;> intro _
     | with_reducible first | refine LenR_i fun _ => ?_ | refine And.intro (by omega) ?_ | (apply Sp.o; constructor) | refine mkl_own ?_ | refine frz0_i ?_
     | simp (maxSteps := 1000000) (disch := omega) only [lE, ptrCells, ptrAdd, isNil, readsV, readsP, isCall, wrote, srcOf, seval, List.length_map, Int.lt_irrefl, decide_false])
    exact keep_i [0] false (by simp) (by simp) rfl ⟨by simp only [lP, seval], by simp only [lP, seval, pa_vls]⟩
theorem c62 (l : List VL) (v : VL) (hl60 : l.length ≤ 1048576) : ACalls E.P 62 [.view 3 (l.map VL.av), v.av] [] (fun r H => r = .slc 0 3 (withV l v).length ∧ H = [.arr 40 3 ((withV l v).map VL.av)]) := by
  have hmax := maxLen_eq
  refine ok62.acalls hE hm (by simp) fun N hN => ?_
  unfold mc62
  simp only [lA, ptrCells, ptrAdd, isNil, readsV, readsP, isCall, wrote, srcOf, seval, vl_av]
  refine loop_i (fun i : Nat => i ≤ l.length) (fun i => ⟨[(0, .view 3 (l.map VL.av)), (3, .op 0 0), (5, .slc 1 3 (withN l v i).1.length), (6, .bool (withN l v i).2), (7, .int .i64 i)], [.box v.cs, .arr 40 3 ((withN l v i).1.map VL.av)]⟩) (fun i => l.length - i) 0 (by omega)
    (Ent.ghost' 5 40 3 (by omega) rfl (Ent.to [0, 1] false (by simp) (by simp) rfl (by simp only [lP, seval, List.length_map, withN, List.map_nil, List.length_nil] <;> (try simp) <;> (try omega)) (by simp only [lP, seval, List.length_map, withN, List.map_nil, List.length_nil] <;> (try simp) <;> (try omega)))) ?_
  rintro i hi
  have hle := withN_le l v i
  by_cases hil : i < l.length
  · have hnx := withN_succ l v i
    have h47 := c47 v (l.getD i default)
    simp only [vl_av] at h47
    rcases hw : withN l v i with ⟨q, p⟩
    simp only [hw] at hnx hle ⊢
    generalize hx : l.getD i default = x at *
    have hq : q.length ≤ i + 1 := by split at hle <;> omega
    clear hle
    repeat' (first
     | (with_reducible apply St.o; constructor) <;> intro _
     | with_reducible first | refine LenR_i fun _ => ?_ | refine And.intro (by omega) ?_ | (apply Sp.o; constructor) | refine mkl_own ?_ | refine frz0_i ?_ | refine any_i [] ?_
     | ((with_reducible apply Sc.o true; constructor); simp only [lP, seval, IdxR_vls, Int.toNat_natCast, List.length_map, List.length_cons, List.length_nil, List.length_append, fillE, hx, vl_eq, vl_eq2]; refine ⟨_, h47, ?_⟩; rintro _ _ ⟨rfl, rfl⟩; simp only [lA, lP, ptrCells, ptrAdd, isNil, readsV, readsP, isCall, wrote, srcOf, seval, IdxR_vls, Int.toNat_natCast, List.length_map, List.length_cons, List.length_nil, List.length_append, fillE, hx, vl_eq, vl_eq2])
     | simp (maxSteps := 1000000) (disch := omega) only [lE, ptrCells, ptrAdd, isNil, readsV, readsP, isCall, wrote, srcOf, seval, IdxR_vls, Int.toNat_natCast, List.length_map, List.length_cons, List.length_nil, List.length_append, fillE, hx, vl_eq, vl_eq2])
    all_goals try (exfalso; omega)
    · rename_i q1 q2 q3
      obtain rfl : p = false := by simpa using q1
      simp only [Bool.not_false, Bool.true_and, Bool.false_or, decide_eq_true q2, if_true, if_neg q3] at hnx
      exact back_i (i + 1) (by omega) (by omega) (Ent.to [0, 5] false (by simp) (by simp) rfl (by simp only [lP, seval, hnx, List.map_append, List.map_cons, List.map_nil, List.length_append, List.length_cons, List.length_nil, List.append_assoc, List.cons_append, List.nil_append, pa_vls, vl_av, pa_agg] <;> (try simp) <;> (try omega)) (by simp only [lP, seval, hnx, List.map_append, List.map_cons, List.map_nil, List.length_append, List.length_cons, List.length_nil, List.append_assoc, List.cons_append, List.nil_append, pa_vls, vl_av, pa_agg] <;> (try simp) <;> (try omega)))
    · rename_i q1 q2 q3
      obtain rfl : p = false := by simpa using q1
      simp only [Bool.not_false, Bool.true_and, Bool.false_or, decide_eq_true q2, if_true, if_pos q3] at hnx
      exact back_i (i + 1) (by omega) (by omega) (Ent.to [0, 3] false (by simp) (by simp) rfl (by simp only [lP, seval, hnx, List.map_append, List.map_cons, List.map_nil, List.length_append, List.length_cons, List.length_nil, List.append_assoc, List.cons_append, List.nil_append, pa_vls, vl_av, pa_agg] <;> (try simp) <;> (try omega)) (by simp only [lP, seval, hnx, List.map_append, List.map_cons, List.map_nil, List.length_append, List.length_cons, List.length_nil, List.append_assoc, List.cons_append, List.nil_append, pa_vls, vl_av, pa_agg] <;> (try simp) <;> (try omega)))
    · rename_i q1 q2 q3
      obtain rfl : p = false := by simpa using q1
      simp only [Bool.not_false, Bool.true_and, Bool.false_or, decide_eq_false q2, Bool.false_eq_true, if_false, if_neg q3] at hnx
      exact back_i (i + 1) (by omega) (by omega) (Ent.to [0, 3] false (by simp) (by simp) rfl (by simp only [lP, seval, hnx, List.map_append, List.map_cons, List.map_nil, List.length_append, List.length_cons, List.length_nil, List.append_assoc, List.cons_append, List.nil_append, pa_vls, vl_av, pa_agg] <;> (try simp) <;> (try omega)) (by simp only [lP, seval, hnx, List.map_append, List.map_cons, List.map_nil, List.length_append, List.length_cons, List.length_nil, List.append_assoc, List.cons_append, List.nil_append, pa_vls, vl_av, pa_agg] <;> (try simp) <;> (try omega)))
    · rename_i q1 q2 q3
      obtain rfl : p = false := by simpa using q1
      simp only [Bool.not_false, Bool.true_and, Bool.false_or, decide_eq_false q2, Bool.false_eq_true, if_false, if_pos q3] at hnx
      exact back_i (i + 1) (by omega) (by omega) (Ent.to [0, 1] false (by simp) (by simp) rfl (by simp only [lP, seval, hnx, List.map_append, List.map_cons, List.map_nil, List.length_append, List.length_cons, List.length_nil, List.append_assoc, List.cons_append, List.nil_append, pa_vls, vl_av, pa_agg] <;> (try simp) <;> (try omega)) (by simp only [lP, seval, hnx, List.map_append, List.map_cons, List.map_nil, List.length_append, List.length_cons, List.length_nil, List.append_assoc, List.cons_append, List.nil_append, pa_vls, vl_av, pa_agg] <;> (try simp) <;> (try omega)))
    · rename_i q1 q2
      obtain rfl : p = true := by simpa using q1
      simp only [Bool.not_true, Bool.false_and, Bool.true_or, Bool.false_eq_true, if_false, if_neg q2] at hnx
      exact back_i (i + 1) (by omega) (by omega) (Ent.to [0, 3] false (by simp) (by simp) rfl (by simp only [lP, seval, hnx, List.map_append, List.map_cons, List.map_nil, List.length_append, List.length_cons, List.length_nil, List.append_assoc, List.cons_append, List.nil_append, pa_vls, vl_av, pa_agg] <;> (try simp) <;> (try omega)) (by simp only [lP, seval, hnx, List.map_append, List.map_cons, List.map_nil, List.length_append, List.length_cons, List.length_nil, List.append_assoc, List.cons_append, List.nil_append, pa_vls, vl_av, pa_agg] <;> (try simp) <;> (try omega)))
    · rename_i q1 q2
      obtain rfl : p = true := by simpa using q1
      simp only [Bool.not_true, Bool.false_and, Bool.true_or, Bool.false_eq_true, if_false, if_pos q2] at hnx
      exact back_i (i + 1) (by omega) (by omega) (Ent.to [0, 1] false (by simp) (by simp) rfl (by simp only [lP, seval, hnx, List.map_append, List.map_cons, List.map_nil, List.length_append, List.length_cons, List.length_nil, List.append_assoc, List.cons_append, List.nil_append, pa_vls, vl_av, pa_agg] <;> (try simp) <;> (try omega)) (by simp only [lP, seval, hnx, List.map_append, List.map_cons, List.map_nil, List.length_append, List.length_cons, List.length_nil, List.append_assoc, List.cons_append, List.nil_append, pa_vls, vl_av, pa_agg] <;> (try simp) <;> (try omega)))
  · have hie : i = l.length := by omega
    rw [hie]
    have hwv : withV l v = if (withN l v l.length).2 = true then (withN l v l.length).1 else (withN l v l.length).1 ++ [v] := rfl
    rw [hie] at hle
    rcases hw : withN l v l.length with ⟨q, p⟩
    simp only [hw] at hwv hle ⊢
    have hq : q.length ≤ l.length + 1 := by split at hle <;> omega
    clear hle
    repeat' (first
     | (with_reducible apply St.o; constructor) <;> intro _
     | with_reducible first | refine LenR_i fun _ => ?_ | refine And.intro (by omega) ?_ | (apply Sp.o; constructor) | refine mkl_own ?_ | refine frz0_i ?_
     | simp (maxSteps := 1000000) (disch := omega) only [lE, ptrCells, ptrAdd, isNil, readsV, readsP, isCall, wrote, srcOf, seval, List.length_map, Int.lt_irrefl, decide_false, List.length_cons, List.length_nil, fillE])
    · rename_i q1
      obtain rfl : p = false := by simpa using q1
      rw [if_neg (by decide)] at hwv
      rw [hwv]
      exact keep_i [3] false (by simp) (by simp) rfl ⟨by simp only [lP, seval, List.length_append, List.length_cons, List.length_nil], by simp only [lP, seval, List.map_append, List.map_cons, List.map_nil, pa_vls, vl_av, pa_agg]⟩
    · rename_i q1
      obtain rfl : p = true := by simpa using q1
      rw [if_pos rfl] at hwv
      rw [hwv]
      exact keep_i [1] false (by simp) (by simp) rfl ⟨by simp only [lP, seval], by simp only [lP, seval, pa_vls]⟩
end Go.Proofs.Try
