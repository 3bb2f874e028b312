/-
  A part of the proof: see the text of the law.
-/
import Derived.Test.YtlokeliagcaepaaEad
set_option linter.unusedSimpArgs false
set_option linter.unusedVariables false
namespace Go.Proofs.Try
open Go.Al
set_option maxRecDepth 100000
/-- alum/alumref39.Different -/
def mc32 : MC :=
 (.seq (.ops [(none, (.v (.mov 2 (.c (.raw (.slice none 0 0))))))])
 (.seq (.ops [(none, (.v (.mov 3 (.c (.raw (.slice none 0 0))))))])
 (.seq (.seq (.ops [(none, (.v (.mov 4 (.c (.int .i64 0)))))])
 (.block 0 (.loop (.seq (.seq (.ops [(none, (.v (.mov 5 (.t 4)))),
 (none, (.v (.mov 6 (.t 0)))),
 (none, (.p (.len 7 (.t 6)))),
 (none, (.v (.bin 8 .lss false (.t 5) (.t 7))))])
 (.cond 8
 .skip
 (.exit 0)))
 (.seq (.block 1 (.ops [(none, (.v (.mov 11 (.t 3)))),
 (none, (.v (.mov 12 (.t 0)))),
 (none, (.v (.mov 13 (.t 4)))),
 (none, (.p (.idx 14 3 (.t 12) (.t 13)))),
 (none, (.v (.load 15 true 3 (.t 14)))),
 (none, (.e (.call (some 16) 62 [(.t 11), (.t 15)]))),
 (none, (.v (.mov 3 (.t 16))))]))
 (.ops [(none, (.v (.mov 9 (.t 4)))),
 (none, (.v (.bin 10 .add false (.t 9) (.c (.int .i64 1))))),
 (none, (.v (.mov 4 (.t 10))))]))))))
 (.seq (.ops [(none, (.v (.mov 17 (.t 3)))),
 (none, (.v (.mov 2 (.t 17))))])
 .ret))))
theorem ok32 : FnOk E 32 18 [.tmp 2] mc32 := .of func32 (by kernel_rfl) (by kernel_rfl) (by kernel_rfl) (by kernel_rfl) (by kernel_rfl)
/-- slices.ContainsFunc[[]alum/api.Row,alum/api.Row] -/
def mc37 : MC :=
 (.seq (.ops [(none, (.v (.mov 4 (.c (.bool false)))))])
 (.seq (.ops [(none, (.v (.mov 5 (.t 0)))),
 (none, (.v (.mov 6 (.t 1)))),
 (none, (.e (.call (some 7) 63 [(.t 5), (.t 6)]))),
 (none, (.v (.bin 8 .geq false (.t 7) (.c (.int .i64 0))))),
 (none, (.v (.mov 4 (.t 8))))])
 .ret))
theorem ok37 : FnOk E 37 9 [.tmp 4] mc37 := .of func37 (by kernel_rfl) (by kernel_rfl) (by kernel_rfl) (by kernel_rfl) (by kernel_rfl)
/-- alum/stats.Of$1 -/
def mc38 : MC :=
 (.seq (.ops [(none, (.v (.mov 3 (.c (.bool false)))))])
 (.seq (.ops [(none, (.v (.mov 4 (.t 0)))),
 (none, (.p (.len 5 (.t 4)))),
 (none, (.v (.load 6 false 1 (.t 1)))),
 (none, (.v (.bin 7 .neq false (.t 5) (.t 6)))),
 (none, (.v (.mov 3 (.t 7))))])
 .ret))
theorem ok38 : FnOk E 38 8 [.tmp 3] mc38 := .of func38 (by kernel_rfl) (by kernel_rfl) (by kernel_rfl) (by kernel_rfl) (by kernel_rfl)
/-- alum/stats.Histogram$1 -/
def mc39 : MC :=
 (.seq (.ops [(none, (.v (.mov 3 (.c (.bool false)))))])
 (.seq (.ops [(none, (.v (.load 4 false 1 (.t 1)))),
 (none, (.v (.bin 5 .lss false (.t 4) (.c (.int .i64 0))))),
 (none, (.v (.mov 6 (.t 5)))),
 ((some (6, false)), (.v (.load 7 false 1 (.t 1)))),
 ((some (6, false)), (.v (.mov 8 (.t 0)))),
 ((some (6, false)), (.p (.len 9 (.t 8)))),
 ((some (6, false)), (.v (.bin 10 .geq false (.t 7) (.t 9)))),
 (none, (.v (.pick 11 (.t 6) (.c (.bool true)) (.t 10)))),
 (none, (.v (.mov 3 (.t 11))))])
 .ret))
theorem ok39 : FnOk E 39 12 [.tmp 3] mc39 := .of func39 (by kernel_rfl) (by kernel_rfl) (by kernel_rfl) (by kernel_rfl) (by kernel_rfl)
/-- alum/stats.Histogram$2 -/
def mc41 : MC :=
 (.seq (.ops [(none, (.e (.box 2 (.t 0)))),
 (none, (.v (.mov 3 (.c (.bool false)))))])
 (.seq (.any false (.pure0 none (.v (.fld 4 0 (.t 2)))
 (.pure0 none (.v (.load 5 false 1 (.t 4)))
 (.pure0 none (.v (.load 6 false 1 (.t 1)))
 (.pure0 none (.p (.idx 7 3 (.t 6) (.c (.int .i64 0))))
 (.pure0 none (.v (.fld 8 0 (.t 7)))
 (.pure0 none (.v (.load 9 false 1 (.t 8)))
 (.pure0 none (.v (.bin 10 .neq false (.t 5) (.t 9)))
 (.pure0 none (.v (.mov 3 (.t 10)))
 .done)))))))))
 .ret))
theorem ok41 : FnOk E 41 11 [.tmp 3] mc41 := .of func41 (by kernel_rfl) (by kernel_rfl) (by kernel_rfl) (by kernel_rfl) (by kernel_rfl)
/-- alum/stats.Histogram$3 -/
def mc42 : MC :=
 (.seq (.ops [(none, (.e (.box 2 (.t 0)))),
 (none, (.e (.box 3 (.t 1)))),
 (none, (.v (.mov 4 (.c (.int .i64 0)))))])
 (.seq (.ops [(none, (.v (.load 5 true 3 (.t 2)))),
 (none, (.v (.load 6 true 3 (.t 3)))),
 (none, (.e (.call (some 7) 43 [(.t 5), (.t 6)]))),
 (none, (.v (.mov 4 (.t 7))))])
 .ret))
theorem ok42 : FnOk E 42 8 [.tmp 4] mc42 := .of func42 (by kernel_rfl) (by kernel_rfl) (by kernel_rfl) (by kernel_rfl) (by kernel_rfl)
/-- slices.IndexFunc[[]alum/api.Row,alum/api.Row] -/
def mc63 : MC :=
 (.seq (.ops [(none, (.v (.mov 4 (.c (.int .i64 0)))))])
 (.seq (.seq (.ops [(none, (.v (.mov 6 (.t 0)))),
 (none, (.p (.len 7 (.t 6)))),
 (none, (.v (.mov 8 (.c (.int .i64 0)))))])
 (.block 0 (.loop (.seq (.ops [(none, (.v (.bin 9 .lss false (.t 8) (.t 7))))])
 (.seq (.cond 9
 .skip
 (.exit 0))
 (.seq (.block 1 (.seq (.ops [(none, (.v (.mov 10 (.t 8)))),
 (none, (.v (.mov 5 (.t 10))))])
 (.seq (.ops [(none, (.v (.mov 11 (.t 1)))),
 (none, (.v (.mov 12 (.t 0)))),
 (none, (.v (.mov 13 (.t 5)))),
 (none, (.p (.idx 14 1 (.t 12) (.t 13)))),
 (none, (.v (.load 15 false 1 (.t 14)))),
 (none, (.e (.callv (some 16) (.t 11) [(.t 15)])))])
 (.cond 16
 (.seq (.ops [(none, (.v (.mov 17 (.t 5)))),
 (none, (.v (.mov 4 (.t 17))))])
 .ret)
 .skip))))
 (.ops [(none, (.v (.bin 18 .add false (.t 8) (.c (.int .i64 1))))),
 (none, (.v (.mov 8 (.t 18))))])))))))
 (.seq (.ops [(none, (.v (.mov 4 (.c (.int .i64 (-1))))))])
 .ret)))
theorem ok63 : FnOk E 63 19 [.tmp 4] mc63 := .of func63 (by kernel_rfl) (by kernel_rfl) (by kernel_rfl) (by kernel_rfl) (by kernel_rfl)
end Go.Proofs.Try
namespace Go.Proofs.Try
open Go.Al
set_option linter.unusedVariables false
set_option linter.unusedSimpArgs false
set_option maxRecDepth 20000
set_option maxHeartbeats 4000000

theorem novL_vls : ∀ {xs : List VL}, novL (xs.map VL.av) = true
  | [] => rfl
  | x :: xs => by
    rw [List.map_cons]
    unfold novL
    rw [novL_vls (xs := xs)]
    rfl
theorem c32 (l : List VL) (hl60 : l.length ≤ 1000000) : ACalls E.P 32 [.view 3 (l.map VL.av)] [] (fun r H => r = .slc 0 3 (diffV l).length ∧ H = [.arr 40 3 ((diffV l).map VL.av)]) := by
  have hmax := maxLen_eq
  refine ok32.acalls hE hm (by simp) fun N hN => ?_
  unfold mc32
  simp only [lA, ptrCells, ptrAdd, isNil, readsV, readsP, isCall, wrote, srcOf, seval]
  refine loop_i (fun i : Nat => i ≤ l.length) (fun i => ⟨[(0, .view 3 (l.map VL.av)), (3, .slc 0 3 (diffV (l.take i)).length), (4, .int .i64 i)], [.arr 40 3 ((diffV (l.take i)).map VL.av)]⟩) (fun i => l.length - i) 0 (by omega)
    (Ent.ghost' 3 40 3 (by omega) rfl (Ent.to [0] false (by simp) (by simp) rfl (by simp only [lP, seval, List.length_map, diffV, List.take_zero, List.foldl_nil, List.map_nil, List.length_nil] <;> (try simp) <;> (try omega)) (by simp only [lP, seval, List.length_map, diffV, List.take_zero, List.foldl_nil, List.map_nil, List.length_nil] <;> (try simp) <;> (try omega)))) ?_
  intro i hi
  have hle := diffV_le (l.take i) []
  rw [show (l.take i).foldl withV [] = diffV (l.take i) from rfl] at hle
  simp only [List.length_nil, List.length_take] at hle
  by_cases hil : i < l.length
  · have hnx : diffV (l.take (i + 1)) = withV (diffV (l.take i)) (l.getD i default) := by rw [take_succD hil, diffV, List.foldl_append]; rfl
    have h62 := c62 (diffV (l.take i)) (l.getD i default) (by omega)
    simp only [vl_av] at h62
    generalize hx : l.getD i default = x at *
    generalize diffV (l.take i) = q at *
    repeat' (first
     | (with_reducible apply St.o; constructor) <;> intro _
     | with_reducible first | refine LenR_i fun _ => ?_ | refine And.intro (by omega) ?_ | (apply Sp.o; constructor) | refine mkl_own ?_ | refine frz0_i ?_ | refine any_i [] ?_
     | ((with_reducible apply Sc.o true; constructor); simp only [lP, seval, IdxR_vls, Int.toNat_natCast, List.length_map, hx, vw_vls, pa_vls, novL_vls, renL_vls]; refine ⟨_, h62, ?_⟩; rintro _ _ ⟨rfl, rfl⟩; simp only [lA, lP, ptrCells, ptrAdd, isNil, readsV, readsP, isCall, wrote, srcOf, seval, IdxR_vls, Int.toNat_natCast, List.length_map, hx, vw_vls, pa_vls, novL_vls, renL_vls])
     | simp (maxSteps := 1000000) (disch := omega) only [lE, ptrCells, ptrAdd, isNil, readsV, readsP, isCall, wrote, srcOf, seval, IdxR_vls, Int.toNat_natCast, List.length_map, hx, vw_vls, pa_vls, novL_vls, renL_vls])
    all_goals try (exfalso; omega)
    exact back_i (i + 1) (by omega) (by omega) (Ent.to [1] false (by simp) (by simp) rfl (by simp only [lP, seval, hnx, pa_vls] <;> (try simp) <;> (try omega)) (by simp only [lP, seval, hnx, pa_vls] <;> (try simp) <;> (try omega)))
  · have hie : i = l.length := by omega
    rw [hie, List.take_length]
    repeat' (first
     | (with_reducible apply St.o; constructor) <;> intro _
     | with_reducible first | refine LenR_i fun _ => ?_ | refine And.intro (by omega) ?_ | (apply Sp.o; constructor) | refine mkl_own ?_ | refine frz0_i ?_
     | simp (maxSteps := 1000000) (disch := omega) only [lE, ptrCells, ptrAdd, isNil, readsV, readsP, isCall, wrote, srcOf, seval, List.length_map, Int.lt_irrefl, decide_false])
    exact keep_i [0] false (by simp) (by simp) rfl ⟨by simp only [lP, seval], by simp only [lP, seval, pa_vls]⟩
/-! ### closures over rows and values -/
def badLen (cols : Int) (r : List VL) : Bool := !decide ((r.length : Int) = cols)
theorem c38 (r : List VL) (cols : Int) : ACalls E.P 38 [.view 3 (r.map VL.av), .vp [.int .i64 cols]] [] (fun q H => q = .bool (badLen cols r) ∧ H = []) := by
  refine ok38.acalls hE hm (by simp) fun N hN => ?_
  unfold mc38
  simp only [lA, ptrCells, ptrAdd, isNil, readsV, readsP, isCall, wrote, srcOf, seval]
  repeat' (first
   | (with_reducible apply St.o; constructor) <;> intro _
   | with_reducible first | refine LenR_i fun _ => ?_ | refine And.intro (by omega) ?_ | (apply Sp.o; constructor) | refine mkl_own ?_ | refine frz0_i ?_
   | ((with_reducible refine keep0_i ?_); simp only [lP, seval])
   | simp (maxSteps := 1000000) (disch := omega) only [lE, ptrCells, ptrAdd, isNil, readsV, readsP, isCall, wrote, srcOf, seval, List.length_map, badLen])
theorem c39 (r : List VL) (col : Int) : ACalls E.P 39 [.view 3 (r.map VL.av), .vp [.int .i64 col]] [] (fun q H => q = .bool (decide (col < 0) || decide ((r.length : Int) ≤ col)) ∧ H = []) := by
  refine ok39.acalls hE hm (by simp) fun N hN => ?_
  unfold mc39
  simp only [lA, ptrCells, ptrAdd, isNil, readsV, readsP, isCall, wrote, srcOf, seval]
  repeat' (first
   | (with_reducible apply St.o; constructor) <;> intro _
   | with_reducible first | refine LenR_i fun _ => ?_ | refine And.intro (by omega) ?_ | (apply Sp.o; constructor) | refine mkl_own ?_ | refine frz0_i ?_
   | ((with_reducible refine keep0_i ?_); simp only [lP, seval])
   | simp (maxSteps := 1000000) (disch := omega) only [lE, ptrCells, ptrAdd, isNil, readsV, readsP, isCall, wrote, srcOf, seval, List.length_map])
  all_goals (simp_all; try omega)
theorem c41 (v : VL) (l : List VL) (hl : l ≠ []) : ACalls E.P 41 [v.av, .vp [.view 3 (l.map VL.av)]] [] (fun q H => q = .bool (!decide (v.k = (l.getD 0 default).k)) ∧ H = []) := by
  have hpos : 0 < l.length := List.length_pos_iff.2 hl
  refine ok41.acalls hE hm (by simp) fun N hN => ?_
  unfold mc41
  simp only [lA, ptrCells, ptrAdd, isNil, readsV, readsP, isCall, wrote, srcOf, seval, vl_av]
  repeat' (first
   | (with_reducible apply St.o; constructor) <;> intro _
   | with_reducible first | refine LenR_i fun _ => ?_ | refine And.intro (by omega) ?_ | (apply Sp.o; constructor) | refine mkl_own ?_ | refine frz0_i ?_ | refine any_i [] ?_
   | ((with_reducible refine keep0_i ?_); simp only [lP, seval])
   | simp (maxSteps := 1000000) (disch := omega) only [lE, ptrCells, ptrAdd, isNil, readsV, readsP, isCall, wrote, srcOf, seval, IdxR_vls, Int.toNat_zero, List.length_map])
theorem c42 (a b : VL) : ACalls E.P 42 [a.av, b.av] [] (fun r H => r = .int .i64 (a.cmp b) ∧ H = []) := by
  have h43 := c43 a b
  simp only [vl_av] at h43
  refine ok42.acalls hE hm (by simp) fun N hN => ?_
  unfold mc42
  simp only [lA, ptrCells, ptrAdd, isNil, readsV, readsP, isCall, wrote, srcOf, seval, vl_av]
  repeat' (first
   | (with_reducible apply St.o; constructor) <;> intro _
   | with_reducible first | refine LenR_i fun _ => ?_ | refine And.intro (by omega) ?_ | (apply Sp.o; constructor) | refine mkl_own ?_ | refine frz0_i ?_
   | ((with_reducible apply Sc.o true; constructor); simp only [lP, seval]; refine ⟨_, h43, ?_⟩; rintro _ _ ⟨rfl, rfl⟩; simp only [lA, lP, ptrCells, ptrAdd, isNil, readsV, readsP, isCall, wrote, srcOf, seval])
   | ((with_reducible refine keep0_i ?_); simp only [lP, seval])
   | simp (maxSteps := 1000000) (disch := omega) only [lE, ptrCells, ptrAdd, isNil, readsV, readsP, isCall, wrote, srcOf, seval])

/-! ### is there one? -/
theorem any_at {α : Type} [Inhabited α] {p : α → Bool} {l : List α} {i : Nat} (h : i < l.length) (h2 : p (l.getD i default) = true) : l.any p = true :=
  List.any_eq_true.2 ⟨_, getD_mem h, h2⟩
theorem any_next {α : Type} [Inhabited α] {p : α → Bool} {l : List α} {i : Nat} (h : i < l.length) (h1 : (l.take i).any p = false) (h2 : p (l.getD i default) = false) : (l.take (i + 1)).any p = false := by
  rw [take_succD h, List.any_append, h1]
  simpa using h2
theorem c63 (l : List (List VL)) (f : FuncId) (caps : List AV) (p : List VL → Bool) (hp : ∀ r ∈ l, ACalls E.P f (rowV r :: caps) [] (fun q H => q = .bool (p r) ∧ H = [])) (hcap : ∀ H ids bor, caps.map (pa H ids bor 8) = caps) :
    ACalls E.P 63 [.view 1 (l.map rowV), .fn (.func f) [] caps] [] (fun r H => (∃ n : Int, r = .int .i64 n ∧ (0 ≤ n ↔ l.any p = true)) ∧ H = []) := by
  have hmax := maxLen_eq
  refine ok63.acalls hE hm (by simp) fun N hN => ?_
  unfold mc63
  simp only [lA, ptrCells, ptrAdd, isNil, readsV, readsP, isCall, wrote, srcOf, seval]
  refine LenR_i fun hl => ?_
  rw [List.length_map, hmax] at hl
  simp only [lA, ptrCells, ptrAdd, isNil, readsV, readsP, isCall, wrote, srcOf, seval, List.length_map]
  refine loop_i (fun i : Nat => i ≤ l.length ∧ (l.take i).any p = false) (fun i => ⟨[(0, .view 1 (l.map rowV)), (1, .fn (.func f) [] caps), (7, .int .i64 l.length), (8, .int .i64 i)], []⟩) (fun i => l.length - i) 0 ⟨by omega, rfl⟩ (Ent.fr (by simp [FrSub, Go.Al.get])) ?_
  rintro i ⟨hi, ha⟩
  by_cases hil : i < l.length
  · have hpi := hp _ (getD_mem hil)
    have hnx := any_next (p := p) hil ha
    have hat := any_at (p := p) hil
    generalize hx : l.getD i default = x at *
    repeat' (first
     | (with_reducible apply St.o; constructor) <;> intro _
     | with_reducible first | refine LenR_i fun _ => ?_ | refine And.intro (by omega) ?_ | (apply Sp.o; constructor) | refine mkl_own ?_ | refine frz0_i ?_
     | ((with_reducible apply Sc.o true; constructor); simp only [lP, seval, IdxR_rows, Int.toNat_natCast, List.length_map, hx, hcap]; refine ⟨_, hpi, ?_⟩; rintro _ _ ⟨rfl, rfl⟩; simp only [lA, lP, ptrCells, ptrAdd, isNil, readsV, readsP, isCall, wrote, srcOf, seval, IdxR_rows, Int.toNat_natCast, List.length_map, hx, hcap])
     | ((with_reducible refine keep0_i ?_); simp only [lP, seval])
     | simp (maxSteps := 1000000) (disch := omega) only [lE, ptrCells, ptrAdd, isNil, readsV, readsP, isCall, wrote, srcOf, seval, IdxR_rows, Int.toNat_natCast, List.length_map, hx, hcap])
    · rename_i h1 h2
      exact ⟨i, rfl, by simp [hat h2]⟩
    · rename_i h1 h2
      exact back_i (i + 1) ⟨by omega, hnx h2⟩ (by omega) (Ent.fr (by simp [FrSub, Go.Al.get]))
    · omega
  · have hlt : ((i : Int) < l.length) = False := by simp; omega
    rw [List.take_of_length_le (by omega)] at ha
    repeat' (first
     | (with_reducible apply St.o; constructor) <;> intro _
     | with_reducible first | refine LenR_i fun _ => ?_ | refine And.intro (by omega) ?_ | (apply Sp.o; constructor) | refine mkl_own ?_ | refine frz0_i ?_
     | ((with_reducible refine keep0_i ?_); simp only [lP, seval])
     | simp (maxSteps := 1000000) (disch := omega) only [lE, ptrCells, ptrAdd, isNil, readsV, readsP, isCall, wrote, srcOf, seval, hlt, decide_false])
    exact ⟨-1, rfl, by simp [ha]⟩
theorem c37 (l : List (List VL)) (f : FuncId) (caps : List AV) (p : List VL → Bool) (hp : ∀ r ∈ l, ACalls E.P f (rowV r :: caps) [] (fun q H => q = .bool (p r) ∧ H = [])) (hcap : ∀ H ids bor, caps.map (pa H ids bor 8) = caps) (hcap7 : ∀ H ids bor, caps.map (pa H ids bor 7) = caps) :
    ACalls E.P 37 [.view 1 (l.map rowV), .fn (.func f) [] caps] [] (fun r H => r = .bool (l.any p) ∧ H = []) := by
  have h63 := c63 l f caps p hp hcap
  refine ok37.acalls hE hm (by simp) fun N hN => ?_
  unfold mc37
  simp only [lA, ptrCells, ptrAdd, isNil, readsV, readsP, isCall, wrote, srcOf, seval]
  repeat' (first
   | (with_reducible apply St.o; constructor) <;> intro _
   | with_reducible first | refine LenR_i fun _ => ?_ | refine And.intro (by omega) ?_ | (apply Sp.o; constructor) | refine mkl_own ?_ | refine frz0_i ?_
   | ((with_reducible apply Sc.o true; constructor); simp only [lP, seval, hcap, hcap7]; refine ⟨_, h63, ?_⟩; rintro _ _ ⟨⟨n, rfl, hn⟩, rfl⟩; simp only [lA, lP, ptrCells, ptrAdd, isNil, readsV, readsP, isCall, wrote, srcOf, seval, hcap, hcap7])
   | ((with_reducible refine keep0_i ?_); simp only [lP, seval])
   | simp (maxSteps := 1000000) (disch := omega) only [lE, ptrCells, ptrAdd, isNil, readsV, readsP, isCall, wrote, srcOf, seval, hcap, hcap7])
  simp only [ge_iff_le, hn, Bool.decide_eq_true]
end Go.Proofs.Try
