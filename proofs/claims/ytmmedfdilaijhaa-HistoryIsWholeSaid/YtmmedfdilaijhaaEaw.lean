/-
  A part of the proof: see the text of the law.
-/
import Derived.Test.YtmmedfdilaijhaaEau
import Derived.Test.YtmmedfdilaijhaaAlphaS
import Derived.Test.YtmmedfdilaijhaaShelf
set_option linter.unusedSimpArgs false
set_option linter.unusedVariables false
namespace Go.Proofs.Try
open Go.Al
set_option maxRecDepth 100000
/-- slices.SortedFunc[alum/api.Held] -/
def mc45 : MC :=
 (.seq (.ops [(none, (.v (.mov 4 (.c (.raw (.slice none 0 0))))))])
 (.seq (.ops [(none, (.v (.mov 6 (.t 0)))),
 (none, (.e (.call (some 7) 60 [(.t 6)]))),
 (none, (.v (.mov 5 (.t 7))))])
 (.seq (.ops [(none, (.v (.mov 8 (.t 5)))),
 (none, (.v (.mov 9 (.t 1)))),
 (none, (.e (.call (some 10) 61 [(.t 8), (.t 9)])))])
 (.seq (.ops [(none, (.v (.mov 11 (.t 5)))),
 (none, (.v (.mov 4 (.t 11))))])
 .ret))))
theorem ok45 : FnOk E 45 12 [.tmp 4] mc45 := .of func45 (by kernel_rfl) (by kernel_rfl) (by kernel_rfl) (by kernel_rfl) (by kernel_rfl)
/-- maps.Values[map[[2]int]alum/api.Held,[2]int,alum/api.Held] -/
def mc46 : MC :=
 (.seq (.ops [(none, (.e (.box 1 (.t 0)))),
 (none, (.v (.mov 2 (.c (.raw .nilFunc)))))])
 (.seq (.ops [(none, (.v (.fn 3 (.func 62) [] [(.t 1)]))),
 (none, (.v (.mov 2 (.t 3))))])
 .ret))
theorem ok46 : FnOk E 46 4 [.tmp 2] mc46 := .of func46 (by kernel_rfl) (by kernel_rfl) (by kernel_rfl) (by kernel_rfl) (by kernel_rfl)
/-- slices.Collect[alum/api.Held] -/
def mc60 : MC :=
 (.seq (.ops [(none, (.v (.mov 2 (.c (.raw (.slice none 0 0))))))])
 (.seq (.ops [(none, (.v (.mov 3 (.t 0)))),
 (none, (.e (.call (some 4) 69 [(.c (.raw (.slice none 0 0))), (.t 3)]))),
 (none, (.v (.mov 2 (.t 4))))])
 .ret))
theorem ok60 : FnOk E 60 5 [.tmp 2] mc60 := .of func60 (by kernel_rfl) (by kernel_rfl) (by kernel_rfl) (by kernel_rfl) (by kernel_rfl)
end Go.Proofs.Try
namespace Go.Proofs.Try
open Go.Al
set_option linter.unusedVariables false
set_option linter.unusedSimpArgs false
set_option maxRecDepth 20000
set_option maxHeartbeats 8000000

theorem lt_hd (a b : Hd) : ltOf Hd.cmp a b = decide (a.before b) := by
  rw [Bool.eq_iff_iff]
  simp only [ltOf, decide_eq_true_eq]
  exact cmp_before a b
theorem swoH : Go.Sort.SWO (ltOf Hd.cmp) where
  irrefl x := by rw [lt_hd]; simp [Hd.before]
  trans x y z h1 h2 := by
    rw [lt_hd, decide_eq_true_eq] at *
    exact before_trans h1 h2
  ntrans x y z h1 h2 := by
    rw [lt_hd, decide_eq_false_iff_not] at *
    unfold Hd.before at *
    omega
theorem bodied61 : Bodied E.P 61 := ⟨_, Try.func61, by kernel_rfl, by kernel_rfl⟩
theorem c61 (l : List Hd) (h : l.length < 4611686018427387904) : ACalls E.P 61 [.slc 0 4 l.length, .fn (.func 31) [] []] [.arr 40 4 (l.map Hd.av)] (fun r H => r = .tup [] ∧ ∃ l' : List Hd, l'.Perm l ∧ l'.Pairwise (fun a b => ¬ b.before a) ∧ H = [.arr 40 4 (l'.map Hd.av)]) := by
  refine (bridge_sort bodied61 swoH (fun a _ b _ => c31 a b) (fun a _ => by simp [Hd.av, sc, scL]) (fun a _ => ⟨_, rfl⟩) h (fun p cap fv w => AnyF.slices_SortFunc_none Try.sortV p cap fv w) ?_).mono ?_
  · intro α _ enc hk h1 cf' hO blk cap d w hc hH hb hs
    exact AnyQ.slices_SortFunc Try.sortV 4 (fun w => Try.isAgg40 w) (fun w => Try.sizeOf40 w) enc hk h1 cf' hO 31 #[] blk 0 cap d w (enters_of Try.func31 (by kernel_rfl) rfl) hc hH hb hs
  · rintro r H ⟨rfl, l', h1, h2, rfl⟩
    exact ⟨rfl, l', h1, h2.imp fun h => by rw [lt_hd, decide_eq_false_iff_not] at h; exact h, rfl⟩
theorem c61nil : ACalls E.P 61 [.raw (.slice none 0 0), .fn (.func 31) [] []] [] (fun r H => r = .tup [] ∧ H = []) :=
  ⟨bodied61, fun γ σ w vs hi hv => by
    obtain ⟨u, _, rfl, hu, fv, _, rfl, hf, rfl⟩ := hv
    have hu : u = .slice none 0 0 := hu
    subst hu
    refine (AnyF.slices_SortFunc_none Try.sortV none 0 fv w).mono ?_
    rintro e w' ⟨rfl, rfl⟩
    exact ⟨_, γ, σ, .tup [], _, rfl, .refl _ _ _, hi, ⟨[], rfl, rfl⟩, rfl, rfl⟩⟩
theorem renL_kW {α : Type} {ρ : Nat → Nat} (m : List ((Int × Int) × α)) : renL ρ (kW m) = kW m := renL_map (fun p => by simp [kp, ren, renL]) _
theorem renL_vH {ρ : Nat → Nat} (m : List ((Int × Int) × Hd)) : renL ρ (vW Hd.av m) = vW Hd.av m := by
  have e : vW Hd.av m = (m.map (·.2)).map Hd.av := by unfold vW; rw [List.map_map]; rfl
  rw [e]; exact renL_hds
theorem c60 (m : List ((Int × Int) × Hd)) (bs : List Nat) (c : Nat) (hw : WfM m.length bs c) (hc : m.length ≤ 1048576) :
    ACalls E.P 60 [.fn (.func 62) [] [.op 1 0]] (mapB m bs c) (fun r H => ∃ l : List Hd, l.Perm (m.map (·.2)) ∧ ((l = [] ∧ r = .raw (.slice none 0 0) ∧ H = mapB m bs c) ∨ (r = .slc 2 4 l.length ∧ H = mapB m bs c ++ [.arr 40 4 (l.map Hd.av)]))) := by
  have h69 := c69 m bs c hw hc
  refine ok60.acalls hE hm (by simp) fun N hN => ?_
  unfold mc60
  unfold mapB at *
  simp only [lA, ptrCells, ptrAdd, isNil, readsV, readsP, isCall, wrote, srcOf, seval]
  refine callN_i [0, 1] false (by simp) (by simp) ?_
  simp only [lP, seval, pa_kW, pa_vH]
  refine ⟨_, h69, ?_⟩
  rintro r H ⟨l, hp, ⟨rfl, rfl, rfl⟩ | ⟨rfl, rfl⟩⟩
  · simp only [lA, lP, ptrCells, ptrAdd, isNil, readsV, readsP, isCall, wrote, srcOf, seval, renL_kW, renL_vH]
    refine keep_i [0, 1] false rfl (by simp) rfl ⟨[], hp, .inl ⟨rfl, ?_, ?_⟩⟩
    · simp only [lP, seval]
    · simp only [lP, seval, pa_kW, pa_vH]
  · simp only [lA, lP, ptrCells, ptrAdd, isNil, readsV, readsP, isCall, wrote, srcOf, seval, renL_kW, renL_vH]
    refine keep_i [0, 1, 2] false (by simp) (by simp) rfl ⟨l, hp, .inr ⟨?_, ?_⟩⟩
    · simp only [lP, seval]
    · simp only [lP, seval, pa_kW, pa_vH, pa_hds, renL_hds]
theorem c45 (m : List ((Int × Int) × Hd)) (bs : List Nat) (c : Nat) (hw : WfM m.length bs c) (hc : m.length ≤ 1048576) :
    ACalls E.P 45 [.fn (.func 62) [] [.op 1 0], .fn (.func 31) [] []] (mapB m bs c) (fun r H => ∃ l : List Hd, l.Perm (m.map (·.2)) ∧ l.Pairwise (fun a b => ¬ b.before a) ∧ r = .view 4 (l.map Hd.av) ∧ H = mapB m bs c) := by
  have h60 := c60 m bs c hw hc
  have h61n := c61nil
  refine ok45.acalls hE hm (by simp) fun N hN => ?_
  unfold mc45
  unfold mapB at *
  simp only [lA, ptrCells, ptrAdd, isNil, readsV, readsP, isCall, wrote, srcOf, seval]
  refine callN_i [0, 1] false (by simp) (by simp) ?_
  simp only [lP, seval, pa_kW, pa_vH]
  refine ⟨_, h60, ?_⟩
  rintro r H ⟨l, hp, ⟨rfl, rfl, rfl⟩ | ⟨rfl, rfl⟩⟩
  · simp only [lA, lP, ptrCells, ptrAdd, isNil, readsV, readsP, isCall, wrote, srcOf, seval, renL_kW, renL_vH]
    refine callN_i [] false (by simp) (by simp) ?_
    simp only [lP, seval]
    refine ⟨_, h61n, ?_⟩
    rintro _ _ ⟨rfl, rfl⟩
    simp only [lA, lP, ptrCells, ptrAdd, isNil, readsV, readsP, isCall, wrote, srcOf, seval]
    exact keepw_i [0, 1] false rfl (by simp) rfl weak_nil ⟨[], hp, .nil, rfl, by simp only [lP, seval, pa_kW, pa_vH]⟩
  · have h61 := c61 l (by rw [hp.length_eq, List.length_map]; omega)
    simp only [lA, lP, ptrCells, ptrAdd, isNil, readsV, readsP, isCall, wrote, srcOf, seval, renL_kW, renL_vH]
    refine callN_i [2] false (by simp) (by simp) ?_
    simp only [lP, seval, pa_hds, renL_hds]
    refine ⟨_, h61, ?_⟩
    rintro _ _ ⟨rfl, l', hp', hs, rfl⟩
    simp only [lA, lP, ptrCells, ptrAdd, isNil, readsV, readsP, isCall, wrote, srcOf, seval]
    refine keep_i [0, 1] true (by simp) (by simp) rfl ⟨l', hp'.trans hp, hs, ?_, ?_⟩
    · simp only [lP, seval, renL_hds, vw_hds, List.length_map, hp'.length_eq]
    · simp only [lP, seval, pa_kW, pa_vH]
theorem c46 (m : List ((Int × Int) × Hd)) (bs : List Nat) (c : Nat) : ACalls E.P 46 [.mp 0] [.map (kW m) (vW Hd.av m) bs c] (fun r H => r = .fn (.func 62) [] [.op 1 0] ∧ H = mapB m bs c) := by
  refine ok46.acalls hE hm (by simp) fun N hN => ?_
  unfold mc46 mapB
  simp only [lA, ptrCells, ptrAdd, isNil, readsV, readsP, isCall, wrote, srcOf, seval]
  repeat' (first
   | (with_reducible apply St.o; constructor) <;> intro _
   | with_reducible first | refine LenR_i fun _ => ?_ | refine And.intro (by omega) ?_ | (apply Sp.o; constructor) | refine mkl_own ?_ | refine frz0_i ?_
   | simp (maxSteps := 1000000) (disch := omega) only [lE, ptrCells, ptrAdd, isNil, readsV, readsP, isCall, wrote, srcOf, seval])
  all_goals exact keep_i [0, 1] false (by simp) (by simp) rfl ⟨by simp only [lP, seval], by simp only [lP, seval, pa_kW, pa_vH]⟩
end Go.Proofs.Try
