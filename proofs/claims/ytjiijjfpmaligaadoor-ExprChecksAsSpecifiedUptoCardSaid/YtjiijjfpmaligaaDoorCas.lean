/-
  A part of the proof: see the text of the law.
-/
import Derived.Test.YtjiijjfpmaligaaDoorCaj
set_option linter.unusedSimpArgs false
set_option linter.unusedVariables false
namespace Go.Proofs.Try
open Go.Al
set_option linter.unusedVariables false
set_option linter.unusedSimpArgs false
set_option maxRecDepth 20000
set_option maxHeartbeats 8000000

/-- Ranges: empty, null, all, bounds, and whether these are in it. -/
structure RG where
  e : Bool
  nl : Bool
  all : Bool
  lo : VL
  hi : VL
  li : Bool
  ri : Bool
abbrev RG.cs (x : RG) : List AV := [.bool x.e, .bool x.nl, .bool x.all, .int .i64 x.lo.k, .int .i64 x.lo.n, .str x.lo.s, .int .i64 x.hi.k, .int .i64 x.hi.n, .str x.hi.s, .bool x.li, .bool x.ri]
def RG.av (x : RG) : AV := .agg x.cs
theorem rg_av (x : RG) : x.av = .agg x.cs := rfl
def RG.empty : RG := ⟨true, false, false, VL.null, VL.null, false, false⟩
/-- Is a value in a range? -/
def RG.has (x : RG) (v : VL) : Bool :=
  if (x.e || x.all) = true then x.all else if x.nl = true ∨ v.k = 0 then x.nl && decide (v.k = 0)
  else if x.lo.k ≠ 0 ∧ (v.k ≠ x.lo.k ∨ v.cmp x.lo < 0 ∨ (v.cmp x.lo = 0 ∧ x.li = false)) then false
  else if x.hi.k ≠ 0 ∧ (v.k ≠ x.hi.k ∨ 0 < v.cmp x.hi ∨ (v.cmp x.hi = 0 ∧ x.ri = false)) then false else true
theorem c25 (x : RG) (v : VL) : ACalls E.P 25 [x.av, v.av] [] (fun r H => r = .bool (x.has v) ∧ H = []) := by
  have h1 := c66 v x.lo
  have h2 := c66 v x.hi
  simp only [vl_av] at h1 h2
  obtain ⟨e, nl, all, lo, hi, li, ri⟩ := x
  simp only [rg_av, vl_av]
  simp only [] at h1 h2
  have key : ∀ b, b = RG.has ⟨e, nl, all, lo, hi, li, ri⟩ v → (AV.bool b = AV.bool (RG.has ⟨e, nl, all, lo, hi, li, ri⟩ v)) := fun b h => by rw [h]
  refine ok25.acalls hE hm (by simp) fun N hN => ?_
  unfold mc25
  simp only [lA, ptrCells, ptrAdd, isNil, readsV, readsP, isCall, wrote, srcOf, seval]
  repeat' (first
   | (with_reducible apply St.o; constructor) <;> intro _
   | with_reducible first | refine LenR_i fun _ => ?_ | refine And.intro (by omega) ?_ | (apply Sp.o; constructor) | refine frz0_i ?_
   | ((with_reducible apply Sc.o true; constructor); simp only [lP, seval]; (first | refine ⟨_, h1, ?_⟩ | refine ⟨_, h2, ?_⟩); rintro _ _ ⟨rfl, rfl⟩; simp only [lA, lP, ptrCells, ptrAdd, isNil, readsV, readsP, isCall, wrote, srcOf, seval])
   | ((with_reducible refine keep0_i ?_); simp only [lP, seval])
   | simp (maxSteps := 1000000) (disch := omega) only [lE, ptrCells, ptrAdd, isNil, readsV, readsP, isCall, wrote, srcOf, seval])
  all_goals clear h1 h2
  all_goals
    apply key
    clear key
    simp only [RG.has]
    generalize v.cmp lo = c at *
    generalize v.cmp hi = d at *
    try simp_all
  all_goals trace_state
end Go.Proofs.Try
