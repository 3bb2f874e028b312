/-
  A part of the proof: see the text of the law.
-/
import Derived.Test.YtjiijjfpmaligaaDoorCaj
set_option linter.unusedSimpArgs false
set_option linter.unusedVariables false
namespace Go.Proofs.Try
open Go.Al
set_option linter.unusedVariables false
set_option linter.unusedSimpArgs false
set_option maxRecDepth 20000
set_option maxHeartbeats 8000000

/-- Ranges: empty, null, all, bounds, and whether these are in it. -/
structure RG where
  e : Bool
  nl : Bool
  all : Bool
  lo : VL
  hi : VL
  li : Bool
  ri : Bool
abbrev RG.cs (x : RG) : List AV := [.bool x.e, .bool x.nl, .bool x.all, .int .i64 x.lo.k, .int .i64 x.lo.n, .str x.lo.s, .int .i64 x.hi.k, .int .i64 x.hi.n, .str x.hi.s, .bool x.li, .bool x.ri]
def RG.av (x : RG) : AV := .agg x.cs
theorem rg_av (x : RG) : x.av = .agg x.cs := rfl
def RG.empty : RG := ⟨true, false, false, VL.null, VL.null, false, false⟩
/-- Is a value in a range? -/
def RG.has (x : RG) (v : VL) : Bool :=
  if (x.e || x.all) = true then x.all else if x.nl = true ∨ v.k = 0 then x.nl && decide (v.k = 0)
  else if x.lo.k ≠ 0 ∧ (v.k ≠ x.lo.k ∨ v.cmp x.lo < 0 ∨ (v.cmp x.lo = 0 ∧ x.li = false)) then false
  else if x.hi.k ≠ 0 ∧ (v.k ≠ x.hi.k ∨ 0 < v.cmp x.hi ∨ (v.cmp x.hi = 0 ∧ x.ri = false)) then false else true
theorem c25 (x : RG) (v : VL) : ACalls E.P 25 [x.av, v.av] [] (fun r H => r = .bool (x.has v) ∧ H = []) := by
  have h1 := c66 v x.lo
  have h2 := c66 v x.hi
  simp only [vl_av] at h1 h2
  obtain ⟨e, nl, all, lo, hi, li, ri⟩ := x
  simp only [rg_av, vl_av]
  simp only [] at h1 h2
  have key : ∀ b, b = RG.has ⟨e, nl, all, lo, hi, li, ri⟩ v → (AV.bool b = AV.bool (RG.has ⟨e, nl, all, lo, hi, li, ri⟩ v)) := fun b h => by rw [h]
  refine ok25.acalls hE hm (by simp) fun N hN => ?_
  unfold mc25
  simp only [lAL, lDF, tupA, eqA, isNil, slcNil, ptrCells, ptrAdd, cellsO, intA, boolA, readsV, readsP, isCall, wrote, srcOf, isNilSlice, Value.oneCell', seval, implies_true, forall_eq, ne_eq]
  repeat' (first
    | (with_reducible first | apply cond_d | apply cond_nd | apply cond_i | apply guard_d | apply guard_nd | apply guard_df | apply guard_ndf | apply guard_i | apply ag_d | apply ag_nd | apply ag_df | apply ag_ndf | apply ag_i) <;> intro _
    | with_reducible first | refine LenR_i fun _ => ?_ | refine And.intro (by omega) ?_ | refine and_assoc.2 ?_ | apply sp_cond | apply sp_guard | apply sp_ag | apply sp_call | apply sp_acall | apply sp_loop | apply sp_any | apply sp_frz | apply sp_len | apply sp_idx | apply sp_keep | apply sp_back
    | with_reducible refine frz0_i ?_
    | ((with_reducible first | refine callN_i [] true (by simp) (by simp) ?_ | refine acallN_i true ?_); simp only [lPA, lPD, novO, setAll, seval, implies_true]; (first | (refine ⟨_, h1, ?_⟩; rintro _ _ ⟨rfl, rfl⟩) | (refine ⟨_, h2, ?_⟩; rintro _ _ ⟨rfl, rfl⟩)); simp only [lAL, lDF, tupA, eqA, isNil, slcNil, ptrCells, ptrAdd, cellsO, intA, boolA, readsV, readsP, isCall, wrote, srcOf, isNilSlice, Value.oneCell', seval, implies_true, forall_eq, ne_eq, lPA, lPD, novO, setAll])
    | ((with_reducible refine keep0_i ?_); simp only [lPA, lPD, novO, setAll, seval, implies_true])
    | simp (maxSteps := 1000000) (disch := omega) only [lAL, lDF, tupA, eqA, isNil, slcNil, ptrCells, ptrAdd, cellsO, intA, boolA, readsV, readsP, isCall, wrote, srcOf, isNilSlice, Value.oneCell', seval, implies_true, forall_eq, ne_eq, wrap_i64, LenR_ok, List.length_map, IdxR_ints])
  all_goals clear h1 h2
  all_goals
    apply key
    clear key
    simp only [RG.has]
    generalize v.cmp lo = c at *
    generalize v.cmp hi = d at *
    try simp_all
  all_goals trace_state
end Go.Proofs.Try
