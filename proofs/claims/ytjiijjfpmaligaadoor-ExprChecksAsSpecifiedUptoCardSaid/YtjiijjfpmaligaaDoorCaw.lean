/-
  A part of the proof: see the text of the law.
-/
import Derived.Test.YtjiijjfpmaligaaDoorCas
import Derived.Test.YtjiijjfpmaligaaDoorCao
set_option linter.unusedSimpArgs false
set_option linter.unusedVariables false
namespace Go.Proofs.Try
open Go.Al
set_option linter.unusedVariables false
set_option linter.unusedSimpArgs false
set_option maxRecDepth 20000
set_option maxHeartbeats 16000000

/-- Both ranges. -/
def RG.meet2 (a b : RG) : RG :=
  let c := b.lo.cmp a.lo
  let lower : Prop := b.hi.k ≠ 0 ∧ (a.hi.k = 0 ∨ b.hi.cmp a.hi < 0)
  ⟨a.e, a.nl, a.all, if 0 < c then b.lo else a.lo, if lower then b.hi else a.hi, if 0 < c then b.li else if c = 0 then a.li && b.li else a.li,
    if lower then b.ri else if a.hi.same b.hi = true then a.ri && b.ri else a.ri⟩
def RG.void (x : RG) : Prop := x.lo.k ≠ 0 ∧ x.hi.k ≠ 0 ∧ (0 < x.lo.cmp x.hi ∨ (x.lo.cmp x.hi = 0 ∧ (x.li && x.ri) = false))
instance (x : RG) : Decidable x.void := by unfold RG.void; infer_instance
def RG.meet (a b : RG) : RG :=
  if (a.e || b.e) = true then RG.empty else if a.all = true then b else if b.all = true then a
  else if (a.nl || b.nl) = true then ⟨a.nl != b.nl, a.nl && b.nl, false, VL.null, VL.null, false, false⟩
  else if (a.meet2 b).void then RG.empty else a.meet2 b
theorem same_form (a b : VL) : (decide (a.k = b.k) && (decide (a.n = b.n) && (decide (a.s = b.s) && true))) = a.same b := by
  simp [VL.same, Bool.and_assoc]
theorem c24 (a b : RG) : ACalls E.P 24 [a.av, b.av] [] (fun r H => r = (a.meet b).av ∧ H = []) := by
  obtain ⟨ae, an, aa, al, ah, ali, ari⟩ := a
  obtain ⟨be, bn, ba, bl, bh, bli, bri⟩ := b
  have h1 := c66 bl al
  have h2 := c66 bh ah
  have h3 : ∀ x y : VL, ACalls E.P 66 [.agg x.cs, .agg y.cs] [] (fun r H => r = .int .i64 (x.cmp y) ∧ H = []) := c66
  simp only [vl_av] at h1 h2
  simp only [rg_av]
  have key : ∀ x y : RG, x = y → (AV.agg x.cs = AV.agg y.cs) := fun x y h => by rw [h]
  refine ok24.acalls hE hm (by simp) fun N hN => ?_
  unfold mc24
  cases ae with
  | true =>
    simp only [lA, ptrCells, ptrAdd, isNil, readsV, readsP, isCall, wrote, srcOf, seval, ti45]
    repeat' (first
     | (with_reducible apply St.o; constructor) <;> intro _
     | with_reducible first | refine LenR_i fun _ => ?_ | refine And.intro (by omega) ?_ | (apply Sp.o; constructor) | refine frz0_i ?_
     | ((with_reducible refine keep0_i ?_); simp only [lP, seval])
     | simp (maxSteps := 1000000) (disch := omega) only [lE, ptrCells, ptrAdd, isNil, readsV, readsP, isCall, wrote, srcOf, seval, ti45])
    all_goals exact key RG.empty _ rfl
  | false =>
  cases be with
  | true =>
    simp only [lA, ptrCells, ptrAdd, isNil, readsV, readsP, isCall, wrote, srcOf, seval, ti45]
    repeat' (first
     | (with_reducible apply St.o; constructor) <;> intro _
     | with_reducible first | refine LenR_i fun _ => ?_ | refine And.intro (by omega) ?_ | (apply Sp.o; constructor) | refine frz0_i ?_
     | ((with_reducible refine keep0_i ?_); simp only [lP, seval])
     | simp (maxSteps := 1000000) (disch := omega) only [lE, ptrCells, ptrAdd, isNil, readsV, readsP, isCall, wrote, srcOf, seval, ti45])
    all_goals exact key RG.empty _ rfl
  | false =>
  cases aa with
  | true =>
    simp only [lA, ptrCells, ptrAdd, isNil, readsV, readsP, isCall, wrote, srcOf, seval, ti45]
    repeat' (first
     | (with_reducible apply St.o; constructor) <;> intro _
     | with_reducible first | refine LenR_i fun _ => ?_ | refine And.intro (by omega) ?_ | (apply Sp.o; constructor) | refine frz0_i ?_
     | ((with_reducible refine keep0_i ?_); simp only [lP, seval])
     | simp (maxSteps := 1000000) (disch := omega) only [lE, ptrCells, ptrAdd, isNil, readsV, readsP, isCall, wrote, srcOf, seval, ti45])
    all_goals exact key ⟨_, _, _, _, _, _, _⟩ _ rfl
  | false =>
  cases ba with
  | true =>
    simp only [lA, ptrCells, ptrAdd, isNil, readsV, readsP, isCall, wrote, srcOf, seval, ti45]
    repeat' (first
     | (with_reducible apply St.o; constructor) <;> intro _
     | with_reducible first | refine LenR_i fun _ => ?_ | refine And.intro (by omega) ?_ | (apply Sp.o; constructor) | refine frz0_i ?_
     | ((with_reducible refine keep0_i ?_); simp only [lP, seval])
     | simp (maxSteps := 1000000) (disch := omega) only [lE, ptrCells, ptrAdd, isNil, readsV, readsP, isCall, wrote, srcOf, seval, ti45])
    all_goals exact key ⟨_, _, _, _, _, _, _⟩ _ rfl
  | false =>
  cases an with
  | true =>
    cases bn
    all_goals
      simp only [lA, ptrCells, ptrAdd, isNil, readsV, readsP, isCall, wrote, srcOf, seval, ti45]
      repeat' (first
       | (with_reducible apply St.o; constructor) <;> intro _
       | with_reducible first | refine LenR_i fun _ => ?_ | refine And.intro (by omega) ?_ | (apply Sp.o; constructor) | refine frz0_i ?_
       | ((with_reducible refine keep0_i ?_); simp only [lP, seval])
       | simp (maxSteps := 1000000) (disch := omega) only [lE, ptrCells, ptrAdd, isNil, readsV, readsP, isCall, wrote, srcOf, seval, ti45])
    all_goals exact key ⟨_, _, _, VL.null, VL.null, _, _⟩ _ rfl
  | false =>
  cases bn with
  | true =>
    simp only [lA, ptrCells, ptrAdd, isNil, readsV, readsP, isCall, wrote, srcOf, seval, ti45]
    repeat' (first
     | (with_reducible apply St.o; constructor) <;> intro _
     | with_reducible first | refine LenR_i fun _ => ?_ | refine And.intro (by omega) ?_ | (apply Sp.o; constructor) | refine frz0_i ?_
     | ((with_reducible refine keep0_i ?_); simp only [lP, seval])
     | simp (maxSteps := 1000000) (disch := omega) only [lE, ptrCells, ptrAdd, isNil, readsV, readsP, isCall, wrote, srcOf, seval, ti45])
    all_goals exact key ⟨_, _, _, VL.null, VL.null, _, _⟩ _ rfl
  | false =>
  simp only [lA, ptrCells, ptrAdd, isNil, readsV, readsP, isCall, wrote, srcOf, seval]
  repeat' (first
   | (with_reducible apply St.o; constructor) <;> intro _
   | with_reducible first | refine LenR_i fun _ => ?_ | refine And.intro (by omega) ?_ | (apply Sp.o; constructor) | refine frz0_i ?_
   | ((with_reducible apply Sc.o true; constructor); simp only [lP, seval, ti45, strA, flatEq]; refine ⟨_, h3 _ _, ?_⟩; rintro _ _ ⟨rfl, rfl⟩; simp only [lA, lP, ptrCells, ptrAdd, isNil, readsV, readsP, isCall, wrote, srcOf, seval, ti45, strA, flatEq])
   | with_reducible refine any_i [3] ?_
   | ((with_reducible refine keep0_i ?_); simp only [lP, seval])
   | simp (maxSteps := 1000000) (disch := omega) only [lE, ptrCells, ptrAdd, isNil, readsV, readsP, isCall, wrote, srcOf, seval, ti45, strA, flatEq])
  all_goals clear h1 h2 h3
  all_goals (try simp only [Bool.not_false, Bool.not_true, Bool.not_eq_true', Bool.not_eq_false', same_form] at *)
  all_goals first
    | contradiction
    | (refine key RG.empty _ ?_
       clear key
       simp [RG.meet, RG.meet2, RG.void, *]; done)
    | (refine key ⟨_, _, _, _, _, _, _⟩ _ ?_
       clear key
       simp [RG.meet, RG.meet2, RG.void, *]; done)
    | trace_state
end Go.Proofs.Try
