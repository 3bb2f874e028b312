/-
  A part of the proof: see the text of the law.
-/
import Derived.Test.YtjiijjfpmaligaaDoorCar
import Derived.Test.YtjiijjfpmaligaaDoorCas
set_option linter.unusedSimpArgs false
set_option linter.unusedVariables false
namespace Go.Proofs.Try
open Go.Al
set_option linter.unusedVariables false
set_option linter.unusedSimpArgs false
set_option maxRecDepth 20000
set_option maxHeartbeats 16000000

/-! ### ranges of conjuncts -/
def RG.fullR : RG := ⟨false, false, true, VL.null, VL.null, false, false⟩
def RG.nullR : RG := ⟨false, true, false, VL.null, VL.null, false, false⟩
def RG.someR : RG := ⟨false, false, false, VL.null, VL.null, false, false⟩
def T.isCol (t : T) (c : Int) : Bool := match t with
  | .col n => decide (n = c)
  | _ => false
def T.inNull (t : T) (c : Int) : Bool := match t with
  | .un o x => decide (o = 15) && x.isCol c
  | _ => false
def cmpR (op : Int) (v : VL) : RG :=
  if op = 6 then ⟨false, false, false, v, v, true, true⟩ else if op = 8 ∨ op = 9 then ⟨false, false, false, VL.null, v, false, decide (op = 9)⟩
  else if op = 10 ∨ op = 11 then ⟨false, false, false, v, VL.null, decide (op = 11), false⟩ else RG.fullR
def T.bnd (c : Int) : T → RG
  | .col _ => RG.fullR
  | .val v => if v = VL.ofB true then RG.fullR else RG.empty
  | .un op a => if op = 15 ∧ a.isCol c = true then RG.nullR else if op = 14 ∧ a.inNull c = true then RG.someR else RG.fullR
  | .bin op a b => if cmpB op = true then (if b.isC VL.null = true then RG.empty else if a.isCol c = true then (match b with
      | .val v => cmpR op v
      | _ => RG.fullR) else RG.fullR) else RG.fullR
def isColE (e : EX) (c : Int) : Bool := decide (e.op = 1) && decide (e.n = c)
theorem c97 (e : EX) (c : Int) : ACalls E.P 97 [e.av, .vp [.int .i64 c]] [] (fun r H => r = .bool (isColE e c) ∧ H = []) := by
  refine ok97.acalls hE hm (by simp) fun N hN => ?_
  unfold mc97
  simp only [lA, ptrCells, ptrAdd, isNil, readsV, readsP, isCall, wrote, srcOf, seval, av_fs]
  repeat' (first
   | (with_reducible apply St.o; constructor) <;> intro _
   | with_reducible first | refine LenR_i fun _ => ?_ | refine And.intro (by omega) ?_ | (apply Sp.o; constructor) | refine frz0_i ?_
   | ((with_reducible refine keep0_i ?_); simp only [lP, seval])
   | simp (maxSteps := 1000000) (disch := omega) only [lE, ptrCells, ptrAdd, isNil, readsV, readsP, isCall, wrote, srcOf, seval])
  all_goals (rename_i h; simp [isColE, h])
theorem isCol_ex {t : T} (h : t.wf) (c : Int) : isColE t.ex c = t.isCol c := by
  cases t with
  | col n => rfl
  | val v => rfl
  | un op a =>
    have : op ≠ 1 := by have := h.1; omega
    show (decide (op = 1) && _) = false
    rw [decide_eq_false this, Bool.false_and]
  | bin op a b =>
    have : op ≠ 1 := by have := h.1; omega
    show (decide (op = 1) && _) = false
    rw [decide_eq_false this, Bool.false_and]
theorem c67 (t : T) (c : Int) (hw : t.wf) : ACalls E.P 67 [t.ex.av, .int .i64 c] [] (fun r H => r = (t.bnd c).av ∧ H = []) := by
  have hmax := maxLen_eq
  have h52 : ∀ b, ACalls E.P 52 [.bool b] [] (fun r H => r = .agg [.int .i64 3, .int .i64 (if b then 1 else 0), .str ⟨#[]⟩] ∧ H = []) := c52
  have h53 : ∀ o, ACalls E.P 53 [.int .i64 o] [] (fun r H => r = .bool (cmpB o) ∧ H = []) := c53
  have h97 : ∀ a : T, a.wf → ACalls E.P 97 [.agg a.ex.fs, .vp [.int .i64 c]] [] (fun r H => r = .bool (a.isCol c) ∧ H = []) := fun a ha => by
    have := c97 a.ex c; rwa [tv_fs, isCol_ex ha] at this
  have h69 : ∀ a : T, a.wf → ACalls E.P 69 [.agg a.ex.fs, .agg [.int .i64 0, .int .i64 0, .str ⟨#[]⟩]] [] (fun r H => r = .bool (a.isC VL.null) ∧ H = []) := fun a ha => by
    have := c69 a.ex VL.null; rwa [tv_fs, vl_av, isV_ex ha] at this
  have key : ∀ x y : RG, x = y → (AV.agg x.cs = AV.agg y.cs) := fun x y h => by rw [h]
  rw [tv_fs]
  simp only [rg_av]
  refine ok67.acalls hE hm (by simp) fun N hN => ?_
  unfold mc67
  have c1 : cmpB 1 = false := rfl
  have c2 : cmpB 2 = false := rfl
  cases t with
  | col n =>
    simp only [lA, ptrCells, ptrAdd, isNil, readsV, readsP, isCall, wrote, srcOf, seval, fsL_col]
    repeat' (first
     | (with_reducible apply St.o; constructor) <;> intro _
     | with_reducible first | refine LenR_i fun _ => ?_ | refine And.intro (by omega) ?_ | (apply Sp.o; constructor) | refine frz0_i ?_
     | ((with_reducible apply Sc.o true; constructor); simp only [lP, seval, c1, fsL_col, ti45, flatEq, strA]; (first | refine ⟨_, h52 _, ?_⟩ | refine ⟨_, h53 _, ?_⟩); rintro _ _ ⟨rfl, rfl⟩; simp only [lA, lP, ptrCells, ptrAdd, isNil, readsV, readsP, isCall, wrote, srcOf, seval, c1, fsL_col, ti45, flatEq, strA])
     | ((with_reducible refine keep0_i ?_); simp only [lP, seval])
     | simp (maxSteps := 1000000) (disch := omega) only [lE, ptrCells, ptrAdd, isNil, readsV, readsP, isCall, wrote, srcOf, seval, c1, fsL_col, ti45, flatEq, strA])
    all_goals exact key RG.fullR _ rfl
  | val v =>
    simp only [lA, ptrCells, ptrAdd, isNil, readsV, readsP, isCall, wrote, srcOf, seval, fsL_val]
    repeat' (first
     | (with_reducible apply St.o; constructor) <;> intro _
     | with_reducible first | refine LenR_i fun _ => ?_ | refine And.intro (by omega) ?_ | (apply Sp.o; constructor) | refine frz0_i ?_
     | ((with_reducible apply Sc.o true; constructor); simp only [lP, seval, c2, fsL_val, ti45, flatEq, strA]; (first | refine ⟨_, h52 _, ?_⟩ | refine ⟨_, h53 _, ?_⟩); rintro _ _ ⟨rfl, rfl⟩; simp only [lA, lP, ptrCells, ptrAdd, isNil, readsV, readsP, isCall, wrote, srcOf, seval, c2, fsL_val, ti45, flatEq, strA])
     | ((with_reducible refine keep0_i ?_); simp only [lP, seval])
     | simp (maxSteps := 1000000) (disch := omega) only [lE, ptrCells, ptrAdd, isNil, readsV, readsP, isCall, wrote, srcOf, seval, c2, fsL_val, ti45, flatEq, strA])
    all_goals clear h52 h53 h97 h69
    · rename_i h
      have : v ≠ VL.ofB true := fun hh => by subst hh; simp [VL.ofB] at h
      exact key RG.empty _ (by simp [T.bnd, this])
    · rename_i h
      have : v = VL.ofB true := by rw [is_av]; simpa using h
      exact key RG.fullR _ (by simp [T.bnd, this])
  | un op a =>
    have h97a := h97 a hw.2
    have l14 : cmpB 14 = false := rfl
    have l15 : cmpB 15 = false := rfl
    rcases hw.1 with rfl | rfl
    · cases a with
      | col n =>
        simp only [lA, ptrCells, ptrAdd, isNil, readsV, readsP, isCall, wrote, srcOf, seval, fsL_un, fsL_col] at h97a ⊢
        repeat' (first
         | (with_reducible apply St.o; constructor) <;> intro _
         | with_reducible first | refine LenR_i fun _ => ?_ | refine And.intro (by omega) ?_ | (apply Sp.o; constructor) | refine frz0_i ?_
         | ((with_reducible apply Sc.o true; constructor); simp only [lP, seval, l14, l15, IdxR_0, fsL_un, fsL_col, ti45, flatEq, strA, decide_false]; (first | refine ⟨_, h52 _, ?_⟩ | refine ⟨_, h53 _, ?_⟩ | refine ⟨_, h97a, ?_⟩); rintro _ _ ⟨rfl, rfl⟩; simp only [lA, lP, ptrCells, ptrAdd, isNil, readsV, readsP, isCall, wrote, srcOf, seval, l14, l15, IdxR_0, fsL_un, fsL_col, ti45, flatEq, strA, decide_false])
         | ((with_reducible refine keep0_i ?_); simp only [lP, seval])
         | simp (maxSteps := 1000000) (disch := omega) only [lE, ptrCells, ptrAdd, isNil, readsV, readsP, isCall, wrote, srcOf, seval, l14, l15, IdxR_0, fsL_un, fsL_col, ti45, flatEq, strA, decide_false])
        all_goals clear h52 h53 h97 h69 h97a
        all_goals exact key RG.fullR _ (by simp [T.bnd, T.inNull])
      | val v =>
        simp only [lA, ptrCells, ptrAdd, isNil, readsV, readsP, isCall, wrote, srcOf, seval, fsL_un, fsL_val] at h97a ⊢
        repeat' (first
         | (with_reducible apply St.o; constructor) <;> intro _
         | with_reducible first | refine LenR_i fun _ => ?_ | refine And.intro (by omega) ?_ | (apply Sp.o; constructor) | refine frz0_i ?_
         | ((with_reducible apply Sc.o true; constructor); simp only [lP, seval, l14, l15, IdxR_0, fsL_un, fsL_val, ti45, flatEq, strA, decide_false]; (first | refine ⟨_, h52 _, ?_⟩ | refine ⟨_, h53 _, ?_⟩ | refine ⟨_, h97a, ?_⟩); rintro _ _ ⟨rfl, rfl⟩; simp only [lA, lP, ptrCells, ptrAdd, isNil, readsV, readsP, isCall, wrote, srcOf, seval, l14, l15, IdxR_0, fsL_un, fsL_val, ti45, flatEq, strA, decide_false])
         | ((with_reducible refine keep0_i ?_); simp only [lP, seval])
         | simp (maxSteps := 1000000) (disch := omega) only [lE, ptrCells, ptrAdd, isNil, readsV, readsP, isCall, wrote, srcOf, seval, l14, l15, IdxR_0, fsL_un, fsL_val, ti45, flatEq, strA, decide_false])
        all_goals clear h52 h53 h97 h69 h97a
        all_goals exact key RG.fullR _ (by simp [T.bnd, T.inNull])
      | un o x =>
        have h97x := h97 x hw.2.2
        simp only [lA, ptrCells, ptrAdd, isNil, readsV, readsP, isCall, wrote, srcOf, seval, fsL_un] at h97a ⊢
        repeat' (first
         | (with_reducible apply St.o; constructor) <;> intro _
         | with_reducible first | refine LenR_i fun _ => ?_ | refine And.intro (by omega) ?_ | (apply Sp.o; constructor) | refine frz0_i ?_
         | ((with_reducible apply Sc.o true; constructor); simp only [lP, seval, l14, l15, IdxR_0, fsL_un, ti45, flatEq, strA, decide_false]; (first | refine ⟨_, h52 _, ?_⟩ | refine ⟨_, h53 _, ?_⟩ | refine ⟨_, h97x, ?_⟩); rintro _ _ ⟨rfl, rfl⟩; simp only [lA, lP, ptrCells, ptrAdd, isNil, readsV, readsP, isCall, wrote, srcOf, seval, l14, l15, IdxR_0, fsL_un, ti45, flatEq, strA, decide_false])
         | ((with_reducible refine keep0_i ?_); simp only [lP, seval])
         | simp (maxSteps := 1000000) (disch := omega) only [lE, ptrCells, ptrAdd, isNil, readsV, readsP, isCall, wrote, srcOf, seval, l14, l15, IdxR_0, fsL_un, ti45, flatEq, strA, decide_false])
        all_goals clear h52 h53 h97 h69 h97a h97x
        all_goals first
          | exact key RG.someR _ (by simp [T.bnd, T.inNull, *])
          | exact key RG.fullR _ (by simp [T.bnd, T.inNull, *])
          | trace_state
      | bin o x y =>
        have o15 : o ≠ 15 := by have := hw.2.1; omega
        simp only [lA, ptrCells, ptrAdd, isNil, readsV, readsP, isCall, wrote, srcOf, seval, fsL_un, fsL_bin] at h97a ⊢
        repeat' (first
         | (with_reducible apply St.o; constructor) <;> intro _
         | with_reducible first | refine LenR_i fun _ => ?_ | refine And.intro (by omega) ?_ | (apply Sp.o; constructor) | refine frz0_i ?_
         | ((with_reducible apply Sc.o true; constructor); simp only [lP, seval, l14, l15, o15, IdxR_0, fsL_un, fsL_bin, ti45, flatEq, strA, decide_false]; (first | refine ⟨_, h52 _, ?_⟩ | refine ⟨_, h53 _, ?_⟩ | refine ⟨_, h97a, ?_⟩); rintro _ _ ⟨rfl, rfl⟩; simp only [lA, lP, ptrCells, ptrAdd, isNil, readsV, readsP, isCall, wrote, srcOf, seval, l14, l15, o15, IdxR_0, fsL_un, fsL_bin, ti45, flatEq, strA, decide_false])
         | ((with_reducible refine keep0_i ?_); simp only [lP, seval])
         | simp (maxSteps := 1000000) (disch := omega) only [lE, ptrCells, ptrAdd, isNil, readsV, readsP, isCall, wrote, srcOf, seval, l14, l15, o15, IdxR_0, fsL_un, fsL_bin, ti45, flatEq, strA, decide_false])
        all_goals clear h52 h53 h97 h69 h97a
        all_goals first
          | contradiction
          | exact key RG.fullR _ (by simp [T.bnd, T.inNull])
          | trace_state
    · simp only [lA, ptrCells, ptrAdd, isNil, readsV, readsP, isCall, wrote, srcOf, seval, fsL_un]
      repeat' (first
       | (with_reducible apply St.o; constructor) <;> intro _
       | with_reducible first | refine LenR_i fun _ => ?_ | refine And.intro (by omega) ?_ | (apply Sp.o; constructor) | refine frz0_i ?_
       | ((with_reducible apply Sc.o true; constructor); simp only [lP, seval, l14, l15, IdxR_0, fsL_un, ti45, flatEq, strA, decide_false]; (first | refine ⟨_, h52 _, ?_⟩ | refine ⟨_, h53 _, ?_⟩ | refine ⟨_, h97a, ?_⟩); rintro _ _ ⟨rfl, rfl⟩; simp only [lA, lP, ptrCells, ptrAdd, isNil, readsV, readsP, isCall, wrote, srcOf, seval, l14, l15, IdxR_0, fsL_un, ti45, flatEq, strA, decide_false])
       | ((with_reducible refine keep0_i ?_); simp only [lP, seval])
       | simp (maxSteps := 1000000) (disch := omega) only [lE, ptrCells, ptrAdd, isNil, readsV, readsP, isCall, wrote, srcOf, seval, l14, l15, IdxR_0, fsL_un, ti45, flatEq, strA, decide_false])
      all_goals clear h52 h53 h97 h69 h97a
      all_goals first
        | exact key RG.nullR _ (by simp [T.bnd, *])
        | exact key RG.fullR _ (by simp [T.bnd, *])
        | trace_state
  | bin op a b =>
    have n2 : op ≠ 2 := by have := hw.1; omega
    have n14 : op ≠ 14 := by have := hw.1; omega
    have n15 : op ≠ 15 := by have := hw.1; omega
    have h97a := h97 a hw.2.1
    have h69b := h69 b hw.2.2
    have hb2 := op2_ex hw.2.2
    simp only [lA, ptrCells, ptrAdd, isNil, readsV, readsP, isCall, wrote, srcOf, seval, fsL_bin, n2, n14, n15, decide_false]
    cases hc : cmpB op with
    | false =>
      repeat' (first
       | (with_reducible apply St.o; constructor) <;> intro _
       | with_reducible first | refine LenR_i fun _ => ?_ | refine And.intro (by omega) ?_ | (apply Sp.o; constructor) | refine frz0_i ?_
       | ((with_reducible apply Sc.o true; constructor); simp only [lP, seval, hc, n2, n14, n15, IdxR_0, IdxR_1, fsL_bin, ti45, flatEq, strA, decide_false]; (first | refine ⟨_, h52 _, ?_⟩ | refine ⟨_, h53 _, ?_⟩ | refine ⟨_, h97a, ?_⟩ | refine ⟨_, h69b, ?_⟩); rintro _ _ ⟨rfl, rfl⟩; simp only [lA, lP, ptrCells, ptrAdd, isNil, readsV, readsP, isCall, wrote, srcOf, seval, hc, n2, n14, n15, IdxR_0, IdxR_1, fsL_bin, ti45, flatEq, strA, decide_false])
       | ((with_reducible refine keep0_i ?_); simp only [lP, seval])
       | simp (maxSteps := 1000000) (disch := omega) only [lE, ptrCells, ptrAdd, isNil, readsV, readsP, isCall, wrote, srcOf, seval, hc, n2, n14, n15, IdxR_0, IdxR_1, fsL_bin, ti45, flatEq, strA, decide_false])
      all_goals exact key RG.fullR _ (by simp [T.bnd, hc])
    | true =>
      cases b with
      | val v =>
        simp only [fsL_val] at h69b ⊢
        rcases cmp_cases hc with rfl | rfl | rfl | rfl | rfl | rfl
        all_goals
          repeat' (first
           | (with_reducible apply St.o; constructor) <;> intro _
           | with_reducible first | refine LenR_i fun _ => ?_ | refine And.intro (by omega) ?_ | (apply Sp.o; constructor) | refine frz0_i ?_
           | ((with_reducible apply Sc.o true; constructor); simp only [lP, seval, hc, IdxR_0, IdxR_1, fsL_val, ti45, flatEq, strA, decide_false]; (first | refine ⟨_, h52 _, ?_⟩ | refine ⟨_, h53 _, ?_⟩ | refine ⟨_, h97a, ?_⟩ | refine ⟨_, h69b, ?_⟩); rintro _ _ ⟨rfl, rfl⟩; simp only [lA, lP, ptrCells, ptrAdd, isNil, readsV, readsP, isCall, wrote, srcOf, seval, hc, IdxR_0, IdxR_1, fsL_val, ti45, flatEq, strA, decide_false])
           | ((with_reducible refine keep0_i ?_); simp only [lP, seval])
           | simp (maxSteps := 1000000) (disch := omega) only [lE, ptrCells, ptrAdd, isNil, readsV, readsP, isCall, wrote, srcOf, seval, hc, IdxR_0, IdxR_1, fsL_val, ti45, flatEq, strA, decide_false])
          all_goals clear h52 h53 h97 h69 h97a h69b
          all_goals (try simp only [Bool.not_false, Bool.not_true, Bool.not_eq_true', Bool.not_eq_false'] at *)
          all_goals first
            | exact key RG.empty _ (by simp [T.bnd, hc, *])
            | exact key RG.fullR _ (by simp [T.bnd, hc, cmpR, *])
            | exact key ⟨_, _, _, _, VL.null, _, _⟩ _ (by simp [T.bnd, hc, cmpR, *])
            | exact key ⟨_, _, _, VL.null, _, _, _⟩ _ (by simp [T.bnd, hc, cmpR, *])
            | exact key ⟨_, _, _, _, _, _, _⟩ _ (by simp [T.bnd, hc, cmpR, *])
            | trace_state
      | _ =>
        simp only [T.isVal] at hb2
        repeat' (first
         | (with_reducible apply St.o; constructor) <;> intro _
         | with_reducible first | refine LenR_i fun _ => ?_ | refine And.intro (by omega) ?_ | (apply Sp.o; constructor) | refine frz0_i ?_
         | ((with_reducible apply Sc.o true; constructor); simp only [lP, seval, hc, hb2, n2, n14, n15, IdxR_0, IdxR_1, ti45, flatEq, strA, decide_false, T.isC]; (first | refine ⟨_, h52 _, ?_⟩ | refine ⟨_, h53 _, ?_⟩ | refine ⟨_, h97a, ?_⟩ | refine ⟨_, h69b, ?_⟩); rintro _ _ ⟨rfl, rfl⟩; simp only [lA, lP, ptrCells, ptrAdd, isNil, readsV, readsP, isCall, wrote, srcOf, seval, hc, hb2, n2, n14, n15, IdxR_0, IdxR_1, ti45, flatEq, strA, decide_false, T.isC])
         | ((with_reducible refine keep0_i ?_); simp only [lP, seval])
         | simp (maxSteps := 1000000) (disch := omega) only [lE, ptrCells, ptrAdd, isNil, readsV, readsP, isCall, wrote, srcOf, seval, hc, hb2, n2, n14, n15, IdxR_0, IdxR_1, ti45, flatEq, strA, decide_false, T.isC])
        all_goals clear h52 h53 h97 h69 h97a h69b
        all_goals first
          | exact key RG.fullR _ (by simp [T.bnd, hc, T.isC, *])
          | trace_state
end Go.Proofs.Try
