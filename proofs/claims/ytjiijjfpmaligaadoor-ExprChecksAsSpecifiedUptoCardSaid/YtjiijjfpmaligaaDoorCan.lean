/-
  A part of the proof: see the text of the law.
-/
import Derived.Test.YtjiijjfpmaligaaDoorCai
import Derived.Test.YtjiijjfpmaligaaDoorCal
import Derived.Test.YtjiijjfpmaligaaDoorCaj
set_option linter.unusedSimpArgs false
set_option linter.unusedVariables false
namespace Go.Proofs.Try
open Go.Al
set_option linter.unusedVariables false
set_option linter.unusedSimpArgs false
set_option maxRecDepth 20000
set_option maxHeartbeats 4000000

/-! ### values of trees -/
def T.eval (r : List VL) : T → VL × Int
  | .col n => (r.getD n.toNat default, 0)
  | .val v => (v, 0)
  | .un op a => if (a.eval r).2 = 0 then eN r op 0 VL.null [(a.eval r).1] else (VL.null, (a.eval r).2)
  | .bin op a b => if (a.eval r).2 = 0 then (if (b.eval r).2 = 0 then eN r op 0 VL.null [(a.eval r).1, (b.eval r).1] else (VL.null, (b.eval r).2)) else (VL.null, (a.eval r).2)
/-- The columns are there. -/
def T.fits (n : Nat) : T → Prop
  | .col k => 0 ≤ k ∧ k < n
  | .val _ => True
  | .un _ a => a.fits n
  | .bin _ a b => a.fits n ∧ b.fits n
theorem null_right : VL.null.Right := .inl ⟨rfl, rfl, rfl⟩
theorem ofB_right (b : Bool) : (VL.ofB b).Right := .inr (.inr (.inr ⟨rfl, by cases b <;> simp [VL.ofB], rfl⟩))
theorem dec_right (s : Bool) (a b : VL) : (VL.dec s a b).1.Right := by
  unfold VL.dec
  (repeat' split) <;> first | exact null_right | exact ofB_right _
theorem not_right {a : VL} (h : a.Right) : a.not19.1.Right := by
  unfold VL.not19
  (repeat' split) <;> first | exact null_right | exact ofB_right _ | exact h
theorem test_right (c : VL → VL → Int) (op : Int) (a b : VL) : (VL.test c op a b).1.Right := by
  unfold VL.test
  (repeat' split) <;> first | exact null_right | exact ofB_right _
theorem ariR_range {op a b : Int} (h : (ariR op a b).2 = 0) : -549755813888 ≤ (ariR op a b).1 ∧ (ariR op a b).1 ≤ 549755813887 := by
  unfold ariR at *
  split at h
  · simp at h
  · rename_i h1; rw [if_neg h1]; simp only; omega
theorem eN_right {r : List VL} {op n : Int} {v : VL} {l : List VL} (hv : op = 2 → v.Right) (hr : op = 1 → (r.getD n.toNat default).Right) (h0 : (l.getD 0 default).Right) : (eN r op n v l).1.Right := by
  unfold eN
  split
  · rename_i h; exact hr h
  split
  · rename_i h; exact hv h
  split
  · exact dec_right _ _ _
  split
  · exact dec_right _ _ _
  split
  · exact not_right h0
  split
  · exact ofB_right _
  split
  · exact test_right _ _ _ _
  split
  · exact null_right
  split
  · rename_i h
    have := ariR_range h
    exact .inr (.inl ⟨rfl, this.1, this.2, rfl⟩)
  · exact null_right
theorem T.eval_right {r : List VL} (hr : ∀ v ∈ r, v.Right) : ∀ t : T, t.wf → t.fits r.length → t.vals VL.Right → (t.eval r).1.Right
  | .col k, _, h, _ => by
    obtain ⟨h1, h2⟩ := h
    have hlt : k.toNat < r.length := by omega
    simp only [T.eval, List.getD_eq_getElem?_getD, hlt, List.getElem?_eq_getElem, Option.getD_some]
    exact hr _ (List.getElem_mem hlt)
  | .val v, _, _, h => h
  | .un op a, hw, h, hv => by
    have ih := T.eval_right hr a hw.2 h hv
    have := hw.1
    rw [T.eval]
    split
    · exact eN_right (fun _ => null_right) (fun h => by omega) ih
    · exact null_right
  | .bin op a b, hw, h, hv => by
    have ih := T.eval_right hr a hw.2.1 h.1 hv.1
    have := hw.1
    rw [T.eval]
    split
    · split
      · exact eN_right (fun _ => null_right) (fun h => by omega) ih
      · exact null_right
    · exact null_right
theorem enode_un (r : List VL) (op : Int) (a : T) : enode r (T.un op a).ex [a.eval r] = (T.un op a).eval r := by
  simp only [enode, ferr, T.eval, T.ex, EX.op, EX.n, EX.val, List.map_cons, List.map_nil]
  split <;> simp_all <;> rfl
theorem enode_bin (r : List VL) (op : Int) (a b : T) : enode r (T.bin op a b).ex [a.eval r, b.eval r] = (T.bin op a b).eval r := by
  simp only [enode, ferr, T.eval, T.ex, EX.op, EX.n, EX.val, List.map_cons, List.map_nil]
  split <;> rename_i h1 <;> (by_cases h2 : (a.eval r).2 = 0 <;> simp [h2] at h1 ⊢ <;> simp_all <;> rfl)
theorem c14 {r : List VL} (hr : ∀ v ∈ r, v.Right) : ∀ t : T, t.wf → t.fits r.length → t.vals VL.Right → ACalls E.P 14 [t.ex.av, rowV r] [] (fun q H => q = .tup [(t.eval r).1.av, .int .i64 (t.eval r).2] ∧ H = [])
  | .col n, _, h, _ => c14n r (T.col n).ex [] rfl (by simp [T.ex, EX.args, EX.op, ar]) (fun _ => h) (by simp) (fun j hj => by simp [T.ex, EX.args] at hj)
  | .val v, _, _, _ => c14n r (T.val v).ex [] rfl (by simp [T.ex, EX.args, EX.op, ar]) (by simp [T.ex, EX.op]) (by simp) (fun j hj => by simp [T.ex, EX.args] at hj)
  | .un op a, hw, hf, hv => by
    have ih := c14 hr a hw.2 hf hv
    have h := c14n r (T.un op a).ex [a.eval r] rfl (ar1 hw.1).symm (fun h => by have := hw.1; simp only [T.ex, EX.op] at h; omega) (fun x hx => by rw [List.mem_singleton.1 hx]; exact T.eval_right hr a hw.2 hf hv) (fun j hj => by
      have : j = 0 := by simp [T.ex, EX.args] at hj; exact hj
      subst this; exact ih)
    rwa [enode_un] at h
  | .bin op a b, hw, hf, hv => by
    have ih := c14 hr a hw.2.1 hf.1 hv.1
    have ih2 := c14 hr b hw.2.2 hf.2 hv.2
    have h := c14n r (T.bin op a b).ex [a.eval r, b.eval r] rfl (ar2 hw.1).symm (fun h => by have := hw.1; simp only [T.ex, EX.op] at h; omega) (fun x hx => by
      rcases List.mem_cons.1 hx with rfl | hx
      · exact T.eval_right hr a hw.2.1 hf.1 hv.1
      · rw [List.mem_singleton.1 hx]; exact T.eval_right hr b hw.2.2 hf.2 hv.2) (fun j hj => by
      have : j = 0 ∨ j = 1 := by simp [T.ex, EX.args] at hj; omega
      rcases this with rfl | rfl
      · exact ih
      · exact ih2)
    rwa [enode_bin] at h
theorem c15 {r : List VL} (hr : ∀ v ∈ r, v.Right) : ∀ t : T, t.wf → t.fits r.length → t.vals VL.Right → ACalls E.P 15 [t.ex.av, rowV r] [] (fun q H => q = .tup [(t.eval r).1.av, .int .i64 (t.eval r).2] ∧ H = [])
  | .col n, _, h, _ => c15n r (T.col n).ex [] rfl (by simp [T.ex, EX.args, EX.op, ar]) (fun _ => h) (by simp) (fun j hj => by simp [T.ex, EX.args] at hj)
  | .val v, _, _, _ => c15n r (T.val v).ex [] rfl (by simp [T.ex, EX.args, EX.op, ar]) (by simp [T.ex, EX.op]) (by simp) (fun j hj => by simp [T.ex, EX.args] at hj)
  | .un op a, hw, hf, hv => by
    have ih := c15 hr a hw.2 hf hv
    have h := c15n r (T.un op a).ex [a.eval r] rfl (ar1 hw.1).symm (fun h => by have := hw.1; simp only [T.ex, EX.op] at h; omega) (fun x hx => by rw [List.mem_singleton.1 hx]; exact T.eval_right hr a hw.2 hf hv) (fun j hj => by
      have : j = 0 := by simp [T.ex, EX.args] at hj; exact hj
      subst this; exact ih)
    rwa [enode_un] at h
  | .bin op a b, hw, hf, hv => by
    have ih := c15 hr a hw.2.1 hf.1 hv.1
    have ih2 := c15 hr b hw.2.2 hf.2 hv.2
    have h := c15n r (T.bin op a b).ex [a.eval r, b.eval r] rfl (ar2 hw.1).symm (fun h => by have := hw.1; simp only [T.ex, EX.op] at h; omega) (fun x hx => by
      rcases List.mem_cons.1 hx with rfl | hx
      · exact T.eval_right hr a hw.2.1 hf.1 hv.1
      · rw [List.mem_singleton.1 hx]; exact T.eval_right hr b hw.2.2 hf.2 hv.2) (fun j hj => by
      have : j = 0 ∨ j = 1 := by simp [T.ex, EX.args] at hj; omega
      rcases this with rfl | rfl
      · exact ih
      · exact ih2)
    rwa [enode_bin] at h
/-- Does it hold? -/
def T.holds (r : List VL) (t : T) : Bool := decide ((t.eval r).2 = 0) && (t.eval r).1.is true
instance : DecidableEq VL := fun a b => decidable_of_iff (a.same b = true) VL.same_iff
theorem is_av (v : VL) (b : Bool) : (v = VL.ofB b) ↔ v.k = 3 ∧ v.n = (if b then 1 else 0) ∧ v.s = ⟨#[]⟩ := by
  obtain ⟨k, n, s⟩ := v
  simp [VL.ofB]
theorem c17 {r : List VL} (hr : ∀ v ∈ r, v.Right) (t : T) (hw : t.wf) (hf : t.fits r.length) (hv : t.vals VL.Right) : ACalls E.P 17 [t.ex.av, rowV r] [] (fun q H => q = .tup [.bool (t.holds r), .int .i64 (t.eval r).2] ∧ H = []) := by
  have h := c14 hr t hw hf hv
  have h52 := c52 true
  have hx : (VL.ofB true).av = .agg [.int .i64 3, .int .i64 1, .str ⟨#[]⟩] := rfl
  unfold T.holds
  simp only [av_fs, vl_av] at h h52
  rw [show (VL.ofB true).cs = [.int .i64 3, .int .i64 1, .str ⟨#[]⟩] from rfl] at h52
  simp only [VL.is, if_true]
  generalize t.eval r = v at *
  obtain ⟨v, v2⟩ := v
  refine ok17.acalls hE hm (by simp) fun N hN => ?_
  unfold mc17
  simp only [lA, ptrCells, ptrAdd, isNil, readsV, readsP, isCall, wrote, srcOf, seval, av_fs]
  repeat' (first
   | (with_reducible apply St.o; constructor) <;> intro _
   | with_reducible first | refine LenR_i fun _ => ?_ | refine And.intro (by omega) ?_ | (apply Sp.o; constructor) | refine frz0_i ?_
   | ((with_reducible apply Sc.o true; constructor); simp only [lP, seval, ti24, flatEq, strA]; (first | refine ⟨_, h, ?_⟩ | refine ⟨_, h52, ?_⟩); rintro _ _ ⟨rfl, rfl⟩; simp only [lA, lP, ptrCells, ptrAdd, isNil, readsV, readsP, isCall, wrote, srcOf, seval, ti24, flatEq, strA])
   | ((with_reducible refine keep0_i ?_); simp only [lP, seval])
   | simp (maxSteps := 1000000) (disch := omega) only [lE, ptrCells, ptrAdd, isNil, readsV, readsP, isCall, wrote, srcOf, seval, ti24, flatEq, strA])
  all_goals (rename_i h0; simp [h0, and_assoc])
theorem c18 {r : List VL} (hr : ∀ v ∈ r, v.Right) (t : T) (hw : t.wf) (hf : t.fits r.length) (hv : t.vals VL.Right) : ACalls E.P 18 [t.ex.av, rowV r] [] (fun q H => q = .tup [.bool (t.holds r), .int .i64 (t.eval r).2] ∧ H = []) := by
  have h := c15 hr t hw hf hv
  have h52 := c44 true
  have hx : (VL.ofB true).av = .agg [.int .i64 3, .int .i64 1, .str ⟨#[]⟩] := rfl
  unfold T.holds
  simp only [av_fs, vl_av] at h h52
  rw [show (VL.ofB true).cs = [.int .i64 3, .int .i64 1, .str ⟨#[]⟩] from rfl] at h52
  simp only [VL.is, if_true]
  generalize t.eval r = v at *
  obtain ⟨v, v2⟩ := v
  refine ok18.acalls hE hm (by simp) fun N hN => ?_
  unfold mc18
  simp only [lA, ptrCells, ptrAdd, isNil, readsV, readsP, isCall, wrote, srcOf, seval, av_fs]
  repeat' (first
   | (with_reducible apply St.o; constructor) <;> intro _
   | with_reducible first | refine LenR_i fun _ => ?_ | refine And.intro (by omega) ?_ | (apply Sp.o; constructor) | refine frz0_i ?_
   | ((with_reducible apply Sc.o true; constructor); simp only [lP, seval, ti24, flatEq, strA]; (first | refine ⟨_, h, ?_⟩ | refine ⟨_, h52, ?_⟩); rintro _ _ ⟨rfl, rfl⟩; simp only [lA, lP, ptrCells, ptrAdd, isNil, readsV, readsP, isCall, wrote, srcOf, seval, ti24, flatEq, strA])
   | ((with_reducible refine keep0_i ?_); simp only [lP, seval])
   | simp (maxSteps := 1000000) (disch := omega) only [lE, ptrCells, ptrAdd, isNil, readsV, readsP, isCall, wrote, srcOf, seval, ti24, flatEq, strA])
  all_goals (rename_i h0; simp [h0, and_assoc])
end Go.Proofs.Try

namespace Go.Proofs.Try
open Go.Al
set_option linter.unusedVariables false
set_option linter.unusedSimpArgs false
set_option maxRecDepth 20000
set_option maxHeartbeats 4000000

def isV (e : EX) (v : VL) : Bool := decide (e.op = 2) && e.val.same v
theorem c69 (e : EX) (v : VL) : ACalls E.P 69 [e.av, v.av] [] (fun r H => r = .bool (isV e v) ∧ H = []) := by
  refine ok69.acalls hE hm (by simp) fun N hN => ?_
  unfold mc69
  simp only [lA, ptrCells, ptrAdd, isNil, readsV, readsP, isCall, wrote, srcOf, seval, av_fs, vl_av]
  repeat' (first
   | (with_reducible apply St.o; constructor) <;> intro _
   | with_reducible first | refine LenR_i fun _ => ?_ | refine And.intro (by omega) ?_ | (apply Sp.o; constructor) | refine frz0_i ?_
   | ((with_reducible refine keep0_i ?_); simp only [lP, seval])
   | simp (maxSteps := 1000000) (disch := omega) only [lE, ptrCells, ptrAdd, isNil, readsV, readsP, isCall, wrote, srcOf, seval, strA, flatEq])
  all_goals (rename_i h; simp [isV, VL.same, h])
theorem c100 (e : EX) (v : VL) : ACalls E.P 100 [e.av, v.av] [] (fun r H => r = .bool (isV e v) ∧ H = []) := by
  refine ok100.acalls hE hm (by simp) fun N hN => ?_
  unfold mc100
  simp only [lA, ptrCells, ptrAdd, isNil, readsV, readsP, isCall, wrote, srcOf, seval, av_fs, vl_av]
  repeat' (first
   | (with_reducible apply St.o; constructor) <;> intro _
   | with_reducible first | refine LenR_i fun _ => ?_ | refine And.intro (by omega) ?_ | (apply Sp.o; constructor) | refine frz0_i ?_
   | ((with_reducible refine keep0_i ?_); simp only [lP, seval])
   | simp (maxSteps := 1000000) (disch := omega) only [lE, ptrCells, ptrAdd, isNil, readsV, readsP, isCall, wrote, srcOf, seval, strA, flatEq])
  all_goals (rename_i h; simp [isV, VL.same, h])
def opp (op : Int) : Int := if op = 6 then 7 else if op = 7 then 6 else 19 - op
def trn (op : Int) : Int := if op = 8 then 10 else if op = 10 then 8 else if op = 9 then 11 else if op = 11 then 9 else op
theorem c71 (op : Int) (h : cmpB op = true) : ACalls E.P 71 [.int .i64 op] [] (fun r H => r = .int .i64 (opp op) ∧ H = []) := by
  simp only [cmpB, decide_eq_true_eq] at h
  refine ok71.acalls hE hm (by simp) fun N hN => ?_
  unfold mc71
  simp only [lA, ptrCells, ptrAdd, isNil, readsV, readsP, isCall, wrote, srcOf, seval]
  repeat' (first
   | (with_reducible apply St.o; constructor) <;> intro _
   | with_reducible first | refine LenR_i fun _ => ?_ | refine And.intro (by omega) ?_ | (apply Sp.o; constructor) | refine frz0_i ?_
   | ((with_reducible refine keep0_i ?_); simp only [lP, seval])
   | simp (maxSteps := 1000000) (disch := omega) only [lE, ptrCells, ptrAdd, isNil, readsV, readsP, isCall, wrote, srcOf, seval])
  all_goals (simp only [opp, AV.int.injEq, true_and]; (repeat' split) <;> omega)
theorem c72 (op : Int) : ACalls E.P 72 [.int .i64 op] [] (fun r H => r = .int .i64 (trn op) ∧ H = []) := by
  refine ok72.acalls hE hm (by simp) fun N hN => ?_
  unfold mc72
  simp only [lA, ptrCells, ptrAdd, isNil, readsV, readsP, isCall, wrote, srcOf, seval]
  repeat' (first
   | (with_reducible apply St.o; constructor) <;> intro _
   | with_reducible first | refine LenR_i fun _ => ?_ | refine And.intro (by omega) ?_ | (apply Sp.o; constructor) | refine frz0_i ?_
   | ((with_reducible refine keep0_i ?_); simp only [lP, seval])
   | simp (maxSteps := 1000000) (disch := omega) only [lE, ptrCells, ptrAdd, isNil, readsV, readsP, isCall, wrote, srcOf, seval])
  all_goals (simp only [trn, AV.int.injEq, true_and]; (repeat' split) <;> omega)
theorem cmp_cases {op : Int} (h : cmpB op = true) : op = 6 ∨ op = 7 ∨ op = 8 ∨ op = 9 ∨ op = 10 ∨ op = 11 := by
  simp only [cmpB, decide_eq_true_eq] at h; omega
theorem c99 (op : Int) (h : cmpB op = true) : ACalls E.P 99 [.int .i64 op] [] (fun r H => r = .int .i64 (opp op) ∧ H = []) := by
  refine ok99.acalls hE hm (by simp) fun N hN => ?_
  unfold mc99
  rcases cmp_cases h with rfl | rfl | rfl | rfl | rfl | rfl
  all_goals
    simp only [lA, ptrCells, ptrAdd, isNil, readsV, readsP, isCall, wrote, srcOf, seval]
    repeat' (first
     | (with_reducible apply St.o; constructor) <;> intro _
     | with_reducible first | refine LenR_i fun _ => ?_ | refine And.intro (by omega) ?_ | (apply Sp.o; constructor) | refine frz0_i ?_
     | ((with_reducible refine keep0_i ?_); simp only [lP, seval])
     | simp (maxSteps := 1000000) (disch := omega) only [lE, ptrCells, ptrAdd, isNil, readsV, readsP, isCall, wrote, srcOf, seval, fillE, epR_cons])
    all_goals simp [opp]
theorem c101 (op : Int) (h : cmpB op = true) : ACalls E.P 101 [.int .i64 op] [] (fun r H => r = .int .i64 (trn op) ∧ H = []) := by
  refine ok101.acalls hE hm (by simp) fun N hN => ?_
  unfold mc101
  rcases cmp_cases h with rfl | rfl | rfl | rfl | rfl | rfl
  all_goals
    simp only [lA, ptrCells, ptrAdd, isNil, readsV, readsP, isCall, wrote, srcOf, seval]
    repeat' (first
     | (with_reducible apply St.o; constructor) <;> intro _
     | with_reducible first | refine LenR_i fun _ => ?_ | refine And.intro (by omega) ?_ | (apply Sp.o; constructor) | refine frz0_i ?_
     | ((with_reducible refine keep0_i ?_); simp only [lP, seval])
     | simp (maxSteps := 1000000) (disch := omega) only [lE, ptrCells, ptrAdd, isNil, readsV, readsP, isCall, wrote, srcOf, seval, fillE, epR_cons])
    all_goals simp [trn]

/-! ### may it fail? -/
mutual
def EX.fails : EX → Bool
  | .mk op n k i s args => ariB op || EX.failsL args
def EX.failsL : List EX → Bool
  | [] => false
  | e :: es => e.fails || EX.failsL es
end
theorem failsL_any : ∀ l : List EX, EX.failsL l = l.any EX.fails
  | [] => rfl
  | e :: es => by rw [EX.failsL, failsL_any es]; rfl
theorem fails_eq (e : EX) : e.fails = (ariB e.op || e.args.any EX.fails) := by
  cases e; rw [EX.fails, failsL_any]; rfl
theorem walk_fails (e : EX) : walk (fun _ x => (!ariB x.op, !(!ariB x.op))) e false = (!e.fails, !(!e.fails)) :=
  walk_all (fun x => !ariB x.op) (fun e => !e.fails) (fun l => !EX.failsL l) (fun e => by rw [fails_eq, failsL_any, Bool.not_or]) rfl (fun e l => by rw [EX.failsL, Bool.not_or]) e
theorem ti4 : E.TI 4 = some ⟨.bool, 1, 1, [.bool false], false, false⟩ := rfl
theorem c70 (e : EX) : ACalls E.P 70 [e.av] [] (fun r H => r = .bool e.fails ∧ H = []) := by
  have h61 := c61 e
  simp only [av_fs, cs_fs] at h61
  refine ok70.acalls hE hm (by simp) fun N hN => ?_
  unfold mc70
  simp only [lA, ptrCells, ptrAdd, isNil, readsV, readsP, isCall, wrote, srcOf, seval, av_fs]
  repeat' (first
   | (with_reducible apply St.o; constructor) <;> intro _
   | with_reducible first | refine LenR_i fun _ => ?_ | refine And.intro (by omega) ?_ | (apply Sp.o; constructor) | refine frz0_i ?_
   | ((with_reducible apply Sc.o false; constructor); simp only [lP, seval]; refine ⟨_, h61, ?_⟩; rintro _ _ ⟨rfl, rfl⟩; simp only [lA, lP, ptrCells, ptrAdd, isNil, readsV, readsP, isCall, wrote, srcOf, seval])
   | ((with_reducible refine keep0_i ?_); simp only [lP, seval])
   | simp (maxSteps := 1000000) (disch := omega) only [lE, ptrCells, ptrAdd, isNil, readsV, readsP, isCall, wrote, srcOf, seval])
  refine rng_i hN [(2, .op 1 0)] (by simp [FrSub, Go.Al.get]) fun fn cas bd hy => ?_
  let st : Bool → List AObj := fun b => [.box e.fs, .box [.bool b], .loop (if b then .done else .ready) (if b then some .ret else none) [(2, .op 1 0)] N.n fn #[6] cas bd]
  have hY : ∀ (x : EX), AYield E.P 2 [x.av] (st false) (fun r H' => r = .bool (!ariB x.op) ∧ H' = st (!(!ariB x.op))) := by
    intro x
    have h93 := c93 x.op
    refine hy 2 [(2, .op 1 0)] [x.av] (st false) _ rfl rfl fun N2 hN2 => ?_
    simp only [lA, ptrCells, ptrAdd, isNil, readsV, readsP, isCall, wrote, srcOf, seval, st, av_fs]
    repeat' (first
     | (with_reducible apply St.o; constructor) <;> intro _
     | with_reducible first | refine LenR_i fun _ => ?_ | refine And.intro (by omega) ?_ | (apply Sp.o; constructor) | refine frz0_i ?_
     | ((with_reducible apply Sc.o true; constructor); simp only [lP, seval]; refine ⟨_, h93, ?_⟩; rintro _ _ ⟨rfl, rfl⟩; simp only [lA, lP, ptrCells, ptrAdd, isNil, readsV, readsP, isCall, wrote, srcOf, seval])
     | ((with_reducible refine keep0_i ?_); simp only [lP, seval])
     | simp (maxSteps := 1000000) (disch := omega) only [lE, ptrCells, ptrAdd, isNil, readsV, readsP, isCall, wrote, srcOf, seval])
    · rename_i h
      rw [h]
      exact ret_take (o := fun st pd => .loop st pd [(2, .op 1 0)] N.n fn #[6] cas bd) 3 (by simp) (by simp [scO, scL, sc]) rfl ⟨rfl, rfl⟩
    · rename_i h
      rw [h]
      exact round_take (o := fun st pd => .loop st pd [(2, .op 1 0)] N.n fn #[6] cas bd) 3 (by simp) (by simp [scO, scL, sc]) rfl ⟨rfl, rfl⟩
  have h86 := c86 (st := st) (K := 3) (id := 2) (f := fun _ x => (!ariB x.op, !(!ariB x.op))) (live := fun b => b = false) (fun _ => rfl) (by omega) (fun b => by cases b <;> simp [st, scO, sc, scL]) (fun b x hb hx => by simpa using hx)
    (fun b x hb => by subst hb; exact hY x) e false rfl
  rw [walk_fails, cs_fs] at h86
  refine ⟨_, h86, ?_⟩
  rintro r _ rfl
  cases hf : e.fails with
  | true =>
    refine ⟨.done, some .ret, [(2, .op 1 0)], rfl, by simp, [(2, .op 1 0)], (st true).set 2 .lost, Ent.fr (by simp [FrSub, Go.Al.get]), ?_⟩
    simp only [lA, ptrCells, ptrAdd, isNil, readsV, readsP, isCall, wrote, srcOf, seval, st, ti4]
    refine keep0_i ?_
    simp only [lP, seval]
  | false =>
    refine ⟨.ready, none, [(2, .op 1 0)], rfl, by simp, [(2, .op 1 0)], (st false).set 2 .lost, Ent.fr (by simp [FrSub, Go.Al.get]), ?_⟩
    simp only [lA, ptrCells, ptrAdd, isNil, readsV, readsP, isCall, wrote, srcOf, seval, st, ti4]
    refine keep0_i ?_
    simp only [lP, seval]
theorem any_take' {α : Type} {p : α → Bool} {l : List α} {i : Nat} (h : i < l.length) (d : α) : (l.take (i + 1)).any p = (p (l.getD i d) || (l.take i).any p) := by
  rw [List.take_succ_eq_append_getElem h, List.any_append, Bool.or_comm]
  simp [h]
theorem c20 (e : EX) : ACalls E.P 20 [e.av] [] (fun r H => r = .bool e.fails ∧ H = []) := by
  have hmax := maxLen_eq
  generalize hsz : SizeOf.sizeOf e = sz
  induction sz using Nat.strongRecOn generalizing e with
  | _ sz ih =>
  have h64 := c64 e.op
  refine ok20.acalls hE hm (by simp) fun N hN => ?_
  unfold mc20
  simp only [lA, ptrCells, ptrAdd, isNil, readsV, readsP, isCall, wrote, srcOf, seval, av_fs]
  repeat' (first
   | (with_reducible apply St.o; constructor) <;> intro _
   | with_reducible first | refine LenR_i fun _ => ?_ | refine And.intro (by omega) ?_ | (apply Sp.o; constructor) | refine frz0_i ?_
   | ((with_reducible apply Sc.o true; constructor); simp only [lP, seval]; refine ⟨_, h64, ?_⟩; rintro _ _ ⟨rfl, rfl⟩; simp only [lA, lP, ptrCells, ptrAdd, isNil, readsV, readsP, isCall, wrote, srcOf, seval])
   | ((with_reducible refine keep0_i ?_); simp only [lP, seval])
   | simp (maxSteps := 1000000) (disch := omega) only [lE, ptrCells, ptrAdd, isNil, readsV, readsP, isCall, wrote, srcOf, seval])
  refine loop_i (fun i : Nat => i ≤ e.args.length) (fun i => ⟨[(1, .op 0 0), (3, .bool ((e.args.take i).any EX.fails || ariB e.op)), (4, .int .i64 i)], [.box e.fs]⟩) (fun i => e.args.length - i) 0 (by omega) (Ent.to [0] false (by simp) (by simp) rfl (by simp only [lP, seval, List.take_zero, List.any_nil, Bool.false_or] <;> (try simp) <;> (try omega)) (by simp only [lP, seval, List.take_zero, List.any_nil, Bool.false_or] <;> (try simp) <;> (try omega))) ?_
  intro i hi
  by_cases hin : i < e.args.length
  · have hrec := ih _ (by subst hsz; exact size_args hin) (e.args.getD i default) rfl
    simp only [av_fs] at hrec
    have hlt : ((i : Int) < (e.args.length : Int)) := by omega
    have ht := any_take' (p := EX.fails) hin default
    repeat' (first
     | (with_reducible apply St.o; constructor) <;> intro _
     | with_reducible first | refine LenR_i fun _ => ?_ | refine And.intro (by omega) ?_ | (apply Sp.o; constructor) | refine frz0_i ?_
     | ((with_reducible apply Sc.o true; constructor); simp only [lP, seval, IdxR_exs, Int.toNat_natCast, List.length_map, hlt, decide_true]; refine ⟨_, hrec, ?_⟩; rintro _ _ ⟨rfl, rfl⟩; simp only [lA, lP, ptrCells, ptrAdd, isNil, readsV, readsP, isCall, wrote, srcOf, seval, IdxR_exs, Int.toNat_natCast, List.length_map, hlt, decide_true])
     | ((with_reducible refine keep0_i ?_); simp only [lP, seval])
     | simp (maxSteps := 1000000) (disch := omega) only [lE, ptrCells, ptrAdd, isNil, readsV, readsP, isCall, wrote, srcOf, seval, IdxR_exs, Int.toNat_natCast, List.length_map, hlt, decide_true])
    all_goals
      rename_i hh
      rw [hh] at ht
      refine back_i (i + 1) (by omega) (by omega) ?_
      exact (Ent.to [0] false (by simp) (by simp) rfl (by simp only [lP, seval, ht, Bool.true_or, Bool.false_or] <;> (try simp) <;> (try omega)) (by simp only [lP, seval]))
  · obtain rfl : i = e.args.length := by omega
    repeat' (first
     | (with_reducible apply St.o; constructor) <;> intro _
     | with_reducible first | refine LenR_i fun _ => ?_ | refine And.intro (by omega) ?_ | (apply Sp.o; constructor) | refine frz0_i ?_
     | ((with_reducible refine keep0_i ?_); simp only [lP, seval])
     | simp (maxSteps := 1000000) (disch := omega) only [lE, ptrCells, ptrAdd, isNil, readsV, readsP, isCall, wrote, srcOf, seval, List.length_map, Int.lt_irrefl, decide_false, List.take_length])
    all_goals simp [fails_eq, Bool.or_comm]
def T.fails : T → Bool
  | .col _ => false
  | .val _ => false
  | .un op a => ariB op || a.fails
  | .bin op a b => ariB op || a.fails || b.fails
theorem T.fails_ex : ∀ t : T, t.ex.fails = t.fails
  | .col _ => rfl
  | .val _ => rfl
  | .un op a => by simp [T.ex, EX.fails, EX.failsL, T.fails, T.fails_ex a]
  | .bin op a b => by simp [T.ex, EX.fails, EX.failsL, T.fails, T.fails_ex a, T.fails_ex b, Bool.or_assoc]
end Go.Proofs.Try
