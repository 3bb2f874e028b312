/-
  A part of the proof: see the text of the law.
-/
import Derived.Test.YtjiijjfpmaligaaDoorCac
set_option linter.unusedSimpArgs false
set_option linter.unusedVariables false
namespace Go.Proofs.Try
open Go.Al
set_option linter.unusedVariables false
set_option linter.unusedSimpArgs false
set_option maxRecDepth 20000

/-! ### expressions as data -/
def EX.op : EX → Int | .mk op _ _ _ _ _ => op
def EX.n : EX → Int | .mk _ n _ _ _ _ => n
def EX.val : EX → VL | .mk _ _ k i s _ => ⟨k, i, s⟩
def EX.args : EX → List EX | .mk _ _ _ _ _ args => args
abbrev EX.fs (e : EX) : List AV := [.int .i64 e.op, .int .i64 e.n, .int .i64 e.val.k, .int .i64 e.val.n, .str e.val.s, .view 6 (e.args.map EX.av)]
theorem av_fs (e : EX) : e.av = .agg e.fs := by cases e; simp [EX.av, EX.fs, EX.op, EX.n, EX.val, EX.args, avL_map]
theorem cs_fs (e : EX) : e.cs = e.fs := by cases e; simp [EX.cs, EX.fs, EX.op, EX.n, EX.val, EX.args, avL_map]
theorem vw_ex {H : List AObj} {l : List Nat} {n : Nat} (e : EX) : vw H l (n + 1) e.av = e.av := by simp [av_fs, vw_agg, vw_int, vw_str, vw_view]
theorem pa_ex {H : List AObj} {l : List Nat} {bor : Bool} {n : Nat} (e : EX) : pa H l bor (n + 1) e.av = e.av := by simp [av_fs, pa_agg, pa_int, pa_str, pa_view]
theorem vw_exs {H : List AObj} {l : List Nat} {n : Nat} {xs : List EX} : (xs.map EX.av).map (vw H l (n + 1)) = xs.map EX.av := map_same vw_ex xs
theorem pa_exs {H : List AObj} {l : List Nat} {bor : Bool} {n : Nat} {xs : List EX} : (xs.map EX.av).map (pa H l bor (n + 1)) = xs.map EX.av := map_same pa_ex xs
theorem IdxR_exs {P : Program} {m : Nat} {N : FN} {xs : List EX} {n : Int} {d : Nat} {c : Kn} (h0 : 0 ≤ n) (h1 : n < xs.length) : IdxR P m N (xs.map EX.av) n d c = rK P m N c d (.vp (xs.getD n.toNat default).fs) :=
  IdxR_map (cs := EX.fs) (fun e => by rw [av_fs]; rfl) h0 h1
theorem ti27 : E.TI 27 = some ⟨.struct [(0, 3), (1, 3), (2, 24), (5, 25)], 6, 72, [.int .i64 0, .int .i64 0, .int .i64 0, .int .i64 0, .string ByteArray.empty, .slice none 0 0], true, true⟩ := rfl
theorem ti45 : E.TI 45 = some ⟨.struct [(0, 4), (1, 4), (2, 4), (3, 24), (6, 24), (9, 4), (10, 4)], 11, 80, [.bool false, .bool false, .bool false, .int .i64 0, .int .i64 0, .string ByteArray.empty, .int .i64 0, .int .i64 0, .string ByteArray.empty, .bool false, .bool false], true, true⟩ := rfl
theorem size_args {e : EX} {i : Nat} (h : i < e.args.length) : SizeOf.sizeOf (e.args.getD i default) < SizeOf.sizeOf e := by
  obtain ⟨op, n, k, i', s, args⟩ := e
  simp only [EX.args] at *
  have := List.sizeOf_lt_of_mem (List.getElem_mem h)
  simp only [List.getD_eq_getElem?_getD, h, List.getElem?_eq_getElem, Option.getD_some, EX.mk.sizeOf_spec] at *
  omega

/-! ### well-formed nodes -/
def ar (op : Int) : Int := if op = 1 ∨ op = 2 then 0 else if op = 14 ∨ op = 15 then 1 else if 2 < op ∧ op < 14 then 2 else -1
theorem c88 (op : Int) : ACalls E.P 88 [.int .i64 op] [] (fun r H => r = .int .i64 (ar op) ∧ H = []) := by
  refine ok88.acalls hE hm (by simp) fun N hN => ?_
  unfold mc88
  simp only [lA, ptrCells, ptrAdd, isNil, readsV, readsP, isCall, wrote, srcOf, seval]
  repeat' (first
   | (with_reducible apply St.o; constructor) <;> intro _
   | with_reducible first | refine LenR_i fun _ => ?_ | refine And.intro (by omega) ?_ | (apply Sp.o; constructor) | refine frz0_i ?_
   | ((with_reducible refine keep0_i ?_); simp only [lP, seval])
   | simp (maxSteps := 1000000) (disch := omega) only [lE, ptrCells, ptrAdd, isNil, readsV, readsP, isCall, wrote, srcOf, seval])
  all_goals (simp only [ar, AV.int.injEq, true_and])
  all_goals (repeat' split) <;> first | rfl | omega
theorem c102 (op : Int) : ACalls E.P 102 [.int .i64 op] [] (fun r H => r = .int .i64 (ar op) ∧ H = []) := by
  refine ok102.acalls hE hm (by simp) fun N hN => ?_
  unfold mc102
  simp only [lA, ptrCells, ptrAdd, isNil, readsV, readsP, isCall, wrote, srcOf, seval]
  repeat' (first
   | (with_reducible apply St.o; constructor) <;> intro _
   | with_reducible first | refine LenR_i fun _ => ?_ | refine And.intro (by omega) ?_ | (apply Sp.o; constructor) | refine frz0_i ?_
   | ((with_reducible refine keep0_i ?_); simp only [lP, seval])
   | simp (maxSteps := 1000000) (disch := omega) only [lE, ptrCells, ptrAdd, isNil, readsV, readsP, isCall, wrote, srcOf, seval])
  all_goals (simp only [ar, AV.int.injEq, true_and])
  all_goals (repeat' split) <;> first | rfl | omega
def EX.fm (e : EX) : Bool := decide ((e.args.length : Int) = ar e.op) && (decide (e.n = 0) || decide (e.op = 1)) && (decide (e.val.k = 0 ∧ e.val.n = 0 ∧ e.val.s = ⟨#[]⟩) || decide (e.op = 2))
theorem c62 (e : EX) : ACalls E.P 62 [e.av] [] (fun r H => r = .bool e.fm ∧ H = []) := by
  have h := c88 e.op
  have hmax := maxLen_eq
  refine ok62.acalls hE hm (by simp) fun N hN => ?_
  unfold mc62
  simp only [lA, ptrCells, ptrAdd, isNil, readsV, readsP, isCall, wrote, srcOf, seval, av_fs]
  repeat' (first
   | (with_reducible apply St.o; constructor) <;> intro _
   | with_reducible first | refine LenR_i fun _ => ?_ | refine And.intro (by omega) ?_ | (apply Sp.o; constructor) | refine frz0_i ?_
   | ((with_reducible apply Sc.o true; constructor); simp only [lP, seval, strA, flatEq, List.length_map]; refine ⟨_, h, ?_⟩; rintro _ _ ⟨rfl, rfl⟩; simp only [lA, lP, ptrCells, ptrAdd, isNil, readsV, readsP, isCall, wrote, srcOf, seval, strA, flatEq, List.length_map])
   | ((with_reducible refine keep0_i ?_); simp only [lP, seval])
   | simp (maxSteps := 1000000) (disch := omega) only [lE, ptrCells, ptrAdd, isNil, readsV, readsP, isCall, wrote, srcOf, seval, strA, flatEq, List.length_map])
  all_goals (simp only [EX.fm, AV.bool.injEq] at *; simp_all)
end Go.Proofs.Try

namespace Go.Proofs.Try
open Go.Al
set_option linter.unusedVariables false
set_option linter.unusedSimpArgs false
set_option maxRecDepth 20000

/-! ### kinds -/
def okK (w k : Int) : Bool := decide (k = w ∨ k = 0)
theorem c91 (k w : Int) : ACalls E.P 91 [.int .i64 k, .vp [.int .i64 w]] [] (fun r H => r = .bool (!okK w k) ∧ H = []) := by
  refine ok91.acalls hE hm (by simp) fun N hN => ?_
  unfold mc91
  simp only [lA, ptrCells, ptrAdd, isNil, readsV, readsP, isCall, wrote, srcOf, seval]
  repeat' (first
   | (with_reducible apply St.o; constructor) <;> intro _
   | with_reducible first | refine LenR_i fun _ => ?_ | refine And.intro (by omega) ?_ | (apply Sp.o; constructor) | refine frz0_i ?_
   | ((with_reducible refine keep0_i ?_); simp only [lP, seval])
   | simp (maxSteps := 1000000) (disch := omega) only [lE, ptrCells, ptrAdd, isNil, readsV, readsP, isCall, wrote, srcOf, seval])
  all_goals (simp only [okK, AV.bool.injEq] at *; simp_all)
theorem c109 (l : List Int) (w : Int) : ACalls E.P 109 [.view 1 (l.map (AV.int .i64)), .fn (.func 91) [] [.vp [.int .i64 w]]] [] (fun r H => (∃ n : Int, r = .int .i64 n ∧ (0 ≤ n ↔ l.any (fun k => !okK w k) = true)) ∧ H = []) := by
  have hmax := maxLen_eq
  refine ok109.acalls hE hm (by simp) fun N hN => ?_
  unfold mc109
  simp only [lA, ptrCells, ptrAdd, isNil, readsV, readsP, isCall, wrote, srcOf, seval]
  refine LenR_i fun hl => ?_
  rw [List.length_map, hmax] at hl
  simp only [lA, ptrCells, ptrAdd, isNil, readsV, readsP, isCall, wrote, srcOf, seval, List.length_map]
  refine loop_i (fun i : Nat => i ≤ l.length ∧ (l.take i).any (fun k => !okK w k) = false) (fun i => ⟨[(0, .view 1 (l.map (AV.int .i64))), (1, .fn (.func 91) [] [.vp [.int .i64 w]]), (7, .int .i64 l.length), (8, .int .i64 i)], []⟩) (fun i => l.length - i) 0 ⟨by omega, by simp⟩ (Ent.to [] false (by simp) (by simp) rfl (by simp only [lP, seval] <;> (try simp) <;> (try omega)) (by simp only [lP, seval] <;> (try simp) <;> (try omega))) ?_
  rintro i ⟨hi, ha⟩
  have hpi := c91 (l.getD i 0) w
  repeat' (first
   | (with_reducible apply St.o; constructor) <;> intro _
   | with_reducible first | refine LenR_i fun _ => ?_ | refine And.intro (by omega) ?_ | (apply Sp.o; constructor) | refine frz0_i ?_
   | ((with_reducible apply Sc.o true; constructor); simp only [lP, seval, Int.toNat_natCast]; refine ⟨_, hpi, ?_⟩; rintro _ _ ⟨rfl, rfl⟩; simp only [lA, lP, ptrCells, ptrAdd, isNil, readsV, readsP, isCall, wrote, srcOf, seval, Int.toNat_natCast])
   | ((with_reducible refine keep0_i ?_); simp only [lP, seval])
   | simp (maxSteps := 1000000) (disch := omega) only [lE, ptrCells, ptrAdd, isNil, readsV, readsP, isCall, wrote, srcOf, seval, Int.toNat_natCast])
  · rename_i h1 h2
    refine ⟨i, rfl, ?_⟩
    have := any_at (p := fun k => !okK w k) (l := l) (i := i) (by omega) 0 h2
    simp only [this, iff_true]; omega
  · rename_i h1 h2
    exact back_i (i + 1) ⟨by omega, any_take (p := fun k => !okK w k) (by omega) 0 ha h2⟩ (by omega) (Ent.to [] false (by simp) (by simp) rfl (by simp only [lP, seval] <;> (try simp) <;> (try omega)) (by simp only [lP, seval] <;> (try simp) <;> (try omega)))
  · rename_i h1
    refine ⟨-1, rfl, ?_⟩
    rw [List.take_of_length_le (by omega)] at ha
    simp [ha]
theorem c90 (l : List Int) (w : Int) : ACalls E.P 90 [.view 1 (l.map (AV.int .i64)), .fn (.func 91) [] [.vp [.int .i64 w]]] [] (fun r H => r = .bool (l.any fun k => !okK w k) ∧ H = []) := by
  have h := c109 l w
  refine ok90.acalls hE hm (by simp) fun N hN => ?_
  unfold mc90
  simp only [lA, ptrCells, ptrAdd, isNil, readsV, readsP, isCall, wrote, srcOf, seval]
  repeat' (first
   | (with_reducible apply St.o; constructor) <;> intro _
   | with_reducible first | refine LenR_i fun _ => ?_ | refine And.intro (by omega) ?_ | (apply Sp.o; constructor) | refine frz0_i ?_
   | ((with_reducible apply Sc.o true; constructor); simp only [lP, seval]; refine ⟨_, h, ?_⟩; rintro _ _ ⟨⟨n, rfl, hn⟩, rfl⟩; simp only [lA, lP, ptrCells, ptrAdd, isNil, readsV, readsP, isCall, wrote, srcOf, seval])
   | ((with_reducible refine keep0_i ?_); simp only [lP, seval])
   | simp (maxSteps := 1000000) (disch := omega) only [lE, ptrCells, ptrAdd, isNil, readsV, readsP, isCall, wrote, srcOf, seval])
  simp only [ge_iff_le, hn, Bool.decide_eq_true]
theorem c89 (l : List Int) (w : Int) : ACalls E.P 89 [.int .i64 w, .vp [.view 1 (l.map (AV.int .i64))]] [] (fun r H => r = .bool (l.all (okK w)) ∧ H = []) := by
  have h := c90 l w
  refine ok89.acalls hE hm (by simp) fun N hN => ?_
  unfold mc89
  simp only [lA, ptrCells, ptrAdd, isNil, readsV, readsP, isCall, wrote, srcOf, seval]
  repeat' (first
   | (with_reducible apply St.o; constructor) <;> intro _
   | with_reducible first | refine LenR_i fun _ => ?_ | refine And.intro (by omega) ?_ | (apply Sp.o; constructor) | refine frz0_i ?_
   | ((with_reducible apply Sc.o true; constructor); simp only [lP, seval]; refine ⟨_, h, ?_⟩; rintro _ _ ⟨rfl, rfl⟩; simp only [lA, lP, ptrCells, ptrAdd, isNil, readsV, readsP, isCall, wrote, srcOf, seval])
   | ((with_reducible refine keep0_i ?_); simp only [lP, seval])
   | simp (maxSteps := 1000000) (disch := omega) only [lE, ptrCells, ptrAdd, isNil, readsV, readsP, isCall, wrote, srcOf, seval])
  all_goals simp [List.any_eq_not_all_not]

/-- The first error of a list of results. -/
def ferr {α : Type} : List (α × Int) → Int
  | [] => 0
  | x :: l => if x.2 = 0 then ferr l else x.2
theorem ferr_at {α : Type} [Inhabited α] : ∀ {l : List (α × Int)} {i : Nat}, (∀ j, j < i → (l.getD j default).2 = 0) → i < l.length → (l.getD i default).2 ≠ 0 → ferr l = (l.getD i default).2
  | [], i, _, h, _ => by simp at h
  | x :: l, 0, _, _, h => by simp at h; simp [ferr, h]
  | x :: l, i + 1, h0, h1, h2 => by
    have := h0 0 (by omega)
    simp at this
    simp only [ferr, this, if_true]
    simpa using ferr_at (l := l) (i := i) (fun j hj => by simpa using h0 (j + 1) (by omega)) (by simpa using h1) (by simpa using h2)
theorem ferr_none {α : Type} [Inhabited α] : ∀ {l : List (α × Int)}, (∀ j, j < l.length → (l.getD j default).2 = 0) → ferr l = 0
  | [], _ => rfl
  | x :: l, h => by
    have := h 0 (by simp)
    simp at this
    simp only [ferr, this, if_true]
    exact ferr_none fun j hj => by simpa using h (j + 1) (by simpa using hj)

/-- The kind of a node, from those of its arguments. -/
def kN (ks : List Int) (op n : Int) (v : VL) (l : List Int) : Int × Int :=
  if op = 1 then (if n < 0 ∨ n ≥ ks.length ∨ ks.getD n.toNat 0 < 0 ∨ 3 < ks.getD n.toNat 0 then (0, 1) else (ks.getD n.toNat 0, 0))
  else if op = 2 then (if v.Right then (v.k, 0) else (0, 1))
  else if ariB op = true then (if l.all (okK 1) = true then (1, 0) else (0, 7))
  else if cmpB op = true then (if l.all (okK (l.getD 0 0)) = true ∨ l.all (okK (l.getD 1 0)) = true then (3, 0) else (0, 7))
  else if op = 15 then (3, 0)
  else if l.all (okK 3) = true then (3, 0) else (0, 7)
def knode (ks : List Int) (e : EX) (rs : List (Int × Int)) : Int × Int := if ferr rs = 0 then kN ks e.op e.n e.val (rs.map (·.1)) else (0, ferr rs)
end Go.Proofs.Try

namespace Go.Proofs.Try
open Go.Al
set_option linter.unusedVariables false
set_option linter.unusedSimpArgs false
set_option maxRecDepth 20000
set_option maxHeartbeats 4000000

mutual
def EX.formed : EX → Bool
  | .mk op n k i s args => (EX.mk op n k i s args).fm && EX.formedL args
def EX.formedL : List EX → Bool
  | [] => true
  | e :: es => e.formed && EX.formedL es
end
theorem formedL_all : ∀ l : List EX, EX.formedL l = l.all EX.formed
  | [] => rfl
  | e :: es => by rw [EX.formedL, formedL_all es]; rfl
theorem formed_eq (e : EX) : e.formed = (e.fm && e.args.all EX.formed) := by
  cases e; rw [EX.formed, formedL_all]; rfl
theorem all_take {α : Type} {p : α → Bool} {l : List α} {i : Nat} (h : i < l.length) (d : α) (h1 : (l.take i).all p = true) (h2 : p (l.getD i d) = true) : (l.take (i + 1)).all p = true := by
  rw [List.take_succ_eq_append_getElem h, List.all_append, h1]
  simpa [h] using h2
theorem all_not {α : Type} {p : α → Bool} {l : List α} {i : Nat} (h : i < l.length) (d : α) (h2 : p (l.getD i d) = false) : l.all p = false := by
  rw [List.all_eq_false]
  exact ⟨l[i], by simp, by simpa [h] using h2⟩

theorem c75 (e : EX) : ACalls E.P 75 [e.av] [] (fun r H => r = .bool e.formed ∧ H = []) := by
  have hmax := maxLen_eq
  generalize hsz : SizeOf.sizeOf e = sz
  induction sz using Nat.strongRecOn generalizing e with
  | _ sz ih =>
  have h := c102 e.op
  refine ok75.acalls hE hm (by simp) fun N hN => ?_
  unfold mc75
  simp only [lA, ptrCells, ptrAdd, isNil, readsV, readsP, isCall, wrote, srcOf, seval, av_fs]
  repeat' (first
   | (with_reducible apply St.o; constructor) <;> intro _
   | with_reducible first | refine LenR_i fun _ => ?_ | refine And.intro (by omega) ?_ | (apply Sp.o; constructor) | refine frz0_i ?_
   | ((with_reducible apply Sc.o true; constructor); simp only [lP, seval, strA, flatEq, List.length_map]; refine ⟨_, h, ?_⟩; rintro _ _ ⟨rfl, rfl⟩; simp only [lA, lP, ptrCells, ptrAdd, isNil, readsV, readsP, isCall, wrote, srcOf, seval, strA, flatEq, List.length_map])
   | ((with_reducible refine keep0_i ?_); simp only [lP, seval])
   | simp (maxSteps := 1000000) (disch := omega) only [lE, ptrCells, ptrAdd, isNil, readsV, readsP, isCall, wrote, srcOf, seval, strA, flatEq, List.length_map])
  all_goals try
    have hfm : e.fm = false := by
      simp only [EX.fm, Bool.and_eq_false_iff, Bool.or_eq_false_iff, decide_eq_false_iff_not]
      try simp only [Bool.not_eq_true', Bool.and_eq_false_iff, decide_eq_false_iff_not, Bool.and_true] at *
      first | (left; left; omega) | (left; right; omega) | (right; refine ⟨?_, by omega⟩; rintro ⟨_, _, _⟩; simp_all; done)
    rw [formed_eq, hfm]; simp; done
  all_goals
    have hfm : e.fm = true := by simp only [EX.fm]; simp_all
    clear h
    refine loop_i (fun i : Nat => i ≤ e.args.length ∧ (e.args.take i).all EX.formed = true) (fun i => ⟨[(1, .op 0 0), (3, .int .i64 i)], [.box e.fs]⟩) (fun i => e.args.length - i) 0 ⟨by omega, by simp⟩ (Ent.to [0] false (by simp) (by simp) rfl (by simp only [lP, seval] <;> (try simp) <;> (try omega)) (by simp only [lP, seval] <;> (try simp) <;> (try omega))) ?_
    rintro i ⟨hi, ha⟩
    by_cases hin : i < e.args.length
    · have hrec := ih _ (by subst hsz; exact size_args hin) (e.args.getD i default) rfl
      simp only [av_fs] at hrec
      repeat' (first
       | (with_reducible apply St.o; constructor) <;> intro _
       | with_reducible first | refine LenR_i fun _ => ?_ | refine And.intro (by omega) ?_ | (apply Sp.o; constructor) | refine frz0_i ?_
       | ((with_reducible apply Sc.o true; constructor); simp only [lP, seval, IdxR_exs, Int.toNat_natCast, List.length_map]; refine ⟨_, hrec, ?_⟩; rintro _ _ ⟨rfl, rfl⟩; simp only [lA, lP, ptrCells, ptrAdd, isNil, readsV, readsP, isCall, wrote, srcOf, seval, IdxR_exs, Int.toNat_natCast, List.length_map])
       | ((with_reducible refine keep0_i ?_); simp only [lP, seval])
       | simp (maxSteps := 1000000) (disch := omega) only [lE, ptrCells, ptrAdd, isNil, readsV, readsP, isCall, wrote, srcOf, seval, IdxR_exs, Int.toNat_natCast, List.length_map])
      all_goals first
        | (exfalso; omega)
        | (rename_i h1 h2
           rw [formed_eq, all_not hin default (by simpa using h2)]; simp; done)
        | (rename_i h1 h2
           exact back_i (i + 1) ⟨by omega, all_take hin default ha (by simpa using h2)⟩ (by omega) (Ent.to [0] false (by simp) (by simp) rfl (by simp only [lP, seval] <;> (try simp) <;> (try omega)) (by simp only [lP, seval] <;> (try simp) <;> (try omega))))
    · have hie : i = e.args.length := by omega
      subst hie
      rw [List.take_length] at ha
      repeat' (first
       | (with_reducible apply St.o; constructor) <;> intro _
       | with_reducible first | refine LenR_i fun _ => ?_ | refine And.intro (by omega) ?_ | (apply Sp.o; constructor) | refine frz0_i ?_
       | ((with_reducible refine keep0_i ?_); simp only [lP, seval])
       | simp (maxSteps := 1000000) (disch := omega) only [lE, ptrCells, ptrAdd, isNil, readsV, readsP, isCall, wrote, srcOf, seval, List.length_map])
      all_goals first
        | (exfalso; omega)
        | (rw [formed_eq, hfm, ha]; rfl)
end Go.Proofs.Try
