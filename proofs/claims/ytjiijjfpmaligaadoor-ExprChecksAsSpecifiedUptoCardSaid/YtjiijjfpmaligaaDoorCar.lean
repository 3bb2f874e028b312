/-
  A part of the proof: see the text of the law.
-/
import Derived.Test.YtjiijjfpmaligaaDoorCai
import Derived.Test.YtjiijjfpmaligaaDoorCao
set_option linter.unusedSimpArgs false
set_option linter.unusedVariables false
namespace Go.Proofs.Try
open Go.Al
set_option linter.unusedVariables false
set_option linter.unusedSimpArgs false
set_option maxRecDepth 20000
set_option maxHeartbeats 8000000

/-! ### equal expressions -/
noncomputable def eqE (a b : EX) : Bool := @decide (a = b) (Classical.propDecidable _)
noncomputable def eqL (l m : List EX) : Bool := @decide (l = m) (Classical.propDecidable _)
theorem eqE_iff {a b : EX} : eqE a b = true ↔ a = b := by simp [eqE]
theorem eqL_iff {a b : List EX} : eqL a b = true ↔ a = b := by simp [eqL]
theorem eqE_false {a b : EX} : eqE a b = false ↔ a ≠ b := by rw [← Bool.not_eq_true, eqE_iff]
theorem eqL_false {a b : List EX} : eqL a b = false ↔ a ≠ b := by rw [← Bool.not_eq_true, eqL_iff]
theorem ex_eq {a b : EX} : a = b ↔ a.op = b.op ∧ a.n = b.n ∧ (a.val.k = b.val.k ∧ a.val.n = b.val.n ∧ a.val.s = b.val.s) ∧ a.args = b.args := by
  cases a; cases b
  simp [EX.op, EX.n, EX.val, EX.args, and_assoc]
theorem list_eq {l m : List EX} (h1 : l.length = m.length) (h2 : ∀ j, j < l.length → l.getD j default = m.getD j default) : l = m := by
  apply List.ext_getElem h1
  intro i hi hi2
  have := h2 i hi
  simpa [hi, hi2] using this
theorem c74n (l m : List EX) (hrec : ∀ j, j < l.length → ∀ y : EX, ACalls E.P 37 [(l.getD j default).av, y.av] [] (fun r H => r = .bool (eqE (l.getD j default) y) ∧ H = [])) :
    ACalls E.P 74 [.view 6 (l.map EX.av), .view 6 (m.map EX.av), .fn (.func 37) [] []] [] (fun r H => r = .bool (eqL l m) ∧ H = []) := by
  have hmax := maxLen_eq
  refine ok74.acalls hE hm (by simp) fun N hN => ?_
  unfold mc74
  simp only [lA, ptrCells, ptrAdd, isNil, readsV, readsP, isCall, wrote, srcOf, seval]
  repeat' (first
   | (with_reducible apply St.o; constructor) <;> intro _
   | with_reducible first | refine LenR_i fun _ => ?_ | refine And.intro (by omega) ?_ | (apply Sp.o; constructor) | refine frz0_i ?_
   | ((with_reducible refine keep0_i ?_); simp only [lP, seval])
   | simp (maxSteps := 1000000) (disch := omega) only [lE, ptrCells, ptrAdd, isNil, readsV, readsP, isCall, wrote, srcOf, seval, List.length_map])
  · rename_i h
    have : l ≠ m := fun h2 => by subst h2; omega
    simp [eqL_false.2 this]
  · rename_i h
    have hlen : l.length = m.length := by omega
    refine loop_i (fun i : Nat => i ≤ l.length ∧ ∀ j, j < i → l.getD j default = m.getD j default) (fun i => ⟨[(1, .view 6 (m.map EX.av)), (2, .fn (.func 37) [] []), (15, .view 6 (l.map EX.av)), (16, .int .i64 l.length), (17, .int .i64 i)], []⟩) (fun i => l.length - i) 0 ⟨by omega, by simp⟩ (Ent.to [] false (by simp) (by simp) rfl (by simp only [lP, seval] <;> (try simp) <;> (try omega)) (by simp only [lP, seval] <;> (try simp) <;> (try omega))) ?_
    rintro i ⟨hi, ha⟩
    by_cases hin : i < l.length
    · have hr := hrec i hin (m.getD i default)
      have hlt : ((i : Int) < (l.length : Int)) := by omega
      simp only [av_fs] at hr
      repeat' (first
       | (with_reducible apply St.o; constructor) <;> intro _
       | with_reducible first | refine LenR_i fun _ => ?_ | refine And.intro (by omega) ?_ | (apply Sp.o; constructor) | refine frz0_i ?_
       | ((with_reducible apply Sc.o true; constructor); simp only [lP, seval, IdxR_exs, Int.toNat_natCast, List.length_map, hlt, decide_true]; refine ⟨_, hr, ?_⟩; rintro _ _ ⟨rfl, rfl⟩; simp only [lA, lP, ptrCells, ptrAdd, isNil, readsV, readsP, isCall, wrote, srcOf, seval, IdxR_exs, Int.toNat_natCast, List.length_map, hlt, decide_true])
       | ((with_reducible refine keep0_i ?_); simp only [lP, seval])
       | simp (maxSteps := 1000000) (disch := omega) only [lE, ptrCells, ptrAdd, isNil, readsV, readsP, isCall, wrote, srcOf, seval, IdxR_exs, Int.toNat_natCast, List.length_map, hlt, decide_true])
      · rename_i h2
        have h3 : ¬ (l.getD i default = m.getD i default) := eqE_false.1 (by simpa using h2)
        have : l ≠ m := fun h4 => by subst h4; exact h3 rfl
        simp [eqL_false.2 this]
      · rename_i h2
        have h3 : l.getD i default = m.getD i default := eqE_iff.1 (by simpa using h2)
        refine back_i (i + 1) ⟨by omega, fun j hj => ?_⟩ (by omega) (Ent.to [] false (by simp) (by simp) rfl (by simp only [lP, seval] <;> (try simp) <;> (try omega)) (by simp only [lP, seval] <;> (try simp) <;> (try omega)))
        by_cases hji : j < i
        · exact ha j hji
        · obtain rfl : j = i := by omega
          exact h3
    · obtain rfl : i = l.length := by omega
      have : l = m := list_eq hlen ha
      repeat' (first
       | (with_reducible apply St.o; constructor) <;> intro _
       | with_reducible first | refine LenR_i fun _ => ?_ | refine And.intro (by omega) ?_ | (apply Sp.o; constructor) | refine frz0_i ?_
       | ((with_reducible refine keep0_i ?_); simp only [lP, seval])
       | simp (maxSteps := 1000000) (disch := omega) only [lE, ptrCells, ptrAdd, isNil, readsV, readsP, isCall, wrote, srcOf, seval, List.length_map, Int.lt_irrefl, decide_false])
      simp [eqL_iff.2 this]
theorem c37 (a b : EX) : ACalls E.P 37 [a.av, b.av] [] (fun r H => r = .bool (eqE a b) ∧ H = []) := by
  generalize hsz : SizeOf.sizeOf a = sz
  induction sz using Nat.strongRecOn generalizing a b with
  | _ sz ih =>
  have h74 := c74n a.args b.args fun j hj y => ih _ (by subst hsz; exact size_args hj) _ y rfl
  refine ok37.acalls hE hm (by simp) fun N hN => ?_
  unfold mc37
  simp only [lA, ptrCells, ptrAdd, isNil, readsV, readsP, isCall, wrote, srcOf, seval, av_fs]
  repeat' (first
   | (with_reducible apply St.o; constructor) <;> intro _
   | with_reducible first | refine LenR_i fun _ => ?_ | refine And.intro (by omega) ?_ | (apply Sp.o; constructor) | refine frz0_i ?_
   | ((with_reducible apply Sc.o true; constructor); simp only [lP, seval, strA, flatEq]; refine ⟨_, h74, ?_⟩; rintro _ _ ⟨rfl, rfl⟩; simp only [lA, lP, ptrCells, ptrAdd, isNil, readsV, readsP, isCall, wrote, srcOf, seval, strA, flatEq])
   | ((with_reducible refine keep0_i ?_); simp only [lP, seval])
   | simp (maxSteps := 1000000) (disch := omega) only [lE, ptrCells, ptrAdd, isNil, readsV, readsP, isCall, wrote, srcOf, seval, strA, flatEq])
  all_goals clear h74 ih
  · rename_i h1 h2 h3
    have h3 : a.val.k = b.val.k ∧ a.val.n = b.val.n ∧ a.val.s = b.val.s := by simpa using h3
    have : eqE a b = eqL a.args b.args := by
      rw [Bool.eq_iff_iff, eqE_iff, eqL_iff, ex_eq]
      exact ⟨fun h => h.2.2.2, fun h => ⟨h1, h2, h3, h⟩⟩
    simp [this]
  all_goals
    have : a ≠ b := fun h => by
      subst h
      simp_all
    simp [eqE_false.2 this]
theorem c30 (a b : EX) : ACalls E.P 30 [a.av, b.av] [] (fun r H => r = .bool (eqE a b) ∧ H = []) := by
  have hmax := maxLen_eq
  generalize hsz : SizeOf.sizeOf a = sz
  induction sz using Nat.strongRecOn generalizing a b with
  | _ sz ih =>
  refine ok30.acalls hE hm (by simp) fun N hN => ?_
  unfold mc30
  simp only [lA, ptrCells, ptrAdd, isNil, readsV, readsP, isCall, wrote, srcOf, seval, av_fs]
  repeat' (first
   | (with_reducible apply St.o; constructor) <;> intro _
   | with_reducible first | refine LenR_i fun _ => ?_ | refine And.intro (by omega) ?_ | (apply Sp.o; constructor) | refine frz0_i ?_
   | ((with_reducible refine keep0_i ?_); simp only [lP, seval])
   | simp (maxSteps := 1000000) (disch := omega) only [lE, ptrCells, ptrAdd, isNil, readsV, readsP, isCall, wrote, srcOf, seval, strA, flatEq, List.length_map])
  all_goals try
    (have : a ≠ b := fun h => by
      subst h
      simp_all
     simp [eqE_false.2 this]; done)
  rename_i h1 h2 h3 _ _ hlen
  have h3 : a.val.k = b.val.k ∧ a.val.n = b.val.n ∧ a.val.s = b.val.s := by simpa using h3
  have hlen : a.args.length = b.args.length := by omega
  refine loop_i (fun i : Nat => i ≤ a.args.length ∧ ∀ j, j < i → a.args.getD j default = b.args.getD j default) (fun i => ⟨[(2, .op 0 0), (3, .op 1 0), (5, .int .i64 i)], [.box a.fs, .box b.fs]⟩) (fun i => a.args.length - i) 0 ⟨by omega, by simp⟩ (Ent.to [0,1] false (by simp) (by simp) rfl (by simp only [lP, seval] <;> (try simp) <;> (try omega)) (by simp only [lP, seval] <;> (try simp) <;> (try omega))) ?_
  rintro i ⟨hi, ha⟩
  by_cases hin : i < a.args.length
  · have hr := ih _ (by subst hsz; exact size_args hin) (a.args.getD i default) (b.args.getD i default) rfl
    have hlt : ((i : Int) < (a.args.length : Int)) := by omega
    simp only [av_fs] at hr
    repeat' (first
     | (with_reducible apply St.o; constructor) <;> intro _
     | with_reducible first | refine LenR_i fun _ => ?_ | refine And.intro (by omega) ?_ | (apply Sp.o; constructor) | refine frz0_i ?_
     | ((with_reducible apply Sc.o true; constructor); simp only [lP, seval, IdxR_exs, Int.toNat_natCast, List.length_map, hlt, decide_true]; refine ⟨_, hr, ?_⟩; rintro _ _ ⟨rfl, rfl⟩; simp only [lA, lP, ptrCells, ptrAdd, isNil, readsV, readsP, isCall, wrote, srcOf, seval, IdxR_exs, Int.toNat_natCast, List.length_map, hlt, decide_true])
     | ((with_reducible refine keep0_i ?_); simp only [lP, seval])
     | simp (maxSteps := 1000000) (disch := omega) only [lE, ptrCells, ptrAdd, isNil, readsV, readsP, isCall, wrote, srcOf, seval, IdxR_exs, Int.toNat_natCast, List.length_map, hlt, decide_true])
    · rename_i h2
      have h3 : ¬ (a.args.getD i default = b.args.getD i default) := eqE_false.1 (by simpa using h2)
      have : a ≠ b := fun h4 => by subst h4; exact h3 rfl
      simp [eqE_false.2 this]
    · rename_i h2
      have h3 : a.args.getD i default = b.args.getD i default := eqE_iff.1 (by simpa using h2)
      refine back_i (i + 1) ⟨by omega, fun j hj => ?_⟩ (by omega) (Ent.to [0,1] false (by simp) (by simp) rfl (by simp only [lP, seval] <;> (try simp) <;> (try omega)) (by simp only [lP, seval] <;> (try simp) <;> (try omega)))
      by_cases hji : j < i
      · exact ha j hji
      · obtain rfl : j = i := by omega
        exact h3
  · obtain rfl : i = a.args.length := by omega
    have : a.args = b.args := list_eq hlen ha
    repeat' (first
     | (with_reducible apply St.o; constructor) <;> intro _
     | with_reducible first | refine LenR_i fun _ => ?_ | refine And.intro (by omega) ?_ | (apply Sp.o; constructor) | refine frz0_i ?_
     | ((with_reducible refine keep0_i ?_); simp only [lP, seval])
     | simp (maxSteps := 1000000) (disch := omega) only [lE, ptrCells, ptrAdd, isNil, readsV, readsP, isCall, wrote, srcOf, seval, List.length_map, Int.lt_irrefl, decide_false])
    simp [eqE_iff.2 (ex_eq.2 ⟨h1, h2, h3, this⟩)]
theorem c33 (l m : List EX) : ACalls E.P 33 [.view 6 (l.map EX.av), .view 6 (m.map EX.av)] [] (fun r H => r = .bool (eqL l m) ∧ H = []) := by
  have hmax := maxLen_eq
  refine ok33.acalls hE hm (by simp) fun N hN => ?_
  unfold mc33
  simp only [lA, ptrCells, ptrAdd, isNil, readsV, readsP, isCall, wrote, srcOf, seval]
  repeat' (first
   | (with_reducible apply St.o; constructor) <;> intro _
   | with_reducible first | refine LenR_i fun _ => ?_ | refine And.intro (by omega) ?_ | (apply Sp.o; constructor) | refine frz0_i ?_
   | ((with_reducible refine keep0_i ?_); simp only [lP, seval])
   | simp (maxSteps := 1000000) (disch := omega) only [lE, ptrCells, ptrAdd, isNil, readsV, readsP, isCall, wrote, srcOf, seval, List.length_map])
  · rename_i h
    have : l ≠ m := fun h2 => by subst h2; omega
    simp [eqL_false.2 this]
  · rename_i h
    have hlen : l.length = m.length := by omega
    refine loop_i (fun i : Nat => i ≤ l.length ∧ ∀ j, j < i → l.getD j default = m.getD j default) (fun i => ⟨[(0, .view 6 (l.map EX.av)), (1, .view 6 (m.map EX.av)), (5, .int .i64 i)], []⟩) (fun i => l.length - i) 0 ⟨by omega, by simp⟩ (Ent.to [] false (by simp) (by simp) rfl (by simp only [lP, seval] <;> (try simp) <;> (try omega)) (by simp only [lP, seval] <;> (try simp) <;> (try omega))) ?_
    rintro i ⟨hi, ha⟩
    by_cases hin : i < l.length
    · have hr := c30 (l.getD i default) (m.getD i default)
      have hlt : ((i : Int) < (l.length : Int)) := by omega
      simp only [av_fs] at hr
      repeat' (first
       | (with_reducible apply St.o; constructor) <;> intro _
       | with_reducible first | refine LenR_i fun _ => ?_ | refine And.intro (by omega) ?_ | (apply Sp.o; constructor) | refine frz0_i ?_
       | ((with_reducible apply Sc.o true; constructor); simp only [lP, seval, IdxR_exs, Int.toNat_natCast, List.length_map, hlt, decide_true]; refine ⟨_, hr, ?_⟩; rintro _ _ ⟨rfl, rfl⟩; simp only [lA, lP, ptrCells, ptrAdd, isNil, readsV, readsP, isCall, wrote, srcOf, seval, IdxR_exs, Int.toNat_natCast, List.length_map, hlt, decide_true])
       | ((with_reducible refine keep0_i ?_); simp only [lP, seval])
       | simp (maxSteps := 1000000) (disch := omega) only [lE, ptrCells, ptrAdd, isNil, readsV, readsP, isCall, wrote, srcOf, seval, IdxR_exs, Int.toNat_natCast, List.length_map, hlt, decide_true])
      · rename_i h2
        have h3 : ¬ (l.getD i default = m.getD i default) := eqE_false.1 (by simpa using h2)
        have : l ≠ m := fun h4 => by subst h4; exact h3 rfl
        simp [eqL_false.2 this]
      · rename_i h2
        have h3 : l.getD i default = m.getD i default := eqE_iff.1 (by simpa using h2)
        refine back_i (i + 1) ⟨by omega, fun j hj => ?_⟩ (by omega) (Ent.to [] false (by simp) (by simp) rfl (by simp only [lP, seval] <;> (try simp) <;> (try omega)) (by simp only [lP, seval] <;> (try simp) <;> (try omega)))
        by_cases hji : j < i
        · exact ha j hji
        · obtain rfl : j = i := by omega
          exact h3
    · obtain rfl : i = l.length := by omega
      have : l = m := list_eq hlen ha
      repeat' (first
       | (with_reducible apply St.o; constructor) <;> intro _
       | with_reducible first | refine LenR_i fun _ => ?_ | refine And.intro (by omega) ?_ | (apply Sp.o; constructor) | refine frz0_i ?_
       | ((with_reducible refine keep0_i ?_); simp only [lP, seval])
       | simp (maxSteps := 1000000) (disch := omega) only [lE, ptrCells, ptrAdd, isNil, readsV, readsP, isCall, wrote, srcOf, seval, List.length_map, Int.lt_irrefl, decide_false])
      simp [eqL_iff.2 this]
end Go.Proofs.Try

namespace Go.Proofs.Try
open Go.Al
set_option linter.unusedVariables false
set_option linter.unusedSimpArgs false
set_option maxRecDepth 20000
set_option maxHeartbeats 8000000

/-! ### conjuncts -/
def T.conj : T → List T
  | .bin op a b => if op = 12 then a.conj ++ b.conj else [.bin op a b]
  | t => [t]
theorem T.conj_len : ∀ t : T, t.conj.length ≤ t.size
  | .col _ => by simp [T.conj, T.size]
  | .val _ => by simp [T.conj, T.size]
  | .un _ _ => by simp [T.conj, T.size]
  | .bin op a b => by
    have := T.conj_len a; have := T.conj_len b
    unfold T.conj T.size
    split <;> simp <;> omega
theorem T.size_pos : ∀ t : T, 0 < t.size
  | .col _ => by simp [T.size]
  | .val _ => by simp [T.size]
  | .un _ _ => by simp [T.size]; omega
  | .bin _ _ _ => by simp [T.size]; omega
def avT (t : T) : AV := t.ex.av
theorem vw_T {H : List AObj} {l : List Nat} {n : Nat} (t : T) : vw H l (n + 1) (avT t) = avT t := vw_ex t.ex
theorem pa_T {H : List AObj} {l : List Nat} {bor : Bool} {n : Nat} (t : T) : pa H l bor (n + 1) (avT t) = avT t := pa_ex t.ex
theorem vw_Ts {H : List AObj} {l : List Nat} {n : Nat} {xs : List T} : (xs.map avT).map (vw H l (n + 1)) = xs.map avT := map_same vw_T xs
theorem pa_Ts {H : List AObj} {l : List Nat} {bor : Bool} {n : Nat} {xs : List T} : (xs.map avT).map (pa H l bor (n + 1)) = xs.map avT := map_same pa_T xs
theorem ren_T {ρ : Nat → Nat} (t : T) : ren ρ (avT t) = avT t := by
  unfold avT; rw [tv_fs]; simp [ren, renL]
theorem renL_Ts {ρ : Nat → Nat} : ∀ l : List T, renL ρ (l.map avT) = l.map avT
  | [] => rfl
  | t :: l => by simp only [List.map_cons, renL, ren_T, renL_Ts l]
theorem conj_one {t : T} (h : t.ex.op ≠ 12) : t.conj = [t] := by
  cases t with
  | bin op a b => simp only [T.conj]; exact if_neg h
  | _ => rfl
theorem c28one (t : T) (h : t.ex.op ≠ 12) : ACalls E.P 28 [t.ex.av] [] (fun r H => r = .slc 0 6 t.conj.length ∧ H = [.arr 27 6 (t.conj.map avT)]) := by
  rw [conj_one h]
  simp only [List.map_cons, List.map_nil, avT, tv_fs]
  refine ok28.acalls hE hm (by simp) fun N hN => ?_
  unfold mc28
  simp only [lA, ptrCells, ptrAdd, isNil, readsV, readsP, isCall, wrote, srcOf, seval]
  repeat' (first
   | (with_reducible apply St.o; constructor) <;> intro _
   | with_reducible first | refine LenR_i fun _ => ?_ | refine And.intro (by omega) ?_ | (apply Sp.o; constructor) | refine frz0_i ?_
   | simp (maxSteps := 1000000) (disch := omega) only [lE, ptrCells, ptrAdd, isNil, readsV, readsP, isCall, wrote, srcOf, seval, h, ti27, fillE, decide_false, Bool.not_false])
  · refine keep_i [1] false (by simp) (by simp) rfl ?_
    simp only [lP, seval]
  · exact absurd (by assumption) h
theorem c28 : ∀ t : T, t.wf → t.size ≤ 1048576 → ACalls E.P 28 [t.ex.av] [] (fun r H => r = .slc 0 6 t.conj.length ∧ H = [.arr 27 6 (t.conj.map avT)]) := by
  intro t
  induction t with
  | col n => intro _ _; exact c28one _ (by simp [T.ex, EX.op])
  | val v => intro _ _; exact c28one _ (by simp [T.ex, EX.op])
  | un op a => intro hw hs; exact c28one _ (by have := hw.1; show op ≠ 12; omega)
  | bin op a b ia ib =>
    intro hw hs
    by_cases hb : op = 12
    · subst hb
      simp only [T.size] at hs
      have ia := ia hw.2.1 (by omega)
      have ib := ib hw.2.2 (by omega)
      have la := T.conj_len a
      have lb := T.conj_len b
      have hmax := maxLen_eq
      have hc : (T.bin 12 a b).conj = a.conj ++ b.conj := by simp [T.conj]
      rw [fs_bin, hc]
      simp only [tv_fs] at ia ib
      refine ok28.acalls hE hm (by simp) fun N hN => ?_
      unfold mc28
      simp only [lA, ptrCells, ptrAdd, isNil, readsV, readsP, isCall, wrote, srcOf, seval]
      have htk : (b.conj.map avT).take b.conj.length = b.conj.map avT := by rw [List.take_of_length_le (by simp)]
      repeat' (first
       | (with_reducible apply St.o; constructor) <;> intro _
       | with_reducible first | refine LenR_i fun _ => ?_ | refine And.intro (by omega) ?_ | (apply Sp.o; constructor) | refine frz0_i ?_
       | ((with_reducible apply Sc.o false; constructor); simp only [lP, seval, IdxR_0, IdxR_1, ti27, renL_Ts, vw_Ts, pa_Ts, List.length_map, Nat.le_refl, if_true, htk]; (first | refine ⟨_, ia, ?_⟩ | refine ⟨_, ib, ?_⟩); rintro _ _ ⟨rfl, rfl⟩; simp only [lA, lP, ptrCells, ptrAdd, isNil, readsV, readsP, isCall, wrote, srcOf, seval, IdxR_0, IdxR_1, ti27, renL_Ts, vw_Ts, pa_Ts, List.length_map, Nat.le_refl, if_true, htk])
       | with_reducible refine any_i [] ?_
       | simp (maxSteps := 1000000) (disch := omega) only [lE, ptrCells, ptrAdd, isNil, readsV, readsP, isCall, wrote, srcOf, seval, IdxR_0, IdxR_1, ti27, renL_Ts, vw_Ts, pa_Ts, List.length_map, Nat.le_refl, if_true, htk])
      all_goals
        refine keep_i [3] false (by simp) (by simp) rfl ?_
        simp only [lP, seval, List.map_append, pa_Ts, List.length_append]
    · exact c28one _ hb
theorem c29one (t : T) (h : t.ex.op ≠ 12) : ACalls E.P 29 [t.ex.av] [] (fun r H => r = .slc 0 6 t.conj.length ∧ H = [.arr 27 6 (t.conj.map avT)]) := by
  rw [conj_one h]
  simp only [List.map_cons, List.map_nil, avT, tv_fs]
  refine ok29.acalls hE hm (by simp) fun N hN => ?_
  unfold mc29
  simp only [lA, ptrCells, ptrAdd, isNil, readsV, readsP, isCall, wrote, srcOf, seval]
  repeat' (first
   | (with_reducible apply St.o; constructor) <;> intro _
   | with_reducible first | refine LenR_i fun _ => ?_ | refine And.intro (by omega) ?_ | (apply Sp.o; constructor) | refine frz0_i ?_
   | simp (maxSteps := 1000000) (disch := omega) only [lE, ptrCells, ptrAdd, isNil, readsV, readsP, isCall, wrote, srcOf, seval, h, ti27, fillE, decide_false, Bool.not_false])
  · refine keep_i [1] false (by simp) (by simp) rfl ?_
    simp only [lP, seval]
  · exact absurd (by assumption) h
theorem c29 : ∀ t : T, t.wf → t.size ≤ 1048576 → ACalls E.P 29 [t.ex.av] [] (fun r H => r = .slc 0 6 t.conj.length ∧ H = [.arr 27 6 (t.conj.map avT)]) := by
  intro t
  induction t with
  | col n => intro _ _; exact c29one _ (by simp [T.ex, EX.op])
  | val v => intro _ _; exact c29one _ (by simp [T.ex, EX.op])
  | un op a => intro hw hs; exact c29one _ (by have := hw.1; show op ≠ 12; omega)
  | bin op a b ia ib =>
    intro hw hs
    by_cases hb : op = 12
    · subst hb
      simp only [T.size] at hs
      have ia := ia hw.2.1 (by omega)
      have ib := ib hw.2.2 (by omega)
      have la := T.conj_len a
      have lb := T.conj_len b
      have hmax := maxLen_eq
      have hc : (T.bin 12 a b).conj = a.conj ++ b.conj := by simp [T.conj]
      rw [fs_bin, hc]
      simp only [tv_fs] at ia ib
      refine ok29.acalls hE hm (by simp) fun N hN => ?_
      unfold mc29
      simp only [lA, ptrCells, ptrAdd, isNil, readsV, readsP, isCall, wrote, srcOf, seval]
      have htk : (b.conj.map avT).take b.conj.length = b.conj.map avT := by rw [List.take_of_length_le (by simp)]
      repeat' (first
       | (with_reducible apply St.o; constructor) <;> intro _
       | with_reducible first | refine LenR_i fun _ => ?_ | refine And.intro (by omega) ?_ | (apply Sp.o; constructor) | refine frz0_i ?_
       | ((with_reducible apply Sc.o false; constructor); simp only [lP, seval, IdxR_0, IdxR_1, ti27, renL_Ts, vw_Ts, pa_Ts, List.length_map, Nat.le_refl, if_true, htk]; (first | refine ⟨_, ia, ?_⟩ | refine ⟨_, ib, ?_⟩); rintro _ _ ⟨rfl, rfl⟩; simp only [lA, lP, ptrCells, ptrAdd, isNil, readsV, readsP, isCall, wrote, srcOf, seval, IdxR_0, IdxR_1, ti27, renL_Ts, vw_Ts, pa_Ts, List.length_map, Nat.le_refl, if_true, htk])
       | simp (maxSteps := 1000000) (disch := omega) only [lE, ptrCells, ptrAdd, isNil, readsV, readsP, isCall, wrote, srcOf, seval, IdxR_0, IdxR_1, ti27, renL_Ts, vw_Ts, pa_Ts, List.length_map, Nat.le_refl, if_true, htk])
      all_goals
        refine keep_i [3] false (by simp) (by simp) rfl ?_
        simp only [lP, seval, List.map_append, pa_Ts, List.length_append]
    · exact c29one _ hb
theorem IdxR_Ts {P : Program} {m : Nat} {N : FN} {xs : List T} {n : Int} {d : Nat} {c : Kn} (h0 : 0 ≤ n) (h1 : n < xs.length) : IdxR P m N (xs.map avT) n d c = rK P m N c d (.vp (xs.getD n.toNat default).ex.fs) :=
  IdxR_map (cs := fun t => t.ex.fs) (fun t => by unfold avT; rw [tv_fs]; rfl) h0 h1
/-- All joined by And. -/
def T.allT : List T → T
  | [] => .val (VL.ofB true)
  | x :: l => l.foldl (fun o y => .bin 12 o y) x
theorem allT_snoc (x : T) (l : List T) {i : Nat} (h : i < l.length) : (l.take (i + 1)).foldl (fun o y => T.bin 12 o y) x = .bin 12 ((l.take i).foldl (fun o y => T.bin 12 o y) x) (l.getD i default) := by
  rw [List.take_succ_eq_append_getElem h, List.foldl_append]
  simp [h]
theorem c34 (l : List T) : ACalls E.P 34 [.view 6 (l.map avT)] [] (fun r H => r = (T.allT l).ex.av ∧ H = []) := by
  have hmax := maxLen_eq
  have h52 : ACalls E.P 52 [.bool true] [] (fun r H => r = .agg [.int .i64 3, .int .i64 1, .str ⟨#[]⟩] ∧ H = []) := c52 true
  refine ok34.acalls hE hm (by simp) fun N hN => ?_
  unfold mc34
  cases l with
  | nil =>
    simp only [lA, ptrCells, ptrAdd, isNil, readsV, readsP, isCall, wrote, srcOf, seval, List.map_nil]
    repeat' (first
     | (with_reducible apply St.o; constructor) <;> intro _
     | with_reducible first | refine LenR_i fun _ => ?_ | refine And.intro (by omega) ?_ | (apply Sp.o; constructor) | refine frz0_i ?_
     | ((with_reducible apply Sc.o true; constructor); simp only [lP, seval, List.length_nil, Int.ofNat_zero, decide_true, ti27]; refine ⟨_, h52, ?_⟩; rintro _ _ ⟨rfl, rfl⟩; simp only [lA, lP, ptrCells, ptrAdd, isNil, readsV, readsP, isCall, wrote, srcOf, seval, List.length_nil, Int.ofNat_zero, decide_true, ti27])
     | with_reducible refine keep_exnil ?_
     | ((with_reducible refine keep0_i ?_); simp only [lP, seval])
     | simp (maxSteps := 1000000) (disch := omega) only [lE, ptrCells, ptrAdd, isNil, readsV, readsP, isCall, wrote, srcOf, seval, List.length_nil, Int.ofNat_zero, decide_true, ti27])
    all_goals simp only [pH_nil, and_true]
    all_goals rfl
  | cons x tl =>
    have hx : avT x = .agg x.ex.fs := tv_fs x
    simp only [lA, ptrCells, ptrAdd, isNil, readsV, readsP, isCall, wrote, srcOf, seval, List.map_cons, hx]
    refine LenR_i fun hl => ?_
    simp only [List.length_cons, List.length_map, hmax] at hl
    have hne : ¬ (((tl.length + 1 : Nat) : Int) = 0) := by omega
    repeat' (first
     | (with_reducible apply St.o; constructor) <;> intro _
     | with_reducible first | refine LenR_i fun _ => ?_ | refine And.intro (by omega) ?_ | (apply Sp.o; constructor) | refine frz0_i ?_
     | ((with_reducible refine keep0_i ?_); simp only [lP, seval])
     | simp (maxSteps := 1000000) (disch := omega) only [lE, ptrCells, ptrAdd, isNil, readsV, readsP, isCall, wrote, srcOf, seval, List.length_cons, List.length_map, hne, decide_false, IdxR_0, List.drop_succ_cons, List.drop_zero])
    refine loop_i (fun j : Nat => j ≤ tl.length) (fun j => ⟨[(2, .op 0 0), (3, .op 1 0), (15, .view 6 (tl.map avT)), (16, .int .i64 tl.length), (17, .int .i64 j)], [.box out0, .box ((tl.take j).foldl (fun o y => T.bin 12 o y) x).ex.fs]⟩) (fun j => tl.length - j) 0 (by omega) (Ent.to [0,1] false (by simp) (by simp) rfl (by simp only [lP, seval, vw_exs, pa_exs, List.take_zero, List.foldl_nil] <;> (try simp) <;> (try omega)) (by simp only [lP, seval, vw_exs, pa_exs, List.take_zero, List.foldl_nil] <;> (try simp) <;> (try omega))) ?_
    intro j hj
    by_cases hin : j < tl.length
    · have hlt : ((j : Int) < (tl.length : Int)) := by omega
      have hs := allT_snoc x tl hin
      generalize (tl.take j).foldl (fun o y => T.bin 12 o y) x = acc at *
      repeat' (first
       | (with_reducible apply St.o; constructor) <;> intro _
       | with_reducible first | refine LenR_i fun _ => ?_ | refine And.intro (by omega) ?_ | (apply Sp.o; constructor) | refine frz0_i ?_
       | ((with_reducible refine keep0_i ?_); simp only [lP, seval])
       | simp (maxSteps := 1000000) (disch := omega) only [lE, ptrCells, ptrAdd, isNil, readsV, readsP, isCall, wrote, srcOf, seval, IdxR_Ts, Int.toNat_natCast, List.length_map, hlt, decide_true, ti27])
      refine back_i (j + 1) (by omega) (by omega) ?_
      rw [hs, fsL_bin]
      exact (Ent.to [0, 1] true (by simp) (by simp) rfl (by simp only [lP, seval, pa_Ts] <;> (try simp) <;> (try omega)) (by simp only [lP, seval, vw_exs]))
    · obtain rfl : j = tl.length := by omega
      repeat' (first
       | (with_reducible apply St.o; constructor) <;> intro _
       | with_reducible first | refine LenR_i fun _ => ?_ | refine And.intro (by omega) ?_ | (apply Sp.o; constructor) | refine frz0_i ?_
       | ((with_reducible refine keep0_i ?_); simp only [lP, seval])
       | simp (maxSteps := 1000000) (disch := omega) only [lE, ptrCells, ptrAdd, isNil, readsV, readsP, isCall, wrote, srcOf, seval, List.length_map, Int.lt_irrefl, decide_false, List.take_length, ti27, pa_exs])
      all_goals simp only [T.allT, tv_fs]
theorem c35 (l : List T) : ACalls E.P 35 [.view 6 (l.map avT)] [] (fun r H => r = (T.allT l).ex.av ∧ H = []) := by
  have hmax := maxLen_eq
  have h52 : ACalls E.P 44 [.bool true] [] (fun r H => r = .agg [.int .i64 3, .int .i64 1, .str ⟨#[]⟩] ∧ H = []) := c44 true
  refine ok35.acalls hE hm (by simp) fun N hN => ?_
  unfold mc35
  cases l with
  | nil =>
    simp only [lA, ptrCells, ptrAdd, isNil, readsV, readsP, isCall, wrote, srcOf, seval, List.map_nil]
    repeat' (first
     | (with_reducible apply St.o; constructor) <;> intro _
     | with_reducible first | refine LenR_i fun _ => ?_ | refine And.intro (by omega) ?_ | (apply Sp.o; constructor) | refine frz0_i ?_
     | ((with_reducible apply Sc.o true; constructor); simp only [lP, seval, List.length_nil, Int.ofNat_zero, decide_true, ti27]; refine ⟨_, h52, ?_⟩; rintro _ _ ⟨rfl, rfl⟩; simp only [lA, lP, ptrCells, ptrAdd, isNil, readsV, readsP, isCall, wrote, srcOf, seval, List.length_nil, Int.ofNat_zero, decide_true, ti27])
     | with_reducible refine keep_exnil ?_
     | ((with_reducible refine keep0_i ?_); simp only [lP, seval])
     | simp (maxSteps := 1000000) (disch := omega) only [lE, ptrCells, ptrAdd, isNil, readsV, readsP, isCall, wrote, srcOf, seval, List.length_nil, Int.ofNat_zero, decide_true, ti27])
    all_goals simp only [pH_nil, and_true]
    all_goals rfl
  | cons x tl =>
    have hx : avT x = .agg x.ex.fs := tv_fs x
    simp only [lA, ptrCells, ptrAdd, isNil, readsV, readsP, isCall, wrote, srcOf, seval, List.map_cons, hx]
    refine LenR_i fun hl => ?_
    simp only [List.length_cons, List.length_map, hmax] at hl
    have hne : ¬ (((tl.length + 1 : Nat) : Int) = 0) := by omega
    repeat' (first
     | (with_reducible apply St.o; constructor) <;> intro _
     | with_reducible first | refine LenR_i fun _ => ?_ | refine And.intro (by omega) ?_ | (apply Sp.o; constructor) | refine frz0_i ?_
     | ((with_reducible refine keep0_i ?_); simp only [lP, seval])
     | simp (maxSteps := 1000000) (disch := omega) only [lE, ptrCells, ptrAdd, isNil, readsV, readsP, isCall, wrote, srcOf, seval, List.length_cons, List.length_map, hne, decide_false, IdxR_0, List.drop_succ_cons, List.drop_zero])
    refine loop_i (fun j : Nat => j ≤ tl.length) (fun j => ⟨[(0, .view 6 ((x :: tl).map avT)), (2, .op 0 0), (3, .op 1 0), (4, .int .i64 (j + 1 : Nat))], [.box out0, .box ((tl.take j).foldl (fun o y => T.bin 12 o y) x).ex.fs]⟩) (fun j => tl.length - j) 0 (by omega) (Ent.to [0,1] false (by simp) (by simp) rfl (by simp only [lP, seval, vw_exs, pa_exs, List.take_zero, List.foldl_nil, List.map_cons, hx] <;> (try simp) <;> (try omega)) (by simp only [lP, seval, vw_exs, pa_exs, List.take_zero, List.foldl_nil, List.map_cons, hx] <;> (try simp) <;> (try omega))) ?_
    clear hl hne
    have hLl : (x :: tl).length = tl.length + 1 := rfl
    have hLg : ∀ j, (x :: tl).getD (j + 1) default = tl.getD j default := fun _ => rfl
    have hLa : T.allT (x :: tl) = tl.foldl (fun o y => T.bin 12 o y) x := rfl
    generalize x :: tl = L at *
    intro j hj
    by_cases hin : j < tl.length
    · have hlt : (((j + 1 : Nat) : Int) < ((tl.length + 1 : Nat) : Int)) := by omega
      have hs := allT_snoc x tl hin
      have hg := hLg j
      generalize (tl.take j).foldl (fun o y => T.bin 12 o y) x = acc at *
      repeat' (first
       | (with_reducible apply St.o; constructor) <;> intro _
       | with_reducible first | refine LenR_i fun _ => ?_ | refine And.intro (by omega) ?_ | (apply Sp.o; constructor) | refine frz0_i ?_
       | with_reducible refine any_i [1] ?_
       | ((with_reducible refine keep0_i ?_); simp only [lP, seval])
       | simp (maxSteps := 1000000) (disch := omega) only [lE, ptrCells, ptrAdd, isNil, readsV, readsP, isCall, wrote, srcOf, seval, IdxR_Ts, Int.toNat_natCast, List.length_map, hLl, hlt, decide_true, ti27, hg])
      all_goals
        refine back_i (j + 1) (by omega) (by omega) ?_
        rw [hs, fsL_bin]
        exact (Ent.to [0, 1] true (by simp) (by simp) rfl (by simp only [lP, seval, pa_Ts] <;> (try simp) <;> (try omega)) (by simp only [lP, seval, vw_exs]))
    · obtain rfl : j = tl.length := by omega
      repeat' (first
       | (with_reducible apply St.o; constructor) <;> intro _
       | with_reducible first | refine LenR_i fun _ => ?_ | refine And.intro (by omega) ?_ | (apply Sp.o; constructor) | refine frz0_i ?_
       | ((with_reducible refine keep0_i ?_); simp only [lP, seval])
       | simp (maxSteps := 1000000) (disch := omega) only [lE, ptrCells, ptrAdd, isNil, readsV, readsP, isCall, wrote, srcOf, seval, List.length_map, hLl, Int.lt_irrefl, decide_false, List.take_length, ti27, pa_exs])
      all_goals simp only [hLa, tv_fs]
end Go.Proofs.Try
