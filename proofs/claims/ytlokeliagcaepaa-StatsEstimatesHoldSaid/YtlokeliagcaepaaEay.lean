/-
  A part of the proof: see the text of the law.
-/
import Derived.Test.YtlokeliagcaepaaEax
set_option linter.unusedSimpArgs false
set_option linter.unusedVariables false
namespace Go.Proofs.Try
open Go.Al
set_option linter.unusedVariables false
set_option linter.unusedSimpArgs false
set_option maxRecDepth 20000
set_option maxHeartbeats 8000000

theorem mf_ret {P : Program} {m : Nat} {N : FN} {d : Nat} {b : MC} {Q : Exit → AS → Prop} {fr : List (Nat × AV)} {H : List AObj} (h : Q .ret ⟨fr, H⟩) : mfQ P m N d b Q .ret ⟨fr, H⟩ := h
theorem spine19 : ∀ fn, E.P.funcs[19]? = some fn → fn.body.map (Go.Al.spine 5) = some true := fun fn h => by
  have e := func19.symm.trans h
  injection e with e
  subst e
  rfl
theorem c19 (a b : Hist) (hx : ∀ x ∈ a.bars, BarOk x) (hy : ∀ x ∈ b.bars, BarOk x) (ha : 0 ≤ a.rows ∧ a.rows ≤ 16777216 ∧ 0 ≤ a.nulls ∧ a.nulls ≤ 16777216) (hb : 0 ≤ b.rows ∧ b.rows ≤ 16777216 ∧ 0 ≤ b.nulls ∧ b.nulls ≤ 16777216) (hla : a.bars.length ≤ 1024) (hlb : b.bars.length ≤ 1024) :
    ACalls E.P 19 [a.av, b.av] [] (fun r H => r = .tup [(mergeH mergeF a b).1.av, .int .i64 (mergeH mergeF a b).2] ∧ H = []) := by
  have hmax := maxLen_eq
  obtain ⟨ar, an, xs⟩ := a
  obtain ⟨br, bn, ys⟩ := b
  simp only at hx hy ha hb hla hlb
  have hkd := kd_eq xs ys
  have hno : kindsDiffer xs ys = true → mergeH mergeF ⟨ar, an, xs⟩ ⟨br, bn, ys⟩ = (h0, 7) := fun h => if_pos h
  have hlim : ¬ kindsDiffer xs ys = true → 16777216 < ar + br → mergeH mergeF ⟨ar, an, xs⟩ ⟨br, bn, ys⟩ = (h0, 2) := fun h h2 => by
    unfold mergeH
    rw [if_neg h, if_pos h2]
  have hok : ¬ kindsDiffer xs ys = true → ¬ 16777216 < ar + br → mergeH mergeF ⟨ar, an, xs⟩ ⟨br, bn, ys⟩ = (⟨ar + br, an + bn, mergeF xs ys⟩, 0) := fun h h2 => by
    unfold mergeH
    rw [if_neg h, if_neg h2]
  refine ok19.acallsF hE hm (by simp) 5 spine19 fun N hN => ?_
  have h5 := mergeLoop N hN (ar + br) (an + bn) xs ys hx hy (by omega)
  have h2 : ¬ kindsDiffer xs ys = true → MF E.P 0 N 3 (tl (tl mc19)) (endQ E [.cell 4 33, .tmp 5] (keepQ 0 (fun r H => r = .tup [(mergeH mergeF ⟨ar, an, xs⟩ ⟨br, bn, ys⟩).1.av, .int .i64 (mergeH mergeF ⟨ar, an, xs⟩ ⟨br, bn, ys⟩).2] ∧ H = [])))
      ⟨[(2, .op 0 0), (3, .op 1 0), (4, .op 2 0), (5, .int .i64 0)], [.box (Hist.mk ar an xs).cs, .box (Hist.mk br bn ys).cs, .box [.int .i64 0, .int .i64 0, .raw (.slice none 0 0)]]⟩ := by
    intro hk
    have hw : IntKind.i64.wrap (ar + br) = ar + br := by rw [IntKind.wrap_i64]; omega
    refine mf_i ?_
    simp only [lA, ptrCells, ptrAdd, isNil, readsV, readsP, isCall, wrote, srcOf, seval]
    repeat' (first
     | (with_reducible apply St.o; constructor) <;> intro _
     | with_reducible first | refine LenR_i fun _ => ?_ | refine And.intro (by omega) ?_ | (apply Sp.o; constructor) | refine mkl_own ?_ | refine frz0_i ?_
     | simp (maxSteps := 1000000) (disch := omega) only [lE, ptrCells, ptrAdd, isNil, readsV, readsP, isCall, wrote, srcOf, seval, hw])
    · rename_i q
      rw [hw] at q
      refine mf_ret ?_
      simp only [lA, ptrCells, ptrAdd, isNil, readsV, readsP, isCall, wrote, srcOf, seval, ti33]
      rw [hlim hk q]
      exact keepH_i (l := []) weak_nil ⟨rfl, rfl⟩
    · rename_i q
      rw [hw] at q
      rw [hok hk q]
      refine mf_go ?_
      refine mf_i ?_
      simp only [lA, ptrCells, ptrAdd, isNil, readsV, readsP, isCall, wrote, srcOf, seval]
      repeat' (first
       | (with_reducible apply St.o; constructor) <;> intro _
       | with_reducible first | refine LenR_i fun _ => ?_ | refine And.intro (by omega) ?_ | (apply Sp.o; constructor) | refine mkl_own ?_ | refine frz0_i ?_
       | simp (maxSteps := 1000000) (disch := omega) only [lE, ptrCells, ptrAdd, isNil, readsV, readsP, isCall, wrote, srcOf, seval])
      refine mf_go ?_
      refine mf_i ?_
      simp only [lA, ptrCells, ptrAdd, isNil, readsV, readsP, isCall, wrote, srcOf, seval]
      repeat' (first
       | (with_reducible apply St.o; constructor) <;> intro _
       | with_reducible first | refine LenR_i fun _ => ?_ | refine And.intro (by omega) ?_ | (apply Sp.o; constructor) | refine mkl_own ?_ | refine frz0_i ?_ | refine any_i [] ?_
       | simp (maxSteps := 1000000) (disch := omega) only [lE, ptrCells, ptrAdd, isNil, readsV, readsP, isCall, wrote, srcOf, seval])
      · refine mf_to (Ent.trans (Ent.ghostB 3 2 66 9 (by omega) rfl rfl) (Ent.to [2, 3, 4, 5, 6] false (by simp) (by simp) rfl (by simp only [lP, seval] <;> (try simp) <;> (try omega)) (by simp only [lP, seval] <;> (try simp) <;> (try omega)))) h5
      · refine mf_to (Ent.trans (Ent.ghostB 3 2 66 9 (by omega) rfl rfl) (Ent.to [2, 3, 5, 4, 6] false (by simp) (by simp) rfl (by simp only [lP, seval] <;> (try simp) <;> (try omega)) (by simp only [lP, seval] <;> (try simp) <;> (try omega)))) h5
  refine mf_i ?_
  simp only [lA, ptrCells, ptrAdd, isNil, readsV, readsP, isCall, wrote, srcOf, seval, hist_av]
  repeat' (first
   | (with_reducible apply St.o; constructor) <;> intro _
   | with_reducible first | refine LenR_i fun _ => ?_ | refine And.intro (by omega) ?_ | (apply Sp.o; constructor) | refine mkl_own ?_ | refine frz0_i ?_
   | simp (maxSteps := 1000000) (disch := omega) only [lE, ptrCells, ptrAdd, isNil, readsV, readsP, isCall, wrote, srcOf, seval])
  refine mf_go ?_
  refine mf_i ?_
  simp only [lA, ptrCells, ptrAdd, isNil, readsV, readsP, isCall, wrote, srcOf, seval]
  repeat' (first
   | (with_reducible apply St.o; constructor) <;> intro _
   | with_reducible first | refine LenR_i fun _ => ?_ | refine And.intro (by omega) ?_ | (apply Sp.o; constructor) | refine mkl_own ?_ | refine frz0_i ?_ | refine any_i [] ?_
   | simp (maxSteps := 1000000) (disch := omega) only [lE, ptrCells, ptrAdd, isNil, readsV, readsP, isCall, wrote, srcOf, seval, IdxR_bars, Int.toNat_zero, List.length_map])
  · rename_i q1 q2 q3
    refine mf_ret ?_
    simp only [lA, ptrCells, ptrAdd, isNil, readsV, readsP, isCall, wrote, srcOf, seval, ti33]
    rw [hno (by rw [hkd]; simp only [Bool.and_eq_true, decide_eq_true_eq, Bool.not_eq_true', decide_eq_false_iff_not]; exact ⟨⟨by omega, by omega⟩, q3⟩)]
    exact keepH_i (l := []) weak_nil ⟨rfl, rfl⟩
  all_goals
    refine mf_to (Ent.to [0, 1, 2] false (by simp) (by simp) rfl (by simp only [lP, seval] <;> (try simp) <;> (try omega)) (by simp only [lP, seval] <;> (try simp) <;> (try omega))) (h2 ?_)
    rw [hkd]
    simp only [Bool.and_eq_true, decide_eq_true_eq, Bool.not_eq_true', decide_eq_false_iff_not]
    rintro ⟨⟨r1, r2⟩, r3⟩
    first | omega | exact r3 (by assumption)
end Go.Proofs.Try
