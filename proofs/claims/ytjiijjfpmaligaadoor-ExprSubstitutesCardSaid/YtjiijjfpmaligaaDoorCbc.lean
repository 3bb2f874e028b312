/-
  A part of the proof: see the text of the law.
-/
import Derived.Test.YtjiijjfpmaligaaDoorCan
set_option linter.unusedSimpArgs false
set_option linter.unusedVariables false
namespace Go.Proofs.Try
open Go.Al
set_option linter.unusedVariables false
set_option linter.unusedSimpArgs false
set_option maxRecDepth 20000
set_option maxHeartbeats 8000000

/-- A tree that has a kind: its columns are there, and its values are right. -/
theorem kind_ok (ks : List Int) : ∀ t : T, t.wf → (t.kind ks).2 = 0 → t.fits ks.length ∧ t.vals VL.Right
  | .col n, _, h => by
    simp only [T.kind, kN, if_pos] at h
    refine ⟨?_, trivial⟩
    split at h
    · simp at h
    · simp only [T.fits]; omega
  | .val v, _, h => by
    refine ⟨trivial, ?_⟩
    by_cases hv : v.Right
    · exact hv
    · simp [T.kind, kN, hv] at h
  | .un op a, hw, h => by
    rw [T.kind] at h
    split at h
    · rename_i h1; exact kind_ok ks a hw.2 h1
    · exact absurd h (by assumption)
  | .bin op a b, hw, h => by
    rw [T.kind] at h
    split at h
    · split at h
      · rename_i h1 h2
        obtain ⟨a1, a2⟩ := kind_ok ks a hw.2.1 h1
        obtain ⟨b1, b2⟩ := kind_ok ks b hw.2.2 h2
        exact ⟨⟨a1, b1⟩, a2, b2⟩
      · exact absurd h (by assumption)
    · exact absurd h (by assumption)
theorem chk_ok {ks : List Int} {e : EX} (h : (chk ks e).2 = 0) : e.formed = true ∧ (e.tr.kind ks).2 = 0 ∧ chk ks e = e.tr.kind ks := by
  unfold chk at h ⊢
  split at h
  · simp at h
  · rename_i h1
    split at h
    · rename_i h2; exact ⟨h2, h, by rw [if_neg h1, if_pos h2]⟩
    · simp at h

/-- A value of a column. -/
def inCol (ks : List Int) (r : List VL) (i : Nat) : Prop := (r.getD i default).Right ∧ ((r.getD i default).k = 0 ∨ (r.getD i default).k = ks.getD i 0)
instance (ks : List Int) (r : List VL) (i : Nat) : Decidable (inCol ks r i) := by unfold inCol; infer_instance
/-- A row of such columns. -/
def OfR (ks : List Int) (r : List VL) : Prop := ks.length ≤ 20 ∧ r.length = ks.length ∧ ∀ i, i < r.length → inCol ks r i
instance (ks : List Int) (r : List VL) : Decidable (OfR ks r) := by unfold OfR; infer_instance
theorem all_snoc {P : Nat → Prop} {i : Nat} (h : ∀ j, j < i → P j) (hi : P i) : ∀ j, j < i + 1 → P j := fun j hj => by
  by_cases hji : j = i
  · rw [hji]; exact hi
  · exact h j (by omega)
theorem c11 (ks : List Int) (r : List VL) : ACalls E.P 11 [ksV ks, rowV r] [] (fun q H => q = .bool (decide (OfR ks r)) ∧ H = []) := by
  have hmax := maxLen_eq
  have h21 : ∀ v : VL, ACalls E.P 21 [.agg v.cs] [] (fun r H => r = .bool (decide v.Right) ∧ H = []) := c21
  refine ok11.acalls hE hm (by simp) fun N hN => ?_
  unfold mc11
  simp only [lA, ptrCells, ptrAdd, isNil, readsV, readsP, isCall, wrote, srcOf, seval]
  repeat' (first
   | (with_reducible apply St.o; constructor) <;> intro _
   | with_reducible first | refine LenR_i fun _ => ?_ | refine And.intro (by omega) ?_ | (apply Sp.o; constructor) | refine frz0_i ?_
   | ((with_reducible refine keep0_i ?_); simp only [lP, seval])
   | simp (maxSteps := 1000000) (disch := omega) only [lE, ptrCells, ptrAdd, isNil, readsV, readsP, isCall, wrote, srcOf, seval, List.length_map])
  · have : ¬ OfR ks r := fun h => by have := h.1; have := h.2.1; omega
    simp [this]
  · rename_i h2 h3 h4
    rw [List.length_map] at *
    have hlen : r.length = ks.length := by omega
    refine loop_i (fun i : Nat => i ≤ r.length ∧ ∀ j, j < i → inCol ks r j) (fun i => ⟨[(0, ksV ks), (1, rowV r), (5, .int .i64 i)], []⟩) (fun i => r.length - i) 0 ⟨by omega, fun j hj => by omega⟩ (Ent.to [] false (by simp) (by simp) rfl (by simp only [lP, seval, List.length_map] <;> (try simp) <;> (try omega)) (by simp only [lP, seval, List.length_map] <;> (try simp) <;> (try omega))) ?_
    rintro i ⟨hi, ho⟩
    repeat' (first
     | (with_reducible apply St.o; constructor) <;> intro _
     | with_reducible first | refine LenR_i fun _ => ?_ | refine And.intro (by omega) ?_ | (apply Sp.o; constructor) | refine frz0_i ?_
     | ((with_reducible apply Sc.o false; constructor); simp only [lP, seval, IdxR_vls, IdxR_ints, Int.toNat_natCast, List.length_map]; refine ⟨_, h21 _, ?_⟩; rintro _ _ ⟨rfl, rfl⟩; simp only [lA, lP, ptrCells, ptrAdd, isNil, readsV, readsP, isCall, wrote, srcOf, seval, IdxR_vls, IdxR_ints, Int.toNat_natCast, List.length_map])
     | ((with_reducible refine keep0_i ?_); simp only [lP, seval])
     | simp (maxSteps := 1000000) (disch := omega) only [lE, ptrCells, ptrAdd, isNil, readsV, readsP, isCall, wrote, srcOf, seval, IdxR_vls, IdxR_ints, Int.toNat_natCast, List.length_map])
    · rename_i g1 g2 g3 g4
      have : ¬ OfR ks r := fun h => by rcases (h.2.2 i (by omega)).2 with k | k <;> contradiction
      simp [this]
    · rename_i g1 g2 g3 g4
      exact back_i (i + 1) ⟨by omega, all_snoc ho ⟨g2, .inr g4⟩⟩ (by omega) (Ent.to [] false (by simp) (by simp) rfl (by simp only [lP, seval] <;> (try simp) <;> (try omega)) (by simp only [lP, seval] <;> (try simp) <;> (try omega)))
    · rename_i g1 g2 g3
      exact back_i (i + 1) ⟨by omega, all_snoc ho ⟨g2, .inl g3⟩⟩ (by omega) (Ent.to [] false (by simp) (by simp) rfl (by simp only [lP, seval] <;> (try simp) <;> (try omega)) (by simp only [lP, seval] <;> (try simp) <;> (try omega)))
    · rename_i g1 g2
      have : ¬ OfR ks r := fun h => g2 (h.2.2 i (by omega)).1
      simp [this]
    · rename_i g1
      have : OfR ks r := ⟨by omega, hlen, fun j hj => ho j (by omega)⟩
      simp [this]
  · have : ¬ OfR ks r := fun h => by have := h.1; have := h.2.1; omega
    simp [this]
abbrev Sane : Prop := ACalls E.P 13 [] [] (fun r H => r = .bool true ∧ H = [])
theorem ofR_right {ks : List Int} {r : List VL} (h : OfR ks r) : ∀ v ∈ r, v.Right := fun v hv => by
  obtain ⟨i, hi⟩ := List.getElem?_of_mem hv
  have hlt := (List.getElem?_eq_some_iff.1 hi).1
  have := (h.2.2 i hlt).1
  rwa [List.getD_eq_getElem?_getD, hi] at this

end Go.Proofs.Try
