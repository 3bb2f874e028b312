/-
  A part of the proof: see the text of the law.
-/
import Derived.Test.YtjiijjfpmaligaaDoorCan
set_option linter.unusedSimpArgs false
set_option linter.unusedVariables false
namespace Go.Proofs.Try
open Go.Al
set_option linter.unusedVariables false
set_option linter.unusedSimpArgs false
set_option maxRecDepth 20000
set_option maxHeartbeats 8000000

/-- A tree that has a kind: its columns are there, and its values are right. -/
theorem kind_ok (ks : List Int) : ∀ t : T, t.wf → (t.kind ks).2 = 0 → t.fits ks.length ∧ t.vals VL.Right
  | .col n, _, h => by
    simp only [T.kind, kN, if_pos] at h
    refine ⟨?_, trivial⟩
    split at h
    · simp at h
    · simp only [T.fits]; omega
  | .val v, _, h => by
    refine ⟨trivial, ?_⟩
    by_cases hv : v.Right
    · exact hv
    · simp [T.kind, kN, hv] at h
  | .un op a, hw, h => by
    rw [T.kind] at h
    split at h
    · rename_i h1; exact kind_ok ks a hw.2 h1
    · exact absurd h (by assumption)
  | .bin op a b, hw, h => by
    rw [T.kind] at h
    split at h
    · split at h
      · rename_i h1 h2
        obtain ⟨a1, a2⟩ := kind_ok ks a hw.2.1 h1
        obtain ⟨b1, b2⟩ := kind_ok ks b hw.2.2 h2
        exact ⟨⟨a1, b1⟩, a2, b2⟩
      · exact absurd h (by assumption)
    · exact absurd h (by assumption)
theorem chk_ok {ks : List Int} {e : EX} (h : (chk ks e).2 = 0) : e.formed = true ∧ (e.tr.kind ks).2 = 0 ∧ chk ks e = e.tr.kind ks := by
  unfold chk at h ⊢
  split at h
  · simp at h
  · rename_i h1
    split at h
    · rename_i h2; exact ⟨h2, h, by rw [if_neg h1, if_pos h2]⟩
    · simp at h

/-- A value of a column. -/
def inCol (ks : List Int) (r : List VL) (i : Nat) : Prop := (r.getD i default).Right ∧ ((r.getD i default).k = 0 ∨ (r.getD i default).k = ks.getD i 0)
instance (ks : List Int) (r : List VL) (i : Nat) : Decidable (inCol ks r i) := by unfold inCol; infer_instance
/-- A row of such columns. -/
def OfR (ks : List Int) (r : List VL) : Prop := ks.length ≤ 20 ∧ r.length = ks.length ∧ ∀ i, i < r.length → inCol ks r i
instance (ks : List Int) (r : List VL) : Decidable (OfR ks r) := by unfold OfR; infer_instance
theorem all_snoc {P : Nat → Prop} {i : Nat} (h : ∀ j, j < i → P j) (hi : P i) : ∀ j, j < i + 1 → P j := fun j hj => by
  by_cases hji : j = i
  · rw [hji]; exact hi
  · exact h j (by omega)
theorem c11 (ks : List Int) (r : List VL) : ACalls E.P 11 [ksV ks, rowV r] [] (fun q H => q = .bool (decide (OfR ks r)) ∧ H = []) := by
  have hmax := maxLen_eq
  have h21 : ∀ v : VL, ACalls E.P 21 [.agg v.cs] [] (fun r H => r = .bool (decide v.Right) ∧ H = []) := c21
  refine ok11.acalls hE hm (by simp) fun N hN => ?_
  unfold mc11
  simp only [lA, ptrCells, ptrAdd, isNil, readsV, readsP, isCall, wrote, srcOf, seval]
  repeat' (first
   | (with_reducible apply St.o; constructor) <;> intro _
   | with_reducible first | refine LenR_i fun _ => ?_ | refine And.intro (by omega) ?_ | (apply Sp.o; constructor) | refine frz0_i ?_
   | ((with_reducible refine keep0_i ?_); simp only [lP, seval])
   | simp (maxSteps := 1000000) (disch := omega) only [lE, ptrCells, ptrAdd, isNil, readsV, readsP, isCall, wrote, srcOf, seval, List.length_map])
  · have : ¬ OfR ks r := fun h => by have := h.1; have := h.2.1; omega
    simp [this]
  · rename_i h2 h3 h4
    rw [List.length_map] at *
    have hlen : r.length = ks.length := by omega
    refine loop_i (fun i : Nat => i ≤ r.length ∧ ∀ j, j < i → inCol ks r j) (fun i => ⟨[(0, ksV ks), (1, rowV r), (5, .int .i64 i)], []⟩) (fun i => r.length - i) 0 ⟨by omega, fun j hj => by omega⟩ (Ent.to [] false (by simp) (by simp) rfl (by simp only [lP, seval, List.length_map] <;> (try simp) <;> (try omega)) (by simp only [lP, seval, List.length_map] <;> (try simp) <;> (try omega))) ?_
    rintro i ⟨hi, ho⟩
    repeat' (first
     | (with_reducible apply St.o; constructor) <;> intro _
     | with_reducible first | refine LenR_i fun _ => ?_ | refine And.intro (by omega) ?_ | (apply Sp.o; constructor) | refine frz0_i ?_
     | ((with_reducible apply Sc.o false; constructor); simp only [lP, seval, IdxR_vls, IdxR_ints, Int.toNat_natCast, List.length_map]; refine ⟨_, h21 _, ?_⟩; rintro _ _ ⟨rfl, rfl⟩; simp only [lA, lP, ptrCells, ptrAdd, isNil, readsV, readsP, isCall, wrote, srcOf, seval, IdxR_vls, IdxR_ints, Int.toNat_natCast, List.length_map])
     | ((with_reducible refine keep0_i ?_); simp only [lP, seval])
     | simp (maxSteps := 1000000) (disch := omega) only [lE, ptrCells, ptrAdd, isNil, readsV, readsP, isCall, wrote, srcOf, seval, IdxR_vls, IdxR_ints, Int.toNat_natCast, List.length_map])
    · rename_i g1 g2 g3 g4
      have : ¬ OfR ks r := fun h => by rcases (h.2.2 i (by omega)).2 with k | k <;> contradiction
      simp [this]
    · rename_i g1 g2 g3 g4
      exact back_i (i + 1) ⟨by omega, all_snoc ho ⟨g2, .inr g4⟩⟩ (by omega) (Ent.to [] false (by simp) (by simp) rfl (by simp only [lP, seval] <;> (try simp) <;> (try omega)) (by simp only [lP, seval] <;> (try simp) <;> (try omega)))
    · rename_i g1 g2 g3
      exact back_i (i + 1) ⟨by omega, all_snoc ho ⟨g2, .inl g3⟩⟩ (by omega) (Ent.to [] false (by simp) (by simp) rfl (by simp only [lP, seval] <;> (try simp) <;> (try omega)) (by simp only [lP, seval] <;> (try simp) <;> (try omega)))
    · rename_i g1 g2
      have : ¬ OfR ks r := fun h => g2 (h.2.2 i (by omega)).1
      simp [this]
    · rename_i g1
      have : OfR ks r := ⟨by omega, hlen, fun j hj => ho j (by omega)⟩
      simp [this]
  · have : ¬ OfR ks r := fun h => by have := h.1; have := h.2.1; omega
    simp [this]
abbrev Sane : Prop := ACalls E.P 13 [] [] (fun r H => r = .bool true ∧ H = [])
theorem ofR_right {ks : List Int} {r : List VL} (h : OfR ks r) : ∀ v ∈ r, v.Right := fun v hv => by
  obtain ⟨i, hi⟩ := List.getElem?_of_mem hv
  have hlt := (List.getElem?_eq_some_iff.1 hi).1
  have := (h.2.2 i hlt).1
  rwa [List.getD_eq_getElem?_getD, hi] at this

end Go.Proofs.Try

namespace Go.Proofs.Try
open Go.Al
set_option linter.unusedVariables false
set_option linter.unusedSimpArgs false
set_option maxRecDepth 20000
set_option maxHeartbeats 8000000

theorem ofB_k (b : Bool) : (VL.ofB b).k = 3 := rfl
theorem okK_iff {w k : Int} : okK w k = true ↔ k = w ∨ k = 0 := by simp [okK]
theorem dec_kind {s : Bool} {a b : VL} (ha : a.k = 0 ∨ a.k = 3) (hb : b.k = 0 ∨ b.k = 3) : (VL.dec s a b).2 = 0 ∧ ((VL.dec s a b).1.k = 0 ∨ (VL.dec s a b).1.k = 3) := by
  have h1 : a.logical = true := by simp only [VL.logical, decide_eq_true_eq]; omega
  have h2 : b.logical = true := by simp only [VL.logical, decide_eq_true_eq]; omega
  unfold VL.dec
  rw [h1, h2]
  simp only [Bool.not_true, Bool.or_self, Bool.false_eq_true, if_false]
  split
  · exact ⟨rfl, .inr rfl⟩
  · split
    · exact ⟨rfl, .inl rfl⟩
    · exact ⟨rfl, .inr rfl⟩

/-- A tree that has a kind: its value at a row is of it, or there is none by an overflow. -/
theorem eval_kind {ks : List Int} {r : List VL} (ho : OfR ks r) : ∀ t : T, t.wf → (t.kind ks).2 = 0 →
    ((t.eval r).2 = 0 ∧ ((t.eval r).1.k = 0 ∨ (t.eval r).1.k = (t.kind ks).1)) ∨ ((t.eval r).2 = 360 ∧ (t.eval r).1 = VL.null ∧ t.fails = true)
  | .col n, hw, h => by
    obtain ⟨hf, _⟩ := kind_ok ks (.col n) hw h
    obtain ⟨h1, h2⟩ := hf
    have hn : (n.toNat : Int) = n := by omega
    have := (ho.2.2 n.toNat (by have := ho.2.1; omega)).2
    left
    refine ⟨rfl, ?_⟩
    simp only [T.eval, T.kind, kN, if_pos] at h ⊢
    split at h
    · simp at h
    · rename_i hh
      rw [if_neg hh]
      exact this
  | .val v, hw, h => by
    obtain ⟨_, hv⟩ := kind_ok ks (.val v) hw h
    have hv : v.Right := hv
    left
    exact ⟨rfl, .inr (by simp [T.eval, T.kind, kN, hv])⟩
  | .un op a, hw, h => by
    rw [T.kind] at h ⊢
    split at h
    · rename_i h1
      have ih := eval_kind ho a hw.2 h1
      simp only [h1, if_true, if_pos]
      rw [T.eval, T.fails]
      rcases ih with ⟨e1, e2⟩ | ⟨e1, e2, e3⟩
      · rw [if_pos e1]
        generalize (a.eval r).1 = v at *
        generalize (a.kind ks).1 = k1 at *
        rcases hw.1 with rfl | rfl
        · by_cases hk : k1 = 3 ∨ k1 = 0
          · left
            have hl : v.logical = true := by simp only [VL.logical, decide_eq_true_eq]; omega
            have hkk : okK 3 k1 = true := okK_iff.2 hk
            simp only [eN, kN, ariB, cmpB, VL.not19, hl, hkk, List.all_cons, List.all_nil, List.getD_cons_zero, Bool.and_true]
            simp
            split
            · rename_i hz; exact ⟨rfl, .inl hz⟩
            · exact ⟨rfl, .inr rfl⟩
          · have hkk : okK 3 k1 = false := by rw [← Bool.not_eq_true, okK_iff]; exact hk
            simp [kN, ariB, cmpB, hkk] at h
        · left
          simp [eN, kN, ariB, cmpB, ofB_k]
      · rw [if_neg (by omega)]
        right
        exact ⟨e1, rfl, by simp [e3]⟩
    · exact absurd h (by assumption)
  | .bin op a b, hw, h => by
    rw [T.kind] at h ⊢
    split at h
    · rename_i h1
      split at h
      · rename_i h2
        have iha := eval_kind ho a hw.2.1 h1
        have ihb := eval_kind ho b hw.2.2 h2
        simp only [h1, h2, if_true, if_pos]
        rw [T.eval, T.fails]
        rcases iha with ⟨e1, e2⟩ | ⟨e1, e2, e3⟩
        · rw [if_pos e1]
          rcases ihb with ⟨g1, g2⟩ | ⟨g1, g2, g3⟩
          · rw [if_pos g1]
            generalize (a.eval r).1 = v at *
            generalize (b.eval r).1 = u at *
            generalize (a.kind ks).1 = k1 at *
            generalize (b.kind ks).1 = k2 at *
            have hop := hw.1
            have hc : op = 3 ∨ op = 4 ∨ op = 5 ∨ (6 ≤ op ∧ op ≤ 11) ∨ op = 12 ∨ op = 13 := by omega
            have ari : ∀ o : Int, (o = 3 ∨ o = 4 ∨ o = 5) → (kN ks o 0 VL.null [k1, k2]).2 = 0 → ((eN r o 0 VL.null [v, u]).2 = 0 ∧ ((eN r o 0 VL.null [v, u]).1.k = 0 ∨ (eN r o 0 VL.null [v, u]).1.k = (kN ks o 0 VL.null [k1, k2]).1)) ∨
                ((eN r o 0 VL.null [v, u]).2 = 360 ∧ (eN r o 0 VL.null [v, u]).1 = VL.null ∧ (ariB o || a.fails || b.fails) = true) := by
              intro o hoo h
              have hb : ariB o = true := by simp only [ariB, decide_eq_true_eq]; omega
              have hcm : cmpB o = false := by simp only [cmpB, decide_eq_false_iff_not]; omega
              have n1 : ¬ o = 1 := by omega
              have n2 : ¬ o = 2 := by omega
              have n12 : ¬ o = 12 := by omega
              have n13 : ¬ o = 13 := by omega
              have n14 : ¬ o = 14 := by omega
              have n15 : ¬ o = 15 := by omega
              have hk : [k1, k2].all (okK 1) = true := by
                by_cases hk : [k1, k2].all (okK 1) = true
                · exact hk
                · simp only [kN, n1, n2, hb, hk, if_false, if_true] at h
                  simp at h
              simp only [eN, kN, n1, n2, n12, n13, n14, n15, hb, hcm, hk, if_false, if_true, Bool.false_eq_true, List.getD_cons_zero, List.getD_cons_succ]
              split
              · exact .inl ⟨rfl, .inl rfl⟩
              · split
                · exact .inl ⟨rfl, .inr rfl⟩
                · exact .inr ⟨rfl, rfl, by simp [hb]⟩
            rcases hc with rfl | rfl | rfl | hc | rfl | rfl
            · exact ari 3 (by omega) h
            · exact ari 4 (by omega) h
            · exact ari 5 (by omega) h
            · left
              have hcm : cmpB op = true := by simp only [cmpB, decide_eq_true_eq]; omega
              have hb : ariB op = false := by simp only [ariB, decide_eq_false_iff_not]; omega
              have n1 : ¬ op = 1 := by omega
              have n2 : ¬ op = 2 := by omega
              have n12 : ¬ op = 12 := by omega
              have n13 : ¬ op = 13 := by omega
              have n14 : ¬ op = 14 := by omega
              have n15 : ¬ op = 15 := by omega
              have hk : (k2 = k1 ∨ k2 = 0) ∨ (k1 = k2 ∨ k1 = 0) := by
                by_cases hk : [k1, k2].all (okK k1) = true ∨ [k1, k2].all (okK k2) = true
                · rcases hk with hk | hk
                  · simp only [List.all_cons, List.all_nil, Bool.and_true, Bool.and_eq_true, okK_iff] at hk
                    exact .inl hk.2
                  · simp only [List.all_cons, List.all_nil, Bool.and_true, Bool.and_eq_true, okK_iff] at hk
                    exact .inr hk.1
                · simp only [kN, n1, n2, hb, hcm, if_false, if_true, Bool.false_eq_true, List.getD_cons_zero, List.getD_cons_succ, hk] at h
                  simp at h
              simp only [kN, n1, n2, hb, hcm, if_false, if_true, Bool.false_eq_true, List.getD_cons_zero, List.getD_cons_succ] at h ⊢
              split at h
              · rename_i hh
                rw [if_pos hh]
                simp only [eN, n1, n2, n12, n13, n14, n15, hcm, if_false, if_true, List.getD_cons_zero, List.getD_cons_succ, VL.test]
                rw [if_neg (by omega)]
                split
                · exact ⟨rfl, .inl rfl⟩
                · rename_i hz
                  rw [if_neg (by omega)]
                  exact ⟨rfl, .inr rfl⟩
              · simp at h
            · left
              have hk : (k1 = 3 ∨ k1 = 0) ∧ (k2 = 3 ∨ k2 = 0) := by
                by_cases hk : [k1, k2].all (okK 3) = true
                · simpa only [List.all_cons, List.all_nil, Bool.and_true, Bool.and_eq_true, okK_iff] using hk
                · simp [kN, ariB, cmpB] at h
                  simp only [List.all_cons, List.all_nil, Bool.and_true, Bool.and_eq_true, okK_iff] at hk
                  simp_all [okK]
              have hkk : [k1, k2].all (okK 3) = true := by simpa only [List.all_cons, List.all_nil, Bool.and_true, Bool.and_eq_true, okK_iff] using hk
              have := dec_kind (s := false) (a := v) (b := u) (by omega) (by omega)
              simpa [eN, kN, ariB, cmpB, hkk] using this
            · left
              have hk : (k1 = 3 ∨ k1 = 0) ∧ (k2 = 3 ∨ k2 = 0) := by
                by_cases hk : [k1, k2].all (okK 3) = true
                · simpa only [List.all_cons, List.all_nil, Bool.and_true, Bool.and_eq_true, okK_iff] using hk
                · simp [kN, ariB, cmpB] at h
                  simp only [List.all_cons, List.all_nil, Bool.and_true, Bool.and_eq_true, okK_iff] at hk
                  simp_all [okK]
              have hkk : [k1, k2].all (okK 3) = true := by simpa only [List.all_cons, List.all_nil, Bool.and_true, Bool.and_eq_true, okK_iff] using hk
              have := dec_kind (s := true) (a := v) (b := u) (by omega) (by omega)
              simpa [eN, kN, ariB, cmpB, hkk] using this
          · rw [if_neg (by omega)]
            right
            exact ⟨g1, rfl, by simp [g3]⟩
        · rw [if_neg (by omega)]
          right
          exact ⟨e1, rfl, by simp [e3]⟩
      · exact absurd h (by assumption)
    · exact absurd h (by assumption)
end Go.Proofs.Try
