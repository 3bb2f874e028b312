/-
  A part of the proof: see the text of the law.
-/
import Derived.Test.YtjiijjfpmaligaaDoorCbn
import Derived.Test.YtjiijjfpmaligaaDoorCbf
set_option linter.unusedSimpArgs false
set_option linter.unusedVariables false
namespace Go.Proofs.Try
open Go.Al
set_option linter.unusedVariables false
set_option linter.unusedSimpArgs false
set_option maxRecDepth 20000
set_option maxHeartbeats 8000000

/-- An argument that may be laid in for a column. -/
def goodA (ks ks2 : List Int) (r : List VL) (l : List T) (i : Nat) : Prop :=
  (l.getD i default).wf ∧ ((l.getD i default).kind ks2).2 = 0 ∧ (((l.getD i default).kind ks2).1 = ks.getD i 0 ∨ ((l.getD i default).kind ks2).1 = 0) ∧ ((l.getD i default).eval r).2 = 0
theorem subst_wf {l : List T} {ks : List Int} (hl : ∀ i, i < l.length → (l.getD i default).wf) : ∀ t : T, t.wf → t.fits l.length → (t.subst l).wf
  | .col n, _, h => hl n.toNat (by have := h.1; have := h.2; omega)
  | .val v, _, _ => trivial
  | .un op a, hw, h => ⟨hw.1, subst_wf (ks := ks) hl a hw.2 h⟩
  | .bin op a b, hw, h => ⟨hw.1, subst_wf (ks := ks) hl a hw.2.1 h.1, subst_wf (ks := ks) hl b hw.2.2 h.2⟩
theorem eN_row {r vs : List VL} {op n : Int} {v : VL} {l : List VL} (h : ¬ op = 1) : eN r op n v l = eN vs op n v l := by
  unfold eN
  rw [if_neg h, if_neg h]
theorem subst_eval {l : List T} {r vs : List VL} (hl : ∀ i, i < l.length → (l.getD i default).eval r = (vs.getD i default, 0)) : ∀ t : T, t.wf → t.fits l.length → (t.subst l).eval r = t.eval vs
  | .col n, _, h => by
    rw [T.subst, T.eval]
    exact hl n.toNat (by have := h.1; have := h.2; omega)
  | .val v, _, _ => rfl
  | .un op a, hw, h => by
    have := hw.1
    rw [T.subst, T.eval, T.eval, subst_eval hl a hw.2 h, eN_row (by omega)]
  | .bin op a b, hw, h => by
    have := hw.1
    rw [T.subst, T.eval, T.eval, subst_eval hl a hw.2.1 h.1, subst_eval hl b hw.2.2 h.2, eN_row (by omega)]
/-- The kind after: the same, or none. -/
theorem subst_kind {ks ks2 : List Int} {r : List VL} {l : List T} (hlen : l.length = ks.length) (hl : ∀ i, i < l.length → goodA ks ks2 r l i) : ∀ t : T, t.wf → (t.kind ks).2 = 0 →
    ((t.subst l).kind ks2).2 = 0 ∧ (((t.subst l).kind ks2).1 = (t.kind ks).1 ∨ ((t.subst l).kind ks2).1 = 0)
  | .col n, hw, h => by
    obtain ⟨hf, _⟩ := kind_ok ks (.col n) hw h
    obtain ⟨h1, h2⟩ := hf
    obtain ⟨g1, g2, g3, g4⟩ := hl n.toNat (by omega)
    rw [T.subst]
    refine ⟨g2, ?_⟩
    simp only [T.kind, kN, if_pos] at h ⊢
    split at h
    · simp at h
    · rename_i hh
      rw [if_neg hh]
      exact g3
  | .val v, hw, h => ⟨h, .inl rfl⟩
  | .un op a, hw, h => by
    rw [T.subst]
    rw [T.kind] at h ⊢
    split at h
    · rename_i h1
      obtain ⟨i1, i2⟩ := subst_kind hlen hl a hw.2 h1
      rw [if_pos i1]
      have hk : (T.un op a).kind ks = kN ks op 0 VL.null [(a.kind ks).1] := by rw [T.kind, if_pos h1]
      rw [hk]
      generalize (a.kind ks).1 = k1 at *
      generalize ((a.subst l).kind ks2).1 = k1' at *
      rcases hw.1 with rfl | rfl
      · by_cases hk : k1 = 3 ∨ k1 = 0
        · have h3 : okK 3 k1 = true := okK_iff.2 hk
          have h3' : okK 3 k1' = true := okK_iff.2 (by omega)
          simp [kN, ariB, cmpB, h3, h3']
        · have hkk : okK 3 k1 = false := by rw [← Bool.not_eq_true, okK_iff]; exact hk
          simp [kN, ariB, cmpB, hkk] at h
      · simp [kN, ariB, cmpB]
    · exact absurd h (by assumption)
  | .bin op a b, hw, h => by
    rw [T.subst]
    rw [T.kind] at h ⊢
    split at h
    · rename_i h1
      split at h
      · rename_i h2
        obtain ⟨i1, i2⟩ := subst_kind hlen hl a hw.2.1 h1
        obtain ⟨j1, j2⟩ := subst_kind hlen hl b hw.2.2 h2
        rw [if_pos i1, if_pos j1]
        have hk : (T.bin op a b).kind ks = kN ks op 0 VL.null [(a.kind ks).1, (b.kind ks).1] := by rw [T.kind, if_pos h1, if_pos h2]
        rw [hk]
        generalize (a.kind ks).1 = k1 at *
        generalize ((a.subst l).kind ks2).1 = k1' at *
        generalize (b.kind ks).1 = k2 at *
        generalize ((b.subst l).kind ks2).1 = k2' at *
        have hop := hw.1
        have n1 : ¬ op = 1 := by omega
        have n2 : ¬ op = 2 := by omega
        have n15 : ¬ op = 15 := by omega
        simp only [kN, n1, n2, n15, if_false, List.getD_cons_zero, List.getD_cons_succ, List.all_cons, List.all_nil, Bool.and_true, Bool.and_eq_true, okK_iff, Bool.false_eq_true, true_or, true_and, and_true] at h ⊢
        by_cases hb : ariB op = true
        · simp only [hb, if_true] at h ⊢
          split at h
          · rename_i hh
            rw [if_pos hh, if_pos (by omega)]
            exact ⟨rfl, .inl rfl⟩
          · simp at h
        · simp only [hb, if_false, Bool.false_eq_true] at h ⊢
          by_cases hc : cmpB op = true
          · simp only [hc, if_true] at h ⊢
            split at h
            · rename_i hh
              rw [if_pos hh, if_pos (by omega)]
              exact ⟨rfl, .inl rfl⟩
            · simp at h
          · simp only [hc, if_false, Bool.false_eq_true] at h ⊢
            split at h
            · rename_i hh
              rw [if_pos hh, if_pos (by omega)]
              exact ⟨rfl, .inl rfl⟩
            · simp at h
      · exact absurd h (by assumption)
    · exact absurd h (by assumption)
end Go.Proofs.Try
