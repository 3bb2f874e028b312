/-
  A part of the proof: see the text of the law.
-/
import Derived.Test.YtjiijjfpmaligaaDoorCav
import Derived.Test.YtjiijjfpmaligaaDoorCbf
import Derived.Test.YtjiijjfpmaligaaDoorCbj
import Derived.Test.YtjiijjfpmaligaaDoorCar
set_option linter.unusedSimpArgs false
set_option linter.unusedVariables false
namespace Go.Proofs.Try
open Go.Al
set_option linter.unusedVariables false
set_option linter.unusedSimpArgs false
set_option maxRecDepth 20000
set_option maxHeartbeats 8000000

/-! ### what a kind says of the parts -/
theorem kind_un {ks : List Int} {op : Int} {a : T} (hop : op = 14 ∨ op = 15) : ((T.un op a).kind ks).2 = 0 ↔ (a.kind ks).2 = 0 ∧ (op = 14 → (a.kind ks).1 = 3 ∨ (a.kind ks).1 = 0) := by
  rw [T.kind]
  split
  · rename_i h1
    simp only [h1, true_and]
    generalize (a.kind ks).1 = k
    rcases hop with rfl | rfl
    · by_cases hk : k = 3 ∨ k = 0
      · have h3 : okK 3 k = true := okK_iff.2 hk
        simp [kN, ariB, cmpB, h3, hk]
      · have h3 : okK 3 k = false := by rw [← Bool.not_eq_true, okK_iff]; exact hk
        simp [kN, ariB, cmpB, h3, hk]
    · simp [kN, ariB, cmpB]
  · rename_i h1
    simp [h1]
theorem kind_un1 {ks : List Int} {op : Int} {a : T} (hop : op = 14 ∨ op = 15) (h : ((T.un op a).kind ks).2 = 0) : ((T.un op a).kind ks).1 = 3 := by
  rw [T.kind] at h ⊢
  split at h
  · rename_i h1
    rw [if_pos h1]
    generalize (a.kind ks).1 = k at *
    rcases hop with rfl | rfl
    · by_cases hk : k = 3 ∨ k = 0
      · have h3 : okK 3 k = true := okK_iff.2 hk
        simp [kN, ariB, cmpB, h3]
      · have h3 : okK 3 k = false := by rw [← Bool.not_eq_true, okK_iff]; exact hk
        simp [kN, ariB, cmpB, h3] at h
    · simp [kN, ariB, cmpB]
  · exact absurd h (by assumption)
def okB (op k1 k2 : Int) : Prop := (ariB op = true → (k1 = 1 ∨ k1 = 0) ∧ (k2 = 1 ∨ k2 = 0)) ∧ (cmpB op = true → k1 = k2 ∨ k1 = 0 ∨ k2 = 0) ∧ (op = 12 ∨ op = 13 → (k1 = 3 ∨ k1 = 0) ∧ (k2 = 3 ∨ k2 = 0))
theorem kN_bin {ks : List Int} {op k1 k2 : Int} (hop : 3 ≤ op ∧ op ≤ 13) : ((kN ks op 0 VL.null [k1, k2]).2 = 0 ↔ okB op k1 k2) ∧ ((kN ks op 0 VL.null [k1, k2]).2 = 0 → (kN ks op 0 VL.null [k1, k2]).1 = if ariB op = true then 1 else 3) := by
  have n1 : ¬ op = 1 := by omega
  have n2 : ¬ op = 2 := by omega
  have n15 : ¬ op = 15 := by omega
  simp only [kN, n1, n2, n15, if_false, List.getD_cons_zero, List.getD_cons_succ, List.all_cons, List.all_nil, Bool.and_true, Bool.and_eq_true, okK_iff, Bool.false_eq_true, true_or, true_and, and_true, okB]
  by_cases hb : ariB op = true
  · have h3 : 3 ≤ op ∧ op ≤ 5 := by simpa [ariB] using hb
    have hc : ¬ cmpB op = true := by simp only [cmpB, decide_eq_true_eq]; omega
    have h12 : ¬ (op = 12 ∨ op = 13) := by omega
    simp only [hb, hc, h12, if_true, true_implies, false_implies, and_true, forall_const]
    split
    · rename_i hh; simp [hh]
    · rename_i hh; simp [hh]
  · simp only [hb, if_false, Bool.false_eq_true]
    by_cases hc : cmpB op = true
    · have h6 : 6 ≤ op ∧ op ≤ 11 := by simpa [cmpB] using hc
      have h12 : ¬ (op = 12 ∨ op = 13) := by omega
      simp only [hc, h12, if_true, true_implies, false_implies, and_true, true_and, forall_const]
      split
      · rename_i hh; simp; omega
      · rename_i hh; simp; omega
    · have h12 : op = 12 ∨ op = 13 := by
        simp only [cmpB, ariB, decide_eq_true_eq] at hc hb; omega
      simp only [hc, h12, if_false, Bool.false_eq_true, true_implies, false_implies, true_and, forall_const]
      split
      · rename_i hh; simp [hh]
      · rename_i hh; simp [hh]
theorem kind_bin {ks : List Int} {op : Int} {a b : T} (hop : 3 ≤ op ∧ op ≤ 13) : ((T.bin op a b).kind ks).2 = 0 ↔ (a.kind ks).2 = 0 ∧ (b.kind ks).2 = 0 ∧ okB op (a.kind ks).1 (b.kind ks).1 := by
  rw [T.kind]
  split
  · rename_i h1
    split
    · rename_i h2
      rw [(kN_bin hop).1]; simp [h1, h2]
    · rename_i h2; simp [h2]
  · rename_i h1; simp [h1]
theorem kind_bin1 {ks : List Int} {op : Int} {a b : T} (hop : 3 ≤ op ∧ op ≤ 13) (h : ((T.bin op a b).kind ks).2 = 0) : ((T.bin op a b).kind ks).1 = if ariB op = true then 1 else 3 := by
  obtain ⟨h1, h2, h3⟩ := (kind_bin hop).1 h
  rw [T.kind, if_pos h1, if_pos h2] at h ⊢
  exact (kN_bin hop).2 h

/-! ### values -/
theorem vl_ext {a b : VL} (h1 : a.k = b.k) (h2 : a.n = b.n) (h3 : a.s = b.s) : a = b := by cases a; cases b; simp_all
theorem bool_cases {v : VL} (hv : v.Right) (hk : v.k = 3 ∨ v.k = 0) : v = VL.null ∨ ∃ b, v = VL.ofB b := by
  simp only [VL.Right] at hv
  rcases hv with ⟨h, h1, h2⟩ | ⟨h, _⟩ | ⟨h, _⟩ | ⟨h, h1, h2⟩
  · exact .inl (vl_ext h h1 h2)
  · omega
  · omega
  · rcases h1 with h1 | h1
    · exact .inr ⟨false, vl_ext h h1 h2⟩
    · exact .inr ⟨true, vl_ext h h1 h2⟩
theorem int_cases {v : VL} (hv : v.Right) (hk : v.k = 1 ∨ v.k = 0) : v = VL.null ∨ (v.k = 1 ∧ v = ⟨1, v.n, ⟨#[]⟩⟩ ∧ -549755813888 ≤ v.n ∧ v.n ≤ 549755813887) := by
  simp only [VL.Right] at hv
  rcases hv with ⟨h, h1, h2⟩ | ⟨h, h0, h1, h2⟩ | ⟨h, _⟩ | ⟨h, h1, h2⟩
  · exact .inl (vl_ext h h1 h2)
  · exact .inr ⟨h, vl_ext h rfl h2, h0, h1⟩
  · omega
  · omega
theorem ofB_log (b : Bool) : (VL.ofB b).logical = true := rfl
theorem ofB_is (b c : Bool) : (VL.ofB b).is c = (b == c) := by cases b <;> cases c <;> rfl
theorem ofB_k0 (b : Bool) : ¬ (VL.ofB b).k = 0 := by show ¬ (3 : Int) = 0; omega
theorem null_log : VL.null.logical = true := rfl
theorem null_is (c : Bool) : VL.null.is c = false := rfl
theorem null_k : VL.null.k = 0 := rfl
theorem dec_facts {s : Bool} {v : VL} (h : v = VL.null ∨ ∃ b, v = VL.ofB b) : VL.dec s (VL.ofB (!s)) v = (v, 0) ∧ VL.dec s v (VL.ofB (!s)) = (v, 0) ∧ VL.dec s (VL.ofB s) v = (VL.ofB s, 0) ∧ VL.dec s v (VL.ofB s) = (VL.ofB s, 0) := by
  rcases h with rfl | ⟨b, rfl⟩
  · cases s <;> simp [VL.dec, ofB_log, ofB_is, ofB_k0, null_log, null_is, null_k]
  · cases s <;> cases b <;> simp [VL.dec, ofB_log, ofB_is, ofB_k0, null_log, null_is, null_k]
theorem not_not {v : VL} (h : v = VL.null ∨ ∃ b, v = VL.ofB b) : v.not19.2 = 0 ∧ v.not19.1.not19 = (v, 0) := by
  rcases h with rfl | ⟨b, rfl⟩
  · simp [VL.not19, null_log, null_k]
  · cases b <;> simp [VL.not19, ofB_log, ofB_k0, VL.ofB, VL.logical]
theorem tst_opp {op : Int} (h : cmpB op = true) (c : Int) : tst (opp op) c = !tst op c := by
  rcases cmp_cases h with rfl | rfl | rfl | rfl | rfl | rfl <;> simp [tst, opp] <;> (rw [Bool.eq_iff_iff]; simp)
theorem tst_trn {op : Int} (h : cmpB op = true) (c : Int) : tst (trn op) (-c) = tst op c := by
  rcases cmp_cases h with rfl | rfl | rfl | rfl | rfl | rfl <;> simp [tst, trn] <;> (try (rw [Bool.eq_iff_iff]; simp)) <;> omega
theorem opp_cmp {op : Int} (h : cmpB op = true) : cmpB (opp op) = true := by rcases cmp_cases h with rfl | rfl | rfl | rfl | rfl | rfl <;> rfl
theorem trn_cmp {op : Int} (h : cmpB op = true) : cmpB (trn op) = true := by rcases cmp_cases h with rfl | rfl | rfl | rfl | rfl | rfl <;> rfl
theorem cmp_rng {op : Int} (h : cmpB op = true) : 6 ≤ op ∧ op ≤ 11 := by simpa [cmpB] using h
theorem test_opp {op : Int} (h : cmpB op = true) (a b : VL) : (VL.test VL.cmp19 (opp op) a b).2 = (VL.test VL.cmp19 op a b).2 ∧ ((VL.test VL.cmp19 op a b).2 = 0 → (VL.test VL.cmp19 op a b).1.not19 = VL.test VL.cmp19 (opp op) a b) := by
  have h1 := cmp_rng h
  have h2 := cmp_rng (opp_cmp h)
  have n1 : ¬ (op < 6 ∨ 11 < op) := by omega
  have n2 : ¬ (opp op < 6 ∨ 11 < opp op) := by omega
  simp only [VL.test, if_neg n1, if_neg n2]
  split
  · exact ⟨rfl, fun _ => by simp [VL.not19, null_log, null_k]⟩
  · split
    · exact ⟨rfl, fun h => by simp at h⟩
    · refine ⟨rfl, fun _ => ?_⟩
      rw [tst_opp h]
      cases tst op (a.cmp19 b) <;> simp [VL.not19, ofB_log, ofB_k0, VL.ofB, VL.logical]
theorem test_trn {op : Int} (h : cmpB op = true) {a b : VL} (ha : a.Right) (hb : b.Right) : VL.test VL.cmp19 (trn op) b a = VL.test VL.cmp19 op a b := by
  have h1 := cmp_rng h
  have h2 := cmp_rng (trn_cmp h)
  have n1 : ¬ (op < 6 ∨ 11 < op) := by omega
  have n2 : ¬ (trn op < 6 ∨ 11 < trn op) := by omega
  simp only [VL.test, if_neg n1, if_neg n2]
  by_cases hz : a.k = 0 ∨ b.k = 0
  · rw [if_pos hz, if_pos hz.symm]
  · rw [if_neg hz, if_neg (fun h => hz h.symm)]
    by_cases hk : a.k = b.k
    · have := vl_cmp.anti a b
      rw [VL.cmp_eq ha hb hk, VL.cmp_eq hb ha hk.symm] at this
      rw [if_neg (fun h => h hk.symm), if_neg (fun h => h hk), this, tst_trn h]
    · rw [if_pos (fun h => hk h.symm), if_pos hk]
end Go.Proofs.Try

namespace Go.Proofs.Try
open Go.Al
set_option linter.unusedVariables false
set_option linter.unusedSimpArgs false
set_option maxRecDepth 20000
set_option maxHeartbeats 8000000

/-! ### what Simplify keeps: kinds and values -/
/-- Typed, and of the same kind, or of none. -/
def Sub (ks : List Int) (t s : T) : Prop := s.wf ∧ (s.kind ks).2 = 0 ∧ ((s.kind ks).1 = (t.kind ks).1 ∨ (s.kind ks).1 = 0)
theorem kN_ks {ks ks' : List Int} {op n : Int} {v : VL} {l : List Int} (h : ¬ op = 1) : kN ks op n v l = kN ks' op n v l := by
  unfold kN
  rw [if_neg h, if_neg h]
theorem val_kind {ks : List Int} {v : VL} (hv : v.Right) : (T.val v).kind ks = (v.k, 0) := by simp [T.kind, kN, hv]
theorem ofR_nil : OfR [] [] := ⟨by simp, rfl, fun i hi => by simp at hi⟩
theorem sub_val {ks : List Int} {s : T} (hw : s.wf) (hf : s.fits 0) (hv : s.vals VL.Right) (hk : s.kind ks = s.kind []) (h : (s.kind ks).2 = 0) (he : (s.eval []).2 = 0) : Sub ks s (.val (s.eval []).1) := by
  have hr := T.eval_right (r := []) (by simp) s hw hf hv
  rw [hk] at h
  rcases eval_kind ofR_nil s hw h with ⟨_, h2⟩ | ⟨h2, _⟩
  · refine ⟨trivial, by rw [val_kind hr], ?_⟩
    rw [val_kind hr, hk]
    exact h2.symm
  · omega
theorem val_of {t : T} (h : t.isVal = true) : ∃ v, t = .val v := by cases t <;> simp [T.isVal] at h; exact ⟨_, rfl⟩
theorem isC_of {t : T} {v : VL} (h : t.isC v = true) : t = .val v := by
  cases t <;> simp [T.isC] at h
  rw [VL.same_iff.1 h]
theorem un_kind {ks : List Int} {op : Int} {a : T} : (T.un op a).kind ks = if (a.kind ks).2 = 0 then kN ks op 0 VL.null [(a.kind ks).1] else (0, (a.kind ks).2) := by rw [T.kind]
theorem bin_kind {ks : List Int} {op : Int} {a b : T} : (T.bin op a b).kind ks = if (a.kind ks).2 = 0 then (if (b.kind ks).2 = 0 then kN ks op 0 VL.null [(a.kind ks).1, (b.kind ks).1] else (0, (b.kind ks).2)) else (0, (a.kind ks).2) := by rw [T.kind]
theorem val_ks {ks : List Int} {v : VL} : (T.val v).kind ks = (T.val v).kind [] := by rw [T.kind, T.kind]; exact kN_ks (by omega)
theorem un_ks {ks : List Int} {op : Int} {v : VL} (hop : op = 14 ∨ op = 15) : (T.un op (.val v)).kind ks = (T.un op (.val v)).kind [] := by
  have h : ∀ (n : Int) (l : List Int), kN ks op n VL.null l = kN [] op n VL.null l := fun n l => kN_ks (by omega)
  rw [un_kind, un_kind, val_ks (ks := ks), h]
theorem bin_ks {ks : List Int} {op : Int} {v u : VL} (hop : 3 ≤ op ∧ op ≤ 13) : (T.bin op (.val v) (.val u)).kind ks = (T.bin op (.val v) (.val u)).kind [] := by
  have h : ∀ (n : Int) (l : List Int), kN ks op n VL.null l = kN [] op n VL.null l := fun n l => kN_ks (by omega)
  rw [bin_kind, bin_kind, val_ks (ks := ks), val_ks (ks := ks), h]
theorem sub_refl {ks : List Int} {t : T} (hw : t.wf) (h : (t.kind ks).2 = 0) : Sub ks t t := ⟨hw, h, .inl rfl⟩
theorem negT_sub {ks : List Int} {a : T} (hw : a.wf) (h : ((T.un 14 a).kind ks).2 = 0) : Sub ks (.un 14 a) (negT 14 a) := by
  have hd : Sub ks (.un 14 a) (.un 14 a) := sub_refl ⟨.inl rfl, hw⟩ h
  have k1 := kind_un1 (.inl rfl) h
  obtain ⟨h1, h2⟩ := (kind_un (.inl rfl)).1 h
  cases a with
  | col n => exact hd
  | val v => exact hd
  | un o x =>
    simp only [negT]
    split
    · rename_i ho
      subst ho
      obtain ⟨h3, h4⟩ := (kind_un hw.1).1 h1
      refine ⟨hw.2, h3, ?_⟩
      rw [k1]; exact h4 rfl
    · exact hd
  | bin o x y =>
    simp only [negT]
    split
    · rename_i hc
      obtain ⟨h3, h4, h5⟩ := (kind_bin hw.1).1 h1
      have hr := opp_range hw.1 hc
      have hoc := opp_cmp hc
      have hro := cmp_rng hoc
      have hb : ¬ ariB (opp o) = true := by simp only [ariB, decide_eq_true_eq]; omega
      have hk : ((T.bin (opp o) x y).kind ks).2 = 0 := (kind_bin hr).2 ⟨h3, h4, fun h => absurd h hb, fun _ => h5.2.1 hc, fun h => by omega⟩
      refine ⟨⟨hr, hw.2⟩, hk, ?_⟩
      rw [kind_bin1 hr hk, k1, if_neg hb]
      exact .inl rfl
    · exact hd
theorem simpU_sub {ks : List Int} {op : Int} {a : T} (hop : op = 14 ∨ op = 15) (hw : a.wf) (h : ((T.un op a).kind ks).2 = 0) : Sub ks (.un op a) (simpU op a) := by
  obtain ⟨_, hv⟩ := kind_ok ks (.un op a) ⟨hop, hw⟩ h
  unfold simpU
  split
  · rename_i hh
    obtain ⟨v, rfl⟩ := val_of hh.1
    exact sub_val (s := .un op (.val v)) ⟨hop, hw⟩ trivial hv (un_ks hop) h hh.2
  split
  · rename_i ho; subst ho; exact negT_sub hw h
  · exact sub_refl ⟨hop, hw⟩ h
theorem ofB_right' (b : Bool) : (VL.ofB b).Right := ofB_right b
theorem restB_sub {ks : List Int} {op : Int} {a b : T} (hop : 3 ≤ op ∧ op ≤ 13) (hw : a.wf) (hw2 : b.wf) (h : ((T.bin op a b).kind ks).2 = 0) : Sub ks (.bin op a b) (restB op a b) := by
  have hd : Sub ks (.bin op a b) (.bin op a b) := sub_refl ⟨hop, hw, hw2⟩ h
  have k1 := kind_bin1 hop h
  obtain ⟨h1, h2, h3⟩ := (kind_bin hop).1 h
  have sa : (((a.kind ks).1 = if ariB op = true then 1 else 3) ∨ (a.kind ks).1 = 0) → Sub ks (.bin op a b) a := fun hh => ⟨hw, h1, by rw [k1]; exact hh⟩
  have sb : (((b.kind ks).1 = if ariB op = true then 1 else 3) ∨ (b.kind ks).1 = 0) → Sub ks (.bin op a b) b := fun hh => ⟨hw2, h2, by rw [k1]; exact hh⟩
  unfold restB
  by_cases hl : op = 12 ∨ op = 13
  · have hb : ¬ ariB op = true := by simp only [ariB, decide_eq_true_eq]; omega
    obtain ⟨l1, l2⟩ := h3.2.2 hl
    simp only [if_neg hb] at sa sb
    rw [if_pos hl]
    (repeat' split) <;> first | exact hd | exact sa l1 | exact sb l2
  · rw [if_neg hl]
    by_cases hc : cmpB op = true
    · have hr := cmp_rng hc
      have hrt := cmp_rng (trn_cmp hc)
      split
      · have hb : ¬ ariB (trn op) = true := by simp only [ariB, decide_eq_true_eq]; omega
        have hb0 : ¬ ariB op = true := by simp only [ariB, decide_eq_true_eq]; omega
        have hk : ((T.bin (trn op) b a).kind ks).2 = 0 := (kind_bin (trn_range hop hc)).2 ⟨h2, h1, fun h => absurd h hb, fun _ => by have := h3.2.1 hc; omega, fun h => by omega⟩
        refine ⟨⟨trn_range hop hc, hw2, hw⟩, hk, ?_⟩
        rw [kind_bin1 (trn_range hop hc) hk, k1, if_neg hb, if_neg hb0]
        exact .inl rfl
      · rw [if_neg (by omega), if_neg (by omega)]
        exact hd
    · have hb : ariB op = true := by simp only [cmpB, ariB, decide_eq_true_eq] at hc ⊢; omega
      obtain ⟨l1, l2⟩ := h3.1 hb
      simp only [if_pos hb] at sa sb
      rw [if_neg (fun h => hc h.1)]
      (repeat' split) <;> first | exact hd | exact sa l1 | exact sb l2
theorem simpB_sub {ks : List Int} {op : Int} {a b : T} (hop : 3 ≤ op ∧ op ≤ 13) (hw : a.wf) (hw2 : b.wf) (h : ((T.bin op a b).kind ks).2 = 0) : Sub ks (.bin op a b) (simpB op a b) := by
  obtain ⟨_, hv⟩ := kind_ok ks (.bin op a b) ⟨hop, hw, hw2⟩ h
  unfold simpB
  split
  · rename_i hh
    obtain ⟨v, rfl⟩ := val_of hh.1
    obtain ⟨u, rfl⟩ := val_of hh.2
    split
    · rename_i he
      exact sub_val (s := .bin op (.val v) (.val u)) ⟨hop, hw, hw2⟩ ⟨trivial, trivial⟩ hv (bin_ks hop) h he
    · exact sub_refl ⟨hop, hw, hw2⟩ h
  · exact restB_sub hop hw hw2 h
theorem okB_sub {op k1 k2 j1 j2 : Int} (h : okB op k1 k2) (h1 : j1 = k1 ∨ j1 = 0) (h2 : j2 = k2 ∨ j2 = 0) : okB op j1 j2 :=
  ⟨fun hb => by have := h.1 hb; omega, fun hb => by have := h.2.1 hb; omega, fun hb => by have := h.2.2 hb; omega⟩
theorem simp_sub {ks : List Int} : ∀ t : T, t.wf → (t.kind ks).2 = 0 → Sub ks t t.simp
  | .col n, hw, h => sub_refl hw h
  | .val v, hw, h => sub_refl hw h
  | .un op a, hw, h => by
    have k1 := kind_un1 hw.1 h
    obtain ⟨h1, h2⟩ := (kind_un hw.1).1 h
    obtain ⟨i1, i2, i3⟩ := simp_sub a hw.2 h1
    have hk : ((T.un op a.simp).kind ks).2 = 0 := (kind_un hw.1).2 ⟨i2, fun ho => by have := h2 ho; omega⟩
    obtain ⟨j1, j2, j3⟩ := simpU_sub hw.1 i1 hk
    refine ⟨j1, j2, ?_⟩
    rw [kind_un1 hw.1 hk] at j3
    rw [k1]; exact j3
  | .bin op a b, hw, h => by
    have k1 := kind_bin1 hw.1 h
    obtain ⟨h1, h2, h3⟩ := (kind_bin hw.1).1 h
    obtain ⟨i1, i2, i3⟩ := simp_sub a hw.2.1 h1
    obtain ⟨g1, g2, g3⟩ := simp_sub b hw.2.2 h2
    have hk : ((T.bin op a.simp b.simp).kind ks).2 = 0 := (kind_bin hw.1).2 ⟨i2, g2, okB_sub h3 i3 g3⟩
    obtain ⟨j1, j2, j3⟩ := simpB_sub hw.1 i1 g1 hk
    refine ⟨j1, j2, ?_⟩
    rw [kind_bin1 hw.1 hk] at j3
    rw [k1]; exact j3

/-! ### the value -/
theorem eN_op {r r' : List VL} {op n : Int} {v : VL} {l : List VL} (h : ¬ op = 1) : eN r op n v l = eN r' op n v l := by
  unfold eN
  rw [if_neg h, if_neg h]
theorem un_closed {r : List VL} {op : Int} {v : VL} (hop : op = 14 ∨ op = 15) : (T.un op (.val v)).eval r = (T.un op (.val v)).eval [] := by
  simp only [T.eval, eN_op (r := r) (r' := []) (show ¬ op = 1 by omega)]
theorem bin_closed {r : List VL} {op : Int} {v u : VL} (hop : 3 ≤ op ∧ op ≤ 13) : (T.bin op (.val v) (.val u)).eval r = (T.bin op (.val v) (.val u)).eval [] := by
  simp only [T.eval, eN_op (r := r) (r' := []) (show ¬ op = 1 by omega)]
/-- The value at a row: right, of the kind, or an overflow. -/
theorem eval_typed {ks : List Int} {r : List VL} (ho : OfR ks r) {t : T} (hw : t.wf) (h : (t.kind ks).2 = 0) :
    ((t.eval r).2 = 0 ∧ (t.eval r).1.Right ∧ ((t.eval r).1.k = (t.kind ks).1 ∨ (t.eval r).1.k = 0)) ∨ (t.eval r = (VL.null, 360) ∧ t.fails = true) := by
  obtain ⟨hf, hv⟩ := kind_ok ks t hw h
  rw [← ho.2.1] at hf
  have hr := T.eval_right (ofR_right ho) t hw hf hv
  rcases eval_kind ho t hw h with ⟨h1, h2⟩ | ⟨h1, h2, h3⟩
  · exact .inl ⟨h1, hr, h2.symm⟩
  · exact .inr ⟨Prod.ext h2 h1, h3⟩
theorem pair_eta {v : VL × Int} (h : v.2 = 0) : v = (v.1, 0) := Prod.ext rfl h
theorem bin_eval {r : List VL} {op : Int} {a b : T} : (T.bin op a b).eval r = if (a.eval r).2 = 0 then (if (b.eval r).2 = 0 then eN r op 0 VL.null [(a.eval r).1, (b.eval r).1] else (VL.null, (b.eval r).2)) else (VL.null, (a.eval r).2) := by rw [T.eval]
theorem un_eval {r : List VL} {op : Int} {a : T} : (T.un op a).eval r = if (a.eval r).2 = 0 then eN r op 0 VL.null [(a.eval r).1] else (VL.null, (a.eval r).2) := by rw [T.eval]
theorem negT_eval {ks : List Int} {r : List VL} (ho : OfR ks r) {a : T} (hw : a.wf) (h : ((T.un 14 a).kind ks).2 = 0) : (negT 14 a).eval r = (T.un 14 a).eval r := by
  obtain ⟨h1, h2⟩ := (kind_un (.inl rfl)).1 h
  cases a with
  | col n => rfl
  | val v => rfl
  | un o x =>
    simp only [negT]
    split
    · rename_i hoo
      subst hoo
      obtain ⟨h3, h4⟩ := (kind_un hw.1).1 h1
      rcases eval_typed ho hw.2 h3 with ⟨e1, e2, e3⟩ | ⟨e1, e2⟩
      · have := not_not (bool_cases e2 (by have := h4 rfl; omega))
        have hu : (T.un 14 x).eval r = (x.eval r).1.not19 := by rw [un_eval, if_pos e1]; simp [eN]
        rw [un_eval, hu, if_pos this.1]
        simp only [eN]
        simp
        rw [this.2]
        exact pair_eta e1
      · simp [un_eval, e1]
    · rfl
  | bin o x y =>
    simp only [negT]
    split
    · rename_i hc
      have hr := cmp_rng hc
      have hr2 := cmp_rng (opp_cmp hc)
      rw [un_eval, bin_eval, bin_eval]
      by_cases hx : (x.eval r).2 = 0
      · by_cases hy : (y.eval r).2 = 0
        · simp only [if_pos hx, if_pos hy]
          obtain ⟨t1, t2⟩ := test_opp hc (x.eval r).1 (y.eval r).1
          have e1 : ∀ o, cmpB o = true → eN r o 0 VL.null [(x.eval r).1, (y.eval r).1] = VL.test VL.cmp19 o (x.eval r).1 (y.eval r).1 := fun o ho => by
            have := cmp_rng ho
            unfold eN
            rw [if_neg (by omega), if_neg (by omega), if_neg (by omega), if_neg (by omega), if_neg (by omega), if_neg (by omega), if_pos ho]
            rfl
          rw [e1 _ hc, e1 _ (opp_cmp hc)]
          split
          · rename_i hz
            simp only [eN]
            simp
            exact (t2 hz).symm
          · rename_i hz
            rw [← t1] at hz
            rw [← t1]
            have : (VL.test VL.cmp19 (opp o) (x.eval r).1 (y.eval r).1).1 = VL.null := by
              unfold VL.test at hz ⊢
              (repeat' split) <;> (try rfl)
              exfalso; simp_all
            rw [← this]
        · simp [if_pos hx, if_neg hy, hy]
      · simp [if_neg hx, hx]
    · rfl
theorem simpU_eval {ks : List Int} {r : List VL} (ho : OfR ks r) {op : Int} {a : T} (hop : op = 14 ∨ op = 15) (hw : a.wf) (h : ((T.un op a).kind ks).2 = 0) : (simpU op a).eval r = (T.un op a).eval r := by
  unfold simpU
  split
  · rename_i hh
    obtain ⟨v, rfl⟩ := val_of hh.1
    rw [un_closed (r := r) hop]
    exact (pair_eta hh.2).symm
  split
  · rename_i hoo; subst hoo; exact negT_eval ho hw h
  · rfl
theorem isC_eval {r : List VL} {t : T} {v : VL} (h : t.isC v = true) : t.eval r = (v, 0) := by rw [isC_of h]; rfl
theorem ariR_in {op a b n : Int} (h : ari op a b = n) (h1 : -549755813888 ≤ n) (h2 : n ≤ 549755813887) : ariR op a b = (n, 0) := by
  unfold ariR
  rw [if_neg (by omega), h]
theorem eN_ari {r : List VL} {op : Int} {v u w : VL} (hop : op = 3 ∨ op = 4 ∨ op = 5) (hv : v.Right) (hu : u.Right) (hk : (v.k = 1 ∨ v.k = 0) ∧ (u.k = 1 ∨ u.k = 0)) (hw : w = VL.null ∨ w.k = 1 ∧ w = ⟨1, w.n, ⟨#[]⟩⟩ ∧ -549755813888 ≤ w.n ∧ w.n ≤ 549755813887) (h0 : w.k = 0 → v.k = 0 ∨ u.k = 0) (h1 : w.k = 1 → v.k = 1 ∧ u.k = 1 ∧ ari op v.n u.n = w.n) : eN r op 0 VL.null [v, u] = (w, 0) := by
  have hcm : ¬ cmpB op = true := by simp only [cmpB, decide_eq_true_eq]; omega
  unfold eN
  rw [if_neg (by omega), if_neg (by omega), if_neg (by omega), if_neg (by omega), if_neg (by omega), if_neg (by omega), if_neg hcm]
  simp only [List.getD_cons_zero, List.getD_cons_succ]
  rcases hw with rfl | ⟨w1, w2, w3, w4⟩
  · rw [if_pos (h0 rfl)]
  · obtain ⟨a1, a2, a3⟩ := h1 w1
    rw [if_neg (by omega), ariR_in a3 w3 w4, if_pos rfl]
    exact Prod.ext w2.symm rfl
end Go.Proofs.Try

namespace Go.Proofs.Try
open Go.Al
set_option linter.unusedVariables false
set_option linter.unusedSimpArgs false
set_option maxRecDepth 20000
set_option maxHeartbeats 8000000

theorem eN_and {r : List VL} {op : Int} (hop : op = 12 ∨ op = 13) (v u : VL) : eN r op 0 VL.null [v, u] = VL.dec (decide (op = 13)) v u := by
  rcases hop with rfl | rfl <;> simp [eN]
theorem eN_cmp {r : List VL} {op : Int} (hc : cmpB op = true) (v u : VL) : eN r op 0 VL.null [v, u] = VL.test VL.cmp19 op v u := by
  have := cmp_rng hc
  unfold eN
  rw [if_neg (by omega), if_neg (by omega), if_neg (by omega), if_neg (by omega), if_neg (by omega), if_neg (by omega), if_pos hc]
  rfl
theorem ari_zero {n : Int} : ari 3 n 0 = n ∧ ari 4 n 0 = n ∧ ari 5 n 1 = n ∧ ari 3 0 n = n ∧ ari 5 1 n = n := by simp [ari]
theorem zeroV_right : zeroV.Right := by simp [VL.Right, zeroV]
theorem oneV_right : oneV.Right := by simp [VL.Right, oneV]
theorem restB_eval {ks : List Int} {r : List VL} (ho : OfR ks r) {op : Int} {a b : T} (hop : 3 ≤ op ∧ op ≤ 13) (hw : a.wf) (hw2 : b.wf) (h : ((T.bin op a b).kind ks).2 = 0) : (restB op a b).eval r = (T.bin op a b).eval r := by
  obtain ⟨h1, h2, h3⟩ := (kind_bin hop).1 h
  have ta := eval_typed ho hw h1
  have tb := eval_typed ho hw2 h2
  rw [bin_eval]
  unfold restB
  by_cases hl : op = 12 ∨ op = 13
  · obtain ⟨l1, l2⟩ := h3.2.2 hl
    rw [if_pos hl]
    have neu : ∀ v : VL, v = VL.ofB (decide (op = 12)) → v = VL.ofB (!decide (op = 13)) := fun v hv => by rw [hv]; rcases hl with rfl | rfl <;> rfl
    have fa : (a.eval r).2 = 0 → (a.eval r).1 = VL.null ∨ ∃ b, (a.eval r).1 = VL.ofB b := fun he => by
      rcases ta with ⟨e1, e2, e3⟩ | ⟨e1, e2⟩
      · exact bool_cases e2 (by omega)
      · rw [e1] at he; simp at he
    have fb : (b.eval r).2 = 0 → (b.eval r).1 = VL.null ∨ ∃ c, (b.eval r).1 = VL.ofB c := fun he => by
      rcases tb with ⟨e1, e2, e3⟩ | ⟨e1, e2⟩
      · exact bool_cases e2 (by omega)
      · rw [e1] at he; simp at he
    have nf : ∀ {t : T}, t.fails = false → (((t.eval r).2 = 0 ∧ (t.eval r).1.Right ∧ ((t.eval r).1.k = (t.kind ks).1 ∨ (t.eval r).1.k = 0)) ∨ (t.eval r = (VL.null, 360) ∧ t.fails = true)) → (t.eval r).2 = 0 := fun hf ht => by
      rcases ht with ⟨e1, _⟩ | ⟨_, e2⟩
      · exact e1
      · rw [hf] at e2; cases e2
    simp only [eN_and hl]
    split
    · rename_i hc
      rw [isC_eval hc, neu _ rfl]
      simp only [if_true]
      rcases tb with ⟨e1, e2, e3⟩ | ⟨e1, e2⟩
      · rw [if_pos e1, (dec_facts (s := decide (op = 13)) (fb e1)).1]; exact pair_eta e1
      · rw [e1]; rfl
    split
    · rename_i hc
      rw [isC_eval (t := b) hc, neu _ rfl]
      simp only [if_true]
      rcases ta with ⟨e1, e2, e3⟩ | ⟨e1, e2⟩
      · rw [if_pos e1, (dec_facts (s := decide (op = 13)) (fa e1)).2.1]; exact pair_eta e1
      · rw [e1]; rfl
    split
    · rename_i hc
      have := nf hc.2 tb
      rw [isC_eval hc.1]
      simp only [if_true]
      rw [if_pos this, (dec_facts (s := decide (op = 13)) (fb this)).2.2.1]
    split
    · rename_i hc
      have := nf hc.2 ta
      rw [isC_eval (t := b) hc.1]
      simp only [if_true]
      rw [if_pos this, (dec_facts (s := decide (op = 13)) (fa this)).2.2.2]
    · rw [bin_eval]; simp only [eN_and hl]
  · rw [if_neg hl]
    by_cases hc : cmpB op = true
    · have hr := cmp_rng hc
      by_cases hv : a.isVal = true
      · rw [if_pos ⟨hc, hv⟩, bin_eval]
        obtain ⟨v, rfl⟩ := val_of hv
        have hae : (T.val v).eval r = (v, 0) := rfl
        rw [hae]
        simp only [if_true]
        rcases tb with ⟨e1, e2, e3⟩ | ⟨e1, e2⟩
        · rw [if_pos e1, if_pos e1, eN_cmp hc, eN_cmp (trn_cmp hc)]
          have hvr : v.Right := by
            rcases ta with ⟨_, f2, _⟩ | ⟨f1, _⟩
            · exact f2
            · rw [hae] at f1; simp at f1
          exact test_trn hc hvr e2
        · rw [e1]; rfl
      · rw [if_neg (fun h => hv h.2), if_neg (by omega), if_neg (by omega), bin_eval]
    · have hb : ariB op = true := by simp only [cmpB, ariB, decide_eq_true_eq] at hc ⊢; omega
      obtain ⟨l1, l2⟩ := h3.1 hb
      have hb3 : 3 ≤ op ∧ op ≤ 5 := by simpa [ariB] using hb
      rw [if_neg (fun h => hc h.1)]
      split
      · rename_i hz
        have hbe : ∃ w : VL, b.eval r = (w, 0) ∧ w.Right ∧ w.k = 1 ∧ ∀ n, ari op n w.n = n := by
          rcases hz with ⟨hz1, hz2⟩ | ⟨hz1, hz2⟩
          · exact ⟨zeroV, isC_eval hz2, zeroV_right, rfl, fun n => by rcases hz1 with rfl | rfl; exact ari_zero.1; exact ari_zero.2.1⟩
          · exact ⟨oneV, isC_eval hz2, oneV_right, rfl, fun n => by rw [hz1]; exact ari_zero.2.2.1⟩
        obtain ⟨w, hbe, hwr, hwk, hwn⟩ := hbe
        rw [hbe]
        simp only [if_true]
        rcases ta with ⟨e1, e2, e3⟩ | ⟨e1, e2⟩
        · rw [if_pos e1, eN_ari (w := (a.eval r).1) (by omega) e2 hwr ⟨by omega, by omega⟩ (int_cases e2 (by omega)) (fun h => .inl h) (fun h => ⟨h, hwk, hwn _⟩)]
          exact pair_eta e1
        · rw [e1]; rfl
      split
      · rename_i hz
        have hae : ∃ w : VL, a.eval r = (w, 0) ∧ w.Right ∧ w.k = 1 ∧ ∀ n, ari op w.n n = n := by
          rcases hz with ⟨hz1, hz2⟩ | ⟨hz1, hz2⟩
          · exact ⟨zeroV, isC_eval hz2, zeroV_right, rfl, fun n => by rw [hz1]; exact ari_zero.2.2.2.1⟩
          · exact ⟨oneV, isC_eval hz2, oneV_right, rfl, fun n => by rw [hz1]; exact ari_zero.2.2.2.2⟩
        obtain ⟨w, hae, hwr, hwk, hwn⟩ := hae
        rw [hae]
        simp only [if_true]
        rcases tb with ⟨e1, e2, e3⟩ | ⟨e1, e2⟩
        · rw [if_pos e1, eN_ari (w := (b.eval r).1) (by omega) hwr e2 ⟨by omega, by omega⟩ (int_cases e2 (by omega)) (fun h => .inr h) (fun h => ⟨hwk, h, hwn _⟩)]
          exact pair_eta e1
        · rw [e1]; rfl
      · rw [bin_eval]
theorem simpB_eval {ks : List Int} {r : List VL} (ho : OfR ks r) {op : Int} {a b : T} (hop : 3 ≤ op ∧ op ≤ 13) (hw : a.wf) (hw2 : b.wf) (h : ((T.bin op a b).kind ks).2 = 0) : (simpB op a b).eval r = (T.bin op a b).eval r := by
  unfold simpB
  split
  · rename_i hh
    obtain ⟨v, rfl⟩ := val_of hh.1
    obtain ⟨u, rfl⟩ := val_of hh.2
    split
    · rename_i he
      rw [bin_closed (r := r) hop]
      exact (pair_eta he).symm
    · rfl
  · exact restB_eval ho hop hw hw2 h
/-- Simplify keeps the value. -/
theorem simp_eval {ks : List Int} {r : List VL} (ho : OfR ks r) : ∀ t : T, t.wf → (t.kind ks).2 = 0 → t.simp.eval r = t.eval r
  | .col n, hw, h => rfl
  | .val v, hw, h => rfl
  | .un op a, hw, h => by
    obtain ⟨h1, h2⟩ := (kind_un hw.1).1 h
    obtain ⟨i1, i2, i3⟩ := simp_sub a hw.2 h1
    have hk : ((T.un op a.simp).kind ks).2 = 0 := (kind_un hw.1).2 ⟨i2, fun ho => by have := h2 ho; omega⟩
    rw [T.simp, simpU_eval ho hw.1 i1 hk, un_eval, un_eval, simp_eval ho a hw.2 h1]
  | .bin op a b, hw, h => by
    obtain ⟨h1, h2, h3⟩ := (kind_bin hw.1).1 h
    obtain ⟨i1, i2, i3⟩ := simp_sub a hw.2.1 h1
    obtain ⟨g1, g2, g3⟩ := simp_sub b hw.2.2 h2
    have hk : ((T.bin op a.simp b.simp).kind ks).2 = 0 := (kind_bin hw.1).2 ⟨i2, g2, okB_sub h3 i3 g3⟩
    rw [T.simp, simpB_eval ho hw.1 i1 g1 hk, bin_eval, bin_eval, simp_eval ho a hw.2.1 h1, simp_eval ho b hw.2.2 h2]
/-- Two constants: what both texts do with them. -/
theorem simpR_eq {ks : List Int} {op : Int} {a b : T} (hop : 3 ≤ op ∧ op ≤ 13) (hw : a.wf) (hw2 : b.wf) (h : ((T.bin op a b).kind ks).2 = 0) : simpR op a b = simpB op a b := by
  unfold simpR simpB
  by_cases hv : a.isVal = true ∧ b.isVal = true
  · rw [if_pos hv]
    by_cases he : ((T.bin op a b).eval []).2 = 0
    · rw [if_pos ⟨hv, he⟩, if_pos he]
    · rw [if_neg (fun h => he h.2), if_neg he]
      obtain ⟨v, rfl⟩ := val_of hv.1
      obtain ⟨u, rfl⟩ := val_of hv.2
      rw [bin_ks hop] at h
      have hre := restB_eval ofR_nil hop hw hw2 h
      rcases eval_kind ofR_nil (.bin op (.val v) (.val u)) ⟨hop, hw, hw2⟩ h with ⟨h1, _⟩ | ⟨h1, _, h3⟩
      · exact absurd h1 he
      · have hb : ariB op = true := by simpa [T.fails] using h3
        have hb3 : 3 ≤ op ∧ op ≤ 5 := by simpa [ariB] using hb
        have hc : ¬ cmpB op = true := by simp only [cmpB, decide_eq_true_eq]; omega
        rw [← hre] at he
        unfold restB at he ⊢
        rw [if_neg (by omega), if_neg (fun h => hc h.1)] at he ⊢
        split at he
        · exact absurd rfl he
        · rename_i hz
          rw [if_neg hz]
          split at he
          · exact absurd rfl he
          · rename_i hz2
            rw [if_neg hz2]
  · rw [if_neg hv, if_neg (fun h => hv h.1)]
theorem simp_eq {ks : List Int} : ∀ t : T, t.wf → (t.kind ks).2 = 0 → t.simR = t.simp
  | .col n, hw, h => rfl
  | .val v, hw, h => rfl
  | .un op a, hw, h => by
    obtain ⟨h1, h2⟩ := (kind_un hw.1).1 h
    rw [T.simR, T.simp, simp_eq a hw.2 h1]
  | .bin op a b, hw, h => by
    obtain ⟨h1, h2, h3⟩ := (kind_bin hw.1).1 h
    obtain ⟨i1, i2, i3⟩ := simp_sub a hw.2.1 h1
    obtain ⟨g1, g2, g3⟩ := simp_sub b hw.2.2 h2
    have hk : ((T.bin op a.simp b.simp).kind ks).2 = 0 := (kind_bin hw.1).2 ⟨i2, g2, okB_sub h3 i3 g3⟩
    rw [T.simR, T.simp, simp_eq a hw.2.1 h1, simp_eq b hw.2.2 h2, simpR_eq hw.1 i1 g1 hk]
end Go.Proofs.Try

namespace Go.Proofs.Try
open Go.Al
set_option linter.unusedVariables false
set_option linter.unusedSimpArgs false
set_option maxRecDepth 20000
set_option maxHeartbeats 8000000

/-! ### not larger -/
theorem negT_size (op : Int) (a : T) : (negT op a).size ≤ 1 + a.size := by
  cases a with
  | un o x => simp only [negT]; split <;> simp only [T.size] <;> omega
  | bin o x y => simp only [negT]; split <;> simp only [T.size] <;> omega
  | _ => simp only [negT, T.size]; omega
theorem simpU_size (op : Int) (a : T) : (simpU op a).size ≤ 1 + a.size := by
  unfold simpU
  split
  · simp only [T.size]; omega
  split
  · exact negT_size op a
  · simp only [T.size]; omega
theorem restB_size (op : Int) (a b : T) : (restB op a b).size ≤ 1 + a.size + b.size := by
  unfold restB
  (repeat' split) <;> (try simp only [T.size]) <;> omega
theorem simpB_size (op : Int) (a b : T) : (simpB op a b).size ≤ 1 + a.size + b.size := by
  unfold simpB
  split
  · split <;> simp only [T.size] <;> omega
  · exact restB_size op a b
theorem simp_size : ∀ t : T, t.simp.size ≤ t.size
  | .col n => Nat.le_refl _
  | .val v => Nat.le_refl _
  | .un op a => by have := simpU_size op a.simp; have := simp_size a; simp only [T.simp, T.size]; omega
  | .bin op a b => by have := simpB_size op a.simp b.simp; have := simp_size a; have := simp_size b; simp only [T.simp, T.size]; omega

/-! ### not simplified further -/
def T.nf : T → Prop
  | .col _ => True
  | .val _ => True
  | .un op a => a.nf ∧ simpU op a = .un op a
  | .bin op a b => a.nf ∧ b.nf ∧ simpB op a b = .bin op a b
theorem nf_simp : ∀ t : T, t.nf → t.simp = t
  | .col n, _ => rfl
  | .val v, _ => rfl
  | .un op a, h => by rw [T.simp, nf_simp a h.1]; exact h.2
  | .bin op a b, h => by rw [T.simp, nf_simp a h.1, nf_simp b h.2.1]; exact h.2.2
theorem cmp_eval {r : List VL} {op : Int} (hc : cmpB op = true) (v u : VL) : (T.bin op (.val v) (.val u)).eval r = VL.test VL.cmp19 op v u := by
  rw [bin_eval]
  show (if (0 : Int) = 0 then (if (0 : Int) = 0 then eN r op 0 VL.null [v, u] else _) else _) = _
  simp only [if_true]
  exact eN_cmp hc v u
theorem simpB_opp {o : Int} (hc : cmpB o = true) {x y : T} (h : simpB o x y = .bin o x y) : simpB (opp o) x y = .bin (opp o) x y := by
  have hr := cmp_rng hc
  have hr2 := cmp_rng (opp_cmp hc)
  unfold simpB at h ⊢
  by_cases hv : x.isVal = true ∧ y.isVal = true
  · rw [if_pos hv] at h ⊢
    obtain ⟨v, rfl⟩ := val_of hv.1
    obtain ⟨u, rfl⟩ := val_of hv.2
    rw [cmp_eval hc] at h
    rw [cmp_eval (opp_cmp hc), (test_opp hc v u).1]
    split at h
    · cases h
    · rename_i he; rw [if_neg he]
  · rw [if_neg hv] at h ⊢
    unfold restB at h ⊢
    rw [if_neg (by omega)] at h ⊢
    by_cases hx : x.isVal = true
    · rw [if_pos ⟨hc, hx⟩] at h
      injection h with h1 h2 h3
      subst h2
      exact absurd ⟨hx, hx⟩ hv
    · rw [if_neg (fun h => hx h.2), if_neg (by omega), if_neg (by omega)]
theorem negT_nf {a : T} (ha : a.nf) (h : simpU 14 a = negT 14 a) : (negT 14 a).nf := by
  cases a with
  | col n => exact ⟨ha, h⟩
  | val v => exact ⟨ha, h⟩
  | un o x =>
    simp only [negT] at h ⊢
    split
    · exact ha.1
    · rename_i ho; rw [if_neg ho] at h; exact ⟨ha, h⟩
  | bin o x y =>
    simp only [negT] at h ⊢
    split
    · rename_i hc; exact ⟨ha.1, ha.2.1, simpB_opp hc ha.2.2⟩
    · rename_i hc; rw [if_neg hc] at h; exact ⟨ha, h⟩
theorem simpU_nf {op : Int} {a : T} (ha : a.nf) : (simpU op a).nf := by
  by_cases hv : a.isVal = true ∧ ((T.un op a).eval []).2 = 0
  · unfold simpU; rw [if_pos hv]; trivial
  · by_cases ho : op = 14
    · subst ho
      have h : simpU 14 a = negT 14 a := by unfold simpU; rw [if_neg hv, if_pos rfl]
      rw [h]; exact negT_nf ha h
    · have h : simpU op a = .un op a := by unfold simpU; rw [if_neg hv, if_neg ho]
      rw [h]; exact ⟨ha, h⟩
theorem simpB_nf {op : Int} {a b : T} (ha : a.nf) (hb : b.nf) : (simpB op a b).nf := by
  have hd : simpB op a b = .bin op a b → (T.bin op a b).nf := fun h => ⟨ha, hb, h⟩
  by_cases hv : a.isVal = true ∧ b.isVal = true
  · by_cases he : ((T.bin op a b).eval []).2 = 0
    · unfold simpB; rw [if_pos hv, if_pos he]; trivial
    · have h : simpB op a b = .bin op a b := by unfold simpB; rw [if_pos hv, if_neg he]
      rw [h]; exact hd h
  · have h : simpB op a b = restB op a b := by unfold simpB; rw [if_neg hv]
    rw [h] at hd ⊢
    unfold restB at hd ⊢
    by_cases hl : op = 12 ∨ op = 13
    · rw [if_pos hl] at hd ⊢
      (repeat' split) <;> first | exact ha | exact hb | (rename_i h1 h2 h3 h4; rw [if_neg h1, if_neg h2, if_neg h3, if_neg h4] at hd; exact hd rfl)
    · rw [if_neg hl] at hd ⊢
      by_cases hc : cmpB op = true ∧ a.isVal = true
      · rw [if_pos hc]
        have hr := cmp_rng (trn_cmp hc.1)
        refine ⟨hb, ha, ?_⟩
        unfold simpB
        rw [if_neg (fun h => hv ⟨h.2, h.1⟩)]
        unfold restB
        rw [if_neg (by omega), if_neg (fun h => hv ⟨hc.2, h.2⟩), if_neg (by omega), if_neg (by omega)]
      · rw [if_neg hc] at hd ⊢
        (repeat' split) <;> first | exact ha | exact hb | (rename_i h1 h2; rw [if_neg h1, if_neg h2] at hd; exact hd rfl)
theorem simp_nf : ∀ t : T, t.simp.nf
  | .col n => trivial
  | .val v => trivial
  | .un op a => simpU_nf (simp_nf a)
  | .bin op a b => simpB_nf (simp_nf a) (simp_nf b)

/-! ### conjuncts, and all of them -/
def sizes : List T → Nat
  | [] => 0
  | t :: l => 1 + t.size + sizes l
theorem sizes_app (l m : List T) : sizes (l ++ m) = sizes l + sizes m := by
  induction l with
  | nil => simp [sizes]
  | cons x l ih => simp only [List.cons_append, sizes, ih]; omega
theorem conj_sizes : ∀ t : T, sizes t.conj = 1 + t.size
  | .col n => rfl
  | .val v => rfl
  | .un op a => rfl
  | .bin op a b => by
    unfold T.conj
    split
    · rw [sizes_app, conj_sizes a, conj_sizes b]; simp only [T.size]; omega
    · rfl
theorem fold_size : ∀ (l : List T) (a : T), (l.foldl (fun o y => T.bin 12 o y) a).size = a.size + sizes l
  | [], a => rfl
  | x :: l, a => by rw [List.foldl_cons, fold_size l]; simp only [T.size, sizes]; omega
theorem conj_ne : ∀ t : T, t.conj ≠ []
  | .col n => by simp [T.conj]
  | .val v => by simp [T.conj]
  | .un op a => by simp [T.conj]
  | .bin op a b => by
    unfold T.conj
    split
    · have := conj_ne a; simp [this]
    · simp
theorem all_size (t : T) : (T.allT t.conj).size = t.size := by
  have h := conj_sizes t
  cases hc : t.conj with
  | nil => exact absurd hc (conj_ne t)
  | cons x l =>
    rw [hc] at h
    simp only [T.allT, fold_size, sizes] at h ⊢
    omega
/-- A tree of truth values. -/
def BT (ks : List Int) (t : T) : Prop := t.wf ∧ (t.kind ks).2 = 0 ∧ ((t.kind ks).1 = 3 ∨ (t.kind ks).1 = 0)
theorem bt_and {ks : List Int} {a b : T} : BT ks (.bin 12 a b) ↔ BT ks a ∧ BT ks b := by
  have hb : ¬ ariB 12 = true := by decide
  have hc : ¬ cmpB 12 = true := by decide
  constructor
  · rintro ⟨h1, h2, h3⟩
    obtain ⟨k1, k2, k3⟩ := (kind_bin h1.1).1 h2
    obtain ⟨m1, m2⟩ := k3.2.2 (.inl rfl)
    exact ⟨⟨h1.2.1, k1, m1⟩, h1.2.2, k2, m2⟩
  · rintro ⟨⟨h1, h2, h3⟩, k1, k2, k3⟩
    have hk : ((T.bin 12 a b).kind ks).2 = 0 := (kind_bin (by omega)).2 ⟨h2, k2, fun h => absurd h hb, fun h => absurd h hc, fun _ => ⟨h3, k3⟩⟩
    refine ⟨⟨by omega, h1, k1⟩, hk, ?_⟩
    rw [kind_bin1 (by omega) hk, if_neg hb]
    exact .inl rfl
theorem conj_bt {ks : List Int} : ∀ t : T, BT ks t → ∀ x ∈ t.conj, BT ks x
  | .col n, h, x, hx => by simp [T.conj] at hx; subst hx; exact h
  | .val v, h, x, hx => by simp [T.conj] at hx; subst hx; exact h
  | .un op a, h, x, hx => by simp [T.conj] at hx; subst hx; exact h
  | .bin op a b, h, x, hx => by
    unfold T.conj at hx
    split at hx
    · rename_i ho
      subst ho
      obtain ⟨ha, hb⟩ := bt_and.1 h
      rcases List.mem_append.1 hx with hx | hx
      · exact conj_bt a ha x hx
      · exact conj_bt b hb x hx
    · simp at hx; subst hx; exact h
theorem fold_bt {ks : List Int} : ∀ (l : List T) (a : T), BT ks a → (∀ x ∈ l, BT ks x) → BT ks (l.foldl (fun o y => T.bin 12 o y) a)
  | [], a, ha, _ => ha
  | x :: l, a, ha, h => fold_bt l (.bin 12 a x) (bt_and.2 ⟨ha, h x (by simp)⟩) (fun y hy => h y (by simp [hy]))
theorem all_bt {ks : List Int} {t : T} (h : BT ks t) : BT ks (T.allT t.conj) := by
  have hc := conj_bt t h
  cases he : t.conj with
  | nil => exact absurd he (conj_ne t)
  | cons x l =>
    rw [he] at hc
    exact fold_bt l x (hc x (by simp)) (fun y hy => hc y (by simp [hy]))
def andE (p q : VL × Int) : VL × Int := if p.2 = 0 then (if q.2 = 0 then VL.dec false p.1 q.1 else (VL.null, q.2)) else (VL.null, p.2)
def goodE (p : VL × Int) : Prop := p = (VL.null, 0) ∨ (∃ b, p = (VL.ofB b, 0)) ∨ p = (VL.null, 360)
theorem and_eval {r : List VL} {a b : T} : (T.bin 12 a b).eval r = andE (a.eval r) (b.eval r) := by
  rw [bin_eval]
  simp only [eN_and (.inl rfl)]
  rfl
theorem bt_good {ks : List Int} {r : List VL} (ho : OfR ks r) {t : T} (h : BT ks t) : goodE (t.eval r) := by
  rcases eval_typed ho h.1 h.2.1 with ⟨h1, h2, h3⟩ | ⟨h1, _⟩
  · rcases bool_cases h2 (by have := h.2.2; omega) with h4 | ⟨b, h4⟩
    · exact .inl (Prod.ext h4 h1)
    · exact .inr (.inl ⟨b, Prod.ext h4 h1⟩)
  · exact .inr (.inr h1)
theorem decF_bb (a b : Bool) : VL.dec false (VL.ofB a) (VL.ofB b) = (VL.ofB (a && b), 0) := by cases a <;> cases b <;> simp [VL.dec, ofB_log, ofB_is, ofB_k0]
theorem decF_nb (b : Bool) : VL.dec false VL.null (VL.ofB b) = (if b then VL.null else VL.ofB false, 0) := by cases b <;> simp [VL.dec, ofB_log, ofB_is, ofB_k0, null_log, null_is, null_k]
theorem decF_bn (b : Bool) : VL.dec false (VL.ofB b) VL.null = (if b then VL.null else VL.ofB false, 0) := by cases b <;> simp [VL.dec, ofB_log, ofB_is, ofB_k0, null_log, null_is, null_k]
theorem decF_nn : VL.dec false VL.null VL.null = (VL.null, 0) := by simp [VL.dec, null_log, null_is, null_k]
theorem andE_good {p q : VL × Int} (hp : goodE p) (hq : goodE q) : goodE (andE p q) := by
  rcases hp with rfl | ⟨a, rfl⟩ | rfl <;> rcases hq with rfl | ⟨b, rfl⟩ | rfl <;> simp only [andE, decF_bb, decF_nb, decF_bn, decF_nn, if_true] <;> try (first | exact .inl rfl | exact .inr (.inr rfl) | exact .inr (.inl ⟨_, rfl⟩))
  · cases b
    · exact .inr (.inl ⟨_, rfl⟩)
    · exact .inl rfl
  · cases a
    · exact .inr (.inl ⟨_, rfl⟩)
    · exact .inl rfl
theorem e360 : ¬ (360 : Int) = 0 := by omega
theorem andE_assoc {p q s : VL × Int} (hp : goodE p) (hq : goodE q) (hs : goodE s) : andE (andE p q) s = andE p (andE q s) := by
  rcases hp with rfl | ⟨a, rfl⟩ | rfl <;> rcases hq with rfl | ⟨b, rfl⟩ | rfl <;> rcases hs with rfl | ⟨c, rfl⟩ | rfl <;>
    (try cases a) <;> (try cases b) <;> (try cases c) <;> simp [andE, decF_bb, decF_nb, decF_bn, decF_nn, e360]
theorem andE_one {p : VL × Int} (hp : goodE p) : andE (VL.ofB true, 0) p = p := by
  rcases hp with rfl | ⟨a, rfl⟩ | rfl
  · simp [andE, decF_bn]
  · simp [andE, decF_bb]
  · simp [andE, e360]
theorem fold_conj {ks : List Int} {r : List VL} (ho : OfR ks r) : ∀ t : T, BT ks t → ∀ p, goodE p → t.conj.foldl (fun p y => andE p (y.eval r)) p = andE p (t.eval r)
  | .col n, _, p, _ => rfl
  | .val v, _, p, _ => rfl
  | .un op a, _, p, _ => rfl
  | .bin op a b, h, p, hp => by
    unfold T.conj
    split
    · rename_i hoo
      subst hoo
      obtain ⟨ha, hb⟩ := bt_and.1 h
      rw [List.foldl_append, fold_conj ho a ha p hp, fold_conj ho b hb _ (andE_good hp (bt_good ho ha)), and_eval, andE_assoc hp (bt_good ho ha) (bt_good ho hb)]
    · rfl
theorem fold_eval {r : List VL} : ∀ (l : List T) (a : T), (l.foldl (fun o y => T.bin 12 o y) a).eval r = l.foldl (fun p y => andE p (y.eval r)) (a.eval r)
  | [], a => rfl
  | x :: l, a => by rw [List.foldl_cons, fold_eval l, and_eval, List.foldl_cons]
theorem bt_one {ks : List Int} {t : T} (hw : t.wf) (h : (t.kind ks).2 = 0) (ho : t.ex.op = 12) : BT ks t := by
  cases t with
  | col n => simp [T.ex, EX.op] at ho
  | val v => simp [T.ex, EX.op] at ho
  | un op a => have := hw.1; simp only [T.ex, EX.op] at ho; omega
  | bin op a b =>
    have ho : op = 12 := ho
    subst ho
    refine ⟨hw, h, .inl ?_⟩
    rw [kind_bin1 hw.1 h, if_neg (by decide)]
/-- All of the conjuncts: what it was. -/
theorem all_keeps {ks : List Int} {r : List VL} (ho : OfR ks r) {t : T} (hw : t.wf) (h : (t.kind ks).2 = 0) : (T.allT t.conj).wf ∧ ((T.allT t.conj).kind ks).2 = 0 ∧ (T.allT t.conj).eval r = t.eval r := by
  by_cases hop : t.ex.op = 12
  · have hb := bt_one hw h hop
    have ha := all_bt hb
    refine ⟨ha.1, ha.2.1, ?_⟩
    have hf := fold_conj ho t hb (VL.ofB true, 0) (.inr (.inl ⟨true, rfl⟩))
    have hcb := conj_bt t hb
    rw [andE_one (bt_good ho hb)] at hf
    cases hc : t.conj with
    | nil => exact absurd hc (conj_ne t)
    | cons x l =>
      rw [hc] at hf hcb
      rw [List.foldl_cons, andE_one (bt_good ho (hcb x (by simp)))] at hf
      rw [← hf]
      exact fold_eval l x
  · rw [conj_one hop]
    exact ⟨hw, h, rfl⟩
/-- A list that is handed back, only to be read. -/
theorem lendT {P : Program} {f : FuncId} {args : List AV} {l : List T} {n : Nat} (hn : n = l.length) (h : ACalls P f args [] (fun r H => r = .slc 0 6 n ∧ H = [.arr 27 6 (l.map avT)])) : ACalls P f args [] (fun r H => r = .view 6 (l.map avT) ∧ H = []) :=
  ACalls.keep (h.mono fun r H ⟨h1, h2⟩ => by
    subst h1 h2 hn
    refine keep_i [] true rfl (by simp) rfl ?_
    simp only [lP, seval, vw_Ts, List.length_map, List.take_length])
theorem wrap_small {n : Nat} (h : n ≤ 1048576) : IntKind.i64.wrap (n : Int) = n := wrap_i64 (by omega) (by omega)
end Go.Proofs.Try
