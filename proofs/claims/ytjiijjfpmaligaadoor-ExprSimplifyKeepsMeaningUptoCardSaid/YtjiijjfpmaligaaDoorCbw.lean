/-
  A part of the proof: see the text of the law.
-/
import Derived.Test.YtjiijjfpmaligaaDoorCbv
import Derived.Test.YtjiijjfpmaligaaDoorCar
set_option linter.unusedSimpArgs false
set_option linter.unusedVariables false
namespace Go.Proofs.Try
open Go.Al
set_option linter.unusedVariables false
set_option linter.unusedSimpArgs false
set_option maxRecDepth 20000
set_option maxHeartbeats 8000000

/-! ### not larger -/
theorem negT_size (op : Int) (a : T) : (negT op a).size ≤ 1 + a.size := by
  cases a with
  | un o x => simp only [negT]; split <;> simp only [T.size] <;> omega
  | bin o x y => simp only [negT]; split <;> simp only [T.size] <;> omega
  | _ => simp only [negT, T.size]; omega
theorem simpU_size (op : Int) (a : T) : (simpU op a).size ≤ 1 + a.size := by
  unfold simpU
  split
  · simp only [T.size]; omega
  split
  · exact negT_size op a
  · simp only [T.size]; omega
theorem restB_size (op : Int) (a b : T) : (restB op a b).size ≤ 1 + a.size + b.size := by
  unfold restB
  (repeat' split) <;> (try simp only [T.size]) <;> omega
theorem simpB_size (op : Int) (a b : T) : (simpB op a b).size ≤ 1 + a.size + b.size := by
  unfold simpB
  split
  · split <;> simp only [T.size] <;> omega
  · exact restB_size op a b
theorem simp_size : ∀ t : T, t.simp.size ≤ t.size
  | .col n => Nat.le_refl _
  | .val v => Nat.le_refl _
  | .un op a => by have := simpU_size op a.simp; have := simp_size a; simp only [T.simp, T.size]; omega
  | .bin op a b => by have := simpB_size op a.simp b.simp; have := simp_size a; have := simp_size b; simp only [T.simp, T.size]; omega

/-! ### not simplified further -/
def T.nf : T → Prop
  | .col _ => True
  | .val _ => True
  | .un op a => a.nf ∧ simpU op a = .un op a
  | .bin op a b => a.nf ∧ b.nf ∧ simpB op a b = .bin op a b
theorem nf_simp : ∀ t : T, t.nf → t.simp = t
  | .col n, _ => rfl
  | .val v, _ => rfl
  | .un op a, h => by rw [T.simp, nf_simp a h.1]; exact h.2
  | .bin op a b, h => by rw [T.simp, nf_simp a h.1, nf_simp b h.2.1]; exact h.2.2
theorem cmp_eval {r : List VL} {op : Int} (hc : cmpB op = true) (v u : VL) : (T.bin op (.val v) (.val u)).eval r = VL.test VL.cmp19 op v u := by
  rw [bin_eval]
  show (if (0 : Int) = 0 then (if (0 : Int) = 0 then eN r op 0 VL.null [v, u] else _) else _) = _
  simp only [if_true]
  exact eN_cmp hc v u
theorem simpB_opp {o : Int} (hc : cmpB o = true) {x y : T} (h : simpB o x y = .bin o x y) : simpB (opp o) x y = .bin (opp o) x y := by
  have hr := cmp_rng hc
  have hr2 := cmp_rng (opp_cmp hc)
  unfold simpB at h ⊢
  by_cases hv : x.isVal = true ∧ y.isVal = true
  · rw [if_pos hv] at h ⊢
    obtain ⟨v, rfl⟩ := val_of hv.1
    obtain ⟨u, rfl⟩ := val_of hv.2
    rw [cmp_eval hc] at h
    rw [cmp_eval (opp_cmp hc), (test_opp hc v u).1]
    split at h
    · cases h
    · rename_i he; rw [if_neg he]
  · rw [if_neg hv] at h ⊢
    unfold restB at h ⊢
    rw [if_neg (by omega)] at h ⊢
    by_cases hx : x.isVal = true
    · rw [if_pos ⟨hc, hx⟩] at h
      injection h with h1 h2 h3
      subst h2
      exact absurd ⟨hx, hx⟩ hv
    · rw [if_neg (fun h => hx h.2), if_neg (by omega), if_neg (by omega)]
theorem negT_nf {a : T} (ha : a.nf) (h : simpU 14 a = negT 14 a) : (negT 14 a).nf := by
  cases a with
  | col n => exact ⟨ha, h⟩
  | val v => exact ⟨ha, h⟩
  | un o x =>
    simp only [negT] at h ⊢
    split
    · exact ha.1
    · rename_i ho; rw [if_neg ho] at h; exact ⟨ha, h⟩
  | bin o x y =>
    simp only [negT] at h ⊢
    split
    · rename_i hc; exact ⟨ha.1, ha.2.1, simpB_opp hc ha.2.2⟩
    · rename_i hc; rw [if_neg hc] at h; exact ⟨ha, h⟩
theorem simpU_nf {op : Int} {a : T} (ha : a.nf) : (simpU op a).nf := by
  by_cases hv : a.isVal = true ∧ ((T.un op a).eval []).2 = 0
  · unfold simpU; rw [if_pos hv]; trivial
  · by_cases ho : op = 14
    · subst ho
      have h : simpU 14 a = negT 14 a := by unfold simpU; rw [if_neg hv, if_pos rfl]
      rw [h]; exact negT_nf ha h
    · have h : simpU op a = .un op a := by unfold simpU; rw [if_neg hv, if_neg ho]
      rw [h]; exact ⟨ha, h⟩
theorem simpB_nf {op : Int} {a b : T} (ha : a.nf) (hb : b.nf) : (simpB op a b).nf := by
  have hd : simpB op a b = .bin op a b → (T.bin op a b).nf := fun h => ⟨ha, hb, h⟩
  by_cases hv : a.isVal = true ∧ b.isVal = true
  · by_cases he : ((T.bin op a b).eval []).2 = 0
    · unfold simpB; rw [if_pos hv, if_pos he]; trivial
    · have h : simpB op a b = .bin op a b := by unfold simpB; rw [if_pos hv, if_neg he]
      rw [h]; exact hd h
  · have h : simpB op a b = restB op a b := by unfold simpB; rw [if_neg hv]
    rw [h] at hd ⊢
    unfold restB at hd ⊢
    by_cases hl : op = 12 ∨ op = 13
    · rw [if_pos hl] at hd ⊢
      (repeat' split) <;> first | exact ha | exact hb | (rename_i h1 h2 h3 h4; rw [if_neg h1, if_neg h2, if_neg h3, if_neg h4] at hd; exact hd rfl)
    · rw [if_neg hl] at hd ⊢
      by_cases hc : cmpB op = true ∧ a.isVal = true
      · rw [if_pos hc]
        have hr := cmp_rng (trn_cmp hc.1)
        refine ⟨hb, ha, ?_⟩
        unfold simpB
        rw [if_neg (fun h => hv ⟨h.2, h.1⟩)]
        unfold restB
        rw [if_neg (by omega), if_neg (fun h => hv ⟨hc.2, h.2⟩), if_neg (by omega), if_neg (by omega)]
      · rw [if_neg hc] at hd ⊢
        (repeat' split) <;> first | exact ha | exact hb | (rename_i h1 h2; rw [if_neg h1, if_neg h2] at hd; exact hd rfl)
theorem simp_nf : ∀ t : T, t.simp.nf
  | .col n => trivial
  | .val v => trivial
  | .un op a => simpU_nf (simp_nf a)
  | .bin op a b => simpB_nf (simp_nf a) (simp_nf b)

/-! ### conjuncts, and all of them -/
def sizes : List T → Nat
  | [] => 0
  | t :: l => 1 + t.size + sizes l
theorem sizes_app (l m : List T) : sizes (l ++ m) = sizes l + sizes m := by
  induction l with
  | nil => simp [sizes]
  | cons x l ih => simp only [List.cons_append, sizes, ih]; omega
theorem conj_sizes : ∀ t : T, sizes t.conj = 1 + t.size
  | .col n => rfl
  | .val v => rfl
  | .un op a => rfl
  | .bin op a b => by
    unfold T.conj
    split
    · rw [sizes_app, conj_sizes a, conj_sizes b]; simp only [T.size]; omega
    · rfl
theorem fold_size : ∀ (l : List T) (a : T), (l.foldl (fun o y => T.bin 12 o y) a).size = a.size + sizes l
  | [], a => rfl
  | x :: l, a => by rw [List.foldl_cons, fold_size l]; simp only [T.size, sizes]; omega
theorem conj_ne : ∀ t : T, t.conj ≠ []
  | .col n => by simp [T.conj]
  | .val v => by simp [T.conj]
  | .un op a => by simp [T.conj]
  | .bin op a b => by
    unfold T.conj
    split
    · have := conj_ne a; simp [this]
    · simp
theorem all_size (t : T) : (T.allT t.conj).size = t.size := by
  have h := conj_sizes t
  cases hc : t.conj with
  | nil => exact absurd hc (conj_ne t)
  | cons x l =>
    rw [hc] at h
    simp only [T.allT, fold_size, sizes] at h ⊢
    omega
/-- A tree of truth values. -/
def BT (ks : List Int) (t : T) : Prop := t.wf ∧ (t.kind ks).2 = 0 ∧ ((t.kind ks).1 = 3 ∨ (t.kind ks).1 = 0)
theorem bt_and {ks : List Int} {a b : T} : BT ks (.bin 12 a b) ↔ BT ks a ∧ BT ks b := by
  have hb : ¬ ariB 12 = true := by decide
  have hc : ¬ cmpB 12 = true := by decide
  constructor
  · rintro ⟨h1, h2, h3⟩
    obtain ⟨k1, k2, k3⟩ := (kind_bin h1.1).1 h2
    obtain ⟨m1, m2⟩ := k3.2.2 (.inl rfl)
    exact ⟨⟨h1.2.1, k1, m1⟩, h1.2.2, k2, m2⟩
  · rintro ⟨⟨h1, h2, h3⟩, k1, k2, k3⟩
    have hk : ((T.bin 12 a b).kind ks).2 = 0 := (kind_bin (by omega)).2 ⟨h2, k2, fun h => absurd h hb, fun h => absurd h hc, fun _ => ⟨h3, k3⟩⟩
    refine ⟨⟨by omega, h1, k1⟩, hk, ?_⟩
    rw [kind_bin1 (by omega) hk, if_neg hb]
    exact .inl rfl
theorem conj_bt {ks : List Int} : ∀ t : T, BT ks t → ∀ x ∈ t.conj, BT ks x
  | .col n, h, x, hx => by simp [T.conj] at hx; subst hx; exact h
  | .val v, h, x, hx => by simp [T.conj] at hx; subst hx; exact h
  | .un op a, h, x, hx => by simp [T.conj] at hx; subst hx; exact h
  | .bin op a b, h, x, hx => by
    unfold T.conj at hx
    split at hx
    · rename_i ho
      subst ho
      obtain ⟨ha, hb⟩ := bt_and.1 h
      rcases List.mem_append.1 hx with hx | hx
      · exact conj_bt a ha x hx
      · exact conj_bt b hb x hx
    · simp at hx; subst hx; exact h
theorem fold_bt {ks : List Int} : ∀ (l : List T) (a : T), BT ks a → (∀ x ∈ l, BT ks x) → BT ks (l.foldl (fun o y => T.bin 12 o y) a)
  | [], a, ha, _ => ha
  | x :: l, a, ha, h => fold_bt l (.bin 12 a x) (bt_and.2 ⟨ha, h x (by simp)⟩) (fun y hy => h y (by simp [hy]))
theorem all_bt {ks : List Int} {t : T} (h : BT ks t) : BT ks (T.allT t.conj) := by
  have hc := conj_bt t h
  cases he : t.conj with
  | nil => exact absurd he (conj_ne t)
  | cons x l =>
    rw [he] at hc
    exact fold_bt l x (hc x (by simp)) (fun y hy => hc y (by simp [hy]))
def andE (p q : VL × Int) : VL × Int := if p.2 = 0 then (if q.2 = 0 then VL.dec false p.1 q.1 else (VL.null, q.2)) else (VL.null, p.2)
def goodE (p : VL × Int) : Prop := p = (VL.null, 0) ∨ (∃ b, p = (VL.ofB b, 0)) ∨ p = (VL.null, 360)
theorem and_eval {r : List VL} {a b : T} : (T.bin 12 a b).eval r = andE (a.eval r) (b.eval r) := by
  rw [bin_eval]
  simp only [eN_and (.inl rfl)]
  rfl
theorem bt_good {ks : List Int} {r : List VL} (ho : OfR ks r) {t : T} (h : BT ks t) : goodE (t.eval r) := by
  rcases eval_typed ho h.1 h.2.1 with ⟨h1, h2, h3⟩ | ⟨h1, _⟩
  · rcases bool_cases h2 (by have := h.2.2; omega) with h4 | ⟨b, h4⟩
    · exact .inl (Prod.ext h4 h1)
    · exact .inr (.inl ⟨b, Prod.ext h4 h1⟩)
  · exact .inr (.inr h1)
theorem decF_bb (a b : Bool) : VL.dec false (VL.ofB a) (VL.ofB b) = (VL.ofB (a && b), 0) := by cases a <;> cases b <;> simp [VL.dec, ofB_log, ofB_is, ofB_k0]
theorem decF_nb (b : Bool) : VL.dec false VL.null (VL.ofB b) = (if b then VL.null else VL.ofB false, 0) := by cases b <;> simp [VL.dec, ofB_log, ofB_is, ofB_k0, null_log, null_is, null_k]
theorem decF_bn (b : Bool) : VL.dec false (VL.ofB b) VL.null = (if b then VL.null else VL.ofB false, 0) := by cases b <;> simp [VL.dec, ofB_log, ofB_is, ofB_k0, null_log, null_is, null_k]
theorem decF_nn : VL.dec false VL.null VL.null = (VL.null, 0) := by simp [VL.dec, null_log, null_is, null_k]
theorem andE_good {p q : VL × Int} (hp : goodE p) (hq : goodE q) : goodE (andE p q) := by
  rcases hp with rfl | ⟨a, rfl⟩ | rfl <;> rcases hq with rfl | ⟨b, rfl⟩ | rfl <;> simp only [andE, decF_bb, decF_nb, decF_bn, decF_nn, if_true] <;> try (first | exact .inl rfl | exact .inr (.inr rfl) | exact .inr (.inl ⟨_, rfl⟩))
  · cases b
    · exact .inr (.inl ⟨_, rfl⟩)
    · exact .inl rfl
  · cases a
    · exact .inr (.inl ⟨_, rfl⟩)
    · exact .inl rfl
theorem e360 : ¬ (360 : Int) = 0 := by omega
theorem andE_assoc {p q s : VL × Int} (hp : goodE p) (hq : goodE q) (hs : goodE s) : andE (andE p q) s = andE p (andE q s) := by
  rcases hp with rfl | ⟨a, rfl⟩ | rfl <;> rcases hq with rfl | ⟨b, rfl⟩ | rfl <;> rcases hs with rfl | ⟨c, rfl⟩ | rfl <;>
    (try cases a) <;> (try cases b) <;> (try cases c) <;> simp [andE, decF_bb, decF_nb, decF_bn, decF_nn, e360]
theorem andE_one {p : VL × Int} (hp : goodE p) : andE (VL.ofB true, 0) p = p := by
  rcases hp with rfl | ⟨a, rfl⟩ | rfl
  · simp [andE, decF_bn]
  · simp [andE, decF_bb]
  · simp [andE, e360]
theorem fold_conj {ks : List Int} {r : List VL} (ho : OfR ks r) : ∀ t : T, BT ks t → ∀ p, goodE p → t.conj.foldl (fun p y => andE p (y.eval r)) p = andE p (t.eval r)
  | .col n, _, p, _ => rfl
  | .val v, _, p, _ => rfl
  | .un op a, _, p, _ => rfl
  | .bin op a b, h, p, hp => by
    unfold T.conj
    split
    · rename_i hoo
      subst hoo
      obtain ⟨ha, hb⟩ := bt_and.1 h
      rw [List.foldl_append, fold_conj ho a ha p hp, fold_conj ho b hb _ (andE_good hp (bt_good ho ha)), and_eval, andE_assoc hp (bt_good ho ha) (bt_good ho hb)]
    · rfl
theorem fold_eval {r : List VL} : ∀ (l : List T) (a : T), (l.foldl (fun o y => T.bin 12 o y) a).eval r = l.foldl (fun p y => andE p (y.eval r)) (a.eval r)
  | [], a => rfl
  | x :: l, a => by rw [List.foldl_cons, fold_eval l, and_eval, List.foldl_cons]
theorem bt_one {ks : List Int} {t : T} (hw : t.wf) (h : (t.kind ks).2 = 0) (ho : t.ex.op = 12) : BT ks t := by
  cases t with
  | col n => simp [T.ex, EX.op] at ho
  | val v => simp [T.ex, EX.op] at ho
  | un op a => have := hw.1; simp only [T.ex, EX.op] at ho; omega
  | bin op a b =>
    have ho : op = 12 := ho
    subst ho
    refine ⟨hw, h, .inl ?_⟩
    rw [kind_bin1 hw.1 h, if_neg (by decide)]
/-- All of the conjuncts: what it was. -/
theorem all_keeps {ks : List Int} {r : List VL} (ho : OfR ks r) {t : T} (hw : t.wf) (h : (t.kind ks).2 = 0) : (T.allT t.conj).wf ∧ ((T.allT t.conj).kind ks).2 = 0 ∧ (T.allT t.conj).eval r = t.eval r := by
  by_cases hop : t.ex.op = 12
  · have hb := bt_one hw h hop
    have ha := all_bt hb
    refine ⟨ha.1, ha.2.1, ?_⟩
    have hf := fold_conj ho t hb (VL.ofB true, 0) (.inr (.inl ⟨true, rfl⟩))
    have hcb := conj_bt t hb
    rw [andE_one (bt_good ho hb)] at hf
    cases hc : t.conj with
    | nil => exact absurd hc (conj_ne t)
    | cons x l =>
      rw [hc] at hf hcb
      rw [List.foldl_cons, andE_one (bt_good ho (hcb x (by simp)))] at hf
      rw [← hf]
      exact fold_eval l x
  · rw [conj_one hop]
    exact ⟨hw, h, rfl⟩
end Go.Proofs.Try
