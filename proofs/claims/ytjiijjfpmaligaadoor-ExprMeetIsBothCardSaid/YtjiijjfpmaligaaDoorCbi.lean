/-
  A part of the proof: see the text of the law.
-/
import Derived.Test.YtjiijjfpmaligaaDoorCbh
import Derived.Test.YtjiijjfpmaligaaDoorCak
set_option linter.unusedSimpArgs false
set_option linter.unusedVariables false
namespace Go.Proofs.Try
open Go.Al
set_option linter.unusedVariables false
set_option linter.unusedSimpArgs false
set_option maxRecDepth 20000

/-! ### the order of values -/
structure IsCmp {α : Type} (f : α → α → Int) : Prop where
  anti : ∀ a b, f b a = - f a b
  eq : ∀ a b, f a b = 0 → a = b
  trans : ∀ a b c, f a b ≤ 0 → f b c ≤ 0 → f a c ≤ 0
theorem IsCmp.self {α : Type} {f : α → α → Int} (h : IsCmp f) (a : α) : f a a = 0 := by have := h.anti a a; omega
theorem sgn_cmp : IsCmp sgn := ⟨fun a b => by unfold sgn; (repeat' split) <;> omega, fun a b h => by revert h; unfold sgn; (repeat' split) <;> omega, fun a b c h1 h2 => by revert h1 h2; unfold sgn; (repeat' split) <;> omega⟩
theorem bytes_cmp : IsCmp Lib.compareBytes where
  anti := by
    intro a
    induction a with
    | nil => intro b; cases b <;> simp [Lib.compareBytes]
    | cons x a ih =>
      intro b
      cases b with
      | nil => simp [Lib.compareBytes]
      | cons y b =>
        simp only [Lib.compareBytes]
        have h1 : x < y ↔ x.toNat < y.toNat := UInt8.lt_iff_toNat_lt
        have h2 : y < x ↔ y.toNat < x.toNat := UInt8.lt_iff_toNat_lt
        have := ih b
        simp only [h1, h2]
        (repeat' split) <;> omega
  eq := by
    intro a
    induction a with
    | nil => intro b; cases b <;> simp [Lib.compareBytes]
    | cons x a ih =>
      intro b
      cases b with
      | nil => simp [Lib.compareBytes]
      | cons y b =>
        simp only [Lib.compareBytes]
        have h1 : x < y ↔ x.toNat < y.toNat := UInt8.lt_iff_toNat_lt
        have h2 : y < x ↔ y.toNat < x.toNat := UInt8.lt_iff_toNat_lt
        simp only [h1, h2]
        intro h
        split at h
        · omega
        · split at h
          · omega
          · have hxy : x = y := UInt8.toNat_inj.1 (by omega)
            rw [hxy, ih b h]
  trans := by
    intro a
    induction a with
    | nil => intro b c _ _; cases c <;> simp [Lib.compareBytes]
    | cons x a ih =>
      intro b c h1 h2
      cases b with
      | nil => simp [Lib.compareBytes] at h1
      | cons y b =>
        cases c with
        | nil => simp [Lib.compareBytes] at h2
        | cons z c =>
          simp only [Lib.compareBytes] at h1 h2 ⊢
          simp only [UInt8.lt_iff_toNat_lt] at h1 h2 ⊢
          have := ih b c
          (repeat' split) <;> first | omega | (split at h1 <;> (try split at h1) <;> split at h2 <;> (try split at h2) <;> omega)
theorem lex_cmp {α β : Type} {f : α → α → Int} {g : β → β → Int} (hf : IsCmp f) (hg : IsCmp g) : IsCmp (fun a b : α × β => if f a.1 b.1 = 0 then g a.2 b.2 else f a.1 b.1) where
  anti := by
    intro a b
    have h1 := hf.anti a.1 b.1
    have h2 := hg.anti a.2 b.2
    (repeat' split) <;> omega
  eq := by
    intro a b h
    split at h
    · rename_i h1
      exact Prod.ext (hf.eq _ _ h1) (hg.eq _ _ h)
    · contradiction
  trans := by
    intro a b c h1 h2
    have t := hf.trans a.1 b.1 c.1
    have u := hg.trans a.2 b.2 c.2
    show (if f a.1 c.1 = 0 then g a.2 c.2 else f a.1 c.1) ≤ 0
    by_cases e1 : f a.1 b.1 = 0
    · by_cases e2 : f b.1 c.1 = 0
      · rw [if_pos e1] at h1
        rw [if_pos e2] at h2
        have := hf.eq _ _ e1
        rw [← this] at e2
        rw [if_pos e2]
        exact u h1 h2
      · rw [if_neg e2] at h2
        have := hf.eq _ _ e1
        rw [← this] at e2 h2
        rw [if_neg e2]
        exact h2
    · rw [if_neg e1] at h1
      by_cases e2 : f b.1 c.1 = 0
      · have := hf.eq _ _ e2
        rw [← this, if_neg e1]
        exact h1
      · rw [if_neg e2] at h2
        have t1 := t h1 h2
        have h3 : f a.1 c.1 ≠ 0 := by
          intro h0
          have := hf.eq _ _ h0
          rw [this] at h1 e1
          have := hf.anti c.1 b.1
          omega
        rw [if_neg h3]
        exact t1
theorem VL.ext' {a b : VL} (h1 : a.k = b.k) (h2 : a.n = b.n) (h3 : a.s.data.toList = b.s.data.toList) : a = b := by
  obtain ⟨k, n, ⟨⟨s⟩⟩⟩ := a
  obtain ⟨k', n', ⟨⟨s'⟩⟩⟩ := b
  simp only at h1 h2 h3
  rw [h1, h2, h3]
theorem vl_cmp : IsCmp VL.cmp := by
  have h := lex_cmp sgn_cmp (lex_cmp sgn_cmp bytes_cmp)
  have e : ∀ a b : VL, a.cmp b = (if sgn a.k b.k = 0 then (if sgn a.n b.n = 0 then Lib.compareBytes a.s.data.toList b.s.data.toList else sgn a.n b.n) else sgn a.k b.k) := fun a b => by
    unfold VL.cmp orI orI orI orI
    (repeat' split) <;> omega
  refine ⟨fun a b => ?_, fun a b h0 => ?_, fun a b c h1 h2 => ?_⟩
  · rw [e, e]; exact h.anti (a.k, a.n, a.s.data.toList) (b.k, b.n, b.s.data.toList)
  · rw [e] at h0
    have := h.eq (a.k, a.n, a.s.data.toList) (b.k, b.n, b.s.data.toList) h0
    simp only [Prod.mk.injEq] at this
    exact VL.ext' this.1 this.2.1 this.2.2
  · rw [e] at h1 h2 ⊢
    exact h.trans (a.k, a.n, a.s.data.toList) (b.k, b.n, b.s.data.toList) (c.k, c.n, c.s.data.toList) h1 h2

/-! ### numbers for finitely many values -/
theorem countP_le' {α : Type} {p q : α → Bool} (h : ∀ x, p x = true → q x = true) : ∀ l : List α, l.countP p ≤ l.countP q
  | [] => by simp
  | x :: l => by
    have := countP_le' h l
    rw [List.countP_cons, List.countP_cons]
    by_cases hp : p x = true
    · rw [if_pos hp, if_pos (h x hp)]; omega
    · rw [if_neg hp]; omega
theorem countP_lt' {α : Type} {p q : α → Bool} (h : ∀ x, p x = true → q x = true) {y : α} (hq : q y = true) (hp : p y = false) : ∀ l : List α, y ∈ l → l.countP p < l.countP q
  | [], hm => by simp at hm
  | x :: l, hm => by
    rw [List.countP_cons, List.countP_cons]
    rcases List.mem_cons.1 hm with rfl | hm
    · have := countP_le' h l
      rw [if_pos hq, if_neg (by simp [hp])]; omega
    · have := countP_lt' h hq hp l hm
      by_cases hx : p x = true
      · rw [if_pos hx, if_pos (h x hx)]; omega
      · rw [if_neg hx]; omega
theorem IsCmp.lt_trans {α : Type} {f : α → α → Int} (h : IsCmp f) {a b c : α} (h1 : f a b < 0) (h2 : f b c ≤ 0) : f a c < 0 := by
  have t := h.trans a b c (by omega) h2
  by_cases h0 : f a c = 0
  · have := h.eq _ _ h0
    subst this
    have := h.anti a b
    omega
  · omega
theorem ranks {α : Type} {f : α → α → Int} (h : IsCmp f) (l : List α) : ∃ ρ : α → Int, ∀ x ∈ l, ∀ y ∈ l, (f x y < 0 ↔ ρ x < ρ y) ∧ (f x y = 0 ↔ ρ x = ρ y) ∧ (0 < f x y ↔ ρ y < ρ x) := by
  refine ⟨fun x => (l.countP fun z => decide (f z x < 0) : Nat), ?_⟩
  have lt : ∀ x ∈ l, ∀ y ∈ l, f x y < 0 → (l.countP fun z => decide (f z x < 0)) < (l.countP fun z => decide (f z y < 0)) := by
    intro x hx y hy hxy
    refine countP_lt' (fun z hz => ?_) (y := x) (by simpa using hxy) (by simp [h.self]) l hx
    have hz : f z x < 0 := by simpa using hz
    simpa using h.lt_trans hz (by omega)
  intro x hx y hy
  have a := lt x hx y hy
  have b := lt y hy x hx
  have an := h.anti x y
  have e : f x y = 0 → x = y := h.eq x y
  have s : x = y → f x y = 0 := fun e => by rw [e]; exact h.self y
  clear lt
  generalize hu : l.countP (fun z => decide (f z x < 0)) = u at *
  generalize hv : l.countP (fun z => decide (f z y < 0)) = v at *
  show (f x y < 0 ↔ ((l.countP fun z => decide (f z x < 0) : Nat) : Int) < ((l.countP fun z => decide (f z y < 0) : Nat) : Int)) ∧ (f x y = 0 ↔ ((l.countP fun z => decide (f z x < 0) : Nat) : Int) = ((l.countP fun z => decide (f z y < 0) : Nat) : Int)) ∧ (0 < f x y ↔ ((l.countP fun z => decide (f z y < 0) : Nat) : Int) < ((l.countP fun z => decide (f z x < 0) : Nat) : Int))
  rw [hu, hv]
  by_cases h0 : f x y = 0
  · have := e h0
    subst this
    have huv : u = v := by rw [← hu, ← hv]
    subst huv
    simp [h0]
  · by_cases h1 : f x y < 0
    · have := a h1
      refine ⟨⟨fun _ => by omega, fun _ => h1⟩, ⟨fun h => absurd h h0, fun h => by omega⟩, ⟨fun h => by omega, fun h => by omega⟩⟩
    · have := b (by omega)
      refine ⟨⟨fun h => by omega, fun h => by omega⟩, ⟨fun h => absurd h h0, fun h => by omega⟩, ⟨fun h => by omega, fun h => by omega⟩⟩
end Go.Proofs.Try
