/-
  A part of the proof: see the text of the law.
-/
import Derived.Lib.Bytealg
import Derived.Test.YtlokeliagcaepaaAlphaAb
set_option linter.unusedSimpArgs false
set_option linter.unusedVariables false
namespace Go.Proofs.Try
set_option linter.unusedVariables false

/-- Values: kind, number, text. -/
structure VL where
  k : Int
  n : Int
  s : ByteArray
  deriving DecidableEq
instance : Inhabited VL := ⟨⟨0, 0, ⟨#[]⟩⟩⟩
def sgn (a b : Int) : Int := if a < b then -1 else if a > b then 1 else 0
def orI : List Int → Int
  | [] => 0
  | x :: l => if x = 0 then orI l else x
def VL.cmp (a b : VL) : Int := orI [sgn a.k b.k, sgn a.n b.n, Lib.compareBytes a.s.data.toList b.s.data.toList]
def VL.cmp19 (a b : VL) : Int :=
  if a.k ≠ b.k then sgn a.k b.k else if Op.bytesLess a.s.toList b.s.toList = true then -1 else if (!(Op.bytesLess a.s.toList b.s.toList || decide (a.s = b.s))) = true then 1 else sgn a.n b.n
end Go.Proofs.Try

namespace Go.Proofs.Try
set_option linter.unusedVariables false
set_option linter.unusedSimpArgs false
set_option maxRecDepth 20000

/-! ### the order of values -/
structure IsCmp {α : Type} (f : α → α → Int) : Prop where
  anti : ∀ a b, f b a = - f a b
  eq : ∀ a b, f a b = 0 → a = b
  trans : ∀ a b c, f a b ≤ 0 → f b c ≤ 0 → f a c ≤ 0
theorem IsCmp.self {α : Type} {f : α → α → Int} (h : IsCmp f) (a : α) : f a a = 0 := by have := h.anti a a; omega
theorem sgn_cmp : IsCmp sgn := ⟨fun a b => by unfold sgn; (repeat' split) <;> omega, fun a b h => by revert h; unfold sgn; (repeat' split) <;> omega, fun a b c h1 h2 => by revert h1 h2; unfold sgn; (repeat' split) <;> omega⟩
theorem bytes_cmp : IsCmp Lib.compareBytes where
  anti := by
    intro a
    induction a with
    | nil => intro b; cases b <;> simp [Lib.compareBytes]
    | cons x a ih =>
      intro b
      cases b with
      | nil => simp [Lib.compareBytes]
      | cons y b =>
        simp only [Lib.compareBytes]
        have h1 : x < y ↔ x.toNat < y.toNat := UInt8.lt_iff_toNat_lt
        have h2 : y < x ↔ y.toNat < x.toNat := UInt8.lt_iff_toNat_lt
        have := ih b
        simp only [h1, h2]
        (repeat' split) <;> omega
  eq := by
    intro a
    induction a with
    | nil => intro b; cases b <;> simp [Lib.compareBytes]
    | cons x a ih =>
      intro b
      cases b with
      | nil => simp [Lib.compareBytes]
      | cons y b =>
        simp only [Lib.compareBytes]
        have h1 : x < y ↔ x.toNat < y.toNat := UInt8.lt_iff_toNat_lt
        have h2 : y < x ↔ y.toNat < x.toNat := UInt8.lt_iff_toNat_lt
        simp only [h1, h2]
        intro h
        split at h
        · omega
        · split at h
          · omega
          · have hxy : x = y := UInt8.toNat_inj.1 (by omega)
            rw [hxy, ih b h]
  trans := by
    intro a
    induction a with
    | nil => intro b c _ _; cases c <;> simp [Lib.compareBytes]
    | cons x a ih =>
      intro b c h1 h2
      cases b with
      | nil => simp [Lib.compareBytes] at h1
      | cons y b =>
        cases c with
        | nil => simp [Lib.compareBytes] at h2
        | cons z c =>
          simp only [Lib.compareBytes] at h1 h2 ⊢
          simp only [UInt8.lt_iff_toNat_lt] at h1 h2 ⊢
          have := ih b c
          (repeat' split) <;> first | omega | (split at h1 <;> (try split at h1) <;> split at h2 <;> (try split at h2) <;> omega)
theorem lex_cmp {α β : Type} {f : α → α → Int} {g : β → β → Int} (hf : IsCmp f) (hg : IsCmp g) : IsCmp (fun a b : α × β => if f a.1 b.1 = 0 then g a.2 b.2 else f a.1 b.1) where
  anti := by
    intro a b
    have h1 := hf.anti a.1 b.1
    have h2 := hg.anti a.2 b.2
    (repeat' split) <;> omega
  eq := by
    intro a b h
    split at h
    · rename_i h1
      exact Prod.ext (hf.eq _ _ h1) (hg.eq _ _ h)
    · contradiction
  trans := by
    intro a b c h1 h2
    have t := hf.trans a.1 b.1 c.1
    have u := hg.trans a.2 b.2 c.2
    show (if f a.1 c.1 = 0 then g a.2 c.2 else f a.1 c.1) ≤ 0
    by_cases e1 : f a.1 b.1 = 0
    · by_cases e2 : f b.1 c.1 = 0
      · rw [if_pos e1] at h1
        rw [if_pos e2] at h2
        have := hf.eq _ _ e1
        rw [← this] at e2
        rw [if_pos e2]
        exact u h1 h2
      · rw [if_neg e2] at h2
        have := hf.eq _ _ e1
        rw [← this] at e2 h2
        rw [if_neg e2]
        exact h2
    · rw [if_neg e1] at h1
      by_cases e2 : f b.1 c.1 = 0
      · have := hf.eq _ _ e2
        rw [← this, if_neg e1]
        exact h1
      · rw [if_neg e2] at h2
        have t1 := t h1 h2
        have h3 : f a.1 c.1 ≠ 0 := by
          intro h0
          have := hf.eq _ _ h0
          rw [this] at h1 e1
          have := hf.anti c.1 b.1
          omega
        rw [if_neg h3]
        exact t1
theorem VL.ext' {a b : VL} (h1 : a.k = b.k) (h2 : a.n = b.n) (h3 : a.s.data.toList = b.s.data.toList) : a = b := by
  obtain ⟨k, n, ⟨⟨s⟩⟩⟩ := a
  obtain ⟨k', n', ⟨⟨s'⟩⟩⟩ := b
  simp only at h1 h2 h3
  rw [h1, h2, h3]
theorem vl_cmp : IsCmp VL.cmp := by
  have h := lex_cmp sgn_cmp (lex_cmp sgn_cmp bytes_cmp)
  have e : ∀ a b : VL, a.cmp b = (if sgn a.k b.k = 0 then (if sgn a.n b.n = 0 then Lib.compareBytes a.s.data.toList b.s.data.toList else sgn a.n b.n) else sgn a.k b.k) := fun a b => by
    unfold VL.cmp orI orI orI orI
    (repeat' split) <;> omega
  refine ⟨fun a b => ?_, fun a b h0 => ?_, fun a b c h1 h2 => ?_⟩
  · rw [e, e]; exact h.anti (a.k, a.n, a.s.data.toList) (b.k, b.n, b.s.data.toList)
  · rw [e] at h0
    have := h.eq (a.k, a.n, a.s.data.toList) (b.k, b.n, b.s.data.toList) h0
    simp only [Prod.mk.injEq] at this
    exact VL.ext' this.1 this.2.1 this.2.2
  · rw [e] at h1 h2 ⊢
    exact h.trans (a.k, a.n, a.s.data.toList) (b.k, b.n, b.s.data.toList) (c.k, c.n, c.s.data.toList) h1 h2

/-! ### numbers for finitely many values -/
theorem countP_le' {α : Type} {p q : α → Bool} (h : ∀ x, p x = true → q x = true) : ∀ l : List α, l.countP p ≤ l.countP q
  | [] => by simp
  | x :: l => by
    have := countP_le' h l
    rw [List.countP_cons, List.countP_cons]
    by_cases hp : p x = true
    · rw [if_pos hp, if_pos (h x hp)]; omega
    · rw [if_neg hp]; omega
theorem countP_lt' {α : Type} {p q : α → Bool} (h : ∀ x, p x = true → q x = true) {y : α} (hq : q y = true) (hp : p y = false) : ∀ l : List α, y ∈ l → l.countP p < l.countP q
  | [], hm => by simp at hm
  | x :: l, hm => by
    rw [List.countP_cons, List.countP_cons]
    rcases List.mem_cons.1 hm with rfl | hm
    · have := countP_le' h l
      rw [if_pos hq, if_neg (by simp [hp])]; omega
    · have := countP_lt' h hq hp l hm
      by_cases hx : p x = true
      · rw [if_pos hx, if_pos (h x hx)]; omega
      · rw [if_neg hx]; omega
theorem IsCmp.lt_trans {α : Type} {f : α → α → Int} (h : IsCmp f) {a b c : α} (h1 : f a b < 0) (h2 : f b c ≤ 0) : f a c < 0 := by
  have t := h.trans a b c (by omega) h2
  by_cases h0 : f a c = 0
  · have := h.eq _ _ h0
    subst this
    have := h.anti a b
    omega
  · omega
theorem ranks {α : Type} {f : α → α → Int} (h : IsCmp f) (l : List α) : ∃ ρ : α → Int, ∀ x ∈ l, ∀ y ∈ l, (f x y < 0 ↔ ρ x < ρ y) ∧ (f x y = 0 ↔ ρ x = ρ y) ∧ (0 < f x y ↔ ρ y < ρ x) := by
  refine ⟨fun x => (l.countP fun z => decide (f z x < 0) : Nat), ?_⟩
  have lt : ∀ x ∈ l, ∀ y ∈ l, f x y < 0 → (l.countP fun z => decide (f z x < 0)) < (l.countP fun z => decide (f z y < 0)) := by
    intro x hx y hy hxy
    refine countP_lt' (fun z hz => ?_) (y := x) (by simpa using hxy) (by simp [h.self]) l hx
    have hz : f z x < 0 := by simpa using hz
    simpa using h.lt_trans hz (by omega)
  intro x hx y hy
  have a := lt x hx y hy
  have b := lt y hy x hx
  have an := h.anti x y
  have e : f x y = 0 → x = y := h.eq x y
  have s : x = y → f x y = 0 := fun e => by rw [e]; exact h.self y
  clear lt
  generalize hu : l.countP (fun z => decide (f z x < 0)) = u at *
  generalize hv : l.countP (fun z => decide (f z y < 0)) = v at *
  show (f x y < 0 ↔ ((l.countP fun z => decide (f z x < 0) : Nat) : Int) < ((l.countP fun z => decide (f z y < 0) : Nat) : Int)) ∧ (f x y = 0 ↔ ((l.countP fun z => decide (f z x < 0) : Nat) : Int) = ((l.countP fun z => decide (f z y < 0) : Nat) : Int)) ∧ (0 < f x y ↔ ((l.countP fun z => decide (f z y < 0) : Nat) : Int) < ((l.countP fun z => decide (f z x < 0) : Nat) : Int))
  rw [hu, hv]
  by_cases h0 : f x y = 0
  · have := e h0
    subst this
    have huv : u = v := by rw [← hu, ← hv]
    subst huv
    simp [h0]
  · by_cases h1 : f x y < 0
    · have := a h1
      refine ⟨⟨fun _ => by omega, fun _ => h1⟩, ⟨fun h => absurd h h0, fun h => by omega⟩, ⟨fun h => by omega, fun h => by omega⟩⟩
    · have := b (by omega)
      refine ⟨⟨fun h => by omega, fun h => by omega⟩, ⟨fun h => absurd h h0, fun h => by omega⟩, ⟨fun h => by omega, fun h => by omega⟩⟩
/-! ### right values -/
def VL.Right (v : VL) : Prop := (v.k = 0 ∧ v.n = 0 ∧ v.s = ⟨#[]⟩) ∨ (v.k = 1 ∧ -549755813888 ≤ v.n ∧ v.n ≤ 549755813887 ∧ v.s = ⟨#[]⟩) ∨ (v.k = 2 ∧ v.n = 0 ∧ v.s.size ≤ 40) ∨ (v.k = 3 ∧ (v.n = 0 ∨ v.n = 1) ∧ v.s = ⟨#[]⟩)
instance (v : VL) : Decidable v.Right := by unfold VL.Right; infer_instance
theorem cmpBytes : ∀ a b : List UInt8, Lib.compareBytes a b = if Op.bytesLess a b = true then -1 else if a = b then 0 else 1
  | [], [] => by simp [Lib.compareBytes, Op.bytesLess]
  | [], _ :: _ => by simp [Lib.compareBytes, Op.bytesLess]
  | _ :: _, [] => by simp [Lib.compareBytes, Op.bytesLess]
  | a :: x, b :: y => by
    rw [Lib.compareBytes, cmpBytes x y]
    simp only [Op.bytesLess, Bool.or_eq_true, decide_eq_true_eq, Bool.and_eq_true, beq_iff_eq, List.cons.injEq]
    by_cases h1 : a < b
    · simp [h1]
    · by_cases h2 : b < a
      · have h3 : a ≠ b := fun h => by subst h; exact h1 h2
        simp [h1, h2, h3]
      · have h3 : a = b := UInt8.le_antisymm (UInt8.not_lt.1 h2) (UInt8.not_lt.1 h1)
        subst h3
        simp
theorem toL (s : ByteArray) : s.toList = s.data.toList := ByteArray.toList_eq s
theorem VL.cmp_eq {a b : VL} (ha : a.Right) (hb : b.Right) (hk : a.k = b.k) : a.cmp b = a.cmp19 b := by
  obtain ⟨ka, na, sa⟩ := a
  obtain ⟨kb, nb, sb⟩ := b
  simp only at hk
  subst hk
  have hs : (sa.data.toList = sb.data.toList) ↔ sa = sb := by
    obtain ⟨⟨la⟩⟩ := sa; obtain ⟨⟨lb⟩⟩ := sb; simp
  simp only [VL.cmp, VL.cmp19, orI, cmpBytes, toL, ne_eq, not_true_eq_false, if_false]
  simp only [VL.Right] at ha hb
  have h0 : sgn ka ka = 0 := by simp [sgn]
  have h1 : sgn na nb = 0 ∨ sa = sb := by
    rcases ha with ⟨_, h1, h2⟩ | ⟨_, _, _, h2⟩ | ⟨_, h1, _⟩ | ⟨_, _, h2⟩ <;> rcases hb with ⟨_, h3, h4⟩ | ⟨_, _, _, h4⟩ | ⟨_, h3, _⟩ | ⟨_, _, h4⟩ <;> first | omega | (right; rw [h2, h4]) | (left; rw [h1, h3]; simp [sgn])
  rw [h0]
  simp only [if_true, hs]
  rcases h1 with h1 | h1
  · rw [h1]
    simp only [if_true]
    by_cases h2 : Op.bytesLess sa.data.toList sb.data.toList = true <;> by_cases h3 : sa = sb <;> simp [h2, h3]
  · subst h1
    have h2 : Op.bytesLess sa.data.toList sa.data.toList = false := by
      have : ∀ l : List UInt8, Op.bytesLess l l = false := fun l => by
        induction l with
        | nil => rfl
        | cons x l ih => simp [Op.bytesLess, ih]
      exact this _
    simp only [h2, decide_true, Bool.or_true, Bool.not_true, Bool.false_eq_true, if_false, if_true]
    split <;> simp_all
/-- The two orders are the same for right values. -/
theorem VL.cmp_full {a b : VL} (ha : a.Right) (hb : b.Right) : a.cmp b = a.cmp19 b := by
  by_cases hk : a.k = b.k
  · exact VL.cmp_eq ha hb hk
  · have : sgn a.k b.k ≠ 0 := by unfold sgn; (repeat' split) <;> omega
    simp only [VL.cmp, VL.cmp19, orI, if_pos hk, if_neg this]
end Go.Proofs.Try

namespace Go.Proofs.Try
set_option linter.unusedVariables false

structure Bar where
  lo : VL
  hi : VL
  rows : Int
  least : Int
  most : Int
  deriving DecidableEq
instance : Inhabited Bar := ⟨⟨default, default, 0, 0, 0⟩⟩
structure Hist where
  rows : Int
  nulls : Int
  bars : List Bar
  deriving DecidableEq
def Bar.single (b : Bar) : Bool := decide (b.lo = b.hi)
def Bar.meet (x y : Bar) : Bool := decide (x.lo.cmp y.hi ≤ 0) && decide (y.lo.cmp x.hi ≤ 0)
def Bar.meet19 (x y : Bar) : Bool := decide (x.lo.k = y.lo.k) && (decide (x.lo.cmp19 y.hi ≤ 0) && decide (y.lo.cmp19 x.hi ≤ 0))
def Bar.ends (b : Bar) (v : VL) : Bool := decide (b.lo = v) || decide (b.hi = v)
def leastSum (l : List Bar) : Int := l.foldl (fun n b => n + b.least) 0
def mostSum (l : List Bar) : Int := l.foldl (fun n b => n + b.most) 0
end Go.Proofs.Try

namespace Go.Proofs.Try
set_option linter.unusedVariables false

def fewR (l : List (List VL)) : Prop := (∀ r ∈ l, (∀ v ∈ r, v.Right) ∧ r.length ≤ 8) ∧ l.length ≤ 60
instance (l : List (List VL)) : Decidable (fewR l) := by unfold fewR; infer_instance
def timesV (l : List VL) (v : VL) : Nat := (l.filter fun u => decide (u = v)).length
/-- The values of a column that are not null. -/
def valuesC (l : List (List VL)) (c : Nat) : List VL := (l.map fun r => r.getD c default).filter fun v => !decide (v.k = 0)
/-- An ascending list with one more value, once. -/
def withN (l : List VL) (v : VL) : Nat → List VL × Bool
  | 0 => ([], false)
  | i + 1 =>
    let o := withN l v i
    let p := !o.2 && decide (v.cmp19 (l.getD i default) ≤ 0)
    let o1 := if p = true then o.1 ++ [v] else o.1
    (if l.getD i default = v then o1 else o1 ++ [l.getD i default], o.2 || p)
def withV (l : List VL) (v : VL) : List VL := if (withN l v l.length).2 = true then (withN l v l.length).1 else (withN l v l.length).1 ++ [v]
def diffV (l : List VL) : List VL := l.foldl withV []
theorem withN_succ (l : List VL) (v : VL) (i : Nat) : withN l v (i + 1) =
    (if l.getD i default = v then (if (!(withN l v i).2 && decide (v.cmp19 (l.getD i default) ≤ 0)) = true then (withN l v i).1 ++ [v] else (withN l v i).1)
      else (if (!(withN l v i).2 && decide (v.cmp19 (l.getD i default) ≤ 0)) = true then (withN l v i).1 ++ [v] else (withN l v i).1) ++ [l.getD i default],
      (withN l v i).2 || (!(withN l v i).2 && decide (v.cmp19 (l.getD i default) ≤ 0))) := rfl
theorem withN_le (l : List VL) (v : VL) : ∀ i, (withN l v i).1.length ≤ i + (if (withN l v i).2 = true then 1 else 0)
  | 0 => by simp [withN]
  | i + 1 => by
    have h := withN_le l v i
    rcases hw : withN l v i with ⟨o, p⟩
    simp only [withN, hw] at h ⊢
    generalize l.getD i default = x
    cases p <;> cases decide (v.cmp19 x ≤ 0) <;> by_cases he : x = v <;> simp [he] at h ⊢ <;> omega
theorem withV_le (l : List VL) (v : VL) : (withV l v).length ≤ l.length + 1 := by
  have h := withN_le l v l.length
  unfold withV
  split
  · rename_i h1; rw [if_pos h1] at h; exact h
  · rename_i h1; rw [if_neg h1] at h; simp; omega
theorem diffV_le (l : List VL) : ∀ o : List VL, (l.foldl withV o).length ≤ o.length + l.length := by
  induction l with
  | nil => simp
  | cons v l ih =>
    intro o
    have h1 := ih (withV o v)
    have h2 := withV_le o v
    rw [List.foldl_cons, List.length_cons]; omega
end Go.Proofs.Try

namespace Go.Proofs.Try
set_option linter.unusedVariables false

/-- Ranges: empty, null, all, bounds, and whether these are in it. -/
structure RG where
  e : Bool
  nl : Bool
  all : Bool
  lo : VL
  hi : VL
  li : Bool
  ri : Bool
  deriving DecidableEq
def VL.null : VL := ⟨0, 0, ⟨#[]⟩⟩
/-- Is a value in a range? -/
def RG.has (x : RG) (v : VL) : Bool :=
  if (x.e || x.all) = true then x.all else if x.nl = true ∨ v.k = 0 then x.nl && decide (v.k = 0)
  else if x.lo.k ≠ 0 ∧ (v.k ≠ x.lo.k ∨ v.cmp x.lo < 0 ∨ (v.cmp x.lo = 0 ∧ x.li = false)) then false
  else if x.hi.k ≠ 0 ∧ (v.k ≠ x.hi.k ∨ 0 < v.cmp x.hi ∨ (v.cmp x.hi = 0 ∧ x.ri = false)) then false else true
def RG.void19 (x : RG) : Bool := if x.lo.k = 0 ∨ x.hi.k = 0 then false else decide (0 < x.lo.cmp19 x.hi) || (decide (x.lo.cmp19 x.hi = 0) && !(x.li && x.ri))
def RG.rt (x : RG) : Bool :=
  if (x.e || x.nl || x.all) = true then ((x.e != x.nl) && !x.all || (!x.e && !x.nl)) && decide (x.lo = VL.null ∧ x.hi = VL.null ∧ x.li = false ∧ x.ri = false)
  else decide x.lo.Right && decide x.hi.Right && !(x.li && decide (x.lo.k = 0)) && !(x.ri && decide (x.hi.k = 0)) && !(decide (x.lo.k ≠ 0) && decide (x.hi.k ≠ 0) && decide (x.lo.k ≠ x.hi.k)) && !x.void19
theorem null_iff (v : VL) : v = VL.null ↔ v.k = 0 ∧ v.n = 0 ∧ v.s = ⟨#[]⟩ := by
  obtain ⟨k, n, s⟩ := v
  simp [VL.null]
def RG.has19 (x : RG) (v : VL) : Bool :=
  if (x.e || x.all) = true then x.all else if v.k = 0 then x.nl else if x.nl = true then false
  else (decide (x.lo.k = 0) || (decide (v.k = x.lo.k) && (decide (0 < v.cmp19 x.lo) || (decide (v = x.lo) && x.li)))) &&
    (decide (x.hi.k = 0) || (decide (v.k = x.hi.k) && (decide (v.cmp19 x.hi < 0) || (decide (v = x.hi) && x.ri))))
/-- No value of a bar is between the bounds. -/
def Bar.apart (b : Bar) (x : RG) : Bool :=
  (decide (x.lo.k ≠ 0) && (decide (x.lo.k ≠ b.lo.k) || decide (b.hi.cmp x.lo < 0) || (decide (b.hi.cmp x.lo = 0) && !x.li))) ||
  (decide (x.hi.k ≠ 0) && (decide (x.hi.k ≠ b.lo.k) || decide (0 < b.lo.cmp x.hi) || (decide (b.lo.cmp x.hi = 0) && !x.ri)))
def Bar.apart19 (b : Bar) (x : RG) : Bool :=
  if (x.lo.k ≠ 0 ∧ x.lo.k ≠ b.lo.k) ∨ (x.hi.k ≠ 0 ∧ x.hi.k ≠ b.lo.k) then true
  else if x.lo.k ≠ 0 ∧ (b.hi.cmp19 x.lo < 0 ∨ (b.hi = x.lo ∧ x.li = false)) then true
  else decide (x.hi.k ≠ 0) && (decide (0 < b.lo.cmp19 x.hi) || (decide (b.lo = x.hi) && !x.ri))
def cntB (b : Bool) : Int := if b = true then 1 else 0
/-- Bounds for the rows of a bar that are in a range. -/
def Bar.within (b : Bar) (x : RG) : Int × Int :=
  if (x.has b.lo && x.has b.hi) = true then (b.rows, b.rows)
  else if b.apart x = true then (0, 0)
  else if x.lo = x.hi ∧ x.lo.k ≠ 0 then (if (x.has b.lo || x.has b.hi) = true then (1, b.rows - b.least + 1) else (0, max 0 (b.rows - max 2 (b.least - 1))))
  else (cntB (x.has b.lo || x.has b.hi), b.rows - cntB (!x.has b.lo) - cntB (!x.has b.hi))
def Bar.one (b : Bar) (x : RG) : Int × Int :=
  if (x.has19 b.lo && x.has19 b.hi) = true then (b.rows, b.rows)
  else if b.apart19 x = true then (0, 0)
  else if x.lo = x.hi ∧ x.lo.k ≠ 0 then (cntB (x.has19 b.lo || x.has19 b.hi), if (!x.has19 b.lo && !x.has19 b.hi) = true then max 0 (b.rows - max 2 (b.least - 1)) else b.rows - b.least + 1)
  else (cntB (x.has19 b.lo || x.has19 b.hi), b.rows - cntB (!x.has19 b.lo) - cntB (!x.has19 b.hi))
end Go.Proofs.Try

namespace Go.Proofs.Try
set_option linter.unusedVariables false

/-- Is a bar right by itself? -/
def Bar.rt19 (b : Bar) (k : Int) : Bool :=
  decide b.lo.Right && decide b.hi.Right && decide (b.lo.k ≠ 0) && decide (b.lo.k = k) && decide (b.hi.k = k) &&
    (if b.lo = b.hi then decide (1 ≤ b.rows) && decide (b.least = 1) && decide (b.most = 1)
     else decide (b.lo.cmp19 b.hi < 0) && decide (2 ≤ b.least) && decide (b.least ≤ b.most) && decide (b.most ≤ b.rows))
def Bar.rtC (b : Bar) (k : Int) : Bool :=
  decide b.lo.Right && decide b.hi.Right && decide (b.lo.k ≠ 0) && decide (b.lo.k = b.hi.k) && decide (b.lo.k = k) && decide (1 ≤ b.rows) &&
    decide (b.lo.cmp b.hi ≤ 0) && decide ((if b.single = true then 1 else 2) ≤ b.least) && decide (b.least ≤ b.most) && decide (b.most ≤ b.rows) && !(b.single && decide (1 < b.most))
/-- The bars from one on are right: the upper end before them, and the rows before them. -/
def okFrom (f : Bar → Bool) (g : VL → VL → Int) (hr : Int) : Option VL → Int → List Bar → Bool
  | _, n, [] => decide (n = hr)
  | p, n, b :: l => f b && decide (b.rows ≤ hr - n) && (match p with | none => true | some v => decide (g v b.lo < 0)) && okFrom f g hr (some b.hi) (n + b.rows) l
def Hist.ok (f : Bar → Int → Bool) (g : VL → VL → Int) (h : Hist) : Bool :=
  decide (0 ≤ h.rows) && decide (h.rows ≤ 16777216) && decide (0 ≤ h.nulls) && decide (h.nulls ≤ h.rows) && okFrom (fun b => f b (h.bars.getD 0 default).lo.k) g h.rows none h.nulls h.bars
def prevB (l : List Bar) : Nat → Option VL
  | 0 => none
  | i + 1 => some (l.getD i default).hi
theorem okFrom_step {f : Bar → Bool} {g : VL → VL → Int} {hr n : Int} {l : List Bar} {i : Nat} (h : i < l.length) :
    okFrom f g hr (prevB l i) n (l.drop i) = (f (l.getD i default) && decide ((l.getD i default).rows ≤ hr - n) && (decide (i = 0) || decide (g (l.getD (i - 1) default).hi (l.getD i default).lo < 0)) && okFrom f g hr (prevB l (i + 1)) (n + (l.getD i default).rows) (l.drop (i + 1))) := by
  rw [List.drop_eq_getElem_cons h]
  cases i <;> simp [okFrom, prevB, h]
theorem rt19_pos {b : Bar} {k : Int} (h : b.rt19 k = true) : 1 ≤ b.rows := by
  simp only [Bar.rt19, Bool.and_eq_true, decide_eq_true_eq] at h
  obtain ⟨_, h⟩ := h
  split at h <;> simp at h <;> omega
theorem rtC_pos {b : Bar} {k : Int} (h : b.rtC k = true) : 1 ≤ b.rows := by
  simp only [Bar.rtC, Bool.and_eq_true, decide_eq_true_eq] at h
  omega
def Hist.err (b : Bool) : Int := if b = true then 0 else 3
end Go.Proofs.Try

namespace Go.Proofs.Try
set_option linter.unusedVariables false

def isEnd (y : Bar) (v : VL) : Bool := decide (v = y.lo) || decide (v = y.hi)
def cntE (y : Bar) (l : List VL) : Nat := (l.filter (isEnd y)).length
theorem cntE_next {y : Bar} {l : List VL} {i : Nat} (h : i < l.length) : cntE y (l.take (i + 1)) = cntE y (l.take i) + (if isEnd y (l.getD i default) = true then 1 else 0) := by
  rw [List.take_succ_eq_append_getElem h, cntE, List.filter_append, List.length_append, cntE]
  simp only [List.filter_cons, List.filter_nil, List.getD_eq_getElem?_getD, List.getElem?_eq_getElem h, Option.getD_some]
  split <;> rfl
theorem cntE_le (y : Bar) (l : List VL) : cntE y l ≤ l.length := List.length_filter_le _ _
/-- The lower bound of the pairs of two bars. -/
def sharedN (x y : Bar) (n : Int) : Int := if x.lo = x.hi ∧ y.lo = y.hi then n * x.rows * y.rows else if x.lo = x.hi then n * x.rows else if y.lo = y.hi then n * y.rows else n
def Bar.shared (x y : Bar) : Int := sharedN x y (cntE y (diffV [x.lo, x.hi]))
theorem mul_rng {a b A B : Int} (ha : 0 ≤ a) (hA : a ≤ A) (hb : 0 ≤ b) (hB : b ≤ B) : 0 ≤ a * b ∧ a * b ≤ A * B :=
  ⟨Int.mul_nonneg ha hb, Int.mul_le_mul hA hB hb (by omega)⟩
theorem sharedN_le {x y : Bar} {n : Int} (h0 : 0 ≤ n) (h2 : n ≤ 2) (hx0 : 0 ≤ x.rows) (hx : x.rows ≤ 16777216) (hy0 : 0 ≤ y.rows) (hy : y.rows ≤ 16777216) :
    0 ≤ sharedN x y n ∧ sharedN x y n ≤ 562949953421312 := by
  have a := mul_rng h0 h2 hx0 hx
  have b := mul_rng h0 h2 hy0 hy
  have c := mul_rng a.1 a.2 hy0 hy
  unfold sharedN
  (repeat' split) <;> omega
end Go.Proofs.Try

namespace Go.Proofs.Try
set_option linter.unusedVariables false

def pMost (x y : Bar) : Int := min (x.rows * (y.rows - y.least + 1)) (y.rows * (x.rows - x.least + 1))
def pLeast (x y : Bar) : Int :=
  if (x.single && y.single) = true then x.rows * y.rows else if x.single = true then x.rows * cntB (y.ends x.lo)
  else if y.single = true then y.rows * cntB (x.ends y.lo) else cntB (y.ends x.lo) + cntB (y.ends x.hi)
/-- What two bars add to the bounds of a join. -/
def joinC (x y : Bar) : Int × Int := if (decide (x.lo.k = y.lo.k) && x.meet y) = true then (pLeast x y, pMost x y) else (0, 0)
def joinR (x y : Bar) : Int × Int := if x.meet19 y = true then (x.shared y, pMost x y) else (0, 0)
def addQ (p q : Int × Int) : Int × Int := (p.1 + q.1, p.2 + q.2)
def joinRow (f : Bar → Bar → Int × Int) (x : Bar) (l : List Bar) (p : Int × Int) : Int × Int := l.foldl (fun p y => addQ p (f x y)) p
def joinAll (f : Bar → Bar → Int × Int) (k l : List Bar) : Int × Int := k.foldl (fun p x => joinRow f x l p) (0, 0)
theorem joinRow_next {f : Bar → Bar → Int × Int} {x : Bar} {l : List Bar} {p : Int × Int} {i : Nat} (h : i < l.length) : joinRow f x (l.take (i + 1)) p = addQ (joinRow f x (l.take i) p) (f x (l.getD i default)) := by
  rw [List.take_succ_eq_append_getElem h, joinRow, List.foldl_append]
  simp [joinRow, h]
theorem joinAll_next {f : Bar → Bar → Int × Int} {k l : List Bar} {i : Nat} (h : i < k.length) : joinAll f (k.take (i + 1)) l = joinRow f (k.getD i default) l (joinAll f (k.take i) l) := by
  rw [List.take_succ_eq_append_getElem h, joinAll, List.foldl_append]
  simp [joinAll, h]
theorem mul_rng2 {a b A B : Int} (ha : 0 ≤ a) (hA : a ≤ A) (hb : -B ≤ b) (hB : b ≤ B) : -(A * B) ≤ a * b ∧ a * b ≤ A * B := by
  have hB0 : 0 ≤ B := by omega
  have h1 : a * b ≤ a * B := Int.mul_le_mul_of_nonneg_left hB ha
  have h2 : a * B ≤ A * B := Int.mul_le_mul_of_nonneg_right hA hB0
  have h3 : a * (-B) ≤ a * b := Int.mul_le_mul_of_nonneg_left hb ha
  rw [Int.mul_neg] at h3
  omega
def inM (p : Int × Int) : Prop := -1125899906842624 ≤ p.1 ∧ p.1 ≤ 1125899906842624 ∧ -1125899906842624 ≤ p.2 ∧ p.2 ≤ 1125899906842624
theorem joinRow_le {f : Bar → Bar → Int × Int} {x : Bar} {l : List Bar} (hf : ∀ y ∈ l, inM (f x y)) (p : Int × Int) : ∀ j, j ≤ l.length →
    p.1 - j * 1125899906842624 ≤ (joinRow f x (l.take j) p).1 ∧ (joinRow f x (l.take j) p).1 ≤ p.1 + j * 1125899906842624 ∧ p.2 - j * 1125899906842624 ≤ (joinRow f x (l.take j) p).2 ∧ (joinRow f x (l.take j) p).2 ≤ p.2 + j * 1125899906842624
  | 0, _ => by simp [joinRow]
  | j + 1, h => by
    have h1 := joinRow_le hf p j (by omega)
    have h2 := hf (l.getD j default) (by rw [List.getD_eq_getElem?_getD, List.getElem?_eq_getElem (by omega : j < l.length), Option.getD_some]; exact List.getElem_mem _)
    rw [joinRow_next (by omega)]
    simp only [addQ, inM] at h2 ⊢
    omega
theorem joinAll_le {f : Bar → Bar → Int × Int} {k l : List Bar} (hf : ∀ x ∈ k, ∀ y ∈ l, inM (f x y)) (h40 : l.length ≤ 64) : ∀ i, i ≤ k.length →
    -(i * 72057594037927936 : Int) ≤ (joinAll f (k.take i) l).1 ∧ (joinAll f (k.take i) l).1 ≤ i * 72057594037927936 ∧ -(i * 72057594037927936 : Int) ≤ (joinAll f (k.take i) l).2 ∧ (joinAll f (k.take i) l).2 ≤ i * 72057594037927936
  | 0, _ => by simp [joinAll]
  | i + 1, h => by
    have h1 := joinAll_le hf h40 i (by omega)
    have hm : k.getD i default ∈ k := by rw [List.getD_eq_getElem?_getD, List.getElem?_eq_getElem (by omega : i < k.length), Option.getD_some]; exact List.getElem_mem _
    have h2 := joinRow_le (hf _ hm) (joinAll f (k.take i) l) l.length (Nat.le_refl _)
    rw [List.take_length] at h2
    rw [joinAll_next (by omega)]
    omega
end Go.Proofs.Try

namespace Go.Proofs.Try
set_option linter.unusedVariables false

/-! ### different values -/
/-- Each value once, where it comes first. -/
def onceV (l : List VL) : List VL := l.foldl (fun a v => if v ∈ a then a else a ++ [v]) []
theorem onceV_snoc (l : List VL) (v : VL) : onceV (l ++ [v]) = if v ∈ onceV l then onceV l else onceV l ++ [v] := by
  rw [onceV, List.foldl_append]; rfl
theorem fold_inv {α : Type} {f : List VL → VL → List VL} (p : List VL → List VL → Prop) (h0 : p [] []) (hs : ∀ l v, p l (l.foldl f []) → p (l ++ [v]) (f (l.foldl f []) v)) (l : List VL) : p l (l.foldl f []) := by
  have : ∀ n, n ≤ l.length → p (l.take n) ((l.take n).foldl f []) := by
    intro n
    induction n with
    | zero => intro _; exact h0
    | succ n ih =>
      intro hn
      rw [List.take_succ_eq_append_getElem (by omega), List.foldl_append]
      exact hs _ _ (ih (by omega))
  have := this l.length (Nat.le_refl _)
  rwa [List.take_length] at this
theorem onceV_mem (l : List VL) (u : VL) : u ∈ onceV l ↔ u ∈ l := by
  refine fold_inv (α := VL) (f := fun a v => if v ∈ a then a else a ++ [v]) (fun l a => u ∈ a ↔ u ∈ l) Iff.rfl (fun l v h => ?_) l
  split
  · rename_i hv
    simp only [List.mem_append, List.mem_singleton]
    constructor
    · exact fun hu => .inl (h.1 hu)
    · rintro (hu | rfl)
      · exact h.2 hu
      · exact hv
  · simp only [List.mem_append, List.mem_singleton, h]
theorem onceV_nodup (l : List VL) : (onceV l).Nodup := by
  refine fold_inv (α := VL) (f := fun a v => if v ∈ a then a else a ++ [v]) (fun _ a => a.Nodup) .nil (fun l v h => ?_) l
  split
  · exact h
  · rename_i hv
    exact List.nodup_append.2 ⟨h, by simp, fun a ha b hb => by simp at hb; subst hb; exact fun e => hv (e ▸ ha)⟩
/-- Ascending, each once. -/
def ascV (l : List VL) : Prop := l.Pairwise fun a b => a.cmp b < 0
theorem cmp_lt_ne {a b : VL} (h : a.cmp b < 0) : a ≠ b := fun e => by
  have := vl_cmp.self a
  rw [← e] at h; omega
theorem ascV_nodup {l : List VL} (h : ascV l) : l.Nodup := h.imp fun h => cmp_lt_ne h
/-- What a walk over the first i elements has made. -/
theorem withN_spec (l : List VL) (v : VL) (hl : ascV l) (hr : ∀ u ∈ l, u.Right) (hv : v.Right) : ∀ i, i ≤ l.length →
    (withN l v i).1 = (l.take i).filter (fun u => decide (u.cmp v < 0)) ++ (if (withN l v i).2 = true then v :: (l.take i).filter (fun u => decide (0 < u.cmp v)) else []) ∧ ((withN l v i).2 = false → ∀ u ∈ l.take i, u.cmp v < 0)
  | 0, _ => by simp [withN]
  | i + 1, hi => by
    have hil : i < l.length := by omega
    have hx : l.getD i default = l[i] := by simp [hil]
    have hxm : l[i] ∈ l := List.getElem_mem _
    obtain ⟨h1, h2⟩ := withN_spec l v hl hr hv i (by omega)
    have hc : v.cmp19 l[i] = v.cmp l[i] := (VL.cmp_full hv (hr _ hxm)).symm
    have hanti := vl_cmp.anti l[i] v
    have hself := vl_cmp.self v
    rw [withN_succ, hx, hc, List.take_succ_eq_append_getElem hil, List.filter_append, List.filter_append]
    generalize hw : withN l v i = w at *
    obtain ⟨o, p⟩ := w
    simp only at h1 h2
    -- what stands before is less than what comes
    have hlt : ∀ u ∈ l.take i, u.cmp l[i] < 0 := by
      intro u hu
      have e : l = l.take i ++ l[i] :: l.drop (i + 1) := by simp
      rw [e] at hl
      exact (List.pairwise_append.1 hl).2.2 u hu l[i] List.mem_cons_self
    by_cases he : l[i] = v
    · have hf : (l.take i).filter (fun u => decide (0 < u.cmp v)) = [] := by
        rw [List.filter_eq_nil_iff]
        intro u hu
        have := hlt u hu
        rw [he] at this
        simp; omega
      have hfa : (l.take i).filter (fun u => decide (u.cmp v < 0)) = l.take i := by
        rw [List.filter_eq_self]
        intro u hu
        have := hlt u hu
        rw [he] at this
        simpa using this
      have h01 : decide (v.cmp l[i] ≤ 0) = true := by rw [he]; simp; omega
      rw [if_pos he, h01]
      simp only [he, List.filter_cons, hself, Int.lt_irrefl, decide_false, Bool.false_eq_true, if_false, List.filter_nil, List.append_nil]
      cases p with
      | true =>
        simp only [Bool.not_true, Bool.and_true, Bool.false_eq_true, if_false, Bool.true_or, if_true] at h1 ⊢
        exact ⟨h1, fun h => by cases h⟩
      | false =>
        simp only [Bool.not_false, Bool.and_true, if_true, Bool.or_true, Bool.false_eq_true, if_false, List.append_nil] at h1 ⊢
        rw [h1, hf]
        exact ⟨rfl, fun h => by cases h⟩
    · rw [if_neg he]
      have hne : l[i].cmp v ≠ 0 := fun h => he (vl_cmp.eq _ _ h)
      by_cases hlv : l[i].cmp v < 0
      · have h01 : decide (v.cmp l[i] ≤ 0) = false := by simp; omega
        have h02 : ¬ 0 < l[i].cmp v := by omega
        rw [h01]
        simp only [Bool.and_false, Bool.or_false, Bool.false_eq_true, if_false, List.filter_cons, hlv, h02, decide_true, decide_false, if_true, List.filter_nil, List.append_nil]
        have hall : ∀ u ∈ l.take i, u.cmp v < 0 := fun u hu => vl_cmp.lt_trans (hlt u hu) (by omega)
        have hf : (l.take i).filter (fun u => decide (0 < u.cmp v)) = [] := by
          rw [List.filter_eq_nil_iff]
          intro u hu
          have := hall u hu
          simp; omega
        cases p with
        | true =>
          -- it was put already: but then something before was not less
          exfalso
          have : (withN l v i).2 = true := by rw [hw]
          have key : ∀ j, j ≤ i → (withN l v j).2 = false := by
            intro j
            induction j with
            | zero => intro _; rfl
            | succ j ih =>
              intro hj
              rw [withN_succ]
              have hjl : j < l.length := by omega
              have hjm : l[j] ∈ l.take i := by
                rw [List.mem_iff_getElem?]
                exact ⟨j, by rw [List.getElem?_take, if_pos (by omega), List.getElem?_eq_getElem hjl]⟩
              have hc2 : v.cmp19 l[j] = v.cmp l[j] := (VL.cmp_full hv (hr _ (List.getElem_mem _))).symm
              have := hall _ hjm
              have := vl_cmp.anti l[j] v
              rw [show l.getD j default = l[j] by simp [hjl], hc2, ih (by omega)]
              simp; omega
          rw [key i (Nat.le_refl _)] at this
          cases this
        | false =>
          simp only [Bool.false_eq_true, if_false, List.append_nil] at h1 ⊢
          rw [h1]
          refine ⟨rfl, fun _ u hu => ?_⟩
          rcases List.mem_append.1 hu with hu | hu
          · exact hall u hu
          · simp only [List.mem_singleton] at hu; rw [hu]; exact hlv
      · have h01 : decide (v.cmp l[i] ≤ 0) = true := by simp; omega
        have h02 : 0 < l[i].cmp v := by omega
        rw [h01]
        simp only [Bool.and_true, List.filter_cons, hlv, h02, decide_true, decide_false, if_true, Bool.false_eq_true, if_false, List.filter_nil, List.append_nil]
        cases p with
        | true =>
          simp only [Bool.not_true, Bool.false_eq_true, if_false, Bool.true_or, if_true] at h1 ⊢
          rw [h1]
          exact ⟨by simp, fun h => by cases h⟩
        | false =>
          have hall := h2 rfl
          have hf : (l.take i).filter (fun u => decide (0 < u.cmp v)) = [] := by
            rw [List.filter_eq_nil_iff]
            intro u hu
            have := hall u hu
            simp; omega
          simp only [Bool.not_false, if_true, Bool.false_or, Bool.false_eq_true, if_false, List.append_nil] at h1 ⊢
          rw [h1, hf]
          exact ⟨by simp, fun h => by cases h⟩
theorem withV_eq {l : List VL} {v : VL} (hl : ascV l) (hr : ∀ u ∈ l, u.Right) (hv : v.Right) : withV l v = l.filter (fun u => decide (u.cmp v < 0)) ++ v :: l.filter (fun u => decide (0 < u.cmp v)) := by
  obtain ⟨h1, h2⟩ := withN_spec l v hl hr hv l.length (Nat.le_refl _)
  rw [List.take_length] at h1 h2
  unfold withV
  split
  · rename_i h
    rw [h1, if_pos h]
  · rename_i h
    rw [h1, if_neg h]
    have hf : l.filter (fun u => decide (0 < u.cmp v)) = [] := by
      rw [List.filter_eq_nil_iff]
      intro u hu
      have := h2 (by simpa using h) u hu
      simp; omega
    rw [hf, List.append_nil]
theorem withV_asc {l : List VL} {v : VL} (hl : ascV l) (hr : ∀ u ∈ l, u.Right) (hv : v.Right) : ascV (withV l v) := by
  rw [withV_eq hl hr hv]
  refine List.pairwise_append.2 ⟨hl.sublist List.filter_sublist, List.pairwise_cons.2 ⟨fun u hu => ?_, hl.sublist List.filter_sublist⟩, fun a ha b hb => ?_⟩
  · have h1 : 0 < u.cmp v := by simpa using (List.mem_filter.1 hu).2
    have := vl_cmp.anti u v
    omega
  · have h1 : a.cmp v < 0 := by simpa using (List.mem_filter.1 ha).2
    rcases List.mem_cons.1 hb with rfl | hb
    · exact h1
    · have h2 : 0 < b.cmp v := by simpa using (List.mem_filter.1 hb).2
      have := vl_cmp.anti b v
      exact vl_cmp.lt_trans h1 (by omega)
theorem withV_mem {l : List VL} {v : VL} (hl : ascV l) (hr : ∀ u ∈ l, u.Right) (hv : v.Right) (u : VL) : u ∈ withV l v ↔ u ∈ l ∨ u = v := by
  rw [withV_eq hl hr hv]
  simp only [List.mem_append, List.mem_cons, List.mem_filter, decide_eq_true_eq]
  constructor
  · rintro (h | rfl | h)
    · exact .inl h.1
    · exact .inr rfl
    · exact .inl h.1
  · rintro (h | rfl)
    · by_cases h1 : u.cmp v < 0
      · exact .inl ⟨h, h1⟩
      · by_cases h2 : u.cmp v = 0
        · exact .inr (.inl (vl_cmp.eq _ _ h2))
        · exact .inr (.inr ⟨h, by omega⟩)
    · exact .inr (.inl rfl)
theorem diffV_spec (l : List VL) (hr : ∀ u ∈ l, u.Right) : ascV (diffV l) ∧ ∀ u, u ∈ diffV l ↔ u ∈ l := by
  refine fold_inv (α := VL) (f := withV) (fun l a => (∀ u ∈ l, u.Right) → ascV a ∧ ∀ u, u ∈ a ↔ u ∈ l) (fun _ => ⟨.nil, fun u => Iff.rfl⟩) (fun l v h hr => ?_) l hr
  obtain ⟨h1, h2⟩ := h fun u hu => hr u (by simp [hu])
  have hra : ∀ u ∈ l.foldl withV [], u.Right := fun u hu => hr u (by simp [(h2 u).1 hu])
  have hv : v.Right := hr v (by simp)
  refine ⟨withV_asc h1 hra hv, fun u => ?_⟩
  rw [withV_mem h1 hra hv, h2]
  simp
/-- Two ascending lists of the same values are the same. -/
theorem asc_uniq : ∀ {a b : List VL}, ascV a → ascV b → (∀ u, u ∈ a ↔ u ∈ b) → a = b
  | [], [], _, _, _ => rfl
  | [], y :: b, _, _, h => absurd ((h y).2 (by simp)) (by simp)
  | x :: a, [], _, _, h => absurd ((h x).1 (by simp)) (by simp)
  | x :: a, y :: b, ha, hb, h => by
    obtain ⟨h1, h2⟩ := List.pairwise_cons.1 ha
    obtain ⟨h3, h4⟩ := List.pairwise_cons.1 hb
    have hxy : x = y := by
      rcases List.mem_cons.1 ((h x).1 (by simp)) with e | e
      · exact e
      · rcases List.mem_cons.1 ((h y).2 (by simp)) with e' | e'
        · exact e'.symm
        · have a1 := h3 x e
          have a2 := h1 y e'
          have := vl_cmp.anti x y
          omega
    subst hxy
    congr 1
    refine asc_uniq h2 h4 fun u => ?_
    have hu := h u
    simp only [List.mem_cons] at hu
    constructor
    · intro hm
      rcases hu.1 (.inr hm) with rfl | hm'
      · exact absurd rfl (cmp_lt_ne (h1 u hm))
      · exact hm'
    · intro hm
      rcases hu.2 (.inr hm) with rfl | hm'
      · exact absurd rfl (cmp_lt_ne (h3 u hm))
      · exact hm'
theorem nodup_length {a b : List VL} (ha : a.Nodup) (hb : b.Nodup) (h : ∀ u, u ∈ a ↔ u ∈ b) : a.length = b.length :=
  ((List.perm_ext_iff_of_nodup ha hb).2 h).length_eq
theorem once_diff {l : List VL} (hr : ∀ u ∈ l, u.Right) : (onceV l).length = (diffV l).length := by
  obtain ⟨h1, h2⟩ := diffV_spec l hr
  exact nodup_length (onceV_nodup l) (ascV_nodup h1) fun u => by rw [onceV_mem, h2]

/-! ### Of -/
def ofOk (l : List (List VL)) (cols : Int) : Bool := decide (0 ≤ cols) && decide (∀ r ∈ l, (r.length : Int) = cols)
/-- How many different values the first columns have. -/
def dsts (l : List (List VL)) (n : Nat) : List Int := (List.range n).map fun c => ((diffV (valuesC l c)).length : Int)
theorem dsts_succ (l : List (List VL)) (n : Nat) : dsts l (n + 1) = dsts l n ++ [((diffV (valuesC l n)).length : Int)] := by
  rw [dsts, List.range_succ, List.map_append]; rfl
theorem dsts_len (l : List (List VL)) (n : Nat) : (dsts l n).length = n := by simp [dsts]
theorem valuesC_le (l : List (List VL)) (c : Nat) : (valuesC l c).length ≤ l.length := by
  unfold valuesC
  exact Nat.le_trans (List.length_filter_le _ _) (by simp)
theorem valuesC_right {l : List (List VL)} {c : Nat} (hr : ∀ r ∈ l, ∀ v ∈ r, v.Right) : ∀ v ∈ valuesC l c, v.Right := by
  intro v hv
  obtain ⟨h1, _⟩ := List.mem_filter.1 hv
  obtain ⟨r, h2, rfl⟩ := List.mem_map.1 h1
  by_cases h : c < r.length
  · exact hr r h2 _ (by simp [h])
  · rw [List.getD_eq_getElem?_getD, List.getElem?_eq_none (by omega), Option.getD_none]
    exact .inl ⟨rfl, rfl, rfl⟩
def stOf (l : List (List VL)) (cols : Int) : Int × List Int × Int := if ofOk l cols = true then (l.length, dsts l cols.toNat, 0) else (0, [], 1)
end Go.Proofs.Try

namespace Go.Proofs.Try
set_option linter.unusedVariables false

/-! ### histograms of a column -/
def zBar : Bar := ⟨⟨0, 0, ⟨#[]⟩⟩, ⟨0, 0, ⟨#[]⟩⟩, 0, 0, 0⟩
/-- One value more, that comes q times. -/
def Bar.more (b : Bar) (v : VL) (q : Int) : Bar := ⟨if b.rows = 0 then v else b.lo, v, b.rows + q, b.least + 1, b.most + 1⟩
/-- The bars over the first k different values, and the one that is being made. -/
def barsN (l d : List VL) (depth : Int) : Nat → List Bar × Bar
  | 0 => ([], zBar)
  | k + 1 =>
    let o := barsN l d depth k
    let b := o.2.more (d.getD k default) (timesV l (d.getD k default))
    if depth ≤ b.rows ∨ k + 1 = d.length then (o.1 ++ [b], zBar) else (o.1, b)
theorem barsN_succ (l d : List VL) (depth : Int) (k : Nat) : barsN l d depth (k + 1) =
    if depth ≤ ((barsN l d depth k).2.more (d.getD k default) (timesV l (d.getD k default))).rows ∨ k + 1 = d.length then ((barsN l d depth k).1 ++ [(barsN l d depth k).2.more (d.getD k default) (timesV l (d.getD k default))], zBar)
    else ((barsN l d depth k).1, (barsN l d depth k).2.more (d.getD k default) (timesV l (d.getD k default))) := rfl
theorem timesV_le (l : List VL) (v : VL) : timesV l v ≤ l.length := List.length_filter_le _ _
theorem barsN_le (l d : List VL) (depth : Int) : ∀ k, (barsN l d depth k).1.length ≤ k ∧ 0 ≤ (barsN l d depth k).2.rows ∧ (barsN l d depth k).2.rows ≤ k * l.length ∧ 0 ≤ (barsN l d depth k).2.least ∧ (barsN l d depth k).2.least ≤ k ∧ (barsN l d depth k).2.most = (barsN l d depth k).2.least
  | 0 => by simp [barsN, zBar]
  | k + 1 => by
    obtain ⟨h1, h2, h3, h4, h5, h6⟩ := barsN_le l d depth k
    have ht := timesV_le l (d.getD k default)
    have e : ((k + 1 : Nat) : Int) * l.length = k * l.length + l.length := by rw [Int.natCast_add, Int.add_mul]; simp
    have hp : 0 ≤ (k : Int) * l.length := Int.mul_nonneg (by omega) (by omega)
    rw [barsN_succ]
    split
    · refine ⟨by simp; omega, by simp [zBar], ?_, by simp [zBar], by simp [zBar]; omega, by simp [zBar]⟩
      show (0 : Int) ≤ _
      omega
    · refine ⟨by simp only; omega, by simp only [Bar.more]; omega, by simp only [Bar.more]; omega, by simp only [Bar.more]; omega, by simp only [Bar.more]; omega, by simp only [Bar.more]; omega⟩
def depthV (n most : Int) : Int := n.tdiv most + (if 0 < n.tmod most then 1 else 0)
def argOk (l : List (List VL)) (col most : Int) : Bool := decide (∀ r ∈ l, 0 ≤ col ∧ col < r.length) && (decide (1 ≤ most) && decide (most ≤ 100))
def oneKind (vs : List VL) : Bool := decide (∀ v ∈ vs, v.k = (vs.getD 0 default).k)
def h0 : Hist := ⟨0, 0, []⟩
/-- The histogram of a column, and the error. -/
def histOf (l : List (List VL)) (col most : Int) : Hist × Int :=
  if argOk l col most = true then (if oneKind (valuesC l col.toNat) = true then
    (⟨l.length, l.length - (valuesC l col.toNat).length, (barsN (valuesC l col.toNat) (diffV (valuesC l col.toNat)) (depthV (valuesC l col.toNat).length most) (diffV (valuesC l col.toNat)).length).1⟩, 0) else (h0, 7)) else (h0, 1)
end Go.Proofs.Try

namespace Go.Proofs.Try
set_option linter.unusedVariables false

/-! ### a sorted list, in groups -/
/-- In order. -/
def srtV (l : List VL) : Prop := l.Pairwise fun a b => a.cmp b ≤ 0
theorem srt_uniq : ∀ {a b : List VL}, srtV a → srtV b → a.Perm b → a = b
  | [], b, _, _, h => h.nil_eq
  | x :: a, [], _, _, h => absurd h.length_eq (by simp)
  | x :: a, y :: b, ha, hb, h => by
    obtain ⟨h1, h2⟩ := List.pairwise_cons.1 ha
    obtain ⟨h3, h4⟩ := List.pairwise_cons.1 hb
    have hxy : x = y := by
      rcases List.mem_cons.1 (h.mem_iff.1 (List.mem_cons_self (a := x) (l := a))) with e | e
      · exact e
      · rcases List.mem_cons.1 (h.mem_iff.2 (List.mem_cons_self (a := y) (l := b))) with e' | e'
        · exact e'.symm
        · have a1 := h3 x e
          have a2 := h1 y e'
          have := vl_cmp.anti x y
          exact vl_cmp.eq _ _ (by omega)
    subst hxy
    rw [srt_uniq h2 h4 h.cons_inv]
/-- Each of some values as often as it comes in a list. -/
def reps (l : List VL) : List VL → List VL
  | [] => []
  | v :: d => List.replicate (timesV l v) v ++ reps l d
theorem times_count (l : List VL) (v : VL) : timesV l v = l.count v := by
  rw [timesV, List.count_eq_countP, List.countP_eq_length_filter]
  congr 1
theorem times_pos {l : List VL} {v : VL} (h : v ∈ l) : 0 < timesV l v := by rw [times_count]; exact List.count_pos_iff.2 h
theorem reps_mem {l d : List VL} {u : VL} (h : u ∈ reps l d) : u ∈ d := by
  induction d with
  | nil => exact h
  | cons v d ih =>
    rcases List.mem_append.1 h with h | h
    · rw [(List.mem_replicate.1 h).2]; simp
    · simp [ih h]
theorem reps_srt {l : List VL} : ∀ {d : List VL}, ascV d → srtV (reps l d)
  | [], _ => .nil
  | v :: d, h => by
    obtain ⟨h1, h2⟩ := List.pairwise_cons.1 h
    refine List.pairwise_append.2 ⟨?_, reps_srt h2, fun a ha b hb => ?_⟩
    · refine List.pairwise_replicate.2 (.inr ?_)
      have := vl_cmp.self v
      omega
    · rw [(List.mem_replicate.1 ha).2]
      have := h1 b (reps_mem hb)
      omega
theorem reps_count {l : List VL} (u : VL) : ∀ {d : List VL}, d.Nodup → (reps l d).count u = if u ∈ d then timesV l u else 0
  | [], _ => by simp [reps]
  | v :: d, h => by
    obtain ⟨h1, h2⟩ := List.nodup_cons.1 h
    rw [reps, List.count_append, reps_count u h2, List.count_replicate]
    by_cases e : v = u
    · subst e
      simp [h1]
    · have e' : ¬ u = v := fun h => e h.symm
      simp [e, e']
theorem srt_reps {l s : List VL} (hr : ∀ v ∈ l, v.Right) (hs : srtV s) (hp : s.Perm l) : s = reps l (diffV l) := by
  obtain ⟨h1, h2⟩ := diffV_spec l hr
  refine srt_uniq hs (reps_srt h1) (List.perm_iff_count.2 fun u => ?_)
  rw [hp.count_eq, reps_count u (ascV_nodup h1), ← times_count]
  split
  · rfl
  · rename_i h
    rw [times_count]
    exact List.count_eq_zero.2 fun hm => h ((h2 u).2 hm)
/-- The bar in the middle of a group, p of which have come. -/
def midBar (b : Bar) (v : VL) (p : Nat) : Bar := ⟨if p = 0 then b.lo else if b.rows = 0 then v else b.lo, b.hi, b.rows + p, b.least, 0⟩
/-- What is left of a sorted list: the rest of a group, and the groups behind it. -/
def leftV (l d : List VL) (k p : Nat) : List VL := List.replicate (timesV l (d.getD k default) - p) (d.getD k default) ++ reps l (d.drop (k + 1))
theorem reps_drop {l d : List VL} {k : Nat} (h : k < d.length) : reps l (d.drop k) = leftV l d k 0 := by
  rw [List.drop_eq_getElem_cons h, reps, leftV]
  simp [h]
theorem getD_drop {s : List VL} {i : Nat} {v : VL} {r : List VL} (h : s.drop i = v :: r) : i < s.length ∧ s.getD i default = v ∧ s.drop (i + 1) = r := by
  have hi : i < s.length := by
    rcases Nat.lt_or_ge i s.length with h1 | h1
    · exact h1
    · rw [List.drop_eq_nil_of_le h1] at h; cases h
  rw [List.drop_eq_getElem_cons hi, List.cons.injEq] at h
  exact ⟨hi, by simp [hi, h.1], h.2⟩
/-- A step within a group, and one that ends it. -/
theorem left_step {l d s : List VL} {i k p : Nat} (hd : ascV d) (hmem : ∀ v ∈ d, v ∈ l) (hk : k < d.length) (hp : p < timesV l (d.getD k default)) (h : s.drop i = leftV l d k p) :
    i < s.length ∧ s.getD i default = d.getD k default ∧
      (p + 1 < timesV l (d.getD k default) → i + 1 < s.length ∧ s.getD (i + 1) default = d.getD k default ∧ s.drop (i + 1) = leftV l d k (p + 1)) ∧
      (p + 1 = timesV l (d.getD k default) → s.drop (i + 1) = reps l (d.drop (k + 1)) ∧ (k + 1 = d.length → i + 1 = s.length) ∧ (k + 1 < d.length → i + 1 < s.length ∧ s.getD (i + 1) default ≠ d.getD k default)) := by
  obtain ⟨q, hq⟩ : ∃ q, timesV l (d.getD k default) - p = q + 1 := ⟨timesV l (d.getD k default) - p - 1, by omega⟩
  rw [leftV, hq, List.replicate_succ, List.cons_append] at h
  obtain ⟨h1, h2, h3⟩ := getD_drop h
  refine ⟨h1, h2, fun hlt => ?_, fun he => ?_⟩
  · obtain ⟨q', rfl⟩ : ∃ q', q = q' + 1 := ⟨q - 1, by omega⟩
    have h4 := h3
    rw [List.replicate_succ, List.cons_append] at h4
    obtain ⟨h5, h6, h7⟩ := getD_drop h4
    refine ⟨h5, h6, ?_⟩
    rw [h3, leftV, show timesV l (d.getD k default) - (p + 1) = q' + 1 by omega]
  · obtain rfl : q = 0 := by omega
    rw [List.replicate_zero, List.nil_append] at h3
    refine ⟨h3, fun hl => ?_, fun hl => ?_⟩
    · rw [List.drop_eq_nil_of_le (by omega : d.length ≤ k + 1), reps] at h3
      have := List.drop_eq_nil_iff.1 h3
      omega
    · rw [reps_drop hl] at h3
      have hm : d.getD (k + 1) default ∈ d := by simp [hl]
      have ht := times_pos (hmem _ hm)
      obtain ⟨q', hq'⟩ : ∃ q', timesV l (d.getD (k + 1) default) - 0 = q' + 1 := ⟨timesV l (d.getD (k + 1) default) - 1, by omega⟩
      rw [leftV, hq', List.replicate_succ, List.cons_append] at h3
      obtain ⟨h5, h6, _⟩ := getD_drop h3
      refine ⟨h5, fun he => ?_⟩
      have hlt : d[k].cmp d[k + 1] < 0 := (List.pairwise_iff_getElem.1 hd) k (k + 1) hk hl (by omega)
      rw [h6] at he
      simp only [List.getD_eq_getElem?_getD, List.getElem?_eq_getElem hl, List.getElem?_eq_getElem hk, Option.getD_some] at he
      rw [he] at hlt
      have := vl_cmp.self d[k]
      omega
theorem more_eq {b : Bar} {v : VL} {t p : Nat} (h : p + 1 = t) (hm : b.most = b.least) : (b.more v t) = ⟨if b.rows = 0 then v else b.lo, v, b.rows + p + 1, b.least + 1, b.least + 1⟩ := by
  simp only [Bar.more, hm, Bar.mk.injEq, true_and, and_true]
  omega
end Go.Proofs.Try

namespace Go.Proofs.Try
set_option linter.unusedVariables false

/-! ### how many changes there are in a list -/
def chg : List VL → Nat
  | x :: y :: r => (if x = y then 0 else 1) + chg (y :: r)
  | _ => 0
def cmpN : List VL → Nat
  | [] => 0
  | l => 1 + chg l
theorem chg_step {l : List VL} {i : Nat} (h : i + 1 < l.length) : chg (l.drop i) = (if l.getD i default = l.getD (i + 1) default then 0 else 1) + chg (l.drop (i + 1)) := by
  rw [List.drop_eq_getElem_cons (by omega : i < l.length), List.drop_eq_getElem_cons h, chg]
  simp [show i < l.length by omega, h]
theorem chg_last {l : List VL} {i : Nat} (h : l.length ≤ i + 1) : chg (l.drop i) = 0 := by
  have : (l.drop i).length ≤ 1 := by simp; omega
  generalize l.drop i = r at *
  match r with
  | [] => rfl
  | [x] => rfl
  | x :: y :: r => simp at this
theorem cmpN_pos {l : List VL} (h : 0 < l.length) : cmpN l = 1 + chg l := by
  cases l with
  | nil => simp at h
  | cons x l => rfl
theorem chg_rep (v : VL) (r : List VL) : ∀ n, chg (List.replicate (n + 1) v ++ r) = chg (v :: r)
  | 0 => rfl
  | n + 1 => by
    have ih := chg_rep v r n
    rw [List.replicate_succ, List.cons_append] at ih
    rw [List.replicate_succ, List.replicate_succ, List.cons_append, List.cons_append, chg, if_pos rfl, Nat.zero_add, ih]
theorem cmpN_reps {l : List VL} : ∀ {d : List VL}, ascV d → (∀ v ∈ d, v ∈ l) → cmpN (reps l d) = d.length
  | [], _, _ => rfl
  | v :: d, h, hm => by
    obtain ⟨h1, h2⟩ := List.pairwise_cons.1 h
    have ih := cmpN_reps h2 fun u hu => hm u (by simp [hu])
    obtain ⟨n, hn⟩ : ∃ n, timesV l v = n + 1 := ⟨timesV l v - 1, by have := times_pos (hm v (by simp)); omega⟩
    have e : cmpN (reps l (v :: d)) = 1 + chg (v :: reps l d) := by
      rw [reps, hn, cmpN_pos (by simp; omega), chg_rep]
    rw [e, List.length_cons, ← ih]
    cases hr : reps l d with
    | nil => rfl
    | cons u r =>
      have hu : u ∈ d := reps_mem (l := l) (by rw [hr]; simp)
      have hne : ¬ v = u := cmp_lt_ne (h1 u hu)
      rw [chg, if_neg hne]
      show 1 + (1 + chg (u :: r)) = cmpN (u :: r) + 1
      rw [cmpN_pos (by simp)]
      omega
theorem cmpN_sorted {l s : List VL} (hr : ∀ v ∈ l, v.Right) (hs : srtV s) (hp : s.Perm l) : cmpN s = (diffV l).length := by
  obtain ⟨h1, h2⟩ := diffV_spec l hr
  rw [srt_reps hr hs hp, cmpN_reps h1 fun v hv => (h2 v).1 hv]
theorem drop_same {a l : List VL} {q : Nat} (h : a.drop q = l.drop q) (hl : a.length = l.length) {j : Nat} (hj : q ≤ j) : a.getD j default = l.getD j default := by
  have e : ∀ x : List VL, x.getD j default = (x.drop q).getD (j - q) default := fun x => by
    simp [List.getD_eq_getElem?_getD, List.getElem?_drop, show q + (j - q) = j by omega]
  rw [e a, e l, h]
theorem drop_set {a : List VL} {q k : Nat} {v : VL} (h : k < q) : (a.set k v).drop q = a.drop q := by
  rw [List.drop_set, if_pos h]
end Go.Proofs.Try

namespace Go.Proofs.Try
set_option linter.unusedVariables false

/-! ### merging, as the code does it -/
def takes (b : Bar) : List Bar → Bool
  | [] => false
  | x :: _ => !decide (0 < b.rows) || b.meet x
/-- A bar with another one joined in. -/
def Bar.joinB (b x : Bar) : Bar :=
  ⟨if x.lo.cmp (if b.rows = 0 then x.lo else b.lo) < 0 then x.lo else (if b.rows = 0 then x.lo else b.lo),
   if 0 < x.hi.cmp (if b.rows = 0 then x.hi else b.hi) then x.hi else (if b.rows = 0 then x.hi else b.hi), b.rows + x.rows, b.least, b.most + x.most⟩
/-- The bar that is being made, the sums of the lower bounds of both sides, the ends, and what is left of both sides. -/
structure MS where
  bar : Bar
  l : Int
  r : Int
  ends : List VL
  xs : List Bar
  ys : List Bar
def MS.tookX (s : MS) (x : Bar) (xs : List Bar) : MS := ⟨s.bar.joinB x, s.l + x.least, s.r, s.ends ++ [x.lo, x.hi], xs, s.ys⟩
def MS.tookY (s : MS) (y : Bar) (ys : List Bar) : MS := ⟨s.bar.joinB y, s.l, s.r + y.least, s.ends ++ [y.lo, y.hi], s.xs, ys⟩
def MS.stepY (s : MS) : Option MS := match s.ys with
  | [] => none
  | y :: ys => if takes s.bar (y :: ys) = true then some (s.tookY y ys) else none
def MS.step (s : MS) : Option MS := match s.xs with
  | [] => s.stepY
  | x :: xs => if takes s.bar (x :: xs) = true then some (s.tookX x xs) else s.stepY
def MS.run : Nat → MS → MS
  | 0, s => s
  | n + 1, s => match s.step with
    | some s' => MS.run n s'
    | none => s
def MS.size (s : MS) : Nat := s.xs.length + s.ys.length
theorem MS.step_x {s : MS} {x : Bar} {xs : List Bar} (h : s.xs = x :: xs) (ht : takes s.bar s.xs = true) : s.step = some (s.tookX x xs) ∧ (s.tookX x xs).size + 1 = s.size := by
  rw [h] at ht
  unfold MS.step MS.size
  rw [h]
  simp only [ht, if_true, MS.tookX, List.length_cons, true_and]
  omega
theorem MS.step_y {s : MS} {y : Bar} {ys : List Bar} (h : s.ys = y :: ys) (hx : takes s.bar s.xs = false) (ht : takes s.bar s.ys = true) : s.step = some (s.tookY y ys) ∧ (s.tookY y ys).size + 1 = s.size := by
  have e : s.stepY = some (s.tookY y ys) := by
    unfold MS.stepY
    rw [h] at ht ⊢
    simp only [ht, if_true]
  refine ⟨?_, by unfold MS.size; rw [h]; simp [MS.tookY]; omega⟩
  unfold MS.step
  split
  · exact e
  · rename_i h1
    rw [h1] at hx
    simp only [hx, Bool.false_eq_true, if_false]
    exact e
theorem MS.step_no {s : MS} (hx : takes s.bar s.xs = false) (hy : takes s.bar s.ys = false) : s.step = none := by
  have e : s.stepY = none := by
    unfold MS.stepY
    split
    · rfl
    · rename_i h1
      rw [h1] at hy
      simp only [hy, Bool.false_eq_true, if_false]
  unfold MS.step
  split
  · exact e
  · rename_i h1
    rw [h1] at hx
    simp only [hx, Bool.false_eq_true, if_false]
    exact e
theorem MS.run_some {s s' : MS} (h : s.step = some s' ∧ s'.size + 1 = s.size) : MS.run s.size s = MS.run s'.size s' := by
  rw [← h.2, MS.run, h.1]
theorem MS.run_none {s : MS} (h : s.step = none) : MS.run s.size s = s := by
  generalize s.size = n
  cases n with
  | zero => rfl
  | succ n => rw [MS.run, h]
def MS.fin (s : MS) : Bar :=
  if s.bar.lo = s.bar.hi then ⟨s.bar.lo, s.bar.hi, s.bar.rows, 1, 1⟩
  else ⟨s.bar.lo, s.bar.hi, s.bar.rows, max (max s.l s.r) ((diffV s.ends).length : Int), min s.bar.most s.bar.rows⟩
/-- The first bar of the two sides. -/
def firstX (xs ys : List Bar) : Bool := match xs, ys with
  | [], _ => false
  | _ :: _, [] => true
  | x :: _, y :: _ => decide (x.lo.cmp y.lo ≤ 0)
def beginM (xs ys : List Bar) : MS := ⟨zBar, 0, 0, [], xs, ys⟩
def firstM (xs ys : List Bar) : MS := if firstX xs ys = true then (beginM xs ys).tookX (xs.headD default) xs.tail else (beginM xs ys).tookY (ys.headD default) ys.tail
def mergeC : Nat → List Bar → List Bar → List Bar
  | 0, _, _ => []
  | n + 1, xs, ys => if xs.length + ys.length = 0 then [] else
    (MS.run (firstM xs ys).size (firstM xs ys)).fin :: mergeC n (MS.run (firstM xs ys).size (firstM xs ys)).xs (MS.run (firstM xs ys).size (firstM xs ys)).ys
def kindsDiffer (a b : List Bar) : Bool := match a, b with
  | x :: _, y :: _ => !decide (x.lo.k = y.lo.k)
  | _, _ => false
def mergeH (f : List Bar → List Bar → List Bar) (a b : Hist) : Hist × Int :=
  if kindsDiffer a.bars b.bars = true then (h0, 7) else if 16777216 < a.rows + b.rows then (h0, 2) else (⟨a.rows + b.rows, a.nulls + b.nulls, f a.bars b.bars⟩, 0)

/-! ### merging, as the specification does it -/
structure Part where
  b : Bar
  left : Int
  right : Int
  ends : List VL
instance : Inhabited Part := ⟨⟨default, 0, 0, []⟩⟩
def Part.tog (p q : Part) : Part :=
  ⟨⟨if q.b.lo.cmp19 p.b.lo < 0 then q.b.lo else p.b.lo, if 0 < q.b.hi.cmp19 p.b.hi then q.b.hi else p.b.hi, p.b.rows + q.b.rows, p.b.least, p.b.most + q.b.most⟩, p.left + q.left, p.right + q.right, p.ends ++ q.ends⟩
/-- The first part that has to be joined. -/
def findM (l : List Part) (p : Part) : Option Nat := l.findIdx? fun q => q.b.meet19 p.b
def putN (l : List Part) (p : Part) : Nat → List Part × Bool
  | 0 => ([], false)
  | i + 1 =>
    let o := putN l p i
    let c := !o.2 && decide (p.b.lo.cmp19 (l.getD i default).b.lo < 0)
    ((if c = true then o.1 ++ [p] else o.1) ++ [l.getD i default], o.2 || c)
def putR (l : List Part) (p : Part) : List Part := if (putN l p l.length).2 = true then (putN l p l.length).1 else (putN l p l.length).1 ++ [p]
def addR : Nat → List Part → Part → List Part
  | 0, l, p => putR l p
  | n + 1, l, p => match findM l p with
    | some k => addR n (l.take k ++ l.drop (k + 1)) (p.tog (l.getD k default))
    | none => putR l p
def Part.fin (s : Part) : Bar :=
  if s.b.lo = s.b.hi then ⟨s.b.lo, s.b.hi, s.b.rows, 1, 1⟩
  else ⟨s.b.lo, s.b.hi, s.b.rows, max (max s.left s.right) ((diffV s.ends).length : Int), min s.b.most s.b.rows⟩
def partX (x : Bar) : Part := ⟨x, x.least, 0, [x.lo, x.hi]⟩
def partY (x : Bar) : Part := ⟨x, 0, x.least, [x.lo, x.hi]⟩
def addAll (l : List Part) (ps : List Part) : List Part := ps.foldl (fun l p => addR l.length l p) l
def mergeR (xs ys : List Bar) : List Bar := (addAll [] (xs.map partX ++ ys.map partY)).map Part.fin
end Go.Proofs.Try

/-
  Closed intervals that are joined where they overlap: the order of the joins doesn't matter.
-/
namespace Go.Ivl
set_option linter.unusedVariables false

structure Js (α : Type) where
  join : α → α → α
  lo : α → Int
  hi : α → Int
  comm : ∀ a b, join a b = join b a
  assoc : ∀ a b c, join (join a b) c = join a (join b c)
  lo_join : ∀ a b, lo (join a b) = min (lo a) (lo b)
  hi_join : ∀ a b, hi (join a b) = max (hi a) (hi b)

variable {α : Type} (J : Js α)
/-- Intervals in order, each of which overlaps the joined ones before it or begins a new one. -/
def sw : List α → List α
  | [] => []
  | [p] => [p]
  | p :: q :: r => if J.lo q ≤ J.hi p then sw (J.join p q :: r) else p :: sw (q :: r)
termination_by l => l.length
def okA (l : List α) : Prop := ∀ p ∈ l, J.lo p ≤ J.hi p
def asc (l : List α) : Prop := l.Pairwise fun p q => J.lo p ≤ J.lo q
/-- Apart, and in order. -/
def apart (l : List α) : Prop := l.Pairwise fun p q => J.hi p < J.lo q
def meets (p q : α) : Prop := J.lo p ≤ J.hi q ∧ J.lo q ≤ J.hi p
instance (p q : α) : Decidable (meets J p q) := by unfold meets; infer_instance
variable {J}
theorem sw_join {p q : α} {r : List α} (h : J.lo q ≤ J.hi p) : sw J (p :: q :: r) = sw J (J.join p q :: r) := by
  rw [sw, if_pos h]
theorem sw_next {p q : α} {r : List α} (h : ¬ J.lo q ≤ J.hi p) : sw J (p :: q :: r) = p :: sw J (q :: r) := by
  rw [sw, if_neg h]
theorem sw_one {p : α} : sw J [p] = [p] := by rw [sw]
theorem sw_nil : sw J [] = [] := by rw [sw]
theorem sw_apart : ∀ {l : List α}, apart J l → sw J l = l
  | [], _ => sw_nil
  | [p], _ => sw_one
  | p :: q :: r, h => by
    have h1 := (List.pairwise_cons.1 h).1 q (by simp)
    rw [sw_next (by omega), sw_apart (List.pairwise_cons.1 h).2]
variable [DecidableEq α]
/-- An element that overlaps the first one may be joined first. -/
theorem sw_take : ∀ (M : List α) (b e : α), (∀ p ∈ M, J.lo b ≤ J.lo p) → asc J M → e ∈ M → J.lo e ≤ J.hi b → sw J (b :: M) = sw J (J.join b e :: M.erase e)
  | [], b, e, _, _, he, _ => by simp at he
  | h :: M, b, e, hb, ha, he, hl => by
    obtain ⟨a1, a2⟩ := List.pairwise_cons.1 ha
    by_cases hq : h = e
    · subst hq
      rw [List.erase_cons_head, sw_join hl]
    · have he' : e ∈ M := by
        rcases List.mem_cons.1 he with h1 | h1
        · exact absurd h1.symm hq
        · exact h1
      have h1 := a1 e he'
      have h2 : J.lo h ≤ J.hi b := by omega
      rw [sw_join h2, List.erase_cons_tail (by simpa using hq)]
      have hlb := hb h (by simp)
      rw [sw_take M (J.join b h) e (fun p hp => by rw [J.lo_join]; have := hb p (by simp [hp]); omega) a2 he' (by rw [J.hi_join]; omega)]
      rw [sw_join (by rw [J.hi_join]; omega), J.assoc, J.assoc, J.comm h e]
theorem asc_perm_head {β : Type} {J : Js β} {a b : β} {M N : List β} (h1 : asc J (a :: M)) (h2 : asc J (b :: N)) (hp : (a :: M).Perm (b :: N)) : J.lo a = J.lo b := by
  have ha : a ∈ b :: N := hp.mem_iff.1 (by simp)
  have hb : b ∈ a :: M := hp.mem_iff.2 (by simp)
  have k1 : J.lo b ≤ J.lo a := by
    rcases List.mem_cons.1 ha with h | h
    · rw [h]; exact Int.le_refl _
    · exact (List.pairwise_cons.1 h2).1 a h
  have k2 : J.lo a ≤ J.lo b := by
    rcases List.mem_cons.1 hb with h | h
    · rw [h]; exact Int.le_refl _
    · exact (List.pairwise_cons.1 h1).1 b h
  omega
theorem asc_join {b e : α} {M : List α} (h : asc J (b :: M)) (he : e ∈ M) : asc J (J.join b e :: M.erase e) := by
  obtain ⟨h1, h2⟩ := List.pairwise_cons.1 h
  refine List.pairwise_cons.2 ⟨fun p hp => ?_, h2.sublist List.erase_sublist⟩
  have := h1 p (List.mem_of_mem_erase hp)
  rw [J.lo_join]; omega
theorem okA_join {b e : α} {M : List α} (h : okA J (b :: M)) (he : e ∈ M) : okA J (J.join b e :: M.erase e) := by
  intro p hp
  rcases List.mem_cons.1 hp with rfl | hp
  · have h1 := h b (by simp)
    have h2 := h e (by simp [he])
    rw [J.lo_join, J.hi_join]; omega
  · exact h p (by simp [List.mem_of_mem_erase hp])
/-- The order of those that begin alike doesn't matter. -/
theorem sw_perm : ∀ (n : Nat) (L1 L2 : List α), L1.length ≤ n → asc J L1 → asc J L2 → okA J L1 → L1.Perm L2 → sw J L1 = sw J L2
  | 0, L1, L2, hn, _, _, _, hp => by
    have h1 : L1 = [] := List.eq_nil_of_length_eq_zero (by omega)
    subst h1
    rw [hp.nil_eq]
  | n + 1, [], L2, _, _, _, _, hp => by rw [hp.nil_eq]
  | n + 1, a :: M, L2, hn, h1, h2, hk, hp => by
    cases L2 with
    | nil => exact absurd hp.length_eq (by simp)
    | cons b N =>
      have hlo := asc_perm_head h1 h2 hp
      simp only [List.length_cons] at hn
      have hab : ∀ p ∈ M, J.lo a ≤ J.lo p := (List.pairwise_cons.1 h1).1
      have hbb : ∀ p ∈ N, J.lo b ≤ J.lo p := (List.pairwise_cons.1 h2).1
      have am := (List.pairwise_cons.1 h1).2
      have an := (List.pairwise_cons.1 h2).2
      have hka := hk a (by simp)
      have hkb := hk b (hp.mem_iff.2 (by simp))
      by_cases hq : a = b
      · subst hq
        have hp2 := hp.cons_inv
        cases M with
        | nil => rw [hp2.nil_eq]
        | cons c M =>
          by_cases hc : J.lo c ≤ J.hi a
          · have hcN : c ∈ N := hp2.mem_iff.1 (by simp)
            rw [sw_take N a c hbb an hcN hc, sw_join hc]
            have hpe : (J.join a c :: M).Perm (J.join a c :: N.erase c) := List.Perm.cons _ (by
              have := hp2.erase c
              rwa [List.erase_cons_head] at this)
            have e : M = (c :: M).erase c := by rw [List.erase_cons_head]
            refine sw_perm n _ _ (by simpa using hn) ?_ (asc_join h2 hcN) ?_ hpe
            · rw [e]; exact asc_join h1 (by simp)
            · rw [e]; exact okA_join hk (by simp)
          · cases N with
            | nil => exact absurd hp2.length_eq (by simp)
            | cons d N =>
              have := asc_perm_head am an hp2
              rw [sw_next hc, sw_next (by omega), sw_perm n _ _ (by simpa using hn) am an (fun p hp => hk p (by simp [hp])) hp2]
      · have haN : a ∈ N := by
          rcases List.mem_cons.1 (hp.mem_iff.1 (by simp : a ∈ a :: M)) with h | h
          · exact absurd h hq
          · exact h
        have hbM : b ∈ M := by
          rcases List.mem_cons.1 (hp.mem_iff.2 (by simp : b ∈ b :: N)) with h | h
          · exact absurd h.symm hq
          · exact h
        rw [sw_take M a b hab am hbM (by omega), sw_take N b a hbb an haN (by omega), J.comm b a]
        have hpe : (M.erase b).Perm (N.erase a) := by
          have h3 := (hp.erase a).erase b
          rw [List.erase_cons_head, List.erase_cons_tail (by simpa using fun h => hq h.symm), List.erase_cons_head] at h3
          exact h3
        have hbi := J.comm a b
        refine sw_perm n _ _ ?_ (asc_join h1 hbM) (by rw [hbi]; exact asc_join h2 haN) (okA_join hk hbM) (List.Perm.cons _ hpe)
        have := List.length_erase_of_mem hbM
        have := List.length_pos_of_mem hbM
        simp only [List.length_cons]; omega
/-- Two that overlap may be joined anywhere. -/
theorem sw_mid : ∀ (n : Nat) (U : List α) (a b : α) (V : List α), U.length ≤ n → asc J (U ++ a :: V) → b ∈ V → J.lo b ≤ J.hi a → sw J (U ++ a :: V) = sw J (U ++ J.join a b :: V.erase b)
  | _, [], a, b, V, _, h, hb, hl => sw_take V a b (List.pairwise_cons.1 h).1 (List.pairwise_cons.1 h).2 hb hl
  | 0, u :: U, a, b, V, hn, _, _, _ => by simp at hn
  | n + 1, [u], a, b, V, hn, h, hb, hl => by
    obtain ⟨h1, h2⟩ := List.pairwise_cons.1 h
    obtain ⟨h3, h4⟩ := List.pairwise_cons.1 h2
    have hua := h1 a (by simp)
    have hab := h3 b hb
    have hjl : J.lo (J.join a b) = J.lo a := by rw [J.lo_join]; omega
    simp only [List.cons_append, List.nil_append]
    by_cases hc : J.lo a ≤ J.hi u
    · rw [sw_join hc, sw_join (by omega), sw_take V (J.join u a) b (fun p hp => by rw [J.lo_join]; have := h3 p hp; omega) h4 hb (by rw [J.hi_join]; omega), J.assoc]
    · rw [sw_next hc, sw_next (by omega), sw_take V a b h3 h4 hb hl]
  | n + 1, u :: u' :: U, a, b, V, hn, h, hb, hl => by
    obtain ⟨h1, h2⟩ := List.pairwise_cons.1 h
    simp only [List.cons_append]
    by_cases hc : J.lo u' ≤ J.hi u
    · rw [sw_join hc, sw_join hc]
      refine sw_mid n (J.join u u' :: U) a b V (by simpa using hn) ?_ hb hl
      refine List.pairwise_cons.2 ⟨fun p hp => ?_, (List.pairwise_cons.1 h2).2⟩
      have := h1 p (List.mem_cons_of_mem _ hp)
      have := h1 u' (by simp)
      rw [J.lo_join]; omega
    · rw [sw_next hc, sw_next hc]
      congr 1
      exact sw_mid n (u' :: U) a b V (by simpa using hn) h2 hb hl

/-- In order of their beginnings. -/
def srtA (J : Js α) (l : List α) : List α := l.mergeSort fun p q => decide (J.lo p ≤ J.lo q)
theorem srtA_asc {β : Type} {J : Js β} (l : List β) : asc J (srtA J l) := by
  have := List.pairwise_mergeSort (le := fun p q : β => decide (J.lo p ≤ J.lo q)) (fun a b c h1 h2 => by simp at *; omega) (fun a b => by simp; omega) l
  exact this.imp fun h => by simpa using h
theorem srtA_perm {β : Type} {J : Js β} (l : List β) : (srtA J l).Perm l := List.mergeSort_perm _ _
/-- What a list of intervals comes to. -/
def comp (J : Js α) (l : List α) : List α := sw J (srtA J l)
theorem comp_perm {l l' : List α} (hk : okA J l) (hp : l.Perm l') : comp J l = comp J l' :=
  sw_perm _ _ _ (Nat.le_refl _) (srtA_asc l) (srtA_asc l') (fun p h => hk p ((srtA_perm l).mem_iff.1 h)) ((srtA_perm l).trans (hp.trans (srtA_perm l').symm))
theorem comp_asc {l : List α} (hk : okA J l) (ha : asc J l) : comp J l = sw J l :=
  sw_perm _ _ _ (Nat.le_refl _) (srtA_asc l) ha (fun p h => hk p ((srtA_perm l).mem_iff.1 h)) (srtA_perm l)
theorem comp_apart {l : List α} (hk : okA J l) (ha : apart J l) : comp J l = l := by
  rw [comp_asc hk, sw_apart ha]
  exact List.Pairwise.imp_of_mem (fun {p q} hp hq h => by have := hk p hp; omega) ha
/-- **Two that overlap may be joined.** -/
theorem comp_join {a b : α} {K : List α} (hk : okA J (a :: b :: K)) (hm : meets J a b) : comp J (a :: b :: K) = comp J (J.join a b :: K) := by
  have main : ∀ a b : α, okA J (a :: b :: K) → meets J a b → J.lo a ≤ J.lo b → comp J (a :: b :: K) = comp J (J.join a b :: K) := by
    intro a b hk hm hle
    have hkj : okA J (J.join a b :: K) := by
      have := okA_join (b := a) (e := b) (M := b :: K) hk (by simp)
      rwa [List.erase_cons_head] at this
    obtain ⟨hm1, hm2⟩ := hm
    -- an order in which a stands ahead of b
    let S := srtA J (b :: K)
    have hbS : b ∈ S := (srtA_perm _).mem_iff.2 (by simp)
    have hS := srtA_asc (J := J) (b :: K)
    let U := S.filter fun p => decide (J.lo p < J.lo a)
    let V := S.filter fun p => !decide (J.lo p < J.lo a)
    have hbV : b ∈ V := List.mem_filter.2 ⟨hbS, by simp; omega⟩
    have hUV : (U ++ a :: V).Perm (a :: b :: K) := by
      refine List.perm_middle.trans (List.Perm.cons _ ?_)
      exact (List.filter_append_perm _ _).trans (srtA_perm _)
    have hasc : asc J (U ++ a :: V) := by
      refine List.pairwise_append.2 ⟨hS.sublist List.filter_sublist, List.pairwise_cons.2 ⟨fun p hp => ?_, hS.sublist List.filter_sublist⟩, fun p hp q hq => ?_⟩
      · have := (List.mem_filter.1 hp).2; simp at this; omega
      · have h1 := (List.mem_filter.1 hp).2
        simp at h1
        rcases List.mem_cons.1 hq with rfl | hq
        · omega
        · have h2 := (List.mem_filter.1 hq).2; simp at h2; omega
    have hasc2 : asc J (U ++ J.join a b :: V.erase b) := by
      obtain ⟨h1, h2, h3⟩ := List.pairwise_append.1 hasc
      obtain ⟨h4, h5⟩ := List.pairwise_cons.1 h2
      have hjl : J.lo (J.join a b) = J.lo a := by rw [J.lo_join]; omega
      refine List.pairwise_append.2 ⟨h1, List.pairwise_cons.2 ⟨fun p hp => by rw [hjl]; exact h4 p (List.mem_of_mem_erase hp), h5.sublist List.erase_sublist⟩, fun p hp q hq => ?_⟩
      rcases List.mem_cons.1 hq with rfl | hq
      · rw [hjl]; exact h3 p hp a (by simp)
      · exact h3 p hp q (by simp [List.mem_of_mem_erase hq])
    have hp2 : (U ++ J.join a b :: V.erase b).Perm (J.join a b :: K) := by
      refine List.perm_middle.trans (List.Perm.cons _ ?_)
      have h1 : (U ++ V).Perm (b :: K) := (List.filter_append_perm _ _).trans (srtA_perm _)
      have h2 := h1.erase b
      rw [List.erase_cons_head] at h2
      have h3 : b ∉ U := fun h => by have := (List.mem_filter.1 h).2; simp at this; omega
      rwa [List.erase_append_right _ h3] at h2
    rw [← comp_perm (fun p hp => hk p (hUV.mem_iff.1 hp)) hUV, ← comp_perm (fun p hp => hkj p (hp2.mem_iff.1 hp)) hp2]
    rw [comp_asc (fun p hp => hk p (hUV.mem_iff.1 hp)) hasc, comp_asc (fun p hp => hkj p (hp2.mem_iff.1 hp)) hasc2]
    exact sw_mid _ U a b V (Nat.le_refl _) hasc hbV hm2
  rcases Int.le_total (J.lo a) (J.lo b) with hle | hle
  · exact main a b hk hm hle
  · have hk2 : okA J (b :: a :: K) := fun p hp => hk p (by simp at hp ⊢; rcases hp with h | h | h <;> simp [h])
    rw [comp_perm hk (List.Perm.swap b a K), main b a hk2 ⟨hm.2, hm.1⟩ hle, J.comm]
end Go.Ivl

namespace Go.Ivl
variable {α : Type} {J : Js α} [DecidableEq α]
theorem comp_nil {β : Type} {J : Js β} : comp J [] = [] := by
  have : srtA J [] = [] := (srtA_perm (J := J) []).eq_nil
  rw [comp, this, sw_nil]
/-- What stands ahead of all the others stays. -/
theorem comp_head {s : α} {K : List α} (hk : okA J (s :: K)) (h : ∀ k ∈ K, J.hi s < J.lo k) : comp J (s :: K) = s :: comp J K := by
  have hp : (s :: K).Perm (s :: srtA J K) := List.Perm.cons _ (srtA_perm K).symm
  have hs := hk s (by simp)
  have hm : ∀ k ∈ srtA J K, J.hi s < J.lo k := fun k hk => h k ((srtA_perm K).mem_iff.1 hk)
  have ha : asc J (s :: srtA J K) := List.pairwise_cons.2 ⟨fun k hk => by have := hm k hk; omega, srtA_asc K⟩
  rw [comp_perm hk hp, comp_asc (fun p hp' => hk p (hp.mem_iff.2 hp')) ha, comp]
  cases hr : srtA J K with
  | nil => rw [sw_one, sw_nil]
  | cons q r =>
    rw [hr] at hm
    have := hm q (by simp)
    rw [sw_next (by omega)]
theorem okA_pq {p q : α} {r : List α} (hk : okA J (p :: q :: r)) : okA J (J.join p q :: r) := by
  have := okA_join (b := p) (e := q) (M := q :: r) hk (by simp)
  rwa [List.erase_cons_head] at this
theorem sw_ok : ∀ (n : Nat) (X : List α), X.length ≤ n → okA J X → okA J (sw J X)
  | _, [], _, h => by rw [sw_nil]; exact h
  | _, [p], _, h => by rw [sw_one]; exact h
  | 0, p :: q :: r, hn, _ => by simp at hn
  | n + 1, p :: q :: r, hn, h => by
    simp only [List.length_cons] at hn
    by_cases hc : J.lo q ≤ J.hi p
    · rw [sw_join hc]
      exact sw_ok n _ (by simp only [List.length_cons]; omega) (okA_pq h)
    · rw [sw_next hc]
      intro x hx
      rcases List.mem_cons.1 hx with rfl | hx
      · exact h x (by simp)
      · exact sw_ok n (q :: r) (by simp only [List.length_cons]; omega) (fun y hy => h y (by simp at hy ⊢; rcases hy with hy | hy <;> simp [hy])) x hx
theorem okA_append {β : Type} {J : Js β} {X Y : List β} : okA J (X ++ Y) ↔ okA J X ∧ okA J Y := by
  simp only [okA, List.mem_append]
  exact ⟨fun h => ⟨fun p hp => h p (.inl hp), fun p hp => h p (.inr hp)⟩, fun h p hp => hp.elim (h.1 p) (h.2 p)⟩
/-- What was joined already may stand with others. -/
theorem comp_sw : ∀ (n : Nat) (X Y : List α), X.length ≤ n → asc J X → okA J (X ++ Y) → comp J (sw J X ++ Y) = comp J (X ++ Y)
  | _, [], Y, _, _, _ => by rw [sw_nil]
  | _, [p], Y, _, _, _ => by rw [sw_one]
  | 0, p :: q :: r, Y, hn, _, _ => by simp at hn
  | n + 1, p :: q :: r, Y, hn, ha, hk => by
    simp only [List.length_cons] at hn
    by_cases hc : J.lo q ≤ J.hi p
    · rw [sw_join hc]
      have hk' : okA J (p :: q :: (r ++ Y)) := hk
      have ha' : asc J (J.join p q :: r) := by
        have := asc_join (b := p) (e := q) (M := q :: r) ha (by simp)
        rwa [List.erase_cons_head] at this
      rw [comp_sw n (J.join p q :: r) Y (by simp only [List.length_cons]; omega) ha' (okA_pq hk')]
      have hpq := (List.pairwise_cons.1 ha).1 q (by simp)
      have hq := hk q (by simp)
      exact (comp_join hk' ⟨by omega, hc⟩).symm
    · rw [sw_next hc]
      have hk2 := okA_append.1 hk
      have hqr : okA J (q :: r) := fun y hy => hk2.1 y (by simp at hy ⊢; rcases hy with hy | hy <;> simp [hy])
      have hok : okA J (p :: (sw J (q :: r) ++ Y)) := by
        intro x hx
        rcases List.mem_cons.1 hx with rfl | hx
        · exact hk x (by simp)
        · rcases List.mem_append.1 hx with hx | hx
          · exact sw_ok _ _ (Nat.le_refl _) hqr x hx
          · exact hk2.2 x hx
      have hok2 : okA J ((q :: r) ++ p :: Y) := okA_append.2 ⟨hqr, fun x hx => by
        rcases List.mem_cons.1 hx with rfl | hx
        · exact hk x (by simp)
        · exact hk2.2 x hx⟩
      have e1 : comp J (p :: (sw J (q :: r) ++ Y)) = comp J (sw J (q :: r) ++ p :: Y) := comp_perm hok List.perm_middle.symm
      have e2 : comp J ((q :: r) ++ p :: Y) = comp J (p :: ((q :: r) ++ Y)) := comp_perm hok2 List.perm_middle
      show comp J (p :: (sw J (q :: r) ++ Y)) = comp J (p :: ((q :: r) ++ Y))
      rw [e1, comp_sw n (q :: r) (p :: Y) (by simp only [List.length_cons]; omega) (List.pairwise_cons.1 ha).2 hok2, e2]
theorem comp_comp {X Y : List α} (hk : okA J (X ++ Y)) : comp J (comp J X ++ Y) = comp J (X ++ Y) := by
  have hp : (srtA J X ++ Y).Perm (X ++ Y) := (srtA_perm X).append_right Y
  have hk' : okA J (srtA J X ++ Y) := fun x hx => hk x (hp.mem_iff.1 hx)
  have e : comp J X = sw J (srtA J X) := rfl
  rw [e, comp_sw _ _ _ (Nat.le_refl _) (srtA_asc X) hk', comp_perm hk' hp]
theorem comp_ok {X : List α} (hk : okA J X) : okA J (comp J X) := sw_ok _ _ (Nat.le_refl _) fun p hp => hk p ((srtA_perm X).mem_iff.1 hp)
end Go.Ivl
namespace Go.Proofs.Try
open Go.Ivl
set_option linter.unusedVariables false

/-! ### both ways of merging -/
structure Ab where
  lo : Int
  hi : Int
  rows : Int
  most : Int
  left : Int
  right : Int
  ends : VL → Bool
def abJoin (a b : Ab) : Ab := ⟨min a.lo b.lo, max a.hi b.hi, a.rows + b.rows, a.most + b.most, a.left + b.left, a.right + b.right, fun v => a.ends v || b.ends v⟩
theorem ab_ext {a b : Ab} (h1 : a.lo = b.lo) (h2 : a.hi = b.hi) (h3 : a.rows = b.rows) (h4 : a.most = b.most) (h5 : a.left = b.left) (h6 : a.right = b.right) (h7 : ∀ v, a.ends v = b.ends v) : a = b := by
  cases a; cases b
  simp only at h1 h2 h3 h4 h5 h6 h7
  subst h1 h2 h3 h4 h5 h6
  congr 1
  exact funext h7
def abJ : Js Ab where
  join := abJoin
  lo := Ab.lo
  hi := Ab.hi
  comm a b := ab_ext (by simp only [abJoin]; omega) (by simp only [abJoin]; omega) (by simp only [abJoin]; omega) (by simp only [abJoin]; omega) (by simp only [abJoin]; omega) (by simp only [abJoin]; omega) (fun v => Bool.or_comm _ _)
  assoc a b c := ab_ext (by simp only [abJoin]; omega) (by simp only [abJoin]; omega) (by simp only [abJoin]; omega) (by simp only [abJoin]; omega) (by simp only [abJoin]; omega) (by simp only [abJoin]; omega) (fun v => Bool.or_assoc _ _ _)
  lo_join a b := rfl
  hi_join a b := rfl
noncomputable instance : DecidableEq Ab := fun a b => Classical.propDecidable (a = b)

section
variable {ρ : VL → Int} {V : List VL}
/-- Values whose order numbers tell. -/
structure Num (ρ : VL → Int) (V : List VL) : Prop where
  ord : ∀ x ∈ V, ∀ y ∈ V, (x.cmp y < 0 ↔ ρ x < ρ y) ∧ (x.cmp y = 0 ↔ ρ x = ρ y) ∧ (0 < x.cmp y ↔ ρ y < ρ x)
  right : ∀ v ∈ V, v.Right
  kind : ∀ x ∈ V, ∀ y ∈ V, x.k = y.k
theorem Num.eq (h : Num ρ V) {x y : VL} (hx : x ∈ V) (hy : y ∈ V) (e : ρ x = ρ y) : x = y := vl_cmp.eq _ _ ((h.ord x hx y hy).2.1.2 e)
theorem Num.c19 (h : Num ρ V) {x y : VL} (hx : x ∈ V) (hy : y ∈ V) : x.cmp19 y = x.cmp y := (VL.cmp_full (h.right x hx) (h.right y hy)).symm
def absP (ρ : VL → Int) (p : Part) : Ab := ⟨ρ p.b.lo, ρ p.b.hi, p.b.rows, p.b.most, p.left, p.right, fun v => decide (v ∈ p.ends)⟩
structure GoodP (ρ : VL → Int) (V : List VL) (p : Part) : Prop where
  lo : p.b.lo ∈ V
  hi : p.b.hi ∈ V
  le : ρ p.b.lo ≤ ρ p.b.hi
  ends : ∀ v ∈ p.ends, v ∈ V
  rows : 1 ≤ p.b.rows
theorem tog_spec (h : Num ρ V) {p q : Part} (hp : GoodP ρ V p) (hq : GoodP ρ V q) : GoodP ρ V (p.tog q) ∧ absP ρ (p.tog q) = abJ.join (absP ρ p) (absP ρ q) := by
  have a := (h.ord _ hq.lo _ hp.lo).1
  have b := (h.ord _ hq.hi _ hp.hi).2.2
  have h1 := hp.le
  have h2 := hq.le
  have h3 := hp.rows
  have h4 := hq.rows
  have hlo : ρ (p.tog q).b.lo = min (ρ p.b.lo) (ρ q.b.lo) := by
    simp only [Part.tog, h.c19 hq.lo hp.lo]
    split <;> omega
  have hhi : ρ (p.tog q).b.hi = max (ρ p.b.hi) (ρ q.b.hi) := by
    simp only [Part.tog, h.c19 hq.hi hp.hi]
    split <;> omega
  refine ⟨⟨?_, ?_, by rw [hlo, hhi]; omega, fun v hv => ?_, by simp only [Part.tog]; omega⟩, ?_⟩
  · simp only [Part.tog]; split
    · exact hq.lo
    · exact hp.lo
  · simp only [Part.tog]; split
    · exact hq.hi
    · exact hp.hi
  · rcases List.mem_append.1 hv with hv | hv
    · exact hp.ends v hv
    · exact hq.ends v hv
  · refine ab_ext hlo hhi rfl rfl rfl rfl fun v => ?_
    simp [absP, Part.tog, abJ, abJoin]
/-- The parts are apart, in order. -/
def apartP (ρ : VL → Int) (l : List Part) : Prop := l.Pairwise fun p q => ρ p.b.hi < ρ q.b.lo
theorem apart_abs {l : List Part} (h : apartP ρ l) : apart abJ (l.map (absP ρ)) := List.pairwise_map.2 h
theorem ok_abs {l : List Part} (h : ∀ p ∈ l, GoodP ρ V p) : okA abJ (l.map (absP ρ)) := by
  intro a ha
  obtain ⟨p, hp, rfl⟩ := List.mem_map.1 ha
  exact (h p hp).le
theorem meet19_iff (h : Num ρ V) {p q : Part} (hp : GoodP ρ V p) (hq : GoodP ρ V q) : q.b.meet19 p.b = true ↔ meets abJ (absP ρ p) (absP ρ q) := by
  have a := (h.ord _ hq.lo _ hp.hi)
  have b := (h.ord _ hp.lo _ hq.hi)
  have k := h.kind _ hq.lo _ hp.lo
  simp only [Bar.meet19, Bool.and_eq_true, decide_eq_true_eq, h.c19 hq.lo hp.hi, h.c19 hp.lo hq.hi, meets, abJ, absP]
  omega
/-- Where a part is put. -/
theorem putN_spec (l : List Part) (p : Part) : ∀ i, i ≤ l.length → ((putN l p i).2 = false → (putN l p i).1 = l.take i ∧ ∀ q ∈ l.take i, ¬ p.b.lo.cmp19 q.b.lo < 0) ∧
    ((putN l p i).2 = true → ∃ j, j < i ∧ (putN l p i).1 = l.take j ++ p :: (l.take i).drop j ∧ (∀ q ∈ l.take j, ¬ p.b.lo.cmp19 q.b.lo < 0) ∧ p.b.lo.cmp19 (l.getD j default).b.lo < 0)
  | 0, _ => by simp [putN]
  | i + 1, hi => by
    have hil : i < l.length := by omega
    have hx : l.getD i default = l[i] := by simp [hil]
    obtain ⟨h1, h2⟩ := putN_spec l p i (by omega)
    have e : putN l p (i + 1) = ((if (!(putN l p i).2 && decide (p.b.lo.cmp19 (l.getD i default).b.lo < 0)) = true then (putN l p i).1 ++ [p] else (putN l p i).1) ++ [l.getD i default], (putN l p i).2 || (!(putN l p i).2 && decide (p.b.lo.cmp19 (l.getD i default).b.lo < 0))) := rfl
    rw [e, hx, List.take_succ_eq_append_getElem hil]
    rcases hw : putN l p i with ⟨o, b⟩
    simp only [hw] at h1 h2 ⊢
    cases b with
    | false =>
      obtain ⟨h3, h4⟩ := h1 rfl
      subst h3
      by_cases hc : p.b.lo.cmp19 l[i].b.lo < 0
      · simp only [Bool.not_false, Bool.true_and, decide_eq_true hc, if_true, Bool.or_true, Bool.true_eq_false, false_implies, true_and, forall_const]
        refine ⟨i, by omega, ?_, h4, by rw [hx]; exact hc⟩
        have : (l.take i).length = i := by simp; omega
        rw [List.drop_append, this, Nat.sub_self, List.drop_zero, List.drop_eq_nil_of_le (by omega)]
        simp
      · simp only [Bool.not_false, Bool.true_and, decide_eq_false hc, Bool.false_eq_true, if_false, Bool.or_false, false_implies, and_true, forall_const, true_and]
        intro q hq
        rcases List.mem_append.1 hq with hq | hq
        · exact h4 q hq
        · simp only [List.mem_singleton] at hq; rw [hq]; exact hc
    | true =>
      obtain ⟨j, h3, h4, h5, h6⟩ := h2 rfl
      subst h4
      simp only [Bool.not_true, Bool.false_and, Bool.false_eq_true, if_false, Bool.true_or, Bool.true_eq_false, false_implies, true_and, forall_const]
      refine ⟨j, by omega, ?_, h5, h6⟩
      have : (l.take i).length = i := by simp; omega
      rw [List.drop_append, this, show j - i = 0 by omega, List.drop_zero]
      simp
theorem putR_spec (l : List Part) (p : Part) : ∃ A B, l = A ++ B ∧ putR l p = A ++ p :: B ∧ (∀ q ∈ A, ¬ p.b.lo.cmp19 q.b.lo < 0) ∧ (∀ q r, B = q :: r → p.b.lo.cmp19 q.b.lo < 0) := by
  obtain ⟨h1, h2⟩ := putN_spec l p l.length (Nat.le_refl _)
  rw [List.take_length] at h1 h2
  unfold putR
  split
  · rename_i h
    obtain ⟨j, h3, h4, h5, h6⟩ := h2 h
    refine ⟨l.take j, l.drop j, by simp, h4, h5, fun q r hq => ?_⟩
    rw [List.drop_eq_getElem_cons h3, List.cons.injEq] at hq
    rw [← hq.1]
    simpa [h3] using h6
  · rename_i h
    obtain ⟨h3, h4⟩ := h1 (by simpa using h)
    exact ⟨l, [], by simp, by rw [h3], h4, fun q r hq => by cases hq⟩
theorem add_spec (h : Num ρ V) : ∀ (n : Nat) (l : List Part) (p : Part), l.length = n → (∀ q ∈ l, GoodP ρ V q) → GoodP ρ V p → apartP ρ l →
    (∀ q ∈ addR n l p, GoodP ρ V q) ∧ apartP ρ (addR n l p) ∧ (addR n l p).map (absP ρ) = comp abJ (absP ρ p :: l.map (absP ρ))
  | n, l, p, hn, hl, hp, ha => by
    have none_case : findM l p = none → (∀ q ∈ putR l p, GoodP ρ V q) ∧ apartP ρ (putR l p) ∧ (putR l p).map (absP ρ) = comp abJ (absP ρ p :: l.map (absP ρ)) := by
      intro hf
      have hno : ∀ q ∈ l, ¬ meets abJ (absP ρ p) (absP ρ q) := fun q hq hm => by
        have := List.findIdx?_eq_none_iff.1 hf q hq
        rw [(meet19_iff h hp (hl q hq)).2 hm] at this
        cases this
      obtain ⟨A, B, h1, h2, h3, h4⟩ := putR_spec l p
      have hgood : ∀ q ∈ putR l p, GoodP ρ V q := fun q hq => by
        rw [h2] at hq
        rcases List.mem_append.1 hq with hq | hq
        · exact hl q (by rw [h1]; simp [hq])
        · rcases List.mem_cons.1 hq with rfl | hq
          · exact hp
          · exact hl q (by rw [h1]; simp [hq])
      have ha' := ha
      rw [apartP, h1] at ha'
      obtain ⟨a1, a2, a3⟩ := List.pairwise_append.1 ha'
      have hpl := hp.le
      have hB : ∀ q ∈ B, ρ p.b.hi < ρ q.b.lo := by
        cases hBc : B with
        | nil => intro q hq; cases hq
        | cons b0 B0 =>
          have hb0m : b0 ∈ l := by rw [h1, hBc]; simp
          have g0 := hl b0 hb0m
          have c0 := h4 b0 B0 hBc
          rw [h.c19 hp.lo g0.lo, (h.ord _ hp.lo _ g0.lo).1] at c0
          have n0 := hno b0 hb0m
          simp only [meets, abJ, absP] at n0
          have g0l := g0.le
          have e0 : ρ p.b.hi < ρ b0.b.lo := by omega
          rw [hBc] at a2
          intro q hq
          rcases List.mem_cons.1 hq with rfl | hq
          · exact e0
          · have := (List.pairwise_cons.1 a2).1 q hq
            omega
      have hA : ∀ q ∈ A, ρ q.b.hi < ρ p.b.lo := fun q hq => by
        have hqm : q ∈ l := by rw [h1]; simp [hq]
        have g0 := hl q hqm
        have c0 := h3 q hq
        rw [h.c19 hp.lo g0.lo, (h.ord _ hp.lo _ g0.lo).1] at c0
        have n0 := hno q hqm
        simp only [meets, abJ, absP] at n0
        have g0l := g0.le
        omega
      have hap : apartP ρ (putR l p) := by
        rw [apartP, h2]
        refine List.pairwise_append.2 ⟨a1, List.pairwise_cons.2 ⟨hB, a2⟩, fun q hq r hr => ?_⟩
        rcases List.mem_cons.1 hr with rfl | hr
        · exact hA q hq
        · exact a3 q hq r hr
      refine ⟨hgood, hap, ?_⟩
      have hperm : (putR l p).Perm (p :: l) := by rw [h2, h1]; exact List.perm_middle
      rw [← comp_apart (ok_abs hgood) (apart_abs hap)]
      exact comp_perm (ok_abs hgood) (hperm.map (absP ρ))
    cases n with
    | zero =>
      have hl0 : l = [] := List.eq_nil_of_length_eq_zero hn
      subst hl0
      exact none_case rfl
    | succ n =>
      rw [addR]
      cases hf : findM l p with
      | none => exact none_case hf
      | some k =>
        obtain ⟨hk, hm, _⟩ := List.findIdx?_eq_some_iff_getElem.1 hf
        have hd : l.getD k default = l[k] := by simp [hk]
        have e : l = l.take k ++ l[k] :: l.drop (k + 1) := by simp
        have hkm : l[k] ∈ l := List.getElem_mem _
        have hsub : (l.take k ++ l.drop (k + 1)).Sublist l := by
          conv => rhs; rw [e]
          exact List.Sublist.append (List.Sublist.refl _) (List.sublist_cons_self _ _)
        have hrest : ∀ q ∈ l.take k ++ l.drop (k + 1), GoodP ρ V q := fun q hq => hl q (hsub.subset hq)
        obtain ⟨t1, t2⟩ := tog_spec h hp (hl _ hkm)
        simp only
        rw [hd]
        obtain ⟨i1, i2, i3⟩ := add_spec h n (l.take k ++ l.drop (k + 1)) (p.tog l[k]) (by simp; omega) hrest t1 (ha.sublist hsub)
        refine ⟨i1, i2, ?_⟩
        have hmt := (meet19_iff h hp (hl _ hkm)).1 hm
        have hperm : (p :: l).Perm (p :: l[k] :: (l.take k ++ l.drop (k + 1))) := by
          refine List.Perm.cons _ ?_
          conv => lhs; rw [e]
          exact List.perm_middle
        have hgp : ∀ q ∈ p :: l, GoodP ρ V q := fun q hq => by
          rcases List.mem_cons.1 hq with rfl | hq
          · exact hp
          · exact hl q hq
        have hgp2 : ∀ q ∈ p :: l[k] :: (l.take k ++ l.drop (k + 1)), GoodP ρ V q := fun q hq => hgp q (hperm.mem_iff.2 hq)
        rw [i3, t2]
        have e1 := comp_perm (J := abJ) (ok_abs hgp) (hperm.map (absP ρ))
        have e2 := comp_join (J := abJ) (a := absP ρ p) (b := absP ρ l[k]) (K := (l.take k ++ l.drop (k + 1)).map (absP ρ)) (ok_abs hgp2) hmt
        simp only [List.map_cons] at e1 e2
        rw [e1, e2]
theorem addAll_spec (h : Num ρ V) : ∀ (ps l : List Part), (∀ q ∈ l, GoodP ρ V q) → (∀ q ∈ ps, GoodP ρ V q) → apartP ρ l →
    (∀ q ∈ addAll l ps, GoodP ρ V q) ∧ apartP ρ (addAll l ps) ∧ (addAll l ps).map (absP ρ) = comp abJ ((l ++ ps).map (absP ρ))
  | [], l, hl, _, ha => by
    refine ⟨hl, ha, ?_⟩
    rw [List.append_nil]
    exact (comp_apart (ok_abs hl) (apart_abs ha)).symm
  | p :: ps, l, hl, hps, ha => by
    obtain ⟨h1, h2, h3⟩ := add_spec h l.length l p rfl hl (hps p (by simp)) ha
    obtain ⟨h4, h5, h6⟩ := addAll_spec h ps (addR l.length l p) h1 (fun q hq => hps q (by simp [hq])) h2
    refine ⟨h4, h5, ?_⟩
    show (addAll (addR l.length l p) ps).map (absP ρ) = _
    rw [h6]
    have hgood : ∀ q ∈ (p :: l) ++ ps, GoodP ρ V q := fun q hq => by
      rcases List.mem_append.1 hq with hq | hq
      · rcases List.mem_cons.1 hq with rfl | hq
        · exact hps q (by simp)
        · exact hl q hq
      · exact hps q (by simp [hq])
    have hk := ok_abs hgood
    rw [List.map_append] at hk
    rw [List.map_append, h3]
    have e := comp_comp (J := abJ) (X := absP ρ p :: l.map (absP ρ)) (Y := ps.map (absP ρ)) hk
    rw [e]
    have hperm : ((p :: l) ++ ps).Perm (l ++ p :: ps) := List.perm_middle.symm
    have := comp_perm (J := abJ) (ok_abs hgood) (hperm.map (absP ρ))
    rw [List.map_append] at this
    exact this
end
end Go.Proofs.Try

namespace Go.Proofs.Try
open Go.Ivl
set_option linter.unusedVariables false

/-! ### the code's way -/
def MS.part (s : MS) : Part := ⟨s.bar, s.l, s.r, s.ends⟩
theorem MS.fin_part (s : MS) : s.fin = s.part.fin := rfl
section
variable {ρ : VL → Int} {V : List VL}
/-- Bars of one side: in order, apart. -/
def apartB (ρ : VL → Int) (l : List Bar) : Prop := l.Pairwise fun p q => ρ p.hi < ρ q.lo
/-- What is still to come. -/
def MS.rest (ρ : VL → Int) (s : MS) : List Ab := s.xs.map (fun x => absP ρ (partX x)) ++ s.ys.map (fun y => absP ρ (partY y))
structure SideOk (ρ : VL → Int) (V : List VL) (xs : List Bar) : Prop where
  good : ∀ x ∈ xs, x.lo ∈ V ∧ x.hi ∈ V ∧ ρ x.lo ≤ ρ x.hi ∧ 1 ≤ x.rows
  apart : apartB ρ xs
theorem SideOk.tail {x : Bar} {xs : List Bar} (h : SideOk ρ V (x :: xs)) : SideOk ρ V xs := ⟨fun y hy => h.good y (by simp [hy]), (List.pairwise_cons.1 h.apart).2⟩
theorem SideOk.px {xs : List Bar} (h : SideOk ρ V xs) {x : Bar} (hx : x ∈ xs) : GoodP ρ V (partX x) := by
  obtain ⟨a, b, c, d⟩ := h.good x hx
  exact ⟨a, b, c, fun v hv => by simp [partX] at hv; rcases hv with rfl | rfl <;> assumption, d⟩
theorem SideOk.py {xs : List Bar} (h : SideOk ρ V xs) {x : Bar} (hx : x ∈ xs) : GoodP ρ V (partY x) := by
  obtain ⟨a, b, c, d⟩ := h.good x hx
  exact ⟨a, b, c, fun v hv => by simp [partY] at hv; rcases hv with rfl | rfl <;> assumption, d⟩
/-- All that follows begins behind the first one. -/
theorem SideOk.first {x : Bar} {xs : List Bar} (h : SideOk ρ V (x :: xs)) {y : Bar} (hy : y ∈ x :: xs) : ρ x.lo ≤ ρ y.lo := by
  rcases List.mem_cons.1 hy with rfl | hy
  · exact Int.le_refl _
  · have := (List.pairwise_cons.1 h.apart).1 y hy
    have := (h.good x (by simp)).2.2.1
    omega
structure MInv (ρ : VL → Int) (V : List VL) (s : MS) : Prop where
  good : GoodP ρ V s.part
  xs : SideOk ρ V s.xs
  ys : SideOk ρ V s.ys
  least : ∀ x, x ∈ s.xs ∨ x ∈ s.ys → ρ s.bar.lo ≤ ρ x.lo
theorem takes_iff (h : Num ρ V) {s : MS} (hi : MInv ρ V s) {x : Bar} {xs : List Bar} (hx : x.lo ∈ V ∧ x.hi ∈ V) : takes s.bar (x :: xs) = true ↔ ρ s.bar.lo ≤ ρ x.hi ∧ ρ x.lo ≤ ρ s.bar.hi := by
  have a := h.ord _ hi.good.lo _ hx.2
  have b := h.ord _ hx.1 _ hi.good.hi
  have r := hi.good.rows
  simp only [MS.part] at a b r
  simp only [takes, Bar.meet, Bool.or_eq_true, Bool.not_eq_true', decide_eq_false_iff_not, Bool.and_eq_true, decide_eq_true_eq]
  omega
theorem joinB_tog (h : Num ρ V) {s : MS} (hi : MInv ρ V s) {x : Bar} (hx : x.lo ∈ V ∧ x.hi ∈ V) (l r : Int) (e : List VL) :
    s.bar.joinB x = (s.part.tog ⟨x, l, r, e⟩).b := by
  have r := hi.good.rows
  simp only [MS.part] at r
  have c1 := h.c19 hx.1 hi.good.lo
  have c2 := h.c19 hx.2 hi.good.hi
  simp only [MS.part] at c1 c2
  simp only [Bar.joinB, Part.tog, MS.part, if_neg (show ¬ s.bar.rows = 0 by omega), c1, c2]
theorem tookX_part (h : Num ρ V) {s : MS} (hi : MInv ρ V s) {x : Bar} (hx : x.lo ∈ V ∧ x.hi ∈ V) (xs : List Bar) : (s.tookX x xs).part = s.part.tog (partX x) := by
  have e := joinB_tog h hi hx x.least 0 [x.lo, x.hi]
  show (⟨s.bar.joinB x, s.l + x.least, s.r, s.ends ++ [x.lo, x.hi]⟩ : Part) = _
  rw [e]
  simp only [Part.tog, partX, MS.part, Int.add_zero]
  rfl
theorem tookY_part (h : Num ρ V) {s : MS} (hi : MInv ρ V s) {x : Bar} (hx : x.lo ∈ V ∧ x.hi ∈ V) (ys : List Bar) : (s.tookY x ys).part = s.part.tog (partY x) := by
  have e := joinB_tog h hi hx 0 x.least [x.lo, x.hi]
  show (⟨s.bar.joinB x, s.l, s.r + x.least, s.ends ++ [x.lo, x.hi]⟩ : Part) = _
  rw [e]
  simp only [Part.tog, partY, MS.part, Int.add_zero]
  rfl
theorem rest_ok {s : MS} (hi : MInv ρ V s) : okA abJ (absP ρ s.part :: s.rest ρ) := by
  intro a ha
  rcases List.mem_cons.1 ha with rfl | ha
  · exact hi.good.le
  · rcases List.mem_append.1 ha with ha | ha
    · obtain ⟨x, hx, rfl⟩ := List.mem_map.1 ha
      exact (hi.xs.px hx).le
    · obtain ⟨x, hx, rfl⟩ := List.mem_map.1 ha
      exact (hi.ys.py hx).le
theorem tog_lo (h : Num ρ V) {p q : Part} (hp : GoodP ρ V p) (hq : GoodP ρ V q) : ρ (p.tog q).b.lo = min (ρ p.b.lo) (ρ q.b.lo) := congrArg Ab.lo (tog_spec h hp hq).2
/-- One step. -/
theorem step_spec (h : Num ρ V) {s s' : MS} (hi : MInv ρ V s) (hs : s.step = some s') : MInv ρ V s' ∧ s'.size + 1 = s.size ∧ comp abJ (absP ρ s'.part :: s'.rest ρ) = comp abJ (absP ρ s.part :: s.rest ρ) := by
  by_cases hx : takes s.bar s.xs = true
  · cases hxs : s.xs with
    | nil => rw [hxs] at hx; cases hx
    | cons x xs =>
      obtain ⟨e1, e2⟩ := MS.step_x hxs hx
      rw [e1] at hs
      cases hs
      have hxm : x ∈ s.xs := by rw [hxs]; simp
      obtain ⟨g1, g2, g3, g4⟩ := hi.xs.good x hxm
      rw [hxs] at hx
      have hm := (takes_iff h hi ⟨g1, g2⟩).1 hx
      obtain ⟨t1, t2⟩ := tog_spec h hi.good (hi.xs.px hxm)
      have ep := tookX_part h hi ⟨g1, g2⟩ xs
      have hlo := hi.least x (.inl hxm)
      have hlo2 : ρ (s.tookX x xs).bar.lo = ρ s.bar.lo := by
        show ρ (s.tookX x xs).part.b.lo = _
        rw [ep, tog_lo h hi.good (hi.xs.px hxm)]
        show min (ρ s.bar.lo) (ρ x.lo) = _
        omega
      have hxs' : SideOk ρ V (x :: xs) := hxs ▸ hi.xs
      refine ⟨⟨by rw [ep]; exact t1, hxs'.tail, hi.ys, fun y hy => ?_⟩, e2, ?_⟩
      · rw [hlo2]
        rcases hy with hy | hy
        · exact hi.least y (.inl (by rw [hxs]; exact List.mem_cons_of_mem _ hy))
        · exact hi.least y (.inr hy)
      · have hr : s.rest ρ = absP ρ (partX x) :: (s.tookX x xs).rest ρ := by
          simp only [MS.rest, hxs, MS.tookX, List.map_cons, List.cons_append]
        have hok := rest_ok hi
        rw [hr] at hok ⊢
        rw [ep, t2]
        exact (comp_join hok ⟨hm.1, hm.2⟩).symm
  · have hx' : takes s.bar s.xs = false := by simpa using hx
    by_cases hy : takes s.bar s.ys = true
    · cases hys : s.ys with
      | nil => rw [hys] at hy; cases hy
      | cons y ys =>
        obtain ⟨e1, e2⟩ := MS.step_y hys hx' hy
        rw [e1] at hs
        cases hs
        have hym : y ∈ s.ys := by rw [hys]; simp
        obtain ⟨g1, g2, g3, g4⟩ := hi.ys.good y hym
        rw [hys] at hy
        have hm := (takes_iff h hi ⟨g1, g2⟩).1 hy
        obtain ⟨t1, t2⟩ := tog_spec h hi.good (hi.ys.py hym)
        have ep := tookY_part h hi ⟨g1, g2⟩ ys
        have hlo := hi.least y (.inr hym)
        have hlo2 : ρ (s.tookY y ys).bar.lo = ρ s.bar.lo := by
          show ρ (s.tookY y ys).part.b.lo = _
          rw [ep, tog_lo h hi.good (hi.ys.py hym)]
          show min (ρ s.bar.lo) (ρ y.lo) = _
          omega
        have hys' : SideOk ρ V (y :: ys) := hys ▸ hi.ys
        refine ⟨⟨by rw [ep]; exact t1, hi.xs, hys'.tail, fun z hz => ?_⟩, e2, ?_⟩
        · rw [hlo2]
          rcases hz with hz | hz
          · exact hi.least z (.inl hz)
          · exact hi.least z (.inr (by rw [hys]; exact List.mem_cons_of_mem _ hz))
        · have hr : s.rest ρ = s.xs.map (fun x => absP ρ (partX x)) ++ absP ρ (partY y) :: ys.map (fun y => absP ρ (partY y)) := by
            simp only [MS.rest, hys, List.map_cons]
          have hok := rest_ok hi
          have hp : (absP ρ s.part :: s.rest ρ).Perm (absP ρ s.part :: absP ρ (partY y) :: (s.tookY y ys).rest ρ) := by
            rw [hr]
            exact List.Perm.cons _ List.perm_middle
          rw [comp_perm hok hp, ep, t2]
          exact (comp_join (fun a ha => hok a (hp.mem_iff.2 ha)) ⟨hm.1, hm.2⟩).symm
    · rw [MS.step_no hx' (by simpa using hy)] at hs
      cases hs
theorem run_spec (h : Num ρ V) : ∀ (n : Nat) (s : MS), s.size = n → MInv ρ V s → MInv ρ V (MS.run n s) ∧ (MS.run n s).step = none ∧ (MS.run n s).size ≤ n ∧ comp abJ (absP ρ (MS.run n s).part :: (MS.run n s).rest ρ) = comp abJ (absP ρ s.part :: s.rest ρ)
  | 0, s, hn, hi => by
    refine ⟨hi, ?_, Nat.le_of_eq hn, rfl⟩
    simp only [MS.size] at hn
    have h1 : s.xs = [] := List.eq_nil_of_length_eq_zero (by omega)
    have h2 : s.ys = [] := List.eq_nil_of_length_eq_zero (by omega)
    show s.step = none
    exact MS.step_no (by rw [h1]; rfl) (by rw [h2]; rfl)
  | n + 1, s, hn, hi => by
    rw [MS.run]
    cases hs : s.step with
    | none => exact ⟨hi, hs, Nat.le_of_eq hn, rfl⟩
    | some s' =>
      obtain ⟨h1, h2, h3⟩ := step_spec h hi hs
      obtain ⟨h4, h5, h6, h7⟩ := run_spec h n s' (by omega) h1
      simp only
      exact ⟨h4, h5, by omega, h7.trans h3⟩
/-- Where nothing can be joined any more, all the rest lies behind. -/
theorem end_spec (h : Num ρ V) {s : MS} (hi : MInv ρ V s) (hs : s.step = none) : ∀ k ∈ s.rest ρ, (absP ρ s.part).hi < k.lo := by
  have hx : takes s.bar s.xs = false := by
    cases hc : takes s.bar s.xs with
    | false => rfl
    | true =>
      cases hxs : s.xs with
      | nil => rw [hxs] at hc; cases hc
      | cons x xs => rw [(MS.step_x hxs hc).1] at hs; cases hs
  have hy : takes s.bar s.ys = false := by
    cases hc : takes s.bar s.ys with
    | false => rfl
    | true =>
      cases hys : s.ys with
      | nil => rw [hys] at hc; cases hc
      | cons y ys => rw [(MS.step_y hys hx hc).1] at hs; cases hs
  have side : ∀ l : List Bar, SideOk ρ V l → (∀ x ∈ l, ρ s.bar.lo ≤ ρ x.lo) → takes s.bar l = false → ∀ x ∈ l, ρ s.bar.hi < ρ x.lo := by
    intro l hl hle ht x hx
    cases l with
    | nil => cases hx
    | cons y l =>
      obtain ⟨g1, g2, g3, g4⟩ := hl.good y (by simp)
      have h1 := hle y (by simp)
      have h2 : ¬ (ρ s.bar.lo ≤ ρ y.hi ∧ ρ y.lo ≤ ρ s.bar.hi) := fun hm => by
        rw [(takes_iff h hi ⟨g1, g2⟩).2 hm] at ht
        cases ht
      have h3 := hl.first hx
      omega
  intro k hk
  rcases List.mem_append.1 hk with hk | hk
  · obtain ⟨x, hx', rfl⟩ := List.mem_map.1 hk
    exact side s.xs hi.xs (fun x hx => hi.least x (.inl hx)) hx x hx'
  · obtain ⟨y, hy', rfl⟩ := List.mem_map.1 hk
    exact side s.ys hi.ys (fun x hx => hi.least x (.inr hx)) hy y hy'
def mergeP : Nat → List Bar → List Bar → List Part
  | 0, _, _ => []
  | n + 1, xs, ys => if xs.length + ys.length = 0 then [] else
    (MS.run (firstM xs ys).size (firstM xs ys)).part :: mergeP n (MS.run (firstM xs ys).size (firstM xs ys)).xs (MS.run (firstM xs ys).size (firstM xs ys)).ys
theorem mergeC_eq : ∀ (n : Nat) (xs ys : List Bar), mergeC n xs ys = (mergeP n xs ys).map Part.fin
  | 0, _, _ => rfl
  | n + 1, xs, ys => by
    rw [mergeC, mergeP]
    split
    · rfl
    · rw [List.map_cons, ← mergeC_eq n]
      rfl
theorem zjoin (x : Bar) : zBar.joinB x = ⟨x.lo, x.hi, x.rows, 0, x.most⟩ := by
  have h1 := vl_cmp.self x.lo
  have h2 := vl_cmp.self x.hi
  simp [Bar.joinB, zBar, h1, h2]
/-- The first bar: all that is left begins behind it. -/
theorem first_spec (h : Num ρ V) {xs ys : List Bar} (hx : SideOk ρ V xs) (hy : SideOk ρ V ys) (hn : xs.length + ys.length ≠ 0) :
    MInv ρ V (firstM xs ys) ∧ (firstM xs ys).size + 1 = xs.length + ys.length ∧ ((absP ρ (firstM xs ys).part :: (firstM xs ys).rest ρ).Perm (xs.map (fun x => absP ρ (partX x)) ++ ys.map (fun y => absP ρ (partY y)))) := by
  unfold firstM
  split
  · rename_i hf
    cases xs with
    | nil => cases hf
    | cons x xs =>
      obtain ⟨g1, g2, g3, g4⟩ := hx.good x (by simp)
      have hp := hx.px (x := x) (by simp)
      refine ⟨⟨⟨?_, ?_, ?_, ?_, ?_⟩, hx.tail, hy, fun z hz => ?_⟩, ?_, ?_⟩
      · show ((zBar.joinB x).lo) ∈ V
        rw [zjoin]; exact g1
      · show ((zBar.joinB x).hi) ∈ V
        rw [zjoin]; exact g2
      · show ρ ((zBar.joinB x).lo) ≤ ρ ((zBar.joinB x).hi)
        rw [zjoin]; exact g3
      · intro v hv
        exact hp.ends v hv
      · show 1 ≤ (zBar.joinB x).rows
        rw [zjoin]; exact g4
      · show ρ ((zBar.joinB x).lo) ≤ ρ z.lo
        rw [zjoin]
        rcases hz with hz | hz
        · exact hx.first (List.mem_cons_of_mem _ hz)
        · cases ys with
          | nil => cases hz
          | cons y ys =>
            have h1 := hy.first hz
            have h2 : x.lo.cmp y.lo ≤ 0 := by simpa [firstX] using hf
            have := h.ord _ g1 _ (hy.good y (by simp)).1
            simp only
            omega
      · simp [MS.tookX, MS.size, beginM]; omega
      · have e : absP ρ ((beginM (x :: xs) ys).tookX ((x :: xs).headD default) (x :: xs).tail).part = absP ρ (partX x) := by
          simp [MS.tookX, MS.part, beginM, zjoin, absP, partX]
        rw [e]
        exact List.Perm.refl _
  · rename_i hf
    have hyn : ys ≠ [] := by
      rintro rfl
      cases xs with
      | nil => simp at hn
      | cons x xs => simp [firstX] at hf
    cases ys with
    | nil => exact absurd rfl hyn
    | cons y ys =>
      obtain ⟨g1, g2, g3, g4⟩ := hy.good y (by simp)
      have hp := hy.py (x := y) (by simp)
      refine ⟨⟨⟨?_, ?_, ?_, ?_, ?_⟩, hx, hy.tail, fun z hz => ?_⟩, ?_, ?_⟩
      · show ((zBar.joinB y).lo) ∈ V
        rw [zjoin]; exact g1
      · show ((zBar.joinB y).hi) ∈ V
        rw [zjoin]; exact g2
      · show ρ ((zBar.joinB y).lo) ≤ ρ ((zBar.joinB y).hi)
        rw [zjoin]; exact g3
      · intro v hv
        exact hp.ends v hv
      · show 1 ≤ (zBar.joinB y).rows
        rw [zjoin]; exact g4
      · show ρ ((zBar.joinB y).lo) ≤ ρ z.lo
        rw [zjoin]
        rcases hz with hz | hz
        · cases xs with
          | nil => cases hz
          | cons x xs =>
            have h1 := hx.first hz
            have h2 : ¬ x.lo.cmp y.lo ≤ 0 := by simpa [firstX] using hf
            have := h.ord _ (hx.good x (by simp)).1 _ g1
            simp only
            omega
        · exact hy.first (List.mem_cons_of_mem _ hz)
      · simp [MS.tookY, MS.size, beginM]; omega
      · have e : absP ρ ((beginM xs (y :: ys)).tookY ((y :: ys).headD default) (y :: ys).tail).part = absP ρ (partY y) := by
          simp [MS.tookY, MS.part, beginM, zjoin, absP, partY]
        rw [e]
        exact List.perm_middle.symm
theorem mergeP_spec (h : Num ρ V) : ∀ (n : Nat) (xs ys : List Bar), xs.length + ys.length ≤ n → SideOk ρ V xs → SideOk ρ V ys →
    (∀ p ∈ mergeP n xs ys, GoodP ρ V p) ∧ (mergeP n xs ys).map (absP ρ) = comp abJ (xs.map (fun x => absP ρ (partX x)) ++ ys.map (fun y => absP ρ (partY y)))
  | 0, xs, ys, hn, _, _ => by
    have h1 : xs = [] := List.eq_nil_of_length_eq_zero (by omega)
    have h2 : ys = [] := List.eq_nil_of_length_eq_zero (by omega)
    subst h1 h2
    exact ⟨(fun p hp => by cases hp), comp_nil.symm⟩
  | n + 1, xs, ys, hn, hx, hy => by
    rw [mergeP]
    split
    · rename_i h0
      have h1 : xs = [] := List.eq_nil_of_length_eq_zero (by omega)
      have h2 : ys = [] := List.eq_nil_of_length_eq_zero (by omega)
      subst h1 h2
      exact ⟨(fun p hp => by cases hp), comp_nil.symm⟩
    · rename_i h0
      obtain ⟨f1, f2, f3⟩ := first_spec h hx hy h0
      obtain ⟨r1, r2, r3, r4⟩ := run_spec h _ _ rfl f1
      generalize MS.run (firstM xs ys).size (firstM xs ys) = s at *
      have hle : s.xs.length + s.ys.length ≤ n := by
        simp only [MS.size] at r3 f2
        omega
      obtain ⟨i1, i2⟩ := mergeP_spec h n s.xs s.ys hle r1.xs r1.ys
      refine ⟨fun p hp => ?_, ?_⟩
      · rcases List.mem_cons.1 hp with rfl | hp
        · exact r1.good
        · exact i1 p hp
      · rw [List.map_cons, i2]
        have hok := rest_ok r1
        have e1 := comp_head hok (end_spec h r1 r2)
        rw [← comp_perm (rest_ok f1) f3, ← r4, e1]
        rfl
/-- Parts that come to the same give the same bar. -/
theorem fin_eq (h : Num ρ V) {p q : Part} (hp : GoodP ρ V p) (hq : GoodP ρ V q) (e : absP ρ p = absP ρ q) : p.fin = q.fin := by
  simp only [absP, Ab.mk.injEq] at e
  obtain ⟨e1, e2, e3, e4, e5, e6, e7⟩ := e
  have h1 := h.eq hp.lo hq.lo e1
  have h2 := h.eq hp.hi hq.hi e2
  have h3 : diffV p.ends = diffV q.ends := by
    have hr1 : ∀ v ∈ p.ends, v.Right := fun v hv => h.right v (hp.ends v hv)
    have hr2 : ∀ v ∈ q.ends, v.Right := fun v hv => h.right v (hq.ends v hv)
    obtain ⟨a1, a2⟩ := diffV_spec _ hr1
    obtain ⟨b1, b2⟩ := diffV_spec _ hr2
    refine asc_uniq a1 b1 fun u => ?_
    have := congrFun e7 u
    rw [decide_eq_decide] at this
    rw [a2, b2, this]
  simp only [Part.fin, h1, h2, e3, e4, e5, e6, h3]
theorem fins_eq (h : Num ρ V) : ∀ {a b : List Part}, (∀ p ∈ a, GoodP ρ V p) → (∀ p ∈ b, GoodP ρ V p) → a.map (absP ρ) = b.map (absP ρ) → a.map Part.fin = b.map Part.fin
  | [], [], _, _, _ => rfl
  | [], q :: b, _, _, e => by simp at e
  | p :: a, [], _, _, e => by simp at e
  | p :: a, q :: b, ha, hb, e => by
    rw [List.map_cons, List.map_cons, List.cons.injEq] at e
    rw [List.map_cons, List.map_cons, fin_eq h (ha p (by simp)) (hb q (by simp)) e.1, fins_eq h (fun p hp => ha p (by simp [hp])) (fun p hp => hb p (by simp [hp])) e.2]
/-- **Both merge alike.** -/
theorem merge_eq (h : Num ρ V) {xs ys : List Bar} (hx : SideOk ρ V xs) (hy : SideOk ρ V ys) (n : Nat) (hn : xs.length + ys.length ≤ n) : mergeC n xs ys = mergeR xs ys := by
  obtain ⟨a1, a2⟩ := mergeP_spec h n xs ys hn hx hy
  obtain ⟨b1, _, b3⟩ := addAll_spec h (xs.map partX ++ ys.map partY) [] (fun q hq => by cases hq) (fun q hq => by
    rcases List.mem_append.1 hq with hq | hq
    · obtain ⟨x, hx', rfl⟩ := List.mem_map.1 hq
      exact hx.px hx'
    · obtain ⟨y, hy', rfl⟩ := List.mem_map.1 hq
      exact hy.py hy') .nil
  rw [mergeC_eq, mergeR]
  refine fins_eq h a1 b1 ?_
  rw [a2, b3, List.nil_append, List.map_append, List.map_map, List.map_map]
  rfl
end
end Go.Proofs.Try

namespace Go.Proofs.Try
set_option linter.unusedVariables false

/-! ### sizes while the code merges -/
structure BarOk (x : Bar) : Prop where
  rows0 : 0 ≤ x.rows
  rows : x.rows ≤ 16777216
  least0 : 0 ≤ x.least
  least : x.least ≤ 16777216
  most0 : 0 ≤ x.most
  most : x.most ≤ 16777216
  lo : x.lo.Right
  hi : x.hi.Right
structure MSz (q : Nat) (s : MS) : Prop where
  rows0 : 0 ≤ s.bar.rows
  rows : s.bar.rows ≤ q * 16777216
  most0 : 0 ≤ s.bar.most
  most : s.bar.most ≤ q * 16777216
  l0 : 0 ≤ s.l
  l : s.l ≤ q * 16777216
  r0 : 0 ≤ s.r
  r : s.r ≤ q * 16777216
  ends : s.ends.length = 2 * q
  eright : ∀ v ∈ s.ends, v.Right
  xs : ∀ x ∈ s.xs, BarOk x
  ys : ∀ x ∈ s.ys, BarOk x
theorem msz_begin {xs ys : List Bar} (hx : ∀ x ∈ xs, BarOk x) (hy : ∀ x ∈ ys, BarOk x) : MSz 0 (beginM xs ys) := by
  refine ⟨?_, ?_, ?_, ?_, ?_, ?_, ?_, ?_, rfl, (fun v hv => by cases hv), hx, hy⟩ <;> simp [beginM, zBar]
theorem msz_x {q : Nat} {s : MS} {x : Bar} {xs : List Bar} (h : MSz q s) (hx : s.xs = x :: xs) : MSz (q + 1) (s.tookX x xs) := by
  have hb := h.xs x (by rw [hx]; simp)
  have h1 := h.rows0; have h2 := h.rows; have h3 := h.most0; have h4 := h.most; have h5 := h.l0; have h6 := h.l; have h7 := h.r0; have h8 := h.r; have h9 := h.ends
  have b1 := hb.rows0; have b2 := hb.rows; have b3 := hb.least0; have b4 := hb.least; have b5 := hb.most0; have b6 := hb.most
  refine ⟨?_, ?_, ?_, ?_, ?_, ?_, ?_, ?_, ?_, fun v hv => ?_, fun y hy => h.xs y (by rw [hx]; exact List.mem_cons_of_mem _ hy), h.ys⟩ <;> first | (simp only [MS.tookX, Bar.joinB]; omega) | skip
  · simp [MS.tookX]; omega
  · simp only [MS.tookX, List.mem_append, List.mem_cons, List.not_mem_nil, or_false] at hv
    rcases hv with hv | rfl | rfl
    · exact h.eright v hv
    · exact hb.lo
    · exact hb.hi
theorem msz_y {q : Nat} {s : MS} {x : Bar} {ys : List Bar} (h : MSz q s) (hx : s.ys = x :: ys) : MSz (q + 1) (s.tookY x ys) := by
  have hb := h.ys x (by rw [hx]; simp)
  have h1 := h.rows0; have h2 := h.rows; have h3 := h.most0; have h4 := h.most; have h5 := h.l0; have h6 := h.l; have h7 := h.r0; have h8 := h.r; have h9 := h.ends
  have b1 := hb.rows0; have b2 := hb.rows; have b3 := hb.least0; have b4 := hb.least; have b5 := hb.most0; have b6 := hb.most
  refine ⟨?_, ?_, ?_, ?_, ?_, ?_, ?_, ?_, ?_, fun v hv => ?_, h.xs, fun y hy => h.ys y (by rw [hx]; exact List.mem_cons_of_mem _ hy)⟩ <;> first | (simp only [MS.tookY, Bar.joinB]; omega) | skip
  · simp [MS.tookY]; omega
  · simp only [MS.tookY, List.mem_append, List.mem_cons, List.not_mem_nil, or_false] at hv
    rcases hv with hv | rfl | rfl
    · exact h.eright v hv
    · exact hb.lo
    · exact hb.hi
theorem kd_eq (a b : List Bar) : kindsDiffer a b = (decide (0 < a.length) && decide (0 < b.length) && !decide ((a.getD 0 default).lo.k = (b.getD 0 default).lo.k)) := by
  cases a <;> cases b <;> simp [kindsDiffer]
theorem firstX_eq (xs ys : List Bar) : firstX xs ys = (decide (0 < xs.length) && (decide (ys.length = 0) || decide ((xs.getD 0 default).lo.cmp (ys.getD 0 default).lo ≤ 0))) := by
  cases xs <;> cases ys <;> simp [firstX]
end Go.Proofs.Try
