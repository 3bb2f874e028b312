/-
  A part of the proof: see the text of the law.
-/
import Derived.Test.YtmmedfdilaijhaaGreatAlphaAb
set_option linter.unusedSimpArgs false
set_option linter.unusedVariables false
namespace Go.Proofs.Try
set_option linter.unusedVariables false

structure VL where
  k : Int
  n : Int
  s : ByteArray
  deriving DecidableEq
instance : Inhabited VL := ⟨⟨0, 0, ⟨#[]⟩⟩⟩
structure Wr where
  t : Int
  r : Int
  dead : Bool
  v : List VL
  deriving DecidableEq
instance : Inhabited Wr := ⟨⟨0, 0, false, []⟩⟩
structure Hd where
  t : Int
  r : Int
  st : Int
  v : List VL
  deriving DecidableEq
instance : Inhabited Hd := ⟨⟨0, 0, 0, []⟩⟩
structure Hap where
  k : Int
  tx : Int
  st : Int
  ws : List Wr
  rs : List Hd
  deriving DecidableEq
instance : Inhabited Hap := ⟨⟨0, 0, 0, [], []⟩⟩

theorem first_some {α : Type} [Inhabited α] {p : α → Bool} {l : List α} {i : Nat} (hi : i < l.length) (hp : p (l.getD i default) = true) (hn : ∀ x ∈ l.take i, p x = false) : l.findIdx? p = some i := by
  rw [List.findIdx?_eq_some_iff_getElem]
  have hg : l.getD i default = l[i] := by rw [List.getD_eq_getElem?_getD, List.getElem?_eq_getElem hi, Option.getD_some]
  refine ⟨hi, hg ▸ hp, fun j hj => ?_⟩
  have := hn l[j] (List.mem_take_iff_getElem.2 ⟨j, by omega, rfl⟩)
  simp [this]
theorem first_none {α : Type} {p : α → Bool} {l : List α} (hn : ∀ x ∈ l, p x = false) : l.findIdx? p = none := List.findIdx?_eq_none_iff.2 hn
theorem take_succD {α : Type} [Inhabited α] {l : List α} {i : Nat} (h : i < l.length) : l.take (i + 1) = l.take i ++ [l.getD i default] := by
  rw [List.take_succ_eq_append_getElem h, List.getD_eq_getElem?_getD, List.getElem?_eq_getElem h, Option.getD_some]
theorem getD_mem {α : Type} [Inhabited α] {l : List α} {i : Nat} (h : i < l.length) : l.getD i default ∈ l := by
  rw [List.getD_eq_getElem?_getD, List.getElem?_eq_getElem h, Option.getD_some]
  exact List.getElem_mem h
theorem all_step {α : Type} [Inhabited α] {p : α → Prop} {l : List α} {i : Nat} (h : i < l.length) (ha : ∀ x ∈ l.take i, p x) (hp : p (l.getD i default)) : ∀ x ∈ l.take (i + 1), p x := by
  rw [take_succD h]
  intro x hx
  rcases List.mem_append.1 hx with hx | hx
  · exact ha x hx
  · rw [List.mem_singleton.1 hx]; exact hp

def isAsk (tx : Int) (x : Hap) : Bool := decide (x.k = 1) && decide (x.tx = tx)
def asked (h : List Hap) (tx : Int) : Int := match h.findIdx? (isAsk tx) with
  | some i => i
  | none => -1
def closes (tx : Int) (x : Hap) : Bool := decide (x.k = 4) || ((decide (x.k = 2) || decide (x.k = 3)) && decide (x.tx = tx))
def isOpen (h : List Hap) (tx : Int) : Bool := match h.findIdx? (isAsk tx) with
  | some i => decide (∀ x ∈ h.drop i, closes tx x = false)
  | none => false
def latest (h : List Hap) : Int := h.foldl (fun n x => if x.k = 2 then max n x.st else n) 0
theorem latest_next {h : List Hap} {i : Nat} (hi : i < h.length) : latest (h.take (i + 1)) = if (h.getD i default).k = 2 then max (latest (h.take i)) (h.getD i default).st else latest (h.take i) := by
  rw [take_succD hi, latest, List.foldl_append]
  rfl
def numb (n : Int) : Bool := decide (1 ≤ n) && decide (n ≤ 1073741824)
end Go.Proofs.Try


namespace Go.Proofs.Try
set_option linter.unusedVariables false

def okW (w : Wr) : Bool := !(decide (w.t < 0) || decide (255 < w.t) || !numb w.r || (w.dead && decide (0 < w.v.length)))
def Wr.same (a b : Wr) : Prop := a.t = b.t ∧ a.r = b.r
instance (a b : Wr) : Decidable (a.same b) := by unfold Wr.same; infer_instance
def writesOk (l : List Wr) : Bool := decide ((∀ w ∈ l, okW w = true) ∧ l.Pairwise fun a b => ¬ a.same b) && (decide (1 ≤ l.length) && decide (l.length ≤ 64))
def Hd.before (a b : Hd) : Prop := a.t < b.t ∨ a.t = b.t ∧ a.r < b.r
instance (a b : Hd) : Decidable (a.before b) := by unfold Hd.before; infer_instance
def okH (st : Int) (x : Hd) : Bool := !(decide (x.t < 0) || decide (255 < x.t) || !numb x.r || decide (x.st < 1) || decide (st < x.st))
def rowsOk (l : List Hd) (st : Int) : Bool := decide ((∀ x ∈ l, okH st x = true) ∧ l.Pairwise Hd.before)
def eventOk (h : List Hap) (x : Hap) : Bool :=
  if (x.k ≠ 1 ∧ 0 < x.ws.length) ∨ (x.k ≠ 5 ∧ 0 < x.rs.length) then false
  else if (x.k ≠ 2 ∧ x.k ≠ 5 ∧ x.st ≠ 0) ∨ ((x.k = 4 ∨ x.k = 5) ∧ x.tx ≠ 0) then false
  else if x.k = 1 then decide (1 ≤ x.tx) && (decide (asked h x.tx < 0) && writesOk x.ws)
  else if x.k = 2 then isOpen h x.tx && (numb x.st && decide (latest h < x.st))
  else if x.k = 3 then isOpen h x.tx
  else if x.k = 5 then decide (0 ≤ x.st) && (decide (x.st ≤ 1073741824) && rowsOk x.rs x.st)
  else decide (x.k = 4)
def rightB (h : List Hap) : Bool := decide (∀ i, i < h.length → eventOk (h.take i) (h.getD i default) = true) && decide (h.length ≤ 400)
theorem pair_snoc {α : Type} [Inhabited α] {R : α → α → Prop} {l : List α} {i : Nat} (h : i < l.length) (hp : (l.take i).Pairwise R) (hn : ∀ x ∈ l.take i, R x (l.getD i default)) : (l.take (i + 1)).Pairwise R := by
  rw [take_succD h]
  exact List.pairwise_append.2 ⟨hp, List.pairwise_singleton _ _, fun a ha b hb => by rw [List.mem_singleton.1 hb]; exact hn a ha⟩
theorem pair_at {α : Type} [Inhabited α] {R : α → α → Prop} {l : List α} {k i : Nat} (h : l.Pairwise R) (hk : k < i) (hi : i < l.length) : R (l.getD k default) (l.getD i default) := by
  rw [List.getD_eq_getElem?_getD, List.getElem?_eq_getElem (by omega), List.getD_eq_getElem?_getD, List.getElem?_eq_getElem hi]
  exact List.pairwise_iff_getElem.1 h k i (by omega) hi hk
theorem before_trans {a b c : Hd} (h1 : a.before b) (h2 : b.before c) : a.before c := by
  unfold Hd.before at *
  omega
theorem before_snoc {l : List Hd} {i : Nat} (h : i < l.length) (hp : (l.take i).Pairwise Hd.before) (h0 : 0 < i) (hb : (l.getD (i - 1) default).before (l.getD i default)) : (l.take (i + 1)).Pairwise Hd.before := by
  refine pair_snoc h hp fun x hx => ?_
  obtain ⟨i, rfl⟩ : ∃ j, i = j + 1 := ⟨i - 1, by omega⟩
  rw [take_succD (by omega)] at hp hx
  obtain ⟨_, _, q⟩ := List.pairwise_append.1 hp
  rcases List.mem_append.1 hx with hx | hx
  · exact before_trans (q x hx _ (by simp)) hb
  · rw [List.mem_singleton.1 hx]; exact hb
end Go.Proofs.Try


namespace Go.Proofs.Try
set_option linter.unusedVariables false

def sgn (a b : Int) : Int := if a < b then -1 else if a > b then 1 else 0
def orI : List Int → Int
  | [] => 0
  | x :: l => if x = 0 then orI l else x
theorem orI_drop {l : List Int} {i : Nat} (h : i < l.length) : orI (l.drop i) = if l.getD i default = 0 then orI (l.drop (i + 1)) else l.getD i default := by
  rw [List.drop_eq_getElem_cons h]
  simp [orI, h]
def Hd.cmp (a b : Hd) : Int := orI [sgn a.t b.t, sgn a.r b.r]
theorem take_next {α : Type} [Inhabited α] {a b : List α} {i : Nat} (hl : a.length = b.length) (hi : i < a.length) (h : a.take i = b.take i) (he : a.getD i default = b.getD i default) : a.take (i + 1) = b.take (i + 1) := by
  rw [take_succD hi, take_succD (by omega), h, he]
theorem ne_at {α : Type} [Inhabited α] {a b : List α} {i : Nat} (he : a.getD i default ≠ b.getD i default) : a ≠ b := fun h => he (by rw [h])
def fewB (h : List Hap) : Bool := decide (∀ x ∈ h, x.ws.length ≤ 66 ∧ x.rs.length ≤ 60) && decide (h.length ≤ 410)
def lenH (h : List Hap) : Int := h.foldl (fun n x => if x.k = 2 ∨ x.k = 5 then max n x.st else n) 0
theorem lenH_next {h : List Hap} {i : Nat} (hi : i < h.length) : lenH (h.take (i + 1)) = if (h.getD i default).k = 2 ∨ (h.getD i default).k = 5 then max (lenH (h.take i)) (h.getD i default).st else lenH (h.take i) := by
  rw [take_succD hi, lenH, List.foldl_append]
  rfl
def nextS (h : List Hap) : Int := match h.find? (fun x => decide (x.k = 5)) with
  | some x => x.st
  | none => 1073741825
theorem find_at {α : Type} [Inhabited α] {p : α → Bool} {l : List α} {i : Nat} (hi : i < l.length) (hp : p (l.getD i default) = true) (hn : ∀ x ∈ l.take i, p x = false) : l.find? p = some (l.getD i default) := by
  have e : l = l.take i ++ l.getD i default :: l.drop (i + 1) := by
    conv => lhs; rw [← List.take_append_drop i l, List.drop_eq_getElem_cons hi]
    rw [List.getD_eq_getElem?_getD, List.getElem?_eq_getElem hi, Option.getD_some]
  have e2 := congrArg (List.find? p) e
  rw [e2, List.find?_append, List.find?_eq_none.2 (fun x hx => by simp [hn x hx]), Option.none_or, List.find?_cons, hp]
theorem hd_cmp0 (a b : Hd) : a.cmp b = 0 ↔ a.t = b.t ∧ a.r = b.r := by
  unfold Hd.cmp orI orI orI sgn
  repeat' split
  all_goals omega
end Go.Proofs.Try

