/-
  A part of the proof: see the text of the law.
-/
import Derived.Test.YtmmedfdilaijhaaGreatEai
set_option linter.unusedSimpArgs false
set_option linter.unusedVariables false
namespace Go.Proofs.Try
open Go.Proofs.Tryz
open Go.Al
set_option linter.unusedVariables false
set_option linter.unusedSimpArgs false
set_option maxRecDepth 20000
set_option maxHeartbeats 8000000

abbrev WK : D := .wide [.int .i64, .int .i64]
def kp (r : Int × Int) : AV := .agg [.int .i64 r.1, .int .i64 r.2]
def fitP (r : Int × Int) : Prop := (Lit.int .i64 r.1).wf = true ∧ (Lit.int .i64 r.2).wf = true
theorem fits_p {r : Int × Int} (h : fitP r) : fitsAll [.int .i64, .int .i64] [.int .i64 r.1, .int .i64 r.2] = true := by
  simp [fitsAll, fits1, h.1, h.2]
theorem eqK_p {u v : Int × Int} (hu : fitP u) (hv : fitP v) : eqK WK (kp v) (kp u) = some (decide (u = v)) := by
  obtain ⟨u1, u2⟩ := u
  obtain ⟨v1, v2⟩ := v
  simp [eqK, kp, fits_p hu, fits_p hv, sameAll, same1, eq_comm]
theorem keyIs_p {r : Int × Int} (h : fitP r) : keyIs WK (kp r) = true := fits_p h
section
variable {α : Type}
def getW (m : List ((Int × Int) × α)) (r : Int × Int) : Option α := (m.find? fun p => decide (p.1 = r)).map (·.2)
def setW : List ((Int × Int) × α) → (Int × Int) → α → List ((Int × Int) × α)
  | [], r, v => [(r, v)]
  | p :: m, r, v => if p.1 = r then (r, v) :: m else p :: setW m r v
def delW : List ((Int × Int) × α) → (Int × Int) → List ((Int × Int) × α)
  | [], _ => []
  | p :: m, r => if p.1 = r then m else p :: delW m r
theorem getW_cons (p : (Int × Int) × α) (m : List ((Int × Int) × α)) (r : Int × Int) : getW (p :: m) r = if p.1 = r then some p.2 else getW m r := by
  unfold getW
  rw [List.find?_cons]
  by_cases h : p.1 = r <;> simp [h]
theorem getW_set (m : List ((Int × Int) × α)) (r s : Int × Int) (v : α) : getW (setW m r v) s = if s = r then some v else getW m s := by
  induction m with
  | nil =>
    rw [setW, getW_cons]
    by_cases h : s = r
    · simp [h]
    · have : ¬ r = s := fun e => h e.symm
      simp [h, this]
  | cons p m ih =>
    rw [setW]
    by_cases hp : p.1 = r
    · rw [if_pos hp, getW_cons, getW_cons]
      by_cases h : s = r
      · simp [h]
      · have h1 : ¬ r = s := fun e => h e.symm
        have h2 : ¬ p.1 = s := fun e => h (e.symm.trans hp)
        simp [h, h1, h2]
    · rw [if_neg hp, getW_cons, getW_cons, ih]
      by_cases h : s = r
      · subst h
        simp [hp]
      · simp [h]
def keysW (m : List ((Int × Int) × α)) : List (Int × Int) := m.map (·.1)
theorem getW_none {m : List ((Int × Int) × α)} {r : Int × Int} : getW m r = none ↔ r ∉ keysW m := by
  induction m with
  | nil => simp [getW, keysW]
  | cons p m ih =>
    rw [getW_cons]
    simp only [keysW,List.map_cons,List.mem_cons] at ih ⊢
    by_cases h : p.1 = r
    · simp [h]
    · have h' : ¬ r = p.1 := fun e => h e.symm
      simp [h, h', ih]
theorem keysW_set (m : List ((Int × Int) × α)) (r : Int × Int) (v : α) : keysW (setW m r v) = if r ∈ keysW m then keysW m else keysW m ++ [r] := by
  induction m with
  | nil => simp [setW, keysW]
  | cons p m ih =>
    rw [setW]
    by_cases hp : p.1 = r
    · simp [hp, keysW]
    · have hp' : ¬ r = p.1 := fun e => hp e.symm
      simp only [keysW,List.map_cons,List.mem_cons,if_neg hp,hp',false_or] at ih ⊢
      rw [ih]
      by_cases h : r ∈ m.map (fun x => x.1) <;> simp [h]
theorem find_w {r : Int × Int} (hr : fitP r) : ∀ (m : List ((Int × Int) × α)) (i : Nat), (∀ p ∈ m, fitP p.1) →
    (findK WK (kp r) (m.map fun p => kp p.1) i = some none ∧ getW m r = none ∧ (∀ v, setW m r v = m ++ [(r, v)]) ∧ delW m r = m) ∨
    (∃ j p, findK WK (kp r) (m.map fun p => kp p.1) i = some (some (i + j)) ∧ m[j]? = some p ∧ p.1 = r ∧ getW m r = some p.2 ∧ (∀ v, setW m r v = m.set j (r, v)) ∧ delW m r = m.eraseIdx j)
  | [], i, _ => .inl ⟨rfl, rfl, fun _ => rfl, rfl⟩
  | p :: m, i, hm => by
    rw [List.map_cons, findK]
    by_cases hp : p.1 = r
    · have hq : eqK WK (kp r) (kp p.1) = some true := by rw [eqK_p (hm p (by simp)) hr, decide_eq_true hp]
      rw [hq]
      refine .inr ⟨0, p, rfl, rfl, hp, by rw [getW_cons, if_pos hp], fun v => by rw [setW, if_pos hp]; rfl, by rw [delW, if_pos hp]; rfl⟩
    · have hq : eqK WK (kp r) (kp p.1) = some false := by rw [eqK_p (hm p (by simp)) hr, decide_eq_false hp]
      rw [hq]
      rcases find_w hr m (i + 1) (fun q hq => hm q (by simp [hq])) with ⟨h1, h2, h3, h4⟩ | ⟨j, q, h1, h2, h3, h4, h5, h6⟩
      · exact .inl ⟨h1, by rw [getW_cons, if_neg hp, h2], fun v => by rw [setW, if_neg hp, h3]; rfl, by rw [delW, if_neg hp, h4]⟩
      · refine .inr ⟨j + 1, q, ?_, by simpa using h2, h3, by rw [getW_cons, if_neg hp, h4], fun v => by rw [setW, if_neg hp, h5]; rfl, by rw [delW, if_neg hp, h6]; rfl⟩
        simp only
        rw [h1]
        congr 2
        omega
def kW (m : List ((Int × Int) × α)) : List AV := m.map fun p => kp p.1
def vW (f : α → AV) (m : List ((Int × Int) × α)) : List AV := m.map fun p => f p.2
theorem keys_w {m : List ((Int × Int) × α)} (h : ∀ p ∈ m, fitP p.1) : keysOk WK (m.map fun p => kp p.1) = true := by
  simp only [keysOk,List.all_map,List.all_eq_true]
  intro u hu
  exact fits_p (h u hu)
theorem look_w (f : α → AV) (z : AV) {m : List ((Int × Int) × α)} (hm : ∀ p ∈ m, fitP p.1) {r : Int × Int} (hr : fitP r) : Al.look WK z (kW m) (vW f m) (kp r) = some (match getW m r with | some v => (f v, true) | none => (z, false)) := by
  unfold Al.look kW vW
  rw [keyIs_p hr, keys_w hm]
  rcases find_w hr m 0 hm with ⟨h1, h2, _⟩ | ⟨j, p, h1, h2, h3, h4, _⟩
  · simp [h1, h2]
  · simp [h1, h2, h4]
theorem put_w (f : α → AV) {m : List ((Int × Int) × α)} (hm : ∀ p ∈ m, fitP p.1) (bs : List Nat) (c : Nat) {r : Int × Int} (hr : fitP r) (v : α) : ∃ (bs' : List Nat) (c' : Nat), putK WK (kW m) (vW f m) bs c (kp r) (f v) = some (.map (kW (setW m r v)) (vW f (setW m r v)) bs' c') := by
  unfold putK kW vW
  rw [keyIs_p hr, keys_w hm]
  rcases find_w hr m 0 hm with ⟨h1, h2, h3, _⟩ | ⟨j, p, h1, h2, h3, h4, h5, _⟩
  · refine ⟨bs ++ [c], c + 1, ?_⟩
    rw [h3]
    simp [h1]
  · refine ⟨bs, c, ?_⟩
    have e1 : (m.map fun p => kp p.1) = (m.set j (r, v)).map fun p => kp p.1 := by
      apply List.ext_getElem?
      intro n
      simp only [List.getElem?_map,List.getElem?_set]
      by_cases hn : j = n
      · subst hn
        obtain ⟨hj, _⟩ := List.getElem?_eq_some_iff.1 h2
        rw [h2]
        simp [hj, h3]
      · simp [hn]
    rw [h5, ← e1, List.map_set]
    simp [h1]
theorem map_eraseW {β : Type} (g : (Int × Int) × α → β) : ∀ (m : List ((Int × Int) × α)) (j : Nat), (m.eraseIdx j).map g = (m.map g).eraseIdx j
  | [], _ => rfl
  | p :: m, 0 => rfl
  | p :: m, j + 1 => by
    have := map_eraseW g m j
    simp only [List.eraseIdx_cons_succ,List.map_cons,this]
end
end Go.Proofs.Try

