/-
  A part of the proof: see the text of the law.
-/
import Derived.Test.YtmmedfdilaijhaaPaf
set_option linter.unusedSimpArgs false
set_option linter.unusedVariables false
namespace Go.Proofs.Try
open Go.Al
set_option linter.unusedVariables false
set_option linter.unusedSimpArgs false

abbrev Wr.key (w : Wr) : Int × Int := (w.t, w.r)
abbrev Hd.key (y : Hd) : Int × Int := (y.t, y.r)
def difW (ws : List Wr) : Prop := ws.Pairwise fun a b => a.key ≠ b.key
theorem mem_foldL {s : Int} : ∀ (ws : List Wr) (l : List Hd) (y : Hd), difW ws → (y ∈ ws.foldl (putL s) l ↔ (y ∈ l ∧ ∀ w ∈ ws, y.key ≠ w.key) ∨ ∃ w ∈ ws, w.dead = false ∧ y = w.row s)
  | [], l, y, _ => by simp
  | w :: ws, l, y, hd => by
    obtain ⟨h1, h2⟩ := List.pairwise_cons.1 hd
    rw [List.foldl_cons, mem_foldL ws _ y h2, mem_putL]
    constructor
    · rintro (⟨⟨h3, h4⟩ | ⟨h3, h4⟩, h5⟩ | ⟨u, h3, h4, h5⟩)
      · refine .inl ⟨h3, fun u hu => ?_⟩
        rcases List.mem_cons.1 hu with rfl | hu
        · exact h4
        · exact h5 u hu
      · exact .inr ⟨w, by simp, h3, h4⟩
      · exact .inr ⟨u, by simp [h3], h4, h5⟩
    · rintro (⟨h3, h4⟩ | ⟨u, h3, h4, h5⟩)
      · exact .inl ⟨.inl ⟨h3, h4 w (by simp)⟩, fun u hu => h4 u (by simp [hu])⟩
      · rcases List.mem_cons.1 h3 with rfl | h3
        · refine .inl ⟨.inr ⟨h4, h5⟩, fun v hv => ?_⟩
          rw [h5]
          exact h1 v hv
        · exact .inr ⟨u, h3, h4, h5⟩
theorem wsOf_dif {h : List Hap} (hr : rightB h = true) (tx : Int) : difW (wsOf h tx) := by
  unfold wsOf difW
  split
  · rename_i i hf
    obtain ⟨hi, hp, _⟩ := List.findIdx?_eq_some_iff_getElem.1 hf
    have hg : h.getD i default = h[i] := by rw [List.getD_eq_getElem?_getD, List.getElem?_eq_getElem hi, Option.getD_some]
    have hk : (h.getD i default).k = 1 := by
      rw [hg]
      simp only [isAsk, Bool.and_eq_true, decide_eq_true_eq] at hp
      exact hp.1
    have := right_ws hr hi hk
    unfold writesOk at this
    rw [Bool.and_eq_true, decide_eq_true_eq] at this
    exact this.1.2.imp fun {a b} q => by
      simp only [Wr.same] at q
      simp only [ne_eq, Prod.mk.injEq]
      exact q
  · exact .nil
theorem mem_stL {h : List Hap} (hr : rightB h = true) (order : List Int) (y : Hd) : ∀ n, y ∈ stL h order n ↔ ∃ p, p < n ∧ ∃ w ∈ wsOf h (order.getD p 0), w.dead = false ∧ y = w.row ((p : Int) + 1) ∧ ∀ q, p < q → q < n → ∀ u ∈ wsOf h (order.getD q 0), u.key ≠ w.key
  | 0 => by
    constructor
    · intro q; simp [stL] at q
    · rintro ⟨p, hp, _⟩; omega
  | n + 1 => by
    rw [stL, mem_foldL _ _ _ (wsOf_dif hr _), mem_stL hr order y n]
    constructor
    · rintro (⟨⟨p, hp, w, hw, h1, h2, h3⟩, h4⟩ | ⟨w, hw, h1, h2⟩)
      · refine ⟨p, by omega, w, hw, h1, h2, fun q hq1 hq2 u hu => ?_⟩
        by_cases e : q = n
        · rw [e] at hu
          have := h4 u hu
          rw [h2] at this
          exact fun e => this e.symm
        · exact h3 q hq1 (by omega) u hu
      · exact ⟨n, by omega, w, hw, h1, h2, fun q hq1 hq2 => by omega⟩
    · rintro ⟨p, hp, w, hw, h1, h2, h3⟩
      by_cases e : p = n
      · rw [e] at hw h2
        exact .inr ⟨w, hw, h1, h2⟩
      · refine .inl ⟨⟨p, by omega, w, hw, h1, h2, fun q hq1 hq2 u hu => h3 q hq1 (by omega) u hu⟩, fun u hu => ?_⟩
        rw [h2]
        exact fun e2 => h3 n (by omega) (by omega) u hu e2.symm
/-! ### the map of writes -/
structure WrOk (h : List Hap) (W : List (Int × List Wr)) : Prop where
  nodup : (keysM W).Nodup
  get : ∀ tx, getM W tx = (h.findIdx? (isAsk tx)).map fun _ => wsOf h tx
theorem wrOk_nil : WrOk [] [] := ⟨.nil, fun tx => by simp [getM]⟩
theorem wsOf_snoc {h : List Hap} {x : Hap} {tx : Int} (ha : (h.findIdx? (isAsk tx)).isSome) : wsOf (h ++ [x]) tx = wsOf h tx := by
  obtain ⟨i, hi⟩ := Option.isSome_iff_exists.1 ha
  obtain ⟨hl, _⟩ := List.findIdx?_eq_some_iff_getElem.1 hi
  unfold wsOf
  rw [List.findIdx?_append, hi]
  simp only [Option.some_or]
  simp [List.getD_eq_getElem?_getD, List.getElem?_append_left hl]
theorem WrOk.ask {h : List Hap} {W : List (Int × List Wr)} {x : Hap} (s : WrOk h W) (hk : x.k = 1) (ha : h.findIdx? (isAsk x.tx) = none) : WrOk (h ++ [x]) (setM W x.tx x.ws) := by
  refine ⟨keys_set_nodup s.nodup, fun tx => ?_⟩
  rw [getM_set]
  by_cases e : tx = x.tx
  · subst e
    have hp : isAsk x.tx x = true := by simp [isAsk, hk]
    have hf : (h ++ [x]).findIdx? (isAsk x.tx) = some h.length := by
      rw [List.findIdx?_append, ha]
      simp [List.findIdx?_cons, hp]
    rw [if_pos rfl, hf, wsOf, hf]
    simp
  · have e' : ¬ x.tx = tx := fun q => e q.symm
    have hp : isAsk tx x = false := by simp [isAsk, e']
    rw [if_neg e, s.get]
    cases hf : h.findIdx? (isAsk tx) with
    | none => simp [List.findIdx?_append, hf, List.findIdx?_cons, hp]
    | some i =>
      have := wsOf_snoc (h := h) (x := x) (tx := tx) (by rw [hf]; rfl)
      rw [this, List.findIdx?_append, hf]
      rfl
theorem WrOk.other {h : List Hap} {W : List (Int × List Wr)} {x : Hap} (s : WrOk h W) (hk : x.k ≠ 1) : WrOk (h ++ [x]) W := by
  refine ⟨s.nodup, fun tx => ?_⟩
  have hp : isAsk tx x = false := by simp [isAsk, hk]
  rw [s.get]
  cases hf : h.findIdx? (isAsk tx) with
  | none => simp [List.findIdx?_append, hf, List.findIdx?_cons, hp]
  | some i =>
    have := wsOf_snoc (h := h) (x := x) (tx := tx) (by rw [hf]; rfl)
    rw [this, List.findIdx?_append, hf]
    rfl
/-! ### the stamps of an order, forward -/
def fwM (order : List Int) : List (Int × Int) := order.zipIdx.foldl (fun m p => setM m p.1 ((p.2 : Int) + 1)) []
theorem fwM_next {order : List Int} {i : Nat} (hi : i < order.length) : fwM (order.take (i + 1)) = setM (fwM (order.take i)) (order.getD i 0) ((i : Int) + 1) := by
  rw [take_succD hi, fwM, List.zipIdx_append, List.foldl_append]
  have : (order.take i).length = i := by simp; omega
  simp [fwM, this]
theorem fwM_get {order : List Int} (ho : onceB order = true) {tx : Int} (hz : tx ≠ 0) : ∀ i, i ≤ order.length → (getM (fwM (order.take i)) tx).getD 0 = placeH (order.take i) tx
  | 0, _ => by simp [fwM, getM, placeH]
  | i + 1, hi => by
    have hil : i < order.length := by omega
    rw [fwM_next hil, getM_set]
    have hp1 : (order.take (i + 1)).getD i 0 = order.getD i 0 := take_getD (by omega)
    by_cases e : tx = order.getD i 0
    · rw [if_pos e]
      have := place_at (once_take ho (i + 1)) (p := i) (by rw [List.length_take]; omega) (by rw [hp1, ← e]; exact hz)
      rw [hp1, ← e] at this
      rw [this]; rfl
    · rw [if_neg e, fwM_get ho hz i (by omega)]
      unfold placeH
      rw [if_neg hz, if_neg hz, take_succD hil, List.findIdx?_append]
      have hne : decide (order.getD i default = tx) = false := decide_eq_false fun q => e (q.symm)
      rw [List.findIdx?_cons, hne]
      cases (order.take i).findIdx? (fun t => decide (t = tx)) with
      | none => rfl
      | some j => rfl
theorem fwM_all {order : List Int} (ho : onceB order = true) {tx : Int} (hz : tx ≠ 0) : (getM (fwM order) tx).getD 0 = placeH order tx := by
  have := fwM_get ho hz order.length (Nat.le_refl _)
  rwa [List.take_length] at this
/-! ### who wrote last -/
/-- What a map says of the last writers among some writes. -/
def LastD (order : List Int) (st : Int) (D : List (Int × Wr)) (lm : List ((Int × Int) × Int)) : Prop :=
  ∀ K, 0 ≤ (getW lm K).getD 0 ∧ (∀ d ∈ D, d.2.key = K → placeH order d.1 ≤ st → placeH order d.1 ≤ (getW lm K).getD 0) ∧ ((getW lm K).getD 0 = 0 ∨ ∃ d ∈ D, d.2.key = K ∧ placeH order d.1 = (getW lm K).getD 0 ∧ (getW lm K).getD 0 ≤ st)
theorem lastD_nil (order : List Int) (st : Int) : LastD order st [] [] := fun K => ⟨by simp [getW], by simp, .inl (by simp [getW])⟩
theorem LastD.put {order : List Int} {st : Int} {D : List (Int × Wr)} {lm : List ((Int × Int) × Int)} (s : LastD order st D lm) (d : Int × Wr) (hd : placeH order d.1 ≤ st) : LastD order st (D ++ [d]) (setW lm d.2.key (max ((getW lm d.2.key).getD 0) (placeH order d.1))) := fun K => by
  rw [getW_set]
  obtain ⟨h1, h2, h3⟩ := s K
  by_cases e : K = d.2.key
  · subst e
    simp only [if_true, Option.getD_some]
    refine ⟨by omega, fun u hu he hp => ?_, ?_⟩
    · rcases List.mem_append.1 hu with hu | hu
      · have := h2 u hu he hp; omega
      · rw [List.mem_singleton.1 hu]; omega
    · by_cases hm : (getW lm d.2.key).getD 0 ≤ placeH order d.1
      · rw [Int.max_eq_right hm]
        exact .inr ⟨d, by simp, rfl, rfl, hd⟩
      · rw [Int.max_eq_left (by omega)]
        rcases h3 with h3 | ⟨u, hu, h4, h5, h6⟩
        · exact .inl h3
        · exact .inr ⟨u, by simp [hu], h4, h5, h6⟩
  · rw [if_neg e]
    refine ⟨h1, fun u hu he hp => ?_, ?_⟩
    · rcases List.mem_append.1 hu with hu | hu
      · exact h2 u hu he hp
      · rw [List.mem_singleton.1 hu] at he; exact absurd he.symm e
    · rcases h3 with h3 | ⟨u, hu, h4, h5, h6⟩
      · exact .inl h3
      · exact .inr ⟨u, by simp [hu], h4, h5, h6⟩
theorem LastD.skip {order : List Int} {st : Int} {D : List (Int × Wr)} {lm : List ((Int × Int) × Int)} (s : LastD order st D lm) (d : Int × Wr) (hd : ¬ placeH order d.1 ≤ st) : LastD order st (D ++ [d]) lm := fun K => by
  obtain ⟨h1, h2, h3⟩ := s K
  refine ⟨h1, fun u hu he hp => ?_, ?_⟩
  · rcases List.mem_append.1 hu with hu | hu
    · exact h2 u hu he hp
    · rw [List.mem_singleton.1 hu] at hp; exact absurd hp hd
  · rcases h3 with h3 | ⟨u, hu, h4, h5, h6⟩
    · exact .inl h3
    · exact .inr ⟨u, by simp [hu], h4, h5, h6⟩
/-- The writes of some entries. -/
def pairsW (W : List (Int × List Wr)) (is : List Nat) : List (Int × Wr) := is.flatMap fun i => (W.getD i default).2.map fun w => ((W.getD i default).1, w)
/-! ### what is there -/
def thL (l : List Hd) (m : List ((Int × Int) × Int)) : List ((Int × Int) × Int) := l.foldl (fun m r => setW m r.key r.st) m
theorem thL_next {l : List Hd} {i : Nat} (hi : i < l.length) : thL (l.take (i + 1)) [] = setW (thL (l.take i) []) (l.getD i default).key (l.getD i default).st := by
  rw [take_succD hi, thL, List.foldl_append]; rfl
theorem thL_get : ∀ (l : List Hd) (m : List ((Int × Int) × Int)) (K : Int × Int), l.Pairwise Hd.before → (∀ r ∈ l, r.key = K → getW (thL l m) K = some r.st) ∧ ((∀ r ∈ l, r.key ≠ K) → getW (thL l m) K = getW m K)
  | [], m, K, _ => ⟨fun r hr => by simp at hr, fun _ => rfl⟩
  | x :: l, m, K, hp => by
    obtain ⟨h1, h2⟩ := List.pairwise_cons.1 hp
    obtain ⟨h3, h4⟩ := thL_get l (setW m x.key x.st) K h2
    have e : thL (x :: l) m = thL l (setW m x.key x.st) := rfl
    rw [e]
    refine ⟨fun r hr hk => ?_, fun hn => ?_⟩
    · rcases List.mem_cons.1 hr with rfl | hr
      · rw [h4 fun u hu q => ?_, getW_set, if_pos hk.symm]
        have := h1 u hu
        rw [← hk] at q
        simp only [Prod.mk.injEq] at q
        unfold Hd.before at this
        omega
      · exact h3 r hr hk
    · rw [h4 fun u hu => hn u (by simp [hu]), getW_set, if_neg fun q => hn x (by simp) q.symm]
end Go.Proofs.Try
