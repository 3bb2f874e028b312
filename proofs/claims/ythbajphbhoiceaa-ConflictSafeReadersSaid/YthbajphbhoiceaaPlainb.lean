/-
  A part of the proof: see the text of the law.
-/
import Derived.Test.YthbajphbhoiceaaPlaina
import Derived.Test.YthbajphbhoiceaaCbm
set_option linter.unusedSimpArgs false
set_option linter.unusedVariables false
namespace Go.Proofs.Try
open Go.Al
set_option linter.unusedVariables false
set_option linter.unusedSimpArgs false

theorem getD_nodup {l : List Nat} (hn : l.Nodup) {i j : Nat} (hi : i < l.length) (hj : j < l.length) (e : l.getD i 0 = l.getD j 0) : i = j := by
  rw [getD_get hi, getD_get hj] at e
  exact (List.getElem_inj hn).1 e
theorem mem_get {l : List Nat} {x : Nat} (h : x ∈ l) : ∃ i, i < l.length ∧ l.getD i 0 = x := by
  obtain ⟨i, hi, rfl⟩ := List.getElem_of_mem h
  exact ⟨i, hi, getD_get hi⟩
theorem get_mem {l : List Nat} {i : Nat} (hi : i < l.length) : l.getD i 0 ∈ l := by
  rw [getD_get hi]; exact List.getElem_mem hi
theorem take_getD {l : List Nat} {i k : Nat} (hi : i < k) : (l.take k).getD i 0 = l.getD i 0 := by
  simp only [List.getD_eq_getElem?_getD, List.getElem?_take, if_pos hi]
theorem fwd_lt {h : List Acc} {ol : List Nat} (hf : FwdO h ol) (hn : ol.Nodup) {i j : Nat} (hi : i < ol.length) (hj : j < ol.length) (he : Edge h (ol.getD i 0) (ol.getD j 0)) : i < j := by
  obtain ⟨i', j', h1, h2, h3, h4⟩ := hf _ _ he
  have := getD_nodup hn (by omega) hi h3
  have := getD_nodup hn h2 hj h4
  omega
/-- The serial order follows the edges. -/
theorem fwd_of_serial {h : List Acc} {ol : List Nat} (hs : SerialS h (some ol)) : FwdO h ol := by
  obtain ⟨hseq, hall⟩ := hs
  intro a b he
  obtain ⟨da, db⟩ := edge_done he
  obtain ⟨j, hj, hb⟩ := mem_get (hall b (done_lt db) db)
  obtain ⟨⟨_, _, _, h4⟩, _⟩ := hseq j hj
  obtain ⟨i, hi, ha⟩ := mem_get (h4 a (done_lt da) (by rw [hb]; exact he))
  rw [List.length_take] at hi
  rw [take_getD (by omega)] at ha
  exact ⟨i, j, by omega, hj, ha, hb⟩

/-! ### the last writer of an order -/
theorem lastW_at {h : List Acc} {x : Int} : ∀ {l : List Nat} {i : Nat}, i < l.length → x ∈ (at' h (l.getD i 0)).writes → (∀ j, i < j → j < l.length → x ∉ (at' h (l.getD j 0)).writes) → lastW h l x = some (l.getD i 0) := by
  intro l
  induction hl : l.length generalizing l with
  | zero => intro i hi; omega
  | succ n ih =>
    intro i hi hx hno
    obtain ⟨l', y, rfl⟩ : ∃ l' y, l = l' ++ [y] := ⟨l.dropLast, l.getLast (by intro e; simp [e] at hl), (List.dropLast_concat_getLast _).symm⟩
    have hl' : l'.length = n := by simpa using hl
    rw [lastW_snoc]
    by_cases e : i = n
    · subst e
      rw [← hl', getD_append_eq] at hx ⊢
      rw [if_pos hx]
    · have hy := hno n (by omega) (by omega)
      rw [← hl', getD_append_eq] at hy
      rw [if_neg hy]
      rw [getD_append_lt (by omega)] at hx ⊢
      refine ih hl' (by omega) hx fun j h1 h2 => ?_
      have := hno j h1 (by omega)
      rwa [getD_append_lt (by omega)] at this
theorem lastW_pos {h : List Acc} {x : Int} : ∀ {l : List Nat} {b : Nat}, lastW h l x = some b → ∃ i, i < l.length ∧ l.getD i 0 = b ∧ x ∈ (at' h b).writes ∧ ∀ j, i < j → j < l.length → x ∉ (at' h (l.getD j 0)).writes := by
  intro l
  induction hl : l.length generalizing l with
  | zero => intro b e; rw [List.eq_nil_of_length_eq_zero hl] at e; cases e
  | succ n ih =>
    intro b e
    obtain ⟨l', y, rfl⟩ : ∃ l' y, l = l' ++ [y] := ⟨l.dropLast, l.getLast (by intro e; simp [e] at hl), (List.dropLast_concat_getLast _).symm⟩
    have hl' : l'.length = n := by simpa using hl
    rw [lastW_snoc] at e
    split at e
    · rename_i hy
      cases e
      exact ⟨n, by omega, by rw [← hl', getD_append_eq], hy, fun j h1 h2 => by omega⟩
    · rename_i hy
      obtain ⟨i, h1, h2, h3, h4⟩ := ih hl' e
      refine ⟨i, by omega, by rw [getD_append_lt (by omega)]; exact h2, h3, fun j h5 h6 => ?_⟩
      by_cases e2 : j = n
      · subst e2; rw [← hl', getD_append_eq]; exact hy
      · rw [getD_append_lt (by omega)]; exact h4 j h5 (by omega)

/-! ### the writer whose version a snapshot sees -/
theorem srcTo_max {h : List Acc} {x snap : Int} : ∀ {m : Nat}, (srcTo h x snap m = none → ∀ i, i < m → ¬ Cand h x snap i) ∧ ∀ b, srcTo h x snap m = some b → ∀ i, i < m → Cand h x snap i → (at' h i).stamp ≤ (at' h b).stamp
  | 0 => ⟨fun _ i hi => by omega, fun b e => by cases e⟩
  | m + 1 => by
    obtain ⟨ih1, ih2⟩ := srcTo_max (h := h) (x := x) (snap := snap) (m := m)
    cases e : srcTo h x snap m with
    | none =>
      by_cases c : Cand h x snap m
      · rw [srcTo_some_of e c]
        refine ⟨fun e => (by cases e), fun b e2 i hi hc => ?_⟩
        cases e2
        by_cases e3 : i = m
        · subst e3; exact Int.le_refl _
        · exact absurd hc (ih1 e i (by omega))
      · rw [srcTo_none_of e c]
        refine ⟨fun _ i hi => ?_, fun b e => by cases e⟩
        by_cases e3 : i = m
        · subst e3; exact c
        · exact ih1 e i (by omega)
    | some b =>
      by_cases c : Cand h x snap m ∧ (at' h b).stamp < (at' h m).stamp
      · rw [srcTo_new_of e c]
        refine ⟨fun e => (by cases e), fun b' e2 i hi hc => ?_⟩
        cases e2
        by_cases e3 : i = m
        · subst e3; exact Int.le_refl _
        · have := ih2 b e i (by omega) hc; omega
      · rw [srcTo_keep_of e c]
        refine ⟨fun e => (by cases e), fun b' e2 i hi hc => ?_⟩
        cases e2
        by_cases e3 : i = m
        · subst e3
          exact Int.not_lt.1 fun hlt => c ⟨hc, hlt⟩
        · exact ih2 b e i (by omega) hc
theorem Cand.wr {h : List Acc} {x snap : Int} {i : Nat} (hc : Cand h x snap i) : Wr h i := by
  obtain ⟨h1, h2, h3⟩ := hc
  simp only [Acc.writer, Bool.and_eq_true, decide_eq_true_eq] at h2
  exact ⟨done_lt h2.1, h2.1, h2.2⟩
theorem srcV_some {h : List Acc} {x snap : Int} {b : Nat} (e : srcV h x snap = some b) : Cand h x snap b ∧ ∀ i, Cand h x snap i → (at' h i).stamp ≤ (at' h b).stamp :=
  ⟨(srcTo_lt e).2, fun i hi => srcTo_max.2 b e i hi.wr.1 hi⟩
theorem srcV_none {h : List Acc} {x snap : Int} (e : srcV h x snap = none) (i : Nat) : ¬ Cand h x snap i := fun hc => srcTo_max.1 e i hc.wr.1 hc
theorem srcV_eq {h : List Acc} {x snap : Int} {b : Nat} (hc : checkS h = 0) (hb : Cand h x snap b) (hm : ∀ i, Cand h x snap i → (at' h i).stamp ≤ (at' h b).stamp) : srcV h x snap = some b := by
  cases e : srcV h x snap with
  | none => exact absurd hb (srcV_none e b)
  | some c =>
    obtain ⟨h1, h2⟩ := srcV_some e
    by_cases hbc : c = b
    · rw [hbc]
    · have := stamps_ne hc h1.wr hb.wr hbc
      have := h2 b hb
      have := hm c h1
      omega
theorem srcV_eq_none {h : List Acc} {x snap : Int} (hn : ∀ i, ¬ Cand h x snap i) : srcV h x snap = none := by
  cases e : srcV h x snap with
  | none => rfl
  | some c => exact absurd (srcV_some e).1 (hn c)
theorem cand_of {h : List Acc} {x snap : Int} {i : Nat} (hd : (at' h i).done = true) (hx : x ∈ (at' h i).writes) (hs : (at' h i).stamp ≤ snap) : Cand h x snap i :=
  ⟨hx, Wr.writer ⟨done_lt hd, hd, List.length_pos_of_mem hx⟩, hs⟩
theorem edge_wr {h : List Acc} {i j : Nat} {x : Int} (hij : i ≠ j) (h1 : (at' h i).done = true) (h2 : (at' h j).done = true) (hx : x ∈ (at' h i).writes) (hy : x ∈ (at' h j).reads) (hs : (at' h i).stamp ≤ (at' h j).snap) : Edge h i j :=
  ⟨hij, .inl ⟨h1, h2, .inr ⟨⟨x, hx, hy⟩, hs⟩⟩⟩
theorem edge_ww {h : List Acc} {i j : Nat} {x : Int} (hij : i ≠ j) (h1 : (at' h i).done = true) (h2 : (at' h j).done = true) (hx : x ∈ (at' h i).writes) (hy : x ∈ (at' h j).writes) (hs : (at' h i).stamp < (at' h j).stamp) : Edge h i j :=
  ⟨hij, .inl ⟨h1, h2, .inl ⟨⟨x, hx, hy⟩, hs⟩⟩⟩
theorem edge_rw {h : List Acc} {i j : Nat} {x : Int} (hij : i ≠ j) (h1 : (at' h i).done = true) (h2 : (at' h j).done = true) (hx : x ∈ (at' h i).reads) (hy : x ∈ (at' h j).writes) (hs : (at' h i).snap < (at' h j).stamp) : Edge h i j :=
  ⟨hij, .inr ⟨h1, h2, ⟨x, hx, hy⟩, hs⟩⟩
/-- An order of all that committed that follows the edges is equivalent. -/
theorem eqv_of_fwd {h : List Acc} {ol : List Nat} (hc : checkS h = 0) (hn : ol.Nodup) (hm : ∀ i, i ∈ ol ↔ (i < h.length ∧ (at' h i).done = true)) (hf : FwdO h ol) : EqvO h (natL ol) ol := by
  have hd : ∀ j, j < ol.length → (at' h (ol.getD j 0)).done = true := fun j hj => ((hm _).1 (get_mem hj)).2
  refine ⟨rfl, hn, hm, fun k hk x hx => ?_, fun x hx => ?_⟩
  · have dt := hd k hk
    cases e : srcV h x (at' h (ol.getD k 0)).snap with
    | some w =>
      obtain ⟨cw, cm⟩ := srcV_some e
      have dw := cw.wr.2.1
      have hwt : w ≠ ol.getD k 0 := by
        rintro rfl
        have := cw.wr.stamp hc
        have := cw.2.2
        omega
      obtain ⟨i, hi, rfl⟩ := mem_get ((hm w).2 ⟨cw.wr.1, dw⟩)
      have hik := fwd_lt hf hn hi hk (edge_wr hwt dw dt cw.1 hx cw.2.2)
      have hat := lastW_at (h := h) (x := x) (l := ol.take k) (i := i) (by rw [List.length_take]; omega) (by rw [take_getD hik]; exact cw.1) fun j h1 h2 => by
        rw [List.length_take] at h2
        rw [take_getD (by omega)]
        intro hy
        have dy := hd j (by omega)
        by_cases hs : (at' h (ol.getD j 0)).stamp ≤ (at' h (ol.getD k 0)).snap
        · have cy := cand_of dy hy hs
          have hne : ol.getD j 0 ≠ ol.getD i 0 := fun e2 => by have := getD_nodup hn (by omega) hi e2; omega
          have := stamps_ne hc cy.wr cw.wr hne
          have := cm _ cy
          have := fwd_lt hf hn (by omega) hi (edge_ww hne dy dw hy cw.1 (by omega))
          omega
        · have hne : ol.getD k 0 ≠ ol.getD j 0 := fun e2 => by have := getD_nodup hn hk (by omega) e2; omega
          have := fwd_lt hf hn hk (by omega) (edge_rw hne dt dy hx hy (by omega))
          omega
      rw [hat, take_getD hik]
    | none =>
      rw [lastW_none]
      intro y hy hxy
      obtain ⟨j, hj, rfl⟩ := mem_get hy
      rw [List.length_take] at hj
      rw [take_getD (by omega)] at hxy hy
      have dy := hd j (by omega)
      by_cases hs : (at' h (ol.getD j 0)).stamp ≤ (at' h (ol.getD k 0)).snap
      · exact srcV_none e _ (cand_of dy hxy hs)
      · have hne : ol.getD k 0 ≠ ol.getD j 0 := fun e2 => by have := getD_nodup hn hk (by omega) e2; omega
        have := fwd_lt hf hn hk (by omega) (edge_rw hne dt dy hx hxy (by omega))
        omega
  · obtain ⟨b, hb⟩ := Option.ne_none_iff_exists'.1 hx
    obtain ⟨i, hi, rfl, h3, h4⟩ := lastW_pos hb
    have db := hd i hi
    have wb : Wr h (ol.getD i 0) := ⟨done_lt db, db, List.length_pos_of_mem h3⟩
    rw [hb, srcV_eq hc (cand_of db h3 (wb.stamp hc).2)]
    intro y cy
    obtain ⟨j, hj, rfl⟩ := mem_get ((hm y).2 ⟨cy.wr.1, cy.wr.2.1⟩)
    by_cases e : j = i
    · subst e; exact Int.le_refl _
    · have hji : j < i := Nat.lt_of_not_le fun hge => h4 j (by omega) hj cy.1
      refine Int.not_lt.1 fun hlt => ?_
      have hne : ol.getD i 0 ≠ ol.getD j 0 := fun e2 => by have := getD_nodup hn hi hj e2; omega
      have := fwd_lt hf hn hi hj (edge_ww hne db cy.wr.2.1 h3 cy.1 hlt)
      omega
theorem serial_mem {h : List Acc} {ol : List Nat} (hs : SerialS h (some ol)) : ∀ i, i ∈ ol ↔ (i < h.length ∧ (at' h i).done = true) := fun i => ⟨hs.1.ok i, fun hi => hs.2 i hi.1 hi.2⟩
theorem eqv_of_serial {h : List Acc} {ol : List Nat} (hc : checkS h = 0) (hs : SerialS h (some ol)) : EqvS h (natL ol) := ⟨hc, ol, eqv_of_fwd hc hs.1.nodup (serial_mem hs) (fwd_of_serial hs)⟩
end Go.Proofs.Try
