/-
  A part of the proof: see the text of the law.
-/
import Derived.Test.YthbajphbhoiceaaPlainc
import Derived.Test.YthbajphbhoiceaaCbq
set_option linter.unusedSimpArgs false
set_option linter.unusedVariables false
namespace Go.Proofs.Try
open Go.Al
set_option linter.unusedVariables false
set_option linter.unusedSimpArgs false

/-! ### what commits keeps -/
def NoDang (h : List Acc) : Prop := ∀ a b c, ¬ Dang h a b c
theorem Dang.dones {h : List Acc} {a b c : Nat} (hd : Dang h a b c) : (at' h a).done = true ∧ (at' h b).done = true ∧ (at' h c).done = true := ⟨hd.1.2.1, hd.1.2.2.1, hd.2.1.2.2.1⟩
theorem Dang.congr {h h' : List Acc} {a b c : Nat} (ha : at' h' a = at' h a) (hb : at' h' b = at' h b) (hc : at' h' c = at' h c) (hd : Dang h' a b c) : Dang h a b c := by
  unfold Dang Anti at hd ⊢
  rw [ha, hb, hc] at hd
  exact hd
theorem at_append {h : List Acc} {x : Acc} {i : Nat} (hi : i < h.length) : at' (h ++ [x]) i = at' h i := by
  simp [at', List.getElem?_append_left hi]
theorem nodang_snoc {h : List Acc} {x : Acc} (hn : NoDang h) (hx : x.done = false) : NoDang (h ++ [x]) := by
  intro a b c hd
  obtain ⟨d1, d2, d3⟩ := hd.dones
  have key : ∀ i, (at' (h ++ [x]) i).done = true → at' (h ++ [x]) i = at' h i := fun i di => by
    have hi := done_lt di
    rw [List.length_append, List.length_singleton] at hi
    by_cases e : i = h.length
    · subst e; rw [at_snoc, hx] at di; cases di
    · exact at_append (by omega)
  exact hn a b c (hd.congr (key a d1) (key b d2) (key c d3))
theorem nodang_with {h : List Acc} {n : Nat} (hn : NoDang h) (hw : ¬ DangW h n) : NoDang (withS h n (stampS h n)) := by
  intro a b c hd
  obtain ⟨d1, d2, d3⟩ := hd.dones
  have l1 := done_lt d1
  have l2 := done_lt d2
  have l3 := done_lt d3
  rw [withS_len] at l1 l2 l3
  by_cases e : a = n ∨ b = n ∨ c = n
  · exact hw ⟨a, b, c, l1, l2, l3, hd, e⟩
  · simp only [not_or] at e
    exact hn a b c (hd.congr (at_with_ne e.1) (at_with_ne e.2.1) (at_with_ne e.2.2))
theorem lastTo_bound {h : List Acc} {c : Int} (h0 : 0 ≤ c) : ∀ {m : Nat}, (∀ k, k < m → (at' h k).stamp ≤ c ∧ (at' h k).snap ≤ c) → lastTo h m ≤ c
  | 0, _ => by simpa [lastTo] using h0
  | m + 1, hk => by
    have := lastTo_bound h0 (m := m) fun k hk2 => hk k (by omega)
    have := hk m (by omega)
    simp only [lastTo]; omega
theorem lastS_bound {h : List Acc} {c : Int} (h0 : 0 ≤ c) (hk : ∀ k, k < h.length → (at' h k).stamp ≤ c ∧ (at' h k).snap ≤ c) : lastS h ≤ c := lastTo_bound h0 hk
theorem lastS_snoc {h : List Acc} {x : Acc} {c : Int} (h1 : lastS h ≤ c) (h2 : x.stamp ≤ c) (h3 : x.snap ≤ c) : lastS (h ++ [x]) ≤ c := by
  have := lastS_nn (h := h)
  refine lastS_bound (by omega) fun k hk => ?_
  rw [List.length_append, List.length_singleton] at hk
  by_cases e : k = h.length
  · subst e; rw [at_snoc]; exact ⟨h2, h3⟩
  · rw [at_append (by omega)]
    have := lastS_ge (h := h) (k := k) (by omega)
    omega
theorem lastS_with {h : List Acc} {n : Nat} {s c : Int} (h1 : lastS h ≤ c) (h2 : s ≤ c) (hn : n < h.length) : lastS (withS h n s) ≤ c := by
  have := lastS_nn (h := h)
  refine lastS_bound (by omega) fun k hk => ?_
  rw [withS_len] at hk
  have := lastS_ge (h := h) (k := k) hk
  by_cases e : k = n
  · subst e; rw [at_with hn]; exact ⟨h2, by simp only; omega⟩
  · rw [at_with_ne e]; omega
theorem stampS_le {h : List Acc} {n : Nat} : 0 ≤ stampS h n ∧ stampS h n ≤ lastS h + 1 := by
  have := lastS_nn (h := h)
  unfold stampS; split <;> omega

/-- A new transaction that has not committed keeps a history valid. -/
theorem check_snoc {h : List Acc} {x : Acc} (hc : checkS h = 0) (hl : h.length + 1 ≤ 100) (hi : x.reads.length ≤ 64 ∧ x.writes.length ≤ 64) (hf : x.Formed) (hw : x.writer = false) : checkS (h ++ [x]) = 0 := by
  rw [check_zero] at hc ⊢
  obtain ⟨c1, c2, c3⟩ := hc
  have hst : x.stamp = 0 := by
    obtain ⟨_, _, _, _, _, _, _, _, f9⟩ := hf
    exact f9 hw
  have hlen : (h ++ [x]).length = h.length + 1 := by simp
  refine ⟨?_, ?_, ?_⟩
  · rintro (hb | ⟨i, hlt, hb⟩)
    · omega
    · rw [hlen] at hlt
      by_cases e : i = h.length
      · subst e; rw [at_snoc] at hb; omega
      · rw [at_append (by omega)] at hb
        exact c1 (.inr ⟨i, by omega, hb⟩)
  · rintro (⟨i, hlt, hb⟩ | ⟨i, j, hij, hj, hb1, hb2⟩)
    · rw [hlen] at hlt
      by_cases e : i = h.length
      · subst e; rw [at_snoc] at hb; exact hb hf
      · rw [at_append (by omega)] at hb
        exact c2 (.inl ⟨i, by omega, hb⟩)
    · rw [hlen] at hj
      by_cases e : j = h.length
      · subst e; rw [at_snoc, hst] at hb2; omega
      · rw [at_append (by omega), at_append (by omega)] at hb1
        rw [at_append (by omega)] at hb2
        exact c2 (.inr ⟨i, j, hij, by omega, hb1, hb2⟩)
  · rintro ⟨i, j, hji, hlt, hb⟩
    rw [hlen] at hlt
    by_cases e : i = h.length
    · subst e; rw [at_snoc] at hb; have := hb.1; rw [hw] at this; cases this
    · rw [at_append (by omega), at_append (by omega)] at hb
      exact c3 ⟨i, j, hji, by omega, hb⟩

section
variable {mode least : Int} {h : List Acc} {t : TryT}
theorem next_formed (hm : mode = 1 ∨ mode = 3) (hc : checkS h = 0) (hl : 0 ≤ least ∧ least ≤ 1073741824) (ht : t.ok) : (nextT h mode least t).Formed := by
  have h1 := lastS_le hc
  have h2 := lastS_nn (h := h)
  obtain ⟨t1, t2, t3, t4⟩ := ht
  have hm3 : 0 ≤ t.mode.tmod 3 ∧ t.mode.tmod 3 ≤ 2 := by
    rw [Int.tmod_eq_emod_of_nonneg t3]; omega
  have hm6 : 0 ≤ t.ago.tmod 6 ∧ t.ago.tmod 6 ≤ 5 := by
    rw [Int.tmod_eq_emod_of_nonneg t1]; omega
  have hr := itemsTo_ok t.reads 8
  have hw := itemsTo_ok t.writes 8
  have hasc : Asc (nextT h mode least t).writes := by
    simp only [nextT, begS]; split
    · intro j hj; simp at hj
    · exact hw.2.1
  refine ⟨?_, ?_, ?_, ?_, hr.2.1, hasc, ?_, ?_, ?_⟩
  · simp only [nextT, begS]; rcases hm with rfl | rfl <;> simp <;> omega
  · simp only [nextT, begS]; rcases hm with rfl | rfl <;> simp <;> omega
  · simp only [nextT, begS]; omega
  · simp only [nextT, begS]; omega
  · rintro ⟨e1, e2⟩
    simp only [nextT, begS] at e1 e2
    rcases hm with rfl | rfl
    · simp at e1
    · simp at e1
      rw [if_pos e1] at e2
      simp at e2
  · intro hx; simp [nextT, begS, Acc.writer] at hx
  · intro _; rfl
theorem next_items : (nextT h mode least t).reads.length ≤ 64 ∧ (nextT h mode least t).writes.length ≤ 64 := by
  have hr := (itemsTo_ok t.reads 8).1
  have hw := (itemsTo_ok t.writes 8).1
  refine ⟨by simp only [nextT, begS, itemsS]; omega, ?_⟩
  simp only [nextT, begS]; split
  · simp
  · simp only [itemsS]; omega
theorem next_snap (ht : t.ok) : (nextT h mode least t).snap ≤ max (lastS h) least := by
  have h2 := lastS_nn (h := h)
  obtain ⟨t1, t2, t3, t4⟩ := ht
  have hm6 : 0 ≤ t.ago.tmod 6 := by rw [Int.tmod_eq_emod_of_nonneg t1]; omega
  simp only [nextT, begS]; omega
theorem step_ok (hm : mode = 1 ∨ mode = 3) (hc : checkS h = 0) (hlen : h.length + 1 ≤ 100) (hL : lastS h ≤ 1000000) (hl : 0 ≤ least ∧ least ≤ 1000000) (ht : t.ok) : StepOk mode least h t := by
  have hc' := check_snoc hc hlen next_items (next_formed (t := t) hm hc ⟨hl.1, by omega⟩ ht) (by simp [nextT, begS, Acc.writer])
  refine ⟨hc, hc', ?_⟩
  have := next_snap (h := h) (mode := mode) (least := least) ht
  have h2 : lastS (h ++ [nextT h mode least t]) ≤ 1000000 := lastS_snoc hL (by simp [nextT, begS]) (by omega)
  have := stampS_le (h := h ++ [nextT h mode least t]) (n := h.length)
  omega
/-- Committing by Admit keeps a history valid. -/
theorem com_check {n : Nat} (hc : checkS h = 0) (hn : n < h.length) (hd : (at' h n).done = false) (hle : stampS h n ≤ 1073741824) : checkS (comS h n) = 0 := by
  unfold comS
  split
  · rename_i ha
    exact check_with hc hn hd hle fun k hk hdk hm => Int.not_lt.1 fun hlt => ha.1 ⟨k, hk, hdk, hm, hlt⟩
  · exact hc
theorem com_nodang {n : Nat} (hn : NoDang h) (hm : (at' h n).mode = 1) : NoDang (comS h n) := by
  unfold comS
  split
  · rename_i ha
    exact nodang_with hn fun hw => ha.2 ⟨hm, hw⟩
  · exact hn
theorem com_last {n : Nat} {c : Int} (hn : n < h.length) (hl : lastS h ≤ c) : lastS (comS h n) ≤ c + 1 := by
  unfold comS
  split
  · exact lastS_with (by omega) (by have := stampS_le (h := h) (n := n); omega) hn
  · omega
end

/-- What holds behind some steps of a script. -/
structure RunInv (mode least : Int) (h h' : List Acc) (k : Nat) : Prop where
  check : checkS h' = 0
  len : h'.length = h.length + k
  last : lastS h' ≤ max (lastS h) least + k
  nodang : mode = 1 → NoDang h → NoDang h'
theorem run_step {mode least : Int} {h h' : List Acc} {k : Nat} {t : TryT} (hi : RunInv mode least h h' k) (hs : StepOk mode least h' t) (ht : t.ok) (hl : 0 ≤ least) : RunInv mode least h (stepS mode least h' t) (k + 1) := by
  have hn : h'.length < (h' ++ [nextT h' mode least t]).length := by simp
  have hd : (at' (h' ++ [nextT h' mode least t]) h'.length).done = false := by rw [at_snoc]; rfl
  have h1 := hi.last
  have h2 := lastS_nn (h := h)
  refine ⟨com_check hs.check' hn hd hs.stamp, ?_, ?_, fun hm hnd => ?_⟩
  · rw [stepS, comS_len, List.length_append, List.length_singleton, hi.len]; omega
  · have := next_snap (h := h') (mode := mode) (least := least) ht
    have := com_last (h := h' ++ [nextT h' mode least t]) (c := max (lastS h) least + k) hn (lastS_snoc h1 (by simp [nextT, begS]; omega) (by omega))
    simp only [stepS]; omega
  · refine com_nodang (nodang_snoc (hi.nodang hm hnd) rfl) ?_
    rw [at_snoc]
    simp [nextT, hm]
theorem run_inv {mode least : Int} {h : List Acc} {l : List TryT} (hm : mode = 1 ∨ mode = 3) (hc : checkS h = 0) (hlen : h.length + l.length ≤ 100) (hL : lastS h ≤ 100000) (hl : 0 ≤ least ∧ least ≤ 100000) (hts : ∀ t ∈ l, t.ok) :
    ∀ k, k ≤ l.length → RunInv mode least h (runS mode least h (l.take k)) k := by
  intro k
  induction k with
  | zero => intro _; exact ⟨hc, by simp [runS], by simp [runS]; omega, fun _ h => h⟩
  | succ k ih =>
    intro hk
    have hi := ih (by omega)
    rw [runS_snoc (by omega)]
    have ht : (l.getD k default).ok := hts _ (by rw [List.getD_eq_getElem?_getD, List.getElem?_eq_getElem (show k < l.length by omega)]; exact List.getElem_mem (show k < l.length by omega))
    exact run_step hi (step_ok hm hi.check (by rw [hi.len]; omega) (by have := hi.last; omega) ⟨hl.1, by omega⟩ ht) ht hl.1
theorem run_ok {mode least : Int} {h : List Acc} {l : List TryT} (hm : mode = 1 ∨ mode = 3) (hc : checkS h = 0) (hlen : h.length + l.length ≤ 100) (hL : lastS h ≤ 100000) (hl : 0 ≤ least ∧ least ≤ 100000) (hts : ∀ t ∈ l, t.ok) :
    (∀ k, k < l.length → StepOk mode least (runS mode least h (l.take k)) (l.getD k default)) ∧ RunInv mode least h (runS mode least h l) l.length := by
  have hi := run_inv (least := least) hm hc hlen hL hl hts
  refine ⟨fun k hk => ?_, ?_⟩
  · have hi := hi k (by omega)
    have ht : (l.getD k default).ok := hts _ (by rw [List.getD_eq_getElem?_getD, List.getElem?_eq_getElem hk]; exact List.getElem_mem hk)
    exact step_ok hm hi.check (by rw [hi.len]; omega) (by have := hi.last; omega) ⟨hl.1, by omega⟩ ht
  · have := hi l.length (Nat.le_refl _)
    rwa [List.take_length] at this
theorem check_nil : checkS [] = 0 := check_of (by simp) (fun i hi => by simp at hi) (fun i hi => by simp at hi)
theorem nodang_nil : NoDang [] := fun a b c hd => by have := done_lt hd.dones.1; simp at this
/-- A valid history without a dangerous structure has a serial order. -/
theorem serial_of {h : List Acc} (hc : checkS h = 0) (hn : NoDang h) {t : Option (List Nat)} (ht : SerialF h t) : ∃ ol, t = some ol ∧ SerialS h (some ol) := by
  rw [SerialF, if_pos hc] at ht
  rcases t with _ | ol
  · obtain ⟨a, b, c, _, _, _, hd⟩ := dang_of_none hc ht
    exact absurd hd (hn a b c)
  · exact ⟨ol, rfl, ht⟩
theorem firstD_none {h : List Acc} (hc : checkS h = 0) (hn : NoDang h) {t : Option (Nat × Nat × Nat)} (ht : FirstD h t) : t = none := by
  rw [FirstD, if_pos hc] at ht
  exact (firstT_none ht).2 fun a b c _ _ _ => hn a b c
end Go.Proofs.Try
