/-
  A part of the proof: see the text of the law.
-/
import Derived.Test.YthbajphbhoiceaaPlaine
set_option linter.unusedSimpArgs false
set_option linter.unusedVariables false
namespace Go.Proofs.Try
open Go.Al
set_option linter.unusedVariables false
set_option linter.unusedSimpArgs false

/-! ### readers at a safe snapshot -/
/-- Behind a safe snapshot. -/
structure Sf (s : Int) (h : List Acc) : Prop where
  check : checkS h = 0
  nodang : NoDang h
  modes : ∀ i, i < h.length → (at' h i).mode = 1
  pair : ∀ b c, Anti h b c → ¬ (s < (at' h b).stamp ∧ (at' h c).stamp ≤ s)
  old : ∀ i, i < h.length → (at' h i).done = false → s ≤ (at' h i).snap
theorem sf_of_safe {h : List Acc} {s : Int} (hs : SafeS h s) (hn : NoDang h) (hm : ∀ i, i < h.length → (at' h i).mode = 1) : Sf s h := by
  obtain ⟨h1, h2, h3, h4⟩ := safe_iff.1 hs
  refine ⟨h1, hn, hm, fun b c ha hp => ?_, fun i hi hd => ?_⟩
  · exact h4 b (done_lt ha.2.1) c (done_lt ha.2.2.1) ⟨ha, hp⟩
  · have := h3 i hi
    refine Int.not_lt.1 fun hlt => this ⟨hd, ?_, hlt⟩
    rw [hm i hi]; decide
theorem sf_com {h : List Acc} {s : Int} {n : Nat} (hs : Sf s h) (hn : n < h.length) (hd : (at' h n).done = false) (hle : stampS h n ≤ 1073741824) : Sf s (comS h n) := by
  refine ⟨com_check hs.check hn hd hle, com_nodang hs.nodang (hs.modes n hn), fun i hi => ?_, fun b c ha hp => ?_, fun i hi hdi => ?_⟩
  · rw [comS_len] at hi
    unfold comS
    split
    · by_cases e : i = n
      · subst e; rw [at_with hn]; exact hs.modes i hi
      · rw [at_with_ne e]; exact hs.modes i hi
    · exact hs.modes i hi
  · by_cases had : Adm h n
    · rw [comS_yes had] at ha hp
      obtain ⟨hne, d1, d2, hm, hsn⟩ := ha
      by_cases eb : b = n
      · subst eb
        rw [at_with hn] at hsn
        have := hs.old b hn hd
        simp only at hsn
        omega
      · rw [at_with_ne eb] at d1 hm hsn hp
        by_cases ec : c = n
        · subst ec
          rw [at_with hn] at hm hp
          simp only at hm hp
          have hw : 0 < (at' h c).writes.length := hm.right
          have hst : stampS h c = lastS h + 1 := if_pos hw
          have := lastS_ge (h := h) (k := b) (done_lt d1)
          omega
        · rw [at_with_ne ec] at d2 hm hsn hp
          exact hs.pair b c ⟨hne, d1, d2, hm, hsn⟩ hp
    · rw [comS_no had] at ha hp
      exact hs.pair b c ha hp
  · rw [comS_len] at hi
    by_cases had : Adm h n
    · rw [comS_yes had] at hdi ⊢
      by_cases e : i = n
      · subst e; rw [at_with hn] at hdi; cases hdi
      · rw [at_with_ne e] at hdi ⊢; exact hs.old i hi hdi
    · rw [comS_no had] at hdi ⊢
      exact hs.old i hi hdi
theorem anti_snoc {h : List Acc} {x : Acc} {b c : Nat} (hb : b < h.length) (hc : c < h.length) : Anti (h ++ [x]) b c ↔ Anti h b c := by
  unfold Anti
  rw [at_append hb, at_append hc]
theorem sf_snoc {h : List Acc} {s : Int} {x : Acc} (hs : Sf s h) (hc : checkS (h ++ [x]) = 0) (hx : x.done = false) (hm : x.mode = 1) (hsn : s ≤ x.snap) : Sf s (h ++ [x]) := by
  have hlen : (h ++ [x]).length = h.length + 1 := by simp
  have key : ∀ i, (at' (h ++ [x]) i).done = true → i < h.length := fun i di => by
    have hi := done_lt di
    rw [hlen] at hi
    by_cases e : i = h.length
    · subst e; rw [at_snoc, hx] at di; cases di
    · omega
  refine ⟨hc, nodang_snoc hs.nodang hx, fun i hi => ?_, fun b c ha hp => ?_, fun i hi hdi => ?_⟩
  · rw [hlen] at hi
    by_cases e : i = h.length
    · subst e; rw [at_snoc]; exact hm
    · rw [at_append (by omega)]; exact hs.modes i (by omega)
  · have hb := key b ha.2.1
    have hcl := key c ha.2.2.1
    rw [anti_snoc hb hcl] at ha
    rw [at_append hb, at_append hcl] at hp
    exact hs.pair b c ha hp
  · rw [hlen] at hi
    by_cases e : i = h.length
    · subst e; rw [at_snoc]; exact hsn
    · rw [at_append (by omega)] at hdi ⊢; exact hs.old i (by omega) hdi
theorem sf_step {h : List Acc} {s : Int} {t : TryT} (hs : Sf s h) (ho : StepOk 1 s h t) : Sf s (stepS 1 s h t) := by
  have hn : h.length < (h ++ [nextT h 1 s t]).length := by simp
  have hd : (at' (h ++ [nextT h 1 s t]) h.length).done = false := by rw [at_snoc]; rfl
  exact sf_com (sf_snoc hs ho.check' rfl (by simp [nextT]) (by simp only [nextT]; omega)) hn hd ho.stamp
theorem sf_run {h : List Acc} {s : Int} {l : List TryT} (hs : Sf s h) (hok : ∀ k, k < l.length → StepOk 1 s (runS 1 s h (l.take k)) (l.getD k default)) : ∀ k, k ≤ l.length → Sf s (runS 1 s h (l.take k)) := by
  intro k
  induction k with
  | zero => intro _; exact hs
  | succ k ih =>
    intro hk
    rw [runS_snoc (by omega)]
    exact sf_step (ih (by omega)) (hok k (by omega))
/-- The transactions of a script of ModeSerial have that mode. -/
theorem modes_step {h : List Acc} {t : TryT} {least : Int} (hm : ∀ i, i < h.length → (at' h i).mode = 1) : ∀ i, i < (stepS 1 least h t).length → (at' (stepS 1 least h t) i).mode = 1 := by
  intro i hi
  rw [stepS, comS_len, List.length_append, List.length_singleton] at hi
  have key : (at' (h ++ [nextT h 1 least t]) i).mode = 1 := by
    by_cases e : i = h.length
    · subst e; rw [at_snoc]; simp [nextT]
    · rw [at_append (by omega)]; exact hm i (by omega)
  unfold stepS comS
  split
  · by_cases e : i = h.length
    · subst e; rw [at_with (by simp)]; exact key
    · rw [at_with_ne e]; exact key
  · exact key
theorem modes_run {least : Int} {l : List TryT} : ∀ k, k ≤ l.length → ∀ i, i < (runS 1 least [] (l.take k)).length → (at' (runS 1 least [] (l.take k)) i).mode = 1 := by
  intro k
  induction k with
  | zero => intro _ i hi; simp [runS] at hi
  | succ k ih =>
    intro hk
    rw [runS_snoc (by omega)]
    exact modes_step (ih (by omega))

/-- All that have not committed try to. -/
noncomputable def comTo (h : List Acc) : Nat → List Acc
  | 0 => h
  | i + 1 => if (at' (comTo h i) i).done = true then comTo h i else comS (comTo h i) i
theorem comTo_len {h : List Acc} : ∀ {i : Nat}, (comTo h i).length = h.length
  | 0 => rfl
  | i + 1 => by
    simp only [comTo]
    split
    · exact comTo_len
    · rw [comS_len]; exact comTo_len
theorem comTo_ok {h : List Acc} {s : Int} (hs : Sf s h) (hL : lastS h ≤ 100000) (hlen : h.length ≤ 100) : ∀ i, i ≤ h.length → Sf s (comTo h i) ∧ lastS (comTo h i) ≤ lastS h + i := by
  intro i
  induction i with
  | zero => intro _; exact ⟨hs, by simp [comTo]⟩
  | succ i ih =>
    intro hi
    obtain ⟨h1, h2⟩ := ih (by omega)
    simp only [comTo]
    split
    · exact ⟨h1, by omega⟩
    · rename_i hd
      have hn : i < (comTo h i).length := by rw [comTo_len]; omega
      have hle : stampS (comTo h i) i ≤ 1073741824 := by have := stampS_le (h := comTo h i) (n := i); omega
      exact ⟨sf_com h1 hn (by simpa using hd) hle, by have := com_last hn h2; omega⟩

/-- A reader at a snapshot. -/
noncomputable def rdr (s r : Int) : Acc := { mode := 2, snap := s, done := true, stamp := 0, reads := itemsS r, writes := [] }
/-- Behind some readers. -/
structure Rs (s : Int) (h : List Acc) : Prop where
  check : checkS h = 0
  nodang : NoDang h
  pair : ∀ b c, Anti h b c → ¬ (s < (at' h b).stamp ∧ (at' h c).stamp ≤ s)
theorem Sf.rs {s : Int} {h : List Acc} (hs : Sf s h) : Rs s h := ⟨hs.check, hs.nodang, hs.pair⟩
theorem rs_snoc {s r : Int} {h : List Acc} (hs : Rs s h) (h0 : 0 ≤ s ∧ s ≤ 1073741824) (hl : h.length + 1 ≤ 100) : Rs s (h ++ [rdr s r]) := by
  have hr := itemsTo_ok r 8
  have hlen : (h ++ [rdr s r]).length = h.length + 1 := by simp
  have hc : checkS (h ++ [rdr s r]) = 0 := by
    refine check_snoc hs.check hl ⟨by simp only [rdr, itemsS]; omega, by simp [rdr]⟩ ⟨by simp [rdr], by simp [rdr], h0.1, h0.2, hr.2.1, ?_, ?_, ?_, fun _ => rfl⟩ (by simp [rdr, Acc.writer])
    · intro j hj; simp [rdr] at hj
    · simp [rdr]
    · intro hw; simp [rdr, Acc.writer] at hw
  have key : ∀ b c, Anti (h ++ [rdr s r]) b c → c < h.length := fun b c ha => by
    have hcl := done_lt ha.2.2.1
    rw [hlen] at hcl
    by_cases e : c = h.length
    · subst e
      have := ha.2.2.2.1.right
      rw [at_snoc] at this
      simp [rdr] at this
    · omega
  refine ⟨hc, fun a b c hd => ?_, fun b c ha hp => ?_⟩
  · have hbl := key a b hd.1
    have hcl := key b c hd.2.1
    have hal := done_lt hd.1.2.1
    rw [hlen] at hal
    have hbc := (anti_snoc hbl hcl).1 hd.2.1
    by_cases e : a = h.length
    · subst e
      have hs1 := hd.1.2.2.2.2
      rw [at_snoc, at_append hbl] at hs1
      obtain ⟨_, _, hst, hcase⟩ := hd
      rw [at_snoc] at hcase
      rcases hcase with hcase | hcase | hcase
      · omega
      · simp [rdr] at hcase
      · rw [at_append hcl] at hcase
        exact hs.pair b c hbc ⟨hs1, hcase.2⟩
    · exact hs.nodang a b c (hd.congr (at_append (by omega)) (at_append hbl) (at_append hcl))
  · have hcl := key b c ha
    have hbl := done_lt ha.2.1
    rw [hlen] at hbl
    by_cases e : b = h.length
    · subst e
      rw [at_snoc] at hp
      have : (rdr s r).stamp = 0 := rfl
      omega
    · rw [at_append (by omega), at_append hcl] at hp
      exact hs.pair b c ((anti_snoc (by omega) hcl).1 ha) hp
noncomputable def rdrs (s : Int) (h : List Acc) (l : List Int) : List Acc := h ++ l.map (rdr s)
theorem rdrs_snoc {s : Int} {h : List Acc} {l : List Int} {k : Nat} (hk : k < l.length) : rdrs s h (l.take (k + 1)) = rdrs s h (l.take k) ++ [rdr s (l.getD k 0)] := by
  unfold rdrs
  have e : l.take (k + 1) = l.take k ++ [l.getD k 0] := by
    rw [List.take_add_one, List.getElem?_eq_getElem hk, List.getD_eq_getElem?_getD, List.getElem?_eq_getElem hk]; rfl
  rw [e, List.map_append, List.append_assoc]; rfl
theorem rdrs_len {s : Int} {h : List Acc} {l : List Int} : (rdrs s h l).length = h.length + l.length := by simp [rdrs]
theorem rdrs_ok {s : Int} {h : List Acc} {l : List Int} (hs : Rs s h) (h0 : 0 ≤ s ∧ s ≤ 1073741824) (hl : h.length + l.length ≤ 100) : ∀ k, k ≤ l.length → Rs s (rdrs s h (l.take k)) := by
  intro k
  induction k with
  | zero => intro _; simpa [rdrs] using hs
  | succ k ih =>
    intro hk
    rw [rdrs_snoc (by omega)]
    refine rs_snoc (ih (by omega)) h0 ?_
    rw [rdrs_len, List.length_take]; omega
end Go.Proofs.Try
