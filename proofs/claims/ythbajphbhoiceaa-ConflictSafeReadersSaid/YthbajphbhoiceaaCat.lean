/-
  A part of the proof: see the text of the law.
-/
import Derived.Test.YthbajphbhoiceaaCas
set_option linter.unusedSimpArgs false
set_option linter.unusedVariables false
namespace Go.Al
theorem Ent.nilv {m N : Nat} {fr : List (Nat × AV)} {H : List AObj} {s' : AS} (t sz : Nat) (h : get fr t = .raw (.slice none 0 0)) (he : Ent m N ⟨(t, .view sz []) :: fr, H⟩ s') : Ent m N ⟨fr, H⟩ s' := by
  refine Ent.trans (s' := ⟨(t, .view sz []) :: fr, H⟩) (fun γ σ w a hr => ⟨γ, σ, .refl _ _ _, hr.inv, fun u => ?_, hr.defers, hr.size⟩) he
  simp only [get]
  split
  · rename_i e; subst e
    have := hr.fr t
    simp only [h] at this
    exact weak_nil _ _ _ this
  · exact hr.fr u
end Go.Al
namespace Go.Proofs.Try
open Go.Al
set_option linter.unusedVariables false
set_option linter.unusedSimpArgs false
open Classical

/-! ### the cycle -/
/-- The first place that has a shortest cycle, of those before a place. -/
def Best (h : List Acc) (m : Nat) : Option (Nat × Nat) → Prop
  | none => ∀ s, s < m → dist h s s = 0
  | some (s, n) => s < m ∧ dist h s s = n ∧ n ≠ 0 ∧ ∀ s', s' < m → dist h s' s' = 0 ∨ n < dist h s' s' ∨ (n = dist h s' s' ∧ s ≤ s')
theorem Best.uniq {h : List Acc} {m : Nat} : ∀ {t t' : Option (Nat × Nat)}, Best h m t → Best h m t' → t = t'
  | none, none, _, _ => rfl
  | none, some (s, n), h1, h2 => absurd (h1 s h2.1) (by rw [h2.2.1]; exact h2.2.2.1)
  | some (s, n), none, h2, h1 => absurd (h1 s h2.1) (by rw [h2.2.1]; exact h2.2.2.1)
  | some (s, n), some (s', n'), ⟨a1, a2, a3, a4⟩, ⟨b1, b2, b3, b4⟩ => by
    have h1 := a4 s' b1
    have h2 := b4 s a1
    have : n = n' ∧ s = s' := by omega
    rw [this.1, this.2]
def bS : Option (Nat × Nat) → Nat | none => 0 | some (_, n) => n
def bO : Option (Nat × Nat) → List Nat | none => [] | some (s, _) => [s]
noncomputable def bL (h : List Acc) : Option (Nat × Nat) → List Nat | none => [] | some (s, _) => distL h s
theorem edge_self {h : List Acc} {i : Nat} : ¬ Edge h i i := fun he => he.1 rfl
theorem dist_two {h : List Acc} {s : Nat} (hd : dist h s s ≠ 0) : 2 ≤ dist h s s := by
  by_cases h1 : dist h s s = 1
  · exact absurd (dist_one.1 h1).2.2 edge_self
  · omega

/-- The next place of a cycle. -/
def NextC (h : List Acc) (s a n j : Nat) : Prop := s < j ∧ j < h.length ∧ Edge h a j ∧ dist h s j = n ∧ ∀ j', s < j' → j' < j → ¬ (Edge h a j' ∧ dist h s j' = n)
/-- The beginning of a cycle. -/
def CycL (h : List Acc) (s n : Nat) (c : List Nat) : Prop := c.length ≤ n ∧ 0 < c.length ∧ c.getD 0 0 = s ∧ ∀ k, 1 ≤ k → k < c.length → NextC h s (c.getD (k - 1) 0) (n - k) (c.getD k 0)
def CycS (h : List Acc) (c : List Nat) : Prop := (c = [] ∧ Best h h.length none) ∨ ∃ s n, Best h h.length (some (s, n)) ∧ CycL h s n c ∧ c.length = n
def CycF (h : List Acc) (c : List Nat) : Prop := if checkS h = 0 then CycS h c else c = []
theorem NextC.uniq {h : List Acc} {s a n j j' : Nat} (h1 : NextC h s a n j) (h2 : NextC h s a n j') : j = j' := by
  by_cases e : j < j'
  · exact absurd ⟨h1.2.2.1, h1.2.2.2.1⟩ (h2.2.2.2.2 j h1.1 e)
  · by_cases e' : j' < j
    · exact absurd ⟨h2.2.2.1, h2.2.2.2.1⟩ (h1.2.2.2.2 j' h2.1 e')
    · omega
theorem CycL.uniq {h : List Acc} {s n : Nat} {c c' : List Nat} (h1 : CycL h s n c) (h2 : CycL h s n c') (hl : c.length = c'.length) : c = c' := by
  refine nodup_get_ext hl fun k => ?_
  induction k with
  | zero => intro _; rw [h1.2.2.1, h2.2.2.1]
  | succ k ih =>
    intro hk
    have a := h1.2.2.2 (k + 1) (by omega) hk
    have b := h2.2.2.2 (k + 1) (by omega) (by omega)
    rw [Nat.add_sub_cancel] at a b
    rw [ih (by omega)] at a
    exact a.uniq b
theorem CycS.uniq {h : List Acc} {c c' : List Nat} (h1 : CycS h c) (h2 : CycS h c') : c = c' := by
  rcases h1 with ⟨rfl, h1⟩ | ⟨s, n, h1, a1, a2⟩
  · rcases h2 with ⟨rfl, h2⟩ | ⟨s', n', h2, b1, b2⟩
    · rfl
    · cases h1.uniq h2
  · rcases h2 with ⟨rfl, h2⟩ | ⟨s', n', h2, b1, b2⟩
    · cases h1.uniq h2
    · cases h1.uniq h2
      exact a1.uniq b1 (by omega)
theorem CycF.uniq {h : List Acc} {c c' : List Nat} (h1 : CycF h c) (h2 : CycF h c') : c = c' := by
  unfold CycF at h1 h2
  split at h1
  · rename_i hc; rw [if_pos hc] at h2; exact h1.uniq h2
  · rename_i hc; rw [if_neg hc] at h2; rw [h1, h2]
theorem CycL.one {h : List Acc} {s n : Nat} (hn : 0 < n) : CycL h s n [s] := ⟨by simp; omega, by simp, by simp, fun k h1 h2 => by simp at h2; omega⟩
theorem CycL.snoc {h : List Acc} {s n j : Nat} {c : List Nat} (hc : CycL h s n c) (hl : c.length < n) (hj : NextC h s (c.getD (c.length - 1) 0) (n - c.length) j) : CycL h s n (c ++ [j]) := by
  obtain ⟨h1, h2, h3, h4⟩ := hc
  refine ⟨by simp; omega, by simp, by rw [getD_append_lt h2]; exact h3, fun k k1 k2 => ?_⟩
  by_cases e : k < c.length
  · rw [getD_append_lt e, getD_append_lt (by omega)]
    exact h4 k k1 e
  · have : k = c.length := by simp at k2; omega
    subst this
    rw [getD_append_eq, getD_append_lt (by omega)]
    exact hj
theorem CycL.dist {h : List Acc} {s n : Nat} {c : List Nat} (hc : CycL h s n c) (hd : dist h s s = n) : ∀ k, k < c.length → Try.dist h s (c.getD k 0) = n - k
  | 0, _ => by rw [hc.2.2.1]; exact hd
  | k + 1, hk => (hc.2.2.2 (k + 1) (by omega) hk).2.2.2.1
theorem CycL.range {h : List Acc} {s n : Nat} {c : List Nat} (hc : CycL h s n c) (hs : s < h.length) : ∀ k, k < c.length → s ≤ c.getD k 0 ∧ c.getD k 0 < h.length
  | 0, _ => by rw [hc.2.2.1]; omega
  | k + 1, hk => by have := hc.2.2.2 (k + 1) (by omega) hk; exact ⟨by have := this.1; omega, this.2.1⟩
theorem CycL.more {h : List Acc} {s n : Nat} {c : List Nat} (hc : CycL h s n c) (hd : Try.dist h s s = n) (hl : c.length < n) : ∃ j, s < j ∧ j < h.length ∧ Edge h (c.getD (c.length - 1) 0) j ∧ Try.dist h s j = n - c.length := by
  have h1 := hc.dist hd (c.length - 1) (by have := hc.2.1; omega)
  have := hc.2.1
  exact dist_step (by omega) (by omega)

set_option maxHeartbeats 8000000
theorem IdxR_nats {P : Program} {m N : Nat} {l : List Nat} {i d : Nat} {c : Kn} (hi : i < l.length) : IdxR P m N ((natL l).map (AV.int .i64)) (i : Int) d c = rK P m N c d (.vp [.int .i64 (l.getD i 0 : Nat)]) := by
  rw [IdxR_ints (by omega) (by simp [natL]; omega), Int.toNat_natCast, natL_getD hi]
theorem c62 (h : List Acc) (s a n : Nat) (hn : h.length ≤ 100) (hs : s < h.length) (ha : a < h.length) : ACalls E.P 62 [.view 6 (h.map accA), .int .i64 s, .int .i64 a, intsA (natL (distL h s)), .int .i64 n] []
    (fun r H => (∃ j : Nat, r = .int .i64 (j : Int) ∧ (NextC h s a n j ∨ (j = s ∧ ∀ j', s < j' → j' < h.length → ¬ (Edge h a j' ∧ dist h s j' = n)))) ∧ H = []) := by
  have hmax := maxLen_eq
  refine ok62.acalls hE hm (by simp) ?_
  unfold mc62
  simp only [intsA]
  repeat' (first
    | (with_reducible first | apply cond_d | apply cond_nd | apply cond_i | apply guard_d | apply guard_nd | apply guard_df | apply guard_ndf | apply guard_i | apply ag_d | apply ag_nd | apply ag_df | apply ag_ndf | apply ag_i) <;> intro _
    | with_reducible first | refine LenR_i fun _ => ?_ | refine And.intro (by omega) ?_ | refine and_assoc.2 ?_ | apply sp_cond | apply sp_guard | apply sp_ag | apply sp_call | apply sp_acall | apply sp_loop | apply sp_any | apply sp_frz | apply sp_len | apply sp_idx | apply sp_keep | apply sp_back
    | with_reducible refine frz0_i ?_
    | ((with_reducible refine keep0_i ?_); simp only [lPA, lPD, novO, setAll, seval, implies_true])
    | simp (maxSteps := 1000000) (disch := omega) only [lAL, lDF, tupA, eqA, isNil, slcNil, ptrCells, ptrAdd, cellsO, intA, boolA, readsV, readsP, isCall, wrote, srcOf, isNilSlice, Value.oneCell', seval, implies_true, forall_eq, ne_eq, wrap_i64, LenR_ok, List.length_map, IdxR_ints])
  refine loop_i (fun j : Nat => s + 1 ≤ j ∧ j ≤ h.length ∧ ∀ j', s < j' → j' < j → ¬ (Edge h a j' ∧ dist h s j' = n)) (fun j => ⟨[(0, .view 6 (h.map accA)), (1, .int .i64 s), (2, .int .i64 a), (3, intsA (natL (distL h s))), (4, .int .i64 n), (11, .int .i64 j)], []⟩) (fun j => h.length - j) (s + 1) ⟨by omega, by omega, by omega⟩ (Ent.to [] false (by simp) (by simp) rfl (by simp only [lPA, lPD, novO, setAll, seval, implies_true, intsA] <;> (try simp) <;> (try omega)) (by simp only [lPA, lPD, novO, setAll, seval, implies_true, intsA] <;> (try simp) <;> (try omega))) ?_
  rintro j ⟨hsj, hj, hno⟩
  simp only [intsA]
  by_cases hjn : j < h.length
  · have k1 := c53 h a j ha hjn
    have e1 : ∀ {m N d c}, IdxR E.P m N ((natL (distL h s)).map (AV.int .i64)) (j : Int) d c = rK E.P m N c d (.vp [.int .i64 (dist h s j : Nat)]) := by
      intro m N d c
      rw [IdxR_nats (by rw [distL_length]; exact hjn), distL_get hjn]
    repeat' (first
      | (with_reducible first | apply cond_d | apply cond_nd | apply cond_i | apply guard_d | apply guard_nd | apply guard_df | apply guard_ndf | apply guard_i | apply ag_d | apply ag_nd | apply ag_df | apply ag_ndf | apply ag_i) <;> intro _
      | with_reducible first | refine LenR_i fun _ => ?_ | refine And.intro (by omega) ?_ | refine and_assoc.2 ?_ | apply sp_cond | apply sp_guard | apply sp_ag | apply sp_call | apply sp_acall | apply sp_loop | apply sp_any | apply sp_frz | apply sp_len | apply sp_idx | apply sp_keep | apply sp_back
      | with_reducible refine frz0_i ?_
      | ((with_reducible first | refine callN_i [] true (by simp) (by simp) ?_ | refine acallN_i true ?_); simp only [lPA, lPD, novO, setAll, seval, implies_true, e1]; (refine ⟨_, k1, ?_⟩; rintro _ _ ⟨rfl, rfl⟩); simp only [lAL, lDF, tupA, eqA, isNil, slcNil, ptrCells, ptrAdd, cellsO, intA, boolA, readsV, readsP, isCall, wrote, srcOf, isNilSlice, Value.oneCell', seval, implies_true, forall_eq, ne_eq, lPA, lPD, novO, setAll, e1])
      | ((with_reducible refine keep0_i ?_); simp only [lPA, lPD, novO, setAll, seval, implies_true])
      | simp (maxSteps := 1000000) (disch := omega) only [lAL, lDF, tupA, eqA, isNil, slcNil, ptrCells, ptrAdd, cellsO, intA, boolA, readsV, readsP, isCall, wrote, srcOf, isNilSlice, Value.oneCell', seval, implies_true, forall_eq, ne_eq, wrap_i64, LenR_ok, List.length_map, IdxR_ints, e1])
    all_goals try (exfalso; omega)
    · rename_i h1 h2 h3
      exact ⟨j, rfl, .inl ⟨by omega, hjn, h2, by omega, hno⟩⟩
    · rename_i h1 h2 h3
      refine back_i (j + 1) ⟨by omega, by omega, fun j' h4 h5 => ?_⟩ (by omega) (Ent.to [] false (by simp) (by simp) rfl (by simp only [lPA, lPD, novO, setAll, seval, implies_true, intsA] <;> (try simp) <;> (try omega)) (by simp only [lPA, lPD, novO, setAll, seval, implies_true, intsA] <;> (try simp) <;> (try omega)))
      by_cases e : j' < j
      · exact hno j' h4 e
      · have : j' = j := by omega
        subst this
        exact fun hh => h3 (by omega)
    · rename_i h1 h2
      refine back_i (j + 1) ⟨by omega, by omega, fun j' h4 h5 => ?_⟩ (by omega) (Ent.to [] false (by simp) (by simp) rfl (by simp only [lPA, lPD, novO, setAll, seval, implies_true, intsA] <;> (try simp) <;> (try omega)) (by simp only [lPA, lPD, novO, setAll, seval, implies_true, intsA] <;> (try simp) <;> (try omega)))
      by_cases e : j' < j
      · exact hno j' h4 e
      · have : j' = j := by omega
        subst this
        exact fun hh => h2 hh.1
  · have : j = h.length := by omega
    subst this
    repeat' (first
      | (with_reducible first | apply cond_d | apply cond_nd | apply cond_i | apply guard_d | apply guard_nd | apply guard_df | apply guard_ndf | apply guard_i | apply ag_d | apply ag_nd | apply ag_df | apply ag_ndf | apply ag_i) <;> intro _
      | with_reducible first | refine LenR_i fun _ => ?_ | refine And.intro (by omega) ?_ | refine and_assoc.2 ?_ | apply sp_cond | apply sp_guard | apply sp_ag | apply sp_call | apply sp_acall | apply sp_loop | apply sp_any | apply sp_frz | apply sp_len | apply sp_idx | apply sp_keep | apply sp_back
      | with_reducible refine frz0_i ?_
      | ((with_reducible refine keep0_i ?_); simp only [lPA, lPD, novO, setAll, seval, implies_true])
      | simp (maxSteps := 1000000) (disch := omega) only [lAL, lDF, tupA, eqA, isNil, slcNil, ptrCells, ptrAdd, cellsO, intA, boolA, readsV, readsP, isCall, wrote, srcOf, isNilSlice, Value.oneCell', seval, implies_true, forall_eq, ne_eq, wrap_i64, LenR_ok, List.length_map, IdxR_ints])
    all_goals try (exfalso; omega)
    exact ⟨s, rfl, .inr ⟨rfl, hno⟩⟩

theorem Best.next0 {h : List Acc} {m : Nat} {t : Option (Nat × Nat)} (hb : Best h m t) (hd : dist h m m = 0 ∨ (bS t ≠ 0 ∧ bS t ≤ dist h m m)) : Best h (m + 1) t := by
  rcases t with _ | ⟨s, n⟩
  · intro s hs
    by_cases e : s < m
    · exact hb s e
    · have : s = m := by omega
      subst this
      rcases hd with hd | ⟨hd, _⟩
      · exact hd
      · exact absurd rfl hd
  · obtain ⟨h1, h2, h3, h4⟩ := hb
    refine ⟨by omega, h2, h3, fun s' hs' => ?_⟩
    by_cases e : s' < m
    · exact h4 s' e
    · have : s' = m := by omega
      subst this
      simp only [bS] at hd
      omega
theorem Best.next1 {h : List Acc} {m : Nat} {t : Option (Nat × Nat)} (hb : Best h m t) (h0 : dist h m m ≠ 0) (hd : bS t = 0 ∨ dist h m m < bS t) : Best h (m + 1) (some (m, dist h m m)) := by
  refine ⟨by omega, rfl, h0, fun s' hs' => ?_⟩
  by_cases e : s' < m
  · rcases t with _ | ⟨s, n⟩
    · exact .inl (hb s' e)
    · obtain ⟨h1, h2, h3, h4⟩ := hb
      have := h4 s' e
      simp only [bS] at hd
      omega
  · have : s' = m := by omega
    subst this
    omega
theorem Best.two {h : List Acc} {m : Nat} {t : Option (Nat × Nat)} (hb : Best h m t) (hm : m < h.length) (h0 : dist h m m = 2) (hd : bS t = 0 ∨ dist h m m < bS t) : Best h h.length (some (m, 2)) := by
  obtain ⟨h1, h2, h3, h4⟩ := hb.next1 (by omega) hd
  refine ⟨hm, h0, by omega, fun s' hs' => ?_⟩
  by_cases e : s' < m + 1
  · have := h4 s' e; omega
  · by_cases e2 : dist h s' s' = 0
    · exact .inl e2
    · have := dist_two e2; omega
def bF : Option (Nat × Nat) → Nat | none => 0 | some (s, _) => s

theorem c31 (h : List Acc) : ACalls E.P 31 [.view 6 (h.map accA)] [] (fun r H => (∃ c, CycF h c ∧ r = intsA (natL c)) ∧ H = []) := by
  have hmax := maxLen_eq
  refine ok31.acalls hE hm (by simp) ?_
  unfold mc31
  repeat' (first
    | (with_reducible first | apply cond_d | apply cond_nd | apply cond_i | apply guard_d | apply guard_nd | apply guard_df | apply guard_ndf | apply guard_i | apply ag_d | apply ag_nd | apply ag_df | apply ag_ndf | apply ag_i) <;> intro _
    | with_reducible first | refine LenR_i fun _ => ?_ | refine And.intro (by omega) ?_ | refine and_assoc.2 ?_ | apply sp_cond | apply sp_guard | apply sp_ag | apply sp_call | apply sp_acall | apply sp_loop | apply sp_any | apply sp_frz | apply sp_len | apply sp_idx | apply sp_keep | apply sp_back
    | with_reducible refine frz0_i ?_
    | ((with_reducible first | refine callN_i [] true (by simp) (by simp) ?_ | refine acallN_i true ?_); simp only [lPA, lPD, novO, setAll, seval, implies_true]; (refine ⟨_, c19 _, ?_⟩; rintro _ _ ⟨rfl, rfl⟩); simp only [lAL, lDF, tupA, eqA, isNil, slcNil, ptrCells, ptrAdd, cellsO, intA, boolA, readsV, readsP, isCall, wrote, srcOf, isNilSlice, Value.oneCell', seval, implies_true, forall_eq, ne_eq, lPA, lPD, novO, setAll])
    | simp (maxSteps := 1000000) (disch := omega) only [lAL, lDF, tupA, eqA, isNil, slcNil, ptrCells, ptrAdd, cellsO, intA, boolA, readsV, readsP, isCall, wrote, srcOf, isNilSlice, Value.oneCell', seval, implies_true, forall_eq, ne_eq, wrap_i64, LenR_ok, List.length_map, IdxR_ints])
  · rename_i hck
    exact keepn_i 1 ⟨⟨[], by simp [CycF, hck], rfl⟩, rfl⟩
  rename_i hck
  have hck : checkS h = 0 := Classical.byContradiction fun hn => by simp_all
  have hn := checkS_len hck
  refine loop_i (X := Nat × Option (Nat × Nat)) (fun x => x.1 ≤ h.length ∧ Best h x.1 x.2)
    (fun x => ⟨[(0, .view 6 (h.map accA)), (3, .int .i64 (bS x.2 : Nat)), (4, .int .i64 (bF x.2 : Nat)), (5, .int .i64 x.1)], []⟩) (fun x => h.length - x.1) (0, none) ⟨by simp, fun s hs => by omega⟩ (Ent.to [] false (by simp) (by simp) rfl (by simp only [lPA, lPD, novO, setAll, seval, implies_true, bS, bF] <;> (try simp) <;> (try omega)) (by simp only [lPA, lPD, novO, setAll, seval, implies_true, bS, bF] <;> (try simp) <;> (try omega))) ?_
  rintro ⟨i, t⟩ ⟨hi, hb⟩
  simp only at hi hb
  by_cases hin : i < h.length
  · have k1 := c61 h i hin hn
    have e1 : ∀ {m N d c}, IdxR E.P m N ((natL (distL h i)).map (AV.int .i64)) (i : Int) d c = rK E.P m N c d (.vp [.int .i64 (dist h i i : Nat)]) := by
      intro m N d c
      rw [IdxR_nats (by rw [distL_length]; exact hin), distL_get hin]
    simp only [intsA] at k1
    repeat' (first
      | (with_reducible first | apply cond_d | apply cond_nd | apply cond_i | apply guard_d | apply guard_nd | apply guard_df | apply guard_ndf | apply guard_i | apply ag_d | apply ag_nd | apply ag_df | apply ag_ndf | apply ag_i) <;> intro _
      | with_reducible first | refine LenR_i fun _ => ?_ | refine And.intro (by omega) ?_ | refine and_assoc.2 ?_ | apply sp_cond | apply sp_guard | apply sp_ag | apply sp_call | apply sp_acall | apply sp_loop | apply sp_any | apply sp_frz | apply sp_len | apply sp_idx | apply sp_keep | apply sp_back
      | with_reducible refine frz0_i ?_
      | ((with_reducible first | refine callN_i [] false (by simp) (by simp) ?_ | refine acallN_i false ?_); simp only [lPA, lPD, novO, setAll, seval, implies_true, e1]; (refine ⟨_, k1, ?_⟩; rintro _ _ ⟨rfl, rfl⟩); simp only [lAL, lDF, tupA, eqA, isNil, slcNil, ptrCells, ptrAdd, cellsO, intA, boolA, readsV, readsP, isCall, wrote, srcOf, isNilSlice, Value.oneCell', seval, implies_true, forall_eq, ne_eq, lPA, lPD, novO, setAll, e1])
      | simp (maxSteps := 1000000) (disch := omega) only [lAL, lDF, tupA, eqA, isNil, slcNil, ptrCells, ptrAdd, cellsO, intA, boolA, readsV, readsP, isCall, wrote, srcOf, isNilSlice, Value.oneCell', seval, implies_true, forall_eq, ne_eq, wrap_i64, LenR_ok, List.length_map, IdxR_ints, e1])
    all_goals try (exfalso; omega)
    all_goals first
      | exact back_i (i + 1, t) ⟨by simp only; omega, hb.next0 (by omega)⟩ (by simp only; omega) (Ent.to [] false (by simp) (by simp) rfl (by simp only [lPA, lPD, novO, setAll, seval, implies_true] <;> (try simp) <;> (try omega)) (by simp only [lPA, lPD, novO, setAll, seval, implies_true] <;> (try simp) <;> (try omega)))
      | exact back_i (i + 1, some (i, dist h i i)) ⟨by simp only; omega, hb.next1 (by omega) (by omega)⟩ (by simp only; omega) (Ent.to [] false (by simp) (by simp) rfl (by simp only [lPA, lPD, novO, setAll, seval, implies_true, bS, bF] <;> (try simp) <;> (try omega)) (by simp only [lPA, lPD, novO, setAll, seval, implies_true, bS, bF] <;> (try simp) <;> (try omega)))
  · have : i = h.length := by omega
    subst this
    rcases t with _ | ⟨s, n⟩
    · simp only [bS, bF]
      repeat' (first
        | (with_reducible first | apply cond_d | apply cond_nd | apply cond_i | apply guard_d | apply guard_nd | apply guard_df | apply guard_ndf | apply guard_i | apply ag_d | apply ag_nd | apply ag_df | apply ag_ndf | apply ag_i) <;> intro _
        | with_reducible first | refine LenR_i fun _ => ?_ | refine And.intro (by omega) ?_ | refine and_assoc.2 ?_ | apply sp_cond | apply sp_guard | apply sp_ag | apply sp_call | apply sp_acall | apply sp_loop | apply sp_any | apply sp_frz | apply sp_len | apply sp_idx | apply sp_keep | apply sp_back
        | with_reducible refine frz0_i ?_
        | simp (maxSteps := 1000000) (disch := omega) only [lAL, lDF, tupA, eqA, isNil, slcNil, ptrCells, ptrAdd, cellsO, intA, boolA, readsV, readsP, isCall, wrote, srcOf, isNilSlice, Value.oneCell', seval, implies_true, forall_eq, ne_eq, wrap_i64, LenR_ok, List.length_map, IdxR_ints])
      all_goals try (exfalso; omega)
      refine keepn_i 1 ⟨⟨[], ?_, rfl⟩, rfl⟩
      simp only [CycF, hck, if_true]
      exact .inl ⟨rfl, hb⟩
    · simp only [bS, bF]
      have hs : s < h.length := hb.1
      have hnb := dist_bound (h := h) (s := s) (i := s)
      rw [hb.2.1] at hnb
      have hn0 := hb.2.2.1
      have k1 := c61 h s hs hn
      simp only [intsA] at k1
      repeat' (first
        | (with_reducible first | apply cond_d | apply cond_nd | apply cond_i | apply guard_d | apply guard_nd | apply guard_df | apply guard_ndf | apply guard_i | apply ag_d | apply ag_nd | apply ag_df | apply ag_ndf | apply ag_i) <;> intro _
        | with_reducible first | refine LenR_i fun _ => ?_ | refine And.intro (by omega) ?_ | refine and_assoc.2 ?_ | apply sp_cond | apply sp_guard | apply sp_ag | apply sp_call | apply sp_acall | apply sp_loop | apply sp_any | apply sp_frz | apply sp_len | apply sp_idx | apply sp_keep | apply sp_back
        | with_reducible refine frz0_i ?_
        | ((with_reducible first | refine callN_i [] false (by simp) (by simp) ?_ | refine acallN_i false ?_); simp only [lPA, lPD, novO, setAll, seval, implies_true]; (refine ⟨_, k1, ?_⟩; rintro _ _ ⟨rfl, rfl⟩); simp only [lAL, lDF, tupA, eqA, isNil, slcNil, ptrCells, ptrAdd, cellsO, intA, boolA, readsV, readsP, isCall, wrote, srcOf, isNilSlice, Value.oneCell', seval, implies_true, forall_eq, ne_eq, lPA, lPD, novO, setAll])
        | simp (maxSteps := 1000000) (disch := omega) only [lAL, lDF, tupA, eqA, isNil, slcNil, ptrCells, ptrAdd, cellsO, intA, boolA, readsV, readsP, isCall, wrote, srcOf, isNilSlice, Value.oneCell', seval, implies_true, forall_eq, ne_eq, wrap_i64, LenR_ok, List.length_map, IdxR_ints])
      all_goals try (exfalso; omega)
      refine loop_i (X := List Nat) (fun c => CycL h s n c) (fun c => ⟨[(0, .view 6 (h.map accA)), (3, .int .i64 n), (4, .int .i64 s), (7, .slc 0 1 c.length), (8, .view 1 ((natL (distL h s)).map (AV.int .i64)))], [.arr 3 1 ((natL c).map (AV.int .i64))]⟩) (fun c => n - c.length) [s] (CycL.one (by omega)) (Ent.to [0] false (by simp) (by simp) rfl (by simp only [lPA, lPD, novO, setAll, seval, implies_true, natL] <;> (try simp) <;> (try omega)) (by simp only [lPA, lPD, novO, setAll, seval, implies_true, natL] <;> (try simp) <;> (try omega))) ?_
      intro c hc
      have hc1 := hc.1
      have hc2 := hc.2.1
      by_cases hlt : c.length < n
      · have ep : ∀ {m N d k}, epR E.P m N (some (.arr 3 1 ((natL c).map (AV.int .i64)))) ((c.length : Int) - 1) c.length 0 1 d k = rK E.P m N k d (.ep 0 1 (c.length - 1) 0) := by
          intro m N d k
          rw [epR_ne (by simp [natL]) (by omega) (by omega)]
          rw [show ((c.length : Int) - 1).toNat = c.length - 1 by omega]
        have gl := nats_get (es := c) (j := c.length - 1) (by omega)
        have en : (n : Int) - (c.length : Int) = ((n - c.length : Nat) : Int) := by omega
        have hr := hc.range hs (c.length - 1) (by omega)
        have k2 := c62 h s (c.getD (c.length - 1) 0) (n - c.length) hn hs hr.2
        simp only [intsA] at k2
        repeat' (first
          | (with_reducible first | apply cond_d | apply cond_nd | apply cond_i | apply guard_d | apply guard_nd | apply guard_df | apply guard_ndf | apply guard_i | apply ag_d | apply ag_nd | apply ag_df | apply ag_ndf | apply ag_i) <;> intro _
          | with_reducible first | refine LenR_i fun _ => ?_ | refine And.intro (by omega) ?_ | refine and_assoc.2 ?_ | apply sp_cond | apply sp_guard | apply sp_ag | apply sp_call | apply sp_acall | apply sp_loop | apply sp_any | apply sp_frz | apply sp_len | apply sp_idx | apply sp_keep | apply sp_back
          | with_reducible refine frz0_i ?_
          | ((with_reducible first | refine callN_i [] true (by simp) (by simp) ?_ | refine acallN_i true ?_); simp only [lPA, lPD, novO, setAll, seval, implies_true, ep, gl, en, natL_length]; (refine ⟨_, k2, ?_⟩; rintro _ _ ⟨⟨j, rfl, hj⟩, rfl⟩); simp only [lAL, lDF, tupA, eqA, isNil, slcNil, ptrCells, ptrAdd, cellsO, intA, boolA, readsV, readsP, isCall, wrote, srcOf, isNilSlice, Value.oneCell', seval, implies_true, forall_eq, ne_eq, lPA, lPD, novO, setAll, ep, gl, en, natL_length])
          | simp (maxSteps := 1000000) (disch := omega) only [lAL, lDF, tupA, eqA, isNil, slcNil, ptrCells, ptrAdd, cellsO, intA, boolA, readsV, readsP, isCall, wrote, srcOf, isNilSlice, Value.oneCell', seval, implies_true, forall_eq, ne_eq, wrap_i64, LenR_ok, List.length_map, IdxR_ints, ep, gl, en, natL_length])
        all_goals try (exfalso; omega)
        have hnx : NextC h s (c.getD (c.length - 1) 0) (n - c.length) j := by
          rcases hj with hj | ⟨_, hj⟩
          · exact hj
          · obtain ⟨j', j1, j2, j3, j4⟩ := hc.more hb.2.1 hlt
            exact absurd ⟨j3, j4⟩ (hj j' j1 j2)
        refine back_i (c ++ [j]) (hc.snoc hlt hnx) (by simp; omega) (Ent.to [2] false (by simp) (by simp) rfl (by simp only [lPA, lPD, novO, setAll, seval, implies_true] <;> simp) ?_)
        simp only [lPA, lPD, novO, setAll, seval, implies_true, List.map_append, pa_natL, natL]
      · repeat' (first
          | (with_reducible first | apply cond_d | apply cond_nd | apply cond_i | apply guard_d | apply guard_nd | apply guard_df | apply guard_ndf | apply guard_i | apply ag_d | apply ag_nd | apply ag_df | apply ag_ndf | apply ag_i) <;> intro _
          | with_reducible first | refine LenR_i fun _ => ?_ | refine And.intro (by omega) ?_ | refine and_assoc.2 ?_ | apply sp_cond | apply sp_guard | apply sp_ag | apply sp_call | apply sp_acall | apply sp_loop | apply sp_any | apply sp_frz | apply sp_len | apply sp_idx | apply sp_keep | apply sp_back
          | with_reducible refine frz0_i ?_
          | simp (maxSteps := 1000000) (disch := omega) only [lAL, lDF, tupA, eqA, isNil, slcNil, ptrCells, ptrAdd, cellsO, intA, boolA, readsV, readsP, isCall, wrote, srcOf, isNilSlice, Value.oneCell', seval, implies_true, forall_eq, ne_eq, wrap_i64, LenR_ok, List.length_map, IdxR_ints])
        all_goals try (exfalso; omega)
        have hv2 : ∀ {H l n}, vwS none (some (.arr 3 1 ((natL c).map (AV.int .i64)))) H l n 1 c.length = .view 1 ((natL c).map (AV.int .i64)) := by
          intro H l n
          rw [vwS_arr (by simp [natL]), vw_ints]
        refine keep_i [] true (by simp) (by simp) rfl ?_
        simp only [lPA, lPD, novO, setAll, seval, implies_true, paR_lent, hv2]
        refine ⟨c, ?_, rfl⟩
        simp only [CycF, hck, if_true]
        exact .inr ⟨s, n, hb, hc, by omega⟩
end Go.Proofs.Try
