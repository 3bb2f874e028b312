/-
  A part of the proof: see the text of the law.
-/
import Derived.Test.YthbajphbhoiceaaCaq
set_option linter.unusedSimpArgs false
set_option linter.unusedVariables false
namespace Go.Proofs.Try
open Go.Al
set_option linter.unusedVariables false
set_option linter.unusedSimpArgs false
open Classical

set_option maxHeartbeats 8000000
theorem c27 (h : List Acc) : ACalls E.P 27 [.view 6 (h.map accA)] [] (fun r H => (∃ t, SerialF h t ∧ r = serA t) ∧ H = []) := by
  refine ok27.acalls hE hm (by simp) ?_
  unfold mc27
  have h50 := c50 h
  by_cases hck : checkS h = 0
  · have h57 := c57 h hck
    simp only [graphA, hck, if_true] at h50 h57
    repeat' (first
      | (with_reducible first | apply cond_d | apply cond_nd | apply cond_i | apply guard_d | apply guard_nd | apply guard_df | apply guard_ndf | apply guard_i | apply ag_d | apply ag_nd | apply ag_df | apply ag_ndf | apply ag_i) <;> intro _
      | with_reducible first | refine LenR_i fun _ => ?_ | refine And.intro (by omega) ?_ | refine and_assoc.2 ?_ | apply sp_cond | apply sp_guard | apply sp_ag | apply sp_call | apply sp_acall | apply sp_loop | apply sp_any | apply sp_frz | apply sp_len | apply sp_idx | apply sp_keep | apply sp_back
      | with_reducible refine frz0_i ?_
      | ((with_reducible first | refine callN_i [] false (by simp) (by simp) ?_ | refine acallN_i false ?_); simp only [lPA, lPD, novO, setAll, seval, implies_true]; (refine ⟨_, h50, ?_⟩; rintro _ _ ⟨rfl, rfl⟩); simp only [lAL, lDF, tupA, eqA, isNil, slcNil, ptrCells, ptrAdd, cellsO, intA, boolA, readsV, readsP, isCall, wrote, srcOf, isNilSlice, Value.oneCell', seval, implies_true, forall_eq, ne_eq, lPA, lPD, novO, setAll])
      | simp (maxSteps := 1000000) (disch := omega) only [lAL, lDF, tupA, eqA, isNil, slcNil, ptrCells, ptrAdd, cellsO, intA, boolA, readsV, readsP, isCall, wrote, srcOf, isNilSlice, Value.oneCell', seval, implies_true, forall_eq, ne_eq, wrap_i64, LenR_ok, List.length_map, IdxR_ints])
    refine callN_i [] false (by simp) (by simp) ?_
    simp only [lPA, lPD, novO, setAll, seval, implies_true]
    refine ⟨_, h57, ?_⟩
    rintro _ _ ⟨⟨t, ht, rfl⟩, rfl⟩
    rcases t with _ | out
    · simp only [lPA, lPD, novO, setAll, seval, implies_true, lAL, lDF, tupA, eqA, isNil, slcNil, ptrCells, ptrAdd, cellsO, intA, boolA, readsV, readsP, isCall, wrote, srcOf, isNilSlice, Value.oneCell', seval, implies_true, forall_eq, ne_eq, serA]
      repeat' (first
        | (with_reducible first | apply cond_d | apply cond_nd | apply cond_i | apply guard_d | apply guard_nd | apply guard_df | apply guard_ndf | apply guard_i | apply ag_d | apply ag_nd | apply ag_df | apply ag_ndf | apply ag_i) <;> intro _
        | with_reducible first | refine LenR_i fun _ => ?_ | refine And.intro (by omega) ?_ | refine and_assoc.2 ?_ | apply sp_cond | apply sp_guard | apply sp_ag | apply sp_call | apply sp_acall | apply sp_loop | apply sp_any | apply sp_frz | apply sp_len | apply sp_idx | apply sp_keep | apply sp_back
        | with_reducible refine frz0_i ?_
        | ((with_reducible refine keep0_i ?_); simp only [lPA, lPD, novO, setAll, seval, implies_true])
        | simp (maxSteps := 1000000) (disch := omega) only [lAL, lDF, tupA, eqA, isNil, slcNil, ptrCells, ptrAdd, cellsO, intA, boolA, readsV, readsP, isCall, wrote, srcOf, isNilSlice, Value.oneCell', seval, implies_true, forall_eq, ne_eq, wrap_i64, LenR_ok, List.length_map, IdxR_ints])
      exact ⟨none, by simp only [SerialF, hck, if_true]; exact ht, rfl⟩
    · simp only [lPA, lPD, novO, setAll, seval, implies_true, lAL, lDF, tupA, eqA, isNil, slcNil, ptrCells, ptrAdd, cellsO, intA, boolA, readsV, readsP, isCall, wrote, srcOf, isNilSlice, Value.oneCell', seval, implies_true, forall_eq, ne_eq, serA]
      repeat' (first
        | (with_reducible first | apply cond_d | apply cond_nd | apply cond_i | apply guard_d | apply guard_nd | apply guard_df | apply guard_ndf | apply guard_i | apply ag_d | apply ag_nd | apply ag_df | apply ag_ndf | apply ag_i) <;> intro _
        | with_reducible first | refine LenR_i fun _ => ?_ | refine And.intro (by omega) ?_ | refine and_assoc.2 ?_ | apply sp_cond | apply sp_guard | apply sp_ag | apply sp_call | apply sp_acall | apply sp_loop | apply sp_any | apply sp_frz | apply sp_len | apply sp_idx | apply sp_keep | apply sp_back
        | with_reducible refine frz0_i ?_
        | ((with_reducible refine keep0_i ?_); simp only [lPA, lPD, novO, setAll, seval, implies_true])
        | simp (maxSteps := 1000000) (disch := omega) only [lAL, lDF, tupA, eqA, isNil, slcNil, ptrCells, ptrAdd, cellsO, intA, boolA, readsV, readsP, isCall, wrote, srcOf, isNilSlice, Value.oneCell', seval, implies_true, forall_eq, ne_eq, wrap_i64, LenR_ok, List.length_map, IdxR_ints])
      exact ⟨some out, by simp only [SerialF, hck, if_true]; exact ht, rfl⟩
  · simp only [hck, if_false] at h50
    repeat' (first
      | (with_reducible first | apply cond_d | apply cond_nd | apply cond_i | apply guard_d | apply guard_nd | apply guard_df | apply guard_ndf | apply guard_i | apply ag_d | apply ag_nd | apply ag_df | apply ag_ndf | apply ag_i) <;> intro _
      | with_reducible first | refine LenR_i fun _ => ?_ | refine And.intro (by omega) ?_ | refine and_assoc.2 ?_ | apply sp_cond | apply sp_guard | apply sp_ag | apply sp_call | apply sp_acall | apply sp_loop | apply sp_any | apply sp_frz | apply sp_len | apply sp_idx | apply sp_keep | apply sp_back
      | with_reducible refine frz0_i ?_
      | ((with_reducible first | refine callN_i [] false (by simp) (by simp) ?_ | refine acallN_i false ?_); simp only [lPA, lPD, novO, setAll, seval, implies_true]; (refine ⟨_, h50, ?_⟩; rintro _ _ ⟨rfl, rfl⟩); simp only [lAL, lDF, tupA, eqA, isNil, slcNil, ptrCells, ptrAdd, cellsO, intA, boolA, readsV, readsP, isCall, wrote, srcOf, isNilSlice, Value.oneCell', seval, implies_true, forall_eq, ne_eq, lPA, lPD, novO, setAll])
      | simp (maxSteps := 1000000) (disch := omega) only [lAL, lDF, tupA, eqA, isNil, slcNil, ptrCells, ptrAdd, cellsO, intA, boolA, readsV, readsP, isCall, wrote, srcOf, isNilSlice, Value.oneCell', seval, implies_true, forall_eq, ne_eq, wrap_i64, LenR_ok, List.length_map, IdxR_ints])
    refine keepnt_i 1 ⟨⟨none, by simp [SerialF, hck], rfl⟩, rfl⟩

/-! ### ways to a place -/
/-- A way of a length from i to s, over places behind s. -/
def Walk (h : List Acc) (s : Nat) : Nat → Nat → Prop
  | 0, _ => False
  | 1, i => s ≤ i ∧ i < h.length ∧ Edge h i s
  | n + 2, i => s ≤ i ∧ i < h.length ∧ ∃ j, s < j ∧ j < h.length ∧ Edge h i j ∧ Walk h s (n + 1) j
def IsDist (h : List Acc) (s i n : Nat) : Prop := Walk h s n i ∧ ∀ m, m < n → ¬ Walk h s m i
noncomputable def dist (h : List Acc) (s i : Nat) : Nat := if hn : ∃ n, IsDist h s i n then hn.choose else 0
theorem Walk.range {h : List Acc} {s n i : Nat} (hw : Walk h s n i) : s ≤ i ∧ i < h.length := by
  match n, hw with
  | 1, hw => exact ⟨hw.1, hw.2.1⟩
  | n + 2, hw => exact ⟨hw.1, hw.2.1⟩
theorem Walk.pos {h : List Acc} {s n i : Nat} (hw : Walk h s n i) : 0 < n := by
  match n, hw with
  | n + 1, _ => omega
theorem Walk.one {h : List Acc} {s i : Nat} : Walk h s 1 i ↔ s ≤ i ∧ i < h.length ∧ Edge h i s := Iff.rfl
theorem Walk.succ {h : List Acc} {s n i : Nat} (hn : 1 ≤ n) : Walk h s (n + 1) i ↔ s ≤ i ∧ i < h.length ∧ ∃ j, s < j ∧ j < h.length ∧ Edge h i j ∧ Walk h s n j := by
  obtain ⟨m, rfl⟩ : ∃ m, n = m + 1 := ⟨n - 1, by omega⟩
  exact Iff.rfl
theorem exists_least {p : Nat → Prop} : (∃ n, p n) → ∃ n, p n ∧ ∀ m, m < n → ¬ p m := by
  rintro ⟨n, hn⟩
  induction n using Nat.strongRecOn with
  | _ n ih =>
    by_cases h : ∃ m, m < n ∧ p m
    · obtain ⟨m, h1, h2⟩ := h
      exact ih m h1 h2
    · exact ⟨n, hn, fun m h1 h2 => h ⟨m, h1, h2⟩⟩
theorem IsDist.of {h : List Acc} {s n i : Nat} (hw : Walk h s n i) : ∃ m, m ≤ n ∧ IsDist h s i m := by
  obtain ⟨m, h1, h2⟩ := exists_least (p := fun n => Walk h s n i) ⟨n, hw⟩
  exact ⟨m, Nat.le_of_not_lt fun hlt => h2 n hlt hw, h1, h2⟩
theorem IsDist.uniq {h : List Acc} {s i n m : Nat} (h1 : IsDist h s i n) (h2 : IsDist h s i m) : n = m := by
  by_cases e : n < m
  · exact absurd h1.1 (h2.2 n e)
  · by_cases e' : m < n
    · exact absurd h2.1 (h1.2 m e')
    · omega
theorem dist_of {h : List Acc} {s i n : Nat} (hd : IsDist h s i n) : dist h s i = n := by
  have hn : ∃ n, IsDist h s i n := ⟨n, hd⟩
  rw [dist, dif_pos hn]
  exact hn.choose_spec.uniq hd
theorem dist_pos {h : List Acc} {s i : Nat} (hd : dist h s i ≠ 0) : IsDist h s i (dist h s i) := by
  unfold dist at hd ⊢
  split
  · rename_i hn; exact hn.choose_spec
  · rename_i hn; rw [dif_neg hn] at hd; exact absurd rfl hd
theorem dist_zero {h : List Acc} {s i : Nat} (hd : dist h s i = 0) (n : Nat) : ¬ Walk h s n i := by
  intro hw
  obtain ⟨m, _, h2⟩ := IsDist.of hw
  have := dist_of h2
  have := h2.1.pos
  omega
theorem dist_le {h : List Acc} {s i n : Nat} (hw : Walk h s n i) : 0 < dist h s i ∧ dist h s i ≤ n := by
  obtain ⟨m, h1, h2⟩ := IsDist.of hw
  have := dist_of h2
  have := h2.1.pos
  omega
theorem dist_range {h : List Acc} {s i : Nat} (hd : dist h s i ≠ 0) : s ≤ i ∧ i < h.length := (dist_pos hd).1.range
/-- The first step of a shortest way. -/
theorem dist_step {h : List Acc} {s i n : Nat} (hn : 1 ≤ n) : dist h s i = n + 1 → ∃ j, s < j ∧ j < h.length ∧ Edge h i j ∧ dist h s j = n := by
  intro hd
  have h1 := dist_pos (h := h) (s := s) (i := i) (by omega)
  rw [hd] at h1
  obtain ⟨h2, h3, j, h4, h5, h6, h7⟩ := (Walk.succ hn).1 h1.1
  refine ⟨j, h4, h5, h6, ?_⟩
  obtain ⟨h8, h9⟩ := dist_le h7
  refine Nat.le_antisymm h9 (Nat.le_of_not_lt fun hlt => ?_)
  have h10 := (dist_pos (h := h) (s := s) (i := j) (by omega)).1
  exact h1.2 (dist h s j + 1) (by omega) ((Walk.succ (by omega)).2 ⟨h2, h3, j, h4, h5, h6, h10⟩)
theorem dist_one {h : List Acc} {s i : Nat} : dist h s i = 1 ↔ s ≤ i ∧ i < h.length ∧ Edge h i s := by
  constructor
  · intro hd
    have := (dist_pos (h := h) (s := s) (i := i) (by omega)).1
    rw [hd] at this
    exact this
  · intro hw
    have := dist_le (Walk.one.2 hw)
    omega
/-- No shortest way is longer than there are places. -/
theorem dist_chain {h : List Acc} {s : Nat} : ∀ n i, dist h s i = n → 1 ≤ n → ∃ l : List Nat, l.length = n ∧ l.Nodup ∧ (∀ x ∈ l, x < h.length) ∧ ∀ x ∈ l, 1 ≤ dist h s x ∧ dist h s x ≤ n
  | 0, _, _, h1 => by omega
  | 1, i, hd, _ => ⟨[i], rfl, by simp, fun x hx => by simp at hx; subst hx; exact (dist_range (h := h) (s := s) (by omega)).2, fun x hx => by simp at hx; subst hx; omega⟩
  | n + 2, i, hd, _ => by
    obtain ⟨j, h1, h2, h3, h4⟩ := dist_step (by omega) hd
    obtain ⟨l, k1, k2, k3, k4⟩ := dist_chain (n + 1) j h4 (by omega)
    refine ⟨i :: l, by simp [k1], List.nodup_cons.2 ⟨fun hi => ?_, k2⟩, ?_, ?_⟩
    · have := k4 i hi; omega
    · intro x hx
      rcases List.mem_cons.1 hx with rfl | hx
      · exact (dist_range (h := h) (s := s) (by omega)).2
      · exact k3 x hx
    · intro x hx
      rcases List.mem_cons.1 hx with rfl | hx
      · omega
      · have := k4 x hx; omega
theorem dist_bound {h : List Acc} {s i : Nat} : dist h s i ≤ h.length := by
  by_cases h0 : dist h s i = 0
  · omega
  · obtain ⟨l, k1, k2, k3, _⟩ := dist_chain (h := h) (s := s) _ i rfl (by omega)
    have := nodup_length_le k2 (m := List.range h.length) fun x hx => by simpa using k3 x hx
    simpa [k1] using this
noncomputable def distL (h : List Acc) (s : Nat) : List Nat := (List.range h.length).map (dist h s)
theorem distL_length {h : List Acc} {s : Nat} : (distL h s).length = h.length := by simp [distL]
theorem distL_get {h : List Acc} {s i : Nat} (hi : i < h.length) : (distL h s).getD i 0 = dist h s i := by simp [distL, hi]
theorem nodup_get_ext {a b : List Nat} (hl : a.length = b.length) (h : ∀ i, i < a.length → a.getD i 0 = b.getD i 0) : a = b := list_ext hl h

set_option maxHeartbeats 8000000
theorem stE_nat {P : Program} {m N : Nat} {es : List Nat} {id n : Nat} {E' : TypeId} {v : Nat} {cs : List AV} {fr : List (Nat × AV)} {H : List AObj} {q : Ke} (hn : n < es.length) (hc : cs.length = 1) :
    stE P m N (some (.arr E' 1 ((natL es).map (AV.int .i64)))) 1 cs (.int .i64 (v : Int)) id 1 n 0 fr H q = rE P m N q fr (H.set id (.arr E' 1 ((natL (es.set n v)).map (AV.int .i64)))) := by
  rw [stE_int (by simp [natL]; exact hn) hc]
  simp [natL, List.map_set]
theorem nats_get {es : List Nat} {j : Nat} (h : j < es.length) : ((natL es).map (AV.int .i64))[j]? = some (.int .i64 (es.getD j 0 : Nat)) := by
  rw [ints_get (by simp [natL]; exact h), natL_getD h]
theorem nset_self {es : List Nat} {j v : Nat} (h : j < es.length) : (es.set j v).getD j 0 = v := by simp [h]
theorem nset_ne {es : List Nat} {j k v : Nat} (h : k ≠ j) : (es.set j v).getD k 0 = es.getD k 0 := by
  simp [List.getElem?_set_ne (Ne.symm h)]

/-- The distances up to a number, those of places before i up to the next one. -/
noncomputable def layer (h : List Acc) (s n i k : Nat) : Nat := if dist h s k < n ∨ (dist h s k = n ∧ k < i) then dist h s k else 0
theorem layer_zero {h : List Acc} {s k : Nat} : layer h s 1 s k = 0 := by
  unfold layer
  split
  · rename_i hh
    rcases hh with hh | ⟨h1, h2⟩
    · omega
    · have := (dist_range (h := h) (s := s) (i := k) (by omega)).1; omega
  · rfl
theorem layer_next {h : List Acc} {s n k : Nat} : layer h s n h.length k = layer h s (n + 1) s k := by
  unfold layer
  by_cases hk : dist h s k = 0
  · simp [hk]
  · have := dist_range hk
    by_cases e1 : dist h s k < n
    · rw [if_pos (.inl e1), if_pos (.inl (by omega))]
    · by_cases e2 : dist h s k = n
      · rw [if_pos (.inr ⟨e2, this.2⟩), if_pos (.inl (by omega))]
      · rw [if_neg (by omega), if_neg (by omega)]
theorem layer_all {h : List Acc} {s k : Nat} : layer h s (h.length + 1) s k = dist h s k := by
  unfold layer
  rw [if_pos (.inl (by have := dist_bound (h := h) (s := s) (i := k); omega))]

/-- A place from which the way goes on. -/
def Nr (h : List Acc) (s n i j : Nat) : Prop := Edge h i j ∧ ((n = 1 ∧ j = s) ∨ (1 < n ∧ j ≠ s ∧ dist h s j = n - 1))
theorem nr_walk {h : List Acc} {s n i j : Nat} (hs : s ≤ i) (hi : i < h.length) (hj : s ≤ j) (hn : Nr h s n i j) : Walk h s n i := by
  obtain ⟨h1, h2 | h2⟩ := hn
  · obtain ⟨rfl, rfl⟩ := h2
    exact Walk.one.2 ⟨hs, hi, h1⟩
  · obtain ⟨h2, h3, h4⟩ := h2
    have h5 := (dist_pos (h := h) (s := s) (i := j) (by omega)).1
    rw [h4] at h5
    have := (Walk.succ (n := n - 1) (by omega)).2 ⟨hs, hi, j, by omega, (dist_range (h := h) (s := s) (i := j) (by omega)).2, h1, h5⟩
    rwa [show n - 1 + 1 = n by omega] at this
theorem dist_nr {h : List Acc} {s n i : Nat} (hs : s < h.length) (hn : 1 ≤ n) (hd : dist h s i = n) : ∃ j, s ≤ j ∧ j < h.length ∧ Nr h s n i j := by
  by_cases h1 : n = 1
  · subst h1
    have := dist_one.1 hd
    exact ⟨s, Nat.le_refl _, hs, this.2.2, .inl ⟨rfl, rfl⟩⟩
  · obtain ⟨j, h2, h3, h4, h5⟩ := dist_step (h := h) (s := s) (i := i) (n := n - 1) (by omega) (by omega)
    exact ⟨j, by omega, h3, h4, .inr ⟨by omega, by omega, h5⟩⟩
/-- The row of a place within a layer, as far as the places before j tell. -/
def RowI (h : List Acc) (s n i j : Nat) (es : List Nat) : Prop := ∀ k, k < h.length → es.getD k 0 = if k = i ∧ layer h s n i i = 0 ∧ ∃ j', s ≤ j' ∧ j' < j ∧ Nr h s n i j' then n else layer h s n i k
theorem rowI_near {h : List Acc} {s n i j : Nat} {es : List Nat} (hr : RowI h s n i j es) (hn : 1 < n) (hj : j < h.length) : es.getD j 0 = n - 1 ↔ dist h s j = n - 1 := by
  rw [hr j hj]
  split
  · rename_i hh
    obtain ⟨rfl, h2, _⟩ := hh
    unfold layer at h2
    constructor
    · omega
    · intro h3
      rw [if_pos (.inl (by omega))] at h2
      omega
  · unfold layer
    split
    · exact Iff.rfl
    · rename_i h1
      constructor
      · omega
      · intro h2; exact absurd (.inl (by omega)) h1
theorem rowI_yes {h : List Acc} {s n i j : Nat} {es : List Nat} (hr : RowI h s n i j es) (hl : es.length = h.length) (hi : i < h.length) (hsj : s ≤ j) (hn : 1 ≤ n) (h1 : Nr h s n i j) (h0 : es.getD i 0 = 0) : RowI h s n i (j + 1) (es.set i n) := by
  intro k hk
  by_cases e : k = i
  · subst e
    rw [nset_self (by omega), if_pos]
    have := hr k hk
    rw [h0] at this
    split at this
    · omega
    · exact ⟨rfl, this.symm, j, hsj, by omega, h1⟩
  · rw [nset_ne e, hr k hk, if_neg (fun hh => e hh.1), if_neg (fun hh => e hh.1)]
theorem rowI_no {h : List Acc} {s n i j : Nat} {es : List Nat} (hr : RowI h s n i j es) (hi : i < h.length) (hn : ¬ (Nr h s n i j ∧ es.getD i 0 = 0)) : RowI h s n i (j + 1) es := by
  intro k hk
  rw [hr k hk]
  by_cases h1 : k = i ∧ layer h s n i i = 0 ∧ ∃ j', s ≤ j' ∧ j' < j ∧ Nr h s n i j'
  · rw [if_pos h1, if_pos]
    obtain ⟨e1, e2, j', e3, e4, e5⟩ := h1
    exact ⟨e1, e2, j', e3, by omega, e5⟩
  · rw [if_neg h1, if_neg]
    rintro ⟨e1, e2, j', e3, e4, e5⟩
    by_cases e : j' < j
    · exact h1 ⟨e1, e2, j', e3, e, e5⟩
    · have : j' = j := by omega
      subst this
      refine hn ⟨e5, ?_⟩
      rw [hr i hi, if_neg, e2]
      rintro ⟨_, hh⟩
      exact h1 ⟨e1, hh⟩
theorem rowI_end {h : List Acc} {s n i : Nat} {es : List Nat} (hs : s < h.length) (hsi : s ≤ i) (hi : i < h.length) (hn : 1 ≤ n) (hr : RowI h s n i h.length es) : ∀ k, k < h.length → es.getD k 0 = layer h s n (i + 1) k := by
  intro k hk
  rw [hr k hk]
  by_cases e : k = i
  · subst e
    have e1 : layer h s n k k = if dist h s k < n then dist h s k else 0 := by unfold layer; simp
    have e2 : layer h s n (k + 1) k = if dist h s k ≤ n then dist h s k else 0 := by
      unfold layer
      by_cases e3 : dist h s k ≤ n
      · rw [if_pos e3, if_pos]; omega
      · rw [if_neg e3, if_neg]; omega
    rw [e1, e2]
    by_cases hx : ∃ j', s ≤ j' ∧ j' < h.length ∧ Nr h s n k j'
    · obtain ⟨j', x1, x2, x3⟩ := hx
      have hw := dist_le (nr_walk hsi hi x1 x3)
      by_cases e3 : dist h s k < n
      · rw [if_pos e3, if_neg (by omega), if_pos (by omega)]
      · have : dist h s k = n := by omega
        rw [if_neg e3, if_pos ⟨rfl, rfl, j', x1, x2, x3⟩, if_pos (by omega), this]
    · have hne : dist h s k ≠ n := fun hd => hx (dist_nr hs hn hd)
      rw [if_neg (fun hh => hx hh.2.2)]
      by_cases e3 : dist h s k < n
      · rw [if_pos e3, if_pos (by omega)]
      · rw [if_neg e3, if_neg (by omega)]
  · rw [if_neg (fun hh => e hh.1)]
    unfold layer
    split <;> split <;> first | rfl | omega

theorem c61 (h : List Acc) (s : Nat) (hs : s < h.length) (hn : h.length ≤ 100) : ACalls E.P 61 [.view 6 (h.map accA), .int .i64 s] [] (fun r H => r = intsA (natL (distL h s)) ∧ H = []) := by
  have hmax := maxLen_eq
  refine ok61.acalls hE hm (by simp) ?_
  unfold mc61
  repeat' (first
    | (with_reducible first | apply cond_d | apply cond_nd | apply cond_i | apply guard_d | apply guard_nd | apply guard_df | apply guard_ndf | apply guard_i | apply ag_d | apply ag_nd | apply ag_df | apply ag_ndf | apply ag_i) <;> intro _
    | with_reducible first | refine LenR_i fun _ => ?_ | refine And.intro (by omega) ?_ | refine and_assoc.2 ?_ | apply sp_cond | apply sp_guard | apply sp_ag | apply sp_call | apply sp_acall | apply sp_loop | apply sp_any | apply sp_frz | apply sp_len | apply sp_idx | apply sp_keep | apply sp_back
    | with_reducible refine frz0_i ?_
    | simp (maxSteps := 1000000) (disch := omega) only [lAL, lDF, tupA, eqA, isNil, slcNil, ptrCells, ptrAdd, cellsO, intA, boolA, readsV, readsP, isCall, wrote, srcOf, isNilSlice, Value.oneCell', seval, implies_true, forall_eq, ne_eq, wrap_i64, LenR_ok, List.length_map, IdxR_ints])
  refine loop_i (X := Nat × List Nat) (fun x => 1 ≤ x.1 ∧ x.1 ≤ h.length + 1 ∧ x.2.length = h.length ∧ ∀ k, k < h.length → x.2.getD k 0 = layer h s x.1 s k)
    (fun x => ⟨[(0, .view 6 (h.map accA)), (1, .int .i64 s), (5, .slc 0 1 h.length), (6, .int .i64 x.1)], [.arr 3 1 ((natL x.2).map (AV.int .i64))]⟩) (fun x => h.length + 1 - x.1) (1, List.replicate h.length 0) ⟨by simp, by simp, by simp, fun k hk => by simp [hk, layer_zero]⟩ (Ent.to [0] false (by simp) (by simp) rfl (by simp only [lPA, lPD, novO, setAll, seval, implies_true, natL, List.map_replicate] <;> (try simp) <;> (try omega)) (by simp only [lPA, lPD, novO, setAll, seval, implies_true, natL, List.map_replicate] <;> (try simp) <;> (try omega))) ?_
  rintro ⟨n, es⟩ ⟨h1n, hn1, hes, hev⟩
  simp only at h1n hn1 hes hev
  by_cases hnn : n ≤ h.length
  · repeat' (first
      | (with_reducible first | apply cond_d | apply cond_nd | apply cond_i | apply guard_d | apply guard_nd | apply guard_df | apply guard_ndf | apply guard_i | apply ag_d | apply ag_nd | apply ag_df | apply ag_ndf | apply ag_i) <;> intro _
      | with_reducible first | refine LenR_i fun _ => ?_ | refine And.intro (by omega) ?_ | refine and_assoc.2 ?_ | apply sp_cond | apply sp_guard | apply sp_ag | apply sp_call | apply sp_acall | apply sp_loop | apply sp_any | apply sp_frz | apply sp_len | apply sp_idx | apply sp_keep | apply sp_back
      | with_reducible refine frz0_i ?_
      | simp (maxSteps := 1000000) (disch := omega) only [lAL, lDF, tupA, eqA, isNil, slcNil, ptrCells, ptrAdd, cellsO, intA, boolA, readsV, readsP, isCall, wrote, srcOf, isNilSlice, Value.oneCell', seval, implies_true, forall_eq, ne_eq, wrap_i64, LenR_ok, List.length_map, IdxR_ints])
    all_goals try (exfalso; omega)
    refine loop_i (X := Nat × List Nat) (fun x => s ≤ x.1 ∧ x.1 ≤ h.length ∧ x.2.length = h.length ∧ ∀ k, k < h.length → x.2.getD k 0 = layer h s n x.1 k)
      (fun x => ⟨[(0, .view 6 (h.map accA)), (1, .int .i64 s), (5, .slc 0 1 h.length), (6, .int .i64 n), (7, .int .i64 x.1)], [.arr 3 1 ((natL x.2).map (AV.int .i64))]⟩) (fun x => h.length - x.1) (s, es) ⟨by simp, by simp; omega, hes, hev⟩ (Ent.to [0] false (by simp) (by simp) rfl (by simp only [lPA, lPD, novO, setAll, seval, implies_true, pa_natL] <;> (try simp) <;> (try omega)) (by simp only [lPA, lPD, novO, setAll, seval, implies_true, pa_natL] <;> (try simp) <;> (try omega))) ?_
    rintro ⟨i, es⟩ ⟨hsi, hi, hes, hev⟩
    simp only at hsi hi hes hev
    by_cases hin : i < h.length
    · repeat' (first
        | (with_reducible first | apply cond_d | apply cond_nd | apply cond_i | apply guard_d | apply guard_nd | apply guard_df | apply guard_ndf | apply guard_i | apply ag_d | apply ag_nd | apply ag_df | apply ag_ndf | apply ag_i) <;> intro _
        | with_reducible first | refine LenR_i fun _ => ?_ | refine And.intro (by omega) ?_ | refine and_assoc.2 ?_ | apply sp_cond | apply sp_guard | apply sp_ag | apply sp_call | apply sp_acall | apply sp_loop | apply sp_any | apply sp_frz | apply sp_len | apply sp_idx | apply sp_keep | apply sp_back
        | with_reducible refine frz0_i ?_
        | simp (maxSteps := 1000000) (disch := omega) only [lAL, lDF, tupA, eqA, isNil, slcNil, ptrCells, ptrAdd, cellsO, intA, boolA, readsV, readsP, isCall, wrote, srcOf, isNilSlice, Value.oneCell', seval, implies_true, forall_eq, ne_eq, wrap_i64, LenR_ok, List.length_map, IdxR_ints])
      all_goals try (exfalso; omega)
      refine loop_i (X := Nat × List Nat) (fun x => s ≤ x.1 ∧ x.1 ≤ h.length ∧ x.2.length = h.length ∧ RowI h s n i x.1 x.2)
        (fun x => ⟨[(0, .view 6 (h.map accA)), (1, .int .i64 s), (5, .slc 0 1 h.length), (6, .int .i64 n), (7, .int .i64 i), (8, .int .i64 x.1)], [.arr 3 1 ((natL x.2).map (AV.int .i64))]⟩) (fun x => h.length - x.1) (s, es) ⟨by simp, by simp; omega, hes, fun k hk => ?_⟩ (Ent.to [0] false (by simp) (by simp) rfl (by simp only [lPA, lPD, novO, setAll, seval, implies_true, pa_natL] <;> (try simp) <;> (try omega)) (by simp only [lPA, lPD, novO, setAll, seval, implies_true, pa_natL] <;> (try simp) <;> (try omega))) ?_
      · rw [hev k hk, if_neg]
        rintro ⟨_, _, j, h1, h2, _⟩
        simp only at h2; omega
      rintro ⟨j, es⟩ ⟨hsj, hj, hes, hev⟩
      simp only at hsj hj hes hev
      by_cases hjn : j < h.length
      · have k1 := c53 h i j hin hjn
        have epj : ∀ {m N d c}, epR E.P m N (some (.arr 3 1 ((natL es).map (AV.int .i64)))) (j : Int) h.length 0 1 d c = rK E.P m N c d (.ep 0 1 j 0) := epR_ne (by simp [natL, hes]) (by omega) (by omega)
        have epi : ∀ {m N d c}, epR E.P m N (some (.arr 3 1 ((natL es).map (AV.int .i64)))) (i : Int) h.length 0 1 d c = rK E.P m N c d (.ep 0 1 i 0) := epR_ne (by simp [natL, hes]) (by omega) (by omega)
        have gj := nats_get (es := es) (j := j) (by omega)
        have gi := nats_get (es := es) (j := i) (by omega)
        have st : ∀ {m N y fr H q}, stE E.P m N (some (.arr 3 1 ((natL es).map (AV.int .i64)))) 1 [y] (.int .i64 (n : Int)) 0 1 i 0 fr H q = rE E.P m N q fr (H.set 0 (.arr 3 1 ((natL (es.set i n)).map (AV.int .i64)))) := stE_nat (by omega) rfl
        have hnear := fun hn1 => rowI_near hev hn1 hjn
        repeat' (first
          | (with_reducible first | apply cond_d | apply cond_nd | apply cond_i | apply guard_d | apply guard_nd | apply guard_df | apply guard_ndf | apply guard_i | apply ag_d | apply ag_nd | apply ag_df | apply ag_ndf | apply ag_i) <;> intro _
          | with_reducible first | refine LenR_i fun _ => ?_ | refine And.intro (by omega) ?_ | refine and_assoc.2 ?_ | apply sp_cond | apply sp_guard | apply sp_ag | apply sp_call | apply sp_acall | apply sp_loop | apply sp_any | apply sp_frz | apply sp_len | apply sp_idx | apply sp_keep | apply sp_back
          | with_reducible refine frz0_i ?_
          | ((with_reducible first | refine callN_i [] true (by simp) (by simp) ?_ | refine acallN_i true ?_); simp only [lPA, lPD, novO, setAll, seval, implies_true, epj, epi, gj, gi, st]; (refine ⟨_, k1, ?_⟩; rintro _ _ ⟨rfl, rfl⟩); simp only [lAL, lDF, tupA, eqA, isNil, slcNil, ptrCells, ptrAdd, cellsO, intA, boolA, readsV, readsP, isCall, wrote, srcOf, isNilSlice, Value.oneCell', seval, implies_true, forall_eq, ne_eq, lPA, lPD, novO, setAll, epj, epi, gj, gi, st])
          | simp (maxSteps := 1000000) (disch := omega) only [lAL, lDF, tupA, eqA, isNil, slcNil, ptrCells, ptrAdd, cellsO, intA, boolA, readsV, readsP, isCall, wrote, srcOf, isNilSlice, Value.oneCell', seval, implies_true, forall_eq, ne_eq, wrap_i64, LenR_ok, List.length_map, IdxR_ints, epj, epi, gj, gi, st])
        all_goals try (exfalso; omega)
        all_goals clear epj epi gj gi st k1
        all_goals first
          | (refine back_i (j + 1, es) ⟨by simp only; omega, by simp only; omega, hes, rowI_no (es := es) hev hin ?_⟩ (by simp only; omega) (Ent.to [0] false (by simp) (by simp) rfl (by simp only [lPA, lPD, novO, setAll, seval, implies_true, pa_natL] <;> (try simp) <;> (try omega)) (by simp only [lPA, lPD, novO, setAll, seval, implies_true, pa_natL] <;> (try simp) <;> (try omega)))
             unfold Nr
             rintro ⟨⟨n1, n2⟩, n3⟩
             first
               | contradiction
               | omega
               | (rcases n2 with n2 | ⟨n2, n4, n5⟩
                  · omega
                  · have := (hnear n2).2 n5
                    omega))
          | (refine back_i (j + 1, es.set i n) ⟨by simp only; omega, by simp only; omega, by simpa using hes, rowI_yes (es := es) hev hes hin hsj h1n ?_ (by omega)⟩ (by simp only; omega) (Ent.to [0] false (by simp) (by simp) rfl (by simp only [lPA, lPD, novO, setAll, seval, implies_true, pa_natL] <;> (try simp) <;> (try omega)) (by simp only [lPA, lPD, novO, setAll, seval, implies_true, pa_natL] <;> (try simp) <;> (try omega)))
             refine ⟨by assumption, ?_⟩
             first
               | (left; omega)
               | (right; exact ⟨by omega, by omega, (hnear (by omega)).1 (by omega)⟩))
      · have : j = h.length := by omega
        subst this
        repeat' (first
          | (with_reducible first | apply cond_d | apply cond_nd | apply cond_i | apply guard_d | apply guard_nd | apply guard_df | apply guard_ndf | apply guard_i | apply ag_d | apply ag_nd | apply ag_df | apply ag_ndf | apply ag_i) <;> intro _
          | with_reducible first | refine LenR_i fun _ => ?_ | refine And.intro (by omega) ?_ | refine and_assoc.2 ?_ | apply sp_cond | apply sp_guard | apply sp_ag | apply sp_call | apply sp_acall | apply sp_loop | apply sp_any | apply sp_frz | apply sp_len | apply sp_idx | apply sp_keep | apply sp_back
          | with_reducible refine frz0_i ?_
          | simp (maxSteps := 1000000) (disch := omega) only [lAL, lDF, tupA, eqA, isNil, slcNil, ptrCells, ptrAdd, cellsO, intA, boolA, readsV, readsP, isCall, wrote, srcOf, isNilSlice, Value.oneCell', seval, implies_true, forall_eq, ne_eq, wrap_i64, LenR_ok, List.length_map, IdxR_ints])
        all_goals try (exfalso; omega)
        exact back_i (i + 1, es) ⟨by simp only; omega, by simp only; omega, hes, rowI_end hs hsi hin h1n hev⟩ (by simp only; omega) (Ent.to [0] false (by simp) (by simp) rfl (by simp only [lPA, lPD, novO, setAll, seval, implies_true, pa_natL] <;> (try simp) <;> (try omega)) (by simp only [lPA, lPD, novO, setAll, seval, implies_true, pa_natL] <;> (try simp) <;> (try omega)))
    · have : i = h.length := by omega
      subst this
      repeat' (first
        | (with_reducible first | apply cond_d | apply cond_nd | apply cond_i | apply guard_d | apply guard_nd | apply guard_df | apply guard_ndf | apply guard_i | apply ag_d | apply ag_nd | apply ag_df | apply ag_ndf | apply ag_i) <;> intro _
        | with_reducible first | refine LenR_i fun _ => ?_ | refine And.intro (by omega) ?_ | refine and_assoc.2 ?_ | apply sp_cond | apply sp_guard | apply sp_ag | apply sp_call | apply sp_acall | apply sp_loop | apply sp_any | apply sp_frz | apply sp_len | apply sp_idx | apply sp_keep | apply sp_back
        | with_reducible refine frz0_i ?_
        | simp (maxSteps := 1000000) (disch := omega) only [lAL, lDF, tupA, eqA, isNil, slcNil, ptrCells, ptrAdd, cellsO, intA, boolA, readsV, readsP, isCall, wrote, srcOf, isNilSlice, Value.oneCell', seval, implies_true, forall_eq, ne_eq, wrap_i64, LenR_ok, List.length_map, IdxR_ints])
      all_goals try (exfalso; omega)
      exact back_i (n + 1, es) ⟨by simp only; omega, by simp only; omega, hes, fun k hk => by rw [hev k hk, layer_next]⟩ (by simp only; omega) (Ent.to [0] false (by simp) (by simp) rfl (by simp only [lPA, lPD, novO, setAll, seval, implies_true, pa_natL] <;> (try simp) <;> (try omega)) (by simp only [lPA, lPD, novO, setAll, seval, implies_true, pa_natL] <;> (try simp) <;> (try omega)))
  · have : n = h.length + 1 := by omega
    subst this
    repeat' (first
      | (with_reducible first | apply cond_d | apply cond_nd | apply cond_i | apply guard_d | apply guard_nd | apply guard_df | apply guard_ndf | apply guard_i | apply ag_d | apply ag_nd | apply ag_df | apply ag_ndf | apply ag_i) <;> intro _
      | with_reducible first | refine LenR_i fun _ => ?_ | refine And.intro (by omega) ?_ | refine and_assoc.2 ?_ | apply sp_cond | apply sp_guard | apply sp_ag | apply sp_call | apply sp_acall | apply sp_loop | apply sp_any | apply sp_frz | apply sp_len | apply sp_idx | apply sp_keep | apply sp_back
      | with_reducible refine frz0_i ?_
      | simp (maxSteps := 1000000) (disch := omega) only [lAL, lDF, tupA, eqA, isNil, slcNil, ptrCells, ptrAdd, cellsO, intA, boolA, readsV, readsP, isCall, wrote, srcOf, isNilSlice, Value.oneCell', seval, implies_true, forall_eq, ne_eq, wrap_i64, LenR_ok, List.length_map, IdxR_ints])
    all_goals try (exfalso; omega)
    have he : es = distL h s := nodup_get_ext (by rw [hes, distL_length]) fun k hk => by rw [hev k (by omega), distL_get (by omega), layer_all]
    subst he
    have hv2 : ∀ {H l n}, vwS none (some (.arr 3 1 ((natL (distL h s)).map (AV.int .i64)))) H l n 1 h.length = .view 1 ((natL (distL h s)).map (AV.int .i64)) := by
      intro H l n
      rw [vwS_arr (by simp [natL, hes]), vw_ints]
    refine keep_i [] true (by simp) (by simp) rfl ?_
    simp only [lPA, lPD, novO, setAll, seval, implies_true, paR_lent, hv2, intsA]
end Go.Proofs.Try
