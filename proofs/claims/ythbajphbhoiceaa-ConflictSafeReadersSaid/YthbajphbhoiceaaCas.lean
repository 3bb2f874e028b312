/-
  A part of the proof: see the text of the law.
-/
import Derived.Test.YthbajphbhoiceaaCar
set_option linter.unusedSimpArgs false
set_option linter.unusedVariables false
namespace Go.Proofs.Try
open Go.Al
set_option linter.unusedVariables false
set_option linter.unusedSimpArgs false
open Classical

/-! ### the search in width -/
def lv (q es : List Nat) (k : Nat) : Nat := if k = 0 then 0 else es.getD (q.getD k 0) 0
structure Bfs (h : List Acc) (s a : Nat) (q es : List Nat) : Prop where
  len : es.length = h.length
  q0 : q.getD 0 0 = s
  qpos : 0 < q.length
  nd : q.Nodup
  rg : ∀ x ∈ q, s ≤ x ∧ x < h.length
  ats : a ≤ q.length
  nz : ∀ k, 1 ≤ k → k < q.length → lv q es k ≠ 0
  lvk : ∀ k, k < q.length → lv q es k ≤ k
  mono : ∀ k k', k ≤ k' → k' < q.length → lv q es k ≤ lv q es k'
  top : ∀ i, i < h.length → a < q.length → es.getD i 0 ≤ lv q es a + 1
  walk : ∀ i, i < h.length → es.getD i 0 ≠ 0 → Walk h s (es.getD i 0) i ∧ (i ≠ s → i ∈ q)
  edge : ∀ k, k < a → ∀ i, s ≤ i → i < h.length → Edge h i (q.getD k 0) → es.getD i 0 ≠ 0 ∧ es.getD i 0 ≤ lv q es k + 1
structure BfsI (h : List Acc) (s a i : Nat) (q es : List Nat) : Prop extends Bfs h s a q es where
  lt : a < q.length
  row : ∀ i', i' < i → s ≤ i' → i' < h.length → Edge h i' (q.getD a 0) → es.getD i' 0 ≠ 0 ∧ es.getD i' 0 ≤ lv q es a + 1

section
variable {h : List Acc} {s a i : Nat} {q es : List Nat}
theorem Bfs.start (hs : s < h.length) : Bfs h s 0 [s] (List.replicate h.length 0) where
  len := by simp
  q0 := by simp
  qpos := by simp
  nd := by simp
  rg := fun x hx => by simp at hx; subst hx; omega
  ats := by simp
  nz := fun k h1 h2 => by simp at h2; omega
  lvk := fun k h2 => by simp at h2; subst h2; exact Nat.le_refl _
  mono := fun k k' h1 h2 => by simp at h2; subst h2; have : k = 0 := by omega
                               subst this; exact Nat.le_refl _
  top := fun i hi _ => by simp [hi]
  walk := fun i hi hne => by simp [hi] at hne
  edge := fun k hk => by omega
theorem Bfs.inner (hb : Bfs h s a q es) (hl : a < q.length) : BfsI h s a s q es := { hb with lt := hl, row := fun i' h1 h2 => by omega }
theorem Bfs.memx (hb : Bfs h s a q es) {k : Nat} (hk : k < q.length) : q.getD k 0 ∈ q := by
  rw [getD_get hk]; exact List.getElem_mem hk
theorem BfsI.skip (hb : BfsI h s a i q es) (hi : i < h.length) (hn : Edge h i (q.getD a 0) → es.getD i 0 ≠ 0) : BfsI h s a (i + 1) q es :=
  { hb.toBfs with
    lt := hb.lt
    row := fun i' h1 h2 h3 h4 => by
      by_cases e : i' < i
      · exact hb.row i' e h2 h3 h4
      · have : i' = i := by omega
        subst this
        exact ⟨hn h4, hb.top i' h3 hb.lt⟩ }
theorem BfsI.done (hb : BfsI h s a h.length q es) : Bfs h s (a + 1) q es :=
  { hb.toBfs with
    ats := hb.lt
    top := fun i hi hl => by
      have h1 := hb.top i hi hb.lt
      have h2 := hb.mono a (a + 1) (by omega) hl
      omega
    edge := fun k hk i h1 h2 h3 => by
      by_cases e : k < a
      · exact hb.edge k e i h1 h2 h3
      · have : k = a := by omega
        subst this
        exact hb.row i h2 h1 h2 h3 }
/-- The next level is a way. -/
theorem BfsI.way (hb : BfsI h s a i q es) (hsi : s ≤ i) (hi : i < h.length) (he : Edge h i (q.getD a 0)) : Walk h s (lv q es a + 1) i := by
  unfold lv
  by_cases ha : a = 0
  · subst ha
    rw [hb.q0] at he
    simp only [if_true]
    exact Walk.one.2 ⟨hsi, hi, he⟩
  · simp only [if_neg ha]
    have h1 := hb.nz a (by omega) hb.lt
    simp only [lv, if_neg ha] at h1
    have hm := hb.memx hb.lt
    obtain ⟨h2, h3⟩ := hb.rg _ hm
    have hne : q.getD a 0 ≠ s := by
      intro e
      rw [← hb.q0, getD_get hb.lt, getD_get hb.qpos] at e
      exact ha ((List.getElem_inj hb.nd).1 e)
    exact (Walk.succ (by omega)).2 ⟨hsi, hi, _, by omega, h3, he, (hb.walk _ h3 h1).1⟩
theorem lv_set {v k : Nat} (hne : 1 ≤ k → q.getD k 0 ≠ i) : lv q (es.set i v) k = lv q es k := by
  unfold lv
  split
  · rfl
  · rw [nset_ne (hne (by omega))]
theorem lv_snoc {x k : Nat} (hk : k < q.length) : lv (q ++ [x]) es k = lv q es k := by
  unfold lv
  rw [getD_append_lt hk]
theorem BfsI.ne (hb : BfsI h s a i q es) (h0 : es.getD i 0 = 0) {k : Nat} (hk : k < q.length) : 1 ≤ k → q.getD k 0 ≠ i := fun h1 e => by
  have := hb.nz k h1 hk
  simp only [lv, if_neg (show k ≠ 0 by omega), e] at this
  exact this h0
theorem BfsI.self (hb : BfsI h s a s q es) (hs : s < h.length) (he : Edge h s (q.getD a 0)) (h0 : es.getD s 0 = 0) : BfsI h s a (s + 1) q (es.set s (lv q es a + 1)) := by
  have hlv : ∀ k, k < q.length → lv q (es.set s (lv q es a + 1)) k = lv q es k := fun k hk => lv_set (hb.ne h0 hk)
  have hw := hb.way (Nat.le_refl _) hs he
  have hself : (es.set s (lv q es a + 1)).getD s 0 = lv q es a + 1 := nset_self (by rw [hb.len]; exact hs)
  exact {
    len := by simp [hb.len]
    q0 := hb.q0, qpos := hb.qpos, nd := hb.nd, rg := hb.rg, ats := hb.ats, lt := hb.lt
    nz := fun k h1 h2 => by rw [hlv k h2]; exact hb.nz k h1 h2
    lvk := fun k h2 => by rw [hlv k h2]; exact hb.lvk k h2
    mono := fun k k' h1 h2 => by rw [hlv k (by omega), hlv k' h2]; exact hb.mono k k' h1 h2
    top := fun i hi hl => by
      rw [hlv a hl]
      by_cases e : i = s
      · subst e; rw [hself]; omega
      · rw [nset_ne e]; exact hb.top i hi hl
    walk := fun i hi hne => by
      by_cases e : i = s
      · subst e; rw [hself]; exact ⟨hw, fun hh => absurd rfl hh⟩
      · rw [nset_ne e] at hne ⊢; exact hb.walk i hi hne
    edge := fun k hk i h1 h2 h3 => by
      rw [hlv k (by have := hb.lt; omega)]
      have := hb.edge k hk i h1 h2 h3
      by_cases e : i = s
      · subst e; exact absurd h0 this.1
      · rw [nset_ne e]; exact this
    row := fun i' h1 h2 h3 h4 => by
      rw [hlv a hb.lt]
      have : i' = s := by omega
      subst this
      rw [hself]; omega }
theorem BfsI.push (hb : BfsI h s a i q es) (hsi : s ≤ i) (his : i ≠ s) (hi : i < h.length) (he : Edge h i (q.getD a 0)) (h0 : es.getD i 0 = 0) : BfsI h s a (i + 1) (q ++ [i]) (es.set i (lv q es a + 1)) := by
  have hlt := hb.lt
  have hw := hb.way hsi hi he
  have hself : (es.set i (lv q es a + 1)).getD i 0 = lv q es a + 1 := nset_self (by rw [hb.len]; exact hi)
  have hlv : ∀ k, k < q.length → lv (q ++ [i]) (es.set i (lv q es a + 1)) k = lv q es k := fun k hk => by rw [lv_snoc hk]; exact lv_set (hb.ne h0 hk)
  have hlast : lv (q ++ [i]) (es.set i (lv q es a + 1)) q.length = lv q es a + 1 := by
    have := hb.qpos
    unfold lv
    rw [if_neg (by omega), getD_append_eq]
    exact hself
  have htop : ∀ k, k < q.length → lv q es k ≤ lv q es a + 1 := fun k hk => by
    by_cases e : k = 0
    · simp [lv, e]
    · have := hb.top (q.getD k 0) (hb.rg _ (hb.memx hk)).2 hb.lt
      simpa only [lv, if_neg e] using this
  have hni : i ∉ q := by
    intro hq
    obtain ⟨k, hk, e⟩ := List.getElem_of_mem hq
    by_cases e0 : k = 0
    · subst e0
      have := hb.q0
      rw [getD_get hb.qpos] at this
      omega
    · exact hb.ne h0 hk (by omega) (by rw [getD_get hk]; exact e)
  exact {
    len := by simp [hb.len]
    q0 := by rw [getD_append_lt hb.qpos]; exact hb.q0
    qpos := by simp
    nd := by
      rw [List.nodup_append]
      exact ⟨hb.nd, by simp, fun x hx y hy => by simp at hy; subst hy; exact fun e => hni (e ▸ hx)⟩
    rg := fun x hx => by
      rcases List.mem_append.1 hx with hx | hx
      · exact hb.rg x hx
      · simp at hx; subst hx; exact ⟨hsi, hi⟩
    ats := by simp; omega
    lt := by simp; omega
    nz := fun k h1 h2 => by
      by_cases e : k < q.length
      · rw [hlv k e]; exact hb.nz k h1 e
      · have : k = q.length := by simp at h2; omega
        subst this; rw [hlast]; omega
    lvk := fun k h2 => by
      by_cases e : k < q.length
      · rw [hlv k e]; exact hb.lvk k e
      · have : k = q.length := by simp at h2; omega
        subst this; rw [hlast]
        have := hb.lvk a hlt
        omega
    mono := fun k k' h1 h2 => by
      by_cases e' : k' < q.length
      · rw [hlv k (by omega), hlv k' e']; exact hb.mono k k' h1 e'
      · have : k' = q.length := by simp at h2; omega
        subst this
        rw [hlast]
        by_cases e : k < q.length
        · rw [hlv k e]; exact htop k e
        · have : k = q.length := by omega
          subst this; rw [hlast]; omega
    top := fun i' hi' hl => by
      rw [hlv a hlt]
      by_cases e : i' = i
      · subst e; rw [hself]; omega
      · rw [nset_ne e]; exact hb.top i' hi' hlt
    walk := fun i' hi' hne => by
      by_cases e : i' = i
      · subst e; rw [hself]; exact ⟨hw, fun _ => by simp⟩
      · rw [nset_ne e] at hne ⊢
        exact ⟨(hb.walk i' hi' hne).1, fun hh => List.mem_append_left _ ((hb.walk i' hi' hne).2 hh)⟩
    edge := fun k hk i' h1 h2 h3 => by
      rw [hlv k (by omega)]
      rw [getD_append_lt (by omega)] at h3
      have := hb.edge k hk i' h1 h2 h3
      by_cases e : i' = i
      · subst e; exact absurd h0 this.1
      · rw [nset_ne e]; exact this
    row := fun i' h1 h2 h3 h4 => by
      rw [hlv a hlt]
      rw [getD_append_lt hlt] at h4
      by_cases e : i' = i
      · subst e; rw [hself]; omega
      · rw [nset_ne e]; exact hb.row i' (by omega) h2 h3 h4 }
theorem Bfs.all (hb : Bfs h s q.length q es) : ∀ m i, Walk h s m i → es.getD i 0 ≠ 0 ∧ es.getD i 0 ≤ m
  | 0, i, hw => hw.elim
  | 1, i, hw => by
    obtain ⟨h1, h2, h3⟩ := Walk.one.1 hw
    have := hb.edge 0 hb.qpos i h1 h2 (by rw [hb.q0]; exact h3)
    simpa [lv] using this
  | m + 2, i, hw => by
    obtain ⟨h1, h2, j, h3, h4, h5, h6⟩ := (Walk.succ (by omega)).1 hw
    obtain ⟨k1, k2⟩ := Bfs.all hb (m + 1) j h6
    have hj := (hb.walk j h4 k1).2 (by omega)
    obtain ⟨k, hk, e⟩ := List.getElem_of_mem hj
    have e' : q.getD k 0 = j := by rw [getD_get hk]; exact e
    have := hb.edge k hk i h1 h2 (by rw [e']; exact h5)
    refine ⟨this.1, Nat.le_trans this.2 ?_⟩
    unfold lv
    split
    · omega
    · rw [e']; omega
theorem Bfs.dist (hb : Bfs h s q.length q es) (hi : i < h.length) : es.getD i 0 = dist h s i := by
  by_cases h0 : es.getD i 0 = 0
  · rw [h0]
    refine Classical.byContradiction fun hc => ?_
    exact (hb.all _ _ (dist_pos (h := h) (s := s) (i := i) (by omega)).1).1 h0
  · exact (dist_of ⟨(hb.walk i hi h0).1, fun m hm hw => by have := (hb.all m i hw).2; omega⟩).symm
theorem Bfs.eq (hb : Bfs h s q.length q es) : es = distL h s := nodup_get_ext (by rw [hb.len, distL_length]) fun k hk => by rw [hb.dist (by rw [← hb.len]; exact hk), distL_get (by rw [← hb.len]; exact hk)]
theorem Bfs.qlen (hb : Bfs h s a q es) : q.length ≤ h.length := by
  have := nodup_length_le hb.nd (m := List.range h.length) fun x hx => by simpa using (hb.rg x hx).2
  simpa using this
theorem Bfs.lvle (hb : Bfs h s a q es) (hn : h.length ≤ 100) (ha : a < q.length) : lv q es a ≤ 100 := by
  have := hb.lvk a ha
  have := hb.qlen
  omega
end

set_option maxHeartbeats 8000000
theorem c60 (h : List Acc) (s : Nat) (hs : s < h.length) (hn : h.length ≤ 100) : ACalls E.P 60 [graphA h, .int .i64 s] [] (fun r H => r = intsA (natL (distL h s)) ∧ H = []) := by
  have hmax := maxLen_eq
  refine ok60.acalls hE hm (by simp) ?_
  unfold mc60
  simp only [graphA]
  repeat' (first
    | (with_reducible first | apply cond_d | apply cond_nd | apply cond_i | apply guard_d | apply guard_nd | apply guard_df | apply guard_ndf | apply guard_i | apply ag_d | apply ag_nd | apply ag_df | apply ag_ndf | apply ag_i) <;> intro _
    | with_reducible first | refine LenR_i fun _ => ?_ | refine And.intro (by omega) ?_ | refine and_assoc.2 ?_ | apply sp_cond | apply sp_guard | apply sp_ag | apply sp_call | apply sp_acall | apply sp_loop | apply sp_any | apply sp_frz | apply sp_len | apply sp_idx | apply sp_keep | apply sp_back
    | with_reducible refine frz0_i ?_
    | simp (maxSteps := 1000000) (disch := omega) only [lAL, lDF, tupA, eqA, isNil, slcNil, ptrCells, ptrAdd, cellsO, intA, boolA, readsV, readsP, isCall, wrote, srcOf, isNilSlice, Value.oneCell', seval, implies_true, forall_eq, ne_eq, wrap_i64, LenR_ok, List.length_map, IdxR_ints])
  refine loop_i (X := Nat × List Nat × List Nat) (fun x => Bfs h s x.1 x.2.1 x.2.2)
    (fun x => ⟨[(0, graphA h), (1, .int .i64 s), (5, .slc 0 1 h.length), (6, .slc 1 1 x.2.1.length), (7, .int .i64 x.1)], [.arr 3 1 ((natL x.2.2).map (AV.int .i64)), .arr 3 1 ((natL x.2.1).map (AV.int .i64))]⟩) (fun x => h.length - x.1) (0, [s], List.replicate h.length 0) (Bfs.start hs) (Ent.to [0,1] false (by simp) (by simp) rfl (by simp only [lPA, lPD, novO, setAll, seval, implies_true, graphA, natL, List.map_replicate] <;> (try simp) <;> (try omega)) (by simp only [lPA, lPD, novO, setAll, seval, implies_true, graphA, natL, List.map_replicate] <;> (try simp) <;> (try omega))) ?_
  rintro ⟨a, q, es⟩ hb
  simp only at hb
  have hql := hb.qlen
  by_cases haq : a < q.length
  · have hbi := hb.inner haq
    have hlv := hb.lvle hn haq
    have hm := hb.memx haq
    obtain ⟨j1, j2⟩ := hb.rg _ hm
    have epq : ∀ {m N d c}, epR E.P m N (some (.arr 3 1 ((natL q).map (AV.int .i64)))) (a : Int) q.length 1 1 d c = rK E.P m N c d (.ep 1 1 a 0) := epR_ne (by simp [natL]) (by omega) (by omega)
    have gq := nats_get (es := q) (j := a) haq
    have epe : ∀ {m N d c}, epR E.P m N (some (.arr 3 1 ((natL es).map (AV.int .i64)))) ((q.getD a 0 : Nat) : Int) h.length 0 1 d c = rK E.P m N c d (.ep 0 1 (q.getD a 0) 0) := epR_ne (by simp [natL, hb.len]) (by omega) (by omega)
    have ge := nats_get (es := es) (j := q.getD a 0) (by rw [hb.len]; omega)
    have hlva : a ≠ 0 → lv q es a = es.getD (q.getD a 0) 0 := fun e => by simp only [lv, if_neg e]
    have h9 : (0 < (a : Int) → 1 + ((es.getD (q.getD a 0) 0 : Nat) : Int) = ((lv q es a + 1 : Nat) : Int)) ∧ (¬ 0 < (a : Int) → (1 : Int) = ((lv q es a + 1 : Nat) : Int)) := by
      refine ⟨fun h => by rw [← hlva (by omega)]; omega, fun h => ?_⟩
      have : a = 0 := by omega
      subst this
      rfl
    simp only [graphA]
    repeat' (first
      | (with_reducible first | apply cond_d | apply cond_nd | apply cond_i | apply guard_d | apply guard_nd | apply guard_df | apply guard_ndf | apply guard_i | apply ag_d | apply ag_nd | apply ag_df | apply ag_ndf | apply ag_i) <;> intro _
      | with_reducible first | refine LenR_i fun _ => ?_ | refine And.intro (by omega) ?_ | refine and_assoc.2 ?_ | apply sp_cond | apply sp_guard | apply sp_ag | apply sp_call | apply sp_acall | apply sp_loop | apply sp_any | apply sp_frz | apply sp_len | apply sp_idx | apply sp_keep | apply sp_back
      | with_reducible refine frz0_i ?_
      | simp (maxSteps := 1000000) (disch := omega) only [lAL, lDF, tupA, eqA, isNil, slcNil, ptrCells, ptrAdd, cellsO, intA, boolA, readsV, readsP, isCall, wrote, srcOf, isNilSlice, Value.oneCell', seval, implies_true, forall_eq, ne_eq, wrap_i64, LenR_ok, List.length_map, IdxR_ints, epq, gq, epe, ge])
    all_goals try (exfalso; omega)
    all_goals
      rename_i h8
      have h7 := by first | exact h9.1 h8 | exact (h9.2 h8).symm
      clear h9
      refine loop_i (X := Nat × List Nat × List Nat) (fun x => s ≤ x.1 ∧ x.1 ≤ h.length ∧ BfsI h s a x.1 x.2.1 x.2.2 ∧ lv x.2.1 x.2.2 a = lv q es a ∧ x.2.1.getD a 0 = q.getD a 0)
        (fun x => ⟨[(0, graphA h), (1, .int .i64 s), (5, .slc 0 1 h.length), (6, .slc 1 1 x.2.1.length), (7, .int .i64 a), (8, .int .i64 (q.getD a 0 : Nat)), (9, .int .i64 (lv q es a + 1 : Nat)), (10, .int .i64 x.1)], [.arr 3 1 ((natL x.2.2).map (AV.int .i64)), .arr 3 1 ((natL x.2.1).map (AV.int .i64))]⟩) (fun x => h.length - x.1) (s, q, es) ⟨by simp, by simp; omega, hbi, rfl, rfl⟩ (Ent.to [0,1] false (by simp) (by simp) rfl (by simp only [lPA, lPD, novO, setAll, seval, implies_true, graphA, pa_natL, h7] <;> (try simp) <;> (try omega)) (by simp only [lPA, lPD, novO, setAll, seval, implies_true, graphA, pa_natL, h7] <;> (try simp) <;> (try omega))) ?_
      rintro ⟨i, q', es'⟩ ⟨hsi, hi, hbi', hlv', hqa⟩
      simp only at hsi hi hbi' hlv' hqa
      have hql' := hbi'.toBfs.qlen
      by_cases hin : i < h.length
      · have er : ∀ {m N d k}, IdxR E.P m N ((List.range h.length).map (rowA h)) (i : Int) d k = rK E.P m N k d (.vp [rowA h i]) := IdxR_rows hin
        have eg : ∀ {m N d k}, IdxR E.P m N ((erow h i).map (AV.int .i64)) ((q.getD a 0 : Nat) : Int) d k = rK E.P m N k d (.vp [.int .i64 (ebit h i (q.getD a 0))]) := IdxR_erow j2
        have epi : ∀ {m N d c}, epR E.P m N (some (.arr 3 1 ((natL es').map (AV.int .i64)))) (i : Int) h.length 0 1 d c = rK E.P m N c d (.ep 0 1 i 0) := epR_ne (by simp [natL, hbi'.len]) (by omega) (by omega)
        have gi := nats_get (es := es') (j := i) (by rw [hbi'.len]; exact hin)
        have st : ∀ {m N y fr H qq}, stE E.P m N (some (.arr 3 1 ((natL es').map (AV.int .i64)))) 1 [y] (.int .i64 ((lv q es a + 1 : Nat) : Int)) 0 1 i 0 fr H qq = rE E.P m N qq fr (H.set 0 (.arr 3 1 ((natL (es'.set i (lv q es a + 1))).map (AV.int .i64)))) := stE_nat (by rw [hbi'.len]; exact hin) rfl
        simp only [graphA]
        repeat' (first
          | (with_reducible first | apply cond_d | apply cond_nd | apply cond_i | apply guard_d | apply guard_nd | apply guard_df | apply guard_ndf | apply guard_i | apply ag_d | apply ag_nd | apply ag_df | apply ag_ndf | apply ag_i) <;> intro _
          | with_reducible first | refine LenR_i fun _ => ?_ | refine And.intro (by omega) ?_ | refine and_assoc.2 ?_ | apply sp_cond | apply sp_guard | apply sp_ag | apply sp_call | apply sp_acall | apply sp_loop | apply sp_any | apply sp_frz | apply sp_len | apply sp_idx | apply sp_keep | apply sp_back
          | with_reducible refine frz0_i ?_
          | simp (maxSteps := 1000000) (disch := omega) only [lAL, lDF, tupA, eqA, isNil, slcNil, ptrCells, ptrAdd, cellsO, intA, boolA, readsV, readsP, isCall, wrote, srcOf, isNilSlice, Value.oneCell', seval, implies_true, forall_eq, ne_eq, wrap_i64, LenR_ok, List.length_map, IdxR_ints, er, eg, rowA, epi, gi, st, ebit_ne, natL_length])
        all_goals try (exfalso; omega)
        all_goals clear er eg epi gi st
        · rename_i h3 h4 h5
          simp only [Decidable.not_not] at h3
          have he : Edge h i (q'.getD a 0) := by rw [hqa]; exact h3
          have hp := hbi'.push hsi (by omega) hin he (by omega)
          have hk : lv (q' ++ [i]) (es'.set i (lv q es a + 1)) a = lv q es a := by
            rw [lv_snoc hbi'.lt, lv_set (hbi'.ne (by omega) hbi'.lt), hlv']
          rw [hlv'] at hp
          refine back_i (i + 1, q' ++ [i], es'.set i (lv q es a + 1)) ⟨by simp only; omega, by simp only; omega, hp, hk, by rw [getD_append_lt hbi'.lt]; exact hqa⟩ (by simp only; omega) (Ent.to [0, 3] false (by simp) (by simp) rfl (by simp only [lPA, lPD, novO, setAll, seval, implies_true] <;> simp [graphA]) ?_)
          simp only [lPA, lPD, novO, setAll, seval, implies_true, List.map_append, pa_natL, natL]
        · rename_i h3 h4 h5
          simp only [Decidable.not_not] at h3
          have his : i = s := by omega
          subst his
          have he : Edge h i (q'.getD a 0) := by rw [hqa]; exact h3
          have hp := hbi'.self hin he (by omega)
          have hk : lv q' (es'.set i (lv q es a + 1)) a = lv q es a := by
            rw [lv_set (hbi'.ne (by omega) hbi'.lt), hlv']
          rw [hlv'] at hp
          exact back_i (i + 1, q', es'.set i (lv q es a + 1)) ⟨by simp only; omega, by simp only; omega, hp, hk, hqa⟩ (by simp only; omega) (Ent.to [0,1] false (by simp) (by simp) rfl (by simp only [lPA, lPD, novO, setAll, seval, implies_true, graphA, pa_natL] <;> (try simp) <;> (try omega)) (by simp only [lPA, lPD, novO, setAll, seval, implies_true, graphA, pa_natL] <;> (try simp) <;> (try omega)))
        · rename_i h3 h4
          exact back_i (i + 1, q', es') ⟨by simp only; omega, by simp only; omega, hbi'.skip hin fun _ => by omega, hlv', hqa⟩ (by simp only; omega) (Ent.to [0,1] false (by simp) (by simp) rfl (by simp only [lPA, lPD, novO, setAll, seval, implies_true, graphA, pa_natL] <;> (try simp) <;> (try omega)) (by simp only [lPA, lPD, novO, setAll, seval, implies_true, graphA, pa_natL] <;> (try simp) <;> (try omega)))
        · rename_i h3
          exact back_i (i + 1, q', es') ⟨by simp only; omega, by simp only; omega, hbi'.skip hin fun he => absurd (by rw [← hqa]; exact he) h3, hlv', hqa⟩ (by simp only; omega) (Ent.to [0,1] false (by simp) (by simp) rfl (by simp only [lPA, lPD, novO, setAll, seval, implies_true, graphA, pa_natL] <;> (try simp) <;> (try omega)) (by simp only [lPA, lPD, novO, setAll, seval, implies_true, graphA, pa_natL] <;> (try simp) <;> (try omega)))
      · have : i = h.length := by omega
        subst this
        simp only [graphA]
        repeat' (first
          | (with_reducible first | apply cond_d | apply cond_nd | apply cond_i | apply guard_d | apply guard_nd | apply guard_df | apply guard_ndf | apply guard_i | apply ag_d | apply ag_nd | apply ag_df | apply ag_ndf | apply ag_i) <;> intro _
          | with_reducible first | refine LenR_i fun _ => ?_ | refine And.intro (by omega) ?_ | refine and_assoc.2 ?_ | apply sp_cond | apply sp_guard | apply sp_ag | apply sp_call | apply sp_acall | apply sp_loop | apply sp_any | apply sp_frz | apply sp_len | apply sp_idx | apply sp_keep | apply sp_back
          | with_reducible refine frz0_i ?_
          | simp (maxSteps := 1000000) (disch := omega) only [lAL, lDF, tupA, eqA, isNil, slcNil, ptrCells, ptrAdd, cellsO, intA, boolA, readsV, readsP, isCall, wrote, srcOf, isNilSlice, Value.oneCell', seval, implies_true, forall_eq, ne_eq, wrap_i64, LenR_ok, List.length_map, IdxR_ints])
        all_goals try (exfalso; omega)
        exact back_i (a + 1, q', es') hbi'.done (by have := hbi'.lt; simp only; omega) (Ent.to [0,1] false (by simp) (by simp) rfl (by simp only [lPA, lPD, novO, setAll, seval, implies_true, graphA, pa_natL] <;> (try simp) <;> (try omega)) (by simp only [lPA, lPD, novO, setAll, seval, implies_true, graphA, pa_natL] <;> (try simp) <;> (try omega)))
  · have haq : a = q.length := by have := hb.ats; omega
    subst haq
    simp only [graphA]
    repeat' (first
      | (with_reducible first | apply cond_d | apply cond_nd | apply cond_i | apply guard_d | apply guard_nd | apply guard_df | apply guard_ndf | apply guard_i | apply ag_d | apply ag_nd | apply ag_df | apply ag_ndf | apply ag_i) <;> intro _
      | with_reducible first | refine LenR_i fun _ => ?_ | refine And.intro (by omega) ?_ | refine and_assoc.2 ?_ | apply sp_cond | apply sp_guard | apply sp_ag | apply sp_call | apply sp_acall | apply sp_loop | apply sp_any | apply sp_frz | apply sp_len | apply sp_idx | apply sp_keep | apply sp_back
      | with_reducible refine frz0_i ?_
      | simp (maxSteps := 1000000) (disch := omega) only [lAL, lDF, tupA, eqA, isNil, slcNil, ptrCells, ptrAdd, cellsO, intA, boolA, readsV, readsP, isCall, wrote, srcOf, isNilSlice, Value.oneCell', seval, implies_true, forall_eq, ne_eq, wrap_i64, LenR_ok, List.length_map, IdxR_ints])
    all_goals try (exfalso; omega)
    have he := hb.eq
    subst he
    have hv2 : ∀ {H l n}, vwS none (some (.arr 3 1 ((natL (distL h s)).map (AV.int .i64)))) H l n 1 h.length = .view 1 ((natL (distL h s)).map (AV.int .i64)) := by
      intro H l n
      rw [vwS_arr (by simp [natL, distL_length]), vw_ints]
    refine keep_i [] true (by simp) (by simp) rfl ?_
    simp only [lPA, lPD, novO, setAll, seval, implies_true, paR_lent, hv2, intsA]
end Go.Proofs.Try
