/-
  A part of the proof: see the text of the law.
-/
import Derived.Test.YtlkmgeahdidjeaaPac
import Derived.Test.YtlkmgeahdidjeaaEas
set_option linter.unusedSimpArgs false
set_option linter.unusedVariables false
namespace Go.Proofs.Try
set_option linter.unusedVariables false

/-! ### what a snapshot sees, as a filter -/
def isS (l : List Ver) (snap : Int) (v : Ver) : Bool := decide (v.stamp ≤ snap) && l.all fun u => !(decide (u.row = v.row) && decide (u.stamp ≤ snap)) || decide (u.stamp ≤ v.stamp)
theorem isS_iff {l : List Ver} {snap : Int} {v : Ver} (hv : v ∈ l) : isS l snap v = true ↔ IsSeen l v.row snap v := by
  simp only [isS, Bool.and_eq_true, decide_eq_true_eq, List.all_eq_true, Bool.or_eq_true, Bool.not_eq_true', Bool.and_eq_false_iff, decide_eq_false_iff_not]
  constructor
  · rintro ⟨h1, h2⟩
    refine ⟨hv, rfl, h1, fun u hu hr hs => ?_⟩
    rcases h2 u hu with h | h
    · rcases h with h | h
      · exact absurd hr h
      · exact absurd hs h
    · exact h
  · rintro ⟨_, _, h1, h2⟩
    refine ⟨h1, fun u hu => ?_⟩
    by_cases hr : u.row = v.row
    · by_cases hs : u.stamp ≤ snap
      · exact .inr (h2 u hu hr hs)
      · exact .inl (.inr hs)
    · exact .inl (.inl hr)
theorem isS_perm {l l' : List Ver} (hp : l'.Perm l) (snap : Int) (v : Ver) : isS l' snap v = isS l snap v := by
  unfold isS
  rw [hp.all_eq]
/-- The live ones. -/
def rowP (l : List Ver) (snap : Int) (v : Ver) : Bool := isS l snap v && !v.dead
theorem rowsN_filter {a : List Ver} (hd : diff a) (snap : Int) : ∀ i, i ≤ a.length → rowsN a snap i = (a.take i).filter (rowP a snap)
  | 0, _ => rfl
  | i + 1, hi => by
    have hil : i < a.length := by omega
    rw [take_succD hil, List.filter_append, ← rowsN_filter hd snap i (by omega)]
    simp only [rowsN]
    have h1 := sees_at hd (snap := snap) hil
    have h2 := isS_iff (snap := snap) (getD_mem hil)
    generalize a.getD i default = v at *
    by_cases hs : IsSeen a v.row snap v
    · have h3 : rowP a snap v = !v.dead := by rw [rowP, h2.2 hs, Bool.true_and]
      cases hv : v.dead
      · rw [if_pos ⟨h1.2 hs, rfl⟩, List.filter_cons, h3, hv]; rfl
      · rw [if_neg (fun h => by cases h.2), List.filter_cons, h3, hv]; simp
    · have h3 : rowP a snap v = false := by
        rw [rowP, Bool.and_eq_false_iff]
        exact .inl (by simpa using fun h => hs (h2.1 h))
      rw [if_neg (fun h => hs (h1.1 h.1)), List.filter_cons, h3]
      simp
theorem refRows_filter {l : List Ver} (hd : diff l) (snap : Int) : refRows l snap = (ordered l).filter (rowP l snap) := by
  rw [refRows, rowsN_filter (diff_perm hd (ordered_perm l)) snap _ (Nat.le_refl _), List.take_length]
  exact List.filter_congr fun v _ => by rw [rowP, rowP, isS_perm (ordered_perm l)]

theorem tw_all {α : Type} {p : α → Bool} : ∀ {l : List α}, (∀ x ∈ l, p x = true) → l.takeWhile p = l
  | [], _ => rfl
  | x :: l, h => by rw [List.takeWhile_cons, if_pos (h x (by simp)), tw_all fun y hy => h y (by simp [hy])]
theorem dw_head {α : Type} {p : α → Bool} : ∀ {l : List α} (h : 0 < (l.dropWhile p).length), p ((l.dropWhile p)[0]) = false
  | [], h => by simp at h
  | x :: l, h => by
    cases hx : p x with
    | true =>
      have e : (x :: l).dropWhile p = l.dropWhile p := by rw [List.dropWhile_cons, if_pos hx]
      simp only [e] at h ⊢
      exact dw_head h
    | false =>
      have e : (x :: l).dropWhile p = x :: l := by rw [List.dropWhile_cons, if_neg (by rw [hx]; simp)]
      simp only [e] at h ⊢
      exact hx
/-! ### .. row by row -/
theorem groups_full : ∀ (n : Nat) (a : List Ver), a.length ≤ n → srtd a → ∀ g ∈ groups a, ∀ u ∈ a, ∀ v ∈ g, u.row = v.row → u ∈ g
  | 0, a, h, _, g, hg, u, hu => by
    have : a = [] := List.eq_nil_of_length_eq_zero (by omega)
    subst this
    simp at hu
  | n + 1, a, h, hs, g, hg, u, hu => by
    intro v hv he
    by_cases hne : a = []
    · subst hne; simp at hu
    have hle := runN_le hne
    rw [groups_cons hne] at hg
    have hsplit := List.take_append_drop (runN a) a
    have hrest : ∀ x ∈ a.drop (runN a), (a.getD 0 default).row < x.row := by
      have hs2 : srtd (a.take (runN a) ++ a.drop (runN a)) := by rw [hsplit]; exact hs
      cases hdr : a.drop (runN a) with
      | nil => intro x hx; simp at hx
      | cons y t =>
        have hlt : runN a < a.length := by
          have := congrArg List.length hdr
          simp at this
          omega
        have hy : a.getD (runN a) default = y := by
          have := congrArg (fun l => l[0]?) hdr
          simp at this
          rw [List.getD_eq_getElem?_getD, this]; rfl
        have hyr : y.row ≠ (a.getD 0 default).row := by
          rw [← hy]
          cases a with
          | nil => exact absurd rfl hne
          | cons z t =>
            have e : runN (z :: t) = (t.takeWhile fun v => decide (v.row = z.row)).length + 1 := by simp [runN, Nat.add_comm]
            rw [e] at hlt ⊢
            have hdw := fun h => dw_head (p := fun v : Ver => decide (v.row = z.row)) (l := t) h
            simp only [List.length_cons, Nat.add_lt_add_iff_right] at hlt
            have hl2 := congrArg List.length (List.takeWhile_append_dropWhile (p := fun v : Ver => decide (v.row = z.row)) (l := t))
            rw [List.length_append] at hl2
            have h0 : 0 < (t.dropWhile fun v : Ver => decide (v.row = z.row)).length := by omega
            have h3 := hdw h0
            have h4 : (t.dropWhile fun v : Ver => decide (v.row = z.row))[0]? = t[(t.takeWhile fun v : Ver => decide (v.row = z.row)).length]? := by
              conv => rhs; rw [← List.takeWhile_append_dropWhile (p := fun v : Ver => decide (v.row = z.row)) (l := t)]
              rw [List.getElem?_append_right (by rw [List.takeWhile_append_dropWhile]; exact Nat.le_refl _), List.takeWhile_append_dropWhile, Nat.sub_self]
            rw [List.getElem?_eq_getElem h0] at h4
            simp only [List.getD_eq_getElem?_getD, List.getElem?_cons_succ, List.getElem?_cons_zero, ← h4, Option.getD_some]
            simpa using h3
        have hge : ∀ x ∈ y :: t, y.row ≤ x.row := by
          rw [hdr] at hs2
          have h5 := (List.pairwise_append.1 hs2).2.1
          intro x hx
          rcases List.mem_cons.1 hx with rfl | hx
          · exact Int.le_refl _
          · have := (List.pairwise_cons.1 h5).1 x hx
            rw [gtV_false] at this
            omega
        have hy0 : (a.getD 0 default).row ≤ y.row := by
          have h0 : a.getD 0 default ∈ a.take (runN a) := by
            cases a with
            | nil => exact absurd rfl hne
            | cons z t =>
              obtain ⟨k, hk⟩ : ∃ k, runN (z :: t) = k + 1 := ⟨runN (z :: t) - 1, by omega⟩
              rw [hk]; simp
          have := (List.pairwise_append.1 hs2).2.2 _ h0 y (by rw [hdr]; simp)
          rw [gtV_false] at this
          omega
        intro x hx
        have := hge x hx
        omega
    rcases List.mem_cons.1 hg with rfl | hg
    · have hvr := runN_same hne v hv
      rw [← hsplit] at hu
      rcases List.mem_append.1 hu with hu | hu
      · exact hu
      · have := hrest u hu
        rw [he, hvr] at this
        omega
    · have hs3 : srtd (a.drop (runN a)) := hs.sublist (List.drop_sublist _ _)
      have hvd : v ∈ a.drop (runN a) := by
        have := ((groups_spec _ (a.drop (runN a)) (Nat.le_refl _)).2 g hg).2.1
        exact this.subset hv
      have hu2 : u ∈ a.drop (runN a) := by
        rw [← hsplit] at hu
        rcases List.mem_append.1 hu with hu | hu
        · have h1 := runN_same hne u hu
          have h2 := hrest v hvd
          omega
        · exact hu
      exact groups_full n (a.drop (runN a)) (by simp; omega) hs3 g hg u hu2 v hv he
/-- Among the versions of one row, the place is the one that is seen. -/
theorem seesS_at {g : List Ver} (ha : ascS g) (hr : ∀ v ∈ g, v.row = (g.getD 0 default).row) (snap : Int) {j : Nat} (hj : j < g.length) : seesS g snap = j ↔ isS g snap (g.getD j default) = true := by
  rw [isS_iff (getD_mem hj)]
  have htw : ∀ m, m ≤ g.length → (∀ k, k < m → (g.getD k default).stamp ≤ snap) → (m < g.length → ¬ (g.getD m default).stamp ≤ snap) → seesS g snap = (m : Int) - 1 := fun m h1 h2 h3 => by
    rw [seesS, tw_len (m := m) h1 (fun k hk => decide_eq_true (h2 k hk)) (fun hm => decide_eq_false (h3 hm))]
  have hup : ∀ i k, i < k → k < g.length → (g.getD i default).stamp < (g.getD k default).stamp := fun i k h1 h2 => ascS_get ha h1 h2
  constructor
  · intro h
    have hle : (g.takeWhile fun v => decide (v.stamp ≤ snap)).length = j + 1 := by unfold seesS at h; omega
    have hin : ∀ k, k < j + 1 → (g.getD k default).stamp ≤ snap := fun k hk => by
      have h1 : g.getD k default ∈ g.takeWhile fun v => decide (v.stamp ≤ snap) := by
        have h2 : (g.takeWhile fun v => decide (v.stamp ≤ snap))[k]? = g[k]? := by
          conv => rhs; rw [← List.takeWhile_append_dropWhile (p := fun v : Ver => decide (v.stamp ≤ snap)) (l := g)]
          rw [List.getElem?_append_left (by rw [hle]; exact hk)]
        rw [List.getElem?_eq_getElem (by omega : k < g.length)] at h2
        rw [List.getD_eq_getElem?_getD, List.getElem?_eq_getElem (by omega : k < g.length)]
        exact List.mem_of_getElem? h2
      have := List.all_takeWhile (l := g) (p := fun v : Ver => decide (v.stamp ≤ snap))
      rw [List.all_eq_true] at this
      simpa using this _ h1
    refine ⟨getD_mem hj, rfl, hin j (by omega), fun u hu _ hs => ?_⟩
    obtain ⟨k, hk⟩ := List.getElem?_of_mem hu
    obtain ⟨hkl, rfl⟩ := List.getElem?_eq_some_iff.1 hk
    have e : g.getD k default = g[k] := by simp [hkl]
    rw [← e] at hs ⊢
    rcases Nat.lt_trichotomy k j with h1 | h1 | h1
    · exact Int.le_of_lt (hup k j h1 hj)
    · rw [h1]; exact Int.le_refl _
    · exfalso
      have h5 : j + 1 < g.length := by omega
      have h6 : ¬ (g.getD (j + 1) default).stamp ≤ snap := fun h7 => by
        have h8 : ∀ m, j + 1 ≤ m → m ≤ g.length → (∀ k, k < m → (g.getD k default).stamp ≤ snap) → m ≤ (g.takeWhile fun v => decide (v.stamp ≤ snap)).length := by
          intro m _ hm hall
          have : g.take m = (g.take m).takeWhile fun v => decide (v.stamp ≤ snap) := by
            symm
            refine tw_all fun x hx => ?_
            obtain ⟨q, hq⟩ := List.getElem?_of_mem hx
            rw [List.getElem?_take] at hq
            split at hq
            · rename_i hqm
              have := hall q hqm
              rw [List.getD_eq_getElem?_getD, hq, Option.getD_some] at this
              exact decide_eq_true this
            · cases hq
          have h9 : (g.take m).length ≤ (g.takeWhile fun v => decide (v.stamp ≤ snap)).length := by
            conv => rhs; rw [← List.take_append_drop m g]
            rw [List.takeWhile_append, ← this]
            simp
          rw [List.length_take, Nat.min_eq_left hm] at h9
          exact h9
        have := h8 (j + 2) (by omega) (by omega) fun k hk => by
          by_cases hkj : k = j + 1
          · rw [hkj]; exact h7
          · exact hin k (by omega)
        omega
      by_cases h7 : k = j + 1
      · rw [h7] at hs; exact h6 hs
      · have := hup (j + 1) k (by omega) hkl
        omega
  · rintro ⟨_, _, h1, h2⟩
    rw [htw (j + 1) (by omega) (fun k hk => ?_) (fun hm => ?_)]
    · omega
    · by_cases hkj : k = j
      · rw [hkj]; exact h1
      · have := hup k j (by omega) hj; omega
    · intro hs
      have := h2 _ (getD_mem hm) (by rw [hr _ (getD_mem hm), hr _ (getD_mem hj)]) hs
      have := hup j (j + 1) (by omega) hm
      omega
theorem seesS_or {g : List Ver} (snap : Int) : -1 ≤ seesS g snap ∧ seesS g snap < g.length := by
  have := (List.takeWhile_sublist (l := g) (fun v => decide (v.stamp ≤ snap))).length_le
  unfold seesS
  omega
theorem filter_one {α : Type} [Inhabited α] {p : α → Bool} : ∀ {g : List α} {j : Nat}, j < g.length → (∀ i, i < g.length → (p (g.getD i default) = true ↔ i = j)) → g.filter p = [g.getD j default]
  | [], j, h, _ => by simp at h
  | x :: g, 0, h, hp => by
    have h0 := (hp 0 h).2 rfl
    simp only [List.getD_cons_zero] at h0
    rw [List.filter_cons, if_pos h0, List.filter_eq_nil_iff.2 fun y hy hpy => ?_]
    · rfl
    · obtain ⟨k, hk⟩ := List.getElem?_of_mem hy
      obtain ⟨hk, rfl⟩ := List.getElem?_eq_some_iff.1 hk
      have := (hp (k + 1) (by simp; omega)).1 (by simpa [hk] using hpy)
      omega
  | x :: g, j + 1, h, hp => by
    have h0 : ¬ p x = true := fun hx => by
      have := (hp 0 (by simp)).1 (by simpa using hx)
      omega
    rw [List.filter_cons, if_neg h0, List.getD_cons_succ]
    refine filter_one (by simpa using h) fun i hi => ?_
    have := hp (i + 1) (by simpa using hi)
    rw [List.getD_cons_succ] at this
    rw [this]
    omega
theorem rowF_filter {l : List Ver} (hs : srtd l) (hd : diff l) {g : List Ver} (hg : g ∈ groups l) (snap : Int) (x : List Ver) : rowF snap x g = x ++ g.filter (rowP l snap) := by
  have ha := groups_asc hs hd hg
  obtain ⟨_, hsub, hr⟩ := (groups_spec _ l (Nat.le_refl _)).2 g hg
  have hfull := groups_full _ l (Nat.le_refl _) hs g hg
  have hloc : ∀ v ∈ g, isS l snap v = isS g snap v := fun v hv => by
    have h1 := isS_iff (l := l) (snap := snap) (hsub.subset hv)
    have h2 := isS_iff (l := g) (snap := snap) hv
    rw [Bool.eq_iff_iff, h1, h2]
    constructor
    · rintro ⟨_, _, h3, h4⟩
      exact ⟨hv, rfl, h3, fun u hu hr hs => h4 u (hsub.subset hu) hr hs⟩
    · rintro ⟨_, _, h3, h4⟩
      exact ⟨hsub.subset hv, rfl, h3, fun u hu hr hs => h4 u (hfull u hu v hv hr) hr hs⟩
  have hfil : g.filter (rowP l snap) = (g.filter (isS g snap)).filter fun v => !v.dead := by
    rw [List.filter_filter]
    refine List.filter_congr fun v hv => ?_
    rw [rowP, hloc v hv, Bool.and_comm]
  rw [hfil, rowF]
  obtain ⟨s1, s2⟩ := seesS_or (g := g) snap
  have hat := fun j hj => seesS_at ha hr snap (j := j) hj
  by_cases h0 : 0 ≤ seesS g snap
  · obtain ⟨j, hj⟩ : ∃ j : Nat, seesS g snap = j := ⟨(seesS g snap).toNat, by omega⟩
    rw [hj] at hat s2 ⊢
    have hjl : j < g.length := by omega
    rw [filter_one (j := j) hjl fun i hi => by rw [← hat i hi]; omega, Int.toNat_natCast]
    cases hdd : (g.getD j default).dead
    · rw [if_pos ⟨by omega, rfl⟩, List.filter_cons, hdd]; rfl
    · rw [if_neg (fun h => by cases h.2), List.filter_cons, hdd]; simp
  · have hnil : g.filter (isS g snap) = [] := by
      rw [List.filter_eq_nil_iff]
      intro v hv hp
      obtain ⟨k, hk⟩ := List.getElem?_of_mem hv
      obtain ⟨hk2, rfl⟩ := List.getElem?_eq_some_iff.1 hk
      have := (hat k hk2).2 (by simpa [hk2] using hp)
      omega
    rw [if_neg (fun h => h0 h.1), hnil]
    simp
theorem snapRows_filter {l : List Ver} (hd : diff l) (snap : Int) : snapRows l snap = (ordered l).filter (rowP l snap) := by
  have hs := ordered_srtd l
  have hd2 := diff_perm hd (ordered_perm l)
  have hP : rowP (ordered l) snap = rowP l snap := by
    funext v
    rw [rowP, rowP, isS_perm (ordered_perm l)]
  unfold snapRows
  have key : ∀ (L : List (List Ver)) (x : List Ver), (∀ g ∈ L, g ∈ groups (ordered l)) → L.foldl (rowF snap) x = x ++ L.flatten.filter (rowP l snap) := by
    intro L
    induction L with
    | nil => intro x _; simp
    | cons g L ih =>
      intro x h
      rw [List.foldl_cons, rowF_filter hs hd2 (h g (by simp)), ih _ (fun g' h' => h g' (by simp [h'])), hP, List.flatten_cons, List.filter_append, List.append_assoc]
  rw [key _ _ (fun g h => h), List.nil_append, ((groups_spec _ (ordered l) (Nat.le_refl _)).1)]
theorem rows_ref {l : List Ver} (hd : diff l) (snap : Int) : snapRows l snap = refRows l snap := by
  rw [snapRows_filter hd, refRows_filter hd]
end Go.Proofs.Try
