/-
  A part of the proof: see the text of the law.
-/
import Derived.Test.YtlkmgeahdidjeaaPad
import Derived.Test.YtlkmgeahdidjeaaPae
import Derived.Test.YtlkmgeahdidjeaaEau
set_option linter.unusedSimpArgs false
set_option linter.unusedVariables false
namespace Go.Proofs.Try
set_option linter.unusedVariables false
set_option linter.unusedSimpArgs false
set_option linter.unusedSectionVars false

/-! ### Add -/
theorem last_nn (l : List Ver) : 0 ≤ last l := (le_foldl_max l 0).1
theorem addE_ok {l : List Ver} {s : Int} {w : List Wr} (h : addE l s w = 0) : last l < s ∧ s ≤ 1073741824 ∧ (∀ x ∈ w, okW x) ∧ (w.map Wr.row).Nodup ∧ addL l s w = ordered (l ++ w.map (Wr.toV s)) := by
  have hL : addL l s w = ordered (l ++ w.map (Wr.toV s)) := if_pos h
  unfold addE at h
  split at h
  · cases h
  · split at h
    · split at h
      · refine ⟨by omega, by omega, by assumption, by assumption, hL⟩
      · cases h
    · cases h
theorem addL_bad {l : List Ver} {s : Int} {w : List Wr} (h : addE l s w ≠ 0) : addL l s w = [] := if_neg h
theorem good_nil : goodL [] := ⟨fun v hv => by simp at hv, .nil⟩
theorem good_perm {l l' : List Ver} (hg : goodL l) (hp : l'.Perm l) : goodL l' := ⟨fun v hv => hg.1 v (hp.mem_iff.1 hv), diff_perm hg.2 hp⟩
theorem good_new {l : List Ver} {s : Int} {w : List Wr} (hg : goodL l) (h : addE l s w = 0) : goodL (l ++ w.map (Wr.toV s)) := by
  obtain ⟨h1, h2, h3, h4, h5⟩ := addE_ok h
  refine ⟨fun v hv => ?_, diff_new hg.2 h1 h4⟩
  rcases List.mem_append.1 hv with hv | hv
  · exact hg.1 v hv
  · obtain ⟨x, hx, rfl⟩ := List.mem_map.1 hv
    obtain ⟨k1, k2, k3⟩ := h3 x hx
    have := last_nn l
    exact ⟨k1, k2, by simp only [Wr.toV]; omega, h2, k3⟩
theorem addL_good {l : List Ver} {s : Int} {w : List Wr} (hg : goodL l) : goodL (addL l s w) := by
  by_cases h : addE l s w = 0
  · rw [(addE_ok h).2.2.2.2]
    exact good_perm (good_new hg h) (ordered_perm _)
  · rw [addL_bad h]; exact good_nil
/-- Two ordered lists of the same versions. -/
theorem srtd_two {a b : List Ver} (ha : srtd a) (hb : srtd b) (hd : diff a) (hp : a.Perm b) : a = b := by
  refine List.Perm.eq_of_pairwise (le := fun x y => gtV x y = false) ?_ ha hb hp
  intro x y hx hy h1 h2
  rw [gtV_false] at h1 h2
  exact diff_mem hd hx (hp.mem_iff.2 hy) (by omega) (by omega)
theorem diff_filter {a : List Ver} (h : diff a) (p : Ver → Bool) : diff (a.filter p) := h.sublist List.filter_sublist
theorem srtd_filter {a : List Ver} (h : srtd a) (p : Ver → Bool) : srtd (a.filter p) := h.sublist List.filter_sublist
theorem seen_perm {l l' : List Ver} (hp : l'.Perm l) {row snap : Int} {v : Ver} : IsSeen l' row snap v ↔ IsSeen l row snap v := by
  unfold IsSeen
  simp only [hp.mem_iff]
theorem noSeen_perm {l l' : List Ver} (hp : l'.Perm l) {row snap : Int} : NoSeen l' row snap ↔ NoSeen l row snap := by
  unfold NoSeen
  simp only [hp.mem_iff]
theorem isS_before {l : List Ver} {s snap : Int} {w : List Wr} (h : snap < s) (v : Ver) : isS (l ++ w.map (Wr.toV s)) snap v = isS l snap v := by
  unfold isS
  rw [List.all_append]
  have : ((w.map (Wr.toV s)).all fun u => !(decide (u.row = v.row) && decide (u.stamp ≤ snap)) || decide (u.stamp ≤ v.stamp)) = true := by
    rw [List.all_eq_true]
    intro u hu
    obtain ⟨x, _, rfl⟩ := List.mem_map.1 hu
    have : decide ((x.toV s).stamp ≤ snap) = false := decide_eq_false (by simp only [Wr.toV]; omega)
    rw [this]; simp
  rw [this, Bool.and_true]
theorem rows_before {l : List Ver} {s snap : Int} {w : List Wr} (hg : goodL l) (h : addE l s w = 0) (hs : snap < s) : snapRows (addL l s w) snap = snapRows l snap := by
  obtain ⟨h1, h2, h3, h4, h5⟩ := addE_ok h
  have hgn := good_new hg h
  rw [h5]
  have hdo := diff_perm hgn.2 (ordered_perm _)
  rw [snapRows_filter hdo, snapRows_filter hg.2, srtd_one hdo (.refl _) (ordered_srtd _) |>.symm]
  refine srtd_two (srtd_filter (ordered_srtd _) _) (srtd_filter (ordered_srtd _) _) (diff_filter hdo _) ?_
  have hP : ∀ v, rowP (ordered (l ++ w.map (Wr.toV s))) snap v = rowP l snap v := fun v => by rw [rowP, rowP, isS_perm (ordered_perm _), isS_before hs]
  rw [show rowP (ordered (l ++ w.map (Wr.toV s))) snap = rowP l snap from funext hP]
  refine ((ordered_perm _).filter _).trans ?_
  rw [List.filter_append]
  have hn : (w.map (Wr.toV s)).filter (rowP l snap) = [] := by
    rw [List.filter_eq_nil_iff]
    intro u hu
    obtain ⟨x, _, rfl⟩ := List.mem_map.1 hu
    have hf : decide ((x.toV s).stamp ≤ snap) = false := decide_eq_false (by simp only [Wr.toV]; omega)
    rw [rowP, isS, hf]
    simp
  rw [hn, List.append_nil]
  exact ((ordered_perm _).filter _).symm
section
variable {l : List Ver} {s snap : Int} {w : List Wr} (hg : goodL l) (h : addE l s w = 0) (hs : s ≤ snap)
include hg h hs
theorem seen_wrote {x : Wr} (hx : x ∈ w) : IsSeen (l ++ w.map (Wr.toV s)) x.row snap (x.toV s) := by
  obtain ⟨h1, h2, h3, h4, h5⟩ := addE_ok h
  refine ⟨List.mem_append.2 (.inr (List.mem_map.2 ⟨x, hx, rfl⟩)), rfl, hs, fun u hu _ _ => ?_⟩
  rcases List.mem_append.1 hu with hu | hu
  · have := last_le l u hu; simp only [Wr.toV]; omega
  · obtain ⟨y, _, rfl⟩ := List.mem_map.1 hu
    exact Int.le_refl _
theorem seen_other {v : Ver} (hv : IsSeen l v.row snap v) (hn : v.row ∉ w.map Wr.row) : IsSeen (l ++ w.map (Wr.toV s)) v.row snap v := by
  obtain ⟨h1, h2, h3, h4⟩ := hv
  refine ⟨List.mem_append.2 (.inl h1), rfl, h3, fun u hu hr hq => ?_⟩
  rcases List.mem_append.1 hu with hu | hu
  · exact h4 u hu hr hq
  · obtain ⟨y, hy, rfl⟩ := List.mem_map.1 hu
    exact absurd (List.mem_map.2 ⟨y, hy, hr⟩) hn
theorem vis_wrote {x : Wr} (hx : x ∈ w) : vis (addL l s w) x.row snap = if x.dead = true then (Ver0, false) else (x.toV s, true) := by
  have hgn := addL_good (s := s) (w := w) hg
  have hp := ordered_perm (l ++ w.map (Wr.toV s))
  rw [← (addE_ok h).2.2.2.2] at hp
  rw [vis_some (good_stamp hgn) hgn.2 ((seen_perm hp).2 (seen_wrote hg h hs hx))]
  rfl
theorem vis_other {v : Ver} (hv : v ∈ snapRows l snap) (hn : v.row ∉ w.map Wr.row) : vis (addL l s w) v.row snap = (v, true) := by
  have hgn := addL_good (s := s) (w := w) hg
  have hp := ordered_perm (l ++ w.map (Wr.toV s))
  rw [← (addE_ok h).2.2.2.2] at hp
  rw [snapRows_filter hg.2, List.mem_filter] at hv
  obtain ⟨hv1, hv2⟩ := hv
  rw [rowP, Bool.and_eq_true, isS_iff ((ordered_perm l).mem_iff.1 hv1)] at hv2
  rw [vis_some (good_stamp hgn) hgn.2 ((seen_perm hp).2 (seen_other hg h hs hv2.1 hn)), if_neg (by simpa using hv2.2)]
/-- How many rows are seen then. -/
theorem count_after : (snapRows (addL l s w) snap).length = (w.filter fun x => !x.dead).length + ((snapRows l snap).filter fun v => !(w.any fun x => decide (x.row = v.row))).length := by
  obtain ⟨h1, h2, h3, h4, h5⟩ := addE_ok h
  have hgn := good_new hg h
  have hdo := diff_perm hgn.2 (ordered_perm _)
  rw [h5, snapRows_filter hdo, snapRows_filter hg.2]
  have hP : rowP (ordered (l ++ w.map (Wr.toV s))) snap = rowP (l ++ w.map (Wr.toV s)) snap := funext fun v => by rw [rowP, rowP, isS_perm (ordered_perm _)]
  rw [hP, ((((ordered_perm _).trans (ordered_perm _)).filter _)).length_eq, List.filter_append, List.length_append, Nat.add_comm]
  congr 1
  · rw [List.filter_map, List.length_map]
    congr 1
    refine List.filter_congr fun x hx => ?_
    simp only [Function.comp, rowP]
    have hsn := seen_wrote hg h hs hx
    rw [(isS_iff hsn.1).2 hsn]
    rfl
  · rw [List.filter_filter, ((ordered_perm l).filter _).length_eq]
    congr 1
    refine List.filter_congr fun v hv => ?_
    rw [Bool.eq_iff_iff]
    simp only [rowP, Bool.and_eq_true, Bool.not_eq_true', List.any_eq_false, decide_eq_true_eq]
    rw [isS_iff hv, isS_iff (List.mem_append.2 (.inl hv))]
    constructor
    · rintro ⟨hseen, hdd⟩
      have hno : ∀ x ∈ w, ¬ x.row = v.row := fun x hx he => by
        have hw := seen_wrote hg h hs hx
        have := hseen.2.2.2 _ hw.1 he hs
        have := last_le l v hv
        simp only [Wr.toV] at *
        omega
      exact ⟨hno, ⟨hv, rfl, hseen.2.2.1, fun u hu hr hq => hseen.2.2.2 u (List.mem_append.2 (.inl hu)) hr hq⟩, hdd⟩
    · rintro ⟨hno, hseen, hdd⟩
      refine ⟨seen_other hg h hs hseen fun hm => ?_, hdd⟩
      obtain ⟨x, hx, he⟩ := List.mem_map.1 hm
      exact hno x hx he
end

/-! ### two snapshots -/
theorem newer_of {l : List Ver} {x from_ to_ : Int} (h : x ∈ changed l from_ to_) : newer l x from_ = true := by
  obtain ⟨v, hv, hr, h1, _⟩ := ((changed_spec l from_ to_).2 x).1 h
  unfold newer
  rw [List.any_eq_true]
  exact ⟨v, hv, by simp [hr, h1]⟩
theorem seen_same {l : List Ver} {row from_ to_ : Int} (hle : from_ ≤ to_) (h : row ∉ changed l from_ to_) (v : Ver) : IsSeen l row from_ v ↔ IsSeen l row to_ v := by
  have hno : ∀ u ∈ l, u.row = row → u.stamp ≤ to_ → u.stamp ≤ from_ := fun u hu hr hs => Int.not_lt.1 fun hlt => h (((changed_spec l from_ to_).2 row).2 ⟨u, hu, hr, hlt, hs⟩)
  constructor
  · rintro ⟨h1, h2, h3, h4⟩
    exact ⟨h1, h2, by omega, fun u hu hr hs => h4 u hu hr (hno u hu hr hs)⟩
  · rintro ⟨h1, h2, h3, h4⟩
    exact ⟨h1, h2, hno v h1 h2 h3, fun u hu hr hs => h4 u hu hr (by omega)⟩
theorem vis_same {l : List Ver} (hg : goodL l) {row from_ to_ : Int} (hle : from_ ≤ to_) (h : row ∉ changed l from_ to_) : vis l row from_ = vis l row to_ := by
  rcases seen_or l row from_ with hn | ⟨v, hv⟩
  · rcases seen_or l row to_ with hn2 | ⟨v, hv⟩
    · rw [vis_none (good_stamp hg) hn, vis_none (good_stamp hg) hn2]
    · exact (seen_not ((seen_same hle h v).2 hv) hn).elim
  · rw [vis_some (good_stamp hg) hg.2 hv, vis_some (good_stamp hg) hg.2 ((seen_same hle h v).1 hv)]
theorem rows_same {l : List Ver} (hg : goodL l) {from_ to_ : Int} (hle : from_ ≤ to_) (h : changed l from_ to_ = []) : snapRows l from_ = snapRows l to_ := by
  rw [snapRows_filter hg.2, snapRows_filter hg.2]
  refine List.filter_congr fun v hv => ?_
  have hv := (ordered_perm l).mem_iff.1 hv
  rw [rowP, rowP]
  congr 1
  rw [Bool.eq_iff_iff, isS_iff hv, isS_iff hv]
  exact seen_same hle (by rw [h]; simp) v
end Go.Proofs.Try
