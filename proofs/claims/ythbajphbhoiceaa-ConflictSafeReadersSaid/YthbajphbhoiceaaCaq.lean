/-
  A part of the proof: see the text of the law.
-/
import Derived.Test.YthbajphbhoiceaaCao
set_option linter.unusedSimpArgs false
set_option linter.unusedVariables false
namespace Go.Proofs.Try
open Go.Al
set_option linter.unusedVariables false
set_option linter.unusedSimpArgs false
open Classical

/-! ### maps from places to numbers -/
def mapW (kl : List Nat) (f : Nat → Nat) (bs : List Nat) (c : Nat) : AObj := .map ((natL kl).map (AV.int .i64)) ((natL (kl.map f)).map (AV.int .i64)) bs c
theorem mapW_eq (kl : List Nat) (f : Nat → Nat) (bs : List Nat) (c : Nat) : mapW kl f bs c = .map ((natL kl).map (AV.int .i64)) ((natL (kl.map f)).map (AV.int .i64)) bs c := rfl
def WfM (kl bs : List Nat) (c : Nat) : Prop := kl.Nodup ∧ bs.length = kl.length ∧ (∀ b ∈ bs, b < c) ∧ bs.Nodup
def upd (f : Nat → Nat) (x v : Nat) : Nat → Nat := fun k => if k = x then v else f k
theorem mem_natL {l : List Nat} {x : Nat} : (x : Int) ∈ natL l ↔ x ∈ l := by
  simp only [natL, List.mem_map]
  exact ⟨fun ⟨a, h1, h2⟩ => by rwa [Int.ofNat.inj h2] at h1, fun h => ⟨x, h, rfl⟩⟩
theorem natL_getD {l : List Nat} {j : Nat} (h : j < l.length) : (natL l).getD j 0 = (l.getD j 0 : Nat) := by
  simp [natL, h]
theorem natL_length {l : List Nat} : (natL l).length = l.length := by simp [natL]
theorem find_w {kl : List Nat} {x : Nat} (hx : x ∈ kl) : ∃ j, j < kl.length ∧ kl.getD j 0 = x ∧ findK (.int .i64) (.int .i64 (x : Int)) ((natL kl).map (AV.int .i64)) 0 = some (some j) := by
  obtain ⟨j, h1, h2, h3⟩ := (findK_ints (x : Int) (natL kl) 0).2 (mem_natL.2 hx)
  rw [natL_length] at h1
  rw [natL_getD h1] at h2
  exact ⟨j, h1, by omega, by simpa using h3⟩
theorem find_wn {kl : List Nat} {x : Nat} (hx : x ∉ kl) : findK (.int .i64) (.int .i64 (x : Int)) ((natL kl).map (AV.int .i64)) 0 = some none :=
  (findK_ints (x : Int) (natL kl) 0).1 fun h => hx (mem_natL.1 h)
theorem look_w {kl : List Nat} {f : Nat → Nat} {x : Nat} (hx : x ∈ kl) : Al.look (.int .i64) (.int .i64 0) ((natL kl).map (AV.int .i64)) ((natL (kl.map f)).map (AV.int .i64)) (.int .i64 (x : Int)) = some (.int .i64 (f x : Nat), true) := by
  obtain ⟨j, h1, h2, h3⟩ := find_w hx
  have : ((natL (kl.map f)).map (AV.int .i64))[j]? = some (.int .i64 (f x : Nat)) := by
    rw [getD_get h1] at h2
    simp [natL, h1, h2]
  simp [Al.look, keyIs, h3, this]
theorem put_old {kl : List Nat} {f : Nat → Nat} {bs : List Nat} {c x v : Nat} (hn : kl.Nodup) (hx : x ∈ kl) : putK (.int .i64) ((natL kl).map (AV.int .i64)) ((natL (kl.map f)).map (AV.int .i64)) bs c (.int .i64 (x : Int)) (.int .i64 (v : Int)) = some (mapW kl (upd f x v) bs c) := by
  obtain ⟨j, h1, h2, h3⟩ := find_w hx
  simp only [putK, keyIs, beq_self_eq_true, if_true, h3, mapW, Option.some.injEq, AObj.map.injEq, true_and, and_true]
  apply List.ext_getElem
  · simp [natL]
  · intro k k1 k2
    rw [List.getElem_set]
    have hk : k < kl.length := by simpa [natL] using k2
    rw [getD_get h1] at h2
    split
    · rename_i e; subst e
      simp [natL, upd, h2]
    · rename_i e
      have : kl[k] ≠ x := by
        intro e2
        rw [← h2] at e2
        exact e ((List.getElem_inj hn).1 e2).symm
      simp [natL, upd, this]
theorem put_new {kl : List Nat} {f : Nat → Nat} {bs : List Nat} {c x v : Nat} (hx : x ∉ kl) : putK (.int .i64) ((natL kl).map (AV.int .i64)) ((natL (kl.map f)).map (AV.int .i64)) bs c (.int .i64 (x : Int)) (.int .i64 (v : Int)) = some (mapW (kl ++ [x]) (upd f x v) (bs ++ [c]) (c + 1)) := by
  simp only [putK, keyIs, beq_self_eq_true, if_true, find_wn hx, mapW, Option.some.injEq, AObj.map.injEq, and_true]
  refine ⟨by simp [natL], ?_⟩
  have : kl.map (upd f x v) = kl.map f := List.map_congr_left fun k hk => by
    have : k ≠ x := fun e => hx (e ▸ hk)
    simp [upd, this]
  simp [natL, upd, this]
theorem WfM.snoc {kl bs : List Nat} {c x : Nat} (h : WfM kl bs c) (hx : x ∉ kl) : WfM (kl ++ [x]) (bs ++ [c]) (c + 1) := by
  obtain ⟨h1, h2, h3, h4⟩ := h
  refine ⟨?_, by simp [h2], ?_, ?_⟩
  · rw [List.nodup_append]
    exact ⟨h1, by simp, fun a ha b hb => by simp at hb; subst hb; exact fun e => hx (e ▸ ha)⟩
  · intro b hb
    rcases List.mem_append.1 hb with hb | hb
    · have := h3 b hb; omega
    · simp at hb; omega
  · rw [List.nodup_append]
    exact ⟨h4, by simp, fun a ha b hb => by simp at hb; subst hb; have := h3 a ha; omega⟩
theorem map_erase {α β : Type} (f : α → β) : ∀ (l : List α) (j : Nat), (l.map f).eraseIdx j = (l.eraseIdx j).map f
  | [], j => by simp
  | x :: l, 0 => by simp
  | x :: l, j + 1 => by simp [map_erase f l j]
theorem del_w {kl : List Nat} {f : Nat → Nat} {bs : List Nat} {c x : Nat} (hw : WfM kl bs c) (hx : x ∈ kl) : ∃ kl' bs', delK (.int .i64) ((natL kl).map (AV.int .i64)) ((natL (kl.map f)).map (AV.int .i64)) bs c (.int .i64 (x : Int)) = some (mapW kl' f bs' c) ∧ WfM kl' bs' c ∧ (∀ k, k ∈ kl' ↔ (k ∈ kl ∧ k ≠ x)) ∧ kl'.length + 1 = kl.length := by
  obtain ⟨j, h1, h2, h3⟩ := find_w hx
  obtain ⟨w1, w2, w3, w4⟩ := hw
  rw [getD_get h1] at h2
  refine ⟨kl.eraseIdx j, bs.eraseIdx j, ?_, ⟨w1.sublist (List.eraseIdx_sublist _ _), ?_, fun b hb => w3 b (List.mem_of_mem_eraseIdx hb), w4.sublist (List.eraseIdx_sublist _ _)⟩, fun k => ?_, ?_⟩
  · simp only [delK, keyIs, beq_self_eq_true, if_true, h3, mapW]
    simp only [natL, map_erase]
  · rw [List.length_eraseIdx_of_lt (by omega), List.length_eraseIdx_of_lt h1, w2]
  · rw [List.mem_eraseIdx_iff_getElem]
    constructor
    · rintro ⟨i, hi, hij, rfl⟩
      refine ⟨List.getElem_mem hi, fun e => hij ?_⟩
      rw [← h2] at e
      exact (List.getElem_inj w1).1 e
    · rintro ⟨hk, hne⟩
      obtain ⟨i, hi, rfl⟩ := List.getElem_of_mem hk
      exact ⟨i, hi, fun e => hne (by subst e; exact h2), rfl⟩
  · rw [List.length_eraseIdx_of_lt h1]; omega

/-! ### how many edges are left -/
noncomputable def cnt (h : List Acc) (out : List Nat) (k m : Nat) : Nat := ((List.range m).filter fun i => decide (Edge h i k ∧ i ∉ out)).length
theorem cnt_le {h : List Acc} {out : List Nat} {k m : Nat} : cnt h out k m ≤ m := Nat.le_trans (List.length_filter_le _ _) (by simp)
theorem cnt_zero {h : List Acc} {out : List Nat} {k m : Nat} : cnt h out k m = 0 ↔ ∀ i, i < m → Edge h i k → i ∈ out := by
  simp only [cnt, List.length_eq_zero_iff, List.filter_eq_nil_iff, List.mem_range, decide_eq_true_eq, not_and, Decidable.not_not]
theorem cnt_succ {h : List Acc} {out : List Nat} {k m : Nat} : cnt h out k (m + 1) = cnt h out k m + if Edge h m k ∧ m ∉ out then 1 else 0 := by
  unfold cnt
  rw [List.range_succ, List.filter_append, List.length_append]
  congr 1
  by_cases e : Edge h m k ∧ m ∉ out <;> simp [List.filter_cons, e]
theorem cnt_snoc {h : List Acc} {out : List Nat} {k x : Nat} (hx : x ∉ out) : ∀ m, cnt h (out ++ [x]) k m + (if x < m ∧ Edge h x k then 1 else 0) = cnt h out k m
  | 0 => by simp [cnt]
  | m + 1 => by
    have ih := cnt_snoc (h := h) (k := k) hx m
    rw [cnt_succ, cnt_succ]
    by_cases e : m = x
    · subst e
      simp only [List.mem_append, List.mem_singleton, or_true, not_true_eq_false, and_false, if_false, Nat.lt_irrefl, false_and] at ih ⊢
      simp only [Nat.lt_succ_self, true_and, hx, not_false_eq_true, and_true]
      omega
    · have e1 : (x < m + 1) = (x < m) := by apply propext; omega
      have e2 : m ∉ out ++ [x] ↔ m ∉ out := by simp [e]
      simp only [e1, e2]
      omega

theorem nat_wrap {n : Nat} (h : n ≤ 1000000) : IntKind.i64.wrap (n : Int) = n := wrap_i64 (by omega) (by omega)
theorem ebit_ne (h : List Acc) (i j : Nat) : (ebit h i j = 0) = ¬ Edge h i j := by
  rw [edge_iff]
  apply propext
  rcases ebit_cases h i j with ⟨h1, h2, h3⟩ | ⟨h1, h2, h3⟩ | ⟨h1, h2, h3⟩ | ⟨h1, h2, h3⟩ <;> rw [h3] <;> simp [h1, h2]
theorem pa_natL {H : List AObj} {l : List Nat} {bor : Bool} {n : Nat} {xs : List Nat} : ((natL xs).map (AV.int .i64)).map (pa H l bor n) = (natL xs).map (AV.int .i64) := pa_ints

/-! ### going through a map -/
def SeenK (kl bs seen : List Nat) (k : Nat) : Prop := ∃ (i b : Nat), bs[i]? = some b ∧ b ∈ seen ∧ kl[i]? = some k
def SeenOk (bs seen : List Nat) : Prop := (∀ b ∈ seen, b ∈ bs) ∧ seen.Nodup
theorem SeenOk.nil {bs : List Nat} : SeenOk bs [] := ⟨by simp, by simp⟩
theorem SeenOk.snoc {bs seen : List Nat} {i b : Nat} (h : SeenOk bs seen) (hb : bs[i]? = some b) (hn : b ∉ seen) : SeenOk bs (seen ++ [b]) ∧ seen.length + 1 ≤ bs.length := by
  have h1 : SeenOk bs (seen ++ [b]) := by
    refine ⟨fun x hx => ?_, ?_⟩
    · rcases List.mem_append.1 hx with hx | hx
      · exact h.1 x hx
      · simp at hx; subst hx; exact List.mem_of_getElem? hb
    · rw [List.nodup_append]
      exact ⟨h.2, by simp, fun a ha b' hb' => by simp at hb'; subst hb'; exact fun e => hn (e ▸ ha)⟩
  refine ⟨h1, ?_⟩
  have := nodup_length_le h1.2 h1.1
  simpa using this
theorem SeenK.nil {kl bs : List Nat} {k : Nat} : ¬ SeenK kl bs [] k := fun ⟨_, _, _, h, _⟩ => by simp at h
theorem seenK_snoc {kl bs seen : List Nat} {i b k k' : Nat} (hn : bs.Nodup) (hb : bs[i]? = some b) (hk : kl[i]? = some k) : SeenK kl bs (seen ++ [b]) k' ↔ (SeenK kl bs seen k' ∨ k' = k) := by
  constructor
  · rintro ⟨i', b', h1, h2, h3⟩
    rcases List.mem_append.1 h2 with h2 | h2
    · exact .inl ⟨i', b', h1, h2, h3⟩
    · simp at h2
      subst h2
      obtain ⟨l1, e1⟩ := List.getElem?_eq_some_iff.1 h1
      obtain ⟨l2, e2⟩ := List.getElem?_eq_some_iff.1 hb
      have : i' = i := (List.getElem_inj hn).1 (e1.trans e2.symm)
      subst this
      rw [hk] at h3
      exact .inr (Option.some.inj h3).symm
  · rintro (⟨i', b', h1, h2, h3⟩ | rfl)
    · exact ⟨i', b', h1, by simp [h2], h3⟩
    · exact ⟨i, b, hb, by simp, hk⟩
theorem seenK_not {kl bs seen : List Nat} {i b k : Nat} (hn : kl.Nodup) (hb : bs[i]? = some b) (hk : kl[i]? = some k) (hs : b ∉ seen) : ¬ SeenK kl bs seen k := by
  rintro ⟨i', b', h1, h2, h3⟩
  obtain ⟨l1, e1⟩ := List.getElem?_eq_some_iff.1 h3
  obtain ⟨l2, e2⟩ := List.getElem?_eq_some_iff.1 hk
  have : i' = i := (List.getElem_inj hn).1 (e1.trans e2.symm)
  subst this
  rw [hb] at h1
  cases h1
  exact hs h2
theorem seenK_all {kl bs seen : List Nat} {k : Nat} (hl : bs.length = kl.length) (h : ∀ b ∈ bs, b ∈ seen) : SeenK kl bs seen k ↔ k ∈ kl := by
  constructor
  · rintro ⟨i, b, _, _, h3⟩
    exact List.mem_of_getElem? h3
  · intro hk
    obtain ⟨i, hi, rfl⟩ := List.getElem_of_mem hk
    exact ⟨i, bs[i]'(by omega), by simp, h _ (List.getElem_mem _), by simp [hi]⟩
theorem seenK_mem {kl bs seen : List Nat} {k : Nat} (h : SeenK kl bs seen k) : k ∈ kl := by
  obtain ⟨_, _, _, _, h⟩ := h
  exact List.mem_of_getElem? h
theorem natL_get {l : List Nat} {i : Nat} {x : AV} (h : ((natL l).map (AV.int .i64))[i]? = some x) : ∃ k, l[i]? = some k ∧ x = .int .i64 (k : Int) := by
  simp only [natL, List.map_map, List.getElem?_map, Option.map_eq_some_iff, Function.comp] at h
  obtain ⟨k, h1, h2⟩ := h
  exact ⟨k, h1, h2.symm⟩
theorem po_mit {H : List AObj} {l : List Nat} {bor : Bool} {n id b d : Nat} {c : List Nat} : po H l bor n (.mit (some id) b c d) = match pos l id 0 with | some j => .mit (some j) b c d | none => .lost := rfl
theorem pa_itr {H : List AObj} {l : List Nat} {bor : Bool} {n id : Nat} : pa H l bor (n + 1) (.itr id) = match pos l id 0 with | some j => .itr j | none => .junk := rfl

/-- The least of those that were seen and wait for none. -/
def MinZ (kl bs : List Nat) (f : Nat → Nat) (seen : List Nat) : Option Nat → Prop
  | none => ∀ k, SeenK kl bs seen k → f k ≠ 0
  | some m => SeenK kl bs seen m ∧ f m = 0 ∧ ∀ k, SeenK kl bs seen k → f k = 0 → m ≤ k

set_option maxHeartbeats 8000000
theorem c57 (h : List Acc) (hck : checkS h = 0) : ACalls E.P 57 [graphA h] [] (fun r H => (∃ t, SerialS h t ∧ r = serA t) ∧ H = []) := by
  have hmax := maxLen_eq
  have hn := checkS_len hck
  refine ok57.acalls hE hm (by simp) ?_
  unfold mc57
  simp only [graphA]
  repeat' (first
    | (with_reducible first | apply cond_d | apply cond_nd | apply cond_i | apply guard_d | apply guard_nd | apply guard_df | apply guard_ndf | apply guard_i | apply ag_d | apply ag_nd | apply ag_df | apply ag_ndf | apply ag_i) <;> intro _
    | with_reducible first | refine LenR_i fun _ => ?_ | refine And.intro (by omega) ?_ | refine and_assoc.2 ?_ | apply sp_cond | apply sp_guard | apply sp_ag | apply sp_call | apply sp_acall | apply sp_loop | apply sp_any | apply sp_frz | apply sp_len | apply sp_idx | apply sp_keep | apply sp_back
    | with_reducible refine frz0_i ?_
    | simp (maxSteps := 1000000) (disch := omega) only [lAL, lDF, tupA, eqA, isNil, slcNil, ptrCells, ptrAdd, cellsO, intA, boolA, readsV, readsP, isCall, wrote, srcOf, isNilSlice, Value.oneCell', seval, implies_true, forall_eq, ne_eq, wrap_i64, LenR_ok, List.length_map, IdxR_ints])
  refine loop_i (X := Nat × (Nat → Nat) × List Nat × Nat) (fun x => x.1 ≤ h.length ∧ WfM ((List.range x.1).filter fun j => (at' h j).done) x.2.2.1 x.2.2.2 ∧ ∀ k ∈ (List.range x.1).filter (fun j => (at' h j).done), x.2.1 k = cnt h [] k h.length)
    (fun x => ⟨[(0, graphA h), (4, .mp 0), (17, .view 6 (h.map accA)), (18, .int .i64 h.length), (19, .int .i64 x.1)], [mapW ((List.range x.1).filter fun j => (at' h j).done) x.2.1 x.2.2.1 x.2.2.2]⟩) (fun x => h.length - x.1) (0, fun _ => 0, [], 0) ⟨by simp, by simp [WfM], by simp⟩ (Ent.to [0] false (by simp) (by simp) rfl (by simp only [lPA, lPD, novO, setAll, seval, implies_true, graphA, mapW, natL] <;> (try simp) <;> (try omega)) (by simp only [lPA, lPD, novO, setAll, seval, implies_true, graphA, mapW, natL] <;> (try simp) <;> (try omega))) ?_
  rintro ⟨j, f, bs, c⟩ ⟨hj, hw, hf⟩
  simp only at hj hw hf
  by_cases hjn : j < h.length
  · have e1 : ∀ {m N d k}, IdxR E.P m N (h.map accA) (j : Int) d k = rK E.P m N k d (.vp (accC (at' h j))) := IdxR_at hjn
    simp only [graphA, mapW]
    repeat' (first
      | (with_reducible first | apply cond_d | apply cond_nd | apply cond_i | apply guard_d | apply guard_nd | apply guard_df | apply guard_ndf | apply guard_i | apply ag_d | apply ag_nd | apply ag_df | apply ag_ndf | apply ag_i) <;> intro _
      | with_reducible first | refine LenR_i fun _ => ?_ | refine And.intro (by omega) ?_ | refine and_assoc.2 ?_ | apply sp_cond | apply sp_guard | apply sp_ag | apply sp_call | apply sp_acall | apply sp_loop | apply sp_any | apply sp_frz | apply sp_len | apply sp_idx | apply sp_keep | apply sp_back
      | with_reducible refine frz0_i ?_
      | simp (maxSteps := 1000000) (disch := omega) only [lAL, lDF, tupA, eqA, isNil, slcNil, ptrCells, ptrAdd, cellsO, intA, boolA, readsV, readsP, isCall, wrote, srcOf, isNilSlice, Value.oneCell', seval, implies_true, forall_eq, ne_eq, wrap_i64, LenR_ok, List.length_map, IdxR_ints, e1, accC])
    all_goals try (exfalso; omega)
    · rename_i h1 h2
      have hd : (at' h j).done = false := by simpa using h2
      have hr : (List.range (j + 1)).filter (fun j => (at' h j).done) = (List.range j).filter fun j => (at' h j).done := by rw [List.range_succ, List.filter_append]; simp only [List.filter_cons, hd, List.filter_nil]; simp
      refine back_i (j + 1, f, bs, c) ⟨by simp only; omega, by simpa only [hr] using hw, by simpa only [hr] using hf⟩ (by simp only; omega) (Ent.to [0] false (by simp) (by simp) rfl (by simp only [lPA, lPD, novO, setAll, seval, implies_true, graphA, mapW, pa_natL, hr] <;> (try simp) <;> (try omega)) (by simp only [lPA, lPD, novO, setAll, seval, implies_true, graphA, mapW, pa_natL, hr] <;> (try simp) <;> (try omega)))
    · rename_i h1 h2
      have hd : (at' h j).done = true := by simpa using h2
      have hr : (List.range (j + 1)).filter (fun j => (at' h j).done) = ((List.range j).filter fun j => (at' h j).done) ++ [j] := by rw [List.range_succ, List.filter_append]; simp only [List.filter_cons, hd, List.filter_nil]; simp
      have hnj : j ∉ (List.range j).filter (fun j => (at' h j).done) := by simp
      have hnj' : j ∈ ((List.range j).filter (fun j => (at' h j).done)) ++ [j] := by simp
      have hw' := hw.snoc hnj
      generalize (List.range j).filter (fun j => (at' h j).done) = kl at *
      have pn : putK (.int .i64) ((natL kl).map (AV.int .i64)) ((natL (kl.map f)).map (AV.int .i64)) bs c (.int .i64 (j : Int)) (.int .i64 0) = some (mapW (kl ++ [j]) (upd f j 0) (bs ++ [c]) (c + 1)) := put_new (v := 0) hnj
      repeat' (first
        | (with_reducible first | apply cond_d | apply cond_nd | apply cond_i | apply guard_d | apply guard_nd | apply guard_df | apply guard_ndf | apply guard_i | apply ag_d | apply ag_nd | apply ag_df | apply ag_ndf | apply ag_i) <;> intro _
        | with_reducible first | refine LenR_i fun _ => ?_ | refine And.intro (by omega) ?_ | refine and_assoc.2 ?_ | apply sp_cond | apply sp_guard | apply sp_ag | apply sp_call | apply sp_acall | apply sp_loop | apply sp_any | apply sp_frz | apply sp_len | apply sp_idx | apply sp_keep | apply sp_back
        | with_reducible refine frz0_i ?_
        | simp (maxSteps := 1000000) (disch := omega) only [lAL, lDF, tupA, eqA, isNil, slcNil, ptrCells, ptrAdd, cellsO, intA, boolA, readsV, readsP, isCall, wrote, srcOf, isNilSlice, Value.oneCell', seval, implies_true, forall_eq, ne_eq, wrap_i64, LenR_ok, List.length_map, IdxR_ints, pn, mapW_eq])
      refine loop_i (X := Nat × (Nat → Nat)) (fun x => x.1 ≤ h.length ∧ x.2 j = cnt h [] j x.1 ∧ ∀ k ∈ kl, x.2 k = f k)
        (fun x => ⟨[(0, graphA h), (4, .mp 0), (5, .int .i64 j), (17, .view 6 (h.map accA)), (18, .int .i64 h.length), (19, .int .i64 j), (33, .int .i64 h.length), (34, .int .i64 x.1)], [mapW (kl ++ [j]) x.2 (bs ++ [c]) (c + 1)]⟩) (fun x => h.length - x.1) (0, upd f j 0)
        ⟨by simp, by simp [upd, cnt], fun k hk => by have : k ≠ j := fun e => hnj (e ▸ hk)
                                                     simp [upd, this]⟩ (Ent.to [0] false (by simp) (by simp) rfl (by simp only [lPA, lPD, novO, setAll, seval, implies_true, graphA, mapW, pa_natL] <;> (try simp) <;> (try omega)) (by simp only [lPA, lPD, novO, setAll, seval, implies_true, graphA, mapW, pa_natL] <;> (try simp) <;> (try omega))) ?_
      rintro ⟨i, f1⟩ ⟨hi, hf1, hf2⟩
      simp only at hi hf1 hf2
      by_cases hin : i < h.length
      · have er : ∀ {m N d k}, IdxR E.P m N ((List.range h.length).map (rowA h)) (i : Int) d k = rK E.P m N k d (.vp [rowA h i]) := IdxR_rows hin
        have eg : ∀ {m N d k}, IdxR E.P m N ((erow h i).map (AV.int .i64)) (j : Int) d k = rK E.P m N k d (.vp [.int .i64 (ebit h i j)]) := IdxR_erow hjn
        have lk := look_w (f := f1) hnj'
        have hle := cnt_le (h := h) (out := []) (k := j) (m := i)
        have pt : putK (.int .i64) ((natL (kl ++ [j])).map (AV.int .i64)) ((natL ((kl ++ [j]).map f1)).map (AV.int .i64)) (bs ++ [c]) (c + 1) (.int .i64 (j : Int)) (.int .i64 ((f1 j : Int) + 1)) = some (mapW (kl ++ [j]) (upd f1 j (f1 j + 1)) (bs ++ [c]) (c + 1)) := put_old hw'.1 hnj'
        have wr : IntKind.i64.wrap ((f1 j : Int) + 1) = (f1 j : Int) + 1 := wrap_i64 (by omega) (by omega)
        simp only [graphA, mapW]
        repeat' (first
          | (with_reducible first | apply cond_d | apply cond_nd | apply cond_i | apply guard_d | apply guard_nd | apply guard_df | apply guard_ndf | apply guard_i | apply ag_d | apply ag_nd | apply ag_df | apply ag_ndf | apply ag_i) <;> intro _
          | with_reducible first | refine LenR_i fun _ => ?_ | refine And.intro (by omega) ?_ | refine and_assoc.2 ?_ | apply sp_cond | apply sp_guard | apply sp_ag | apply sp_call | apply sp_acall | apply sp_loop | apply sp_any | apply sp_frz | apply sp_len | apply sp_idx | apply sp_keep | apply sp_back
          | with_reducible refine frz0_i ?_
          | simp (maxSteps := 1000000) (disch := omega) only [lAL, lDF, tupA, eqA, isNil, slcNil, ptrCells, ptrAdd, cellsO, intA, boolA, readsV, readsP, isCall, wrote, srcOf, isNilSlice, Value.oneCell', seval, implies_true, forall_eq, ne_eq, wrap_i64, LenR_ok, List.length_map, IdxR_ints, er, eg, rowA, ebit_ne, lk, pt, wr, mapW_eq])
        all_goals try (exfalso; omega)
        · rename_i h3 h4
          simp only [Decidable.not_not] at h4
          refine back_i (i + 1, upd f1 j (f1 j + 1)) ⟨by simp only; omega, ?_, fun k hk => ?_⟩ (by simp only; omega) (Ent.to [0] false (by simp) (by simp) rfl (by simp only [lPA, lPD, novO, setAll, seval, implies_true, graphA, mapW, pa_natL] <;> (try simp) <;> (try omega)) (by simp only [lPA, lPD, novO, setAll, seval, implies_true, graphA, mapW, pa_natL] <;> (try simp) <;> (try omega)))
          · simp only [upd, if_true]; rw [cnt_succ, hf1]; simp [h4]
          · have : k ≠ j := fun e => hnj (e ▸ hk)
            simp only [upd, this, if_false]; exact hf2 k hk
        · rename_i h3 h4
          refine back_i (i + 1, f1) ⟨by simp only; omega, ?_, hf2⟩ (by simp only; omega) (Ent.to [0] false (by simp) (by simp) rfl (by simp only [lPA, lPD, novO, setAll, seval, implies_true, graphA, mapW, pa_natL] <;> (try simp) <;> (try omega)) (by simp only [lPA, lPD, novO, setAll, seval, implies_true, graphA, mapW, pa_natL] <;> (try simp) <;> (try omega)))
          simp only; rw [cnt_succ, hf1]; simp [h4]
      · have : i = h.length := by omega
        subst this
        simp only [graphA, mapW]
        repeat' (first
          | (with_reducible first | apply cond_d | apply cond_nd | apply cond_i | apply guard_d | apply guard_nd | apply guard_df | apply guard_ndf | apply guard_i | apply ag_d | apply ag_nd | apply ag_df | apply ag_ndf | apply ag_i) <;> intro _
          | with_reducible first | refine LenR_i fun _ => ?_ | refine And.intro (by omega) ?_ | refine and_assoc.2 ?_ | apply sp_cond | apply sp_guard | apply sp_ag | apply sp_call | apply sp_acall | apply sp_loop | apply sp_any | apply sp_frz | apply sp_len | apply sp_idx | apply sp_keep | apply sp_back
          | with_reducible refine frz0_i ?_
          | simp (maxSteps := 1000000) (disch := omega) only [lAL, lDF, tupA, eqA, isNil, slcNil, ptrCells, ptrAdd, cellsO, intA, boolA, readsV, readsP, isCall, wrote, srcOf, isNilSlice, Value.oneCell', seval, implies_true, forall_eq, ne_eq, wrap_i64, LenR_ok, List.length_map, IdxR_ints])
        all_goals try (exfalso; omega)
        refine back_i (j + 1, f1, bs ++ [c], c + 1) ⟨by simp only; omega, by simpa only [hr] using hw', ?_⟩ (by simp only; omega) (Ent.to [0] false (by simp) (by simp) rfl (by simp only [lPA, lPD, novO, setAll, seval, implies_true, graphA, mapW, pa_natL, hr] <;> (try simp) <;> (try omega)) (by simp only [lPA, lPD, novO, setAll, seval, implies_true, graphA, mapW, pa_natL, hr] <;> (try simp) <;> (try omega)))
        simp only [hr]
        intro k hk
        rcases List.mem_append.1 hk with hk | hk
        · rw [hf2 k hk]; exact hf k hk
        · simp at hk; subst hk; exact hf1
  · have : j = h.length := by omega
    subst this
    have hkl : ∀ k, k ∈ (List.range h.length).filter (fun j => (at' h j).done) ↔ (k < h.length ∧ (at' h k).done = true ∧ k ∉ ([] : List Nat)) := by intro k; simp
    generalize (List.range h.length).filter (fun j => (at' h j).done) = kl at *
    simp only [graphA, mapW]
    repeat' (first
      | (with_reducible first | apply cond_d | apply cond_nd | apply cond_i | apply guard_d | apply guard_nd | apply guard_df | apply guard_ndf | apply guard_i | apply ag_d | apply ag_nd | apply ag_df | apply ag_ndf | apply ag_i) <;> intro _
      | with_reducible first | refine LenR_i fun _ => ?_ | refine And.intro (by omega) ?_ | refine and_assoc.2 ?_ | apply sp_cond | apply sp_guard | apply sp_ag | apply sp_call | apply sp_acall | apply sp_loop | apply sp_any | apply sp_frz | apply sp_len | apply sp_idx | apply sp_keep | apply sp_back
      | with_reducible refine frz0_i ?_
      | simp (maxSteps := 1000000) (disch := omega) only [lAL, lDF, tupA, eqA, isNil, slcNil, ptrCells, ptrAdd, cellsO, intA, boolA, readsV, readsP, isCall, wrote, srcOf, isNilSlice, Value.oneCell', seval, implies_true, forall_eq, ne_eq, wrap_i64, LenR_ok, List.length_map, IdxR_ints])
    all_goals try (exfalso; omega)
    refine loop_i (X := List Nat × List Nat × (Nat → Nat) × List Nat × Nat) (fun x => Seq h x.1 ∧ WfM x.2.1 x.2.2.2.1 x.2.2.2.2 ∧ (∀ k, k ∈ x.2.1 ↔ (k < h.length ∧ (at' h k).done = true ∧ k ∉ x.1)) ∧ ∀ k ∈ x.2.1, x.2.2.1 k = cnt h x.1 k h.length)
      (fun x => ⟨[(0, graphA h), (4, .mp 0), (8, .slc 1 1 x.1.length)], [mapW x.2.1 x.2.2.1 x.2.2.2.1 x.2.2.2.2, .arr 3 1 ((natL x.1).map (AV.int .i64))]⟩) (fun x => x.2.1.length) ([], kl, f, bs, c) ⟨Seq.nil, hw, hkl, hf⟩
      (Ent.ghost' 8 3 1 (by omega) rfl (Ent.to [0,1] false (by simp) (by simp) rfl (by simp only [lPA, lPD, novO, setAll, seval, implies_true, graphA, mapW, pa_natL, natL] <;> (try simp) <;> (try omega)) (by simp only [lPA, lPD, novO, setAll, seval, implies_true, graphA, mapW, pa_natL, natL] <;> (try simp) <;> (try omega)))) ?_
    rintro ⟨out, kl, f, bs, c⟩ ⟨hs, hw, hkl, hf⟩
    simp only at hs hw hkl hf
    have hle := hs.le
    have hdl := doneL_len h
    simp only [graphA, mapW]
    repeat' (first
      | (with_reducible first | apply cond_d | apply cond_nd | apply cond_i | apply guard_d | apply guard_nd | apply guard_df | apply guard_ndf | apply guard_i | apply ag_d | apply ag_nd | apply ag_df | apply ag_ndf | apply ag_i) <;> intro _
      | with_reducible first | refine LenR_i fun _ => ?_ | refine And.intro (by omega) ?_ | refine and_assoc.2 ?_ | apply sp_cond | apply sp_guard | apply sp_ag | apply sp_call | apply sp_acall | apply sp_loop | apply sp_any | apply sp_frz | apply sp_len | apply sp_idx | apply sp_keep | apply sp_back
      | with_reducible refine frz0_i ?_
      | simp (maxSteps := 1000000) (disch := omega) only [lAL, lDF, tupA, eqA, isNil, slcNil, ptrCells, ptrAdd, cellsO, intA, boolA, readsV, readsP, isCall, wrote, srcOf, isNilSlice, Value.oneCell', seval, implies_true, forall_eq, ne_eq, wrap_i64, LenR_ok, List.length_map, IdxR_ints, natL_length])
    · rename_i h1
      refine loop_i (X := List Nat × Option Nat) (fun x => SeenOk bs x.1 ∧ MinZ kl bs f x.1 x.2)
        (fun x => ⟨[(0, graphA h), (4, .mp 0), (8, .slc 1 1 out.length), (9, .int .i64 (nextV x.2)), (58, .itr 2)], [mapW kl f bs c, .arr 3 1 ((natL out).map (AV.int .i64)), .mit (some 0) c x.1 c]⟩) (fun x => bs.length - x.1.length) ([], none) ⟨.nil, fun k hk => (SeenK.nil hk).elim⟩
        (Ent.to [0,1,2] false (by simp) (by simp) rfl (by simp only [lPA, lPD, novO, setAll, seval, implies_true, graphA, mapW, pa_natL, po_mit, pa_itr, nextV] <;> (try simp) <;> (try omega)) (by simp only [lPA, lPD, novO, setAll, seval, implies_true, graphA, mapW, pa_natL, po_mit, pa_itr, nextV] <;> (try simp) <;> (try omega))) ?_
      rintro ⟨seen, nx⟩ ⟨hso, hmz⟩
      simp only at hso hmz
      simp only [graphA, mapW]
      repeat' (first
        | (with_reducible first | apply cond_d | apply cond_nd | apply cond_i | apply guard_d | apply guard_nd | apply guard_df | apply guard_ndf | apply guard_i | apply ag_d | apply ag_nd | apply ag_df | apply ag_ndf | apply ag_i) <;> intro _
        | with_reducible first | refine LenR_i fun _ => ?_ | refine And.intro (by omega) ?_ | refine and_assoc.2 ?_ | apply sp_cond | apply sp_guard | apply sp_ag | apply sp_call | apply sp_acall | apply sp_loop | apply sp_any | apply sp_frz | apply sp_len | apply sp_idx | apply sp_keep | apply sp_back
        | with_reducible refine frz0_i ?_
        | simp (maxSteps := 1000000) (disch := omega) only [lAL, lDF, tupA, eqA, isNil, slcNil, ptrCells, ptrAdd, cellsO, intA, boolA, readsV, readsP, isCall, wrote, srcOf, isNilSlice, Value.oneCell', seval, implies_true, forall_eq, ne_eq, wrap_i64, LenR_ok, List.length_map, IdxR_ints])
      refine nxt_i hw.2.2.1 (Nat.le_refl _) (fun hall => ?_) (fun i b kx vx hb hns hk hv => ?_)
      · simp only [lAL, lDF, tupA, eqA, isNil, slcNil, ptrCells, ptrAdd, cellsO, intA, boolA, readsV, readsP, isCall, wrote, srcOf, isNilSlice, Value.oneCell', seval, implies_true, forall_eq, ne_eq]
        have hsk : ∀ k, SeenK kl bs seen k ↔ k ∈ kl := fun k => seenK_all hw.2.1 hall
        rcases nx with _ | m
        · simp only [nextV]
          repeat' (first
            | (with_reducible first | apply cond_d | apply cond_nd | apply cond_i | apply guard_d | apply guard_nd | apply guard_df | apply guard_ndf | apply guard_i | apply ag_d | apply ag_nd | apply ag_df | apply ag_ndf | apply ag_i) <;> intro _
            | with_reducible first | refine LenR_i fun _ => ?_ | refine And.intro (by omega) ?_ | refine and_assoc.2 ?_ | apply sp_cond | apply sp_guard | apply sp_ag | apply sp_call | apply sp_acall | apply sp_loop | apply sp_any | apply sp_frz | apply sp_len | apply sp_idx | apply sp_keep | apply sp_back
            | with_reducible refine frz0_i ?_
            | simp (maxSteps := 1000000) (disch := omega) only [lAL, lDF, tupA, eqA, isNil, slcNil, ptrCells, ptrAdd, cellsO, intA, boolA, readsV, readsP, isCall, wrote, srcOf, isNilSlice, Value.oneCell', seval, implies_true, forall_eq, ne_eq, wrap_i64, LenR_ok, List.length_map, IdxR_ints])
          refine keepnt_i 1 ⟨⟨none, ⟨out, hs, ?_, ?_⟩, rfl⟩, rfl⟩
          · obtain ⟨k, hk⟩ := List.exists_mem_of_length_pos (l := kl) (by omega)
            exact ⟨k, (hkl k).1 hk⟩
          · rintro k ⟨r1, r2, r3, r4⟩
            have hk : k ∈ kl := (hkl k).2 ⟨r1, r2, r3⟩
            refine hmz k ((hsk k).2 hk) ?_
            rw [hf k hk, cnt_zero]
            exact r4
          · rename_i hd
            exact absurd hd (by decide)
        · have hm : m ∈ kl := (hsk m).1 hmz.1
          obtain ⟨m1, m2, m3⟩ := (hkl m).1 hm
          have hnext : NextS h (· ∈ out) (some m) := by
            refine ⟨⟨m1, m2, m3, ?_⟩, ?_⟩
            · have := hmz.2.1
              rw [hf m hm, cnt_zero] at this
              exact this
            · rintro k ⟨r1, r2, r3, r4⟩
              have hk : k ∈ kl := (hkl k).2 ⟨r1, r2, r3⟩
              refine hmz.2.2 k ((hsk k).2 hk) ?_
              rw [hf k hk, cnt_zero]
              exact r4
          obtain ⟨kl', bs', hd, hw', hkl', hlen'⟩ := del_w (f := f) hw hm
          simp only [nextV]
          repeat' (first
            | (with_reducible first | apply cond_d | apply cond_nd | apply cond_i | apply guard_d | apply guard_nd | apply guard_df | apply guard_ndf | apply guard_i | apply ag_d | apply ag_nd | apply ag_df | apply ag_ndf | apply ag_i) <;> intro _
            | with_reducible first | refine LenR_i fun _ => ?_ | refine And.intro (by omega) ?_ | refine and_assoc.2 ?_ | apply sp_cond | apply sp_guard | apply sp_ag | apply sp_call | apply sp_acall | apply sp_loop | apply sp_any | apply sp_frz | apply sp_len | apply sp_idx | apply sp_keep | apply sp_back
            | with_reducible refine frz0_i ?_
            | simp (maxSteps := 1000000) (disch := omega) only [lAL, lDF, tupA, eqA, isNil, slcNil, ptrCells, ptrAdd, cellsO, intA, boolA, readsV, readsP, isCall, wrote, srcOf, isNilSlice, Value.oneCell', seval, implies_true, forall_eq, ne_eq, wrap_i64, LenR_ok, List.length_map, IdxR_ints, hd, mapW_eq])
          · rename_i hneg
            exfalso
            first | omega | (have := of_decide_eq_true hneg; omega)
          refine loop_i (X := List Nat × (Nat → Nat)) (fun x => SeenOk bs' x.1 ∧ ∀ k ∈ kl', x.2 k = if SeenK kl' bs' x.1 k ∧ Edge h m k then f k - 1 else f k)
            (fun x => ⟨[(0, graphA h), (4, .mp 0), (8, .slc 1 1 out.length), (9, .int .i64 m), (81, .itr 2)], [mapW kl' x.2 bs' c, .arr 3 1 ((natL out).map (AV.int .i64)), .mit (some 0) c x.1 c]⟩) (fun x => bs'.length - x.1.length) ([], f) ⟨.nil, fun k hk => by simp [SeenK.nil]⟩
            (Ent.to [0,1,3] false (by simp) (by simp) rfl (by simp only [lPA, lPD, novO, setAll, seval, implies_true, graphA, mapW, pa_natL, po_mit, pa_itr] <;> (try simp) <;> (try omega)) (by simp only [lPA, lPD, novO, setAll, seval, implies_true, graphA, mapW, pa_natL, po_mit, pa_itr] <;> (try simp) <;> (try omega))) ?_
          rintro ⟨seen, g⟩ ⟨hso, hg⟩
          simp only at hso hg
          simp only [graphA, mapW]
          repeat' (first
            | (with_reducible first | apply cond_d | apply cond_nd | apply cond_i | apply guard_d | apply guard_nd | apply guard_df | apply guard_ndf | apply guard_i | apply ag_d | apply ag_nd | apply ag_df | apply ag_ndf | apply ag_i) <;> intro _
            | with_reducible first | refine LenR_i fun _ => ?_ | refine And.intro (by omega) ?_ | refine and_assoc.2 ?_ | apply sp_cond | apply sp_guard | apply sp_ag | apply sp_call | apply sp_acall | apply sp_loop | apply sp_any | apply sp_frz | apply sp_len | apply sp_idx | apply sp_keep | apply sp_back
            | with_reducible refine frz0_i ?_
            | simp (maxSteps := 1000000) (disch := omega) only [lAL, lDF, tupA, eqA, isNil, slcNil, ptrCells, ptrAdd, cellsO, intA, boolA, readsV, readsP, isCall, wrote, srcOf, isNilSlice, Value.oneCell', seval, implies_true, forall_eq, ne_eq, wrap_i64, LenR_ok, List.length_map, IdxR_ints])
          refine nxt_i hw'.2.2.1 (Nat.le_refl _) (fun hall => ?_) (fun i b kx vx hb hns hk hv => ?_)
          · simp only [lAL, lDF, tupA, eqA, isNil, slcNil, ptrCells, ptrAdd, cellsO, intA, boolA, readsV, readsP, isCall, wrote, srcOf, isNilSlice, Value.oneCell', seval, implies_true, forall_eq, ne_eq]
            have hsk : ∀ k, SeenK kl' bs' seen k ↔ k ∈ kl' := fun k => seenK_all hw'.2.1 hall
            repeat' (first
              | (with_reducible first | apply cond_d | apply cond_nd | apply cond_i | apply guard_d | apply guard_nd | apply guard_df | apply guard_ndf | apply guard_i | apply ag_d | apply ag_nd | apply ag_df | apply ag_ndf | apply ag_i) <;> intro _
              | with_reducible first | refine LenR_i fun _ => ?_ | refine And.intro (by omega) ?_ | refine and_assoc.2 ?_ | apply sp_cond | apply sp_guard | apply sp_ag | apply sp_call | apply sp_acall | apply sp_loop | apply sp_any | apply sp_frz | apply sp_len | apply sp_idx | apply sp_keep | apply sp_back
              | with_reducible refine frz0_i ?_
              | simp (maxSteps := 1000000) (disch := omega) only [lAL, lDF, tupA, eqA, isNil, slcNil, ptrCells, ptrAdd, cellsO, intA, boolA, readsV, readsP, isCall, wrote, srcOf, isNilSlice, Value.oneCell', seval, implies_true, forall_eq, ne_eq, wrap_i64, LenR_ok, List.length_map, IdxR_ints, natL_length])
            refine back_i (out ++ [m], kl', g, bs', c) ⟨hs.snoc hnext, hw', fun k => ?_, fun k hk => ?_⟩ (by simp only; omega) (Ent.to [0, 4] false (by simp) (by simp) rfl (by simp only [lPA, lPD, novO, setAll, seval, implies_true] <;> simp [graphA]) ?_)
            · simp only [hkl', hkl, List.mem_append, List.mem_singleton]
              grind
            · simp only at hk ⊢
              have h1 := hg k hk
              simp only [hsk, hk, true_and] at h1
              have h2 := cnt_snoc (h := h) (k := k) m3 h.length
              rw [hf k ((hkl' k).1 hk).1] at h1
              rw [h1]
              by_cases e : Edge h m k
              · simp only [e, m1, and_self, if_true] at h2 ⊢; omega
              · simp only [e, and_false, if_false] at h2 ⊢; omega
            · simp only [lPA, lPD, novO, setAll, seval, implies_true, List.map_append, pa_natL, mapW, natL]
              try simp [pa_int]
          · obtain ⟨k, hk1, rfl⟩ := natL_get hk
            obtain ⟨v, hv1, rfl⟩ := natL_get hv
            have hvf : v = g k := by
              rw [List.getElem?_map, hk1] at hv1
              exact (Option.some.inj hv1).symm
            subst hvf
            have hsn := hso.snoc hb hns
            have hse := fun k' => seenK_snoc (k' := k') (seen := seen) hw'.2.2.2 hb hk1
            simp only [lAL, lDF, tupA, eqA, isNil, slcNil, ptrCells, ptrAdd, cellsO, intA, boolA, readsV, readsP, isCall, wrote, srcOf, isNilSlice, Value.oneCell', seval, implies_true, forall_eq, ne_eq]
            refine ent_i i b rfl hb hk hv ?_
            simp only [lAL, lDF, tupA, eqA, isNil, slcNil, ptrCells, ptrAdd, cellsO, intA, boolA, readsV, readsP, isCall, wrote, srcOf, isNilSlice, Value.oneCell', seval, implies_true, forall_eq, ne_eq]
            have hkk : k ∈ kl' := List.mem_of_getElem? hk1
            obtain ⟨k1, k2, k3⟩ := (hkl k).1 ((hkl' k).1 hkk).1
            have er : ∀ {m' N d k}, IdxR E.P m' N ((List.range h.length).map (rowA h)) (m : Int) d k = rK E.P m' N k d (.vp [rowA h m]) := IdxR_rows m1
            have eg : ∀ {m' N d k'}, IdxR E.P m' N ((erow h m).map (AV.int .i64)) (k : Int) d k' = rK E.P m' N k' d (.vp [.int .i64 (ebit h m k)]) := IdxR_erow k1
            have lk := look_w (f := g) hkk
            have hgk : g k = f k := by rw [hg k hkk, if_neg fun hh => seenK_not hw'.1 hb hk1 hns hh.1]
            have hfk := hf k ((hkl' k).1 hkk).1
            have hcl := cnt_le (h := h) (out := out) (k := k) (m := h.length)
            by_cases he : Edge h m k
            · have h1 : 1 ≤ g k := by
                rw [hgk, hfk]
                refine Nat.one_le_iff_ne_zero.2 fun h0 => m3 (cnt_zero.1 h0 m m1 he)
              have wr : IntKind.i64.wrap ((g k : Int) - 1) = ((g k - 1 : Nat) : Int) := by rw [wrap_i64 (by omega) (by omega)]; omega
              have pt : putK (.int .i64) ((natL kl').map (AV.int .i64)) ((natL (kl'.map g)).map (AV.int .i64)) bs' c (.int .i64 (k : Int)) (.int .i64 ((g k - 1 : Nat) : Int)) = some (mapW kl' (upd g k (g k - 1)) bs' c) := put_old hw'.1 hkk
              repeat' (first
                | (with_reducible first | apply cond_d | apply cond_nd | apply cond_i | apply guard_d | apply guard_nd | apply guard_df | apply guard_ndf | apply guard_i | apply ag_d | apply ag_nd | apply ag_df | apply ag_ndf | apply ag_i) <;> intro _
                | with_reducible first | refine LenR_i fun _ => ?_ | refine And.intro (by omega) ?_ | refine and_assoc.2 ?_ | apply sp_cond | apply sp_guard | apply sp_ag | apply sp_call | apply sp_acall | apply sp_loop | apply sp_any | apply sp_frz | apply sp_len | apply sp_idx | apply sp_keep | apply sp_back
                | with_reducible refine frz0_i ?_
                | simp (maxSteps := 1000000) (disch := omega) only [lAL, lDF, tupA, eqA, isNil, slcNil, ptrCells, ptrAdd, cellsO, intA, boolA, readsV, readsP, isCall, wrote, srcOf, isNilSlice, Value.oneCell', seval, implies_true, forall_eq, ne_eq, wrap_i64, LenR_ok, List.length_map, IdxR_ints, er, eg, rowA, ebit_ne, lk, wr, pt, mapW_eq])
              all_goals try (exfalso; omega)
              all_goals try (exfalso; simp_all; done)
              refine back_i (seen ++ [b], upd g k (g k - 1)) ⟨hsn.1, fun k' hk' => ?_⟩ (by simp only [List.length_append, List.length_singleton]; have := hsn.2; omega) (Ent.to [0,1,2] false (by simp) (by simp) rfl (by simp only [lPA, lPD, novO, setAll, seval, implies_true, graphA, mapW, pa_natL, po_mit, pa_itr] <;> (try simp) <;> (try omega)) (by simp only [lPA, lPD, novO, setAll, seval, implies_true, graphA, mapW, pa_natL, po_mit, pa_itr] <;> (try simp) <;> (try omega)))
              simp only [upd, hse]
              by_cases e : k' = k
              · subst e; simp [he, hgk]
              · simp only [e, if_false, or_false]; exact hg k' hk'
            · repeat' (first
                | (with_reducible first | apply cond_d | apply cond_nd | apply cond_i | apply guard_d | apply guard_nd | apply guard_df | apply guard_ndf | apply guard_i | apply ag_d | apply ag_nd | apply ag_df | apply ag_ndf | apply ag_i) <;> intro _
                | with_reducible first | refine LenR_i fun _ => ?_ | refine And.intro (by omega) ?_ | refine and_assoc.2 ?_ | apply sp_cond | apply sp_guard | apply sp_ag | apply sp_call | apply sp_acall | apply sp_loop | apply sp_any | apply sp_frz | apply sp_len | apply sp_idx | apply sp_keep | apply sp_back
                | with_reducible refine frz0_i ?_
                | simp (maxSteps := 1000000) (disch := omega) only [lAL, lDF, tupA, eqA, isNil, slcNil, ptrCells, ptrAdd, cellsO, intA, boolA, readsV, readsP, isCall, wrote, srcOf, isNilSlice, Value.oneCell', seval, implies_true, forall_eq, ne_eq, wrap_i64, LenR_ok, List.length_map, IdxR_ints, er, eg, rowA, ebit_ne, lk])
              all_goals try (exfalso; omega)
              all_goals try contradiction
              refine back_i (seen ++ [b], g) ⟨hsn.1, fun k' hk' => ?_⟩ (by simp only [List.length_append, List.length_singleton]; have := hsn.2; omega) (Ent.to [0,1,2] false (by simp) (by simp) rfl (by simp only [lPA, lPD, novO, setAll, seval, implies_true, graphA, mapW, pa_natL, po_mit, pa_itr] <;> (try simp) <;> (try omega)) (by simp only [lPA, lPD, novO, setAll, seval, implies_true, graphA, mapW, pa_natL, po_mit, pa_itr] <;> (try simp) <;> (try omega)))
              simp only [hse]
              by_cases e : k' = k
              · subst e; simp [he, hgk]
              · simp only [e, or_false]; exact hg k' hk'
      · obtain ⟨k, hk1, rfl⟩ := natL_get hk
        obtain ⟨v, hv1, rfl⟩ := natL_get hv
        have hvf : v = f k := by
          rw [List.getElem?_map, hk1] at hv1
          exact (Option.some.inj hv1).symm
        subst hvf
        have hsn := hso.snoc hb hns
        have hse := fun k' => seenK_snoc (k' := k') (seen := seen) hw.2.2.2 hb hk1
        simp only [lAL, lDF, tupA, eqA, isNil, slcNil, ptrCells, ptrAdd, cellsO, intA, boolA, readsV, readsP, isCall, wrote, srcOf, isNilSlice, Value.oneCell', seval, implies_true, forall_eq, ne_eq]
        refine ent_i i b rfl hb hk hv ?_
        simp only [lAL, lDF, tupA, eqA, isNil, slcNil, ptrCells, ptrAdd, cellsO, intA, boolA, readsV, readsP, isCall, wrote, srcOf, isNilSlice, Value.oneCell', seval, implies_true, forall_eq, ne_eq]
        cases nx with
        | none =>
          simp only [nextV]
          repeat' (first
            | (with_reducible first | apply cond_d | apply cond_nd | apply cond_i | apply guard_d | apply guard_nd | apply guard_df | apply guard_ndf | apply guard_i | apply ag_d | apply ag_nd | apply ag_df | apply ag_ndf | apply ag_i) <;> intro _
            | with_reducible first | refine LenR_i fun _ => ?_ | refine And.intro (by omega) ?_ | refine and_assoc.2 ?_ | apply sp_cond | apply sp_guard | apply sp_ag | apply sp_call | apply sp_acall | apply sp_loop | apply sp_any | apply sp_frz | apply sp_len | apply sp_idx | apply sp_keep | apply sp_back
            | with_reducible refine frz0_i ?_
            | simp (maxSteps := 1000000) (disch := omega) only [lAL, lDF, tupA, eqA, isNil, slcNil, ptrCells, ptrAdd, cellsO, intA, boolA, readsV, readsP, isCall, wrote, srcOf, isNilSlice, Value.oneCell', seval, implies_true, forall_eq, ne_eq, wrap_i64, LenR_ok, List.length_map, IdxR_ints])
          all_goals first
            | (refine back_i (seen ++ [b], some k) ⟨hsn.1, (hse k).2 (.inr rfl), by omega, fun k' hk' hz => ?_⟩ (by simp only [List.length_append, List.length_singleton]; have := hsn.2; omega) (Ent.to [0,1,2] false (by simp) (by simp) rfl (by simp only [lPA, lPD, novO, setAll, seval, implies_true, graphA, mapW, pa_natL, po_mit, pa_itr, nextV] <;> (try simp) <;> (try omega)) (by simp only [lPA, lPD, novO, setAll, seval, implies_true, graphA, mapW, pa_natL, po_mit, pa_itr, nextV] <;> (try simp) <;> (try omega)))
               rcases (hse k').1 hk' with hh | rfl
               · exact absurd hz (hmz k' hh)
               · omega)
            | (refine back_i (seen ++ [b], none) ⟨hsn.1, fun k' hk' => ?_⟩ (by simp only [List.length_append, List.length_singleton]; have := hsn.2; omega) (Ent.to [0,1,2] false (by simp) (by simp) rfl (by simp only [lPA, lPD, novO, setAll, seval, implies_true, graphA, mapW, pa_natL, po_mit, pa_itr, nextV] <;> (try simp) <;> (try omega)) (by simp only [lPA, lPD, novO, setAll, seval, implies_true, graphA, mapW, pa_natL, po_mit, pa_itr, nextV] <;> (try simp) <;> (try omega)))
               rcases (hse k').1 hk' with hh | rfl
               · exact hmz k' hh
               · omega)
        | some m =>
          simp only [nextV]
          repeat' (first
            | (with_reducible first | apply cond_d | apply cond_nd | apply cond_i | apply guard_d | apply guard_nd | apply guard_df | apply guard_ndf | apply guard_i | apply ag_d | apply ag_nd | apply ag_df | apply ag_ndf | apply ag_i) <;> intro _
            | with_reducible first | refine LenR_i fun _ => ?_ | refine And.intro (by omega) ?_ | refine and_assoc.2 ?_ | apply sp_cond | apply sp_guard | apply sp_ag | apply sp_call | apply sp_acall | apply sp_loop | apply sp_any | apply sp_frz | apply sp_len | apply sp_idx | apply sp_keep | apply sp_back
            | with_reducible refine frz0_i ?_
            | simp (maxSteps := 1000000) (disch := omega) only [lAL, lDF, tupA, eqA, isNil, slcNil, ptrCells, ptrAdd, cellsO, intA, boolA, readsV, readsP, isCall, wrote, srcOf, isNilSlice, Value.oneCell', seval, implies_true, forall_eq, ne_eq, wrap_i64, LenR_ok, List.length_map, IdxR_ints])
          all_goals try (exfalso; omega)
          all_goals first
            | (refine back_i (seen ++ [b], some k) ⟨hsn.1, (hse k).2 (.inr rfl), by omega, fun k' hk' hz => ?_⟩ (by simp only [List.length_append, List.length_singleton]; have := hsn.2; omega) (Ent.to [0,1,2] false (by simp) (by simp) rfl (by simp only [lPA, lPD, novO, setAll, seval, implies_true, graphA, mapW, pa_natL, po_mit, pa_itr, nextV] <;> (try simp) <;> (try omega)) (by simp only [lPA, lPD, novO, setAll, seval, implies_true, graphA, mapW, pa_natL, po_mit, pa_itr, nextV] <;> (try simp) <;> (try omega)))
               rcases (hse k').1 hk' with hh | rfl
               · have := hmz.2.2 k' hh hz
                 omega
               · omega)
            | (refine back_i (seen ++ [b], some m) ⟨hsn.1, (hse m).2 (.inl hmz.1), hmz.2.1, fun k' hk' hz => ?_⟩ (by simp only [List.length_append, List.length_singleton]; have := hsn.2; omega) (Ent.to [0,1,2] false (by simp) (by simp) rfl (by simp only [lPA, lPD, novO, setAll, seval, implies_true, graphA, mapW, pa_natL, po_mit, pa_itr, nextV] <;> (try simp) <;> (try omega)) (by simp only [lPA, lPD, novO, setAll, seval, implies_true, graphA, mapW, pa_natL, po_mit, pa_itr, nextV] <;> (try simp) <;> (try omega)))
               rcases (hse k').1 hk' with hh | rfl
               · exact hmz.2.2 k' hh hz
               · omega)
    · rename_i h1
      have hv2 : ∀ {H l n}, vwS none (some (.arr 3 1 ((natL out).map (AV.int .i64)))) H l n 1 out.length = .view 1 ((natL out).map (AV.int .i64)) := by
        intro H l n
        rw [vwS_arr (by simp [natL]), vw_ints]
      refine keep_i [] true (by simp) (by simp) rfl ?_
      simp only [lPA, lPD, novO, setAll, seval, implies_true, paR_lent, hv2]
      refine ⟨some out, ⟨hs, fun j h1' h2' => ?_⟩, rfl⟩
      refine Classical.byContradiction fun hc => ?_
      have := List.length_pos_of_mem ((hkl j).2 ⟨h1', h2', hc⟩)
      omega
end Go.Proofs.Try
