/-
  A part of the proof: see the text of the law.
-/
import Derived.Test.YthbajphbhoiceaaCan
set_option linter.unusedSimpArgs false
set_option linter.unusedVariables false
namespace Go.Proofs.Try
open Go.Al
set_option linter.unusedVariables false
set_option linter.unusedSimpArgs false
open Classical

/-! ### counting -/
theorem nodup_length_le {α : Type} [DecidableEq α] : ∀ {l m : List α}, l.Nodup → (∀ x ∈ l, x ∈ m) → l.length ≤ m.length
  | [], _, _, _ => by simp
  | x :: l, m, hn, hs => by
    have hx : x ∈ m := hs x (by simp)
    have hn' := List.nodup_cons.1 hn
    have := nodup_length_le (l := l) (m := m.erase x) hn'.2 fun y hy => (List.mem_erase_of_ne (fun e => hn'.1 (by rw [← e]; exact hy))).2 (hs y (by simp [hy]))
    rw [List.length_erase_of_mem hx] at this
    have : 0 < m.length := List.length_pos_of_mem hx
    simp; omega
theorem nodup_full {α : Type} [DecidableEq α] {l m : List α} (hn : l.Nodup) (hs : ∀ x ∈ l, x ∈ m) (hl : m.length ≤ l.length) : ∀ x ∈ m, x ∈ l := by
  intro x hx
  refine Classical.byContradiction fun hc => ?_
  have := nodup_length_le (l := x :: l) (m := m) (List.nodup_cons.2 ⟨hc, hn⟩) (by
    intro y hy
    rcases List.mem_cons.1 hy with rfl | hy
    · exact hx
    · exact hs y hy)
  simp at this; omega

/-! ### what Serial returns -/
/-- Each the least one that is ready behind those before it. -/
def Seq (h : List Acc) (out : List Nat) : Prop := ∀ k, k < out.length → NextS h (· ∈ out.take k) (some (out.getD k 0))
def SerialS (h : List Acc) : Option (List Nat) → Prop
  | none => ∃ out, Seq h out ∧ (∃ j, j < h.length ∧ (at' h j).done = true ∧ j ∉ out) ∧ NextS h (· ∈ out) none
  | some out => Seq h out ∧ ∀ j, j < h.length → (at' h j).done = true → j ∈ out
def SerialF (h : List Acc) (t : Option (List Nat)) : Prop := if checkS h = 0 then SerialS h t else t = none
def natL (l : List Nat) : List Int := l.map fun j : Nat => (j : Int)
def intsA (l : List Int) : AV := .view 1 (l.map (AV.int .i64))
def serA : Option (List Nat) → AV
  | none => .tup [.view 1 [], .bool false]
  | some out => .tup [.view 1 ((natL out).map (AV.int .i64)), .bool true]

theorem Seq.nil {h : List Acc} : Seq h [] := fun k hk => by simp at hk
theorem take_append_le {α : Type} {l : List α} {x : α} {k : Nat} (hk : k ≤ l.length) : (l ++ [x]).take k = l.take k := by
  rw [List.take_append_of_le_length hk]
theorem getD_append_lt {l : List Nat} {x k : Nat} (hk : k < l.length) : (l ++ [x]).getD k 0 = l.getD k 0 := by
  simp [List.getElem?_append_left hk]
theorem getD_append_eq {l : List Nat} {x : Nat} : (l ++ [x]).getD l.length 0 = x := by simp
theorem Seq.snoc {h : List Acc} {out : List Nat} {j : Nat} (hs : Seq h out) (hj : NextS h (· ∈ out) (some j)) : Seq h (out ++ [j]) := by
  intro k hk
  by_cases hkl : k < out.length
  · rw [take_append_le (by omega), getD_append_lt hkl]
    exact hs k hkl
  · have : k = out.length := by simp at hk; omega
    subst this
    rw [take_append_le (Nat.le_refl _), List.take_length, getD_append_eq]
    exact hj
theorem Seq.ok {h : List Acc} {out : List Nat} (hs : Seq h out) : ∀ j ∈ out, j < h.length ∧ (at' h j).done = true := by
  intro j hj
  obtain ⟨k, hk, rfl⟩ := List.getElem_of_mem hj
  have := hs k hk
  rw [getD_get hk] at this
  exact ⟨this.1.1, this.1.2.1⟩
theorem Seq.init {h : List Acc} {out : List Nat} {j : Nat} (hs : Seq h (out ++ [j])) : Seq h out := by
  intro k hk
  have := hs k (by simp; omega)
  rwa [take_append_le (by omega), getD_append_lt hk] at this
theorem Seq.last {h : List Acc} {out : List Nat} {j : Nat} (hs : Seq h (out ++ [j])) : NextS h (· ∈ out) (some j) := by
  have := hs out.length (by simp)
  rwa [take_append_le (Nat.le_refl _), List.take_length, getD_append_eq] at this
theorem Seq.nodup {h : List Acc} : ∀ {out : List Nat}, Seq h out → out.Nodup := by
  intro out
  induction h' : out.length generalizing out with
  | zero => intro _; rw [List.eq_nil_of_length_eq_zero h']; simp
  | succ n ih =>
    intro hs
    obtain ⟨l, x, rfl⟩ : ∃ l x, out = l ++ [x] := ⟨out.dropLast, out.getLast (by intro e; simp [e] at h'), (List.dropLast_concat_getLast _).symm⟩
    have hl : l.length = n := by simpa using h'
    have h1 := ih hl hs.init
    have h2 := hs.last.1.2.2.1
    rw [List.nodup_append]
    exact ⟨h1, by simp, fun a ha b hb => by simp at hb; subst hb; exact fun e => h2 (e ▸ ha)⟩
theorem Seq.pref {h : List Acc} {a b : List Nat} (ha : Seq h a) (hb : Seq h b) : ∀ k, k ≤ a.length → k ≤ b.length → a.take k = b.take k := by
  intro k
  induction k with
  | zero => simp
  | succ k ih =>
    intro h1 h2
    have e := ih (by omega) (by omega)
    have x := ha k (by omega)
    have y := hb k (by omega)
    rw [e] at x
    have : a.getD k 0 = b.getD k 0 := Nat.le_antisymm (x.2 _ y.1) (y.2 _ x.1)
    rw [getD_get (by omega), getD_get (by omega)] at this
    rw [List.take_succ_eq_append_getElem (by omega), List.take_succ_eq_append_getElem (by omega), e, this]
theorem SerialS.full {h : List Acc} {a b : List Nat} (ha : Seq h a) (hf : ∀ j, j < h.length → (at' h j).done = true → j ∈ a) (hb : Seq h b) : b.length ≤ a.length := by
  refine Classical.byContradiction fun hc => ?_
  have e := Seq.pref ha hb a.length (Nat.le_refl _) (by omega)
  rw [List.take_length] at e
  have := hb a.length (by omega)
  rw [← e] at this
  exact this.1.2.2.1 (hf _ this.1.1 this.1.2.1)
theorem SerialS.not {h : List Acc} {a : List Nat} (h1 : SerialS h none) (h2 : SerialS h (some a)) : False := by
  obtain ⟨b, h1, ⟨j, h2', h3, h4⟩, h5⟩ := h1
  obtain ⟨k1, k2⟩ := h2
  have l1 := SerialS.full k1 k2 h1
  have e := Seq.pref k1 h1 b.length (by omega) (Nat.le_refl _)
  rw [List.take_length] at e
  by_cases hlt : b.length < a.length
  · have := k1 b.length hlt
    rw [e] at this
    exact h5 _ this.1
  · rw [List.take_of_length_le (by omega)] at e
    subst e
    exact h4 (k2 j h2' h3)
theorem SerialS.uniq {h : List Acc} : ∀ {t t' : Option (List Nat)}, SerialS h t → SerialS h t' → t = t'
  | none, none, _, _ => rfl
  | some a, some b, ⟨h1, h2⟩, ⟨k1, k2⟩ => by
    have l1 := SerialS.full h1 h2 k1
    have l2 := SerialS.full k1 k2 h1
    have e := Seq.pref h1 k1 a.length (Nat.le_refl _) (by omega)
    rw [List.take_length, List.take_of_length_le (by omega)] at e
    rw [e]
  | none, some a, h1, h2 => (SerialS.not h1 h2).elim
  | some a, none, h1, h2 => (SerialS.not h2 h1).elim
theorem SerialF.uniq {h : List Acc} {t t' : Option (List Nat)} (h1 : SerialF h t) (h2 : SerialF h t') : t = t' := by
  unfold SerialF at h1 h2
  split at h1
  · rename_i hc; rw [if_pos hc] at h2; exact h1.uniq h2
  · rename_i hc; rw [if_neg hc] at h2; rw [h1, h2]

def doneL (h : List Acc) : List Nat := (List.range h.length).filter fun j => (at' h j).done
theorem mem_doneL {h : List Acc} {j : Nat} : j ∈ doneL h ↔ j < h.length ∧ (at' h j).done = true := by simp [doneL]
theorem doneL_nodup (h : List Acc) : (doneL h).Nodup := List.Nodup.sublist List.filter_sublist List.nodup_range
theorem doneL_len (h : List Acc) : (doneL h).length ≤ h.length := Nat.le_trans (List.length_filter_le _ _) (by simp)
theorem Seq.le {h : List Acc} {out : List Nat} (hs : Seq h out) : out.length ≤ (doneL h).length := nodup_length_le hs.nodup fun x hx => mem_doneL.2 (hs.ok x hx)
theorem Seq.full {h : List Acc} {out : List Nat} (hs : Seq h out) (hl : (doneL h).length ≤ out.length) : ∀ j, j < h.length → (at' h j).done = true → j ∈ out := fun j h1 h2 =>
  nodup_full hs.nodup (fun x hx => mem_doneL.2 (hs.ok x hx)) hl j (mem_doneL.2 ⟨h1, h2⟩)
theorem Seq.less {h : List Acc} {out : List Nat} (hs : Seq h out) (hl : out.length < (doneL h).length) : ∃ j, j < h.length ∧ (at' h j).done = true ∧ j ∉ out := by
  refine Classical.byContradiction fun hc => ?_
  have := nodup_length_le (doneL_nodup h) (m := out) fun x hx => Classical.byContradiction fun hx' => hc ⟨x, (mem_doneL.1 hx).1, (mem_doneL.1 hx).2, hx'⟩
  omega

/-- Who was taken. -/
def tb (h : List Acc) (out : List Nat) : List Bool := (List.range h.length).map fun i => decide (i ∈ out)
theorem tb_length {h : List Acc} {out : List Nat} : (tb h out).length = h.length := by simp [tb]
theorem tb_get {h : List Acc} {out : List Nat} {i : Nat} (hi : i < h.length) : ((tb h out).getD i false = true) ↔ i ∈ out := by simp [tb, hi]
theorem tb_set {h : List Acc} {out : List Nat} {j : Nat} (hj : j < h.length) : (tb h out).set j true = tb h (out ++ [j]) := by
  apply List.ext_getElem
  · simp [tb]
  · intro k h1 h2
    rw [List.getElem_set]
    split
    · rename_i e; subst e; simp [tb]
    · rename_i e; simp [tb]; exact fun e' => absurd e'.symm e
theorem vw_natL {H : List AObj} {l : List Nat} {n : Nat} {xs : List Nat} : ((natL xs).map (AV.int .i64)).map (vw H l n) = (natL xs).map (AV.int .i64) := vw_ints
theorem stE_bool {P : Program} {m N : Nat} {es : List Bool} {id n : Nat} {E' : TypeId} {v : Bool} {cs : List AV} {fr : List (Nat × AV)} {H : List AObj} {q : Ke} (hn : n < es.length) (hc : cs.length = 1) :
    stE P m N (some (.arr E' 1 (es.map AV.bool))) 1 cs (.bool v) id 1 n 0 fr H q = rE P m N q fr (H.set id (.arr E' 1 ((es.set n v).map AV.bool))) := by
  rw [stE_flat (fun _ => trivial) hn]
  simp [hc, List.map_set]

set_option maxHeartbeats 8000000
theorem c28 (h : List Acc) : ACalls E.P 28 [.view 6 (h.map accA)] [] (fun r H => (∃ t, SerialF h t ∧ r = serA t) ∧ H = []) := by
  have hmax := maxLen_eq
  refine ok28.acalls hE hm (by simp) ?_
  unfold mc28
  repeat' (first
    | (with_reducible first | apply cond_d | apply cond_nd | apply cond_i | apply guard_d | apply guard_nd | apply guard_df | apply guard_ndf | apply guard_i | apply ag_d | apply ag_nd | apply ag_df | apply ag_ndf | apply ag_i) <;> intro _
    | with_reducible first | refine LenR_i fun _ => ?_ | refine And.intro (by omega) ?_ | refine and_assoc.2 ?_ | apply sp_cond | apply sp_guard | apply sp_ag | apply sp_call | apply sp_acall | apply sp_loop | apply sp_any | apply sp_frz | apply sp_len | apply sp_idx | apply sp_keep | apply sp_back
    | with_reducible refine frz0_i ?_
    | ((with_reducible first | refine callN_i [] true (by simp) (by simp) ?_ | refine acallN_i true ?_); simp only [lPA, lPD, novO, setAll, seval, implies_true]; (refine ⟨_, c19 _, ?_⟩; rintro _ _ ⟨rfl, rfl⟩); simp only [lAL, lDF, tupA, eqA, isNil, slcNil, ptrCells, ptrAdd, cellsO, intA, boolA, readsV, readsP, isCall, wrote, srcOf, isNilSlice, Value.oneCell', seval, implies_true, forall_eq, ne_eq, lPA, lPD, novO, setAll])
    | simp (maxSteps := 1000000) (disch := omega) only [lAL, lDF, tupA, eqA, isNil, slcNil, ptrCells, ptrAdd, cellsO, intA, boolA, readsV, readsP, isCall, wrote, srcOf, isNilSlice, Value.oneCell', seval, implies_true, forall_eq, ne_eq, wrap_i64, LenR_ok, List.length_map, IdxR_ints])
  · rename_i hck
    refine keepnt_i 1 ⟨⟨none, by simp [SerialF, hck], rfl⟩, rfl⟩
  rename_i hck
  have hck : checkS h = 0 := Classical.byContradiction fun hn => by simp_all
  have hn := checkS_len hck
  refine ⟨by omega, ?_⟩
  repeat' (first
    | (with_reducible first | apply cond_d | apply cond_nd | apply cond_i | apply guard_d | apply guard_nd | apply guard_df | apply guard_ndf | apply guard_i | apply ag_d | apply ag_nd | apply ag_df | apply ag_ndf | apply ag_i) <;> intro _
    | with_reducible first | refine LenR_i fun _ => ?_ | refine And.intro (by omega) ?_ | refine and_assoc.2 ?_ | apply sp_cond | apply sp_guard | apply sp_ag | apply sp_call | apply sp_acall | apply sp_loop | apply sp_any | apply sp_frz | apply sp_len | apply sp_idx | apply sp_keep | apply sp_back
    | with_reducible refine frz0_i ?_
    | ((with_reducible first | refine callN_i [] true (by simp) (by simp) ?_ | refine acallN_i true ?_); simp only [lPA, lPD, novO, setAll, seval, implies_true]; (refine ⟨_, c58 _, ?_⟩; rintro _ _ ⟨rfl, rfl⟩); simp only [lAL, lDF, tupA, eqA, isNil, slcNil, ptrCells, ptrAdd, cellsO, intA, boolA, readsV, readsP, isCall, wrote, srcOf, isNilSlice, Value.oneCell', seval, implies_true, forall_eq, ne_eq, lPA, lPD, novO, setAll])
    | simp (maxSteps := 1000000) (disch := omega) only [lAL, lDF, tupA, eqA, isNil, slcNil, ptrCells, ptrAdd, cellsO, intA, boolA, readsV, readsP, isCall, wrote, srcOf, isNilSlice, Value.oneCell', seval, implies_true, forall_eq, ne_eq, wrap_i64, LenR_ok, List.length_map, IdxR_ints])
  refine loop_i (X := List Nat) (fun out => Seq h out) (fun out => ⟨[(0, .view 6 (h.map accA)), (4, .slc 1 1 out.length), (5, .slc 0 1 h.length), (6, .int .i64 (doneL h).length)], [.arr 4 1 ((tb h out).map AV.bool), .arr 3 1 ((natL out).map (AV.int .i64))]⟩) (fun out => (doneL h).length - out.length) [] Seq.nil
    (Ent.ghost' 4 3 1 (by omega) rfl (Ent.to [0, 1] false (by simp) (by simp) rfl (by simp only [lPA, lPD, novO, setAll, seval, implies_true] <;> simp [doneL]) (by simp only [lPA, lPD, novO, setAll, seval, implies_true] <;> simp [tb, natL, List.map_const', pa_bool]))) ?_
  intro out hs
  have hle := hs.le
  have hdl := doneL_len h
  have hv : ∀ {H l n}, vwS none (some (.arr 4 1 ((tb h out).map AV.bool))) H l n 1 h.length = .view 1 ((tb h out).map AV.bool) := by
    intro H l n
    rw [vwS_arr (by simp [tb_length]), vw_bools]
  have k1 := c59 h (tb h out) tb_length
  repeat' (first
    | (with_reducible first | apply cond_d | apply cond_nd | apply cond_i | apply guard_d | apply guard_nd | apply guard_df | apply guard_ndf | apply guard_i | apply ag_d | apply ag_nd | apply ag_df | apply ag_ndf | apply ag_i) <;> intro _
    | with_reducible first | refine LenR_i fun _ => ?_ | refine And.intro (by omega) ?_ | refine and_assoc.2 ?_ | apply sp_cond | apply sp_guard | apply sp_ag | apply sp_call | apply sp_acall | apply sp_loop | apply sp_any | apply sp_frz | apply sp_len | apply sp_idx | apply sp_keep | apply sp_back
    | with_reducible refine frz0_i ?_
    | simp (maxSteps := 1000000) (disch := omega) only [lAL, lDF, tupA, eqA, isNil, slcNil, ptrCells, ptrAdd, cellsO, intA, boolA, readsV, readsP, isCall, wrote, srcOf, isNilSlice, Value.oneCell', seval, implies_true, forall_eq, ne_eq, wrap_i64, LenR_ok, List.length_map, IdxR_ints])
  · refine callN_i [] true (by simp) (by simp) ?_
    simp only [lPA, lPD, novO, setAll, seval, implies_true, paR_lent, hv]
    refine ⟨_, k1, ?_⟩
    rintro _ _ ⟨⟨t, ht, rfl⟩, rfl⟩
    have ht := ht.congr (T' := (· ∈ out)) fun i hi => tb_get hi
    rcases t with _ | j
    · simp only [nextV, lPA, lPD, novO, setAll, seval, implies_true, lAL, lDF, tupA, eqA, isNil, slcNil, ptrCells, ptrAdd, cellsO, intA, boolA, readsV, readsP, isCall, wrote, srcOf, isNilSlice, Value.oneCell', seval, implies_true, forall_eq, ne_eq]
      repeat' (first
        | (with_reducible first | apply cond_d | apply cond_nd | apply cond_i | apply guard_d | apply guard_nd | apply guard_df | apply guard_ndf | apply guard_i | apply ag_d | apply ag_nd | apply ag_df | apply ag_ndf | apply ag_i) <;> intro _
        | with_reducible first | refine LenR_i fun _ => ?_ | refine And.intro (by omega) ?_ | refine and_assoc.2 ?_ | apply sp_cond | apply sp_guard | apply sp_ag | apply sp_call | apply sp_acall | apply sp_loop | apply sp_any | apply sp_frz | apply sp_len | apply sp_idx | apply sp_keep | apply sp_back
        | with_reducible refine frz0_i ?_
        | simp (maxSteps := 1000000) (disch := omega) only [lAL, lDF, tupA, eqA, isNil, slcNil, ptrCells, ptrAdd, cellsO, intA, boolA, readsV, readsP, isCall, wrote, srcOf, isNilSlice, Value.oneCell', seval, implies_true, forall_eq, ne_eq, wrap_i64, LenR_ok, List.length_map, IdxR_ints])
      refine keepnt_i 1 ⟨⟨none, ?_, rfl⟩, rfl⟩
      simp only [SerialF, hck, if_true]
      exact ⟨out, hs, hs.less (by omega), ht⟩
    · have hj : j < h.length := ht.1.1
      simp only [nextV, lPA, lPD, novO, setAll, seval, implies_true, lAL, lDF, tupA, eqA, isNil, slcNil, ptrCells, ptrAdd, cellsO, intA, boolA, readsV, readsP, isCall, wrote, srcOf, isNilSlice, Value.oneCell', seval, implies_true, forall_eq, ne_eq]
      have ep : ∀ {m N d c}, epR E.P m N (some (.arr 4 1 ((tb h out).map AV.bool))) (j : Int) h.length 0 1 d c = rK E.P m N c d (.ep 0 1 j 0) := epR_ne (by simp [tb_length]) (by omega) (by omega)
      have st : ∀ {m N y fr H q}, stE E.P m N (some (.arr 4 1 ((tb h out).map AV.bool))) 1 [y] (.bool true) 0 1 j 0 fr H q = rE E.P m N q fr (H.set 0 (.arr 4 1 ((tb h (out ++ [j])).map AV.bool))) := by
        intro m N y fr H q
        rw [stE_bool (by rw [tb_length]; exact hj) rfl, tb_set hj]
      have hnl : (natL out).length = out.length := by simp [natL]
      repeat' (first
        | (with_reducible first | apply cond_d | apply cond_nd | apply cond_i | apply guard_d | apply guard_nd | apply guard_df | apply guard_ndf | apply guard_i | apply ag_d | apply ag_nd | apply ag_df | apply ag_ndf | apply ag_i) <;> intro _
        | with_reducible first | refine LenR_i fun _ => ?_ | refine And.intro (by omega) ?_ | refine and_assoc.2 ?_ | apply sp_cond | apply sp_guard | apply sp_ag | apply sp_call | apply sp_acall | apply sp_loop | apply sp_any | apply sp_frz | apply sp_len | apply sp_idx | apply sp_keep | apply sp_back
        | with_reducible refine frz0_i ?_
        | simp (maxSteps := 1000000) (disch := omega) only [lAL, lDF, tupA, eqA, isNil, slcNil, ptrCells, ptrAdd, cellsO, intA, boolA, readsV, readsP, isCall, wrote, srcOf, isNilSlice, Value.oneCell', seval, implies_true, forall_eq, ne_eq, wrap_i64, LenR_ok, List.length_map, IdxR_ints, ep, st, hnl])
      · exfalso; omega
      · refine back_i (out ++ [j]) (hs.snoc ht) (by simp; omega) (Ent.to [0, 3] false (by simp) (by simp) rfl (by simp only [lPA, lPD, novO, setAll, seval, implies_true] <;> simp) ?_)
        simp only [lPA, lPD, novO, setAll, seval, implies_true, List.map_append, natL, pa_ints]
  · rename_i hlt
    have hv2 : ∀ {H l n}, vwS none (some (.arr 3 1 ((natL out).map (AV.int .i64)))) H l n 1 out.length = .view 1 ((natL out).map (AV.int .i64)) := by
      intro H l n
      rw [vwS_arr (by simp [natL]), vw_ints]
    refine keep_i [] true (by simp) (by simp) rfl ?_
    simp only [lPA, lPD, novO, setAll, seval, implies_true, paR_lent, hv2]
    refine ⟨some out, ?_, rfl⟩
    simp only [SerialF, hck, if_true]
    exact ⟨hs, hs.full (by omega)⟩
end Go.Proofs.Try
