/-
  A part of the proof: see the text of the law.
-/
import Derived.Test.YtjiijjfpmaligaaDoorAlphaJ
import Derived.Test.YtjiijjfpmaligaaDoorAlphaR
import Derived.Sort.OwnSortedInts
set_option linter.unusedSimpArgs false
set_option linter.unusedVariables false
/-
  A library's function that turns a slice of integers in place: from what is known of its calls to what an abstract call asks.
-/
namespace Go.Al
set_option linter.unusedVariables false
open Go.Sort Go.Proofs Go.RowKit

theorem repVs_ints {γ : Gm} {σ : Sg} : ∀ {zs : List Int} {vs : List Value}, RepVs γ σ (zs.map (AV.int .i64)) vs → vs = zs.map (Value.int .i64)
  | [], vs, h => h
  | z :: zs, vs, h => by
    obtain ⟨v, vs', rfl, h1, h2⟩ := h
    have h1 : v = .int .i64 z := h1
    rw [h1, repVs_ints h2]; rfl
theorem repVs_ints_mk {γ : Gm} {σ : Sg} : ∀ (zs : List Int), RepVs γ σ (zs.map (AV.int .i64)) (zs.map (Value.int .i64))
  | [] => rfl
  | z :: zs => ⟨_, _, rfl, rfl, repVs_ints_mk zs⟩
theorem flat_ints : ∀ zs : List Int, flat (zs.map (Value.int .i64)) = zs.map (Value.int .i64)
  | [] => rfl
  | z :: zs => by
    have := flat_ints zs
    unfold flat at this ⊢
    rw [List.map_cons, List.flatMap_cons, this]
    rfl
/-- What such a function hands back: nothing, or the slice with so many elements. -/
def retV (R : Option Nat) (p : Option Addr) (cap : Nat) : Value := match R with | none => .tuple #[] | some m => .slice p m cap
def retA (R : Option Nat) : AV := match R with | none => .tup [] | some m => .slc 0 1 m
theorem bridge_ints {P : Program} {f : FuncId} {E : TypeId} {zs ts : List Int} {R : Option Nat} (hb : Bodied P f) (hlen : ts.length = zs.length) (hm : ∀ m, R = some m → m ≤ zs.length)
    (h0 : zs = [] → ∀ p cap w, Calls P f #[.slice p 0 cap] w fun e w' => e = .returned (retV R p cap) ∧ w' = w)
    (h : ∀ blk cap w, zs ≠ [] → Holds (Value.int .i64) w blk 0 zs.toArray → blk < w.heap.size → zs.length ≤ cap → cap ≤ maxLen → Calls P f #[.slice (some ⟨blk, 0, none⟩) zs.length cap] w fun e w' =>
      e = .returned (retV R (some ⟨blk, 0, none⟩) cap) ∧ ∃ n os, w' = grow (putRow (Value.int .i64) (Sort.ahead w n) blk 0 ts.toArray) os) :
    ACalls P f [.slc 0 1 zs.length] [.arr E 1 (zs.map (AV.int .i64))] (fun r H => r = retA R ∧ H = [.arr E 1 (ts.map (AV.int .i64))]) := by
  refine ⟨hb, fun γ σ w vs hi hv => ?_⟩
  obtain ⟨v, _, rfl, ⟨e, hs, hon, hve⟩, rfl⟩ := hv
  have hob := hi.obj 0 _ e rfl hs
  cases e with
  | none => exact hob.elim
  | some e =>
  obtain ⟨blk, cap⟩ := e
  obtain ⟨rfl, hn, hcap⟩ := hve blk cap rfl
  obtain ⟨vs', h1, h2, h3, h4, h5⟩ : ∃ vs, RepVs γ σ (zs.map (AV.int .i64)) vs ∧ (∀ u ∈ vs, okEl 1 u) ∧ 0 < 1 ∧ (zs.map (AV.int .i64)).length ≤ cap ∧ w.ownsRow 0 E 1 (.slice (blk.map (⟨·, 0, none⟩)) (zs.map (AV.int .i64)).length cap) (zs.map (AV.int .i64)).length (flat vs) := by cases blk <;> exact hob
  rw [repVs_ints h1, List.length_map, flat_ints] at h5
  have hret : RepV γ σ (retA R) (retV R (blk.map (⟨·, 0, none⟩)) cap) := by
    cases R with
    | none => exact ⟨[], rfl, rfl⟩
    | some m =>
      refine ⟨_, hs, rfl, fun blk' cap' he => ?_⟩
      cases he
      exact ⟨rfl, Nat.le_trans (hm m rfl) hn, hcap⟩
  by_cases hz : zs = []
  · subst hz
    have ht : ts = [] := List.eq_nil_of_length_eq_zero (by simpa using hlen)
    subst ht
    refine (h0 rfl (blk.map (⟨·, 0, none⟩)) cap w).mono ?_
    rintro e w' ⟨rfl, rfl⟩
    exact ⟨_, γ, σ, _, _, rfl, .refl _ _ _, hi, hret, rfl, rfl⟩
  · rcases h5.2 with ⟨_, h6⟩ | ⟨g, cap', cur, h6, _, h7, h8, h9, h10, h11⟩
    · exact absurd (List.eq_nil_of_length_eq_zero h6) hz
    · have hbg : blk = some g := by
        cases blk with
        | none => simp at h6
        | some b => simp at h6; rw [h6.1]
      subst hbg
      simp only [Option.map_some, Value.slice.injEq, true_and] at h6
      have hcc : cap' = cap := h6.symm
      subst hcc
      have hg : g < w.heap.size := (Array.getElem?_eq_some_iff.1 h7).1
      have ho := hi.own 0 g cap' hs
      have hlen1 : σ.length = 1 := hi.len
      rw [Nat.mul_one] at h11
      refine (h g cap' w hz (holds_of_blockI h7 h11) hg h8 h9).mono ?_
      rintro e w' ⟨rfl, n, os, rfl⟩
      have hgr := grownBy_sortedI (w := w) (g := g) (n := n) (os := os) ts.toArray
      have hrow := ownsRow_sortedI (n := n) (os := os) (base := 0) hlen (Nat.zero_le _) h7 h8 h9 h10
      generalize grow (putRow (Value.int .i64) (Sort.ahead w n) g 0 ts.toArray) os = w2 at *
      obtain ⟨g1, g2, g3, g4, g5⟩ := hgr
      have hkeep : ∀ b, b < w.heap.size → b ≠ g → w2.heap[b]? = w.heap[b]? := fun b hb hne => g5 b hb (by simpa using hne)
      have hblks : Blks σ g := ⟨0, cap', hs⟩
      refine ⟨_, γ, σ, _, _, rfl, ⟨fun _ _ h => h, g4, fun b hb hnb => ⟨hkeep b hb (fun e => hnb (by rw [e]; exact hblks)), rfl⟩, fun _ h => .inl h, ?_, ?_, ?_, fun _ _ _ h => .inl h⟩, ⟨fun b o hbo => ?_, fun i b c h => ?_, hi.inj, by rw [hlen1]; rfl, fun i o e hoo he => ?_, hi.glob⟩, hret, rfl, rfl⟩
      · first | exact g1 | exact g2 | exact g3
      · first | exact g1 | exact g2 | exact g3
      · first | exact g1 | exact g2 | exact g3
      · have hb := hi.mem b o hbo
        have hne : b ≠ g := fun e => by rw [e, ho.1] at hbo; cases hbo
        rw [hkeep b (Array.getElem?_eq_some_iff.1 hb).1 hne]; exact hb
      · obtain ⟨k1, k2⟩ := hi.own i b c h
        exact ⟨k1, Nat.lt_of_lt_of_le k2 g4⟩
      · cases i with
        | zero =>
          rw [hs] at he
          cases he
          simp at hoo
          subst hoo
          refine ⟨ts.map (Value.int .i64), repVs_ints_mk ts, fun u hu => ?_, by omega, by simpa [hlen] using h8, ?_⟩
          · obtain ⟨z, _, rfl⟩ := List.mem_map.1 hu
            exact ⟨rfl, fun z hz => by simp [Value.cells] at hz; subst hz; rfl⟩
          · rw [flat_ints, List.length_map, hlen]
            exact hrow
        | succ i => simp at hoo
end Go.Al
