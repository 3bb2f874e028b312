/-
  A part of the proof: see the text of the law.
-/
import Derived.Test.YtlkmgeahdidjeaaEae
import Derived.Test.YtlkmgeahdidjeaaAlphaS
import Derived.Test.YtlkmgeahdidjeaaShelf
set_option linter.unusedSimpArgs false
set_option linter.unusedVariables false
namespace Go.Proofs.Try
open Go.Al
set_option linter.unusedVariables false
set_option linter.unusedSimpArgs false
set_option maxRecDepth 20000
set_option maxHeartbeats 8000000

/-! ### slices.Sort and slices.Compact of integers -/
theorem bodied37 : Bodied E.P 37 := ⟨_, Try.func37, by kernel_rfl, by kernel_rfl⟩
theorem bodied38 : Bodied E.P 38 := ⟨_, Try.func38, by kernel_rfl, by kernel_rfl⟩
def srt (zs : List Int) : List Int := zs.mergeSort fun x y => decide (x ≤ y)
theorem srt_len (zs : List Int) : (srt zs).length = zs.length := by simp [srt]
theorem c37 (zs : List Int) (h : zs.length < 4611686018427387904) : ACalls E.P 37 [.slc 0 1 zs.length] [.arr 3 1 (zs.map (AV.int .i64))] (fun r H => r = .tup [] ∧ H = [.arr 3 1 ((srt zs).map (AV.int .i64))]) :=
  bridge_ints (R := none) bodied37 (srt_len zs) (fun m hm => by cases hm) (fun _ p cap w => Try.slices_Sort_int_none p cap w)
    (fun blk cap w _ hH hb _ _ => Try.slices_Sort_int blk 0 cap zs w hH hb h)
theorem compact_len (zs : List Int) : (Lib.compact zs).length ≤ zs.length := by
  unfold Lib.compact Lib.compactUpTo
  rw [List.length_map]
  exact Nat.le_trans (List.length_filter_le _ _) (by simp)
theorem c38 (zs : List Int) : ∃ ts : List Int, ACalls E.P 38 [.slc 0 1 zs.length] [.arr 3 1 (zs.map (AV.int .i64))] (fun r H => r = .slc 0 1 (Lib.compact zs).length ∧ H = [.arr 3 1 ((Lib.compact zs ++ ts).map (AV.int .i64))]) := by
  have hc := compact_len zs
  refine ⟨List.replicate (zs.length - (Lib.compact zs).length) 0, bridge_ints (R := some (Lib.compact zs).length) bodied38 (by simp; omega) (fun m hm => by cases hm; exact hc) ?_ ?_⟩
  · rintro rfl p cap w
    exact Try.slices_Compact_int_empty p cap w
  · intro blk cap w _ hH hb h1 h2
    have hmax := maxLen_eq
    refine (Try.slices_Compact_int blk 0 cap zs w hH (by omega) h1).mono ?_
    rintro e w' ⟨rfl, q, rfl⟩
    exact ⟨rfl, q, #[], by rw [Go.Sort.grow_empty]⟩
theorem nil_call {P : Program} {f : FuncId} {r : AV} {v : Value} (hb : Bodied P f) (hr : ∀ γ σ, RepV γ σ r v) (h : ∀ w, Calls P f #[.slice none 0 0] w fun e w' => e = .returned v ∧ w' = w) : ACalls P f [.raw (.slice none 0 0)] [] (fun q H => q = r ∧ H = []) :=
  ⟨hb, fun γ σ w vs hi hv => by
    obtain ⟨u, _, rfl, hu, rfl⟩ := hv
    have hu : u = .slice none 0 0 := hu
    subst hu
    refine (h w).mono ?_
    rintro e w' ⟨rfl, rfl⟩
    exact ⟨v, γ, σ, r, _, rfl, .refl _ _ _, hi, hr γ σ, rfl, rfl⟩⟩
theorem c37nil : ACalls E.P 37 [.raw (.slice none 0 0)] [] (fun q H => q = .tup [] ∧ H = []) := nil_call (v := .tuple #[]) bodied37 (fun _ _ => ⟨[], rfl, rfl⟩) (fun w => Try.slices_Sort_int_none none 0 w)
theorem c38nil : ACalls E.P 38 [.raw (.slice none 0 0)] [] (fun q H => q = .raw (.slice none 0 0) ∧ H = []) := nil_call (v := .slice none 0 0) bodied38 (fun _ _ => rfl) (fun w => Try.slices_Compact_int_empty none 0 w)


/-! ### snapshot.Changed -/
def chS (l : List Ver) (from_ to_ : Int) : List Int := (l.filter fun v => decide (v.stamp > from_) && decide (v.stamp ≤ to_)).map (·.row)
theorem chS_next {l : List Ver} {i : Nat} (h : i < l.length) (from_ to_ : Int) : chS (l.take (i + 1)) from_ to_ = chS (l.take i) from_ to_ ++ if (l.getD i default).stamp > from_ ∧ (l.getD i default).stamp ≤ to_ then [(l.getD i default).row] else [] := by
  rw [take_succD h, chS, List.filter_append, List.map_append]
  congr 1
  by_cases h1 : (l.getD i default).stamp > from_ ∧ (l.getD i default).stamp ≤ to_
  · rw [if_pos h1]; simp only [List.filter_cons, decide_eq_true h1.1, decide_eq_true h1.2, Bool.and_self, if_true, List.filter_nil, List.map_cons, List.map_nil]
  · rw [if_neg h1]
    have : (decide ((l.getD i default).stamp > from_) && decide ((l.getD i default).stamp ≤ to_)) = false := by
      rw [Bool.and_eq_false_iff, decide_eq_false_iff_not, decide_eq_false_iff_not]; omega
    simp only [List.filter_cons, this, Bool.false_eq_true, if_false, List.filter_nil, List.map_nil]
theorem chS_le (l : List Ver) (from_ to_ : Int) : (chS l from_ to_).length ≤ l.length := by
  rw [chS, List.length_map]; exact List.length_filter_le _ _
def changed (l : List Ver) (from_ to_ : Int) : List Int := Lib.compact (srt (chS l from_ to_))
end Go.Proofs.Try
