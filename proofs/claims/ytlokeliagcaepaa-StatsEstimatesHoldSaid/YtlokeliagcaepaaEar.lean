/-
  A part of the proof: see the text of the law.
-/
import Derived.Test.YtlokeliagcaepaaEae
import Derived.Test.YtlokeliagcaepaaAlphaS
import Derived.Test.YtlokeliagcaepaaShelf
import Derived.Test.YtlokeliagcaepaaPab
set_option linter.unusedSimpArgs false
set_option linter.unusedVariables false
namespace Go.Proofs.Try
open Go.Al
set_option linter.unusedVariables false
set_option linter.unusedSimpArgs false
set_option maxRecDepth 20000

theorem swoV : Go.Sort.SWO (ltOf VL.cmp) where
  irrefl x := by have := vl_cmp.self x; simp [ltOf]; omega
  trans x y z h1 h2 := by
    simp only [ltOf, decide_eq_true_eq] at *
    exact vl_cmp.lt_trans h1 (by omega)
  ntrans x y z h1 h2 := by
    simp only [ltOf, decide_eq_false_iff_not] at *
    have a := vl_cmp.anti x y
    have b := vl_cmp.anti y z
    have c := vl_cmp.anti x z
    have := vl_cmp.trans z y x (by omega) (by omega)
    omega
theorem bodied44 : Bodied E.P 44 := ⟨_, Try.func44, by kernel_rfl, by kernel_rfl⟩
theorem srt_of {l : List VL} (h : l.Pairwise fun a b => ltOf VL.cmp b a = false) : srtV l := h.imp fun {a b} h => by
  simp only [ltOf, decide_eq_false_iff_not] at h
  have := vl_cmp.anti a b
  omega
theorem c44 (l : List VL) (h : l.length < 4611686018427387904) : ACalls E.P 44 [.slc 0 3 l.length, .fn (.func 42) [] []] [.arr 40 3 (l.map VL.av)] (fun r H => r = .tup [] ∧ ∃ l' : List VL, l'.Perm l ∧ srtV l' ∧ H = [.arr 40 3 (l'.map VL.av)]) := by
  refine (bridge_sort bodied44 swoV (fun a _ b _ => c42 a b) (fun a _ => by simp [VL.av, sc, scL]) (fun a _ => ⟨_, rfl⟩) h (fun p cap fv w => AnyF.slices_SortFunc_none Try.sortV p cap fv w) ?_).mono ?_
  · intro α _ enc hk h1 cf' hO blk cap d w hc hH hb hs
    exact AnyQ.slices_SortFunc Try.sortV 3 (fun w => Try.isAgg40 w) (fun w => Try.sizeOf40 w) enc hk h1 cf' hO 42 #[] blk 0 cap d w (enters_of Try.func42 (by kernel_rfl) rfl) hc hH hb hs
  · rintro r H ⟨rfl, l', h1, h2, rfl⟩
    exact ⟨rfl, l', h1, srt_of h2, rfl⟩
theorem c44' (l : List VL) (h : l.length < 4611686018427387904) : ACalls E.P 44 [.slc 0 3 l.length, .fn (.func 43) [] []] [.arr 40 3 (l.map VL.av)] (fun r H => r = .tup [] ∧ ∃ l' : List VL, l'.Perm l ∧ srtV l' ∧ H = [.arr 40 3 (l'.map VL.av)]) := by
  refine (bridge_sort bodied44 swoV (fun a _ b _ => c43 a b) (fun a _ => by simp [VL.av, sc, scL]) (fun a _ => ⟨_, rfl⟩) h (fun p cap fv w => AnyF.slices_SortFunc_none Try.sortV p cap fv w) ?_).mono ?_
  · intro α _ enc hk h1 cf' hO blk cap d w hc hH hb hs
    exact AnyQ.slices_SortFunc Try.sortV 3 (fun w => Try.isAgg40 w) (fun w => Try.sizeOf40 w) enc hk h1 cf' hO 43 #[] blk 0 cap d w (enters_of Try.func43 (by kernel_rfl) rfl) hc hH hb hs
  · rintro r H ⟨rfl, l', h1, h2, rfl⟩
    exact ⟨rfl, l', h1, srt_of h2, rfl⟩
end Go.Proofs.Try
