/-
  A part of the proof: see the text of the law.
-/
import Derived.Test.YtjiijjfpmaligaaDoorCaua
import Derived.Test.YtjiijjfpmaligaaDoorCaub
import Derived.Test.YtjiijjfpmaligaaDoorCauc
import Derived.Test.YtjiijjfpmaligaaDoorCaud
import Derived.Test.YtjiijjfpmaligaaDoorCaue
import Derived.Test.YtjiijjfpmaligaaDoorCauf
set_option linter.unusedSimpArgs false
set_option linter.unusedVariables false
namespace Go.Proofs.Try
open Go.Al
set_option linter.unusedVariables false
set_option linter.unusedSimpArgs false
set_option maxRecDepth 20000
set_option maxHeartbeats 16000000

theorem opp_range {o : Int} (h : 3 ≤ o ∧ o ≤ 13) (hc : cmpB o = true) : 3 ≤ opp o ∧ opp o ≤ 13 := by
  rcases cmp_cases hc with rfl | rfl | rfl | rfl | rfl | rfl <;> decide
theorem trn_range {o : Int} (h : 3 ≤ o ∧ o ≤ 13) (hc : cmpB o = true) : 3 ≤ trn o ∧ trn o ≤ 13 := by
  rcases cmp_cases hc with rfl | rfl | rfl | rfl | rfl | rfl <;> decide
theorem negT_ok {p : VL → Prop} {op : Int} {a : T} (hop : op = 14 ∨ op = 15) (hw : a.wf) (hv : a.vals p) : (negT op a).wf ∧ (negT op a).vals p := by
  cases a with
  | col n => exact ⟨⟨hop, hw⟩, hv⟩
  | val v => exact ⟨⟨hop, hw⟩, hv⟩
  | un o x =>
    simp only [negT]
    split
    · exact ⟨hw.2, hv⟩
    · exact ⟨⟨hop, hw⟩, hv⟩
  | bin o x y =>
    simp only [negT]
    split
    · rename_i h; exact ⟨⟨opp_range hw.1 h, hw.2⟩, hv⟩
    · exact ⟨⟨hop, hw⟩, hv⟩
theorem simpU_ok {op : Int} {a : T} (hop : op = 14 ∨ op = 15) (hw : a.wf) (hv : a.vals VL.Right) : (simpU op a).wf ∧ (simpU op a).vals VL.Right := by
  unfold simpU
  split
  · rename_i h
    exact ⟨trivial, T.eval_right (r := []) (by simp) (.un op a) ⟨hop, hw⟩ (fits_val h.1 0) hv⟩
  split
  · exact negT_ok hop hw hv
  · exact ⟨⟨hop, hw⟩, hv⟩
theorem restB_ok {p : VL → Prop} {op : Int} {a b : T} (hop : 3 ≤ op ∧ op ≤ 13) (hw : a.wf) (hv : a.vals p) (hw2 : b.wf) (hv2 : b.vals p) : (restB op a b).wf ∧ (restB op a b).vals p := by
  have hd : (T.bin op a b).wf ∧ (T.bin op a b).vals p := ⟨⟨hop, hw, hw2⟩, hv, hv2⟩
  unfold restB
  (repeat' split) <;> first | exact ⟨hw, hv⟩ | exact ⟨hw2, hv2⟩ | exact hd | (rename_i h; exact ⟨⟨trn_range hop h.1, hw2, hw⟩, hv2, hv⟩)
theorem simpB_ok {op : Int} {a b : T} (hop : 3 ≤ op ∧ op ≤ 13) (hw : a.wf) (hv : a.vals VL.Right) (hw2 : b.wf) (hv2 : b.vals VL.Right) : (simpB op a b).wf ∧ (simpB op a b).vals VL.Right := by
  unfold simpB
  split
  · rename_i h
    split
    · exact ⟨trivial, T.eval_right (r := []) (by simp) (.bin op a b) ⟨hop, hw, hw2⟩ ⟨fits_val h.1 0, fits_val h.2 0⟩ ⟨hv, hv2⟩⟩
    · exact ⟨⟨hop, hw, hw2⟩, hv, hv2⟩
  · exact restB_ok hop hw hv hw2 hv2
theorem simpR_ok {op : Int} {a b : T} (hop : 3 ≤ op ∧ op ≤ 13) (hw : a.wf) (hv : a.vals VL.Right) (hw2 : b.wf) (hv2 : b.vals VL.Right) : (simpR op a b).wf ∧ (simpR op a b).vals VL.Right := by
  unfold simpR
  split
  · rename_i h
    exact ⟨trivial, T.eval_right (r := []) (by simp) (.bin op a b) ⟨hop, hw, hw2⟩ ⟨fits_val h.1.1 0, fits_val h.1.2 0⟩ ⟨hv, hv2⟩⟩
  · exact restB_ok hop hw hv hw2 hv2
theorem ari_cmp' {op : Int} (h : 3 ≤ op ∧ op ≤ 13) : op = 12 ∨ op = 13 ∨ cmpB op = true ∨ op = 3 ∨ op = 4 ∨ op = 5 := by
  simp only [cmpB, decide_eq_true_eq]; omega
theorem c31leaf (t : T) (h : t.ex.args = []) : ACalls E.P 31 [t.ex.av] [] (fun r H => r = t.ex.av ∧ H = []) := by
  simp only [tv_fs]
  refine ok31.acalls hE hm (by simp) fun N hN => ?_
  unfold mc31
  simp only [lA, ptrCells, ptrAdd, isNil, readsV, readsP, isCall, wrote, srcOf, seval, h, List.map_nil]
  repeat' (first
   | (with_reducible apply St.o; constructor) <;> intro _
   | with_reducible first | refine LenR_i fun _ => ?_ | refine And.intro (by omega) ?_ | (apply Sp.o; constructor) | refine frz0_i ?_
   | ((with_reducible refine keep0_i ?_); simp only [lP, seval])
   | simp (maxSteps := 1000000) (disch := omega) only [lE, ptrCells, ptrAdd, isNil, readsV, readsP, isCall, wrote, srcOf, seval, h, List.map_nil, List.length_nil, Int.ofNat_zero, ti27, decide_true])
  rw [show t.ex.fs = [.int .i64 t.ex.op, .int .i64 t.ex.n, .int .i64 t.ex.val.k, .int .i64 t.ex.val.n, .str t.ex.val.s, .view 6 (t.ex.args.map EX.av)] from rfl, h]
  rfl
theorem c31 : ∀ t : T, t.wf → t.vals VL.Right → t.simp.wf ∧ t.simp.vals VL.Right ∧ ACalls E.P 31 [t.ex.av] [] (fun r H => r = t.simp.ex.av ∧ H = [])
  | .col n, hw, hv => ⟨hw, hv, c31leaf _ rfl⟩
  | .val v, hw, hv => ⟨hw, hv, c31leaf _ rfl⟩
  | .un op a, hw, hv => by
    obtain ⟨h1, h2, h3⟩ := c31 a hw.2 hv
    obtain ⟨k1, k2⟩ := simpU_ok hw.1 h1 h2
    exact ⟨k1, k2, c31u op a a.simp hw.1 h1 h2 h3⟩
  | .bin op a b, hw, hv => by
    obtain ⟨h1, h2, h3⟩ := c31 a hw.2.1 hv.1
    obtain ⟨g1, g2, g3⟩ := c31 b hw.2.2 hv.2
    obtain ⟨k1, k2⟩ := simpB_ok hw.1 h1 h2 g1 g2
    refine ⟨k1, k2, ?_⟩
    rcases ari_cmp' hw.1 with rfl | rfl | hc | rfl | rfl | rfl
    · exact c31ba a b a.simp b.simp h1 h2 g1 g2 h3 g3
    · exact c31bb a b a.simp b.simp h1 h2 g1 g2 h3 g3
    · exact c31bc op a b a.simp b.simp hc h1 h2 g1 g2 h3 g3
    · exact c31bd a b a.simp b.simp h1 h2 g1 g2 h3 g3
    · exact c31be a b a.simp b.simp h1 h2 g1 g2 h3 g3
    · exact c31bf a b a.simp b.simp h1 h2 g1 g2 h3 g3
end Go.Proofs.Try
