/-
  A part of the proof: see the text of the law.
-/
import Derived.Test.YtjiijjfpmaligaaDoorReads
import Derived.Test.YtjiijjfpmaligaaDoorAlphaR
import Derived.Test.YtjiijjfpmaligaaDoorRows
set_option linter.unusedSimpArgs false
set_option linter.unusedVariables false
namespace Go.Proofs.Try
open Go.Al
open Go.ChangeShapes Go.WideShapes Go.ChangeAt Go.RowKit
open Go.Proofs.YtjiijjfpmaligaaDoor
set_option linter.unusedVariables false
set_option linter.unusedSimpArgs false

theorem rd5 : Rd E 5 (fun n : Int => (Lit.int .u8 n).wf = true) (fun n => [.int .u8 n]) := rd_int hE (i := ⟨.int .u8, 1, 1, [.int .u8 0], false, false⟩) rfl rfl rfl
theorem rv5 : RdV E 5 (fun n : Int => (Lit.int .u8 n).wf = true) (AV.int .u8) := .int hE (k := .u8) (by kernel_rfl) rd5 (fun _ => rfl)
theorem u8_wf {n : Int} (h : (Lit.int .u8 n).wf = true) : 0 ≤ n ∧ n < 256 := by
  have h1 : IntKind.u8.min = 0 := by decide
  have h2 : IntKind.u8.max = 255 := by decide
  simp only [Lit.wf, h1, h2, Bool.and_eq_true, decide_eq_true_eq] at h
  omega
/-! ### how much is read -/
theorem countL_le {H : Type} : ∀ {l : List EX} {es : List (DataW H)}, es.length = l.length → (∀ (j : Nat) y b, es[j]? = some y → l[j]? = some b → b.count ≤ Rows.uptoBulk y) → EX.countL l ≤ Rows.uptoBulkAll es
  | [], _, _, _ => by simp [EX.countL]
  | b :: l, [], h, _ => by simp at h
  | b :: l, y :: es, h, h2 => by
    have h3 := h2 0 y b rfl rfl
    have h4 := countL_le (l := l) (es := es) (by simpa using h) (fun j y b h5 h6 => h2 (j + 1) y b (by simpa using h5) (by simpa using h6))
    simp only [EX.countL, Rows.uptoBulkAll]
    omega
theorem rdM25 {N : Nat} (h : RdM N E 27 (fun H d e => EX.okI e ∧ e.count ≤ Rows.uptoBulk d) EX.cs) : RdM (N + 1) E 25 (fun H d l => EX.okIL l ∧ EX.countL l ≤ Rows.uptoBulk d) (fun l => [.view 6 (l.map EX.av)]) :=
  (rdM_slice hE (i := ⟨.slice 27, 1, 24, [.slice none 0 0], false, false⟩) rfl rfl rfl ti27 (by decide) h (f := EX.av) (fun a => by rw [av_fs, cs_fs]; rfl)).map id (fun _ => rfl) (fun H d l h => by
    obtain ⟨h1, h2⟩ := h
    rcases h2 with ⟨_, rfl⟩ | ⟨es, sp, rfl, h3, h4⟩
    · exact ⟨by simp [EX.okIL], by simp [EX.countL]⟩
    · refine ⟨okIL_iff.2 fun e he => ?_, ?_⟩
      · obtain ⟨j, hj⟩ := List.getElem?_of_mem he
        have hjl : j < l.length := (List.getElem?_eq_some_iff.1 hj).1
        have hje : j < es.length := by omega
        exact (h4 j es[j] e (by simp) hj).1
      · have := countL_le h3 (fun j y b h5 h6 => (h4 j y b h5 h6).2)
        simp only [Rows.uptoBulk, id]
        omega)
theorem rdM27 : ∀ N, RdM N E 27 (fun H d e => EX.okI e ∧ e.count ≤ Rows.uptoBulk d) EX.cs
  | 0 => .zero ti27
  | N + 1 =>
    (rdM_struct hE ti27 rfl (rdFM_cons hE (o1 := 1) rfl rfl rd3.toN (rdFM_cons hE (o1 := 2) rfl rfl rd3.toN (rdFM_cons hE (o1 := 5) rfl rfl rd24.toN (rdFM_cons hE (o1 := 6) rfl rfl ((rdM25 (rdM27 N)).le (Nat.le_succ N)) rdFM_nil))))).map
      (fun p => EX.mk p.1 p.2.1 p.2.2.1.k p.2.2.1.n p.2.2.1.s p.2.2.2.1) (fun _ => by simp [cs_fs, EX.fs, EX.op, EX.n, EX.val, EX.args, VL.cs])
      (fun H d p h => by
        obtain ⟨ds, rfl, d1, ds1, rfl, _, d2, ds2, rfl, _, d3, ds3, rfl, h3, d4, ds4, rfl, h4, _⟩ := h
        refine ⟨⟨h3.1, h4.1⟩, ?_⟩
        have := h4.2
        simp only [EX.count, Rows.uptoBulk, Rows.uptoBulkAll]
        omega)
theorem rm27 : RdVM E 27 (fun H d e => EX.okI e ∧ e.count ≤ Rows.uptoBulk d) EX.av := RdVM.agg hE ti27 rfl rdM27 (fun e => by rw [av_fs, cs_fs])
theorem bulk_app {H : Type} (l r : List (DataW H)) : Rows.uptoBulkAll (l ++ r) = Rows.uptoBulkAll l + Rows.uptoBulkAll r := by
  induction l with
  | nil => simp [Rows.uptoBulkAll]
  | cons x l ih => simp only [List.cons_append, Rows.uptoBulkAll, ih]; omega
theorem small_le {H : Type} {ds gs : List (DataW H)} (h : Rows.uptoSmall H (ds ++ gs) = true) : Rows.uptoBulkAll ds ≤ 1048576 := by
  have h : Rows.uptoBulkAll (ds ++ gs) ≤ 1048576 := of_decide_eq_true h
  rw [bulk_app] at h
  omega
theorem small_two {H : Type} {d e : DataW H} {l : List (DataW H)} {n : Nat} (h : Rows.uptoBulkAll (d :: e :: l) ≤ 1048576) (h2 : n ≤ Rows.uptoBulk e) : n ≤ 1048576 := by
  simp only [Rows.uptoBulkAll] at h
  omega
theorem small_three {H : Type} {d e f : DataW H} {l : List (DataW H)} {n : Nat} (h : Rows.uptoBulkAll (d :: e :: f :: l) ≤ 1048576) (h2 : n ≤ Rows.uptoBulk f) : n ≤ 1048576 := by
  simp only [Rows.uptoBulkAll] at h
  omega
end Go.Proofs.Try
