/-
  A part of the proof: see the text of the law.
-/
import Derived.Test.YtjiijjfpmaligaaDoorCas
import Derived.Test.YtjiijjfpmaligaaDoorAlphaR
set_option linter.unusedSimpArgs false
set_option linter.unusedVariables false
namespace Go.Proofs.Try
open Go.Al
open Go.ChangeShapes Go.WideShapes Go.ChangeAt Go.RowKit
set_option linter.unusedVariables false
set_option linter.unusedSimpArgs false

/-! ### what is read -/
theorem rd3 : Rd E 3 (fun n : Int => (Lit.int .i64 n).wf = true) (fun n => [.int .i64 n]) := rd_int hE (i := ⟨.int .i64, 1, 8, [.int .i64 0], false, false⟩) rfl rfl rfl
theorem rd4 : Rd E 4 (fun _ : Bool => True) (fun b => [.bool b]) := rd_bool hE (i := ⟨.bool, 1, 1, [.bool false], false, false⟩) rfl rfl rfl
theorem rd9 : Rd E 9 (fun s : ByteArray => s.size ≤ maxLen) (fun s => [.str s]) := rd_string hE (i := ⟨.string, 1, 16, [.string ByteArray.empty], false, false⟩) rfl rfl rfl
theorem rv3 : RdV E 3 (fun n : Int => (Lit.int .i64 n).wf = true) (AV.int .i64) := .int hE (k := .i64) (by kernel_rfl) rd3 (fun _ => rfl)
theorem inI_wf {n : Int} (h : (Lit.int .i64 n).wf = true) : inI n := by
  have h1 : IntKind.i64.min = -9223372036854775808 := by decide
  have h2 : IntKind.i64.max = 9223372036854775807 := by decide
  simp only [Lit.wf, h1, h2, Bool.and_eq_true, decide_eq_true_eq] at h
  exact h
theorem rd22 : Rd E 22 (fun _ : List Int => True) (fun l => [.view 1 (l.map (AV.int .i64))]) :=
  (rd_slice hE (i := ⟨.slice 3, 1, 24, [.slice none 0 0], false, false⟩) rfl rfl rfl rfl (by decide) rd3 (f := AV.int .i64) (fun a _ => rfl)).map id (fun _ => rfl) (fun _ _ => trivial)
theorem rv22 : RdV E 22 (fun _ : List Int => True) (fun l => .view 1 (l.map (AV.int .i64))) := .slice hE (e := 3) (by kernel_rfl) rd22 (fun _ => rfl)
theorem rd24 : Rd E 24 (fun v : VL => inI v.n ∧ v.s.size ≤ maxLen) VL.cs :=
  (rd_struct hE (i := ⟨.struct [(0, 3), (1, 3), (2, 9)], 3, 32, [.int .i64 0, .int .i64 0, .string ByteArray.empty], true, true⟩) rfl rfl
    (rdF_cons hE (o1 := 1) rfl rfl rd3 (rdF_cons hE (o1 := 2) rfl rfl rd3 (rdF_cons hE (o1 := 3) rfl rfl rd9 rdF_nil)))).map
    (fun p => (⟨p.1, p.2.1, p.2.2.1⟩ : VL)) (fun _ => rfl) (fun _ h => ⟨inI_wf h.2.1, h.2.2.1⟩)
theorem rv24 : RdV E 24 (fun v : VL => inI v.n ∧ v.s.size ≤ maxLen) VL.av := RdV.agg hE (i := ⟨.struct [(0, 3), (1, 3), (2, 9)], 3, 32, [.int .i64 0, .int .i64 0, .string ByteArray.empty], true, true⟩) rfl rfl rd24 (fun _ => rfl)
theorem rd29 : Rd E 29 (fun l : List VL => ∀ v ∈ l, inI v.n) (fun l => [.view 3 (l.map VL.av)]) :=
  (rd_slice hE (i := ⟨.slice 24, 1, 24, [.slice none 0 0], false, false⟩) rfl rfl rfl rfl (by decide) rd24 (f := VL.av) (fun a _ => rfl)).map id (fun _ => rfl) (fun _ h v hv => (h.2 v hv).1)
theorem rv29 : RdV E 29 (fun l : List VL => ∀ v ∈ l, inI v.n) (fun l => .view 3 (l.map VL.av)) := .slice hE (e := 24) (by kernel_rfl) rd29 (fun _ => rfl)
theorem rd28 : Rd E 28 (fun l : List VL => ∀ v ∈ l, inI v.n) (fun l => [.view 3 (l.map VL.av)]) :=
  (rd_slice hE (i := ⟨.slice 24, 1, 24, [.slice none 0 0], false, false⟩) rfl rfl rfl rfl (by decide) rd24 (f := VL.av) (fun a _ => rfl)).map id (fun _ => rfl) (fun _ h v hv => (h.2 v hv).1)
theorem rv28 : RdV E 28 (fun l : List VL => ∀ v ∈ l, inI v.n) (fun l => .view 3 (l.map VL.av)) := .slice hE (e := 24) (by kernel_rfl) rd28 (fun _ => rfl)
theorem rd45 : Rd E 45 (fun r : RG => inI r.lo.n ∧ inI r.hi.n) RG.cs :=
  (rd_struct hE (i := ⟨.struct [(0, 4), (1, 4), (2, 4), (3, 24), (6, 24), (9, 4), (10, 4)], 11, 80, [.bool false, .bool false, .bool false, .int .i64 0, .int .i64 0, .string ByteArray.empty, .int .i64 0, .int .i64 0, .string ByteArray.empty, .bool false, .bool false], true, true⟩) rfl rfl
    (rdF_cons hE (o1 := 1) rfl rfl rd4 (rdF_cons hE (o1 := 2) rfl rfl rd4 (rdF_cons hE (o1 := 3) rfl rfl rd4 (rdF_cons hE (o1 := 6) rfl rfl rd24 (rdF_cons hE (o1 := 9) rfl rfl rd24 (rdF_cons hE (o1 := 10) rfl rfl rd4 (rdF_cons hE (o1 := 11) rfl rfl rd4 rdF_nil)))))))).map
    (fun p => (⟨p.1, p.2.1, p.2.2.1, p.2.2.2.1, p.2.2.2.2.1, p.2.2.2.2.2.1, p.2.2.2.2.2.2.1⟩ : RG)) (fun _ => rfl) (fun _ h => ⟨h.2.2.2.1.1, h.2.2.2.2.1.1⟩)
theorem rv45 : RdV E 45 (fun r : RG => inI r.lo.n ∧ inI r.hi.n) RG.av := RdV.agg hE ti45 rfl rd45 (fun _ => rfl)
theorem okIL_iff : ∀ {l : List EX}, EX.okIL l ↔ ∀ e ∈ l, e.okI
  | [] => by simp [EX.okIL]
  | e :: es => by simp [EX.okIL, okIL_iff (l := es)]
theorem rdN25 {N : Nat} (h : RdN N E 27 EX.okI EX.cs) : RdN (N + 1) E 25 EX.okIL (fun l => [.view 6 (l.map EX.av)]) :=
  (rdN_slice hE (i := ⟨.slice 27, 1, 24, [.slice none 0 0], false, false⟩) rfl rfl rfl ti27 (by decide) h (f := EX.av) (fun a => by rw [av_fs, cs_fs]; rfl)).map id (fun _ => rfl) (fun _ h => okIL_iff.2 h.2)
theorem rdN27 : ∀ N, RdN N E 27 EX.okI EX.cs
  | 0 => .zero ti27
  | N + 1 =>
    (rdN_struct hE ti27 rfl (rdFN_cons hE (o1 := 1) rfl rfl rd3.toN (rdFN_cons hE (o1 := 2) rfl rfl rd3.toN (rdFN_cons hE (o1 := 5) rfl rfl rd24.toN (rdFN_cons hE (o1 := 6) rfl rfl ((rdN25 (rdN27 N)).le (Nat.le_succ N)) rdFN_nil))))).map
      (fun p => EX.mk p.1 p.2.1 p.2.2.1.k p.2.2.1.n p.2.2.1.s p.2.2.2.1) (fun _ => by simp [cs_fs, EX.fs, EX.op, EX.n, EX.val, EX.args, VL.cs]) (fun _ h => ⟨h.2.2.1.1, h.2.2.2.1⟩)
theorem rd27 : Rd E 27 EX.okI EX.cs := .ofN rdN27
theorem rd25 : Rd E 25 EX.okIL (fun l => [.view 6 (l.map EX.av)]) := .ofN fun N => (rdN25 (rdN27 N)).le (Nat.le_succ N)
theorem rv27 : RdV E 27 EX.okI EX.av := RdV.agg hE ti27 rfl rd27 (fun e => by rw [av_fs, cs_fs])
theorem rv25 : RdV E 25 EX.okIL (fun l => .view 6 (l.map EX.av)) := .slice hE (e := 27) (by kernel_rfl) rd25 (fun _ => rfl)
theorem kids : Kids E.P (· < E.P.types.size) := kids_rows (by kernel_rfl) (by kernel_rfl)
theorem full : ∀ t e, t < E.P.types.size → E.P.underlying t = some (.slice e) → 0 < E.P.cellsOf e := slices_full_of E.P (by kernel_rfl)
theorem own : ownKnob Tryd.prog.godebug = none := by kernel_rfl
end Go.Proofs.Try
