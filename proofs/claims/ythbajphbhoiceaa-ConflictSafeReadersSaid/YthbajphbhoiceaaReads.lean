/-
  A part of the proof: see the text of the law.
-/
import Derived.Test.YthbajphbhoiceaaBase
import Derived.Test.YthbajphbhoiceaaAlphaR
set_option linter.unusedSimpArgs false
set_option linter.unusedVariables false
namespace Go.Proofs.Try
open Go.Al
open Go.ChangeShapes Go.WideShapes Go.ChangeAt Go.RowKit
set_option linter.unusedVariables false
set_option linter.unusedSimpArgs false

/-! ### what is read of a history -/
theorem rd3 : Rd E 3 (fun n : Int => (Lit.int .i64 n).wf = true) (fun n => [.int .i64 n]) := rd_int hE (i := ⟨.int .i64, 1, 8, [.int .i64 0], false, false⟩) rfl rfl rfl
theorem rd4 : Rd E 4 (fun _ : Bool => True) (fun b => [.bool b]) := rd_bool hE (i := ⟨.bool, 1, 1, [.bool false], false, false⟩) rfl rfl rfl
theorem rd33 : Rd E 33 (fun _ : List Int => True) (fun l => [.view 1 (l.map (AV.int .i64))]) :=
  (rd_slice hE (i := ⟨.slice 3, 1, 24, [.slice none 0 0], false, false⟩) rfl rfl rfl rfl (by decide) rd3 (f := AV.int .i64) (fun a _ => rfl)).map id (fun _ => rfl) (fun _ _ => trivial)
theorem rd44 : Rd E 44 (fun _ : Acc => True) accC :=
  (rd_struct hE (i := ⟨.struct [(0, 3), (1, 3), (2, 4), (3, 3), (4, 33), (5, 33)], 6, 80, [.int .i64 0, .int .i64 0, .bool false, .int .i64 0, .slice none 0 0, .slice none 0 0], true, true⟩) rfl rfl
    (rdF_cons hE (o1 := 1) rfl rfl rd3 (rdF_cons hE (o1 := 2) rfl rfl rd3 (rdF_cons hE (o1 := 3) rfl rfl rd4 (rdF_cons hE (o1 := 4) rfl rfl rd3 (rdF_cons hE (o1 := 5) rfl rfl rd33 (rdF_cons hE (o1 := 6) rfl rfl rd33 rdF_nil))))))).map
    (fun p => (⟨p.1, p.2.1, p.2.2.1, p.2.2.2.1, p.2.2.2.2.1, p.2.2.2.2.2.1⟩ : Acc)) (fun _ => rfl) (fun _ _ => trivial)
theorem rd22 : Rd E 22 (fun _ : List Acc => True) (fun l => [.view 6 (l.map accA)]) :=
  (rd_slice hE (i := ⟨.slice 44, 1, 24, [.slice none 0 0], false, false⟩) rfl rfl rfl rfl (by decide) rd44 (f := accA) (fun a _ => rfl)).map id (fun _ => rfl) (fun _ _ => trivial)
theorem rv22 : RdV E 22 (fun _ : List Acc => True) (fun l => .view 6 (l.map accA)) := .slice hE (e := 44) (by kernel_rfl) rd22 (fun _ => rfl)
theorem rv33 : RdV E 33 (fun _ : List Int => True) (fun l => .view 1 (l.map (AV.int .i64))) := .slice hE (e := 3) (by kernel_rfl) rd33 (fun _ => rfl)
theorem rv3 : RdV E 3 (fun n : Int => (Lit.int .i64 n).wf = true) (AV.int .i64) := .int hE (k := .i64) (by kernel_rfl) rd3 (fun _ => rfl)
theorem rd5 : Rd E 5 (fun n : Int => (Lit.int .u8 n).wf = true) (fun n => [.int .u8 n]) := rd_int hE (i := ⟨.int .u8, 1, 1, [.int .u8 0], false, false⟩) rfl rfl rfl
theorem rv5 : RdV E 5 (fun n : Int => (Lit.int .u8 n).wf = true) (AV.int .u8) := .int hE (k := .u8) (by kernel_rfl) rd5 (fun _ => rfl)
theorem rd50 : Rd E 50 (fun _ : List Int => True) (fun l => [.view 1 (l.map (AV.int .u8))]) :=
  (rd_slice hE (i := ⟨.slice 5, 1, 24, [.slice none 0 0], false, false⟩) rfl rfl rfl rfl (by decide) rd5 (f := AV.int .u8) (fun a _ => rfl)).map id (fun _ => rfl) (fun _ _ => trivial)
theorem rv50 : RdV E 50 (fun _ : List Int => True) (fun l => .view 1 (l.map (AV.int .u8))) := .slice hE (e := 5) (by kernel_rfl) rd50 (fun _ => rfl)
theorem kids : Kids E.P (· < E.P.types.size) := kids_rows (by kernel_rfl) (by kernel_rfl)
theorem full : ∀ t e, t < E.P.types.size → E.P.underlying t = some (.slice e) → 0 < E.P.cellsOf e := slices_full_of E.P (by kernel_rfl)
theorem own : ownKnob Try.prog.godebug = none := by kernel_rfl
end Go.Proofs.Try
