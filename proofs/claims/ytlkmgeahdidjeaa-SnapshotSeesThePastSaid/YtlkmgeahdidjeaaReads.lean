/-
  A part of the proof: see the text of the law.
-/
import Derived.Test.YtlkmgeahdidjeaaEau
import Derived.Test.YtlkmgeahdidjeaaAlphaR
set_option linter.unusedSimpArgs false
set_option linter.unusedVariables false
namespace Go.Proofs.Try
open Go.Al
open Go.ChangeShapes Go.WideShapes Go.ChangeAt Go.RowKit
set_option linter.unusedVariables false
set_option linter.unusedSimpArgs false

/-! ### what is read of a history -/
theorem rd3 : Rd E 3 (fun n : Int => (Lit.int .i64 n).wf = true) (fun n => [.int .i64 n]) := rd_int hE (i := ⟨.int .i64, 1, 8, [.int .i64 0], false, false, false⟩) rfl rfl rfl
theorem rd4 : Rd E 4 (fun _ : Bool => True) (fun b => [.bool b]) := rd_bool hE (i := ⟨.bool, 1, 1, [.bool false], false, false, false⟩) rfl rfl rfl
theorem rd9 : Rd E 9 (fun s : ByteArray => s.size ≤ maxLen) (fun s => [.str s]) := rd_string hE (i := ⟨.string, 1, 16, [.string ByteArray.empty], false, false, false⟩) rfl rfl rfl
theorem rv3 : RdV E 3 (fun n : Int => (Lit.int .i64 n).wf = true) (AV.int .i64) := .int hE (k := .i64) (by kernel_rfl) rd3 (fun _ => rfl)
theorem rd25 : Rd E 25 (fun _ : List Int => True) (fun l => [.view 1 (l.map (AV.int .i64))]) :=
  (rd_slice hE (i := ⟨.slice 3, 1, 24, [.slice none 0 0], false, false, false⟩) rfl rfl rfl rfl (by decide) rd3 (f := AV.int .i64) (fun a _ => rfl)).map id (fun _ => rfl) (fun _ _ => trivial)
theorem rv25 : RdV E 25 (fun _ : List Int => True) (fun l => .view 1 (l.map (AV.int .i64))) := .slice hE (e := 3) (by kernel_rfl) rd25 (fun _ => rfl)
theorem rd53 : Rd E 53 (fun v : VL => True) VL.cs :=
  (rd_struct hE (i := ⟨.struct [(0, 3), (1, 3), (2, 9)], 3, 32, [.int .i64 0, .int .i64 0, .string ByteArray.empty], true, true, false⟩) rfl rfl
    (rdF_cons hE (o1 := 1) rfl rfl rd3 (rdF_cons hE (o1 := 2) rfl rfl rd3 (rdF_cons hE (o1 := 3) rfl rfl rd9 rdF_nil)))).map
    (fun p => (⟨p.1, p.2.1, p.2.2.1⟩ : VL)) (fun _ => rfl) (fun _ _ => trivial)
theorem rd27 : Rd E 27 (fun l : List VL => True) (fun l => [.view 3 (l.map VL.av)]) :=
  (rd_slice hE (i := ⟨.slice 53, 1, 24, [.slice none 0 0], false, false, false⟩) rfl rfl rfl rfl (by decide) rd53 (f := VL.av) (fun a _ => rfl)).map id (fun _ => rfl) (fun _ _ => trivial)
theorem rd29 : Rd E 29 (fun _ : Ver => True) Ver.cs :=
  (rd_struct hE (i := ⟨.struct [(0, 3), (1, 3), (2, 4), (3, 27)], 4, 48, [.int .i64 0, .int .i64 0, .bool false, .slice none 0 0], true, true, false⟩) rfl rfl
    (rdF_cons hE (o1 := 1) rfl rfl rd3 (rdF_cons hE (o1 := 2) rfl rfl rd3 (rdF_cons hE (o1 := 3) rfl rfl rd4 (rdF_cons hE (o1 := 4) rfl rfl rd27 rdF_nil))))).map
    (fun p => (⟨p.1, p.2.1, p.2.2.1, p.2.2.2.1⟩ : Ver)) (fun _ => rfl) (fun _ _ => trivial)
theorem rd22 : Rd E 22 (fun _ : List Ver => True) (fun l => [.view 4 (l.map Ver.av)]) :=
  (rd_slice hE (i := ⟨.slice 29, 1, 24, [.slice none 0 0], false, false, false⟩) rfl rfl rfl rfl (by decide) rd29 (f := Ver.av) (fun a _ => rfl)).map id (fun _ => rfl) (fun _ _ => trivial)
theorem rv22 : RdV E 22 (fun _ : List Ver => True) (fun l => .view 4 (l.map Ver.av)) := .slice hE (e := 29) (by kernel_rfl) rd22 (fun _ => rfl)
theorem rd49 : Rd E 49 (fun _ : Wr => True) Wr.cs :=
  (rd_struct hE (i := ⟨.struct [(0, 3), (1, 3), (2, 4), (3, 27)], 4, 48, [.int .i64 0, .int .i64 0, .bool false, .slice none 0 0], true, true, false⟩) rfl rfl
    (rdF_cons hE (o1 := 1) rfl rfl rd3 (rdF_cons hE (o1 := 2) rfl rfl rd3 (rdF_cons hE (o1 := 3) rfl rfl rd4 (rdF_cons hE (o1 := 4) rfl rfl rd27 rdF_nil))))).map
    (fun p => (⟨p.1, p.2.1, p.2.2.1, p.2.2.2.1⟩ : Wr)) (fun _ => rfl) (fun _ _ => trivial)
theorem rd43 : Rd E 43 (fun _ : List Wr => True) (fun l => [.view 4 (l.map Wr.av)]) :=
  (rd_slice hE (i := ⟨.slice 49, 1, 24, [.slice none 0 0], false, false, false⟩) rfl rfl rfl rfl (by decide) rd49 (f := Wr.av) (fun a _ => rfl)).map id (fun _ => rfl) (fun _ _ => trivial)
theorem rv43 : RdV E 43 (fun _ : List Wr => True) (fun l => .view 4 (l.map Wr.av)) := .slice hE (e := 49) (by kernel_rfl) rd43 (fun _ => rfl)
theorem kids : Kids E.P (· < E.P.types.size) := kids_rows (by kernel_rfl) (by kernel_rfl)
theorem full : ∀ t e, t < E.P.types.size → E.P.underlying t = some (.slice e) → 0 < E.P.cellsOf e := slices_full_of E.P (by kernel_rfl)
theorem own : ownKnob Try.prog.godebug = none := by kernel_rfl
theorem glob_ok (γ : Gm) : GlobOk γ := fun g x hx => by simp [glob] at hx
end Go.Proofs.Try
