/-
  A part of the proof: see the text of the law.
-/
import Derived.Test.YtmmedfdilaijhaaGreatEaa
import Derived.Test.YtmmedfdilaijhaaGreatAlphaR
set_option linter.unusedSimpArgs false
set_option linter.unusedVariables false
namespace Go.Proofs.Try
open Go.Proofs.Tryz
open Go.Al
open Go.ChangeShapes Go.WideShapes Go.ChangeAt Go.RowKit
set_option linter.unusedVariables false
set_option linter.unusedSimpArgs false

theorem rd3 : Rd E 3 (fun n : Int => (Lit.int .i64 n).wf = true) (fun n => [.int .i64 n]) := rd_int hE (i := ⟨.int .i64, 1, 8, [.int .i64 0], false, false, false⟩) rfl rfl rfl
theorem rd4 : Rd E 4 (fun _ : Bool => True) (fun b => [.bool b]) := rd_bool hE (i := ⟨.bool, 1, 1, [.bool false], false, false, false⟩) rfl rfl rfl
theorem rd9 : Rd E 9 (fun s : ByteArray => s.size ≤ maxLen) (fun s => [.str s]) := rd_string hE (i := ⟨.string, 1, 16, [.string ByteArray.empty], false, false, false⟩) rfl rfl rfl
theorem rd97 : Rd E 97 (fun _ : VL => True) VL.cs :=
  (rd_struct hE (i := ⟨.struct [(0, 3), (1, 3), (2, 9)], 3, 32, [.int .i64 0, .int .i64 0, .string ByteArray.empty], true, true, false⟩) rfl rfl
    (rdF_cons hE (o1 := 1) rfl rfl rd3 (rdF_cons hE (o1 := 2) rfl rfl rd3 (rdF_cons hE (o1 := 3) rfl rfl rd9 rdF_nil)))).map
    (fun p => (⟨p.1, p.2.1, p.2.2.1⟩ : VL)) (fun _ => rfl) (fun _ _ => trivial)
theorem rd72 : Rd E 72 (fun _ : List VL => True) (fun l => [.view 3 (l.map VL.av)]) :=
  (rd_slice hE (i := ⟨.slice 97, 1, 24, [.slice none 0 0], false, false, false⟩) rfl rfl rfl rfl (by decide) rd97 (f := VL.av) (fun a _ => rfl)).map id (fun _ => rfl) (fun _ h => trivial)
theorem rd75 : Rd E 75 (fun w : Wr => (Lit.int .i64 w.t).wf = true ∧ (Lit.int .i64 w.r).wf = true) Wr.cs :=
  (rd_struct hE (i := ⟨.struct [(0, 3), (1, 3), (2, 4), (3, 72)], 4, 48, [.int .i64 0, .int .i64 0, .bool false, .slice none 0 0], true, true, false⟩) rfl rfl
    (rdF_cons hE (o1 := 1) rfl rfl rd3 (rdF_cons hE (o1 := 2) rfl rfl rd3 (rdF_cons hE (o1 := 3) rfl rfl rd4 (rdF_cons hE (o1 := 4) rfl rfl rd72 rdF_nil))))).map
    (fun p => (⟨p.1, p.2.1, p.2.2.1, p.2.2.2.1⟩ : Wr)) (fun _ => rfl) (fun _ h => ⟨h.1, h.2.1⟩)
theorem rd34 : Rd E 34 (fun l : List Wr => ∀ w ∈ l, (Lit.int .i64 w.t).wf = true ∧ (Lit.int .i64 w.r).wf = true) (fun l => [.view 4 (l.map Wr.av)]) :=
  (rd_slice hE (i := ⟨.slice 75, 1, 24, [.slice none 0 0], false, false, false⟩) rfl rfl rfl rfl (by decide) rd75 (f := Wr.av) (fun a _ => rfl)).map id (fun _ => rfl) (fun _ h => h.2)
theorem rd77 : Rd E 77 (fun _ : Hd => True) Hd.cs :=
  (rd_struct hE (i := ⟨.struct [(0, 3), (1, 3), (2, 3), (3, 72)], 4, 48, [.int .i64 0, .int .i64 0, .int .i64 0, .slice none 0 0], true, true, false⟩) rfl rfl
    (rdF_cons hE (o1 := 1) rfl rfl rd3 (rdF_cons hE (o1 := 2) rfl rfl rd3 (rdF_cons hE (o1 := 3) rfl rfl rd3 (rdF_cons hE (o1 := 4) rfl rfl rd72 rdF_nil))))).map
    (fun p => (⟨p.1, p.2.1, p.2.2.1, p.2.2.2.1⟩ : Hd)) (fun _ => rfl) (fun _ h => trivial)
theorem rd35 : Rd E 35 (fun _ : List Hd => True) (fun l => [.view 4 (l.map Hd.av)]) :=
  (rd_slice hE (i := ⟨.slice 77, 1, 24, [.slice none 0 0], false, false, false⟩) rfl rfl rfl rfl (by decide) rd77 (f := Hd.av) (fun a _ => rfl)).map id (fun _ => rfl) (fun _ h => trivial)
theorem rd37 : Rd E 37 (fun x : Hap => ∀ w ∈ x.ws, (Lit.int .i64 w.t).wf = true ∧ (Lit.int .i64 w.r).wf = true) Hap.cs :=
  (rd_struct hE (i := ⟨.struct [(0, 3), (1, 3), (2, 3), (3, 34), (4, 35)], 5, 72, [.int .i64 0, .int .i64 0, .int .i64 0, .slice none 0 0, .slice none 0 0], true, true, false⟩) rfl rfl
    (rdF_cons hE (o1 := 1) rfl rfl rd3 (rdF_cons hE (o1 := 2) rfl rfl rd3 (rdF_cons hE (o1 := 3) rfl rfl rd3 (rdF_cons hE (o1 := 4) rfl rfl rd34 (rdF_cons hE (o1 := 5) rfl rfl rd35 rdF_nil)))))).map
    (fun p => (⟨p.1, p.2.1, p.2.2.1, p.2.2.2.1, p.2.2.2.2.1⟩ : Hap)) (fun _ => rfl) (fun _ h => h.2.2.2.1)
theorem rd22 : Rd E 22 (fun h : List Hap => ∀ x ∈ h, ∀ w ∈ x.ws, (Lit.int .i64 w.t).wf = true ∧ (Lit.int .i64 w.r).wf = true) (fun l => [.view 5 (l.map Hap.av)]) :=
  (rd_slice hE (i := ⟨.slice 37, 1, 24, [.slice none 0 0], false, false, false⟩) rfl rfl rfl rfl (by decide) rd37 (f := Hap.av) (fun a _ => rfl)).map id (fun _ => rfl) (fun _ h => h.2)
theorem rv22 : RdV E 22 (fun h : List Hap => ∀ x ∈ h, ∀ w ∈ x.ws, (Lit.int .i64 w.t).wf = true ∧ (Lit.int .i64 w.r).wf = true) (fun l => .view 5 (l.map Hap.av)) := .slice hE (e := 37) (by kernel_rfl) rd22 (fun _ => rfl)
theorem rd25 : Rd E 25 (fun _ : List Int => True) (fun l => [.view 1 (l.map (AV.int .i64))]) :=
  (rd_slice hE (i := ⟨.slice 3, 1, 24, [.slice none 0 0], false, false, false⟩) rfl rfl rfl rfl (by decide) rd3 (f := AV.int .i64) (fun a _ => rfl)).map id (fun _ => rfl) (fun _ _ => trivial)
theorem kids : Kids E.P (· < E.P.types.size) := kids_rows (by kernel_rfl) (by kernel_rfl)
theorem full : ∀ t e, t < E.P.types.size → E.P.underlying t = some (.slice e) → 0 < E.P.cellsOf e := slices_full_of E.P (by kernel_rfl)
theorem own : ownKnob Tryz.prog.godebug = none := by kernel_rfl
theorem glob_ok (γ : Gm) : GlobOk γ := fun g x hx => by simp [glob] at hx
end Go.Proofs.Try

