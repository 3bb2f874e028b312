/-
  A part of the proof: see the text of the law.
-/
import Derived.Test.YthbajphbhoiceaaReads
import Derived.Test.YthbajphbhoiceaaCbn
set_option linter.unusedSimpArgs false
set_option linter.unusedVariables false
namespace Go.Proofs.Try
open Go.Al
set_option linter.unusedVariables false
set_option linter.unusedSimpArgs false
theorem u8_wf {n : Int} (h : (Lit.int .u8 n).wf = true) : 0 ≤ n ∧ n ≤ 255 := by
  simpa [Lit.wf, IntKind.min, IntKind.max, IntKind.signed, IntKind.bits] using h
theorem rd54 : Rd E 54 TryT.ok tryC :=
  (rd_struct hE (i := ⟨.struct [(0, 5), (1, 5), (2, 5), (3, 5)], 4, 4, [.int .u8 0, .int .u8 0, .int .u8 0, .int .u8 0], true, true⟩) rfl rfl
    (rdF_cons hE (o1 := 1) rfl rfl rd5 (rdF_cons hE (o1 := 2) rfl rfl rd5 (rdF_cons hE (o1 := 3) rfl rfl rd5 (rdF_cons hE (o1 := 4) rfl rfl rd5 rdF_nil))))).map
    (fun p => (⟨p.1, p.2.1, p.2.2.1, p.2.2.2.1⟩ : TryT)) (fun _ => rfl) (fun p hp => ⟨(u8_wf hp.1).1, (u8_wf hp.1).2, (u8_wf hp.2.1).1, (u8_wf hp.2.1).2⟩)
theorem rd46 : Rd E 46 (fun l : List TryT => ∀ t ∈ l, t.ok) (fun l => [.view 4 (l.map tryA)]) :=
  (rd_slice hE (i := ⟨.slice 54, 1, 24, [.slice none 0 0], false, false⟩) rfl rfl rfl rfl (by decide) rd54 (f := tryA) (fun a _ => rfl)).map id (fun _ => rfl) (fun _ h => h.2)
theorem rv46 : RdV E 46 (fun l : List TryT => ∀ t ∈ l, t.ok) (fun l => .view 4 (l.map tryA)) := .slice hE (e := 54) (by kernel_rfl) rd46 (fun _ => rfl)
end Go.Proofs.Try
