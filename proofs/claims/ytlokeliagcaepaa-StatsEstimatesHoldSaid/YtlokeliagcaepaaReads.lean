/-
  A part of the proof: see the text of the law.
-/
import Derived.Test.YtlokeliagcaepaaEal
import Derived.Test.YtlokeliagcaepaaAlphaR
set_option linter.unusedSimpArgs false
set_option linter.unusedVariables false
namespace Go.Al
open Go.ChangeShapes Go.WideShapes Go.ChangeAt Go.RowKit
theorem RdV.agg {E : Env} {α : Type} {inv : α → Prop} {c : α → List AV} (hE : E.ok) {T : TypeId} {i : TInfo} {fl : List (Nat × TypeId)} (hT : E.TI T = some i) (hd : i.desc = .struct fl) {f : α → AV} (h : Rd E T inv c) (hf : ∀ a, f a = .agg (c a)) : RdV E T inv f := by
  intro w H enc base v d p hok ht
  obtain ⟨n, hn⟩ := ht
  obtain ⟨fs, hu, _⟩ := (hE T i hT).struct hd
  obtain ⟨cs, hcs, hsz⟩ := okWide_struct hu hok
  subst hcs
  obtain ⟨i', _, h⟩ := h
  obtain ⟨_, h2, a, h3, h4⟩ := h w H enc n _ _ hn
  refine ⟨a, h3, ?_⟩
  rw [hf]
  refine ⟨cs.toList, by simp, ?_, ?_⟩
  · simpa [Value.cells] using h4
  · simpa [Value.cells] using h2
end Go.Al
namespace Go.Proofs.Try
open Go.Al
open Go.ChangeShapes Go.WideShapes Go.ChangeAt Go.RowKit
set_option linter.unusedVariables false
set_option linter.unusedSimpArgs false

/-! ### what is read of a histogram -/
theorem rd3 : Rd E 3 (fun n : Int => (Lit.int .i64 n).wf = true) (fun n => [.int .i64 n]) := rd_int hE (i := ⟨.int .i64, 1, 8, [.int .i64 0], false, false, false⟩) rfl rfl rfl
theorem rd5 : Rd E 5 (fun n : Int => (Lit.int .u8 n).wf = true) (fun n => [.int .u8 n]) := rd_int hE (i := ⟨.int .u8, 1, 1, [.int .u8 0], false, false, false⟩) rfl rfl rfl
theorem rd6 : Rd E 6 (fun n : Int => (Lit.int .u8 n).wf = true) (fun n => [.int .u8 n]) := rd_int hE (i := ⟨.int .u8, 1, 1, [.int .u8 0], false, false, false⟩) rfl rfl rfl
theorem rd4 : Rd E 4 (fun _ : Bool => True) (fun b => [.bool b]) := rd_bool hE (i := ⟨.bool, 1, 1, [.bool false], false, false, false⟩) rfl rfl rfl
theorem rd9 : Rd E 9 (fun s : ByteArray => s.size ≤ maxLen) (fun s => [.str s]) := rd_string hE (i := ⟨.string, 1, 16, [.string ByteArray.empty], false, false, false⟩) rfl rfl rfl
theorem inI_wf {n : Int} (h : (Lit.int .i64 n).wf = true) : inI n := by
  have h1 : IntKind.i64.min = -9223372036854775808 := by decide
  have h2 : IntKind.i64.max = 9223372036854775807 := by decide
  simp only [Lit.wf, h1, h2, Bool.and_eq_true, decide_eq_true_eq] at h
  exact h
theorem u8_wf {n : Int} (h : (Lit.int .u8 n).wf = true) : 0 ≤ n ∧ n ≤ 255 := by
  have h1 : IntKind.u8.min = 0 := by decide
  have h2 : IntKind.u8.max = 255 := by decide
  simp only [Lit.wf, h1, h2, Bool.and_eq_true, decide_eq_true_eq] at h
  exact h
theorem rv3 : RdV E 3 (fun n : Int => (Lit.int .i64 n).wf = true) (AV.int .i64) := .int hE (k := .i64) (by kernel_rfl) rd3 (fun _ => rfl)
theorem rv5 : RdV E 5 (fun n : Int => 0 ≤ n ∧ n ≤ 255) (AV.int .u8) := .int hE (k := .u8) (by kernel_rfl) (rd5.map id (fun _ => rfl) (fun _ h => u8_wf h)) (fun _ => rfl)
theorem rv6 : RdV E 6 (fun n : Int => 0 ≤ n ∧ n ≤ 255) (AV.int .u8) := .int hE (k := .u8) (by kernel_rfl) (rd6.map id (fun _ => rfl) (fun _ h => u8_wf h)) (fun _ => rfl)
theorem rd40 : Rd E 40 (fun v : VL => inI v.n) VL.cs :=
  (rd_struct hE (i := ⟨.struct [(0, 3), (1, 3), (2, 9)], 3, 32, [.int .i64 0, .int .i64 0, .string ByteArray.empty], true, true, true⟩) rfl rfl
    (rdF_cons hE (o1 := 1) rfl rfl rd3 (rdF_cons hE (o1 := 2) rfl rfl rd3 (rdF_cons hE (o1 := 3) rfl rfl rd9 rdF_nil)))).map
    (fun p => (⟨p.1, p.2.1, p.2.2.1⟩ : VL)) (fun _ => rfl) (fun p h => inI_wf h.2.1)
theorem rd64 : Rd E 64 (fun _ : List VL => True) (fun l => [.view 3 (l.map VL.av)]) :=
  (rd_slice hE (i := ⟨.slice 40, 1, 24, [.slice none 0 0], false, false, false⟩) rfl rfl rfl rfl (by decide) rd40 (f := VL.av) (fun a _ => rfl)).map id (fun _ => rfl) (fun _ h => trivial)
theorem rd22 : Rd E 22 (fun _ : List (List VL) => True) (fun l => [.view 1 (l.map fun r => .view 3 (r.map VL.av))]) :=
  (rd_slice hE (i := ⟨.slice 64, 1, 24, [.slice none 0 0], false, false, false⟩) rfl rfl rfl rfl (by decide) rd64 (f := fun r => .view 3 (r.map VL.av)) (fun a _ => rfl)).map id (fun _ => rfl) (fun _ h => trivial)
theorem rv22 : RdV E 22 (fun _ : List (List VL) => True) (fun l => .view 1 (l.map fun r => .view 3 (r.map VL.av))) := .slice hE (e := 64) (by kernel_rfl) rd22 (fun _ => rfl)
theorem rd66 : Rd E 66 Bar.inR Bar.cs :=
  (rd_struct hE (i := ⟨.struct [(0, 40), (3, 40), (6, 3), (7, 3), (8, 3)], 9, 88, [.int .i64 0, .int .i64 0, .string ByteArray.empty, .int .i64 0, .int .i64 0, .string ByteArray.empty, .int .i64 0, .int .i64 0, .int .i64 0], true, true, false⟩) rfl rfl
    (rdF_cons hE (o1 := 3) rfl rfl rd40 (rdF_cons hE (o1 := 6) rfl rfl rd40 (rdF_cons hE (o1 := 7) rfl rfl rd3 (rdF_cons hE (o1 := 8) rfl rfl rd3 (rdF_cons hE (o1 := 9) rfl rfl rd3 rdF_nil)))))).map
    (fun p => (⟨p.1, p.2.1, p.2.2.1, p.2.2.2.1, p.2.2.2.2.1⟩ : Bar)) (fun _ => rfl) (fun p h => ⟨h.1, h.2.1, inI_wf h.2.2.1, inI_wf h.2.2.2.1, inI_wf h.2.2.2.2.1⟩)
theorem rd31 : Rd E 31 (fun l : List Bar => ∀ b ∈ l, b.inR) (fun l => [.view 9 (l.map Bar.av)]) :=
  (rd_slice hE (i := ⟨.slice 66, 1, 24, [.slice none 0 0], false, false, false⟩) rfl rfl rfl rfl (by decide) rd66 (f := Bar.av) (fun a _ => rfl)).map id (fun _ => rfl) (fun _ h => h.2)
theorem rd33 : Rd E 33 (fun h : Hist => inI h.rows ∧ inI h.nulls ∧ ∀ b ∈ h.bars, b.inR) Hist.cs :=
  (rd_struct hE (i := ⟨.struct [(0, 3), (1, 3), (2, 31)], 3, 40, [.int .i64 0, .int .i64 0, .slice none 0 0], true, true, false⟩) rfl rfl
    (rdF_cons hE (o1 := 1) rfl rfl rd3 (rdF_cons hE (o1 := 2) rfl rfl rd3 (rdF_cons hE (o1 := 3) rfl rfl rd31 rdF_nil)))).map
    (fun p => (⟨p.1, p.2.1, p.2.2.1⟩ : Hist)) (fun _ => rfl) (fun p h => ⟨inI_wf h.1, inI_wf h.2.1, h.2.2.1⟩)
theorem rv33 : RdV E 33 (fun h : Hist => inI h.rows ∧ inI h.nulls ∧ ∀ b ∈ h.bars, b.inR) Hist.av := RdV.agg hE (i := ⟨.struct [(0, 3), (1, 3), (2, 31)], 3, 40, [.int .i64 0, .int .i64 0, .slice none 0 0], true, true, false⟩) rfl rfl rd33 (fun _ => rfl)
abbrev RG.cells (x : RG) : List AV := [.bool x.e, .bool x.nl, .bool x.all, .int .i64 x.lo.k, .int .i64 x.lo.n, .str x.lo.s, .int .i64 x.hi.k, .int .i64 x.hi.n, .str x.hi.s, .bool x.li, .bool x.ri]
theorem rd42 : Rd E 42 (fun x : RG => inI x.lo.n ∧ inI x.hi.n) RG.cells :=
  (rd_struct hE (i := ⟨.struct [(0, 4), (1, 4), (2, 4), (3, 40), (6, 40), (9, 4), (10, 4)], 11, 80, [.bool false, .bool false, .bool false, .int .i64 0, .int .i64 0, .string ByteArray.empty, .int .i64 0, .int .i64 0, .string ByteArray.empty, .bool false, .bool false], true, true, false⟩) rfl rfl
    (rdF_cons hE (o1 := 1) rfl rfl rd4 (rdF_cons hE (o1 := 2) rfl rfl rd4 (rdF_cons hE (o1 := 3) rfl rfl rd4 (rdF_cons hE (o1 := 6) rfl rfl rd40 (rdF_cons hE (o1 := 9) rfl rfl rd40 (rdF_cons hE (o1 := 10) rfl rfl rd4 (rdF_cons hE (o1 := 11) rfl rfl rd4 rdF_nil)))))))).map
    (fun p => (⟨p.1, p.2.1, p.2.2.1, p.2.2.2.1, p.2.2.2.2.1, p.2.2.2.2.2.1, p.2.2.2.2.2.2.1⟩ : RG)) (fun _ => rfl) (fun p h => ⟨h.2.2.2.1, h.2.2.2.2.1⟩)
theorem rv42 : RdV E 42 (fun x : RG => inI x.lo.n ∧ inI x.hi.n) (fun x => .agg x.cells) := RdV.agg hE (i := ⟨.struct [(0, 4), (1, 4), (2, 4), (3, 40), (6, 40), (9, 4), (10, 4)], 11, 80, [.bool false, .bool false, .bool false, .int .i64 0, .int .i64 0, .string ByteArray.empty, .int .i64 0, .int .i64 0, .string ByteArray.empty, .bool false, .bool false], true, true, false⟩) rfl rfl rd42 (fun _ => rfl)
theorem kids : Kids E.P (· < E.P.types.size) := kids_rows (by kernel_rfl) (by kernel_rfl)
theorem full : ∀ t e, t < E.P.types.size → E.P.underlying t = some (.slice e) → 0 < E.P.cellsOf e := slices_full_of E.P (by kernel_rfl)
theorem own : ownKnob Try.prog.godebug = none := by kernel_rfl
theorem glob_ok (γ : Gm) : GlobOk γ := fun g x hx => by simp [glob] at hx
end Go.Proofs.Try
