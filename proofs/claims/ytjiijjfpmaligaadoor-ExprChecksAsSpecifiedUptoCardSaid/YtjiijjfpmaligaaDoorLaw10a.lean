/-
  for every expression of at most 300 nodes, whatever it is, and at most 20 kinds, whatever they are: Size, Columns, Equal and Check return what the specification defines; for arguments whose values and letters are together at most 1048576.
-/
import Derived.Test.YtjiijjfpmaligaaDoorLaid
import Derived.Test.YtjiijjfpmaligaaDoorReadsm
import Derived.Test.YtjiijjfpmaligaaDoorCbe
import Derived.Test.YtjiijjfpmaligaaDoorCbag
set_option linter.unusedSimpArgs false
set_option linter.unusedVariables false
namespace Go.Proofs.YtjiijjfpmaligaaDoor
open Go.Al Go.Proofs.Try
open Go.ChangeShapes Go.WideShapes Go.ChangeAt Go.RowKit
set_option linter.unusedVariables false
set_option maxRecDepth 100000

theorem reads10 (os : Os) {H : Type} (enc : TypeId × Value → H) : ∃ places, DataW.whole enc Tryd.prog ((World.doorLaid Tryd.prog 29 os).forCall (fun _ _ => 0) ⟨#[], #[.slice none 0 0, .agg #[.int .i64 0, .int .i64 0, .int .i64 0, .int .i64 0, .string ByteArray.empty, .slice none 0 0], .agg #[.int .i64 0, .int .i64 0, .int .i64 0, .int .i64 0, .string ByteArray.empty, .slice none 0 0]], []⟩).memory Tryd.f10.params.toList Rows.exprChecksAsSpecifiedSpec.vars false
    #[Value.slice none 0 0, .agg #[.int .i64 0, .int .i64 0, .int .i64 0, .int .i64 0, .string ByteArray.empty, .slice none 0 0], .agg #[.int .i64 0, .int .i64 0, .int .i64 0, .int .i64 0, .string ByteArray.empty, .slice none 0 0]].toList 8 = some ([.nil, .agg [.lit (.int .i64 0), .lit (.int .i64 0), .agg [.lit (.int .i64 0), .lit (.int .i64 0), .lit (.string [])], .nil], .agg [.lit (.int .i64 0), .lit (.int .i64 0), .agg [.lit (.int .i64 0), .lit (.int .i64 0), .lit (.string [])], .nil]], [], places) :=
  ⟨[], by kernel_rfl⟩
theorem contract10 (sane : Sane) (H : Type) (enc : TypeId × Value → H) (W : World) (base : Nat) (args : Array Value) (ds gs : List (DataW H)) (before : List MemPlace)
    (hval : ∀ (j : Nat) t v, Tryd.f10.params[j]? = some t → args[j]? = some v → Value.okWide Tryd.prog W .any base t v)
    (hW : DataW.Whole enc Tryd.prog Tryd.f10.params.toList Rows.exprChecksAsSpecifiedSpec.vars false W args.toList ds gs before) (hL : laidMetH Tryd.prog laidL W) (hk : Rows.uptoSmall H (ds ++ gs) = true) :
    Calls Tryd.prog 10 args W fun e W' => ∃ v, e = .returned v ∧ Rows.exprChecksAsSpecifiedSpec.post enc Tryd.prog Tryd.f10 false true false false W args v W' :=
  contract_ofM hE kids full (s := Rows.exprChecksAsSpecifiedSpec) (tb := 4) (by rw [Tryd.params10]; decide +kernel) (by rw [Tryd.params10]; exact readsM_cons rv22.m (readsM_cons rm27 (readsM_cons rm27 (readsM_nil))))
    rfl (by rw [Tryd.params10]; rintro H (_ | ⟨d0, (_ | ⟨d1, (_ | ⟨d2, (_ | ⟨dz, ds⟩)⟩)⟩)⟩) hl <;> simp at hl; exact ⟨rfl, rfl, rfl⟩) (by kernel_rfl) (by kernel_rfl) H enc W base args ds gs before (glob_ok hL)
    (by have hs := small_le hk; rintro _ ⟨_, _, a, _, rfl, ha, ⟨_, _, b, _, rfl, hb, ⟨_, _, c, _, rfl, hc, ⟨rfl, rfl⟩, rfl⟩, rfl⟩, rfl⟩; exact c10 sane a b c hb.1 (small_two hs hb.2) (small_three hs hc.2)) hval hW
theorem lifted10 (os : Os) (started : os.Started) (H : Type) (enc : TypeId × Value → H) (F : Stop.Interp) :
    ReturnsInHanded {} Tryd.checked os 10 .any ((Rows.OpenSpec.upto Rows.exprChecksAsSpecifiedSpec).preRow enc Tryd.prog Tryd.f10 Rows.exprChecksAsSpecifiedUptoRow.domain false Rows.exprChecksAsSpecifiedUptoRow.laid) (((Rows.OpenSpec.upto Rows.exprChecksAsSpecifiedSpec).at F).post enc Tryd.prog Tryd.f10 false true false false) := by
  obtain ⟨places, hx⟩ := reads10 os enc
  refine returnsInHanded_of_row (C := Tryd.checked) (s := Rows.OpenSpec.upto Rows.exprChecksAsSpecifiedSpec) own started (by kernel_rfl) Tryd.func10
    (witness_row_atRef (enc := enc) (C := Tryd.checked) false (World.doorLaid Tryd.prog 29 os) #[.slice none 0 0, .agg #[.int .i64 0, .int .i64 0, .int .i64 0, .int .i64 0, .string ByteArray.empty, .slice none 0 0], .agg #[.int .i64 0, .int .i64 0, .int .i64 0, .int .i64 0, .string ByteArray.empty, .slice none 0 0]] rfl (by kernel_rfl) (by kernel_rfl) (by kernel_rfl)
      (OpenSpec.preRow_of_cond 8 hx (by kernel_rfl) (fun k hk => by cases hk; kernel_rfl) (by kernel_rfl) (door_met os _))) ?_
  intro W base args ds gs before hval hW _ hcond _ hL _ _
  exact contract10 c13 H enc W base args ds gs before hval hW hL (hcond _ rfl)
theorem said10 : Rows.ExprChecksAsSpecifiedUptoSaid :=
  OpenClaim.holds_of_cond 10 Tryd.f10 rfl rfl rfl rfl rfl rfl rfl ⟨rfl, rfl, rfl, rfl, rfl⟩ rfl rfl rfl rfl rfl (by kernel_rfl) Tryd.func10 (by kernel_rfl)
    (of_decide_eq_true (by kernel_rfl)) (by unfold Func.isWrapper; first | (rw [if_pos (by decide +kernel)]; kernel_rfl) | (rw [if_neg (by decide +kernel)]; exact ⟨rfl, rfl⟩))
    (fun os started H enc _ F => by rw [OpenClaim.pre_eq_preRow]; exact lifted10 os started H enc F)
theorem plain10 (f : FuncId) (fn : Func) (hf : Tryd.pinned.checked.prog.funcNamed "alum/alumlaw36.ExprChecksAsSpecified" = some f) (hfn : Tryd.pinned.checked.prog.funcs[f]? = some fn) :
    false = Tryd.pinned.checked.prog.looks [] ∧ ∀ (j : Nat) t, fn.params[j]? = some t → Tryd.pinned.checked.prog.wantsStandIn t = false := by
  obtain rfl : f = 10 := Option.some.inj ((show Tryd.prog.funcNamed "alum/alumlaw36.ExprChecksAsSpecified" = some 10 by kernel_rfl).symm.trans hf) |>.symm
  obtain rfl : fn = Tryd.f10 := (Option.some.inj (Tryd.func10.symm.trans hfn)).symm
  refine ⟨by kernel_rfl, fun j t ht => ?_⟩
  rw [Tryd.params10] at ht
  have ht := Array.mem_of_getElem? ht
  have ht : t = 22 ∨ t = 27 := by simpa using ht
  rcases ht with rfl | rfl
  · exact (show Tryd.prog.wantsStandIn 22 = false by kernel_rfl)
  · exact (show Tryd.prog.wantsStandIn 27 = false by kernel_rfl)
/-- The card. -/
theorem exprChecksAsSpecifiedUpto_card : Rows.ExprChecksAsSpecifiedUptoCardSaid :=
  Claim7.holds_tied_plain_at .later [] _ _ _ _ said10 (fun _ h => by cases h) (by kernel_rfl) (fun _ h => by cases h) exprChecksAsSpecifiedUpto_row_tie rfl ⟨rfl, rfl⟩ (by kernel_rfl) rfl plain10 (by kernel_rfl)
end Go.Proofs.YtjiijjfpmaligaaDoor
