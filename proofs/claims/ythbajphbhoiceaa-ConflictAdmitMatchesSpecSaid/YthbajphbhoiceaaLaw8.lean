/-
  For every history and two integers, Admit and Safe return what the specification returns; no condition.
-/
import Derived.Test.YthbajphbhoiceaaCbj
import Derived.Test.YthbajphbhoiceaaReads
import Derived.Test.YthbajphbhoiceaaRows
set_option linter.unusedSimpArgs false
set_option linter.unusedVariables false
namespace Go.Proofs.Try
open Go.Al
set_option maxRecDepth 100000
/-- alum/alumlaw26.ConflictAdmitMatchesSpec -/
def mc8 : MC :=
 (.seq (.ops [(none, (.v (.mov 6 (.c (.bool false)))))])
 (.seq (.ops [(none, (.e (.call (some 12) 16 []))),
  (none, (.v (.mov 7 (.t 12))))])
 (.seq (.seq (.ops [(none, (.v (.mov 13 (.t 0)))),
  (none, (.e (.call (some 14) 17 [(.t 13)]))),
  (none, (.v (.not 15 (.t 14))))])
 (.cond 15
  (.seq (.ops [(none, (.v (.mov 16 (.t 7)))),
   (none, (.v (.mov 6 (.t 16))))])
  .ret)
  .skip))
 (.seq (.ops [(none, (.v (.mov 18 (.t 0)))),
  (none, (.v (.mov 19 (.t 1)))),
  (none, (.e (.call (some 20) 34 [(.t 18), (.t 19)]))),
  (none, (.v (.mov 17 (.t 20)))),
  (none, (.v (.ext 21 0 (.t 17)))),
  (none, (.v (.ext 22 1 (.t 17)))),
  (none, (.v (.mov 8 (.t 21)))),
  (none, (.v (.mov 9 (.t 22))))])
 (.seq (.ops [(none, (.v (.mov 24 (.t 0)))),
  (none, (.v (.mov 25 (.t 1)))),
  (none, (.e (.call (some 26) 35 [(.t 24), (.t 25)]))),
  (none, (.v (.mov 23 (.t 26)))),
  (none, (.v (.ext 27 0 (.t 23)))),
  (none, (.v (.ext 28 1 (.t 23)))),
  (none, (.v (.mov 10 (.t 27)))),
  (none, (.v (.mov 11 (.t 28))))])
 (.seq (.ops [(none, (.v (.mov 29 (.t 7)))),
  (none, (.v (.mov 30 (.t 29)))),
  ((some (30, true)), (.v (.mov 31 (.t 8)))),
  ((some (30, true)), (.v (.mov 32 (.t 10)))),
  ((some (30, true)), (.v (.bin 33 .eql false (.t 31) (.t 32)))),
  (none, (.v (.pick 34 (.t 30) (.t 33) (.c (.bool false))))),
  (none, (.v (.mov 35 (.t 34)))),
  ((some (35, true)), (.v (.mov 36 (.t 9)))),
  ((some (35, true)), (.v (.mov 37 (.t 11)))),
  ((some (35, true)), (.v (.bin 38 .eql false (.t 36) (.t 37)))),
  (none, (.v (.pick 39 (.t 35) (.t 38) (.c (.bool false))))),
  (none, (.v (.mov 40 (.t 39)))),
  ((some (40, true)), (.v (.mov 41 (.t 0)))),
  ((some (40, true)), (.v (.mov 42 (.t 2)))),
  ((some (40, true)), (.e (.call (some 43) 36 [(.t 41), (.t 42)]))),
  ((some (40, true)), (.v (.mov 44 (.t 0)))),
  ((some (40, true)), (.v (.mov 45 (.t 2)))),
  ((some (40, true)), (.e (.call (some 46) 37 [(.t 44), (.t 45)]))),
  ((some (40, true)), (.v (.bin 47 .eql true (.t 43) (.t 46)))),
  (none, (.v (.pick 48 (.t 40) (.t 47) (.c (.bool false))))),
  (none, (.v (.mov 6 (.t 48))))])
 .ret))))))
theorem ok8 : FnOk E 8 49 [.tmp 6] mc8 := .of func8 (by kernel_rfl) (by kernel_rfl) (by kernel_rfl) (by kernel_rfl) (by kernel_rfl)
end Go.Proofs.Try
namespace Go.Proofs.Try
open Go.Al
set_option linter.unusedVariables false
set_option linter.unusedSimpArgs false
open Classical
set_option maxHeartbeats 8000000
theorem c8 (h : List Acc) (i s : Int) : ACalls E.P 8 [.view 6 (h.map accA), .int .i64 i, .int .i64 s] [] (fun r H => r = .bool true ∧ H = []) := by
  have hmax := maxLen_eq
  refine ok8.acalls hE hm (by simp) ?_
  unfold mc8
  have h16 := c16
  have h17 := c17 h
  have h34 := c34 h i
  have h35 := c35 h i
  have h36 := c36 h s
  have h37 := c37 h s
  simp only [admitA] at h34 h35
  repeat' (first
    | (with_reducible first | apply cond_d | apply cond_nd | apply cond_i | apply guard_d | apply guard_nd | apply guard_df | apply guard_ndf | apply guard_i | apply ag_d | apply ag_nd | apply ag_df | apply ag_ndf | apply ag_i) <;> intro _
    | with_reducible first | refine LenR_i fun _ => ?_ | refine And.intro (by omega) ?_ | refine and_assoc.2 ?_ | apply sp_cond | apply sp_guard | apply sp_ag | apply sp_call | apply sp_acall | apply sp_loop | apply sp_any | apply sp_frz | apply sp_len | apply sp_idx | apply sp_keep | apply sp_back
    | with_reducible refine frz0_i ?_
    | ((with_reducible first | refine callN_i [] true (by simp) (by simp) ?_ | refine acallN_i true ?_); simp only [lPA, lPD, novO, setAll, seval, implies_true, pa_accs]; (first | (refine ⟨_, h16, ?_⟩; rintro _ _ ⟨rfl, rfl⟩) | (refine ⟨_, h17, ?_⟩; rintro _ _ ⟨⟨b, rfl⟩, rfl⟩) | (refine ⟨_, h34, ?_⟩; rintro _ _ ⟨rfl, rfl⟩) | (refine ⟨_, h35, ?_⟩; rintro _ _ ⟨rfl, rfl⟩) | (refine ⟨_, h36, ?_⟩; rintro _ _ ⟨rfl, rfl⟩) | (refine ⟨_, h37, ?_⟩; rintro _ _ ⟨rfl, rfl⟩)); simp only [lAL, lDF, tupA, eqA, isNil, slcNil, ptrCells, ptrAdd, cellsO, intA, boolA, readsV, readsP, isCall, wrote, srcOf, isNilSlice, Value.oneCell', seval, implies_true, forall_eq, ne_eq, lPA, lPD, novO, setAll, pa_accs])
    | ((with_reducible refine keep0_i ?_); simp only [lPA, lPD, novO, setAll, seval, implies_true])
    | simp (maxSteps := 1000000) (disch := omega) only [lAL, lDF, tupA, eqA, isNil, slcNil, ptrCells, ptrAdd, cellsO, intA, boolA, readsV, readsP, isCall, wrote, srcOf, isNilSlice, Value.oneCell', seval, implies_true, forall_eq, ne_eq, wrap_i64, LenR_ok, List.length_map, IdxR_ints, pa_accs])
end Go.Proofs.Try


namespace Go.Proofs.Ythbajphbhoiceaa
open Go.Al Go.Proofs.Try
open Go.ChangeShapes Go.WideShapes Go.ChangeAt Go.RowKit
set_option linter.unusedVariables false
set_option maxRecDepth 100000 in
theorem lifted8 (os : Os) (started : os.Started) (H : Type) (enc : TypeId × Value → H) :
    ReturnsInHanded {} Try.checked os 8 .any (Rows.conflictAdmitMatchesSpecSpec.pre6 enc Try.prog Try.f8 Rows.conflictAdmitMatchesSpecRow.domain false) (Rows.conflictAdmitMatchesSpecSpec.post enc Try.prog Try.f8 false true false false) := by
  refine returnsInHanded_of_change (C := Try.checked) own started (by kernel_rfl) Try.func8
    (ChangeSpec.witness6 (enc := enc) (C := Try.checked) false ⟨#[], #[.slice none 0 0, .int .i64 0, .int .i64 0], []⟩ 8 (by kernel_rfl) (by kernel_rfl) (by kernel_rfl) (by kernel_rfl)) ?_
  intro W base args ds gs before hval hW _ _
  exact contract_of hE kids full (s := Rows.conflictAdmitMatchesSpecSpec) (tb := 4) (by rw [Try.params8]; decide +kernel) (by rw [Try.params8]; exact reads_cons rv22 (reads_cons rv3 (reads_cons rv3 (reads_nil)))) (by rintro _ ⟨a, _, ha, ⟨b, _, hb, ⟨c, _, hc, rfl, rfl⟩, rfl⟩, rfl⟩; exact c8 a b c) rfl
    (by rw [Try.params8]; rintro H (_ | ⟨d0, (_ | ⟨d1, (_ | ⟨d2, (_ | ⟨dz, ds⟩)⟩)⟩)⟩) hl <;> simp at hl; exact ⟨rfl, rfl, rfl⟩) (by kernel_rfl) (by kernel_rfl) H enc W base args ds gs before hval hW
theorem conflictAdmitMatchesSpec_holds : Rows.ConflictAdmitMatchesSpecSaid :=
  OpenClaim.holds_of_wide 8 Try.f8 rfl rfl rfl rfl rfl rfl rfl ⟨rfl, rfl, rfl, rfl, rfl⟩ rfl rfl rfl rfl rfl (by kernel_rfl) Try.func8 (by kernel_rfl)
    (of_decide_eq_true (by kernel_rfl)) (by unfold Func.isWrapper; first | (rw [if_pos (by decide +kernel)]; kernel_rfl) | (rw [if_neg (by decide +kernel)]; exact ⟨rfl, rfl⟩))
    (fun os started H enc _ => lifted8 os started H enc)
end Go.Proofs.Ythbajphbhoiceaa
