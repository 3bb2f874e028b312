/-
  Where exactly those transactions of ModeSerial commit that Admit accepts, the history stays valid, has no dangerous structure, and has an equivalent serial order; no condition.
-/
import Derived.Test.YthbajphbhoiceaaPlaine
import Derived.Test.YthbajphbhoiceaaCbf
import Derived.Test.YthbajphbhoiceaaReadsTry
import Derived.Test.YthbajphbhoiceaaReads
import Derived.Test.YthbajphbhoiceaaRows
set_option linter.unusedSimpArgs false
set_option linter.unusedVariables false
namespace Go.Proofs.Try
open Go.Al
set_option maxRecDepth 100000
/-- alum/alumlaw26.ConflictAdmissionIsSerial -/
def mc13 : MC :=
 (.seq (.ops [(none, (.v (.mov 2 (.c (.bool false)))))])
 (.seq (.ops [(none, (.e (.call (some 10) 16 []))),
  (none, (.v (.mov 3 (.t 10))))])
 (.seq (.seq (.ops [(none, (.v (.mov 11 (.t 0)))),
  (none, (.p (.len 12 (.t 11)))),
  (none, (.v (.bin 13 .gtr false (.t 12) (.c (.int .i64 9)))))])
 (.cond 13
  (.seq (.ops [(none, (.v (.mov 14 (.t 3)))),
   (none, (.v (.mov 2 (.t 14))))])
  .ret)
  .skip))
 (.seq (.ops [(none, (.v (.mov 16 (.t 0)))),
  (none, (.e (.call (some 17) 39 [(.c (.raw (.slice none 0 0))), (.t 16), (.c (.int .i64 1)), (.c (.int .i64 0))]))),
  (none, (.v (.mov 15 (.t 17)))),
  (none, (.v (.ext 18 0 (.t 15)))),
  (none, (.v (.ext 19 1 (.t 15)))),
  (none, (.v (.mov 4 (.t 18)))),
  (none, (.v (.mov 5 (.t 19))))])
 (.seq (.seq (.ops [(none, (.v (.mov 20 (.t 5)))),
  (none, (.v (.not 21 (.t 20))))])
 (.cond 21
  (.seq (.ops [(none, (.v (.mov 2 (.c (.bool false)))))])
  .ret)
  .skip))
 (.seq (.ops [(none, (.v (.mov 23 (.t 4)))),
  (none, (.e (.call (some 24) 25 [(.t 23)]))),
  (none, (.v (.mov 22 (.t 24)))),
  (none, (.v (.ext 25 0 (.t 22)))),
  (none, (.v (.ext 26 1 (.t 22)))),
  (none, (.e (.alloc 6 [(.int .i64 0), (.int .i64 0), (.int .i64 0)]))),
  (none, (.e (.store 3 true (.t 6) (.t 25)))),
  (none, (.v (.mov 7 (.t 26))))])
 (.seq (.ops [(none, (.v (.mov 28 (.t 4)))),
  (none, (.e (.call (some 29) 27 [(.t 28)]))),
  (none, (.v (.mov 27 (.t 29)))),
  (none, (.v (.ext 30 0 (.t 27)))),
  (none, (.v (.ext 31 1 (.t 27)))),
  (none, (.v (.mov 8 (.t 30)))),
  (none, (.v (.mov 9 (.t 31))))])
 (.seq (.ops [(none, (.v (.mov 32 (.t 3)))),
  (none, (.v (.mov 33 (.t 32)))),
  ((some (33, true)), (.v (.mov 34 (.t 4)))),
  ((some (33, true)), (.e (.call (some 35) 18 [(.t 34)]))),
  ((some (33, true)), (.v (.bin 36 .eql false (.t 35) (.c (.int .i64 0))))),
  (none, (.v (.pick 37 (.t 33) (.t 36) (.c (.bool false))))),
  (none, (.v (.mov 38 (.t 37)))),
  ((some (38, true)), (.v (.mov 39 (.t 7)))),
  ((some (38, true)), (.v (.not 40 (.t 39)))),
  (none, (.v (.pick 41 (.t 38) (.t 40) (.c (.bool false))))),
  (none, (.v (.mov 42 (.t 41)))),
  ((some (42, true)), (.v (.mov 43 (.t 9)))),
  (none, (.v (.pick 44 (.t 42) (.t 43) (.c (.bool false))))),
  (none, (.v (.mov 45 (.t 44)))),
  ((some (45, true)), (.v (.mov 46 (.t 4)))),
  ((some (45, true)), (.v (.mov 47 (.t 8)))),
  ((some (45, true)), (.e (.call (some 48) 32 [(.t 46), (.t 47)]))),
  (none, (.v (.pick 49 (.t 45) (.t 48) (.c (.bool false))))),
  (none, (.v (.mov 2 (.t 49))))])
 .ret))))))))
theorem ok13 : FnOk E 13 50 [.tmp 2] mc13 := .of func13 (by kernel_rfl) (by kernel_rfl) (by kernel_rfl) (by kernel_rfl) (by kernel_rfl)
end Go.Proofs.Try
namespace Go.Proofs.Try
open Go.Al
set_option linter.unusedVariables false
set_option linter.unusedSimpArgs false
open Classical
set_option maxHeartbeats 8000000
theorem c13 (l : List TryT) (hts : ∀ t ∈ l, t.ok) : ACalls E.P 13 [.view 4 (l.map tryA)] [] (fun r H => r = .bool true ∧ H = []) := by
  have hmax := maxLen_eq
  refine ok13.acalls hE hm (by simp) ?_
  unfold mc13
  have h16 := c16
  repeat' (first
    | (with_reducible first | apply cond_d | apply cond_nd | apply cond_i | apply guard_d | apply guard_nd | apply guard_df | apply guard_ndf | apply guard_i | apply ag_d | apply ag_nd | apply ag_df | apply ag_ndf | apply ag_i) <;> intro _
    | with_reducible first | refine LenR_i fun _ => ?_ | refine And.intro (by omega) ?_ | refine and_assoc.2 ?_ | apply sp_cond | apply sp_guard | apply sp_ag | apply sp_call | apply sp_acall | apply sp_loop | apply sp_any | apply sp_frz | apply sp_len | apply sp_idx | apply sp_keep | apply sp_back
    | with_reducible refine frz0_i ?_
    | ((with_reducible first | refine callN_i [] true (by simp) (by simp) ?_ | refine acallN_i true ?_); simp only [lPA, lPD, novO, setAll, seval, implies_true, pa_trys, List.length_map]; (refine ⟨_, h16, ?_⟩; rintro _ _ ⟨rfl, rfl⟩); simp only [lAL, lDF, tupA, eqA, isNil, slcNil, ptrCells, ptrAdd, cellsO, intA, boolA, readsV, readsP, isCall, wrote, srcOf, isNilSlice, Value.oneCell', seval, implies_true, forall_eq, ne_eq, lPA, lPD, novO, setAll, pa_trys, List.length_map])
    | simp (maxSteps := 1000000) (disch := omega) only [lAL, lDF, tupA, eqA, isNil, slcNil, ptrCells, ptrAdd, cellsO, intA, boolA, readsV, readsP, isCall, wrote, srcOf, isNilSlice, Value.oneCell', seval, implies_true, forall_eq, ne_eq, wrap_i64, LenR_ok, List.length_map, IdxR_ints, pa_trys, List.length_map])
  · refine keep0_i ?_
    simp [lPA, lPD, novO, setAll, seval, implies_true]
  · rename_i hle
    obtain ⟨hok, hinv⟩ := run_ok (mode := 1) (least := 0) (h := []) (l := l) (.inl rfl) check_nil (by simp; omega) (by decide) ⟨by omega, by omega⟩ hts
    have k39 := (c39v [] l 1 0 hts hok (by simp)).nil_arg
    have hnd := hinv.nodang rfl nodang_nil
    have hck := hinv.check
    generalize runS 1 0 [] l = h at *
    refine callN_i [] false (by simp) (by simp) ?_
    simp only [lPA, lPD, novO, setAll, seval, implies_true, pa_trys]
    refine ⟨_, k39, ?_⟩
    rintro _ _ ⟨rfl, rfl⟩
    simp only [lAL, lDF, tupA, eqA, isNil, slcNil, ptrCells, ptrAdd, cellsO, intA, boolA, readsV, readsP, isCall, wrote, srcOf, isNilSlice, Value.oneCell', seval, implies_true, forall_eq, ne_eq, lPA, lPD, novO, setAll, pa_accs, renL_accs]
    repeat' (first
      | (with_reducible first | apply cond_d | apply cond_nd | apply cond_i | apply guard_d | apply guard_nd | apply guard_df | apply guard_ndf | apply guard_i | apply ag_d | apply ag_nd | apply ag_df | apply ag_ndf | apply ag_i) <;> intro _
      | with_reducible first | refine LenR_i fun _ => ?_ | refine And.intro (by omega) ?_ | refine and_assoc.2 ?_ | apply sp_cond | apply sp_guard | apply sp_ag | apply sp_call | apply sp_acall | apply sp_loop | apply sp_any | apply sp_frz | apply sp_len | apply sp_idx | apply sp_keep | apply sp_back
      | with_reducible refine frz0_i ?_
      | simp (maxSteps := 1000000) (disch := omega) only [lAL, lDF, tupA, eqA, isNil, slcNil, ptrCells, ptrAdd, cellsO, intA, boolA, readsV, readsP, isCall, wrote, srcOf, isNilSlice, Value.oneCell', seval, implies_true, forall_eq, ne_eq, wrap_i64, LenR_ok, List.length_map, IdxR_ints])
    refine callN_i [] true (by simp) (by simp) ?_
    simp only [lPA, lPD, novO, setAll, seval, implies_true, pa_accs]
    refine ⟨_, c25 h, ?_⟩
    rintro _ _ ⟨⟨d, hd, rfl⟩, rfl⟩
    cases firstD_none hck hnd hd
    simp only [tripA, lAL, lDF, tupA, eqA, isNil, slcNil, ptrCells, ptrAdd, cellsO, intA, boolA, readsV, readsP, isCall, wrote, srcOf, isNilSlice, Value.oneCell', seval, implies_true, forall_eq, ne_eq, lPA, lPD, novO, setAll]
    repeat' (first
      | (with_reducible first | apply cond_d | apply cond_nd | apply cond_i | apply guard_d | apply guard_nd | apply guard_df | apply guard_ndf | apply guard_i | apply ag_d | apply ag_nd | apply ag_df | apply ag_ndf | apply ag_i) <;> intro _
      | with_reducible first | refine LenR_i fun _ => ?_ | refine And.intro (by omega) ?_ | refine and_assoc.2 ?_ | apply sp_cond | apply sp_guard | apply sp_ag | apply sp_call | apply sp_acall | apply sp_loop | apply sp_any | apply sp_frz | apply sp_len | apply sp_idx | apply sp_keep | apply sp_back
      | with_reducible refine frz0_i ?_
      | simp (maxSteps := 1000000) (disch := omega) only [lAL, lDF, tupA, eqA, isNil, slcNil, ptrCells, ptrAdd, cellsO, intA, boolA, readsV, readsP, isCall, wrote, srcOf, isNilSlice, Value.oneCell', seval, implies_true, forall_eq, ne_eq, wrap_i64, LenR_ok, List.length_map, IdxR_ints, ti30])
    refine callN_i [] false (by simp) (by simp) ?_
    simp only [lPA, lPD, novO, setAll, seval, implies_true]
    refine ⟨_, c27 h, ?_⟩
    rintro _ _ ⟨⟨t, ht, rfl⟩, rfl⟩
    obtain ⟨ol, rfl, hs⟩ := serial_of hck hnd ht
    have h18 := c18 h
    have h32 := c32 h (natL ol)
    simp only [eqv_of_serial hck hs, decide_true] at h32
    simp only [hck] at h18
    simp only [serA, lAL, lDF, tupA, eqA, isNil, slcNil, ptrCells, ptrAdd, cellsO, intA, boolA, readsV, readsP, isCall, wrote, srcOf, isNilSlice, Value.oneCell', seval, implies_true, forall_eq, ne_eq, lPA, lPD, novO, setAll]
    repeat' (first
      | (with_reducible first | apply cond_d | apply cond_nd | apply cond_i | apply guard_d | apply guard_nd | apply guard_df | apply guard_ndf | apply guard_i | apply ag_d | apply ag_nd | apply ag_df | apply ag_ndf | apply ag_i) <;> intro _
      | with_reducible first | refine LenR_i fun _ => ?_ | refine And.intro (by omega) ?_ | refine and_assoc.2 ?_ | apply sp_cond | apply sp_guard | apply sp_ag | apply sp_call | apply sp_acall | apply sp_loop | apply sp_any | apply sp_frz | apply sp_len | apply sp_idx | apply sp_keep | apply sp_back
      | with_reducible refine frz0_i ?_
      | ((with_reducible first | refine callN_i [] true (by simp) (by simp) ?_ | refine acallN_i true ?_); simp only [lPA, lPD, novO, setAll, seval, implies_true]; (first | (refine ⟨_, h18, ?_⟩; rintro _ _ ⟨rfl, rfl⟩) | (refine ⟨_, h32, ?_⟩; rintro _ _ ⟨rfl, rfl⟩)); simp only [lAL, lDF, tupA, eqA, isNil, slcNil, ptrCells, ptrAdd, cellsO, intA, boolA, readsV, readsP, isCall, wrote, srcOf, isNilSlice, Value.oneCell', seval, implies_true, forall_eq, ne_eq, lPA, lPD, novO, setAll])
      | simp (maxSteps := 1000000) (disch := omega) only [lAL, lDF, tupA, eqA, isNil, slcNil, ptrCells, ptrAdd, cellsO, intA, boolA, readsV, readsP, isCall, wrote, srcOf, isNilSlice, Value.oneCell', seval, implies_true, forall_eq, ne_eq, wrap_i64, LenR_ok, List.length_map, IdxR_ints])
    refine keep0_i ?_
    simp [lPA, lPD, novO, setAll, seval, implies_true]
end Go.Proofs.Try


namespace Go.Proofs.Ythbajphbhoiceaa
open Go.Al Go.Proofs.Try
open Go.ChangeShapes Go.WideShapes Go.ChangeAt Go.RowKit
set_option linter.unusedVariables false
set_option maxRecDepth 100000 in
theorem lifted13 (os : Os) (started : os.Started) (H : Type) (enc : TypeId × Value → H) :
    ReturnsInHanded {} Try.checked os 13 .any (Rows.conflictAdmissionIsSerialSpec.pre6 enc Try.prog Try.f13 Rows.conflictAdmissionIsSerialRow.domain false) (Rows.conflictAdmissionIsSerialSpec.post enc Try.prog Try.f13 false true false false) := by
  refine returnsInHanded_of_change (C := Try.checked) own started (by kernel_rfl) Try.func13
    (ChangeSpec.witness6 (enc := enc) (C := Try.checked) false ⟨#[], #[.slice none 0 0], []⟩ 8 (by kernel_rfl) (by kernel_rfl) (by kernel_rfl) (by kernel_rfl)) ?_
  intro W base args ds gs before hval hW _ _
  exact contract_of hE kids full (s := Rows.conflictAdmissionIsSerialSpec) (tb := 4) (by rw [Try.params13]; decide +kernel) (by rw [Try.params13]; exact reads_cons rv46 (reads_nil)) (by rintro _ ⟨a, _, ha, rfl, rfl⟩; exact c13 a ha) rfl
    (by rw [Try.params13]; rintro H (_ | ⟨d0, (_ | ⟨dz, ds⟩)⟩) hl <;> simp at hl; exact ⟨rfl, rfl, rfl⟩) (by kernel_rfl) (by kernel_rfl) H enc W base args ds gs before hval hW
theorem conflictAdmissionIsSerial_holds : Rows.ConflictAdmissionIsSerialSaid :=
  OpenClaim.holds_of_wide 13 Try.f13 rfl rfl rfl rfl rfl rfl rfl ⟨rfl, rfl, rfl, rfl, rfl⟩ rfl rfl rfl rfl rfl (by kernel_rfl) Try.func13 (by kernel_rfl)
    (of_decide_eq_true (by kernel_rfl)) (by unfold Func.isWrapper; first | (rw [if_pos (by decide +kernel)]; kernel_rfl) | (rw [if_neg (by decide +kernel)]; exact ⟨rfl, rfl⟩))
    (fun os started H enc _ => lifted13 os started H enc)
end Go.Proofs.Ythbajphbhoiceaa
