/-
  A valid history without a dangerous structure has a serial order, and it has a cycle exactly if it has no serial order; no condition.
-/
import Derived.Test.YthbajphbhoiceaaPlainc
import Derived.Test.YthbajphbhoiceaaCam
import Derived.Test.YthbajphbhoiceaaReads
import Derived.Test.YthbajphbhoiceaaRows
set_option linter.unusedSimpArgs false
set_option linter.unusedVariables false
namespace Go.Proofs.Try
open Go.Al
set_option maxRecDepth 100000
/-- alum/alumlaw26.ConflictNoStructureIsSerial -/
def mc9 : MC :=
 (.seq (.ops [(none, (.v (.mov 2 (.c (.bool false)))))])
 (.seq (.ops [(none, (.e (.call (some 8) 16 []))),
  (none, (.v (.mov 3 (.t 8))))])
 (.seq (.seq (.ops [(none, (.v (.mov 9 (.t 0)))),
  (none, (.e (.call (some 10) 17 [(.t 9)]))),
  (none, (.v (.not 11 (.t 10)))),
  (none, (.v (.mov 12 (.t 11)))),
  ((some (12, false)), (.v (.mov 13 (.t 0)))),
  ((some (12, false)), (.e (.call (some 14) 18 [(.t 13)]))),
  ((some (12, false)), (.v (.bin 15 .neq false (.t 14) (.c (.int .i64 0))))),
  (none, (.v (.pick 16 (.t 12) (.c (.bool true)) (.t 15))))])
 (.cond 16
  (.seq (.ops [(none, (.v (.mov 17 (.t 3)))),
   (none, (.v (.mov 2 (.t 17))))])
  .ret)
  .skip))
 (.seq (.ops [(none, (.v (.mov 19 (.t 0)))),
  (none, (.e (.call (some 20) 25 [(.t 19)]))),
  (none, (.v (.mov 18 (.t 20)))),
  (none, (.v (.ext 21 0 (.t 18)))),
  (none, (.v (.ext 22 1 (.t 18)))),
  (none, (.e (.alloc 4 [(.int .i64 0), (.int .i64 0), (.int .i64 0)]))),
  (none, (.e (.store 3 true (.t 4) (.t 21)))),
  (none, (.v (.mov 5 (.t 22))))])
 (.seq (.ops [(none, (.v (.mov 24 (.t 0)))),
  (none, (.e (.call (some 25) 27 [(.t 24)]))),
  (none, (.v (.mov 23 (.t 25)))),
  (none, (.v (.ext 26 0 (.t 23)))),
  (none, (.v (.ext 27 1 (.t 23)))),
  (none, (.v (.mov 6 (.t 26)))),
  (none, (.v (.mov 7 (.t 27))))])
 (.seq (.ops [(none, (.v (.mov 28 (.t 3)))),
  (none, (.v (.mov 29 (.t 28)))),
  ((some (29, true)), (.v (.mov 30 (.t 5)))),
  ((some (29, true)), (.v (.mov 31 (.t 30)))),
  ((some (31, false)), (.v (.mov 32 (.t 7)))),
  ((some (29, true)), (.v (.pick 33 (.t 31) (.c (.bool true)) (.t 32)))),
  (none, (.v (.pick 34 (.t 29) (.t 33) (.c (.bool false))))),
  (none, (.v (.mov 35 (.t 34)))),
  ((some (35, true)), (.v (.mov 36 (.t 0)))),
  ((some (35, true)), (.e (.call (some 37) 30 [(.t 36)]))),
  ((some (35, true)), (.p (.len 38 (.t 37)))),
  ((some (35, true)), (.v (.bin 39 .eql false (.t 38) (.c (.int .i64 0))))),
  ((some (35, true)), (.v (.mov 40 (.t 7)))),
  ((some (35, true)), (.v (.bin 41 .eql true (.t 39) (.t 40)))),
  (none, (.v (.pick 42 (.t 35) (.t 41) (.c (.bool false))))),
  (none, (.v (.mov 2 (.t 42))))])
 .ret))))))
theorem ok9 : FnOk E 9 43 [.tmp 2] mc9 := .of func9 (by kernel_rfl) (by kernel_rfl) (by kernel_rfl) (by kernel_rfl) (by kernel_rfl)
end Go.Proofs.Try
namespace Go.Proofs.Try
open Go.Al
set_option linter.unusedVariables false
set_option linter.unusedSimpArgs false
open Classical
set_option maxHeartbeats 8000000
theorem c9 (h : List Acc) : ACalls E.P 9 [.view 6 (h.map accA)] [] (fun r H => r = .bool true ∧ H = []) := by
  have hmax := maxLen_eq
  refine ok9.acalls hE hm (by simp) ?_
  unfold mc9
  have h16 := c16
  have h17 := c17 h
  have h18 := c18 h
  repeat' (first
    | (with_reducible first | apply cond_d | apply cond_nd | apply cond_i | apply guard_d | apply guard_nd | apply guard_df | apply guard_ndf | apply guard_i | apply ag_d | apply ag_nd | apply ag_df | apply ag_ndf | apply ag_i) <;> intro _
    | with_reducible first | refine LenR_i fun _ => ?_ | refine And.intro (by omega) ?_ | refine and_assoc.2 ?_ | apply sp_cond | apply sp_guard | apply sp_ag | apply sp_call | apply sp_acall | apply sp_loop | apply sp_any | apply sp_frz | apply sp_len | apply sp_idx | apply sp_keep | apply sp_back
    | with_reducible refine frz0_i ?_
    | ((with_reducible first | refine callN_i [] true (by simp) (by simp) ?_ | refine acallN_i true ?_); simp only [lPA, lPD, novO, setAll, seval, implies_true, pa_accs]; (first | (refine ⟨_, h16, ?_⟩; rintro _ _ ⟨rfl, rfl⟩) | (refine ⟨_, h17, ?_⟩; rintro _ _ ⟨⟨b, rfl⟩, rfl⟩) | (refine ⟨_, h18, ?_⟩; rintro _ _ ⟨rfl, rfl⟩)); simp only [lAL, lDF, tupA, eqA, isNil, slcNil, ptrCells, ptrAdd, cellsO, intA, boolA, readsV, readsP, isCall, wrote, srcOf, isNilSlice, Value.oneCell', seval, implies_true, forall_eq, ne_eq, lPA, lPD, novO, setAll, pa_accs])
    | ((with_reducible refine keep0_i ?_); simp only [lPA, lPD, novO, setAll, seval, implies_true])
    | simp (maxSteps := 1000000) (disch := omega) only [lAL, lDF, tupA, eqA, isNil, slcNil, ptrCells, ptrAdd, cellsO, intA, boolA, readsV, readsP, isCall, wrote, srcOf, isNilSlice, Value.oneCell', seval, implies_true, forall_eq, ne_eq, wrap_i64, LenR_ok, List.length_map, IdxR_ints, pa_accs])
  have hck : checkS h = 0 := by assumption
  refine callN_i [] true (by simp) (by simp) ?_
  simp only [lPA, lPD, novO, setAll, seval, implies_true]
  refine ⟨_, c25 h, ?_⟩
  rintro _ _ ⟨⟨d, hd, rfl⟩, rfl⟩
  rw [FirstD, if_pos hck] at hd
  have hdn := firstT_none hd
  have key : ∀ t, SerialS h t → d = none → t ≠ none := fun t ht e1 e2 => by
    subst e2
    obtain ⟨a, b, c, ha, hb, hc, hdd⟩ := dang_of_none hck ht
    exact hdn.1 e1 a b c ha hb hc hdd
  have hA : ∀ l : List Nat, l = [] → ((natL l).length : Int) = 0 := fun l e => by rw [e]; rfl
  have hB : ∀ l : List Nat, l ≠ [] → ¬ ((natL l).length : Int) = 0 := fun l e => by
    rw [natL_len]; have := List.length_pos_iff.2 e; omega
  rcases d with _ | ⟨a, b, c⟩
  all_goals
    simp only [tripA, lPA, lPD, novO, setAll, seval, implies_true, lAL, lDF, tupA, eqA, isNil, slcNil, ptrCells, ptrAdd, cellsO, intA, boolA, readsV, readsP, isCall, wrote, srcOf, isNilSlice, Value.oneCell', seval, implies_true, forall_eq, ne_eq]
    repeat' (first
      | (with_reducible first | apply cond_d | apply cond_nd | apply cond_i | apply guard_d | apply guard_nd | apply guard_df | apply guard_ndf | apply guard_i | apply ag_d | apply ag_nd | apply ag_df | apply ag_ndf | apply ag_i) <;> intro _
      | with_reducible first | refine LenR_i fun _ => ?_ | refine And.intro (by omega) ?_ | refine and_assoc.2 ?_ | apply sp_cond | apply sp_guard | apply sp_ag | apply sp_call | apply sp_acall | apply sp_loop | apply sp_any | apply sp_frz | apply sp_len | apply sp_idx | apply sp_keep | apply sp_back
      | with_reducible refine frz0_i ?_
      | simp (maxSteps := 1000000) (disch := omega) only [lAL, lDF, tupA, eqA, isNil, slcNil, ptrCells, ptrAdd, cellsO, intA, boolA, readsV, readsP, isCall, wrote, srcOf, isNilSlice, Value.oneCell', seval, implies_true, forall_eq, ne_eq, wrap_i64, LenR_ok, List.length_map, IdxR_ints, pa_accs, ti30])
    refine callN_i [] false (by simp) (by simp) ?_
    simp only [lPA, lPD, novO, setAll, seval, implies_true]
    refine ⟨_, c27 h, ?_⟩
    rintro _ _ ⟨⟨t, ht, rfl⟩, rfl⟩
    rw [SerialF, if_pos hck] at ht
    rcases t with _ | ol
    all_goals
      have hk := key _ ht
      simp only [serA, lPA, lPD, novO, setAll, seval, implies_true, lAL, lDF, tupA, eqA, isNil, slcNil, ptrCells, ptrAdd, cellsO, intA, boolA, readsV, readsP, isCall, wrote, srcOf, isNilSlice, Value.oneCell', seval, implies_true, forall_eq, ne_eq]
      repeat' (first
        | (with_reducible first | apply cond_d | apply cond_nd | apply cond_i | apply guard_d | apply guard_nd | apply guard_df | apply guard_ndf | apply guard_i | apply ag_d | apply ag_nd | apply ag_df | apply ag_ndf | apply ag_i) <;> intro _
        | with_reducible first | refine LenR_i fun _ => ?_ | refine And.intro (by omega) ?_ | refine and_assoc.2 ?_ | apply sp_cond | apply sp_guard | apply sp_ag | apply sp_call | apply sp_acall | apply sp_loop | apply sp_any | apply sp_frz | apply sp_len | apply sp_idx | apply sp_keep | apply sp_back
        | with_reducible refine frz0_i ?_
        | simp (maxSteps := 1000000) (disch := omega) only [lAL, lDF, tupA, eqA, isNil, slcNil, ptrCells, ptrAdd, cellsO, intA, boolA, readsV, readsP, isCall, wrote, srcOf, isNilSlice, Value.oneCell', seval, implies_true, forall_eq, ne_eq, wrap_i64, LenR_ok, List.length_map, IdxR_ints, pa_accs])
      all_goals try (exact absurd rfl (hk rfl))
      all_goals try
        refine callN_i [] false (by simp) (by simp) ?_
        simp only [lPA, lPD, novO, setAll, seval, implies_true]
        refine ⟨_, c30 h, ?_⟩
        rintro _ _ ⟨⟨cy, hcy, rfl⟩, rfl⟩
        rw [CycF, if_pos hck] at hcy
        have hiff := cycle_iff hcy ht
        simp only [intsA, lPA, lPD, novO, setAll, seval, implies_true, lAL, lDF, tupA, eqA, isNil, slcNil, ptrCells, ptrAdd, cellsO, intA, boolA, readsV, readsP, isCall, wrote, srcOf, isNilSlice, Value.oneCell', seval, implies_true, forall_eq, ne_eq]
        by_cases hcn : cy = []
        · have hz := hA cy hcn
          repeat' (first
            | (with_reducible first | apply cond_d | apply cond_nd | apply cond_i | apply guard_d | apply guard_nd | apply guard_df | apply guard_ndf | apply guard_i | apply ag_d | apply ag_nd | apply ag_df | apply ag_ndf | apply ag_i) <;> intro _
            | with_reducible first | refine LenR_i fun _ => ?_ | refine And.intro (by omega) ?_ | refine and_assoc.2 ?_ | apply sp_cond | apply sp_guard | apply sp_ag | apply sp_call | apply sp_acall | apply sp_loop | apply sp_any | apply sp_frz | apply sp_len | apply sp_idx | apply sp_keep | apply sp_back
            | with_reducible refine frz0_i ?_
            | simp (maxSteps := 1000000) (disch := omega) only [lAL, lDF, tupA, eqA, isNil, slcNil, ptrCells, ptrAdd, cellsO, intA, boolA, readsV, readsP, isCall, wrote, srcOf, isNilSlice, Value.oneCell', seval, implies_true, forall_eq, ne_eq, wrap_i64, LenR_ok, List.length_map, IdxR_ints, pa_accs, hz, List.length_map])
          all_goals first | (refine keep0_i ?_; simp [lPA, lPD, novO, setAll, seval, implies_true]; done) | (exfalso; clear key hA hB; simp_all; done)
        · have hz := hB cy hcn
          repeat' (first
            | (with_reducible first | apply cond_d | apply cond_nd | apply cond_i | apply guard_d | apply guard_nd | apply guard_df | apply guard_ndf | apply guard_i | apply ag_d | apply ag_nd | apply ag_df | apply ag_ndf | apply ag_i) <;> intro _
            | with_reducible first | refine LenR_i fun _ => ?_ | refine And.intro (by omega) ?_ | refine and_assoc.2 ?_ | apply sp_cond | apply sp_guard | apply sp_ag | apply sp_call | apply sp_acall | apply sp_loop | apply sp_any | apply sp_frz | apply sp_len | apply sp_idx | apply sp_keep | apply sp_back
            | with_reducible refine frz0_i ?_
            | simp (maxSteps := 1000000) (disch := omega) only [lAL, lDF, tupA, eqA, isNil, slcNil, ptrCells, ptrAdd, cellsO, intA, boolA, readsV, readsP, isCall, wrote, srcOf, isNilSlice, Value.oneCell', seval, implies_true, forall_eq, ne_eq, wrap_i64, LenR_ok, List.length_map, IdxR_ints, pa_accs, hz, List.length_map])
          all_goals first | (refine keep0_i ?_; simp [lPA, lPD, novO, setAll, seval, implies_true]; done) | (exfalso; clear key hA hB; simp_all; done)
end Go.Proofs.Try


namespace Go.Proofs.Ythbajphbhoiceaa
open Go.Al Go.Proofs.Try
open Go.ChangeShapes Go.WideShapes Go.ChangeAt Go.RowKit
set_option linter.unusedVariables false
set_option maxRecDepth 100000 in
theorem lifted9 (os : Os) (started : os.Started) (H : Type) (enc : TypeId × Value → H) :
    ReturnsInHanded {} Try.checked os 9 .any (Rows.conflictNoStructureIsSerialSpec.pre6 enc Try.prog Try.f9 Rows.conflictNoStructureIsSerialRow.domain false) (Rows.conflictNoStructureIsSerialSpec.post enc Try.prog Try.f9 false true false false) := by
  refine returnsInHanded_of_change (C := Try.checked) own started (by kernel_rfl) Try.func9
    (ChangeSpec.witness6 (enc := enc) (C := Try.checked) false ⟨#[], #[.slice none 0 0], []⟩ 8 (by kernel_rfl) (by kernel_rfl) (by kernel_rfl) (by kernel_rfl)) ?_
  intro W base args ds gs before hval hW _ _
  exact contract_of hE kids full (s := Rows.conflictNoStructureIsSerialSpec) (tb := 4) (by rw [Try.params9]; decide +kernel) (by rw [Try.params9]; exact reads_cons rv22 (reads_nil)) (by rintro _ ⟨a, _, ha, rfl, rfl⟩; exact c9 a) rfl
    (by rw [Try.params9]; rintro H (_ | ⟨d0, (_ | ⟨dz, ds⟩)⟩) hl <;> simp at hl; exact ⟨rfl, rfl, rfl⟩) (by kernel_rfl) (by kernel_rfl) H enc W base args ds gs before hval hW
theorem conflictNoStructureIsSerial_holds : Rows.ConflictNoStructureIsSerialSaid :=
  OpenClaim.holds_of_wide 9 Try.f9 rfl rfl rfl rfl rfl rfl rfl ⟨rfl, rfl, rfl, rfl, rfl⟩ rfl rfl rfl rfl rfl (by kernel_rfl) Try.func9 (by kernel_rfl)
    (of_decide_eq_true (by kernel_rfl)) (by unfold Func.isWrapper; first | (rw [if_pos (by decide +kernel)]; kernel_rfl) | (rw [if_neg (by decide +kernel)]; exact ⟨rfl, rfl⟩))
    (fun os started H enc _ => lifted9 os started H enc)
end Go.Proofs.Ythbajphbhoiceaa
