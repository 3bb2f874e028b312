/-
  If every committed transaction reads each item that it writes, every edge leads to a later transaction in every equivalent order; no condition.
-/
import Derived.Test.YthbajphbhoiceaaPlaind
import Derived.Test.YthbajphbhoiceaaReads
import Derived.Test.YthbajphbhoiceaaRows
set_option linter.unusedSimpArgs false
set_option linter.unusedVariables false
namespace Go.Proofs.Try
open Go.Al
set_option maxRecDepth 100000
/-- alum/alumlaw26.ConflictOrdersFollowEdges -/
def mc11 : MC :=
 (.seq (.ops [(none, (.v (.mov 4 (.c (.bool false)))))])
 (.seq (.ops [(none, (.e (.call (some 10) 16 []))),
  (none, (.v (.mov 5 (.t 10))))])
 (.seq (.seq (.ops [(none, (.v (.mov 11 (.t 0)))),
  (none, (.e (.call (some 12) 17 [(.t 11)]))),
  (none, (.v (.not 13 (.t 12)))),
  (none, (.v (.mov 14 (.t 13)))),
  ((some (14, false)), (.v (.mov 15 (.t 1)))),
  ((some (14, false)), (.p (.len 16 (.t 15)))),
  ((some (14, false)), (.v (.bin 17 .gtr false (.t 16) (.c (.int .i64 20))))),
  (none, (.v (.pick 18 (.t 14) (.c (.bool true)) (.t 17))))])
 (.cond 18
  (.seq (.ops [(none, (.v (.mov 19 (.t 5)))),
   (none, (.v (.mov 4 (.t 19))))])
  .ret)
  .skip))
 (.seq (.seq (.ops [(none, (.v (.mov 6 (.c (.int .i64 0)))))])
 (.block 0 (.loop (.seq (.seq (.ops [(none, (.v (.mov 20 (.t 6)))),
    (none, (.v (.mov 21 (.t 0)))),
    (none, (.p (.len 22 (.t 21)))),
    (none, (.v (.bin 23 .lss false (.t 20) (.t 22))))])
   (.cond 23
    .skip
    (.exit 0)))
   (.seq (.block 1 (.seq (.ops [(none, (.v (.mov 7 (.c (.int .i64 0)))))])
    (.block 2 (.loop (.seq (.seq (.ops [(none, (.v (.mov 26 (.t 7)))),
       (none, (.v (.mov 27 (.t 0)))),
       (none, (.v (.mov 28 (.t 6)))),
       (none, (.p (.idx 29 6 (.t 27) (.t 28)))),
       (none, (.v (.fld 30 5 (.t 29)))),
       (none, (.v (.load 31 false 1 (.t 30)))),
       (none, (.p (.len 32 (.t 31)))),
       (none, (.v (.bin 33 .lss false (.t 26) (.t 32))))])
      (.cond 33
       .skip
       (.exit 2)))
      (.seq (.block 3 (.seq (.ops [(none, (.v (.mov 8 (.c (.bool false)))))])
       (.seq (.seq (.ops [(none, (.v (.mov 9 (.c (.int .i64 0)))))])
       (.block 4 (.loop (.seq (.seq (.ops [(none, (.v (.mov 36 (.t 9)))),
          (none, (.v (.mov 37 (.t 0)))),
          (none, (.v (.mov 38 (.t 6)))),
          (none, (.p (.idx 39 6 (.t 37) (.t 38)))),
          (none, (.v (.fld 40 4 (.t 39)))),
          (none, (.v (.load 41 false 1 (.t 40)))),
          (none, (.p (.len 42 (.t 41)))),
          (none, (.v (.bin 43 .lss false (.t 36) (.t 42))))])
         (.cond 43
          .skip
          (.exit 4)))
         (.seq (.block 5 (.any false (.pure0 none (.v (.mov 46 (.t 8)))
           (.pure0 none (.v (.mov 47 (.t 46)))
           (.pure0 (some (47, false)) (.v (.mov 48 (.t 0)))
           (.pure0 (some (47, false)) (.v (.mov 49 (.t 6)))
           (.pure0 (some (47, false)) (.p (.idx 50 6 (.t 48) (.t 49)))
           (.pure0 (some (47, false)) (.v (.fld 51 4 (.t 50)))
           (.pure0 (some (47, false)) (.v (.load 52 false 1 (.t 51)))
           (.pure0 (some (47, false)) (.v (.mov 53 (.t 9)))
           (.pure0 (some (47, false)) (.p (.idx 54 1 (.t 52) (.t 53)))
           (.pure0 (some (47, false)) (.v (.load 55 false 1 (.t 54)))
           (.pure0 (some (47, false)) (.v (.mov 56 (.t 0)))
           (.pure0 (some (47, false)) (.v (.mov 57 (.t 6)))
           (.pure0 (some (47, false)) (.p (.idx 58 6 (.t 56) (.t 57)))
           (.pure0 (some (47, false)) (.v (.fld 59 5 (.t 58)))
           (.pure0 (some (47, false)) (.v (.load 60 false 1 (.t 59)))
           (.pure0 (some (47, false)) (.v (.mov 61 (.t 7)))
           (.pure0 (some (47, false)) (.p (.idx 62 1 (.t 60) (.t 61)))
           (.pure0 (some (47, false)) (.v (.load 63 false 1 (.t 62)))
           (.pure0 (some (47, false)) (.v (.bin 64 .eql false (.t 55) (.t 63)))
           (.pure0 none (.v (.pick 65 (.t 47) (.c (.bool true)) (.t 64)))
           (.pure0 none (.v (.mov 8 (.t 65)))
           .done)))))))))))))))))))))))
         (.ops [(none, (.v (.mov 44 (.t 9)))),
          (none, (.v (.bin 45 .add false (.t 44) (.c (.int .i64 1))))),
          (none, (.v (.mov 9 (.t 45))))]))))))
       (.seq (.ops [(none, (.v (.mov 66 (.t 0)))),
        (none, (.v (.mov 67 (.t 6)))),
        (none, (.p (.idx 68 6 (.t 66) (.t 67)))),
        (none, (.v (.fld 69 2 (.t 68)))),
        (none, (.v (.load 70 false 1 (.t 69)))),
        (none, (.v (.mov 71 (.t 70)))),
        ((some (71, true)), (.v (.mov 72 (.t 8)))),
        ((some (71, true)), (.v (.not 73 (.t 72)))),
        (none, (.v (.pick 74 (.t 71) (.t 73) (.c (.bool false)))))])
       (.cond 74
        (.seq (.ops [(none, (.v (.mov 75 (.t 5)))),
         (none, (.v (.mov 4 (.t 75))))])
        .ret)
        .skip)))))
      (.ops [(none, (.v (.mov 34 (.t 7)))),
       (none, (.v (.bin 35 .add false (.t 34) (.c (.int .i64 1))))),
       (none, (.v (.mov 7 (.t 35))))])))))))
   (.ops [(none, (.v (.mov 24 (.t 6)))),
    (none, (.v (.bin 25 .add false (.t 24) (.c (.int .i64 1))))),
    (none, (.v (.mov 6 (.t 25))))]))))))
 (.seq (.ops [(none, (.v (.mov 76 (.t 5)))),
  (none, (.v (.mov 77 (.t 76)))),
  ((some (77, true)), (.v (.mov 78 (.t 0)))),
  ((some (77, true)), (.v (.mov 79 (.t 1)))),
  ((some (77, true)), (.e (.call (some 80) 32 [(.t 78), (.t 79)]))),
  ((some (77, true)), (.v (.not 81 (.t 80)))),
  ((some (77, true)), (.v (.mov 82 (.t 81)))),
  ((some (82, false)), (.v (.mov 83 (.t 0)))),
  ((some (82, false)), (.v (.mov 84 (.t 1)))),
  ((some (82, false)), (.e (.call (some 85) 38 [(.t 83), (.t 84)]))),
  ((some (77, true)), (.v (.pick 86 (.t 82) (.c (.bool true)) (.t 85)))),
  (none, (.v (.pick 87 (.t 77) (.t 86) (.c (.bool false))))),
  (none, (.v (.mov 4 (.t 87))))])
 .ret)))))
theorem ok11 : FnOk E 11 88 [.tmp 4] mc11 := .of func11 (by kernel_rfl) (by kernel_rfl) (by kernel_rfl) (by kernel_rfl) (by kernel_rfl)
end Go.Proofs.Try
namespace Go.Proofs.Try
open Go.Al
set_option linter.unusedVariables false
set_option linter.unusedSimpArgs false
open Classical
set_option maxHeartbeats 8000000
theorem exists_lt_succ' {p : Nat → Prop} {k : Nat} : (∃ j, j < k + 1 ∧ p j) ↔ (∃ j, j < k ∧ p j) ∨ p k := by
  constructor
  · rintro ⟨j, h1, h2⟩
    by_cases e : j = k
    · subst e; exact .inr h2
    · exact .inl ⟨j, by omega, h2⟩
  · rintro (⟨j, h1, h2⟩ | h)
    · exact ⟨j, by omega, h2⟩
    · exact ⟨k, by omega, h⟩
theorem c11 (h : List Acc) (order : List Int) : ACalls E.P 11 [.view 6 (h.map accA), .view 1 (order.map (.int .i64))] [] (fun r H => r = .bool true ∧ H = []) := by
  have hmax := maxLen_eq
  refine ok11.acalls hE hm (by simp) ?_
  unfold mc11
  have h16 := c16
  have h17 := c17 h
  repeat' (first
    | (with_reducible first | apply cond_d | apply cond_nd | apply cond_i | apply guard_d | apply guard_nd | apply guard_df | apply guard_ndf | apply guard_i | apply ag_d | apply ag_nd | apply ag_df | apply ag_ndf | apply ag_i) <;> intro _
    | with_reducible first | refine LenR_i fun _ => ?_ | refine And.intro (by omega) ?_ | refine and_assoc.2 ?_ | apply sp_cond | apply sp_guard | apply sp_ag | apply sp_call | apply sp_acall | apply sp_loop | apply sp_any | apply sp_frz | apply sp_len | apply sp_idx | apply sp_keep | apply sp_back
    | with_reducible refine frz0_i ?_
    | ((with_reducible first | refine callN_i [] true (by simp) (by simp) ?_ | refine acallN_i true ?_); simp only [lPA, lPD, novO, setAll, seval, implies_true, pa_accs]; (first | (refine ⟨_, h16, ?_⟩; rintro _ _ ⟨rfl, rfl⟩) | (refine ⟨_, h17, ?_⟩; rintro _ _ ⟨⟨b, rfl⟩, rfl⟩)); simp only [lAL, lDF, tupA, eqA, isNil, slcNil, ptrCells, ptrAdd, cellsO, intA, boolA, readsV, readsP, isCall, wrote, srcOf, isNilSlice, Value.oneCell', seval, implies_true, forall_eq, ne_eq, lPA, lPD, novO, setAll, pa_accs])
    | ((with_reducible refine keep0_i ?_); simp only [lPA, lPD, novO, setAll, seval, implies_true])
    | simp (maxSteps := 1000000) (disch := omega) only [lAL, lDF, tupA, eqA, isNil, slcNil, ptrCells, ptrAdd, cellsO, intA, boolA, readsV, readsP, isCall, wrote, srcOf, isNilSlice, Value.oneCell', seval, implies_true, forall_eq, ne_eq, wrap_i64, LenR_ok, List.length_map, IdxR_ints, pa_accs])
  clear h16 h17
  refine loop_i (fun i : Nat => i ≤ h.length ∧ ∀ j, j < i → (at' h j).done = true → ∀ x ∈ (at' h j).writes, x ∈ (at' h j).reads) (fun i => ⟨[(0, .view 6 (h.map accA)), (1, .view 1 (order.map (.int .i64))), (5, .bool true), (6, .int .i64 i)], []⟩) (fun i => h.length - i) 0 ⟨by omega, by omega⟩ (Ent.to [] false (by simp) (by simp) rfl (by simp only [lPA, lPD, novO, setAll, seval, implies_true, pa_accs] <;> (try simp) <;> (try omega)) (by simp only [lPA, lPD, novO, setAll, seval, implies_true, pa_accs] <;> (try simp) <;> (try omega))) ?_
  rintro i ⟨hi, hrw⟩
  by_cases hin : i < h.length
  · have e1 : ∀ {m N d k}, IdxR E.P m N (h.map accA) (i : Int) d k = rK E.P m N k d (.vp (accC (at' h i))) := IdxR_at hin
    repeat' (first
      | (with_reducible first | apply cond_d | apply cond_nd | apply cond_i | apply guard_d | apply guard_nd | apply guard_df | apply guard_ndf | apply guard_i | apply ag_d | apply ag_nd | apply ag_df | apply ag_ndf | apply ag_i) <;> intro _
      | with_reducible first | refine LenR_i fun _ => ?_ | refine And.intro (by omega) ?_ | refine and_assoc.2 ?_ | apply sp_cond | apply sp_guard | apply sp_ag | apply sp_call | apply sp_acall | apply sp_loop | apply sp_any | apply sp_frz | apply sp_len | apply sp_idx | apply sp_keep | apply sp_back
      | with_reducible refine frz0_i ?_
      | simp (maxSteps := 1000000) (disch := omega) only [lAL, lDF, tupA, eqA, isNil, slcNil, ptrCells, ptrAdd, cellsO, intA, boolA, readsV, readsP, isCall, wrote, srcOf, isNilSlice, Value.oneCell', seval, implies_true, forall_eq, ne_eq, wrap_i64, LenR_ok, List.length_map, IdxR_ints])
    all_goals try (exfalso; omega)
    have hstep : (∀ x ∈ (at' h i).writes, (at' h i).done = true → x ∈ (at' h i).reads) → ∀ j, j < i + 1 → (at' h j).done = true → ∀ x ∈ (at' h j).writes, x ∈ (at' h j).reads := fun hx j hj hd x hxm => by
      by_cases e : j = i
      · subst e; exact hx x hxm hd
      · exact hrw j (by omega) hd x hxm
    generalize at' h i = y at *
    refine loop_i (fun k : Nat => k ≤ y.writes.length ∧ ∀ l, l < k → y.done = true → y.writes.getD l 0 ∈ y.reads) (fun k => ⟨[(0, .view 6 (h.map accA)), (1, .view 1 (order.map (.int .i64))), (5, .bool true), (6, .int .i64 i), (7, .int .i64 k)], []⟩) (fun k => y.writes.length - k) 0 ⟨by omega, by omega⟩ (Ent.to [] false (by simp) (by simp) rfl (by simp only [lPA, lPD, novO, setAll, seval, implies_true, pa_accs] <;> (try simp) <;> (try omega)) (by simp only [lPA, lPD, novO, setAll, seval, implies_true, pa_accs] <;> (try simp) <;> (try omega))) ?_
    rintro k ⟨hk, hkr⟩
    by_cases hkn : k < y.writes.length
    · have e2 : ∀ {m N d c}, IdxR E.P m N (y.writes.map (AV.int .i64)) (k : Int) d c = rK E.P m N c d (.vp [.int .i64 (y.writes.getD k 0)]) := by
        intros; rw [IdxR_ints (by omega) (by omega), Int.toNat_natCast]
      repeat' (first
        | (with_reducible first | apply cond_d | apply cond_nd | apply cond_i | apply guard_d | apply guard_nd | apply guard_df | apply guard_ndf | apply guard_i | apply ag_d | apply ag_nd | apply ag_df | apply ag_ndf | apply ag_i) <;> intro _
        | with_reducible first | refine LenR_i fun _ => ?_ | refine And.intro (by omega) ?_ | refine and_assoc.2 ?_ | apply sp_cond | apply sp_guard | apply sp_ag | apply sp_call | apply sp_acall | apply sp_loop | apply sp_any | apply sp_frz | apply sp_len | apply sp_idx | apply sp_keep | apply sp_back
        | with_reducible refine frz0_i ?_
        | simp (maxSteps := 1000000) (disch := omega) only [lAL, lDF, tupA, eqA, isNil, slcNil, ptrCells, ptrAdd, cellsO, intA, boolA, readsV, readsP, isCall, wrote, srcOf, isNilSlice, Value.oneCell', seval, implies_true, forall_eq, ne_eq, wrap_i64, LenR_ok, List.length_map, IdxR_ints, e1, accC])
      all_goals try (exfalso; omega)
      have hkstep : (y.done = true → y.writes.getD k 0 ∈ y.reads) → ∀ l, l < k + 1 → y.done = true → y.writes.getD l 0 ∈ y.reads := fun hx l hl hd => by
        by_cases e : l = k
        · subst e; exact hx hd
        · exact hkr l (by omega) hd
      generalize y.writes.getD k 0 = z at e2 hkstep
      refine loop_i (fun j : Nat => j ≤ y.reads.length) (fun j => ⟨[(0, .view 6 (h.map accA)), (1, .view 1 (order.map (.int .i64))), (5, .bool true), (6, .int .i64 i), (7, .int .i64 k), (8, .bool (decide (∃ l, l < j ∧ y.reads.getD l 0 = z))), (9, .int .i64 j)], []⟩) (fun j => y.reads.length - j) 0 (by omega) (Ent.to [] false (by simp) (by simp) rfl (by simp only [lPA, lPD, novO, setAll, seval, implies_true, pa_accs] <;> (try simp)) (by simp only [lPA, lPD, novO, setAll, seval, implies_true])) ?_
      intro j hj
      by_cases hjn : j < y.reads.length
      · have e3 : ∀ {m N d c}, IdxR E.P m N (y.reads.map (AV.int .i64)) (j : Int) d c = rK E.P m N c d (.vp [.int .i64 (y.reads.getD j 0)]) := by
          intros; rw [IdxR_ints (by omega) (by omega), Int.toNat_natCast]
        have hsucc : (∃ l, l < j + 1 ∧ y.reads.getD l 0 = z) ↔ (∃ l, l < j ∧ y.reads.getD l 0 = z) ∨ y.reads.getD j 0 = z := exists_lt_succ'
        repeat' (first
          | (with_reducible first | apply cond_d | apply cond_nd | apply cond_i | apply guard_d | apply guard_nd | apply guard_df | apply guard_ndf | apply guard_i | apply ag_d | apply ag_nd | apply ag_df | apply ag_ndf | apply ag_i) <;> intro _
          | with_reducible first | refine LenR_i fun _ => ?_ | refine And.intro (by omega) ?_ | refine and_assoc.2 ?_ | apply sp_cond | apply sp_guard | apply sp_ag | apply sp_call | apply sp_acall | apply sp_loop | apply sp_any | apply sp_frz | apply sp_len | apply sp_idx | apply sp_keep | apply sp_back
          | with_reducible refine frz0_i ?_
          | with_reducible refine any_i [] ?_
          | simp (maxSteps := 1000000) (disch := omega) only [lAL, lDF, tupA, eqA, isNil, slcNil, ptrCells, ptrAdd, cellsO, intA, boolA, readsV, readsP, isCall, wrote, srcOf, isNilSlice, Value.oneCell', seval, implies_true, forall_eq, ne_eq, wrap_i64, LenR_ok, List.length_map, IdxR_ints, e1, e2, e3, accC])
        all_goals try (exfalso; omega)
        all_goals clear e1 e2 e3
        all_goals refine back_i (j + 1) (by omega) (by omega) (Ent.to [] false (by simp) (by simp) rfl (by simp only [lPA, lPD, novO, setAll, seval, implies_true, pa_accs, hsucc] <;> (clear hsucc; refine ⟨congrArg AV.bool (Bool.eq_iff_iff.2 ?_), by simp⟩; simp only [decide_eq_true_eq, Bool.and_eq_true]; first | exact ⟨fun hq => .inr hq, fun hq => hq.elim (fun hw => absurd hw (by assumption)) id⟩ | exact ⟨fun _ => .inl (by assumption), fun _ => trivial⟩ | exact ⟨fun _ => .inl (by assumption), fun _ => rfl⟩)) (by simp only [lPA, lPD, novO, setAll, seval, implies_true]))
      · have e : j = y.reads.length := by omega
        subst e
        have hmem : (∃ l, l < y.reads.length ∧ y.reads.getD l 0 = z) → z ∈ y.reads := by
          rintro ⟨l, hl, rfl⟩
          rw [getD_get hl]; exact List.getElem_mem hl
        repeat' (first
          | (with_reducible first | apply cond_d | apply cond_nd | apply cond_i | apply guard_d | apply guard_nd | apply guard_df | apply guard_ndf | apply guard_i | apply ag_d | apply ag_nd | apply ag_df | apply ag_ndf | apply ag_i) <;> intro _
          | with_reducible first | refine LenR_i fun _ => ?_ | refine And.intro (by omega) ?_ | refine and_assoc.2 ?_ | apply sp_cond | apply sp_guard | apply sp_ag | apply sp_call | apply sp_acall | apply sp_loop | apply sp_any | apply sp_frz | apply sp_len | apply sp_idx | apply sp_keep | apply sp_back
          | with_reducible refine frz0_i ?_
          | simp (maxSteps := 1000000) (disch := omega) only [lAL, lDF, tupA, eqA, isNil, slcNil, ptrCells, ptrAdd, cellsO, intA, boolA, readsV, readsP, isCall, wrote, srcOf, isNilSlice, Value.oneCell', seval, implies_true, forall_eq, ne_eq, wrap_i64, LenR_ok, List.length_map, IdxR_ints, e1, accC])
        all_goals try (exfalso; omega)
        all_goals first
          | (refine keep0_i ?_; simp [lPA, lPD, novO, setAll, seval, implies_true]; done)
          | exact back_i (k + 1) ⟨by omega, hkstep fun hd => by first | exact hmem (by assumption) | (exfalso; simp_all; done)⟩ (by omega) (Ent.to [] false (by simp) (by simp) rfl (by simp only [lPA, lPD, novO, setAll, seval, implies_true, pa_accs] <;> (try simp) <;> (try omega)) (by simp only [lPA, lPD, novO, setAll, seval, implies_true, pa_accs] <;> (try simp) <;> (try omega)))
    · repeat' (first
        | (with_reducible first | apply cond_d | apply cond_nd | apply cond_i | apply guard_d | apply guard_nd | apply guard_df | apply guard_ndf | apply guard_i | apply ag_d | apply ag_nd | apply ag_df | apply ag_ndf | apply ag_i) <;> intro _
        | with_reducible first | refine LenR_i fun _ => ?_ | refine And.intro (by omega) ?_ | refine and_assoc.2 ?_ | apply sp_cond | apply sp_guard | apply sp_ag | apply sp_call | apply sp_acall | apply sp_loop | apply sp_any | apply sp_frz | apply sp_len | apply sp_idx | apply sp_keep | apply sp_back
        | with_reducible refine frz0_i ?_
        | simp (maxSteps := 1000000) (disch := omega) only [lAL, lDF, tupA, eqA, isNil, slcNil, ptrCells, ptrAdd, cellsO, intA, boolA, readsV, readsP, isCall, wrote, srcOf, isNilSlice, Value.oneCell', seval, implies_true, forall_eq, ne_eq, wrap_i64, LenR_ok, List.length_map, IdxR_ints, e1, accC])
      all_goals try (exfalso; omega)
      refine back_i (i + 1) ⟨by omega, hstep fun x hx hd => ?_⟩ (by omega) (Ent.to [] false (by simp) (by simp) rfl (by simp only [lPA, lPD, novO, setAll, seval, implies_true, pa_accs] <;> (try simp) <;> (try omega)) (by simp only [lPA, lPD, novO, setAll, seval, implies_true, pa_accs] <;> (try simp) <;> (try omega)))
      obtain ⟨l, hl, rfl⟩ := mem_getD hx
      exact hkr l (by omega) hd
  · have e : i = h.length := by omega
    subst e
    by_cases he : EqvS h order
    · obtain ⟨hck, ol, heo⟩ := he
      have heq : EqvS h order := ⟨hck, ol, heo⟩
      obtain rfl := heo.eq
      have h32 := c32 h (natL ol)
      simp only [heq, decide_true] at h32
      have h38 := c38 h ol hck (fun i hi => ((heo.mem i).1 hi).1) heo.nodup (fwd_of_eqv hck hrw heo)
      repeat' (first
        | (with_reducible first | apply cond_d | apply cond_nd | apply cond_i | apply guard_d | apply guard_nd | apply guard_df | apply guard_ndf | apply guard_i | apply ag_d | apply ag_nd | apply ag_df | apply ag_ndf | apply ag_i) <;> intro _
        | with_reducible first | refine LenR_i fun _ => ?_ | refine And.intro (by omega) ?_ | refine and_assoc.2 ?_ | apply sp_cond | apply sp_guard | apply sp_ag | apply sp_call | apply sp_acall | apply sp_loop | apply sp_any | apply sp_frz | apply sp_len | apply sp_idx | apply sp_keep | apply sp_back
        | with_reducible refine frz0_i ?_
        | ((with_reducible first | refine callN_i [] true (by simp) (by simp) ?_ | refine acallN_i true ?_); simp only [lPA, lPD, novO, setAll, seval, implies_true, pa_accs]; (first | (refine ⟨_, h32, ?_⟩; rintro _ _ ⟨rfl, rfl⟩) | (refine ⟨_, h38, ?_⟩; rintro _ _ ⟨rfl, rfl⟩)); simp only [lAL, lDF, tupA, eqA, isNil, slcNil, ptrCells, ptrAdd, cellsO, intA, boolA, readsV, readsP, isCall, wrote, srcOf, isNilSlice, Value.oneCell', seval, implies_true, forall_eq, ne_eq, lPA, lPD, novO, setAll, pa_accs])
        | ((with_reducible refine keep0_i ?_); simp only [lPA, lPD, novO, setAll, seval, implies_true])
        | simp (maxSteps := 1000000) (disch := omega) only [lAL, lDF, tupA, eqA, isNil, slcNil, ptrCells, ptrAdd, cellsO, intA, boolA, readsV, readsP, isCall, wrote, srcOf, isNilSlice, Value.oneCell', seval, implies_true, forall_eq, ne_eq, wrap_i64, LenR_ok, List.length_map, IdxR_ints, pa_accs])
      all_goals try (exfalso; omega)
    · have h32 := c32 h order
      simp only [he, decide_false] at h32
      repeat' (first
        | (with_reducible first | apply cond_d | apply cond_nd | apply cond_i | apply guard_d | apply guard_nd | apply guard_df | apply guard_ndf | apply guard_i | apply ag_d | apply ag_nd | apply ag_df | apply ag_ndf | apply ag_i) <;> intro _
        | with_reducible first | refine LenR_i fun _ => ?_ | refine And.intro (by omega) ?_ | refine and_assoc.2 ?_ | apply sp_cond | apply sp_guard | apply sp_ag | apply sp_call | apply sp_acall | apply sp_loop | apply sp_any | apply sp_frz | apply sp_len | apply sp_idx | apply sp_keep | apply sp_back
        | with_reducible refine frz0_i ?_
        | ((with_reducible first | refine callN_i [] true (by simp) (by simp) ?_ | refine acallN_i true ?_); simp only [lPA, lPD, novO, setAll, seval, implies_true, pa_accs]; (refine ⟨_, h32, ?_⟩; rintro _ _ ⟨rfl, rfl⟩); simp only [lAL, lDF, tupA, eqA, isNil, slcNil, ptrCells, ptrAdd, cellsO, intA, boolA, readsV, readsP, isCall, wrote, srcOf, isNilSlice, Value.oneCell', seval, implies_true, forall_eq, ne_eq, lPA, lPD, novO, setAll, pa_accs])
        | ((with_reducible refine keep0_i ?_); simp only [lPA, lPD, novO, setAll, seval, implies_true])
        | simp (maxSteps := 1000000) (disch := omega) only [lAL, lDF, tupA, eqA, isNil, slcNil, ptrCells, ptrAdd, cellsO, intA, boolA, readsV, readsP, isCall, wrote, srcOf, isNilSlice, Value.oneCell', seval, implies_true, forall_eq, ne_eq, wrap_i64, LenR_ok, List.length_map, IdxR_ints, pa_accs])
      all_goals try (exfalso; omega)
end Go.Proofs.Try


namespace Go.Proofs.Ythbajphbhoiceaa
open Go.Al Go.Proofs.Try
open Go.ChangeShapes Go.WideShapes Go.ChangeAt Go.RowKit
set_option linter.unusedVariables false
set_option maxRecDepth 100000 in
theorem lifted11 (os : Os) (started : os.Started) (H : Type) (enc : TypeId × Value → H) :
    ReturnsInHanded {} Try.checked os 11 .any (Rows.conflictOrdersFollowEdgesSpec.pre6 enc Try.prog Try.f11 Rows.conflictOrdersFollowEdgesRow.domain false) (Rows.conflictOrdersFollowEdgesSpec.post enc Try.prog Try.f11 false true false false) := by
  refine returnsInHanded_of_change (C := Try.checked) own started (by kernel_rfl) Try.func11
    (ChangeSpec.witness6 (enc := enc) (C := Try.checked) false ⟨#[], #[.slice none 0 0, .slice none 0 0], []⟩ 8 (by kernel_rfl) (by kernel_rfl) (by kernel_rfl) (by kernel_rfl)) ?_
  intro W base args ds gs before hval hW _ _
  exact contract_of hE kids full (s := Rows.conflictOrdersFollowEdgesSpec) (tb := 4) (by rw [Try.params11]; decide +kernel) (by rw [Try.params11]; exact reads_cons rv22 (reads_cons rv33 (reads_nil))) (by rintro _ ⟨a, _, ha, ⟨b, _, hb, rfl, rfl⟩, rfl⟩; exact c11 a b) rfl
    (by rw [Try.params11]; rintro H (_ | ⟨d0, (_ | ⟨d1, (_ | ⟨dz, ds⟩)⟩)⟩) hl <;> simp at hl; exact ⟨rfl, rfl, rfl⟩) (by kernel_rfl) (by kernel_rfl) H enc W base args ds gs before hval hW
theorem conflictOrdersFollowEdges_holds : Rows.ConflictOrdersFollowEdgesSaid :=
  OpenClaim.holds_of_wide 11 Try.f11 rfl rfl rfl rfl rfl rfl rfl ⟨rfl, rfl, rfl, rfl, rfl⟩ rfl rfl rfl rfl rfl (by kernel_rfl) Try.func11 (by kernel_rfl)
    (of_decide_eq_true (by kernel_rfl)) (by unfold Func.isWrapper; first | (rw [if_pos (by decide +kernel)]; kernel_rfl) | (rw [if_neg (by decide +kernel)]; exact ⟨rfl, rfl⟩))
    (fun os started H enc _ => lifted11 os started H enc)
end Go.Proofs.Ythbajphbhoiceaa
