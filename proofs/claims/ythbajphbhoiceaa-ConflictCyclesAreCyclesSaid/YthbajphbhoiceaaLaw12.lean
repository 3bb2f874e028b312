/-
  Cycle returns different committed transactions, the least one first, each with an edge to the next one and the last one to the first one; no condition.
-/
import Derived.Test.YthbajphbhoiceaaPlainc
import Derived.Test.YthbajphbhoiceaaCbf
import Derived.Test.YthbajphbhoiceaaReads
import Derived.Test.YthbajphbhoiceaaRows
set_option linter.unusedSimpArgs false
set_option linter.unusedVariables false
namespace Go.Proofs.Try
open Go.Al
set_option maxRecDepth 100000
/-- alum/alumlaw26.ConflictCyclesAreCycles -/
def mc12 : MC :=
 (.seq (.ops [(none, (.v (.mov 2 (.c (.bool false)))))])
 (.seq (.ops [(none, (.e (.call (some 11) 16 []))),
  (none, (.v (.mov 3 (.t 11))))])
 (.seq (.seq (.ops [(none, (.v (.mov 12 (.t 0)))),
  (none, (.e (.call (some 13) 17 [(.t 12)]))),
  (none, (.v (.not 14 (.t 13))))])
 (.cond 14
  (.seq (.ops [(none, (.v (.mov 15 (.t 3)))),
   (none, (.v (.mov 2 (.t 15))))])
  .ret)
  .skip))
 (.seq (.ops [(none, (.v (.mov 16 (.t 0)))),
  (none, (.e (.call (some 17) 30 [(.t 16)]))),
  (none, (.v (.mov 4 (.t 17))))])
 (.seq (.ops [(none, (.v (.mov 18 (.t 0)))),
  (none, (.e (.call (some 19) 23 [(.t 18)]))),
  (none, (.v (.mov 5 (.t 19))))])
 (.seq (.seq (.ops [(none, (.v (.mov 6 (.c (.int .i64 0)))))])
 (.block 0 (.loop (.seq (.seq (.ops [(none, (.v (.mov 20 (.t 6)))),
    (none, (.v (.mov 21 (.t 4)))),
    (none, (.p (.len 22 (.t 21)))),
    (none, (.v (.bin 23 .lss false (.t 20) (.t 22))))])
   (.cond 23
    .skip
    (.exit 0)))
   (.seq (.block 1 (.seq (.any true (.pure0 none (.v (.mov 26 (.t 4)))
     (.pure0 none (.v (.mov 27 (.t 6)))
     (.pure0 none (.p (.idx 28 1 (.t 26) (.t 27)))
     (.pure0 none (.v (.load 29 false 1 (.t 28)))
     (.pure0 none (.v (.mov 30 (.t 4)))
     (.pure0 none (.v (.mov 31 (.t 6)))
     (.pure0 none (.v (.bin 32 .add false (.t 31) (.c (.int .i64 1))))
     (.pure0 none (.v (.mov 33 (.t 4)))
     (.pure0 none (.p (.len 34 (.t 33)))
     (.pure0 none (.p (.rem 35 (.t 32) (.t 34)))
     (.pure0 none (.p (.idx 36 1 (.t 30) (.t 35)))
     (.pure0 none (.v (.load 37 false 1 (.t 36)))
     (.pure0 none (.v (.build 38 [(.int .i64 0), (.int .i64 0)] [(0, 1, (.t 29)), (1, 1, (.t 37))]))
     (.alt none (.e (.alloc 7 [(.int .i64 0), (.int .i64 0)]))
      (.alt none (.e (.store 2 true (.t 7) (.t 38)))
       .done
       .stop)
      .stop)))))))))))))))
    (.seq (.ops [(none, (.v (.mov 8 (.c (.bool false)))))])
    (.seq (.seq (.ops [(none, (.v (.mov 9 (.c (.int .i64 0)))))])
    (.block 2 (.loop (.seq (.seq (.ops [(none, (.v (.mov 39 (.t 9)))),
       (none, (.v (.mov 40 (.t 5)))),
       (none, (.p (.len 41 (.t 40)))),
       (none, (.v (.bin 42 .lss false (.t 39) (.t 41))))])
      (.cond 42
       .skip
       (.exit 2)))
      (.seq (.block 3 (.any false (.pure0 none (.v (.mov 45 (.t 8)))
        (.pure0 none (.v (.mov 46 (.t 45)))
        (.pure0 (some (46, false)) (.v (.mov 47 (.t 5)))
        (.pure0 (some (46, false)) (.v (.mov 48 (.t 9)))
        (.pure0 (some (46, false)) (.p (.idx 49 2 (.t 47) (.t 48)))
        (.pure0 (some (46, false)) (.v (.load 50 true 2 (.t 49)))
        (.pure0 (some (46, false)) (.v (.load 51 true 2 (.t 7)))
        (.pure0 (some (46, false)) (.v (.eq 52 false (.agg [(0, false, 1, .int), (1, false, 1, .int)]) (.t 50) (.t 51)))
        (.pure0 none (.v (.pick 53 (.t 46) (.c (.bool true)) (.t 52)))
        (.pure0 none (.v (.mov 8 (.t 53)))
        .done))))))))))))
      (.ops [(none, (.v (.mov 43 (.t 9)))),
       (none, (.v (.bin 44 .add false (.t 43) (.c (.int .i64 1))))),
       (none, (.v (.mov 9 (.t 44))))]))))))
    (.seq (.seq (.any false (.pure0 none (.v (.mov 54 (.t 8)))
     (.pure0 none (.v (.not 55 (.t 54)))
     (.pure0 none (.v (.mov 56 (.t 55)))
     (.pure0 (some (56, false)) (.v (.mov 57 (.t 6)))
     (.pure0 (some (56, false)) (.v (.bin 58 .gtr false (.t 57) (.c (.int .i64 0))))
     (.pure0 (some (56, false)) (.v (.mov 59 (.t 58)))
     (.pure0 (some (59, true)) (.v (.mov 60 (.t 4)))
     (.pure0 (some (59, true)) (.v (.mov 61 (.t 6)))
     (.pure0 (some (59, true)) (.p (.idx 62 1 (.t 60) (.t 61)))
     (.pure0 (some (59, true)) (.v (.load 63 false 1 (.t 62)))
     (.pure0 (some (59, true)) (.v (.mov 64 (.t 4)))
     (.pure0 (some (59, true)) (.p (.idx 65 1 (.t 64) (.c (.int .i64 0))))
     (.pure0 (some (59, true)) (.v (.load 66 false 1 (.t 65)))
     (.pure0 (some (59, true)) (.v (.bin 67 .leq false (.t 63) (.t 66)))
     (.pure0 (some (56, false)) (.v (.pick 68 (.t 59) (.t 67) (.c (.bool false))))
     (.pure0 none (.v (.pick 69 (.t 56) (.c (.bool true)) (.t 68)))
     .done)))))))))))))))))
    (.cond 69
     (.seq (.ops [(none, (.v (.mov 2 (.c (.bool false)))))])
     .ret)
     .skip))
    (.seq (.ops [(none, (.v (.mov 10 (.c (.int .i64 0)))))])
    (.block 4 (.loop (.seq (.seq (.ops [(none, (.v (.mov 70 (.t 10)))),
       (none, (.v (.mov 71 (.t 6)))),
       (none, (.v (.bin 72 .lss false (.t 70) (.t 71))))])
      (.cond 72
       .skip
       (.exit 4)))
      (.seq (.block 5 (.seq (.any false (.pure0 none (.v (.mov 75 (.t 4)))
        (.pure0 none (.v (.mov 76 (.t 10)))
        (.pure0 none (.p (.idx 77 1 (.t 75) (.t 76)))
        (.pure0 none (.v (.load 78 false 1 (.t 77)))
        (.pure0 none (.v (.mov 79 (.t 4)))
        (.pure0 none (.v (.mov 80 (.t 6)))
        (.pure0 none (.p (.idx 81 1 (.t 79) (.t 80)))
        (.pure0 none (.v (.load 82 false 1 (.t 81)))
        (.pure0 none (.v (.bin 83 .eql false (.t 78) (.t 82)))
        .done))))))))))
       (.cond 83
        (.seq (.ops [(none, (.v (.mov 2 (.c (.bool false)))))])
        .ret)
        .skip)))
      (.ops [(none, (.v (.mov 73 (.t 10)))),
       (none, (.v (.bin 74 .add false (.t 73) (.c (.int .i64 1))))),
       (none, (.v (.mov 10 (.t 74))))])))))))))))
   (.ops [(none, (.v (.mov 24 (.t 6)))),
    (none, (.v (.bin 25 .add false (.t 24) (.c (.int .i64 1))))),
    (none, (.v (.mov 6 (.t 25))))]))))))
 (.seq (.ops [(none, (.v (.mov 84 (.t 3)))),
  (none, (.v (.mov 85 (.t 84)))),
  ((some (85, true)), (.v (.mov 86 (.t 4)))),
  ((some (85, true)), (.p (.len 87 (.t 86)))),
  ((some (85, true)), (.v (.bin 88 .neq false (.t 87) (.c (.int .i64 1))))),
  (none, (.v (.pick 89 (.t 85) (.t 88) (.c (.bool false))))),
  (none, (.v (.mov 2 (.t 89))))])
 .ret)))))))
theorem ok12 : FnOk E 12 90 [.tmp 2] mc12 := .of func12 (by kernel_rfl) (by kernel_rfl) (by kernel_rfl) (by kernel_rfl) (by kernel_rfl)
end Go.Proofs.Try
namespace Go.Proofs.Try
open Go.Al
set_option linter.unusedVariables false
set_option linter.unusedSimpArgs false
open Classical
set_option maxHeartbeats 8000000
/-- What Cycle and Depends return fits. -/
theorem cyc_pairs {h : List Acc} {c : List Nat} (hc : CycF h c) : c.length ≠ 1 ∧ (∀ i, i < c.length → (c.getD i 0, c.getD ((i + 1) % c.length) 0) ∈ pairsS h (Edge h)) ∧ (∀ i, 0 < i → i < c.length → c.getD 0 0 < c.getD i 0) ∧ ∀ i k, k < i → i < c.length → c.getD k 0 ≠ c.getD i 0 := by
  unfold CycF at hc
  split at hc
  · rename_i hck
    obtain ⟨h1, h2, h3, h4⟩ := cycle_facts hc
    refine ⟨h1, fun i hi => ?_, h3, h4⟩
    rw [pairsS, if_pos hck]
    have he := h2 i hi
    have hd := edge_done he
    exact mem_pairsTo.2 ⟨done_lt hd.1, done_lt hd.2, he⟩
  · subst hc
    refine ⟨by simp, fun i hi => by simp at hi, fun i _ hi => by simp at hi, fun i k _ hi => by simp at hi⟩
theorem exists_lt_succ {p : Nat → Prop} {k : Nat} : (∃ j, j < k + 1 ∧ p j) ↔ (∃ j, j < k ∧ p j) ∨ p k := by
  constructor
  · rintro ⟨j, h1, h2⟩
    by_cases e : j = k
    · subst e; exact .inr h2
    · exact .inl ⟨j, by omega, h2⟩
  · rintro (⟨j, h1, h2⟩ | h)
    · exact ⟨j, by omega, h2⟩
    · exact ⟨k, by omega, h⟩
theorem c12 (h : List Acc) : ACalls E.P 12 [.view 6 (h.map accA)] [] (fun r H => r = .bool true ∧ H = []) := by
  have hmax := maxLen_eq
  refine ok12.acalls hE hm (by simp) ?_
  unfold mc12
  have h16 := c16
  have h17 := c17 h
  have h23 := c23 h
  repeat' (first
    | (with_reducible first | apply cond_d | apply cond_nd | apply cond_i | apply guard_d | apply guard_nd | apply guard_df | apply guard_ndf | apply guard_i | apply ag_d | apply ag_nd | apply ag_df | apply ag_ndf | apply ag_i) <;> intro _
    | with_reducible first | refine LenR_i fun _ => ?_ | refine And.intro (by omega) ?_ | refine and_assoc.2 ?_ | apply sp_cond | apply sp_guard | apply sp_ag | apply sp_call | apply sp_acall | apply sp_loop | apply sp_any | apply sp_frz | apply sp_len | apply sp_idx | apply sp_keep | apply sp_back
    | with_reducible refine frz0_i ?_
    | ((with_reducible first | refine callN_i [] true (by simp) (by simp) ?_ | refine acallN_i true ?_); simp only [lPA, lPD, novO, setAll, seval, implies_true, pa_accs]; (first | (refine ⟨_, h16, ?_⟩; rintro _ _ ⟨rfl, rfl⟩) | (refine ⟨_, h17, ?_⟩; rintro _ _ ⟨⟨b, rfl⟩, rfl⟩)); simp only [lAL, lDF, tupA, eqA, isNil, slcNil, ptrCells, ptrAdd, cellsO, intA, boolA, readsV, readsP, isCall, wrote, srcOf, isNilSlice, Value.oneCell', seval, implies_true, forall_eq, ne_eq, lPA, lPD, novO, setAll, pa_accs])
    | ((with_reducible refine keep0_i ?_); simp only [lPA, lPD, novO, setAll, seval, implies_true])
    | simp (maxSteps := 1000000) (disch := omega) only [lAL, lDF, tupA, eqA, isNil, slcNil, ptrCells, ptrAdd, cellsO, intA, boolA, readsV, readsP, isCall, wrote, srcOf, isNilSlice, Value.oneCell', seval, implies_true, forall_eq, ne_eq, wrap_i64, LenR_ok, List.length_map, IdxR_ints, pa_accs])
  refine callN_i [] false (by simp) (by simp) ?_
  simp only [lPA, lPD, novO, setAll, seval, implies_true]
  refine ⟨_, c30 h, ?_⟩
  rintro _ _ ⟨⟨c, hc, rfl⟩, rfl⟩
  obtain ⟨f1, f2, f3, f4⟩ := cyc_pairs hc
  generalize pairsS h (Edge h) = P at *
  simp only [pairsA] at h23
  simp only [intsA, lPA, lPD, novO, setAll, seval, implies_true, lAL, lDF, tupA, eqA, isNil, slcNil, ptrCells, ptrAdd, cellsO, intA, boolA, readsV, readsP, isCall, wrote, srcOf, isNilSlice, Value.oneCell', seval, implies_true, forall_eq, ne_eq]
  repeat' (first
    | (with_reducible first | apply cond_d | apply cond_nd | apply cond_i | apply guard_d | apply guard_nd | apply guard_df | apply guard_ndf | apply guard_i | apply ag_d | apply ag_nd | apply ag_df | apply ag_ndf | apply ag_i) <;> intro _
    | with_reducible first | refine LenR_i fun _ => ?_ | refine And.intro (by omega) ?_ | refine and_assoc.2 ?_ | apply sp_cond | apply sp_guard | apply sp_ag | apply sp_call | apply sp_acall | apply sp_loop | apply sp_any | apply sp_frz | apply sp_len | apply sp_idx | apply sp_keep | apply sp_back
    | with_reducible refine frz0_i ?_
    | ((with_reducible first | refine callN_i [] false (by simp) (by simp) ?_ | refine acallN_i false ?_); simp only [lPA, lPD, novO, setAll, seval, implies_true, pa_accs]; (refine ⟨_, h23, ?_⟩; rintro _ _ ⟨rfl, rfl⟩); simp only [lAL, lDF, tupA, eqA, isNil, slcNil, ptrCells, ptrAdd, cellsO, intA, boolA, readsV, readsP, isCall, wrote, srcOf, isNilSlice, Value.oneCell', seval, implies_true, forall_eq, ne_eq, lPA, lPD, novO, setAll, pa_accs])
    | simp (maxSteps := 1000000) (disch := omega) only [lAL, lDF, tupA, eqA, isNil, slcNil, ptrCells, ptrAdd, cellsO, intA, boolA, readsV, readsP, isCall, wrote, srcOf, isNilSlice, Value.oneCell', seval, implies_true, forall_eq, ne_eq, wrap_i64, LenR_ok, List.length_map, IdxR_ints, pa_accs])
  refine loop_i (fun i : Nat => i ≤ c.length) (fun i => ⟨[(3, .bool true), (4, .view 1 ((natL c).map (.int .i64))), (5, .view 2 (P.map pairA)), (6, .int .i64 i)], []⟩) (fun i => c.length - i) 0 (by omega) (Ent.to [] false (by simp) (by simp) rfl (by simp only [lPA, lPD, novO, setAll, seval, implies_true, pa_accs] <;> (try simp) <;> (try omega)) (by simp only [lPA, lPD, novO, setAll, seval, implies_true, pa_accs] <;> (try simp) <;> (try omega))) ?_
  intro i hi
  by_cases hin : i < c.length
  · have hmod : (i + 1) % c.length < c.length := Nat.mod_lt _ (by omega)
    have e1 : ∀ {m N d k}, IdxR E.P m N ((natL c).map (.int .i64)) (i : Int) d k = rK E.P m N k d (.vp [.int .i64 ((c.getD i 0 : Nat) : Int)]) := by
      intros; rw [IdxR_nats hin]
    have e2 : ∀ {m N d k}, IdxR E.P m N ((natL c).map (.int .i64)) (((i + 1) % c.length : Nat) : Int) d k = rK E.P m N k d (.vp [.int .i64 ((c.getD ((i + 1) % c.length) 0 : Nat) : Int)]) := by
      intros; rw [IdxR_nats hmod]
    have hrem : ((i : Int) + 1).tmod (c.length : Int) = (((i + 1) % c.length : Nat) : Int) := by
      rw [show (i : Int) + 1 = ((i + 1 : Nat) : Int) by omega, Int.ofNat_tmod]
    have hne0 : ((c.length : Nat) : Int) ≠ 0 := by omega
    repeat' (first
      | (with_reducible first | apply cond_d | apply cond_nd | apply cond_i | apply guard_d | apply guard_nd | apply guard_df | apply guard_ndf | apply guard_i | apply ag_d | apply ag_nd | apply ag_df | apply ag_ndf | apply ag_i) <;> intro _
      | with_reducible first | refine LenR_i fun _ => ?_ | refine And.intro (by omega) ?_ | refine and_assoc.2 ?_ | apply sp_cond | apply sp_guard | apply sp_ag | apply sp_call | apply sp_acall | apply sp_loop | apply sp_any | apply sp_frz | apply sp_len | apply sp_idx | apply sp_keep | apply sp_back
      | with_reducible refine frz0_i ?_
      | with_reducible refine any_i [] ?_
      | simp (maxSteps := 1000000) (disch := omega) only [lAL, lDF, tupA, eqA, isNil, slcNil, ptrCells, ptrAdd, cellsO, intA, boolA, readsV, readsP, isCall, wrote, srcOf, isNilSlice, Value.oneCell', seval, implies_true, forall_eq, ne_eq, wrap_i64, LenR_ok, List.length_map, IdxR_ints, e1, e2, natL_len, hrem, hne0])
    all_goals try (exfalso; omega)
    have hpm := f2 i hin
    clear e2 hrem
    generalize hx : c.getD i 0 = x at *
    generalize c.getD ((i + 1) % c.length) 0 = y at *
    refine loop_i (fun k : Nat => k ≤ P.length) (fun k => ⟨[(3, .bool true), (4, .view 1 ((natL c).map (.int .i64))), (5, .view 2 (P.map pairA)), (6, .int .i64 i), (7, .op 0 0), (8, .bool (decide (∃ j, j < k ∧ P.getD j default = (x, y)))), (9, .int .i64 k)], [.box [.int .i64 x, .int .i64 y]]⟩) (fun k => P.length - k) 0 (by omega) (Ent.to [0] false (by simp) (by simp) rfl (by simp only [lPA, lPD, novO, setAll, seval, implies_true, pa_accs] <;> (try simp)) (by simp only [lPA, lPD, novO, setAll, seval, implies_true])) ?_
    intro k hk
    by_cases hkn : k < P.length
    · have e3 : ∀ {m N d c}, IdxR E.P m N (P.map pairA) (k : Int) d c = rK E.P m N c d (.vp [.int .i64 (P.getD k default).1, .int .i64 (P.getD k default).2]) := IdxR_prs hkn
      have hsucc : (∃ j, j < k + 1 ∧ P.getD j default = (x, y)) ↔ (∃ j, j < k ∧ P.getD j default = (x, y)) ∨ P.getD k default = (x, y) := exists_lt_succ
      have hpe : P.getD k default = (x, y) ↔ ((P.getD k default).1 : Int) = x ∧ ((P.getD k default).2 : Int) = y := by
        rw [Prod.ext_iff]; omega
      repeat' (first
        | (with_reducible first | apply cond_d | apply cond_nd | apply cond_i | apply guard_d | apply guard_nd | apply guard_df | apply guard_ndf | apply guard_i | apply ag_d | apply ag_nd | apply ag_df | apply ag_ndf | apply ag_i) <;> intro _
        | with_reducible first | refine LenR_i fun _ => ?_ | refine And.intro (by omega) ?_ | refine and_assoc.2 ?_ | apply sp_cond | apply sp_guard | apply sp_ag | apply sp_call | apply sp_acall | apply sp_loop | apply sp_any | apply sp_frz | apply sp_len | apply sp_idx | apply sp_keep | apply sp_back
        | with_reducible refine frz0_i ?_
        | with_reducible refine any_i [] ?_
        | simp (maxSteps := 1000000) (disch := omega) only [lAL, lDF, tupA, eqA, isNil, slcNil, ptrCells, ptrAdd, cellsO, intA, boolA, readsV, readsP, isCall, wrote, srcOf, isNilSlice, Value.oneCell', seval, implies_true, forall_eq, ne_eq, wrap_i64, LenR_ok, List.length_map, IdxR_ints, e3])
      all_goals try (exfalso; omega)
      all_goals clear e1 e3
      all_goals refine back_i (k + 1) (by omega) (by omega) (Ent.to [0] false (by simp) (by simp) rfl (by simp only [lPA, lPD, novO, setAll, seval, implies_true, hsucc, hpe] <;> (clear hsucc hpe; refine ⟨congrArg AV.bool (Bool.eq_iff_iff.2 ?_), by simp⟩; simp only [decide_eq_true_eq, Bool.and_eq_true]; first | exact ⟨fun hq => .inr hq, fun hq => hq.elim (fun hw => absurd hw (by assumption)) id⟩ | exact ⟨fun _ => .inl (by assumption), fun _ => trivial⟩ | exact ⟨fun _ => .inl (by assumption), fun _ => rfl⟩)) (by simp only [lPA, lPD, novO, setAll, seval, implies_true]))
    · have e : k = P.length := by omega
      subst e
      have hfound : ∃ j, j < P.length ∧ P.getD j default = (x, y) := by
        obtain ⟨j, hj, e⟩ := List.getElem_of_mem hpm
        exact ⟨j, hj, by rw [getD_ge hj]; exact e⟩
      have hz : ∀ {m N d k}, IdxR E.P m N ((natL c).map (.int .i64)) 0 d k = rK E.P m N k d (.vp [.int .i64 ((c.getD 0 0 : Nat) : Int)]) := by
        intros; exact IdxR_nats (i := 0) (by omega)
      have hlt : 0 < i → c.getD 0 0 < x := fun h0 => by rw [← hx]; exact f3 i h0 hin
      repeat' (first
        | (with_reducible first | apply cond_d | apply cond_nd | apply cond_i | apply guard_d | apply guard_nd | apply guard_df | apply guard_ndf | apply guard_i | apply ag_d | apply ag_nd | apply ag_df | apply ag_ndf | apply ag_i) <;> intro _
        | with_reducible first | refine LenR_i fun _ => ?_ | refine And.intro (by omega) ?_ | refine and_assoc.2 ?_ | apply sp_cond | apply sp_guard | apply sp_ag | apply sp_call | apply sp_acall | apply sp_loop | apply sp_any | apply sp_frz | apply sp_len | apply sp_idx | apply sp_keep | apply sp_back
        | with_reducible refine frz0_i ?_
        | with_reducible refine any_i [] ?_
        | simp (maxSteps := 1000000) (disch := omega) only [lAL, lDF, tupA, eqA, isNil, slcNil, ptrCells, ptrAdd, cellsO, intA, boolA, readsV, readsP, isCall, wrote, srcOf, isNilSlice, Value.oneCell', seval, implies_true, forall_eq, ne_eq, wrap_i64, LenR_ok, List.length_map, IdxR_ints, hfound, e1, hz])
      all_goals try (exfalso; omega)
      all_goals
        clear e1 hz h23 h17 h16
        refine loop_i (fun k : Nat => k ≤ i) (fun k => ⟨[(3, .bool true), (4, .view 1 ((natL c).map (.int .i64))), (5, .view 2 (P.map pairA)), (6, .int .i64 i), (10, .int .i64 k)], []⟩) (fun k => i - k) 0 (by omega) (Ent.to [] false (by simp) (by simp) rfl (by simp only [lPA, lPD, novO, setAll, seval, implies_true, pa_accs] <;> (try simp) <;> (try omega)) (by simp only [lPA, lPD, novO, setAll, seval, implies_true, pa_accs] <;> (try simp) <;> (try omega))) ?_
        intro k hk
        by_cases hki : k < i
        · have hkc : k < c.length := by omega
          have e1 : ∀ {m N d k}, IdxR E.P m N ((natL c).map (.int .i64)) (i : Int) d k = rK E.P m N k d (.vp [.int .i64 ((x : Nat) : Int)]) := by
            intros; rw [IdxR_nats hin, hx]
          have e2 : ∀ {m N d q}, IdxR E.P m N ((natL c).map (.int .i64)) (k : Int) d q = rK E.P m N q d (.vp [.int .i64 ((c.getD k 0 : Nat) : Int)]) := by
            intros; rw [IdxR_nats hkc]
          have hne : ¬ ((c.getD k 0 : Nat) : Int) = (x : Nat) := by
            have := f4 i k hki hin
            rw [hx] at this
            omega
          repeat' (first
            | (with_reducible first | apply cond_d | apply cond_nd | apply cond_i | apply guard_d | apply guard_nd | apply guard_df | apply guard_ndf | apply guard_i | apply ag_d | apply ag_nd | apply ag_df | apply ag_ndf | apply ag_i) <;> intro _
            | with_reducible first | refine LenR_i fun _ => ?_ | refine And.intro (by omega) ?_ | refine and_assoc.2 ?_ | apply sp_cond | apply sp_guard | apply sp_ag | apply sp_call | apply sp_acall | apply sp_loop | apply sp_any | apply sp_frz | apply sp_len | apply sp_idx | apply sp_keep | apply sp_back
            | with_reducible refine frz0_i ?_
            | with_reducible refine any_i [] ?_
            | simp (maxSteps := 1000000) (disch := omega) only [lAL, lDF, tupA, eqA, isNil, slcNil, ptrCells, ptrAdd, cellsO, intA, boolA, readsV, readsP, isCall, wrote, srcOf, isNilSlice, Value.oneCell', seval, implies_true, forall_eq, ne_eq, wrap_i64, LenR_ok, List.length_map, IdxR_ints, e1, e2, hne])
          all_goals try (exfalso; omega)
          all_goals exact back_i (k + 1) (by omega) (by omega) (Ent.to [] false (by simp) (by simp) rfl (by simp only [lPA, lPD, novO, setAll, seval, implies_true, pa_accs] <;> (try simp) <;> (try omega)) (by simp only [lPA, lPD, novO, setAll, seval, implies_true, pa_accs] <;> (try simp) <;> (try omega)))
        · repeat' (first
            | (with_reducible first | apply cond_d | apply cond_nd | apply cond_i | apply guard_d | apply guard_nd | apply guard_df | apply guard_ndf | apply guard_i | apply ag_d | apply ag_nd | apply ag_df | apply ag_ndf | apply ag_i) <;> intro _
            | with_reducible first | refine LenR_i fun _ => ?_ | refine And.intro (by omega) ?_ | refine and_assoc.2 ?_ | apply sp_cond | apply sp_guard | apply sp_ag | apply sp_call | apply sp_acall | apply sp_loop | apply sp_any | apply sp_frz | apply sp_len | apply sp_idx | apply sp_keep | apply sp_back
            | with_reducible refine frz0_i ?_
            | simp (maxSteps := 1000000) (disch := omega) only [lAL, lDF, tupA, eqA, isNil, slcNil, ptrCells, ptrAdd, cellsO, intA, boolA, readsV, readsP, isCall, wrote, srcOf, isNilSlice, Value.oneCell', seval, implies_true, forall_eq, ne_eq, wrap_i64, LenR_ok, List.length_map, IdxR_ints])
          all_goals try (exfalso; omega)
          all_goals exact back_i (i + 1) (by omega) (by omega) (Ent.to [] false (by simp) (by simp) rfl (by simp only [lPA, lPD, novO, setAll, seval, implies_true, pa_accs] <;> (try simp) <;> (try omega)) (by simp only [lPA, lPD, novO, setAll, seval, implies_true, pa_accs] <;> (try simp) <;> (try omega)))
  · repeat' (first
      | (with_reducible first | apply cond_d | apply cond_nd | apply cond_i | apply guard_d | apply guard_nd | apply guard_df | apply guard_ndf | apply guard_i | apply ag_d | apply ag_nd | apply ag_df | apply ag_ndf | apply ag_i) <;> intro _
      | with_reducible first | refine LenR_i fun _ => ?_ | refine And.intro (by omega) ?_ | refine and_assoc.2 ?_ | apply sp_cond | apply sp_guard | apply sp_ag | apply sp_call | apply sp_acall | apply sp_loop | apply sp_any | apply sp_frz | apply sp_len | apply sp_idx | apply sp_keep | apply sp_back
      | with_reducible refine frz0_i ?_
      | simp (maxSteps := 1000000) (disch := omega) only [lAL, lDF, tupA, eqA, isNil, slcNil, ptrCells, ptrAdd, cellsO, intA, boolA, readsV, readsP, isCall, wrote, srcOf, isNilSlice, Value.oneCell', seval, implies_true, forall_eq, ne_eq, wrap_i64, LenR_ok, List.length_map, IdxR_ints, natL_len])
    all_goals try (exfalso; omega)
    have : ¬ ((c.length : Nat) : Int) = 1 := by omega
    refine keep0_i ?_
    simp [this, lPA, lPD, novO, setAll, seval, implies_true]
end Go.Proofs.Try


namespace Go.Proofs.Ythbajphbhoiceaa
open Go.Al Go.Proofs.Try
open Go.ChangeShapes Go.WideShapes Go.ChangeAt Go.RowKit
set_option linter.unusedVariables false
set_option maxRecDepth 100000 in
theorem lifted12 (os : Os) (started : os.Started) (H : Type) (enc : TypeId × Value → H) :
    ReturnsInHanded {} Try.checked os 12 .any (Rows.conflictCyclesAreCyclesSpec.pre6 enc Try.prog Try.f12 Rows.conflictCyclesAreCyclesRow.domain false) (Rows.conflictCyclesAreCyclesSpec.post enc Try.prog Try.f12 false true false false) := by
  refine returnsInHanded_of_change (C := Try.checked) own started (by kernel_rfl) Try.func12
    (ChangeSpec.witness6 (enc := enc) (C := Try.checked) false ⟨#[], #[.slice none 0 0], []⟩ 8 (by kernel_rfl) (by kernel_rfl) (by kernel_rfl) (by kernel_rfl)) ?_
  intro W base args ds gs before hval hW _ _
  exact contract_of hE kids full (s := Rows.conflictCyclesAreCyclesSpec) (tb := 4) (by rw [Try.params12]; decide +kernel) (by rw [Try.params12]; exact reads_cons rv22 (reads_nil)) (by rintro _ ⟨a, _, ha, rfl, rfl⟩; exact c12 a) rfl
    (by rw [Try.params12]; rintro H (_ | ⟨d0, (_ | ⟨dz, ds⟩)⟩) hl <;> simp at hl; exact ⟨rfl, rfl, rfl⟩) (by kernel_rfl) (by kernel_rfl) H enc W base args ds gs before hval hW
theorem conflictCyclesAreCycles_holds : Rows.ConflictCyclesAreCyclesSaid :=
  OpenClaim.holds_of_wide 12 Try.f12 rfl rfl rfl rfl rfl rfl rfl ⟨rfl, rfl, rfl, rfl, rfl⟩ rfl rfl rfl rfl rfl (by kernel_rfl) Try.func12 (by kernel_rfl)
    (of_decide_eq_true (by kernel_rfl)) (by unfold Func.isWrapper; first | (rw [if_pos (by decide +kernel)]; kernel_rfl) | (rw [if_neg (by decide +kernel)]; exact ⟨rfl, rfl⟩))
    (fun os started H enc _ => lifted12 os started H enc)
end Go.Proofs.Ythbajphbhoiceaa
