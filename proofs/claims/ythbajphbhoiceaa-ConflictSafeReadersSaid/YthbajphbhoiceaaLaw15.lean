/-
  Readers at a safe snapshot fit into a serial order with all that commits later by Admit; no condition.
-/
import Derived.Test.YthbajphbhoiceaaPlainf
import Derived.Test.YthbajphbhoiceaaCbf
import Derived.Test.YthbajphbhoiceaaReadsTry
import Derived.Test.YthbajphbhoiceaaReads
import Derived.Test.YthbajphbhoiceaaRows
set_option linter.unusedSimpArgs false
set_option linter.unusedVariables false
namespace Go.Proofs.Try
open Go.Al
set_option maxRecDepth 100000
/-- alum/alumlaw26.ConflictSafeReaders -/
def mc15 : MC :=
 (.seq (.ops [(none, (.v (.mov 8 (.c (.bool false)))))])
 (.seq (.ops [(none, (.e (.call (some 19) 16 []))),
  (none, (.v (.mov 9 (.t 19))))])
 (.seq (.seq (.ops [(none, (.v (.mov 20 (.t 0)))),
  (none, (.p (.len 21 (.t 20)))),
  (none, (.v (.bin 22 .gtr false (.t 21) (.c (.int .i64 7))))),
  (none, (.v (.mov 23 (.t 22)))),
  ((some (23, false)), (.v (.mov 24 (.t 1)))),
  ((some (23, false)), (.p (.len 25 (.t 24)))),
  ((some (23, false)), (.v (.bin 26 .gtr false (.t 25) (.c (.int .i64 7))))),
  (none, (.v (.pick 27 (.t 23) (.c (.bool true)) (.t 26)))),
  (none, (.v (.mov 28 (.t 27)))),
  ((some (28, false)), (.v (.mov 29 (.t 2)))),
  ((some (28, false)), (.p (.len 30 (.t 29)))),
  ((some (28, false)), (.v (.bin 31 .gtr false (.t 30) (.c (.int .i64 7))))),
  (none, (.v (.pick 32 (.t 28) (.c (.bool true)) (.t 31))))])
 (.cond 32
  (.seq (.ops [(none, (.v (.mov 33 (.t 9)))),
   (none, (.v (.mov 8 (.t 33))))])
  .ret)
  .skip))
 (.seq (.ops [(none, (.v (.mov 35 (.t 0)))),
  (none, (.e (.call (some 36) 39 [(.c (.raw (.slice none 0 0))), (.t 35), (.c (.int .i64 1)), (.c (.int .i64 0))]))),
  (none, (.v (.mov 34 (.t 36)))),
  (none, (.v (.ext 37 0 (.t 34)))),
  (none, (.v (.ext 38 1 (.t 34)))),
  (none, (.v (.mov 10 (.t 37)))),
  (none, (.v (.mov 11 (.t 38))))])
 (.seq (.seq (.ops [(none, (.v (.mov 39 (.t 11)))),
  (none, (.v (.not 40 (.t 39))))])
 (.cond 40
  (.seq (.ops [(none, (.v (.mov 8 (.c (.bool false)))))])
  .ret)
  .skip))
 (.seq (.seq (.ops [(none, (.v (.mov 41 (.t 10)))),
  (none, (.v (.mov 42 (.t 3)))),
  (none, (.v (.conv 43 .i64 (.t 42)))),
  (none, (.e (.call (some 44) 36 [(.t 41), (.t 43)]))),
  (none, (.v (.not 45 (.t 44))))])
 (.cond 45
  (.seq (.ops [(none, (.v (.mov 46 (.t 9)))),
   (none, (.v (.mov 8 (.t 46))))])
  .ret)
  .skip))
 (.seq (.seq (.ops [(none, (.v (.mov 12 (.c (.int .i64 0)))))])
 (.block 0 (.loop (.seq (.seq (.ops [(none, (.v (.mov 47 (.t 12)))),
    (none, (.v (.mov 48 (.t 10)))),
    (none, (.p (.len 49 (.t 48)))),
    (none, (.v (.bin 50 .lss false (.t 47) (.t 49))))])
   (.cond 50
    .skip
    (.exit 0)))
   (.seq (.block 1 (.seq (.seq (.ops [(none, (.v (.mov 53 (.t 10)))),
     (none, (.v (.mov 54 (.t 12)))),
     (none, (.p (.idx 55 6 (.t 53) (.t 54)))),
     (none, (.v (.fld 56 2 (.t 55)))),
     (none, (.v (.load 57 false 1 (.t 56))))])
    (.cond 57
     (.exit 1)
     .skip))
    (.seq (.ops [(none, (.v (.mov 59 (.t 10)))),
     (none, (.v (.mov 60 (.t 12)))),
     (none, (.e (.call (some 61) 40 [(.t 59), (.t 60)]))),
     (none, (.v (.mov 58 (.t 61)))),
     (none, (.v (.ext 62 0 (.t 58)))),
     (none, (.v (.ext 63 1 (.t 58)))),
     (none, (.v (.mov 13 (.t 62)))),
     (none, (.v (.mov 14 (.t 63))))])
    (.seq (.seq (.ops [(none, (.v (.mov 64 (.t 14)))),
     (none, (.v (.not 65 (.t 64))))])
    (.cond 65
     (.seq (.ops [(none, (.v (.mov 8 (.c (.bool false)))))])
     .ret)
     .skip))
    (.ops [(none, (.v (.mov 66 (.t 13)))),
     (none, (.v (.mov 10 (.t 66))))])))))
   (.ops [(none, (.v (.mov 51 (.t 12)))),
    (none, (.v (.bin 52 .add false (.t 51) (.c (.int .i64 1))))),
    (none, (.v (.mov 12 (.t 52))))]))))))
 (.seq (.ops [(none, (.v (.mov 68 (.t 10)))),
  (none, (.v (.mov 69 (.t 1)))),
  (none, (.v (.mov 70 (.t 3)))),
  (none, (.v (.conv 71 .i64 (.t 70)))),
  (none, (.e (.call (some 72) 39 [(.t 68), (.t 69), (.c (.int .i64 1)), (.t 71)]))),
  (none, (.v (.mov 67 (.t 72)))),
  (none, (.v (.ext 73 0 (.t 67)))),
  (none, (.v (.ext 74 1 (.t 67)))),
  (none, (.v (.mov 10 (.t 73)))),
  (none, (.v (.mov 11 (.t 74))))])
 (.seq (.seq (.ops [(none, (.v (.mov 75 (.t 11)))),
  (none, (.v (.not 76 (.t 75))))])
 (.cond 76
  (.seq (.ops [(none, (.v (.mov 8 (.c (.bool false)))))])
  .ret)
  .skip))
 (.seq (.seq (.ops [(none, (.v (.mov 15 (.c (.int .i64 0)))))])
 (.block 2 (.loop (.seq (.seq (.ops [(none, (.v (.mov 77 (.t 15)))),
    (none, (.v (.mov 78 (.t 2)))),
    (none, (.p (.len 79 (.t 78)))),
    (none, (.v (.bin 80 .lss false (.t 77) (.t 79))))])
   (.cond 80
    .skip
    (.exit 2)))
   (.seq (.block 3 (.seq (.ops [(none, (.v (.mov 83 (.t 10)))),
     (none, (.v (.mov 84 (.t 2)))),
     (none, (.v (.mov 85 (.t 15)))),
     (none, (.p (.idx 86 1 (.t 84) (.t 85)))),
     (none, (.v (.load 87 false 1 (.t 86)))),
     (none, (.v (.build 88 [(.int .u8 0), (.int .u8 0), (.int .u8 0), (.int .u8 0)] [(1, 1, (.c (.int .u8 2))), (2, 1, (.t 87))]))),
     (none, (.e (.call (some 89) 41 [(.t 83), (.t 88)]))),
     (none, (.e (.alloc 16 [(.int .i64 0), (.int .i64 0), (.bool false), (.int .i64 0), (.raw (.slice none 0 0)), (.raw (.slice none 0 0))]))),
     (none, (.e (.store 6 true (.t 16) (.t 89))))])
    (.seq (.ops [(none, (.v (.mov 90 (.t 3)))),
     (none, (.v (.conv 91 .i64 (.t 90)))),
     (none, (.v (.fld 92 1 (.t 16)))),
     (none, (.e (.store 1 false (.t 92) (.t 91))))])
    (.seq (.ops [(none, (.v (.fld 93 2 (.t 16)))),
     (none, (.e (.store 1 false (.t 93) (.c (.bool true)))))])
    (.ops [(none, (.v (.mov 94 (.t 10)))),
     (none, (.v (.load 95 true 6 (.t 16)))),
     (none, (.e (.mkl 96 44 6 1 (.agg [(.int .i64 0), (.int .i64 0), (.bool false), (.int .i64 0), (.raw (.slice none 0 0)), (.raw (.slice none 0 0))]) [(0, (.t 95))]))),
     (none, (.e (.app 97 44 6 80 (.t 94) (.t 96)))),
     (none, (.v (.mov 10 (.t 97))))])))))
   (.ops [(none, (.v (.mov 81 (.t 15)))),
    (none, (.v (.bin 82 .add false (.t 81) (.c (.int .i64 1))))),
    (none, (.v (.mov 15 (.t 82))))]))))))
 (.seq (.ops [(none, (.v (.mov 99 (.t 10)))),
  (none, (.e (.call (some 100) 27 [(.t 99)]))),
  (none, (.v (.mov 98 (.t 100)))),
  (none, (.v (.ext 101 0 (.t 98)))),
  (none, (.v (.ext 102 1 (.t 98)))),
  (none, (.v (.mov 17 (.t 101)))),
  (none, (.v (.mov 18 (.t 102))))])
 (.seq (.ops [(none, (.v (.mov 103 (.t 9)))),
  (none, (.v (.mov 104 (.t 103)))),
  ((some (104, true)), (.v (.mov 105 (.t 18)))),
  (none, (.v (.pick 106 (.t 104) (.t 105) (.c (.bool false))))),
  (none, (.v (.mov 107 (.t 106)))),
  ((some (107, true)), (.v (.mov 108 (.t 10)))),
  ((some (107, true)), (.v (.mov 109 (.t 17)))),
  ((some (107, true)), (.e (.call (some 110) 32 [(.t 108), (.t 109)]))),
  (none, (.v (.pick 111 (.t 107) (.t 110) (.c (.bool false))))),
  (none, (.v (.mov 8 (.t 111))))])
 .ret))))))))))))
theorem ok15 : FnOk E 15 112 [.tmp 8] mc15 := .of func15 (by kernel_rfl) (by kernel_rfl) (by kernel_rfl) (by kernel_rfl) (by kernel_rfl)
end Go.Proofs.Try
namespace Go.Proofs.Try
open Go.Al
set_option linter.unusedVariables false
set_option linter.unusedSimpArgs false
open Classical
set_option maxHeartbeats 8000000
theorem comTo_done {h : List Acc} {i : Nat} (hd : (at' (comTo h i) i).done = true) : comTo h (i + 1) = comTo h i := if_pos hd
theorem comTo_open {h : List Acc} {i : Nat} (hd : ¬ (at' (comTo h i) i).done = true) : comTo h (i + 1) = comS (comTo h i) i := if_neg hd
theorem vwS_accs {h : List Acc} {H : List AObj} {q : List Nat} {m n : Nat} (hn : n = h.length) : vwS none (some (.arr 44 6 (h.map accA))) H q (m + 1) 6 n = .view 6 (h.map accA) := by
  subst hn; rw [vwS_arr (by simp), vw_accs]
theorem c15 (l more : List TryT) (readers : List Int) (s : Int) (hts : ∀ t ∈ l, t.ok) (hmore : ∀ t ∈ more, t.ok) (hs8 : 0 ≤ s ∧ s ≤ 255) :
    ACalls E.P 15 [.view 4 (l.map tryA), .view 4 (more.map tryA), .view 1 (readers.map (.int .u8)), .int .u8 s] [] (fun r H => r = .bool true ∧ H = []) := by
  have hmax := maxLen_eq
  refine ok15.acalls hE hm (by simp) ?_
  unfold mc15
  have h16 := c16
  have hcv := conv_u8 hs8
  repeat' (first
    | (with_reducible first | apply cond_d | apply cond_nd | apply cond_i | apply guard_d | apply guard_nd | apply guard_df | apply guard_ndf | apply guard_i | apply ag_d | apply ag_nd | apply ag_df | apply ag_ndf | apply ag_i) <;> intro _
    | with_reducible first | refine LenR_i fun _ => ?_ | refine And.intro (by omega) ?_ | refine and_assoc.2 ?_ | apply sp_cond | apply sp_guard | apply sp_ag | apply sp_call | apply sp_acall | apply sp_loop | apply sp_any | apply sp_frz | apply sp_len | apply sp_idx | apply sp_keep | apply sp_back
    | with_reducible refine frz0_i ?_
    | ((with_reducible first | refine callN_i [] true (by simp) (by simp) ?_ | refine acallN_i true ?_); simp only [lPA, lPD, novO, setAll, seval, implies_true, pa_trys, List.length_map]; (refine ⟨_, h16, ?_⟩; rintro _ _ ⟨rfl, rfl⟩); simp only [lAL, lDF, tupA, eqA, isNil, slcNil, ptrCells, ptrAdd, cellsO, intA, boolA, readsV, readsP, isCall, wrote, srcOf, isNilSlice, Value.oneCell', seval, implies_true, forall_eq, ne_eq, lPA, lPD, novO, setAll, pa_trys, List.length_map])
    | simp (maxSteps := 1000000) (disch := omega) only [lAL, lDF, tupA, eqA, isNil, slcNil, ptrCells, ptrAdd, cellsO, intA, boolA, readsV, readsP, isCall, wrote, srcOf, isNilSlice, Value.oneCell', seval, implies_true, forall_eq, ne_eq, wrap_i64, LenR_ok, List.length_map, IdxR_ints, pa_trys, List.length_map])
  all_goals try (refine keep0_i ?_; simp [lPA, lPD, novO, setAll, seval, implies_true]; done)
  obtain ⟨hok, hinv⟩ := run_ok (mode := 1) (least := 0) (h := []) (l := l) (.inl rfl) check_nil (by simp; omega) (by decide) ⟨by omega, by omega⟩ hts
  have hmod := modes_run (least := 0) (l := l) l.length (Nat.le_refl _)
  rw [List.take_length] at hmod
  have k39 := (c39 [] l 1 0 hts hok (by simp)).nil_arg
  have hnd := hinv.nodang rfl nodang_nil
  have hck := hinv.check
  have hlen : (runS 1 0 [] l).length ≤ 7 := by have := hinv.len; simp at this; omega
  have hlast : lastS (runS 1 0 [] l) ≤ 7 := by have := hinv.last; have : lastS ([] : List Acc) = 0 := rfl; omega
  generalize runS 1 0 [] l = h at *
  refine callN_i [] false (by simp) (by simp) ?_
  simp only [lPA, lPD, novO, setAll, seval, implies_true, pa_trys]
  refine ⟨_, k39, ?_⟩
  rintro _ _ ⟨rfl, rfl⟩
  clear k39 hok hinv h16
  simp only [lAL, lDF, tupA, eqA, isNil, slcNil, ptrCells, ptrAdd, cellsO, intA, boolA, readsV, readsP, isCall, wrote, srcOf, isNilSlice, Value.oneCell', seval, implies_true, forall_eq, ne_eq, lPA, lPD, novO, setAll, pa_accs, renL_accs]
  have h36 := c36 h s
  have hv : ∀ {H q m}, vwS none (some (.arr 44 6 (h.map accA))) H q (m + 1) 6 h.length = .view 6 (h.map accA) := vwS_accs rfl
  repeat' (first
    | (with_reducible first | apply cond_d | apply cond_nd | apply cond_i | apply guard_d | apply guard_nd | apply guard_df | apply guard_ndf | apply guard_i | apply ag_d | apply ag_nd | apply ag_df | apply ag_ndf | apply ag_i) <;> intro _
    | with_reducible first | refine LenR_i fun _ => ?_ | refine And.intro (by omega) ?_ | refine and_assoc.2 ?_ | apply sp_cond | apply sp_guard | apply sp_ag | apply sp_call | apply sp_acall | apply sp_loop | apply sp_any | apply sp_frz | apply sp_len | apply sp_idx | apply sp_keep | apply sp_back
    | with_reducible refine frz0_i ?_
    | ((with_reducible first | refine callN_i [] true (by simp) (by simp) ?_ | refine acallN_i true ?_); simp only [lPA, lPD, novO, setAll, seval, implies_true, hv, pa_accs, hcv]; (refine ⟨_, h36, ?_⟩; rintro _ _ ⟨rfl, rfl⟩); simp only [lAL, lDF, tupA, eqA, isNil, slcNil, ptrCells, ptrAdd, cellsO, intA, boolA, readsV, readsP, isCall, wrote, srcOf, isNilSlice, Value.oneCell', seval, implies_true, forall_eq, ne_eq, lPA, lPD, novO, setAll, hv, pa_accs, hcv])
    | simp (maxSteps := 1000000) (disch := omega) only [lAL, lDF, tupA, eqA, isNil, slcNil, ptrCells, ptrAdd, cellsO, intA, boolA, readsV, readsP, isCall, wrote, srcOf, isNilSlice, Value.oneCell', seval, implies_true, forall_eq, ne_eq, wrap_i64, LenR_ok, List.length_map, IdxR_ints, hv, pa_accs, hcv])
  all_goals try (refine keep0_i ?_; simp [lPA, lPD, novO, setAll, seval, implies_true]; done)
  rename_i hsafe
  have hsf := sf_of_safe (by simpa using hsafe) hnd hmod
  have hcom := comTo_ok hsf (by omega) (by omega)
  refine loop_i (fun i : Nat => i ≤ h.length) (fun i => if i < h.length then ⟨[(1, .view 4 (more.map tryA)), (2, .view 1 (readers.map (.int .u8))), (3, .int .u8 s), (9, .bool true), (10, .slc 0 6 h.length), (12, .int .i64 i)], [.arr 44 6 ((comTo h i).map accA)]⟩
    else ⟨[(1, .view 4 (more.map tryA)), (2, .view 1 (readers.map (.int .u8))), (3, .int .u8 s), (9, .bool true), (10, .view 6 ((comTo h i).map accA)), (12, .int .i64 i)], []⟩) (fun i => h.length - i) 0 (by omega) (by
      by_cases h2 : 0 < h.length
      · rw [if_pos h2]
        exact Ent.to [0] false (by simp) (by simp) rfl (by simp only [lPA, lPD, novO, setAll, seval, implies_true, pa_accs, pa_trys, comTo, hv] <;> (try simp) <;> (try omega)) (by simp only [lPA, lPD, novO, setAll, seval, implies_true, pa_accs, comTo, hv])
      · rw [if_neg h2]
        exact Ent.to [] true (by simp) (by simp) rfl (by simp only [lPA, lPD, novO, setAll, seval, implies_true, pa_accs, pa_trys, comTo, hv] <;> (try simp) <;> (try omega)) (by simp only [lPA, lPD, novO, setAll, seval, implies_true, pa_accs])) ?_
  intro i hi
  by_cases hin : i < h.length
  · simp only [hin, if_true]
    have hcl : (comTo h i).length = h.length := comTo_len
    obtain ⟨hsi, hli⟩ := hcom i hi
    have hyes := comTo_done (h := h) (i := i)
    have hnot := comTo_open (h := h) (i := i)
    generalize comTo h i = o at *
    have hvo : ∀ {H q m}, vwS none (some (.arr 44 6 (o.map accA))) H q (m + 1) 6 h.length = .view 6 (o.map accA) := vwS_accs hcl.symm
    have ep1 : ∀ {m N d c}, epR E.P m N (some (.arr 44 6 (o.map accA))) (i : Int) h.length 0 6 d c = rK E.P m N c d (.ep 0 6 i 0) := epR_ne (by simp [hcl]) (by omega) (by omega)
    have g1 : (o.map accA)[i]? = some (.agg (accC (at' o i))) := accs_get (by omega)
    repeat' (first
      | (with_reducible first | apply cond_d | apply cond_nd | apply cond_i | apply guard_d | apply guard_nd | apply guard_df | apply guard_ndf | apply guard_i | apply ag_d | apply ag_nd | apply ag_df | apply ag_ndf | apply ag_i) <;> intro _
      | with_reducible first | refine LenR_i fun _ => ?_ | refine And.intro (by omega) ?_ | refine and_assoc.2 ?_ | apply sp_cond | apply sp_guard | apply sp_ag | apply sp_call | apply sp_acall | apply sp_loop | apply sp_any | apply sp_frz | apply sp_len | apply sp_idx | apply sp_keep | apply sp_back
      | with_reducible refine frz0_i ?_
      | simp (maxSteps := 1000000) (disch := omega) only [lAL, lDF, tupA, eqA, isNil, slcNil, ptrCells, ptrAdd, cellsO, intA, boolA, readsV, readsP, isCall, wrote, srcOf, isNilSlice, Value.oneCell', seval, implies_true, forall_eq, ne_eq, wrap_i64, LenR_ok, List.length_map, IdxR_ints, ep1, g1, accC])
    all_goals try (exfalso; omega)
    · rename_i hd
      have hN := hyes hd
      exact back_i (i + 1) (by omega) (by omega) (by
        by_cases h2 : i + 1 < h.length
        · rw [if_pos h2]
          exact Ent.to [0] false (by simp) (by simp) rfl (by simp only [lPA, lPD, novO, setAll, seval, implies_true, pa_accs, pa_trys, hN, hvo] <;> (try simp) <;> (try omega)) (by simp only [lPA, lPD, novO, setAll, seval, implies_true, pa_accs, hN, hvo])
        · rw [if_neg h2]
          exact Ent.to [] true (by simp) (by simp) rfl (by simp only [lPA, lPD, novO, setAll, seval, implies_true, pa_accs, pa_trys, hN, hvo] <;> (try simp) <;> (try omega)) (by simp only [lPA, lPD, novO, setAll, seval, implies_true, pa_accs]))
    · rename_i hd
      have hN := hnot (by rw [hd]; decide)
      have hle : stampS o i ≤ 1073741824 := by have := stampS_le (h := o) (n := i); omega
      have k40 := c40 o i hsi.check (by omega) hd hle
      simp only [hcl] at k40
      refine callN_i [0] false (by simp) (by simp) ?_
      simp only [lPA, lPD, novO, setAll, seval, implies_true, pa_accs]
      refine ⟨_, k40, ?_⟩
      rintro _ _ (⟨ha, rfl, rfl⟩ | ⟨ha, rfl, rfl⟩)
      · rw [comS_yes ha] at hN
        have hw : ∀ {H q m}, vwS none (some (.arr 44 6 ((withS o i (stampS o i)).map accA))) H q (m + 1) 6 h.length = .view 6 ((withS o i (stampS o i)).map accA) := vwS_accs (by rw [withS_len, hcl])
        simp only [lAL, lDF, tupA, eqA, isNil, slcNil, ptrCells, ptrAdd, cellsO, intA, boolA, readsV, readsP, isCall, wrote, srcOf, isNilSlice, Value.oneCell', seval, implies_true, forall_eq, ne_eq, lPA, lPD, novO, setAll, pa_accs, renL_accs]
        repeat' (first
          | (with_reducible first | apply cond_d | apply cond_nd | apply cond_i | apply guard_d | apply guard_nd | apply guard_df | apply guard_ndf | apply guard_i | apply ag_d | apply ag_nd | apply ag_df | apply ag_ndf | apply ag_i) <;> intro _
          | with_reducible first | refine LenR_i fun _ => ?_ | refine And.intro (by omega) ?_ | refine and_assoc.2 ?_ | apply sp_cond | apply sp_guard | apply sp_ag | apply sp_call | apply sp_acall | apply sp_loop | apply sp_any | apply sp_frz | apply sp_len | apply sp_idx | apply sp_keep | apply sp_back
          | with_reducible refine frz0_i ?_
          | simp (maxSteps := 1000000) (disch := omega) only [lAL, lDF, tupA, eqA, isNil, slcNil, ptrCells, ptrAdd, cellsO, intA, boolA, readsV, readsP, isCall, wrote, srcOf, isNilSlice, Value.oneCell', seval, implies_true, forall_eq, ne_eq, wrap_i64, LenR_ok, List.length_map, IdxR_ints])
        exact back_i (i + 1) (by omega) (by omega) (by
          by_cases h2 : i + 1 < h.length
          · rw [if_pos h2]
            exact Ent.to [1] false (by simp) (by simp) rfl (by simp only [lPA, lPD, novO, setAll, seval, implies_true, pa_accs, pa_trys, hN, hw] <;> (try simp) <;> (try omega)) (by simp only [lPA, lPD, novO, setAll, seval, implies_true, pa_accs, hN, hw])
          · rw [if_neg h2]
            exact Ent.to [] true (by simp) (by simp) rfl (by simp only [lPA, lPD, novO, setAll, seval, implies_true, pa_accs, pa_trys, hN, hw] <;> (try simp) <;> (try omega)) (by simp only [lPA, lPD, novO, setAll, seval, implies_true, pa_accs]))
      · rw [comS_no ha] at hN
        simp only [lAL, lDF, tupA, eqA, isNil, slcNil, ptrCells, ptrAdd, cellsO, intA, boolA, readsV, readsP, isCall, wrote, srcOf, isNilSlice, Value.oneCell', seval, implies_true, forall_eq, ne_eq, lPA, lPD, novO, setAll, pa_accs, renL_accs]
        repeat' (first
          | (with_reducible first | apply cond_d | apply cond_nd | apply cond_i | apply guard_d | apply guard_nd | apply guard_df | apply guard_ndf | apply guard_i | apply ag_d | apply ag_nd | apply ag_df | apply ag_ndf | apply ag_i) <;> intro _
          | with_reducible first | refine LenR_i fun _ => ?_ | refine And.intro (by omega) ?_ | refine and_assoc.2 ?_ | apply sp_cond | apply sp_guard | apply sp_ag | apply sp_call | apply sp_acall | apply sp_loop | apply sp_any | apply sp_frz | apply sp_len | apply sp_idx | apply sp_keep | apply sp_back
          | with_reducible refine frz0_i ?_
          | simp (maxSteps := 1000000) (disch := omega) only [lAL, lDF, tupA, eqA, isNil, slcNil, ptrCells, ptrAdd, cellsO, intA, boolA, readsV, readsP, isCall, wrote, srcOf, isNilSlice, Value.oneCell', seval, implies_true, forall_eq, ne_eq, wrap_i64, LenR_ok, List.length_map, IdxR_ints])
        exact back_i (i + 1) (by omega) (by omega) (by
          by_cases h2 : i + 1 < h.length
          · rw [if_pos h2]
            exact Ent.to [0] false (by simp) (by simp) rfl (by simp only [lPA, lPD, novO, setAll, seval, implies_true, pa_accs, pa_trys, hN, hvo] <;> (try simp) <;> (try omega)) (by simp only [lPA, lPD, novO, setAll, seval, implies_true, pa_accs, hN, hvo])
          · rw [if_neg h2]
            exact Ent.to [] true (by simp) (by simp) rfl (by simp only [lPA, lPD, novO, setAll, seval, implies_true, pa_accs, pa_trys, hN, hvo] <;> (try simp) <;> (try omega)) (by simp only [lPA, lPD, novO, setAll, seval, implies_true, pa_accs]))
  · have e : i = h.length := by omega
    subst e
    simp only [hin, if_false]
    obtain ⟨hsi, hli⟩ := hcom h.length (Nat.le_refl _)
    have hcl : (comTo h h.length).length = h.length := comTo_len
    generalize comTo h h.length = h1 at *
    repeat' (first
      | (with_reducible first | apply cond_d | apply cond_nd | apply cond_i | apply guard_d | apply guard_nd | apply guard_df | apply guard_ndf | apply guard_i | apply ag_d | apply ag_nd | apply ag_df | apply ag_ndf | apply ag_i) <;> intro _
      | with_reducible first | refine LenR_i fun _ => ?_ | refine And.intro (by omega) ?_ | refine and_assoc.2 ?_ | apply sp_cond | apply sp_guard | apply sp_ag | apply sp_call | apply sp_acall | apply sp_loop | apply sp_any | apply sp_frz | apply sp_len | apply sp_idx | apply sp_keep | apply sp_back
      | with_reducible refine frz0_i ?_
      | simp (maxSteps := 1000000) (disch := omega) only [lAL, lDF, tupA, eqA, isNil, slcNil, ptrCells, ptrAdd, cellsO, intA, boolA, readsV, readsP, isCall, wrote, srcOf, isNilSlice, Value.oneCell', seval, implies_true, forall_eq, ne_eq, wrap_i64, LenR_ok, List.length_map, IdxR_ints, List.length_map, hcl, hcv])
    all_goals try (exfalso; omega)
    obtain ⟨hok2, hinv2⟩ := run_ok (mode := 1) (least := s) (h := h1) (l := more) (.inl rfl) hsi.check (by omega) (by omega) ⟨by omega, by omega⟩ hmore
    have k39 := c39 h1 more 1 s hmore hok2 (by omega)
    have hsf2 := sf_run hsi hok2 more.length (Nat.le_refl _)
    rw [List.take_length] at hsf2
    have hlen2 : (runS 1 s h1 more).length ≤ 14 := by have := hinv2.len; omega
    generalize runS 1 s h1 more = h2 at *
    have hrs := rdrs_ok (l := readers) hsf2.rs ⟨hs8.1, by omega⟩ (by omega)
    clear hok2 hinv2 hsf2 hsi hli hcom hsf hsafe hv h36 hmod hnd hck
    refine callN_i [] false (by simp) (by simp) ?_
    simp only [lPA, lPD, novO, setAll, seval, implies_true, pa_trys, pa_accs]
    refine ⟨_, k39, ?_⟩
    rintro _ _ ⟨rfl, rfl⟩
    clear k39
    have hv2 : ∀ {H q m}, vwS none (some (.arr 44 6 (h2.map accA))) H q (m + 1) 6 h2.length = .view 6 (h2.map accA) := vwS_accs rfl
    have h20 : rdrs s h2 [] = h2 := by simp [rdrs]
    simp only [lAL, lDF, tupA, eqA, isNil, slcNil, ptrCells, ptrAdd, cellsO, intA, boolA, readsV, readsP, isCall, wrote, srcOf, isNilSlice, Value.oneCell', seval, implies_true, forall_eq, ne_eq, lPA, lPD, novO, setAll, pa_accs, renL_accs]
    repeat' (first
      | (with_reducible first | apply cond_d | apply cond_nd | apply cond_i | apply guard_d | apply guard_nd | apply guard_df | apply guard_ndf | apply guard_i | apply ag_d | apply ag_nd | apply ag_df | apply ag_ndf | apply ag_i) <;> intro _
      | with_reducible first | refine LenR_i fun _ => ?_ | refine And.intro (by omega) ?_ | refine and_assoc.2 ?_ | apply sp_cond | apply sp_guard | apply sp_ag | apply sp_call | apply sp_acall | apply sp_loop | apply sp_any | apply sp_frz | apply sp_len | apply sp_idx | apply sp_keep | apply sp_back
      | with_reducible refine frz0_i ?_
      | simp (maxSteps := 1000000) (disch := omega) only [lAL, lDF, tupA, eqA, isNil, slcNil, ptrCells, ptrAdd, cellsO, intA, boolA, readsV, readsP, isCall, wrote, srcOf, isNilSlice, Value.oneCell', seval, implies_true, forall_eq, ne_eq, wrap_i64, LenR_ok, List.length_map, IdxR_ints])
    refine loop_i (fun j : Nat => j ≤ readers.length) (fun j => if j < readers.length then ⟨[(2, .view 1 (readers.map (.int .u8))), (3, .int .u8 s), (9, .bool true), (10, .slc 0 6 (rdrs s h2 (readers.take j)).length), (15, .int .i64 j)], [.arr 44 6 ((rdrs s h2 (readers.take j)).map accA)]⟩
      else ⟨[(2, .view 1 (readers.map (.int .u8))), (3, .int .u8 s), (9, .bool true), (10, .view 6 ((rdrs s h2 (readers.take j)).map accA)), (15, .int .i64 j)], []⟩) (fun j => readers.length - j) 0 (by omega) (by
        by_cases h2 : 0 < readers.length
        · rw [if_pos h2]
          exact Ent.to [0] false (by simp) (by simp) rfl (by simp only [lPA, lPD, novO, setAll, seval, implies_true, pa_accs, pa_trys, h20, hv2] <;> (try simp) <;> (try omega)) (by simp only [lPA, lPD, novO, setAll, seval, implies_true, pa_accs, h20, hv2])
        · rw [if_neg h2]
          exact Ent.to [] true (by simp) (by simp) rfl (by simp only [lPA, lPD, novO, setAll, seval, implies_true, pa_accs, pa_trys, h20, hv2] <;> (try simp) <;> (try omega)) (by simp only [lPA, lPD, novO, setAll, seval, implies_true, pa_accs])) ?_
    intro j hj
    by_cases hjn : j < readers.length
    · simp only [hjn, if_true]
      have hr := hrs j hj
      have hN := rdrs_snoc (s := s) (h := h2) hjn
      have hol : (rdrs s h2 (readers.take j)).length ≤ 30 := by rw [rdrs_len, List.length_take]; omega
      have e1 : ∀ {m N d c}, IdxR E.P m N (readers.map (AV.int .u8)) (j : Int) d c = rK E.P m N c d (.vp [.int .u8 (readers.getD j 0)]) := by
        intros; rw [IdxR_map (f := AV.int .u8) (xs := readers) (dflt := 0) (cs := fun n => [.int .u8 n]) (fun _ => rfl) (by omega) (by omega), Int.toNat_natCast]
      generalize readers.getD j 0 = r at *
      generalize rdrs s h2 (readers.take j) = o at *
      have k41 := c41 o hr.check ⟨0, 2, r, 0⟩ ⟨by simp, by simp, by simp, by simp⟩
      have hx : o.map accA ++ [AV.agg [.int .i64 (begS o ⟨0, 2, r, 0⟩).mode, .int .i64 s, .bool true, .int .i64 (begS o ⟨0, 2, r, 0⟩).stamp, .view 1 ((begS o ⟨0, 2, r, 0⟩).reads.map (.int .i64)), .view 1 ((begS o ⟨0, 2, r, 0⟩).writes.map (.int .i64))]] = (o ++ [rdr s r]).map accA := by
        rw [List.map_append, List.map_singleton, accA_eq]
        rfl
      simp only [tryA, tryC] at k41
      repeat' (first
        | (with_reducible first | apply cond_d | apply cond_nd | apply cond_i | apply guard_d | apply guard_nd | apply guard_df | apply guard_ndf | apply guard_i | apply ag_d | apply ag_nd | apply ag_df | apply ag_ndf | apply ag_i) <;> intro _
        | with_reducible first | refine LenR_i fun _ => ?_ | refine And.intro (by omega) ?_ | refine and_assoc.2 ?_ | apply sp_cond | apply sp_guard | apply sp_ag | apply sp_call | apply sp_acall | apply sp_loop | apply sp_any | apply sp_frz | apply sp_len | apply sp_idx | apply sp_keep | apply sp_back
        | with_reducible refine frz0_i ?_
        | simp (maxSteps := 1000000) (disch := omega) only [lAL, lDF, tupA, eqA, isNil, slcNil, ptrCells, ptrAdd, cellsO, intA, boolA, readsV, readsP, isCall, wrote, srcOf, isNilSlice, Value.oneCell', seval, implies_true, forall_eq, ne_eq, wrap_i64, LenR_ok, List.length_map, IdxR_ints, e1])
      all_goals try (exfalso; omega)
      refine callN_i [0] false (by simp) (by simp) ?_
      simp only [lPA, lPD, novO, setAll, seval, implies_true, pa_accs]
      refine ⟨_, k41, ?_⟩
      rintro _ _ ⟨rfl, rfl⟩
      simp only [lAL, lDF, tupA, eqA, isNil, slcNil, ptrCells, ptrAdd, cellsO, intA, boolA, readsV, readsP, isCall, wrote, srcOf, isNilSlice, Value.oneCell', seval, implies_true, forall_eq, ne_eq, lPA, lPD, novO, setAll, pa_accs, renL_accs, accA_eq]
      repeat' (first
        | (with_reducible first | apply cond_d | apply cond_nd | apply cond_i | apply guard_d | apply guard_nd | apply guard_df | apply guard_ndf | apply guard_i | apply ag_d | apply ag_nd | apply ag_df | apply ag_ndf | apply ag_i) <;> intro _
        | with_reducible first | refine LenR_i fun _ => ?_ | refine And.intro (by omega) ?_ | refine and_assoc.2 ?_ | apply sp_cond | apply sp_guard | apply sp_ag | apply sp_call | apply sp_acall | apply sp_loop | apply sp_any | apply sp_frz | apply sp_len | apply sp_idx | apply sp_keep | apply sp_back
        | with_reducible refine frz0_i ?_
        | simp (maxSteps := 1000000) (disch := omega) only [lAL, lDF, tupA, eqA, isNil, slcNil, ptrCells, ptrAdd, cellsO, intA, boolA, readsV, readsP, isCall, wrote, srcOf, isNilSlice, Value.oneCell', seval, implies_true, forall_eq, ne_eq, wrap_i64, LenR_ok, List.length_map, IdxR_ints, hcv, List.length_map])
      all_goals try (exfalso; omega)
      have hvo : ∀ {H q m}, vwS none (some (.arr 44 6 ((o ++ [rdr s r]).map accA))) H q (m + 1) 6 (o.length + 1) = .view 6 ((o ++ [rdr s r]).map accA) := vwS_accs (by simp)
      simp only [hx]
      exact back_i (j + 1) (by omega) (by omega) (by
        by_cases h2 : j + 1 < readers.length
        · rw [if_pos h2]
          exact Ent.to [3] false (by simp) (by simp) rfl (by simp only [lPA, lPD, novO, setAll, seval, implies_true, pa_accs, pa_trys, hN, hvo] <;> (try simp) <;> (try omega)) (by simp only [lPA, lPD, novO, setAll, seval, implies_true, pa_accs, hN, hvo])
        · rw [if_neg h2]
          exact Ent.to [] true (by simp) (by simp) rfl (by simp only [lPA, lPD, novO, setAll, seval, implies_true, pa_accs, pa_trys, hN, hvo] <;> (try simp) <;> (try omega)) (by simp only [lPA, lPD, novO, setAll, seval, implies_true, pa_accs]))
    · have e : j = readers.length := by omega
      subst e
      simp only [hjn, if_false, List.take_length] at *
      have hr := hrs readers.length (Nat.le_refl _)
      rw [List.take_length] at hr
      generalize rdrs s h2 readers = hf at *
      repeat' (first
        | (with_reducible first | apply cond_d | apply cond_nd | apply cond_i | apply guard_d | apply guard_nd | apply guard_df | apply guard_ndf | apply guard_i | apply ag_d | apply ag_nd | apply ag_df | apply ag_ndf | apply ag_i) <;> intro _
        | with_reducible first | refine LenR_i fun _ => ?_ | refine And.intro (by omega) ?_ | refine and_assoc.2 ?_ | apply sp_cond | apply sp_guard | apply sp_ag | apply sp_call | apply sp_acall | apply sp_loop | apply sp_any | apply sp_frz | apply sp_len | apply sp_idx | apply sp_keep | apply sp_back
        | with_reducible refine frz0_i ?_
        | simp (maxSteps := 1000000) (disch := omega) only [lAL, lDF, tupA, eqA, isNil, slcNil, ptrCells, ptrAdd, cellsO, intA, boolA, readsV, readsP, isCall, wrote, srcOf, isNilSlice, Value.oneCell', seval, implies_true, forall_eq, ne_eq, wrap_i64, LenR_ok, List.length_map, IdxR_ints, List.length_map])
      all_goals try (exfalso; omega)
      refine callN_i [] false (by simp) (by simp) ?_
      simp only [lPA, lPD, novO, setAll, seval, implies_true, pa_accs]
      refine ⟨_, c27 hf, ?_⟩
      rintro _ _ ⟨⟨t, ht, rfl⟩, rfl⟩
      obtain ⟨ol, rfl, hs⟩ := serial_of hr.check hr.nodang ht
      have h32 := c32 hf (natL ol)
      simp only [eqv_of_serial hr.check hs, decide_true] at h32
      simp only [serA, lAL, lDF, tupA, eqA, isNil, slcNil, ptrCells, ptrAdd, cellsO, intA, boolA, readsV, readsP, isCall, wrote, srcOf, isNilSlice, Value.oneCell', seval, implies_true, forall_eq, ne_eq, lPA, lPD, novO, setAll, pa_accs]
      repeat' (first
        | (with_reducible first | apply cond_d | apply cond_nd | apply cond_i | apply guard_d | apply guard_nd | apply guard_df | apply guard_ndf | apply guard_i | apply ag_d | apply ag_nd | apply ag_df | apply ag_ndf | apply ag_i) <;> intro _
        | with_reducible first | refine LenR_i fun _ => ?_ | refine And.intro (by omega) ?_ | refine and_assoc.2 ?_ | apply sp_cond | apply sp_guard | apply sp_ag | apply sp_call | apply sp_acall | apply sp_loop | apply sp_any | apply sp_frz | apply sp_len | apply sp_idx | apply sp_keep | apply sp_back
        | with_reducible refine frz0_i ?_
        | ((with_reducible first | refine callN_i [] true (by simp) (by simp) ?_ | refine acallN_i true ?_); simp only [lPA, lPD, novO, setAll, seval, implies_true, pa_accs]; (refine ⟨_, h32, ?_⟩; rintro _ _ ⟨rfl, rfl⟩); simp only [lAL, lDF, tupA, eqA, isNil, slcNil, ptrCells, ptrAdd, cellsO, intA, boolA, readsV, readsP, isCall, wrote, srcOf, isNilSlice, Value.oneCell', seval, implies_true, forall_eq, ne_eq, lPA, lPD, novO, setAll, pa_accs])
        | simp (maxSteps := 1000000) (disch := omega) only [lAL, lDF, tupA, eqA, isNil, slcNil, ptrCells, ptrAdd, cellsO, intA, boolA, readsV, readsP, isCall, wrote, srcOf, isNilSlice, Value.oneCell', seval, implies_true, forall_eq, ne_eq, wrap_i64, LenR_ok, List.length_map, IdxR_ints, pa_accs])
      refine keep0_i ?_
      simp [lPA, lPD, novO, setAll, seval, implies_true]
end Go.Proofs.Try


namespace Go.Proofs.Ythbajphbhoiceaa
open Go.Al Go.Proofs.Try
open Go.ChangeShapes Go.WideShapes Go.ChangeAt Go.RowKit
set_option linter.unusedVariables false
set_option maxRecDepth 100000 in
theorem lifted15 (os : Os) (started : os.Started) (H : Type) (enc : TypeId × Value → H) :
    ReturnsInHanded {} Try.checked os 15 .any (Rows.conflictSafeReadersSpec.pre6 enc Try.prog Try.f15 Rows.conflictSafeReadersRow.domain false) (Rows.conflictSafeReadersSpec.post enc Try.prog Try.f15 false true false false) := by
  refine returnsInHanded_of_change (C := Try.checked) own started (by kernel_rfl) Try.func15
    (ChangeSpec.witness6 (enc := enc) (C := Try.checked) false ⟨#[], #[.slice none 0 0, .slice none 0 0, .slice none 0 0, .int .u8 0], []⟩ 8 (by kernel_rfl) (by kernel_rfl) (by kernel_rfl) (by kernel_rfl)) ?_
  intro W base args ds gs before hval hW _ _
  exact contract_of hE kids full (s := Rows.conflictSafeReadersSpec) (tb := 4) (by rw [Try.params15]; decide +kernel) (by rw [Try.params15]; exact reads_cons rv46 (reads_cons rv46 (reads_cons rv50 (reads_cons rv5 (reads_nil))))) (by rintro _ ⟨a, _, ha, ⟨b, _, hb, ⟨c, _, hc, ⟨d, _, hd, rfl, rfl⟩, rfl⟩, rfl⟩, rfl⟩; exact c15 a b c d ha hb (u8_wf hd)) rfl
    (by rw [Try.params15]; rintro H (_ | ⟨d0, (_ | ⟨d1, (_ | ⟨d2, (_ | ⟨d3, (_ | ⟨dz, ds⟩)⟩)⟩)⟩)⟩) hl <;> simp at hl; exact ⟨rfl, rfl, rfl⟩) (by kernel_rfl) (by kernel_rfl) H enc W base args ds gs before hval hW
theorem conflictSafeReaders_holds : Rows.ConflictSafeReadersSaid :=
  OpenClaim.holds_of_wide 15 Try.f15 rfl rfl rfl rfl rfl rfl rfl ⟨rfl, rfl, rfl, rfl, rfl⟩ rfl rfl rfl rfl rfl (by kernel_rfl) Try.func15 (by kernel_rfl)
    (of_decide_eq_true (by kernel_rfl)) (by unfold Func.isWrapper; first | (rw [if_pos (by decide +kernel)]; kernel_rfl) | (rw [if_neg (by decide +kernel)]; exact ⟨rfl, rfl⟩))
    (fun os started H enc _ => lifted15 os started H enc)
end Go.Proofs.Ythbajphbhoiceaa
