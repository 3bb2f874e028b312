/-
  For every right history and commit that Add accepts, snapshots below its stamp see what they saw, and those from it on see the old rows but for those written, which are as written; no condition.
-/
import Derived.Test.YtlkmgeahdidjeaaEay
import Derived.Test.YtlkmgeahdidjeaaPag
import Derived.Test.YtlkmgeahdidjeaaReads
import Derived.Test.YtlkmgeahdidjeaaRows
set_option linter.unusedSimpArgs false
set_option linter.unusedVariables false
namespace Go.Proofs.Try
open Go.Al
set_option maxRecDepth 100000
/-- alum/alumlaw25.SnapshotSeesThePast -/
def mc7 : MC :=
 (.seq (.ops [(none, (.v (.mov 8 (.c (.bool false)))))])
 (.seq (.seq (.ops [(none, (.v (.mov 23 (.t 0)))),
 (none, (.e (.call (some 24) 11 [(.t 23)]))),
 (none, (.v (.not 25 (.t 24)))),
 (none, (.v (.mov 26 (.t 25)))),
 ((some (26, false)), (.v (.mov 27 (.t 2)))),
 ((some (26, false)), (.p (.len 28 (.t 27)))),
 ((some (26, false)), (.v (.bin 29 .gtr false (.t 28) (.c (.int .i64 30))))),
 (none, (.v (.pick 30 (.t 26) (.c (.bool true)) (.t 29))))])
 (.cond 30
 (.seq (.ops [(none, (.e (.call (some 31) 8 []))),
 (none, (.v (.mov 8 (.t 31))))])
 .ret)
 .skip))
 (.seq (.ops [(none, (.v (.mov 33 (.t 0)))),
 (none, (.v (.mov 34 (.t 1)))),
 (none, (.v (.mov 35 (.t 2)))),
 (none, (.e (.call (some 36) 28 [(.t 33), (.t 34), (.t 35)]))),
 (none, (.v (.mov 32 (.t 36)))),
 (none, (.v (.ext 37 0 (.t 32)))),
 (none, (.v (.ext 38 1 (.t 32)))),
 (none, (.v (.mov 9 (.t 37)))),
 (none, (.v (.mov 10 (.t 38))))])
 (.seq (.seq (.ops [(none, (.v (.mov 39 (.t 10)))),
 (none, (.v (.bin 40 .neq false (.t 39) (.c (.int .i64 0)))))])
 (.cond 40
 (.seq (.ops [(none, (.e (.call (some 41) 8 []))),
 (none, (.v (.mov 42 (.t 41)))),
 ((some (42, true)), (.v (.mov 43 (.t 9)))),
 ((some (42, true)), (.p (.len 44 (.t 43)))),
 ((some (42, true)), (.v (.bin 45 .eql false (.t 44) (.c (.int .i64 0))))),
 (none, (.v (.pick 46 (.t 42) (.t 45) (.c (.bool false))))),
 (none, (.v (.mov 8 (.t 46))))])
 .ret)
 .skip))
 (.seq (.seq (.ops [(none, (.v (.mov 47 (.t 3)))),
 (none, (.v (.mov 48 (.t 1)))),
 (none, (.v (.bin 49 .lss false (.t 47) (.t 48))))])
 (.cond 49
 (.seq (.ops [(none, (.e (.call (some 50) 8 []))),
 (none, (.v (.mov 51 (.t 50)))),
 ((some (51, true)), (.v (.mov 52 (.t 9)))),
 ((some (51, true)), (.v (.mov 53 (.t 3)))),
 ((some (51, true)), (.e (.call (some 54) 21 [(.t 52), (.t 53)]))),
 ((some (51, true)), (.v (.mov 55 (.t 0)))),
 ((some (51, true)), (.v (.mov 56 (.t 3)))),
 ((some (51, true)), (.e (.call (some 57) 21 [(.t 55), (.t 56)]))),
 ((some (51, true)), (.e (.call (some 58) 20 [(.t 54), (.t 57)]))),
 (none, (.v (.pick 59 (.t 51) (.t 58) (.c (.bool false))))),
 (none, (.v (.mov 8 (.t 59))))])
 .ret)
 .skip))
 (.seq (.ops [(none, (.v (.mov 11 (.c (.int .i64 0)))))])
 (.seq (.seq (.ops [(none, (.v (.mov 60 (.t 2)))),
 (none, (.p (.len 61 (.t 60)))),
 (none, (.v (.mov 62 (.c (.int .i64 0)))))])
 (.block 0 (.loop (.seq (.ops [(none, (.v (.bin 63 .lss false (.t 62) (.t 61))))])
 (.seq (.cond 63
 .skip
 (.exit 0))
 (.seq (.block 1 (.seq (.ops [(none, (.p (.idx 64 4 (.t 60) (.t 62)))),
 (none, (.v (.load 65 true 4 (.t 64)))),
 (none, (.e (.alloc 13 [(.int .i64 0), (.int .i64 0), (.bool false), (.raw (.slice none 0 0))]))),
 (none, (.e (.store 4 true (.t 13) (.t 65))))])
 (.seq (.ops [(none, (.v (.mov 67 (.t 9)))),
 (none, (.v (.fld 68 1 (.t 13)))),
 (none, (.v (.load 69 false 1 (.t 68)))),
 (none, (.v (.mov 70 (.t 3)))),
 (none, (.e (.call (some 71) 12 [(.t 67), (.t 69), (.t 70)]))),
 (none, (.v (.mov 66 (.t 71)))),
 (none, (.v (.ext 72 0 (.t 66)))),
 (none, (.v (.ext 73 1 (.t 66)))),
 (none, (.e (.alloc 14 [(.int .i64 0), (.int .i64 0), (.bool false), (.raw (.slice none 0 0))]))),
 (none, (.e (.store 4 true (.t 14) (.t 72)))),
 (none, (.v (.mov 15 (.t 73))))])
 (.seq (.seq (.ops [(none, (.v (.mov 74 (.t 15)))),
 (none, (.v (.fld 75 2 (.t 13)))),
 (none, (.v (.load 76 false 1 (.t 75)))),
 (none, (.v (.bin 77 .eql true (.t 74) (.t 76)))),
 (none, (.v (.mov 78 (.t 77)))),
 ((some (78, false)), (.v (.mov 79 (.t 15)))),
 ((some (78, false)), (.v (.mov 80 (.t 79)))),
 ((some (80, true)), (.v (.fld 81 1 (.t 14)))),
 ((some (80, true)), (.v (.load 82 false 1 (.t 81)))),
 ((some (80, true)), (.v (.mov 83 (.t 1)))),
 ((some (80, true)), (.v (.bin 84 .neq false (.t 82) (.t 83)))),
 ((some (80, true)), (.v (.mov 85 (.t 84)))),
 ((some (85, false)), (.v (.fld 86 3 (.t 14)))),
 ((some (85, false)), (.v (.load 87 false 1 (.t 86)))),
 ((some (85, false)), (.v (.fld 88 3 (.t 13)))),
 ((some (85, false)), (.v (.load 89 false 1 (.t 88)))),
 ((some (85, false)), (.e (.call (some 90) 30 [(.t 87), (.t 89)]))),
 ((some (85, false)), (.v (.not 91 (.t 90)))),
 ((some (80, true)), (.v (.pick 92 (.t 85) (.c (.bool true)) (.t 91)))),
 ((some (78, false)), (.v (.pick 93 (.t 80) (.t 92) (.c (.bool false))))),
 (none, (.v (.pick 94 (.t 78) (.c (.bool true)) (.t 93))))])
 (.cond 94
 (.seq (.ops [(none, (.v (.mov 8 (.c (.bool false)))))])
 .ret)
 .skip))
 (.seq (.ops [(none, (.v (.mov 95 (.t 15))))])
 (.cond 95
 (.ops [(none, (.v (.mov 96 (.t 11)))),
 (none, (.v (.bin 97 .add false (.t 96) (.c (.int .i64 1))))),
 (none, (.v (.mov 11 (.t 97))))])
 .skip))))))
 (.ops [(none, (.v (.bin 98 .add false (.t 62) (.c (.int .i64 1))))),
 (none, (.v (.mov 62 (.t 98))))])))))))
 (.seq (.seq (.ops [(none, (.v (.mov 99 (.t 0)))),
 (none, (.v (.mov 100 (.t 3)))),
 (none, (.e (.call (some 101) 21 [(.t 99), (.t 100)]))),
 (none, (.p (.len 102 (.t 101)))),
 (none, (.v (.mov 103 (.c (.int .i64 0)))))])
 (.block 2 (.loop (.seq (.ops [(none, (.v (.bin 104 .lss false (.t 103) (.t 102))))])
 (.seq (.cond 104
 .skip
 (.exit 2))
 (.seq (.block 3 (.seq (.ops [(none, (.p (.idx 105 4 (.t 101) (.t 103)))),
 (none, (.v (.load 106 true 4 (.t 105)))),
 (none, (.e (.alloc 17 [(.int .i64 0), (.int .i64 0), (.bool false), (.raw (.slice none 0 0))]))),
 (none, (.e (.store 4 true (.t 17) (.t 106))))])
 (.seq (.ops [(none, (.v (.mov 18 (.c (.bool false)))))])
 (.seq (.seq (.ops [(none, (.v (.mov 107 (.t 2)))),
 (none, (.p (.len 108 (.t 107)))),
 (none, (.v (.mov 109 (.c (.int .i64 0)))))])
 (.block 4 (.loop (.seq (.ops [(none, (.v (.bin 110 .lss false (.t 109) (.t 108))))])
 (.seq (.cond 110
 .skip
 (.exit 4))
 (.seq (.block 5 (.seq (.ops [(none, (.p (.idx 111 4 (.t 107) (.t 109)))),
 (none, (.v (.load 112 true 4 (.t 111)))),
 (none, (.e (.alloc 20 [(.int .i64 0), (.int .i64 0), (.bool false), (.raw (.slice none 0 0))]))),
 (none, (.e (.store 4 true (.t 20) (.t 112))))])
 (.ops [(none, (.v (.mov 113 (.t 18)))),
 (none, (.v (.mov 114 (.t 113)))),
 ((some (114, false)), (.v (.fld 115 1 (.t 20)))),
 ((some (114, false)), (.v (.load 116 false 1 (.t 115)))),
 ((some (114, false)), (.v (.fld 117 0 (.t 17)))),
 ((some (114, false)), (.v (.load 118 false 1 (.t 117)))),
 ((some (114, false)), (.v (.bin 119 .eql false (.t 116) (.t 118)))),
 (none, (.v (.pick 120 (.t 114) (.c (.bool true)) (.t 119)))),
 (none, (.v (.mov 18 (.t 120))))])))
 (.ops [(none, (.v (.bin 121 .add false (.t 109) (.c (.int .i64 1))))),
 (none, (.v (.mov 109 (.t 121))))])))))))
 (.seq (.seq (.ops [(none, (.v (.mov 122 (.t 18))))])
 (.cond 122
 (.exit 3)
 .skip))
 (.seq (.ops [(none, (.v (.mov 124 (.t 9)))),
 (none, (.v (.fld 125 0 (.t 17)))),
 (none, (.v (.load 126 false 1 (.t 125)))),
 (none, (.v (.mov 127 (.t 3)))),
 (none, (.e (.call (some 128) 12 [(.t 124), (.t 126), (.t 127)]))),
 (none, (.v (.mov 123 (.t 128)))),
 (none, (.v (.ext 129 0 (.t 123)))),
 (none, (.v (.ext 130 1 (.t 123)))),
 (none, (.e (.alloc 21 [(.int .i64 0), (.int .i64 0), (.bool false), (.raw (.slice none 0 0))]))),
 (none, (.e (.store 4 true (.t 21) (.t 129)))),
 (none, (.v (.mov 22 (.t 130))))])
 (.seq (.seq (.ops [(none, (.v (.mov 131 (.t 22)))),
 (none, (.v (.not 132 (.t 131)))),
 (none, (.v (.mov 133 (.t 132)))),
 ((some (133, false)), (.v (.load 134 true 4 (.t 21)))),
 ((some (133, false)), (.v (.load 135 true 4 (.t 17)))),
 ((some (133, false)), (.e (.call (some 136) 14 [(.t 134), (.t 135)]))),
 ((some (133, false)), (.v (.not 137 (.t 136)))),
 (none, (.v (.pick 138 (.t 133) (.c (.bool true)) (.t 137))))])
 (.cond 138
 (.seq (.ops [(none, (.v (.mov 8 (.c (.bool false)))))])
 .ret)
 .skip))
 (.ops [(none, (.v (.mov 139 (.t 11)))),
 (none, (.v (.bin 140 .add false (.t 139) (.c (.int .i64 1))))),
 (none, (.v (.mov 11 (.t 140))))]))))))))
 (.ops [(none, (.v (.bin 141 .add false (.t 103) (.c (.int .i64 1))))),
 (none, (.v (.mov 103 (.t 141))))])))))))
 (.seq (.ops [(none, (.e (.call (some 142) 8 []))),
 (none, (.v (.mov 143 (.t 142)))),
 ((some (143, true)), (.v (.mov 144 (.t 9)))),
 ((some (143, true)), (.v (.mov 145 (.t 3)))),
 ((some (143, true)), (.e (.call (some 146) 22 [(.t 144), (.t 145)]))),
 ((some (143, true)), (.v (.mov 147 (.t 11)))),
 ((some (143, true)), (.v (.bin 148 .eql false (.t 146) (.t 147)))),
 (none, (.v (.pick 149 (.t 143) (.t 148) (.c (.bool false))))),
 (none, (.v (.mov 8 (.t 149))))])
 .ret)))))))))
theorem ok7 : FnOk E 7 150 [.tmp 8] mc7 := .of func7 (by kernel_rfl) (by kernel_rfl) (by kernel_rfl) (by kernel_rfl) (by kernel_rfl)
end Go.Proofs.Try
namespace Go.Proofs.Try
open Go.Al
set_option linter.unusedVariables false
set_option linter.unusedSimpArgs false
set_option maxHeartbeats 8000000
def wroteB (w : List Wr) (v : Ver) : Bool := w.any fun x => decide (x.row = v.row)
theorem wrote_next {w : List Wr} {k : Nat} {v : Ver} (h : k < w.length) : wroteB (w.take (k + 1)) v = (wroteB (w.take k) v || decide ((w.getD k default).row = v.row)) := by
  rw [take_succD h, wroteB, List.any_append]
  simp [wroteB]
theorem cnt_next {α : Type} [Inhabited α] {p : α → Bool} {l : List α} {i : Nat} (h : i < l.length) : ((l.take (i + 1)).filter p).length = ((l.take i).filter p).length + (if p (l.getD i default) = true then 1 else 0) := by
  rw [take_succD h, List.filter_append, List.length_append, List.filter_cons]
  split <;> simp
theorem cnt_le {α : Type} {p : α → Bool} {l : List α} {i : Nat} : ((l.take i).filter p).length ≤ l.length :=
  Nat.le_trans (List.length_filter_le _ _) (by simp; omega)
theorem c7 (l : List Ver) (s : Int) (w : List Wr) (snap : Int) : ACalls E.P 7 [.view 4 (l.map Ver.av), .int .i64 s, .view 4 (w.map Wr.av), .int .i64 snap] [] (fun r H => r = .bool true ∧ H = []) := by
  have hmax := maxLen_eq
  have h8 := c8
  have h11 := c11 l
  refine ok7.acalls hE hm (by simp) fun N hN => ?_
  unfold mc7
  simp only [lA, ptrCells, ptrAdd, isNil, readsV, readsP, isCall, wrote, srcOf, seval]
  by_cases hf : fewL l
  · obtain ⟨hl, _, hg⟩ := id hf
    rw [decide_eq_true hf] at h11
    by_cases hs : w.length ≤ 30
    · have h28 := c28 l s w hg.2 (by omega) (by omega)
      by_cases he : addE l s w = 0
      · have hg2 := addL_good (s := s) (w := w) hg
        have hrb := fun h => rows_before (snap := snap) hg he h
        have hvw := fun h x hx => vis_wrote (snap := snap) hg he h (x := x) hx
        have hvo := fun h v hv hn => vis_other (snap := snap) hg he h (v := v) hv hn
        have hca := fun h => count_after (snap := snap) hg he h
        have hlen : (addL l s w).length ≤ 1000 := by
          rw [(addE_ok he).2.2.2.2, ordered_length]; simp; omega
        have h21a := c21 (addL l s w) snap hg2.2 (by omega)
        have h21b := c21 l snap hg.2 (by omega)
        have h22 := c22 (addL l s w) snap hg2.2 (by omega)
        have h12 := fun row => c12 (addL l s w) row snap
        generalize addL l s w = n at *
        rw [he] at h28
        by_cases hsn : snap < s
        · rw [hrb hsn] at h21a
          have h20 := c20 (snapRows l snap) (snapRows l snap)
          simp only [decide_true] at h20
          repeat' (first
           | (with_reducible apply St.o; constructor) <;> intro _
           | with_reducible first | refine LenR_i fun _ => ?_ | refine And.intro (by omega) ?_ | (apply Sp.o; constructor) | refine mkl_own ?_ | refine frz0_i ?_
           | ((with_reducible apply Sc.o true; constructor); simp only [lP, seval, List.length_map, decide_true]; (first | refine ⟨_, h11, ?_⟩ | refine ⟨_, h8, ?_⟩ | refine ⟨_, h20, ?_⟩); rintro _ _ ⟨rfl, rfl⟩; simp only [lA, lP, ptrCells, ptrAdd, isNil, readsV, readsP, isCall, wrote, srcOf, seval, List.length_map, decide_true])
           | ((with_reducible apply Sc.o false; constructor); simp only [lP, seval, List.length_map, decide_true]; (first | refine ⟨_, h28, ?_⟩ | refine ⟨_, h21a, ?_⟩ | refine ⟨_, h21b, ?_⟩); rintro _ _ ⟨rfl, rfl⟩; simp only [lA, lP, ptrCells, ptrAdd, isNil, readsV, readsP, isCall, wrote, srcOf, seval, List.length_map, decide_true])
           | ((with_reducible refine keep0_i ?_); simp only [lP, seval])
           | simp (maxSteps := 1000000) (disch := omega) only [lE, ptrCells, ptrAdd, isNil, readsV, readsP, isCall, wrote, srcOf, seval, List.length_map, decide_true])
          all_goals (exfalso; omega)
        · replace hvw := hvw (by omega)
          replace hvo := hvo (by omega)
          replace hca := hca (by omega)
          clear hrb
          have hrl : (snapRows l snap).length ≤ 1000 := by
            rw [snapRows_filter hg.2]
            refine Nat.le_trans (List.length_filter_le _ _) ?_
            rw [ordered_length]; omega
          rw [show (fun v : Ver => !(w.any fun x => decide (x.row = v.row))) = fun v => !wroteB w v from rfl] at hca
          generalize snapRows l snap = rr at *
          repeat' (first
           | (with_reducible apply St.o; constructor) <;> intro _
           | with_reducible first | refine LenR_i fun _ => ?_ | refine And.intro (by omega) ?_ | (apply Sp.o; constructor) | refine mkl_own ?_ | refine frz0_i ?_
           | ((with_reducible apply Sc.o true; constructor); simp only [lP, seval, List.length_map, decide_true]; (first | refine ⟨_, h11, ?_⟩ | refine ⟨_, h8, ?_⟩); rintro _ _ ⟨rfl, rfl⟩; simp only [lA, lP, ptrCells, ptrAdd, isNil, readsV, readsP, isCall, wrote, srcOf, seval, List.length_map, decide_true])
           | ((with_reducible apply Sc.o false; constructor); simp only [lP, seval, List.length_map, decide_true]; refine ⟨_, h28, ?_⟩; rintro _ _ ⟨rfl, rfl⟩; simp only [lA, lP, ptrCells, ptrAdd, isNil, readsV, readsP, isCall, wrote, srcOf, seval, List.length_map, decide_true])
           | ((with_reducible refine keep0_i ?_); simp only [lP, seval])
           | simp (maxSteps := 1000000) (disch := omega) only [lE, ptrCells, ptrAdd, isNil, readsV, readsP, isCall, wrote, srcOf, seval, List.length_map, decide_true])
          all_goals try (exfalso; omega)
          refine loop_i (fun i : Nat => i ≤ w.length) (fun i => ⟨[(0, .view 4 (l.map Ver.av)), (1, .int .i64 s), (2, .view 4 (w.map Wr.av)), (3, .int .i64 snap), (9, .view 4 (n.map Ver.av)), (11, .int .i64 ((w.take i).filter fun x => !x.dead).length), (60, .view 4 (w.map Wr.av)), (61, .int .i64 w.length), (62, .int .i64 i)], []⟩) (fun i => w.length - i) 0 (by omega) (Ent.to [] false (by simp) (by simp) rfl (by simp only [lP, seval, List.take_zero, List.filter_nil, List.length_nil] <;> (try simp) <;> (try omega)) (by simp only [lP, seval, List.take_zero, List.filter_nil, List.length_nil] <;> (try simp) <;> (try omega))) ?_
          intro i hi
          by_cases hil : i < w.length
          · have hlt : ((i : Int) < w.length) = True := by simp; omega
            have hmem : w.getD i default ∈ w := by simp [hil]
            have hv := hvw _ hmem
            have h12 := h12 (w.getD i default).row
            have hc := cnt_next (p := fun x : Wr => !x.dead) hil
            have hcl := cnt_le (p := fun x : Wr => !x.dead) (l := w) (i := i)
            rw [hv] at h12
            generalize hx : w.getD i default = x at *
            generalize ((w.take i).filter fun x => !x.dead).length = c at *
            obtain ⟨xt, xr, xd, xv⟩ := x
            simp only at h12 hc
            cases xd
            · simp only [Bool.false_eq_true, if_false, Wr.toV, Bool.not_false, if_true] at h12 hc
              have h30 := c30 xv xv
              simp only [decide_true] at h30
              repeat' (first
               | (with_reducible apply St.o; constructor) <;> intro _
               | with_reducible first | refine LenR_i fun _ => ?_ | refine And.intro (by omega) ?_ | (apply Sp.o; constructor) | refine mkl_own ?_ | refine frz0_i ?_ | refine any_i [] ?_
               | ((with_reducible apply Sc.o true; constructor); simp only [lP, seval, IdxR_wrs, Int.toNat_natCast, List.length_map, hlt, hx, ren_ver, ver_av, decide_true, Bool.not_true]; refine ⟨_, h30, ?_⟩; rintro _ _ ⟨rfl, rfl⟩; simp only [lA, lP, ptrCells, ptrAdd, isNil, readsV, readsP, isCall, wrote, srcOf, seval, IdxR_wrs, Int.toNat_natCast, List.length_map, hlt, hx, ren_ver, ver_av, decide_true, Bool.not_true])
               | ((with_reducible apply Sc.o false; constructor); simp only [lP, seval, IdxR_wrs, Int.toNat_natCast, List.length_map, hlt, hx, ren_ver, ver_av, decide_true, Bool.not_true]; refine ⟨_, h12, ?_⟩; rintro _ _ ⟨rfl, rfl⟩; simp only [lA, lP, ptrCells, ptrAdd, isNil, readsV, readsP, isCall, wrote, srcOf, seval, IdxR_wrs, Int.toNat_natCast, List.length_map, hlt, hx, ren_ver, ver_av, decide_true, Bool.not_true])
               | ((with_reducible refine keep0_i ?_); simp only [lP, seval])
               | simp (maxSteps := 1000000) (disch := omega) only [lE, ptrCells, ptrAdd, isNil, readsV, readsP, isCall, wrote, srcOf, seval, IdxR_wrs, Int.toNat_natCast, List.length_map, hlt, hx, ren_ver, ver_av, decide_true, Bool.not_true])
              all_goals first
                | (exfalso; rename_i q; revert q; decide)
                | exact back_i (i + 1) (by omega) (by omega) (Ent.to [] false (by simp) (by simp) rfl (by simp only [lP, seval, hc, Int.natCast_add, Int.natCast_one] <;> (try simp) <;> (try omega)) (by simp only [lP, seval, hc, Int.natCast_add, Int.natCast_one] <;> (try simp) <;> (try omega)))
            · simp only [if_true, Bool.not_true, Bool.false_eq_true, if_false] at h12 hc
              repeat' (first
               | (with_reducible apply St.o; constructor) <;> intro _
               | with_reducible first | refine LenR_i fun _ => ?_ | refine And.intro (by omega) ?_ | (apply Sp.o; constructor) | refine mkl_own ?_ | refine frz0_i ?_ | refine any_i [] ?_
               | ((with_reducible apply Sc.o false; constructor); simp only [lP, seval, IdxR_wrs, Int.toNat_natCast, List.length_map, hlt, hx, ren_ver, ver_av, decide_true, Bool.not_true]; refine ⟨_, h12, ?_⟩; rintro _ _ ⟨rfl, rfl⟩; simp only [lA, lP, ptrCells, ptrAdd, isNil, readsV, readsP, isCall, wrote, srcOf, seval, IdxR_wrs, Int.toNat_natCast, List.length_map, hlt, hx, ren_ver, ver_av, decide_true, Bool.not_true])
               | ((with_reducible refine keep0_i ?_); simp only [lP, seval])
               | simp (maxSteps := 1000000) (disch := omega) only [lE, ptrCells, ptrAdd, isNil, readsV, readsP, isCall, wrote, srcOf, seval, IdxR_wrs, Int.toNat_natCast, List.length_map, hlt, hx, ren_ver, ver_av, decide_true, Bool.not_true])
              all_goals first
                | (exfalso; rename_i q; revert q; decide)
                | exact back_i (i + 1) (by omega) (by omega) (Ent.to [] false (by simp) (by simp) rfl (by simp only [lP, seval, hc, Nat.add_zero] <;> (try simp) <;> (try omega)) (by simp only [lP, seval, hc, Nat.add_zero] <;> (try simp) <;> (try omega)))
          · have hlt : ((w.length : Int) < w.length) = False := by simp
            have hie : i = w.length := by omega
            rw [hie, List.take_length]
            generalize hcb : (w.filter fun x => !x.dead).length = cb at *
            have hcbl : cb ≤ 30 := by rw [← hcb]; exact Nat.le_trans (List.length_filter_le _ _) hs
            repeat' (first
             | (with_reducible apply St.o; constructor) <;> intro _
             | with_reducible first | refine LenR_i fun _ => ?_ | refine And.intro (by omega) ?_ | (apply Sp.o; constructor) | refine mkl_own ?_ | refine frz0_i ?_
             | ((with_reducible apply Sc.o false; constructor); simp only [lP, seval, hlt, decide_false, List.length_map]; refine ⟨_, h21b, ?_⟩; rintro _ _ ⟨rfl, rfl⟩; simp only [lA, lP, ptrCells, ptrAdd, isNil, readsV, readsP, isCall, wrote, srcOf, seval, hlt, decide_false, List.length_map])
             | ((with_reducible refine keep0_i ?_); simp only [lP, seval])
             | simp (maxSteps := 1000000) (disch := omega) only [lE, ptrCells, ptrAdd, isNil, readsV, readsP, isCall, wrote, srcOf, seval, hlt, decide_false, List.length_map])
            refine loop_i (fun j : Nat => j ≤ rr.length) (fun j => ⟨[(1, .int .i64 s), (2, .view 4 (w.map Wr.av)), (3, .int .i64 snap), (9, .view 4 (n.map Ver.av)), (11, .int .i64 (cb + ((rr.take j).filter fun v => !wroteB w v).length : Nat)), (101, .view 4 (rr.map Ver.av)), (102, .int .i64 rr.length), (103, .int .i64 j)], []⟩) (fun j => rr.length - j) 0 (by omega) (Ent.to [] false (by simp) (by simp) rfl (by simp only [lP, seval, List.take_zero, List.filter_nil, List.length_nil, Nat.add_zero] <;> (try simp) <;> (try omega)) (by simp only [lP, seval, List.take_zero, List.filter_nil, List.length_nil, Nat.add_zero] <;> (try simp) <;> (try omega))) ?_
            intro j hj
            by_cases hjl : j < rr.length
            · have hlt : ((j : Int) < rr.length) = True := by simp; omega
              have hmem : rr.getD j default ∈ rr := by simp [hjl]
              have hv := hvo _ hmem
              have h12 := h12 (rr.getD j default).row
              have hc := cnt_next (p := fun v : Ver => !wroteB w v) hjl
              have hcl := cnt_le (p := fun v : Ver => !wroteB w v) (l := rr) (i := j)
              generalize hx : rr.getD j default = x at *
              generalize ((rr.take j).filter fun v => !wroteB w v).length = c at *
              have h14 := c14 x x
              simp only [decide_true, ver_av] at h14
              repeat' (first
               | (with_reducible apply St.o; constructor) <;> intro _
               | with_reducible first | refine LenR_i fun _ => ?_ | refine And.intro (by omega) ?_ | (apply Sp.o; constructor) | refine mkl_own ?_ | refine frz0_i ?_
               | ((with_reducible refine keep0_i ?_); simp only [lP, seval])
               | simp (maxSteps := 1000000) (disch := omega) only [lE, ptrCells, ptrAdd, isNil, readsV, readsP, isCall, wrote, srcOf, seval, IdxR_vers, Int.toNat_natCast, List.length_map, hlt, hx, decide_true])
              refine loop_i (fun k : Nat => k ≤ w.length) (fun k => ⟨[(1, .int .i64 s), (2, .view 4 (w.map Wr.av)), (3, .int .i64 snap), (9, .view 4 (n.map Ver.av)), (11, .int .i64 (cb + c : Nat)), (101, .view 4 (rr.map Ver.av)), (102, .int .i64 rr.length), (103, .int .i64 j), (17, .op 0 0), (18, .bool (wroteB (w.take k) x)), (107, .view 4 (w.map Wr.av)), (108, .int .i64 w.length), (109, .int .i64 k)], [.box x.cs]⟩) (fun k => w.length - k) 0 (by omega) (Ent.to [0] false (by simp) (by simp) rfl (by simp only [lP, seval, List.take_zero, wroteB, List.any_nil] <;> (try simp) <;> (try omega)) (by simp only [lP, seval, List.take_zero, wroteB, List.any_nil] <;> (try simp) <;> (try omega))) ?_
              intro k hk
              by_cases hkl : k < w.length
              · have hlt2 : ((k : Int) < w.length) = True := by simp; omega
                have hnx := wrote_next (v := x) hkl
                generalize hM : wroteB (w.take k) x = M at *
                generalize hy : w.getD k default = y at *
                repeat' (first
                 | (with_reducible apply St.o; constructor) <;> intro _
                 | with_reducible first | refine LenR_i fun _ => ?_ | refine And.intro (by omega) ?_ | (apply Sp.o; constructor) | refine mkl_own ?_ | refine frz0_i ?_ | refine any_i [] ?_
                 | ((with_reducible refine keep0_i ?_); simp only [lP, seval])
                 | simp (maxSteps := 1000000) (disch := omega) only [lE, ptrCells, ptrAdd, isNil, readsV, readsP, isCall, wrote, srcOf, seval, IdxR_wrs, Int.toNat_natCast, List.length_map, hlt2, hy, decide_true])
                all_goals (rename_i q; subst q
                           exact back_i (k + 1) (by omega) (by omega) (Ent.to [0] false (by simp) (by simp) rfl (by simp only [lP, seval, hnx, Bool.false_or, Bool.true_or, Bool.not_false] <;> (try simp) <;> (try omega)) (by simp only [lP, seval, hnx, Bool.false_or, Bool.true_or, Bool.not_false] <;> (try simp) <;> (try omega))))
              · have hlt2 : ((w.length : Int) < w.length) = False := by simp
                have hke : k = w.length := by omega
                rw [hke, List.take_length]
                cases hwr : wroteB w x
                · have hnot : x.row ∉ w.map Wr.row := fun hm => by
                    obtain ⟨z, hz, hzr⟩ := List.mem_map.1 hm
                    rw [wroteB, List.any_eq_false] at hwr
                    exact hwr z hz (by simp [hzr])
                  rw [hv hnot] at h12
                  simp only [ver_av] at h12
                  rw [hwr] at hc
                  simp only [Bool.not_false, if_true] at hc
                  repeat' (first
                   | (with_reducible apply St.o; constructor) <;> intro _
                   | with_reducible first | refine LenR_i fun _ => ?_ | refine And.intro (by omega) ?_ | (apply Sp.o; constructor) | refine mkl_own ?_ | refine frz0_i ?_ | refine any_i [] ?_
                   | ((with_reducible apply Sc.o true; constructor); simp only [lP, seval, Int.toNat_natCast, List.length_map, hlt2, decide_false, ren_ver, ver_av, Bool.not_true]; refine ⟨_, h14, ?_⟩; rintro _ _ ⟨rfl, rfl⟩; simp only [lA, lP, ptrCells, ptrAdd, isNil, readsV, readsP, isCall, wrote, srcOf, seval, Int.toNat_natCast, List.length_map, hlt2, decide_false, ren_ver, ver_av, Bool.not_true])
                   | ((with_reducible apply Sc.o false; constructor); simp only [lP, seval, Int.toNat_natCast, List.length_map, hlt2, decide_false, ren_ver, ver_av, Bool.not_true]; refine ⟨_, h12, ?_⟩; rintro _ _ ⟨rfl, rfl⟩; simp only [lA, lP, ptrCells, ptrAdd, isNil, readsV, readsP, isCall, wrote, srcOf, seval, Int.toNat_natCast, List.length_map, hlt2, decide_false, ren_ver, ver_av, Bool.not_true])
                   | ((with_reducible refine keep0_i ?_); simp only [lP, seval])
                   | simp (maxSteps := 1000000) (disch := omega) only [lE, ptrCells, ptrAdd, isNil, readsV, readsP, isCall, wrote, srcOf, seval, Int.toNat_natCast, List.length_map, hlt2, decide_false, ren_ver, ver_av, Bool.not_true])
                  exact back_i (j + 1) (by omega) (by omega) (Ent.to [] false (by simp) (by simp) rfl (by simp only [lP, seval, hc, Int.natCast_add, Int.natCast_one, Int.add_assoc] <;> (try simp) <;> (try omega)) (by simp only [lP, seval, hc, Int.natCast_add, Int.natCast_one, Int.add_assoc] <;> (try simp) <;> (try omega)))
                · rw [hwr] at hc
                  simp only [Bool.not_true, Bool.false_eq_true, if_false] at hc
                  repeat' (first
                   | (with_reducible apply St.o; constructor) <;> intro _
                   | with_reducible first | refine LenR_i fun _ => ?_ | refine And.intro (by omega) ?_ | (apply Sp.o; constructor) | refine mkl_own ?_ | refine frz0_i ?_ | refine any_i [] ?_
                   | ((with_reducible refine keep0_i ?_); simp only [lP, seval])
                   | simp (maxSteps := 1000000) (disch := omega) only [lE, ptrCells, ptrAdd, isNil, readsV, readsP, isCall, wrote, srcOf, seval, hlt2, decide_false])
                  exact back_i (j + 1) (by omega) (by omega) (Ent.to [] false (by simp) (by simp) rfl (by simp only [lP, seval, hc, Nat.add_zero] <;> (try simp) <;> (try omega)) (by simp only [lP, seval, hc, Nat.add_zero] <;> (try simp) <;> (try omega)))
            · have hlt : ((rr.length : Int) < rr.length) = False := by simp
              have hje : j = rr.length := by omega
              rw [hje, List.take_length]
              have hend : (((snapRows n snap).length : Int) = (cb + (rr.filter fun v => !wroteB w v).length : Nat)) = True := by rw [hca]; simp
              repeat' (first
               | (with_reducible apply St.o; constructor) <;> intro _
               | with_reducible first | refine LenR_i fun _ => ?_ | refine And.intro (by omega) ?_ | (apply Sp.o; constructor) | refine mkl_own ?_ | refine frz0_i ?_
               | ((with_reducible apply Sc.o true; constructor); simp only [lP, seval, hlt, hend, decide_false, decide_true, List.length_map]; (first | refine ⟨_, h8, ?_⟩ | refine ⟨_, h22, ?_⟩); rintro _ _ ⟨rfl, rfl⟩; simp only [lA, lP, ptrCells, ptrAdd, isNil, readsV, readsP, isCall, wrote, srcOf, seval, hlt, hend, decide_false, decide_true, List.length_map])
               | ((with_reducible refine keep0_i ?_); simp only [lP, seval])
               | simp (maxSteps := 1000000) (disch := omega) only [lE, ptrCells, ptrAdd, isNil, readsV, readsP, isCall, wrote, srcOf, seval, hlt, hend, decide_false, decide_true, List.length_map])
      · have hb := addL_bad he
        rw [hb] at h28
        have hne : (addE l s w = 0) = False := by simp; exact he
        repeat' (first
         | (with_reducible apply St.o; constructor) <;> intro _
         | with_reducible first | refine LenR_i fun _ => ?_ | refine And.intro (by omega) ?_ | (apply Sp.o; constructor) | refine mkl_own ?_ | refine frz0_i ?_
         | ((with_reducible apply Sc.o true; constructor); simp only [lP, seval, List.length_map, hne, List.map_nil, List.length_nil, decide_true]; (first | refine ⟨_, h11, ?_⟩ | refine ⟨_, h8, ?_⟩); rintro _ _ ⟨rfl, rfl⟩; simp only [lA, lP, ptrCells, ptrAdd, isNil, readsV, readsP, isCall, wrote, srcOf, seval, List.length_map, hne, List.map_nil, List.length_nil, decide_true])
         | ((with_reducible apply Sc.o false; constructor); simp only [lP, seval, List.length_map, hne, List.map_nil, List.length_nil, decide_true]; refine ⟨_, h28, ?_⟩; rintro _ _ ⟨rfl, rfl⟩; simp only [lA, lP, ptrCells, ptrAdd, isNil, readsV, readsP, isCall, wrote, srcOf, seval, List.length_map, hne, List.map_nil, List.length_nil, decide_true])
         | ((with_reducible refine keep0_i ?_); simp only [lP, seval])
         | simp (maxSteps := 1000000) (disch := omega) only [lE, ptrCells, ptrAdd, isNil, readsV, readsP, isCall, wrote, srcOf, seval, List.length_map, hne, List.map_nil, List.length_nil, decide_true])
    · repeat' (first
       | (with_reducible apply St.o; constructor) <;> intro _
       | with_reducible first | refine LenR_i fun _ => ?_ | refine And.intro (by omega) ?_ | (apply Sp.o; constructor) | refine mkl_own ?_ | refine frz0_i ?_
       | ((with_reducible apply Sc.o true; constructor); simp only [lP, seval, List.length_map]; (first | refine ⟨_, h11, ?_⟩ | refine ⟨_, h8, ?_⟩); rintro _ _ ⟨rfl, rfl⟩; simp only [lA, lP, ptrCells, ptrAdd, isNil, readsV, readsP, isCall, wrote, srcOf, seval, List.length_map])
       | ((with_reducible refine keep0_i ?_); simp only [lP, seval])
       | simp (maxSteps := 1000000) (disch := omega) only [lE, ptrCells, ptrAdd, isNil, readsV, readsP, isCall, wrote, srcOf, seval, List.length_map])
      exfalso; omega
  · rw [decide_eq_false hf] at h11
    repeat' (first
     | (with_reducible apply St.o; constructor) <;> intro _
     | with_reducible first | refine LenR_i fun _ => ?_ | refine And.intro (by omega) ?_ | (apply Sp.o; constructor) | refine mkl_own ?_ | refine frz0_i ?_
     | ((with_reducible apply Sc.o true; constructor); simp only [lP, seval, List.length_map]; (first | refine ⟨_, h11, ?_⟩ | refine ⟨_, h8, ?_⟩); rintro _ _ ⟨rfl, rfl⟩; simp only [lA, lP, ptrCells, ptrAdd, isNil, readsV, readsP, isCall, wrote, srcOf, seval, List.length_map])
     | ((with_reducible refine keep0_i ?_); simp only [lP, seval])
     | simp (maxSteps := 1000000) (disch := omega) only [lE, ptrCells, ptrAdd, isNil, readsV, readsP, isCall, wrote, srcOf, seval, List.length_map])
end Go.Proofs.Try


namespace Go.Proofs.Ytlkmgeahdidjeaa
open Go.Al Go.Proofs.Try
open Go.ChangeShapes Go.WideShapes Go.ChangeAt Go.RowKit
set_option linter.unusedVariables false
set_option maxRecDepth 100000 in
theorem lifted7 (os : Os) (started : os.Started) (H : Type) (enc : TypeId × Value → H) :
    ReturnsInHanded {} Try.checked os 7 .any (Rows.snapshotSeesThePastSpec.pre6 enc Try.prog Try.f7 Rows.snapshotSeesThePastRow.domain false) (Rows.snapshotSeesThePastSpec.post enc Try.prog Try.f7 false true false false) := by
  refine returnsInHanded_of_change (C := Try.checked) own started (by kernel_rfl) Try.func7
    (ChangeSpec.witness6 (enc := enc) (C := Try.checked) false ⟨#[], #[.slice none 0 0, .int .i64 0, .slice none 0 0, .int .i64 0], []⟩ 8 (by kernel_rfl) (by kernel_rfl) (by kernel_rfl) (by kernel_rfl)) ?_
  intro W base args ds gs before hval hW _ _
  exact contract_of hE kids full (s := Rows.snapshotSeesThePastSpec) (tb := 4) (by rw [Try.params7]; decide +kernel) (by rw [Try.params7]; exact reads_cons rv22 (reads_cons rv3 (reads_cons rv43 (reads_cons rv3 (reads_nil))))) (by rintro _ ⟨a, _, ha, ⟨b, _, hb, ⟨c, _, hc, ⟨d, _, hd, rfl, rfl⟩, rfl⟩, rfl⟩, rfl⟩; exact c7 a b c d) rfl
    (by rw [Try.params7]; rintro H (_ | ⟨d0, (_ | ⟨d1, (_ | ⟨d2, (_ | ⟨d3, (_ | ⟨dz, ds⟩)⟩)⟩)⟩)⟩) hl <;> simp at hl; exact ⟨rfl, rfl, rfl⟩) (by kernel_rfl) (by kernel_rfl) H enc W base args ds gs before (glob_ok _) hval hW
theorem snapshotSeesThePast_holds : Rows.SnapshotSeesThePastSaid :=
  OpenClaim.holds_of_wide 7 Try.f7 rfl rfl rfl rfl rfl rfl rfl ⟨rfl, rfl, rfl, rfl, rfl⟩ rfl rfl rfl rfl rfl (by kernel_rfl) Try.func7 (by kernel_rfl)
    (of_decide_eq_true (by kernel_rfl)) (by unfold Func.isWrapper; first | (rw [if_pos (by decide +kernel)]; kernel_rfl) | (rw [if_neg (by decide +kernel)]; exact ⟨rfl, rfl⟩))
    (fun os started H enc _ => lifted7 os started H enc)
end Go.Proofs.Ytlkmgeahdidjeaa
