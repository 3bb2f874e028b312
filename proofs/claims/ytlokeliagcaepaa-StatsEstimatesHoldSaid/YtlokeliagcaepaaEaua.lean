/-
  A part of the proof: see the text of the law.
-/
import Derived.Test.YtlokeliagcaepaaEaz
set_option linter.unusedSimpArgs false
set_option linter.unusedVariables false
namespace Go.Proofs.Try
open Go.Al
set_option maxRecDepth 100000
/-- alum/alumref39.add -/
def mc53 : MC :=
 (.seq (.ops [(none, (.e (.box 3 (.t 1)))),
 (none, (.v (.mov 4 (.c (.raw (.slice none 0 0))))))])
 (.seq (.seq (.ops [(none, (.v (.mov 5 (.c (.int .i64 0)))))])
 (.block 0 (.loop (.seq (.seq (.ops [(none, (.v (.mov 10 (.t 5)))),
 (none, (.v (.mov 11 (.t 0)))),
 (none, (.p (.len 12 (.t 11)))),
 (none, (.v (.bin 13 .lss false (.t 10) (.t 12))))])
 (.cond 13
 .skip
 (.exit 0)))
 (.seq (.block 1 (.seq (.any false (.pure0 none (.v (.mov 16 (.t 0)))
 (.pure0 none (.v (.mov 17 (.t 5)))
 (.pure0 none (.p (.idx 18 12 (.t 16) (.t 17)))
 (.pure0 none (.v (.fld 19 0 (.t 18)))
 (.pure0 none (.v (.load 20 true 9 (.t 19)))
 (.pure0 none (.v (.fld 21 0 (.t 3)))
 (.pure0 none (.v (.load 22 true 9 (.t 21)))
 (.alt none (.e (.call (some 23) 56 [(.t 20), (.t 22)]))
 (.base .done)
 .stop)))))))))
 (.cond 23
 (.seq (.any true (.pure0 none (.v (.mov 25 (.t 0)))
 (.pure0 none (.v (.mov 26 (.t 5)))
 (.pure0 none (.p (.pre 27 12 (.t 25) (some (.t 26))))
 (.pure0 none (.v (.mov 29 (.t 0)))
 (.pure0 none (.v (.mov 30 (.t 5)))
 (.pure0 none (.v (.bin 31 .add false (.t 30) (.c (.int .i64 1))))
 (.pure0 none (.p (.cut 32 12 (.t 29) (.t 31) none))
 (.alt none (.e (.mkl 24 90 12 0 (.agg [(.int .i64 0), (.int .i64 0), (.str ⟨#[]⟩), (.int .i64 0), (.int .i64 0), (.str ⟨#[]⟩), (.int .i64 0), (.int .i64 0), (.int .i64 0), (.int .i64 0), (.int .i64 0), (.raw (.slice none 0 0))]) []))
 (.alt none (.e (.app 28 90 12 128 (.t 24) (.t 27)))
 (.alt none (.e (.app 33 90 12 128 (.t 28) (.t 32)))
 (.pure1 none (.v (.mov 6 (.t 33)))
 .done)
 .stop)
 .stop)
 .stop)))))))))
 (.seq (.any false (.pure0 none (.v (.mov 34 (.t 6)))
 (.pure0 none (.v (.load 35 true 12 (.t 3)))
 (.pure0 none (.v (.mov 36 (.t 0)))
 (.pure0 none (.v (.mov 37 (.t 5)))
 (.pure0 none (.p (.idx 38 12 (.t 36) (.t 37)))
 (.pure0 none (.v (.load 39 true 12 (.t 38)))
 (.alt none (.e (.call (some 40) 71 [(.t 35), (.t 39)]))
 (.base (.alt none (.e (.call (some 41) 53 [(.t 34), (.t 40)]))
 (.base (.pure0 none (.v (.mov 4 (.t 41)))
 .done))
 .stop))
 .stop))))))))
 .ret))
 .skip)))
 (.ops [(none, (.v (.mov 14 (.t 5)))),
 (none, (.v (.bin 15 .add false (.t 14) (.c (.int .i64 1))))),
 (none, (.v (.mov 5 (.t 15))))]))))))
 (.seq (.ops [(none, (.v (.mov 7 (.c (.raw (.slice none 0 0))))))])
 (.seq (.ops [(none, (.v (.mov 8 (.c (.bool false)))))])
 (.seq (.seq (.ops [(none, (.v (.mov 9 (.c (.int .i64 0)))))])
 (.block 2 (.loop (.seq (.seq (.ops [(none, (.v (.mov 42 (.t 9)))),
 (none, (.v (.mov 43 (.t 0)))),
 (none, (.p (.len 44 (.t 43)))),
 (none, (.v (.bin 45 .lss false (.t 42) (.t 44))))])
 (.cond 45
 .skip
 (.exit 2)))
 (.seq (.block 3 (.seq (.seq (.any false (.pure0 none (.v (.mov 48 (.t 8)))
 (.pure0 none (.v (.not 49 (.t 48)))
 (.pure0 none (.v (.mov 50 (.t 49)))
 (.pure0 (some (50, true)) (.v (.fld 51 0 (.t 3)))
 (.pure0 (some (50, true)) (.v (.fld 52 0 (.t 51)))
 (.pure0 (some (50, true)) (.v (.load 53 true 3 (.t 52)))
 (.pure0 (some (50, true)) (.v (.mov 54 (.t 0)))
 (.pure0 (some (50, true)) (.v (.mov 55 (.t 9)))
 (.pure0 (some (50, true)) (.p (.idx 56 12 (.t 54) (.t 55)))
 (.pure0 (some (50, true)) (.v (.fld 57 0 (.t 56)))
 (.pure0 (some (50, true)) (.v (.fld 58 0 (.t 57)))
 (.pure0 (some (50, true)) (.v (.load 59 true 3 (.t 58)))
 (.alt (some (50, true)) (.e (.call (some 60) 47 [(.t 53), (.t 59)]))
 (.base (.pure0 (some (50, true)) (.v (.bin 61 .lss false (.t 60) (.c (.int .i64 0))))
 (.pure0 none (.v (.pick 62 (.t 50) (.t 61) (.c (.bool false))))
 .done)))
 .stop))))))))))))))
 (.cond 62
 (.seq (.ops [(none, (.v (.mov 63 (.t 7)))),
 (none, (.v (.load 64 true 12 (.t 3)))),
 (none, (.e (.mkl 65 90 12 1 (.agg [(.int .i64 0), (.int .i64 0), (.str ⟨#[]⟩), (.int .i64 0), (.int .i64 0), (.str ⟨#[]⟩), (.int .i64 0), (.int .i64 0), (.int .i64 0), (.int .i64 0), (.int .i64 0), (.raw (.slice none 0 0))]) [(0, (.t 64))]))),
 (none, (.e (.app 66 90 12 128 (.t 63) (.t 65)))),
 (none, (.v (.mov 7 (.t 66))))])
 (.ops [(none, (.v (.mov 8 (.c (.bool true)))))]))
 .skip))
 (.ops [(none, (.v (.mov 67 (.t 7)))),
 (none, (.v (.mov 68 (.t 0)))),
 (none, (.v (.mov 69 (.t 9)))),
 (none, (.p (.idx 70 12 (.t 68) (.t 69)))),
 (none, (.v (.load 71 true 12 (.t 70)))),
 (none, (.e (.mkl 72 90 12 1 (.agg [(.int .i64 0), (.int .i64 0), (.str ⟨#[]⟩), (.int .i64 0), (.int .i64 0), (.str ⟨#[]⟩), (.int .i64 0), (.int .i64 0), (.int .i64 0), (.int .i64 0), (.int .i64 0), (.raw (.slice none 0 0))]) [(0, (.t 71))]))),
 (none, (.e (.app 73 90 12 128 (.t 67) (.t 72)))),
 (none, (.v (.mov 7 (.t 73))))])))
 (.ops [(none, (.v (.mov 46 (.t 9)))),
 (none, (.v (.bin 47 .add false (.t 46) (.c (.int .i64 1))))),
 (none, (.v (.mov 9 (.t 47))))]))))))
 (.seq (.seq (.ops [(none, (.v (.mov 74 (.t 8)))),
 (none, (.v (.not 75 (.t 74))))])
 (.cond 75
 (.ops [(none, (.v (.mov 76 (.t 7)))),
 (none, (.v (.load 77 true 12 (.t 3)))),
 (none, (.e (.mkl 78 90 12 1 (.agg [(.int .i64 0), (.int .i64 0), (.str ⟨#[]⟩), (.int .i64 0), (.int .i64 0), (.str ⟨#[]⟩), (.int .i64 0), (.int .i64 0), (.int .i64 0), (.int .i64 0), (.int .i64 0), (.raw (.slice none 0 0))]) [(0, (.t 77))]))),
 (none, (.e (.app 79 90 12 128 (.t 76) (.t 78)))),
 (none, (.v (.mov 7 (.t 79))))])
 .skip))
 (.seq (.ops [(none, (.v (.mov 80 (.t 7)))),
 (none, (.v (.mov 4 (.t 80))))])
 .ret)))))))
theorem ok53 : FnOk E 53 81 [.tmp 4] mc53 := .of func53 (by kernel_rfl) (by kernel_rfl) (by kernel_rfl) (by kernel_rfl) (by kernel_rfl)
end Go.Proofs.Try
namespace Go.Proofs.Try
open Go.Al
set_option linter.unusedVariables false
set_option linter.unusedSimpArgs false
set_option maxRecDepth 20000
set_option maxHeartbeats 8000000

def Part.wt (p : Part) : Nat := p.b.rows.natAbs + p.b.most.natAbs + p.left.natAbs + p.right.natAbs + p.ends.length * 1000000
def wts (l : List Part) : Nat := (l.map Part.wt).sum
theorem wt_tog (p q : Part) : (p.tog q).wt ≤ p.wt + q.wt := by
  simp only [Part.wt, Part.tog, List.length_append]
  omega
theorem wts_append (a b : List Part) : wts (a ++ b) = wts a + wts b := by simp [wts]
theorem wts_cons (p : Part) (b : List Part) : wts (p :: b) = p.wt + wts b := by simp [wts]
theorem wts_mem {l : List Part} {p : Part} (h : p ∈ l) : p.wt ≤ wts l := by
  induction l with
  | nil => cases h
  | cons q l ih =>
    rw [wts_cons]
    rcases List.mem_cons.1 h with rfl | h
    · omega
    · have := ih h; omega
theorem wts_at {l : List Part} {k : Nat} (h : k < l.length) : wts l = wts (l.take k ++ l.drop (k + 1)) + (l.getD k default).wt := by
  have e : l = l.take k ++ l[k] :: l.drop (k + 1) := by simp
  have hd : l.getD k default = l[k] := by simp [h]
  conv => lhs; rw [e]
  rw [wts_append, wts_cons, wts_append, hd]
  omega
theorem wt_ok {p : Part} (h : p.wt ≤ 1000000000000000) : PartOk 1000000000000000 p := by
  unfold Part.wt at h
  refine ⟨?_, ?_, ?_, ?_, ?_⟩ <;> omega
theorem putN_le (l : List Part) (p : Part) : ∀ i, (putN l p i).1.length ≤ i + (if (putN l p i).2 = true then 1 else 0)
  | 0 => by simp [putN]
  | i + 1 => by
    have h := putN_le l p i
    rcases hw : putN l p i with ⟨o, b⟩
    simp only [putN, hw] at h ⊢
    cases b <;> cases decide (p.b.lo.cmp19 (l.getD i default).b.lo < 0) <;> simp at h ⊢ <;> omega
theorem putN_next (l : List Part) (p : Part) (i : Nat) : putN l p (i + 1) = ((if (!(putN l p i).2 && decide (p.b.lo.cmp19 (l.getD i default).b.lo < 0)) = true then (putN l p i).1 ++ [p] else (putN l p i).1) ++ [l.getD i default], (putN l p i).2 || (!(putN l p i).2 && decide (p.b.lo.cmp19 (l.getD i default).b.lo < 0))) := rfl
theorem c53 : ∀ (n : Nat) (l : List Part) (p : Part), l.length = n → n ≤ 100000 → wts l + p.wt ≤ 1000000000000000 →
    ACalls E.P 53 [.view 12 (l.map Part.av), p.av] [] (fun r H => r = .view 12 ((addR n l p).map Part.av) ∧ H = [])
  | n, l, p, hn, hn1, hw => by
    have hmax := maxLen_eq
    have hnone : findM l p = none → addR n l p = putR l p := fun h => by
      cases n with
      | zero => rfl
      | succ n => rw [addR, h]
    refine ok53.acalls hE hm (by simp) fun N hN => ?_
    unfold mc53
    simp only [lA, ptrCells, ptrAdd, isNil, readsV, readsP, isCall, wrote, srcOf, seval, part_av]
    refine loop_i (fun i : Nat => i ≤ l.length ∧ ∀ q ∈ l.take i, q.b.meet19 p.b = false) (fun i => ⟨[(0, .view 12 (l.map Part.av)), (3, .op 0 0), (5, .int .i64 i)], [.box p.cs]⟩) (fun i => l.length - i) 0 ⟨by omega, by simp⟩ (Ent.to [0] false (by simp) (by simp) rfl (by simp only [lP, seval, List.length_map] <;> (try simp) <;> (try omega)) (by simp only [lP, seval, List.length_map] <;> (try simp) <;> (try omega))) ?_
    rintro i ⟨hi, ha⟩
    by_cases hil : i < l.length
    · have h56 := c56 (l.getD i default).b p.b
      have hnx := all_next (P := fun q : Part => q.b.meet19 p.b = false) hil ha
      simp only [bar_av] at h56
      have hj : ((i : Int) + 1).toNat = i + 1 := by omega
      cases hm : (l.getD i default).b.meet19 p.b with
      | false =>
        rw [hm] at h56
        repeat' (first
         | (with_reducible apply St.o; constructor) <;> intro _
         | with_reducible first | refine LenR_i fun _ => ?_ | refine And.intro (by omega) ?_ | (apply Sp.o; constructor) | refine mkl_own ?_ | refine frz0_i ?_ | refine any_i [] ?_
         | ((with_reducible apply Sc.o true; constructor); simp only [lP, seval, IdxR_parts, Int.toNat_natCast, List.length_map]; refine ⟨_, h56, ?_⟩; rintro _ _ ⟨rfl, rfl⟩; simp only [lA, lP, ptrCells, ptrAdd, isNil, readsV, readsP, isCall, wrote, srcOf, seval, IdxR_parts, Int.toNat_natCast, List.length_map])
         | simp (maxSteps := 1000000) (disch := omega) only [lE, ptrCells, ptrAdd, isNil, readsV, readsP, isCall, wrote, srcOf, seval, IdxR_parts, Int.toNat_natCast, List.length_map])
        all_goals try (exfalso; omega)
        exact back_i (i + 1) ⟨by omega, hnx hm⟩ (by omega) (Ent.to [0] false (by simp) (by simp) rfl (by simp only [lP, seval] <;> (try simp) <;> (try omega)) (by simp only [lP, seval] <;> (try simp) <;> (try omega)))
      | true =>
        rw [hm] at h56
        obtain ⟨m, rfl⟩ : ∃ m, n = m + 1 := ⟨n - 1, by omega⟩
        have hat := wts_at hil
        have hfind : findM l p = some i := by
          refine List.findIdx?_eq_some_iff_getElem.2 ⟨hil, by simpa [hil] using hm, fun j hj => ?_⟩
          have : l[j]'(by omega) ∈ l.take i := by
            rw [List.mem_iff_getElem?]
            exact ⟨j, by rw [List.getElem?_take, if_pos hj, List.getElem?_eq_getElem]⟩
          simp [ha _ this]
        have hadd : addR (m + 1) l p = addR m (l.take i ++ l.drop (i + 1)) (p.tog (l.getD i default)) := by rw [addR, hfind]
        have hwl := wt_tog p (l.getD i default)
        have ih := c53 m (l.take i ++ l.drop (i + 1)) (p.tog (l.getD i default)) (by simp; omega) (by omega) (by omega)
        have h71 := c71 p (l.getD i default) (wt_ok (by omega)) (wt_ok (by omega))
        rw [hadd]
        simp only [part_av] at ih h71
        repeat' (first
         | (with_reducible apply St.o; constructor) <;> intro _
         | with_reducible first | refine LenR_i fun _ => ?_ | refine And.intro (by omega) ?_ | (apply Sp.o; constructor) | refine mkl_own ?_ | refine any_i [] ?_
         | ((with_reducible apply Sc.o true; constructor); simp only [lP, seval, IdxR_parts, Int.toNat_natCast, List.length_map, fillE, List.length_nil, List.nil_append, hj, List.length_take, List.length_drop, List.length_append]; refine ⟨_, h56, ?_⟩; rintro _ _ ⟨rfl, rfl⟩; simp only [lA, lP, ptrCells, ptrAdd, isNil, readsV, readsP, isCall, wrote, srcOf, seval, IdxR_parts, Int.toNat_natCast, List.length_map, fillE, List.length_nil, List.nil_append, hj, List.length_take, List.length_drop, List.length_append])
         | simp (maxSteps := 1000000) (disch := omega) only [lE, ptrCells, ptrAdd, isNil, readsV, readsP, isCall, wrote, srcOf, seval, IdxR_parts, Int.toNat_natCast, List.length_map, fillE, List.length_nil, List.nil_append, hj, List.length_take, List.length_drop, List.length_append])
        all_goals try (exfalso; omega)
        simp only [← List.map_take, ← List.map_drop, ← List.map_append]
        have hv : ∀ {H k m}, vwS none (some (.arr 90 12 ((l.take i ++ l.drop (i + 1)).map Part.av))) H k (m + 2) 12 (min i l.length + (l.length - (i + 1))) = .view 12 ((l.take i ++ l.drop (i + 1)).map Part.av) := by
          intro H k m
          rw [vwS_arr (by simp), vw_parts]
        refine frz_i (fr' := [(0, .view 12 (l.map Part.av)), (3, .op 0 0), (5, .int .i64 i), (6, .view 12 ((l.take i ++ l.drop (i + 1)).map Part.av))]) (H' := [.box p.cs]) (Ent.to [0] true (by simp) (by simp) rfl (by simp only [lP, seval, hv] <;> (try simp) <;> (try omega)) (by simp only [lP, seval, hv] <;> (try simp) <;> (try omega))) ?_
        clear hv
        generalize l.take i ++ l.drop (i + 1) = rest at *
        generalize p.tog (l.getD i default) = pt at *
        repeat' (first
         | (with_reducible apply St.o; constructor) <;> intro _
         | with_reducible first | refine LenR_i fun _ => ?_ | refine And.intro (by omega) ?_ | (apply Sp.o; constructor) | refine mkl_own ?_ | refine frz0_i ?_ | refine any_i [] ?_
         | ((with_reducible apply Sc.o false; constructor); simp only [lP, seval, IdxR_parts, Int.toNat_natCast, List.length_map]; (first | refine ⟨_, h71, ?_⟩ | refine ⟨_, ih, ?_⟩); rintro _ _ ⟨rfl, rfl⟩; simp only [lA, lP, ptrCells, ptrAdd, isNil, readsV, readsP, isCall, wrote, srcOf, seval, IdxR_parts, Int.toNat_natCast, List.length_map])
         | simp (maxSteps := 1000000) (disch := omega) only [lE, ptrCells, ptrAdd, isNil, readsV, readsP, isCall, wrote, srcOf, seval, IdxR_parts, Int.toNat_natCast, List.length_map])
        all_goals try (exfalso; omega)
        exact keep_i [] false (by simp) (by simp) rfl ⟨by simp only [lP, seval], by simp only [lP, seval]⟩
    · have hie : i = l.length := by omega
      subst hie
      rw [List.take_length] at ha
      rw [hnone (List.findIdx?_eq_none_iff.2 ha)]
      repeat' (first
       | (with_reducible apply St.o; constructor) <;> intro _
       | with_reducible first | refine LenR_i fun _ => ?_ | refine And.intro (by omega) ?_ | (apply Sp.o; constructor) | refine mkl_own ?_ | refine frz0_i ?_
       | simp (maxSteps := 1000000) (disch := omega) only [lE, ptrCells, ptrAdd, isNil, readsV, readsP, isCall, wrote, srcOf, seval, List.length_map, Int.lt_irrefl, decide_false])
      refine loop_i (fun i : Nat => i ≤ l.length) (fun i => ⟨[(0, .view 12 (l.map Part.av)), (3, .op 0 0), (7, .slc 1 12 (putN l p i).1.length), (8, .bool (putN l p i).2), (9, .int .i64 i)], [.box p.cs, .arr 90 12 ((putN l p i).1.map Part.av)]⟩) (fun i => l.length - i) 0 (by omega)
        (Ent.ghost' 7 90 12 (by omega) rfl (Ent.to [0, 1] false (by simp) (by simp) rfl (by simp only [lP, seval, putN, List.map_nil, List.length_nil] <;> (try simp) <;> (try omega)) (by simp only [lP, seval, putN, List.map_nil, List.length_nil] <;> (try simp) <;> (try omega)))) ?_
      intro i hi
      have hle := putN_le l p i
      by_cases hil : i < l.length
      · have hnx := putN_next l p i
        have h47 := c47 p.b.lo (l.getD i default).b.lo
        simp only [vl_av] at h47
        rcases hw : putN l p i with ⟨o, b⟩
        simp only [hw] at hnx hle ⊢
        have hol : o.length ≤ i + 1 := by split at hle <;> omega
        clear hle
        generalize hx : l.getD i default = x at *
        repeat' (first
         | (with_reducible apply St.o; constructor) <;> intro _
         | with_reducible first | refine LenR_i fun _ => ?_ | refine And.intro (by omega) ?_ | (apply Sp.o; constructor) | refine mkl_own ?_ | refine frz0_i ?_ | refine any_i [] ?_
         | ((with_reducible apply Sc.o true; constructor); simp only [lP, seval, IdxR_parts, Int.toNat_natCast, List.length_map, hx, fillE, List.length_cons, List.length_nil, List.length_append]; refine ⟨_, h47, ?_⟩; rintro _ _ ⟨rfl, rfl⟩; simp only [lA, lP, ptrCells, ptrAdd, isNil, readsV, readsP, isCall, wrote, srcOf, seval, IdxR_parts, Int.toNat_natCast, List.length_map, hx, fillE, List.length_cons, List.length_nil, List.length_append])
         | simp (maxSteps := 1000000) (disch := omega) only [lE, ptrCells, ptrAdd, isNil, readsV, readsP, isCall, wrote, srcOf, seval, IdxR_parts, Int.toNat_natCast, List.length_map, hx, fillE, List.length_cons, List.length_nil, List.length_append])
        all_goals try (exfalso; omega)
        · rename_i q1 q2 q3
          obtain rfl : b = false := by simpa using q2
          simp only [Bool.not_false, Bool.true_and, decide_eq_true q3, if_true, Bool.or_true] at hnx
          exact back_i (i + 1) (by omega) (by omega) (Ent.to [0, 5] false (by simp) (by simp) rfl (by simp only [lP, seval, hnx, List.map_append, List.map_cons, List.map_nil, List.length_append, List.length_cons, List.length_nil, pa_parts, part_av, pa_agg] <;> (try simp) <;> (try omega)) (by simp only [lP, seval, hnx, List.map_append, List.map_cons, List.map_nil, List.length_append, List.length_cons, List.length_nil, pa_parts, part_av, pa_agg] <;> (try simp) <;> (try omega)))
        · rename_i q1 q2 q3
          obtain rfl : b = false := by simpa using q2
          simp only [Bool.not_false, Bool.true_and, decide_eq_false q3, Bool.false_eq_true, if_false, Bool.or_false] at hnx
          exact back_i (i + 1) (by omega) (by omega) (Ent.to [0, 3] false (by simp) (by simp) rfl (by simp only [lP, seval, hnx, List.map_append, List.map_cons, List.map_nil, List.length_append, List.length_cons, List.length_nil, pa_parts, part_av, pa_agg] <;> (try simp) <;> (try omega)) (by simp only [lP, seval, hnx, List.map_append, List.map_cons, List.map_nil, List.length_append, List.length_cons, List.length_nil, pa_parts, part_av, pa_agg] <;> (try simp) <;> (try omega)))
        · rename_i q1 q2
          obtain rfl : b = true := by simpa using q2
          simp only [Bool.not_true, Bool.false_and, Bool.false_eq_true, if_false, Bool.true_or] at hnx
          exact back_i (i + 1) (by omega) (by omega) (Ent.to [0, 3] false (by simp) (by simp) rfl (by simp only [lP, seval, hnx, List.map_append, List.map_cons, List.map_nil, List.length_append, List.length_cons, List.length_nil, pa_parts, part_av, pa_agg] <;> (try simp) <;> (try omega)) (by simp only [lP, seval, hnx, List.map_append, List.map_cons, List.map_nil, List.length_append, List.length_cons, List.length_nil, pa_parts, part_av, pa_agg] <;> (try simp) <;> (try omega)))
      · have hie : i = l.length := by omega
        subst hie
        have hput : putR l p = if (putN l p l.length).2 = true then (putN l p l.length).1 else (putN l p l.length).1 ++ [p] := rfl
        rw [hput]
        rcases hw : putN l p l.length with ⟨o, b⟩
        simp only [hw] at hle ⊢
        have hol : o.length ≤ l.length + 1 := by split at hle <;> omega
        repeat' (first
         | (with_reducible apply St.o; constructor) <;> intro _
         | with_reducible first | refine LenR_i fun _ => ?_ | refine And.intro (by omega) ?_ | (apply Sp.o; constructor) | refine mkl_own ?_ | refine frz0_i ?_
         | simp (maxSteps := 1000000) (disch := omega) only [lE, ptrCells, ptrAdd, isNil, readsV, readsP, isCall, wrote, srcOf, seval, List.length_map, Int.lt_irrefl, decide_false, fillE, List.length_cons, List.length_nil, List.length_append])
        · rename_i q1
          obtain rfl : b = false := by simpa using q1
          have hv : o.map Part.av ++ [.agg p.cs] = (o ++ [p]).map Part.av := by simp [Part.av]
          rw [if_neg (by decide), hv]
          refine keep_i [] true (by simp) (by simp) rfl ⟨?_, by simp only [lP, seval]⟩
          simp only [lP, seval, List.length_map, List.length_append, List.length_cons, List.length_nil, vw_parts]
        · rename_i q1
          obtain rfl : b = true := by simpa using q1
          rw [if_pos rfl]
          refine keep_i [] true (by simp) (by simp) rfl ⟨?_, by simp only [lP, seval]⟩
          simp only [lP, seval, List.length_map, vw_parts]
termination_by n => n
decreasing_by all_goals omega
end Go.Proofs.Try
