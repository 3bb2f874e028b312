/-
  A part of the proof: see the text of the law.
-/
import Derived.Test.YtlokeliagcaepaaEar
import Derived.Test.YtlokeliagcaepaaEam
import Derived.Test.YtlokeliagcaepaaPab
set_option linter.unusedSimpArgs false
set_option linter.unusedVariables false
namespace Go.Proofs.Try
open Go.Al
set_option maxRecDepth 100000
/-- slices.Compact[[]alum/api.Value,alum/api.Value] -/
def mc52 : MC :=
 (.seq (.ops [(none, (.v (.mov 2 (.c (.raw (.slice none 0 0))))))])
 (.seq (.seq (.ops [(none, (.v (.mov 6 (.t 0)))),
 (none, (.p (.len 7 (.t 6)))),
 (none, (.v (.bin 8 .lss false (.t 7) (.c (.int .i64 2)))))])
 (.cond 8
 (.seq (.ops [(none, (.v (.mov 9 (.t 0)))),
 (none, (.v (.mov 2 (.t 9))))])
 .ret)
 .skip))
 (.seq (.seq (.ops [(none, (.v (.mov 3 (.c (.int .i64 1)))))])
 (.block 0 (.loop (.seq (.seq (.ops [(none, (.v (.mov 10 (.t 3)))),
 (none, (.v (.mov 11 (.t 0)))),
 (none, (.p (.len 12 (.t 11)))),
 (none, (.v (.bin 13 .lss false (.t 10) (.t 12))))])
 (.cond 13
 .skip
 (.exit 0)))
 (.seq (.block 1 (.seq (.any false (.pure0 none (.v (.mov 16 (.t 0)))
 (.pure0 none (.v (.mov 17 (.t 3)))
 (.pure0 none (.p (.idx 18 3 (.t 16) (.t 17)))
 (.pure0 none (.v (.load 19 true 3 (.t 18)))
 (.pure0 none (.v (.mov 20 (.t 0)))
 (.pure0 none (.v (.mov 21 (.t 3)))
 (.pure0 none (.v (.bin 22 .sub false (.t 21) (.c (.int .i64 1))))
 (.pure0 none (.p (.idx 23 3 (.t 20) (.t 22)))
 (.pure0 none (.v (.load 24 true 3 (.t 23)))
 (.pure0 none (.v (.eq 25 false (.agg [(0, false, 1, .int), (1, false, 1, .int), (2, false, 1, .str)]) (.t 19) (.t 24)))
 .done)))))))))))
 (.cond 25
 (.seq (.ops [(none, (.v (.mov 26 (.t 0)))),
 (none, (.v (.mov 27 (.t 3)))),
 (none, (.p (.cut 28 3 (.t 26) (.t 27) none))),
 (none, (.v (.mov 4 (.t 28))))])
 (.seq (.seq (.ops [(none, (.v (.mov 5 (.c (.int .i64 1)))))])
 (.block 2 (.loop (.seq (.seq (.ops [(none, (.v (.mov 29 (.t 5)))),
 (none, (.v (.mov 30 (.t 4)))),
 (none, (.p (.len 31 (.t 30)))),
 (none, (.v (.bin 32 .lss false (.t 29) (.t 31))))])
 (.cond 32
 .skip
 (.exit 2)))
 (.seq (.block 3 (.seq (.any false (.pure0 none (.v (.mov 35 (.t 4)))
 (.pure0 none (.v (.mov 36 (.t 5)))
 (.pure0 none (.p (.idx 37 3 (.t 35) (.t 36)))
 (.pure0 none (.v (.load 38 true 3 (.t 37)))
 (.pure0 none (.v (.mov 39 (.t 4)))
 (.pure0 none (.v (.mov 40 (.t 5)))
 (.pure0 none (.v (.bin 41 .sub false (.t 40) (.c (.int .i64 1))))
 (.pure0 none (.p (.idx 42 3 (.t 39) (.t 41)))
 (.pure0 none (.v (.load 43 true 3 (.t 42)))
 (.pure0 none (.v (.eq 44 true (.agg [(0, false, 1, .int), (1, false, 1, .int), (2, false, 1, .str)]) (.t 38) (.t 43)))
 .done)))))))))))
 (.cond 44
 (.seq (.ops [(none, (.v (.mov 45 (.t 0)))),
 (none, (.v (.mov 46 (.t 3)))),
 (none, (.v (.mov 47 (.t 4)))),
 (none, (.v (.mov 48 (.t 5)))),
 (none, (.p (.idx 49 3 (.t 47) (.t 48)))),
 (none, (.v (.load 50 true 3 (.t 49)))),
 (none, (.p (.idx 51 3 (.t 45) (.t 46)))),
 (none, (.e (.store 3 true (.t 51) (.t 50))))])
 (.ops [(none, (.v (.mov 52 (.t 3)))),
 (none, (.v (.bin 53 .add false (.t 52) (.c (.int .i64 1))))),
 (none, (.v (.mov 3 (.t 53))))]))
 .skip)))
 (.ops [(none, (.v (.mov 33 (.t 5)))),
 (none, (.v (.bin 34 .add false (.t 33) (.c (.int .i64 1))))),
 (none, (.v (.mov 5 (.t 34))))]))))))
 (.seq (.ops [(none, (.v (.mov 54 (.t 0)))),
 (none, (.v (.mov 55 (.t 3)))),
 (none, (.p (.cut 56 3 (.t 54) (.t 55) none))),
 (none, (.e (.clr none 3 (.agg [(.int .i64 0), (.int .i64 0), (.str ⟨#[]⟩)]) (.t 56))))])
 (.seq (.ops [(none, (.v (.mov 57 (.t 0)))),
 (none, (.v (.mov 58 (.t 3)))),
 (none, (.p (.pre 59 3 (.t 57) (some (.t 58))))),
 (none, (.v (.mov 2 (.t 59))))])
 .ret))))
 .skip)))
 (.ops [(none, (.v (.mov 14 (.t 3)))),
 (none, (.v (.bin 15 .add false (.t 14) (.c (.int .i64 1))))),
 (none, (.v (.mov 3 (.t 15))))]))))))
 (.seq (.ops [(none, (.v (.mov 60 (.t 0)))),
 (none, (.v (.mov 2 (.t 60))))])
 .ret))))
theorem ok52 : FnOk E 52 61 [.tmp 2] mc52 := .of func52 (by kernel_rfl) (by kernel_rfl) (by kernel_rfl) (by kernel_rfl) (by kernel_rfl)
end Go.Proofs.Try
namespace Go.Proofs.Try
open Go.Al
set_option linter.unusedVariables false
set_option linter.unusedSimpArgs false
set_option maxRecDepth 20000
set_option maxHeartbeats 8000000

theorem stE_vl {P : Program} {m : Nat} {N : FN} {fr : List (Nat × AV)} {H : List AObj} {q : Ke} {xs : List VL} {id sz sz' n : Nat} {E' : TypeId} {x : AV} {v : VL} (hn : n < xs.length) :
    stE P m N (some (.arr E' sz' (xs.map VL.av))) 3 [.int .i64 v.k, .int .i64 v.n, .str v.s] x id sz n 0 fr H q = (sz = sz' ∧ rE P m N q fr (H.set id (.arr E' sz' ((xs.set n v).map VL.av)))) := by
  rw [stE_agg (f := VL.av) (g := VL.cs) (dflt := default) (fun _ => rfl) hn, List.map_set]
  simp [setAt, VL.av]
theorem c52 (l : List VL) (h : l.length ≤ 1048576) : ACalls E.P 52 [.slc 0 3 l.length] [.arr 40 3 (l.map VL.av)] (fun r H => ∃ a : List VL, cmpN l ≤ a.length ∧ H = [.arr 40 3 (a.map VL.av)] ∧ (r = .slc 0 3 (cmpN l) ∨ r = .sub 0 3 0 (cmpN l))) := by
  have hmax := maxLen_eq
  refine ok52.acalls hE hm (by simp) fun N hN => ?_
  unfold mc52
  simp only [lA, ptrCells, ptrAdd, isNil, readsV, readsP, isCall, wrote, srcOf, seval]
  repeat' (first
   | (with_reducible apply St.o; constructor) <;> intro _
   | with_reducible first | refine LenR_i fun _ => ?_ | refine And.intro (by omega) ?_ | (apply Sp.o; constructor) | refine mkl_own ?_ | refine frz0_i ?_
   | simp (maxSteps := 1000000) (disch := omega) only [lE, ptrCells, ptrAdd, isNil, readsV, readsP, isCall, wrote, srcOf, seval])
  · rename_i h1
    have e : cmpN l = l.length := by
      match l, h1 with
      | [], _ => rfl
      | [x], _ => rfl
      | x :: y :: r, h1 => simp at h1; omega
    exact keep_i [0] false (by simp) (by simp) rfl ⟨l, by omega, by simp only [lP, seval, pa_vls], .inl (by simp only [lP, seval, e])⟩
  · rename_i h1
    have hn2 : 2 ≤ l.length := by omega
    refine loop_i (fun k : Nat => 1 ≤ k ∧ k ≤ l.length ∧ cmpN l = k + chg (l.drop (k - 1))) (fun k => ⟨[(0, .slc 0 3 l.length), (3, .int .i64 k)], [.arr 40 3 (l.map VL.av)]⟩) (fun k => l.length - k) 1 ⟨by omega, by omega, by rw [cmpN_pos (by omega)]; rfl⟩ (Ent.to [0] false (by simp) (by simp) rfl (by simp only [lP, seval, pa_vls] <;> (try simp) <;> (try omega)) (by simp only [lP, seval, pa_vls] <;> (try simp) <;> (try omega))) ?_
    rintro k ⟨hk1, hkn, hc⟩
    by_cases hkl : k < l.length
    · have hx1 : (l.map VL.av)[k]? = some (l.getD k default).av := by simp [hkl]
      have hx2 : (l.map VL.av)[k - 1]? = some (l.getD (k - 1) default).av := by simp [show k - 1 < l.length by omega]
      have hj : ((k : Int) - 1).toNat = k - 1 := by omega
      have hst := chg_step (l := l) (i := k - 1) (by omega)
      rw [show k - 1 + 1 = k by omega] at hst
      generalize hu : l.getD k default = u at *
      generalize hv : l.getD (k - 1) default = v at *
      repeat' (first
       | (with_reducible apply St.o; constructor) <;> intro _
       | with_reducible first | refine LenR_i fun _ => ?_ | refine And.intro (by omega) ?_ | (apply Sp.o; constructor) | refine mkl_own ?_ | refine frz0_i ?_ | refine any_i [] ?_
       | simp (maxSteps := 1000000) (disch := omega) only [lE, ptrCells, ptrAdd, isNil, readsV, readsP, isCall, wrote, srcOf, seval, epR_map, hx1, hx2, hj, vl_av, Int.toNat_natCast, List.length_map, vl_eq, vl_eq2])
      all_goals try (exfalso; omega)
      · rename_i q1 q2
        rw [if_pos q2.symm, Nat.zero_add] at hst
        rw [hst] at hc
        clear hst hx1 hx2 hu hv
        refine loop_i (fun x : Nat × Nat × List VL => 1 ≤ x.1 ∧ k + x.1 ≤ l.length ∧ k ≤ x.2.1 ∧ x.2.1 + 1 ≤ k + x.1 ∧ x.2.2.length = l.length ∧ x.2.2.drop (k + x.1 - 1) = l.drop (k + x.1 - 1) ∧ cmpN l = x.2.1 + chg (l.drop (k + x.1 - 1)))
          (fun x => ⟨[(0, .slc 0 3 l.length), (3, .int .i64 x.2.1), (4, .sub 0 3 k (l.length - k)), (5, .int .i64 x.1)], [.arr 40 3 (x.2.2.map VL.av)]⟩) (fun x => l.length - x.1) (1, k, l)
          ⟨by simp only; omega, by simp only; omega, by simp only; omega, by simp only; omega, rfl, rfl, by simp only [Nat.add_sub_cancel]; exact hc⟩ (Ent.to [0] false (by simp) (by simp) rfl (by simp only [lP, seval, pa_vls] <;> (try simp) <;> (try omega)) (by simp only [lP, seval, pa_vls] <;> (try simp) <;> (try omega))) ?_
        rintro ⟨k2, kk, a⟩ ⟨i1, i2, i3, i4, i5, i6, i7⟩
        simp only at i1 i2 i3 i4 i5 i6 i7 ⊢
        have hsub : ((l.length - k : Nat) : Int) = l.length - k := by omega
        by_cases hk2 : k + k2 < l.length
        · have e1 := drop_same i6 i5 (j := k + k2) (by omega)
          have e2 := drop_same i6 i5 (j := k + (k2 - 1)) (by omega)
          have hx1 : (a.map VL.av)[k + k2]? = some (l.getD (k + k2) default).av := by rw [← e1]; simp [i5, hk2]
          have hx2 : (a.map VL.av)[k + (k2 - 1)]? = some (l.getD (k + (k2 - 1)) default).av := by rw [← e2]; simp [i5, show k + (k2 - 1) < l.length by omega]
          have hj2 : ((k2 : Int) - 1).toNat = k2 - 1 := by omega
          have hst := chg_step (l := l) (i := k + k2 - 1) (by omega)
          rw [show k + k2 - 1 + 1 = k + k2 by omega, show k + k2 - 1 = k + (k2 - 1) by omega] at hst
          rw [show k + k2 - 1 = k + (k2 - 1) by omega] at i6 i7
          have hset : (a.set kk (l.getD (k + k2) default)).drop (k + k2) = l.drop (k + k2) := by
            rw [drop_set (by omega)]
            have := congrArg (List.drop 1) i6
            rw [List.drop_drop, List.drop_drop, show k + (k2 - 1) + 1 = k + k2 by omega] at this
            exact this
          have hnos : a.drop (k + k2) = l.drop (k + k2) := by
            have := congrArg (List.drop 1) i6
            rw [List.drop_drop, List.drop_drop, show k + (k2 - 1) + 1 = k + k2 by omega] at this
            exact this
          clear e1 e2 i6
          generalize l.getD (k + k2) default = u at *
          generalize l.getD (k + (k2 - 1)) default = v at *
          repeat' (first
           | (with_reducible apply St.o; constructor) <;> intro _
           | with_reducible first | refine LenR_i fun _ => ?_ | refine And.intro (by omega) ?_ | (apply Sp.o; constructor) | refine mkl_own ?_ | refine frz0_i ?_ | refine any_i [] ?_
           | simp (maxSteps := 1000000) (disch := omega) only [lE, ptrCells, ptrAdd, isNil, readsV, readsP, isCall, wrote, srcOf, seval, epR_map, hx1, hx2, hj2, vl_av, Int.toNat_natCast, List.length_map, vl_eq, vl_eq2, i5, stE_vl])
          all_goals try (exfalso; omega)
          · rename_i g1 g2
            rw [if_neg (fun h => g2 h.symm)] at hst
            exact back_i (k2 + 1, kk + 1, a.set kk u) ⟨by simp only; omega, by simp only; omega, by simp only; omega, by simp only; omega, by simp only [List.length_set]; exact i5, hset, by simp only; rw [i7, hst]; show kk + (1 + chg (List.drop (k + k2) l)) = kk + 1 + chg (List.drop (k + k2) l); omega⟩ (by simp only; omega) (Ent.to [0] false (by simp) (by simp) rfl (by simp only [lP, seval, pa_vls] <;> (try simp) <;> (try omega)) (by simp only [lP, seval, pa_vls] <;> (try simp) <;> (try omega)))
          · rename_i g1 g2
            rw [if_pos g2.symm, Nat.zero_add] at hst
            exact back_i (k2 + 1, kk, a) ⟨by simp only; omega, by simp only; omega, by simp only; omega, by simp only; omega, i5, hnos, by simp only; rw [i7, hst]; rfl⟩ (by simp only; omega) (Ent.to [0] false (by simp) (by simp) rfl (by simp only [lP, seval, pa_vls] <;> (try simp) <;> (try omega)) (by simp only [lP, seval, pa_vls] <;> (try simp) <;> (try omega)))
        · have hke : k + k2 = l.length := by omega
          rw [chg_last (by omega)] at i7
          have hz : setAt (a.map VL.av) kk (List.replicate (l.length - kk) (.agg [.int .i64 0, .int .i64 0, .str ⟨#[]⟩])) = (a.take kk ++ List.replicate (l.length - kk) VL.null ++ a.drop (kk + (l.length - kk))).map VL.av := by
            simp [setAt, VL.null, VL.av]
          repeat' (first
           | (with_reducible apply St.o; constructor) <;> intro _
           | with_reducible first | refine LenR_i fun _ => ?_ | refine And.intro (by omega) ?_ | (apply Sp.o; constructor) | refine mkl_own ?_ | refine frz0_i ?_
           | simp (maxSteps := 1000000) (disch := omega) only [lE, ptrCells, ptrAdd, isNil, readsV, readsP, isCall, wrote, srcOf, seval, Int.lt_irrefl, decide_false, i5, Int.toNat_natCast, List.length_map, hz])
          all_goals try (exfalso; omega)
          show keepQ 1 _ (AV.sub 0 3 0 kk) [AObj.arr 40 3 (setAt (a.map VL.av) kk (List.replicate (l.length - kk) (.agg [.int .i64 0, .int .i64 0, .str ⟨#[]⟩])))]
          rw [hz]
          refine keep_i [0] false (by simp) (by simp) rfl ⟨a.take kk ++ List.replicate (l.length - kk) VL.null ++ a.drop (kk + (l.length - kk)), ?_, by simp only [lP, seval, pa_vls], .inr (by simp only [lP, seval, i7, Nat.add_zero])⟩
          simp only [List.length_append, List.length_take, List.length_replicate, List.length_drop]
          omega
      · rename_i q1 q2
        rw [if_neg (fun h => q2 h.symm)] at hst
        exact back_i (k + 1) ⟨by omega, by omega, by rw [hc, hst, Nat.add_sub_cancel]; omega⟩ (by omega) (Ent.to [0] false (by simp) (by simp) rfl (by simp only [lP, seval, pa_vls] <;> (try simp) <;> (try omega)) (by simp only [lP, seval, pa_vls] <;> (try simp) <;> (try omega)))
    · have hke : k = l.length := by omega
      subst hke
      rw [chg_last (by omega)] at hc
      repeat' (first
       | (with_reducible apply St.o; constructor) <;> intro _
       | with_reducible first | refine LenR_i fun _ => ?_ | refine And.intro (by omega) ?_ | (apply Sp.o; constructor) | refine mkl_own ?_ | refine frz0_i ?_
       | simp (maxSteps := 1000000) (disch := omega) only [lE, ptrCells, ptrAdd, isNil, readsV, readsP, isCall, wrote, srcOf, seval, Int.lt_irrefl, decide_false])
      exact keep_i [0] false (by simp) (by simp) rfl ⟨l, by omega, by simp only [lP, seval, pa_vls], .inl (by simp only [lP, seval, hc, Nat.add_zero])⟩
end Go.Proofs.Try
