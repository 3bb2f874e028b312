/-
  A part of the proof: see the text of the law.
-/
import Derived.Test.YtlokeliagcaepaaEav
import Derived.Test.YtlokeliagcaepaaPab
import Derived.Test.YtlokeliagcaepaaEaq
set_option linter.unusedSimpArgs false
set_option linter.unusedVariables false
namespace Go.Proofs.Try
open Go.Al
set_option maxRecDepth 100000
/-- alum/stats.Merge$1 -/
def mc50 : MC :=
 (.seq (.ops [(none, (.v (.mov 6 (.c (.bool false)))))])
 (.seq (.seq (.any false (.pure0 none (.v (.mov 8 (.t 0)))
 (.pure0 none (.v (.nil 9 (.t 8)))
 (.pure0 none (.v (.load 10 false 1 (.t 9)))
 (.pure0 none (.p (.len 11 (.t 10)))
 (.pure0 none (.v (.bin 12 .eql false (.t 11) (.c (.int .i64 0))))
 (.pure0 none (.v (.mov 13 (.t 12)))
 (.pure0 (some (13, false)) (.v (.fld 14 6 (.t 2)))
 (.pure0 (some (13, false)) (.v (.load 15 false 1 (.t 14)))
 (.pure0 (some (13, false)) (.v (.bin 16 .gtr false (.t 15) (.c (.int .i64 0))))
 (.pure0 (some (13, false)) (.v (.mov 17 (.t 16)))
 (.pure0 (some (17, true)) (.v (.load 18 true 9 (.t 2)))
 (.pure0 (some (17, true)) (.v (.mov 19 (.t 0)))
 (.pure0 (some (17, true)) (.v (.nil 20 (.t 19)))
 (.pure0 (some (17, true)) (.v (.load 21 false 1 (.t 20)))
 (.pure0 (some (17, true)) (.p (.idx 22 9 (.t 21) (.c (.int .i64 0))))
 (.pure0 (some (17, true)) (.v (.load 23 true 9 (.t 22)))
 (.alt (some (17, true)) (.e (.call (some 24) 51 [(.t 18), (.t 23)]))
 (.base (.pure0 (some (17, true)) (.v (.not 25 (.t 24)))
 (.pure0 (some (13, false)) (.v (.pick 26 (.t 17) (.t 25) (.c (.bool false))))
 (.pure0 none (.v (.pick 27 (.t 13) (.c (.bool true)) (.t 26)))
 .done))))
 .stop))))))))))))))))))
 (.cond 27
 (.seq (.ops [(none, (.v (.mov 6 (.c (.bool false)))))])
 .ret)
 .skip))
 (.seq (.ops [(none, (.v (.mov 28 (.t 0)))),
 (none, (.v (.nil 29 (.t 28)))),
 (none, (.v (.load 30 false 1 (.t 29)))),
 (none, (.p (.idx 31 9 (.t 30) (.c (.int .i64 0))))),
 (none, (.v (.load 32 true 9 (.t 31)))),
 (none, (.e (.alloc 7 [(.int .i64 0), (.int .i64 0), (.str ⟨#[]⟩), (.int .i64 0), (.int .i64 0), (.str ⟨#[]⟩), (.int .i64 0), (.int .i64 0), (.int .i64 0)]))),
 (none, (.e (.store 9 true (.t 7) (.t 32))))])
 (.seq (.ops [(none, (.v (.mov 33 (.t 0)))),
 (none, (.v (.mov 34 (.t 0)))),
 (none, (.v (.nil 35 (.t 34)))),
 (none, (.v (.load 36 false 1 (.t 35)))),
 (none, (.p (.cut 37 9 (.t 36) (.c (.int .i64 1)) none))),
 (none, (.v (.nil 38 (.t 33)))),
 (none, (.e (.store 1 false (.t 38) (.t 37))))])
 (.seq (.seq (.ops [(none, (.v (.fld 39 6 (.t 2)))),
 (none, (.v (.load 40 false 1 (.t 39)))),
 (none, (.v (.bin 41 .eql false (.t 40) (.c (.int .i64 0)))))])
 (.cond 41
 (.any true (.pure0 none (.v (.fld 42 0 (.t 7)))
 (.pure0 none (.v (.load 43 true 3 (.t 42)))
 (.pure0 none (.v (.fld 44 3 (.t 7)))
 (.pure0 none (.v (.load 45 true 3 (.t 44)))
 (.pure0 none (.v (.fld 46 0 (.t 2)))
 (.alt none (.e (.store 3 true (.t 46) (.t 43)))
 (.pure0 none (.v (.fld 47 3 (.t 2)))
 (.alt none (.e (.store 3 true (.t 47) (.t 45)))
 .done
 .stop))
 .stop)))))))
 .skip))
 (.seq (.seq (.ops [(none, (.v (.fld 48 0 (.t 7)))),
 (none, (.v (.load 49 true 3 (.t 48)))),
 (none, (.v (.fld 50 0 (.t 2)))),
 (none, (.v (.load 51 true 3 (.t 50)))),
 (none, (.e (.call (some 52) 43 [(.t 49), (.t 51)]))),
 (none, (.v (.bin 53 .lss false (.t 52) (.c (.int .i64 0)))))])
 (.cond 53
 (.ops [(none, (.v (.fld 54 0 (.t 7)))),
 (none, (.v (.load 55 true 3 (.t 54)))),
 (none, (.v (.fld 56 0 (.t 2)))),
 (none, (.e (.store 3 true (.t 56) (.t 55))))])
 .skip))
 (.seq (.seq (.ops [(none, (.v (.fld 57 3 (.t 7)))),
 (none, (.v (.load 58 true 3 (.t 57)))),
 (none, (.v (.fld 59 3 (.t 2)))),
 (none, (.v (.load 60 true 3 (.t 59)))),
 (none, (.e (.call (some 61) 43 [(.t 58), (.t 60)]))),
 (none, (.v (.bin 62 .gtr false (.t 61) (.c (.int .i64 0)))))])
 (.cond 62
 (.ops [(none, (.v (.fld 63 3 (.t 7)))),
 (none, (.v (.load 64 true 3 (.t 63)))),
 (none, (.v (.fld 65 3 (.t 2)))),
 (none, (.e (.store 3 true (.t 65) (.t 64))))])
 .skip))
 (.seq (.ops [(none, (.v (.fld 66 6 (.t 2)))),
 (none, (.v (.load 67 false 1 (.t 66)))),
 (none, (.v (.fld 68 6 (.t 7)))),
 (none, (.v (.load 69 false 1 (.t 68)))),
 (none, (.v (.bin 70 .add false (.t 67) (.t 69)))),
 (none, (.v (.fld 71 6 (.t 2)))),
 (none, (.e (.store 1 false (.t 71) (.t 70))))])
 (.seq (.ops [(none, (.v (.fld 72 8 (.t 2)))),
 (none, (.v (.load 73 false 1 (.t 72)))),
 (none, (.v (.fld 74 8 (.t 7)))),
 (none, (.v (.load 75 false 1 (.t 74)))),
 (none, (.v (.bin 76 .add false (.t 73) (.t 75)))),
 (none, (.v (.fld 77 8 (.t 2)))),
 (none, (.e (.store 1 false (.t 77) (.t 76))))])
 (.seq (.any true (.pure0 none (.v (.mov 78 (.t 1)))
 (.pure0 none (.v (.nil 79 (.t 78)))
 (.pure0 none (.v (.fld 81 7 (.t 7)))
 (.pure0 none (.v (.load 82 false 1 (.t 81)))
 (.alt none (.v (.load 80 false 1 (.t 79)))
 (.pure1 none (.v (.bin 83 .add false (.t 80) (.t 82)))
 (.pure0 none (.v (.nil 84 (.t 78)))
 (.alt none (.e (.store 1 false (.t 84) (.t 83)))
 .done
 .stop)))
 .stop))))))
 (.seq (.ops [(none, (.v (.load 85 false 1 (.t 3)))),
 (none, (.v (.fld 86 0 (.t 7)))),
 (none, (.v (.load 87 true 3 (.t 86)))),
 (none, (.v (.fld 88 3 (.t 7)))),
 (none, (.v (.load 89 true 3 (.t 88)))),
 (none, (.e (.mkl 90 40 3 2 (.agg [(.int .i64 0), (.int .i64 0), (.str ⟨#[]⟩)]) [(0, (.t 87)), (1, (.t 89))]))),
 (none, (.e (.app 91 40 3 32 (.t 85) (.t 90)))),
 (none, (.e (.store 1 false (.t 3) (.t 91))))])
 (.seq (.ops [(none, (.v (.mov 6 (.c (.bool true)))))])
 .ret))))))))))))
theorem ok50 : FnOk E 50 92 [.tmp 6] mc50 := .of func50 (by kernel_rfl) (by kernel_rfl) (by kernel_rfl) (by kernel_rfl) (by kernel_rfl)
end Go.Proofs.Try
namespace Go.Proofs.Try
open Go.Al
set_option linter.unusedVariables false
set_option linter.unusedSimpArgs false
set_option maxRecDepth 20000
set_option maxHeartbeats 8000000

theorem po_dead {H : List AObj} {l : List Nat} {bor : Bool} {n : Nat} : po H l bor n .dead = .dead := rfl
theorem c50 (xs : List Bar) (n : Int) (b : Bar) (e : List VL) (hx : ∀ x ∈ xs, x.small ∧ 0 ≤ x.most ∧ x.most ≤ 16777216) (hn : 0 ≤ n ∧ n ≤ 1125899906842624) (hb : 0 ≤ b.rows ∧ b.rows ≤ 1125899906842624 ∧ 0 ≤ b.most ∧ b.most ≤ 1125899906842624) (he : e.length ≤ 1048576) :
    ACalls E.P 50 [.op 0 0, .op 1 0, .op 2 0, .op 3 0] [.box [.view 9 (xs.map Bar.av)], .box [.int .i64 n], .box b.cs, .box [.slc 4 3 e.length], .arr 40 3 (e.map VL.av)]
      (fun r H => (takes b xs = false ∧ r = .bool false ∧ H = [.box [.view 9 (xs.map Bar.av)], .box [.int .i64 n], .box b.cs, .box [.slc 4 3 e.length], .arr 40 3 (e.map VL.av)]) ∨
        ∃ x ys, xs = x :: ys ∧ takes b xs = true ∧ r = .bool true ∧ H = [.box [.view 9 (ys.map Bar.av)], .box [.int .i64 (n + x.least)], .box (b.joinB x).cs, .box [.slc 5 3 (e.length + 2)], .dead, .arr 40 3 ((e ++ [x.lo, x.hi]).map VL.av)]) := by
  have hmax := maxLen_eq
  refine ok50.acalls hE hm (by simp) fun N hN => ?_
  unfold mc50
  simp only [lA, ptrCells, ptrAdd, isNil, readsV, readsP, isCall, wrote, srcOf, seval]
  by_cases hl0 : xs.length = 0
  · have hx0 : xs = [] := List.eq_nil_of_length_eq_zero hl0
    subst hx0
    repeat' (first
     | (with_reducible apply St.o; constructor) <;> intro _
     | with_reducible first | refine LenR_i fun _ => ?_ | refine And.intro (by omega) ?_ | (apply Sp.o; constructor) | refine mkl_own ?_ | refine frz0_i ?_ | refine any_i [] ?_
     | simp (maxSteps := 1000000) (disch := omega) only [lE, ptrCells, ptrAdd, isNil, readsV, readsP, isCall, wrote, srcOf, seval, List.map_nil, List.length_nil])
    all_goals try (exfalso; omega)
    exact keep_i [0, 1, 2, 3, 4] false (by simp) (by simp) rfl (.inl ⟨rfl, by simp only [lP, seval], by simp only [lP, seval, pa_vls]⟩)
  · obtain ⟨x, ys, hxy⟩ : ∃ x ys, xs = x :: ys := by
      cases xs with
      | nil => simp at hl0
      | cons x ys => exact ⟨x, ys, rfl⟩
    have hx0 : xs.getD 0 default = x := by rw [hxy]; rfl
    have hdrop : (xs.map Bar.av).drop 1 = ys.map Bar.av := by rw [hxy]; rfl
    have htk : takes b xs = (!decide (0 < b.rows) || b.meet x) := by rw [hxy]; rfl
    have hpos : 0 < xs.length := by omega
    obtain ⟨⟨g1, g2, g3, g4⟩, g5, g6⟩ := hx x (by rw [hxy]; simp)
    have h51 := c51 b x
    clear hx
    obtain ⟨lo, hi, rows, least, most⟩ := b
    obtain ⟨xlo, xhi, xrows, xleast, xmost⟩ := x
    have h43a := c43 xlo lo
    have h43b := c43 xhi hi
    have h43c := c43 xlo xlo
    have h43d := c43 xhi xhi
    have hs1 := vl_cmp.self xlo
    have hs2 := vl_cmp.self xhi
    have hj1 : ¬ rows = 0 → (Bar.mk lo hi rows least most).joinB ⟨xlo, xhi, xrows, xleast, xmost⟩ = ⟨if xlo.cmp lo < 0 then xlo else lo, if 0 < xhi.cmp hi then xhi else hi, rows + xrows, least, most + xmost⟩ := fun h => by
      simp only [Bar.joinB, if_neg h]
    have hj2 : rows = 0 → (Bar.mk lo hi rows least most).joinB ⟨xlo, xhi, xrows, xleast, xmost⟩ = ⟨xlo, xhi, rows + xrows, least, most + xmost⟩ := fun h => by
      simp only [Bar.joinB, if_pos h, hs1, hs2, Int.lt_irrefl, if_false]
    simp only [bar_av, vl_av] at h51 h43a h43b h43c h43d g1 g2 g3 g4 g5 g6 hb htk
    rw [hs1] at h43c
    rw [hs2] at h43d
    generalize Bar.meet _ _ = mt at *
    generalize hca : xlo.cmp lo = ca at *
    generalize hcb : xhi.cmp hi = cb at *
    repeat' (first
     | (with_reducible apply St.o; constructor) <;> intro _
     | with_reducible first | refine LenR_i fun _ => ?_ | refine And.intro (by omega) ?_ | (apply Sp.o; constructor) | refine mkl_own ?_ | refine frz0_i ?_
     | ((with_reducible apply Sc.o true; constructor); simp only [lP, seval, IdxR_bars, hx0, hdrop, Int.toNat_zero, List.length_map, fillE, List.length_cons, List.length_nil, mem12a, mem12b]; (first | refine ⟨_, h51, ?_⟩ | refine ⟨_, h43a, ?_⟩ | refine ⟨_, h43b, ?_⟩ | refine ⟨_, h43c, ?_⟩ | refine ⟨_, h43d, ?_⟩); rintro _ _ ⟨rfl, rfl⟩; simp only [lA, lP, ptrCells, ptrAdd, isNil, readsV, readsP, isCall, wrote, srcOf, seval, IdxR_bars, hx0, hdrop, Int.toNat_zero, List.length_map, fillE, List.length_cons, List.length_nil, mem12a, mem12b])
     | with_reducible refine any_i [1, 2] ?_
     | simp (maxSteps := 1000000) (disch := omega) only [lE, ptrCells, ptrAdd, isNil, readsV, readsP, isCall, wrote, srcOf, seval, IdxR_bars, hx0, hdrop, Int.toNat_zero, List.length_map, fillE, List.length_cons, List.length_nil, mem12a, mem12b])
    all_goals try (exfalso; omega)
    · rename_i q1 q2 q3
      exact keep_i [0, 1, 2, 3, 4] false (by simp) (by simp) rfl (.inl ⟨by rw [htk, decide_eq_true q2]; simpa using q3, by simp only [lP, seval], by simp only [lP, seval, pa_vls]⟩)
    all_goals
      refine keep_i [0, 1, 2, 3, 4, 7] false (by simp) (by simp) rfl (.inr ⟨_, ys, hxy, ?_, by simp only [lP, seval], ?_⟩)
      · rw [htk]
        simp_all
      · first
        | rw [hj1 (by assumption)]
        | rw [hj2 (by assumption)]
        simp only [lP, seval, pa_vls, List.map_append, List.map_cons, List.map_nil, vl_av, pa_agg]
        simp [*, po_dead]
end Go.Proofs.Try
