/-
  A part of the proof: see the text of the law.
-/
import Derived.Test.YtlokeliagcaepaaEaw
import Derived.Test.YtlokeliagcaepaaEat
import Derived.Test.YtlokeliagcaepaaPab
import Derived.Test.YtlokeliagcaepaaAlphaK
set_option linter.unusedSimpArgs false
set_option linter.unusedVariables false
namespace Go.Proofs.Try
open Go.Al
set_option maxRecDepth 100000
/-- alum/stats.Merge -/
def mc19 : MC :=
 (.seq (.ops [(none, (.e (.box 2 (.t 0)))),
 (none, (.e (.box 3 (.t 1)))),
 (none, (.e (.alloc 4 [(.int .i64 0), (.int .i64 0), (.raw (.slice none 0 0))]))),
 (none, (.v (.mov 5 (.c (.int .i64 0)))))])
 (.seq (.seq (.any false (.pure0 none (.v (.fld 14 2 (.t 2)))
 (.pure0 none (.v (.load 15 false 1 (.t 14)))
 (.pure0 none (.p (.len 16 (.t 15)))
 (.pure0 none (.v (.bin 17 .gtr false (.t 16) (.c (.int .i64 0))))
 (.pure0 none (.v (.mov 18 (.t 17)))
 (.pure0 (some (18, true)) (.v (.fld 19 2 (.t 3)))
 (.pure0 (some (18, true)) (.v (.load 20 false 1 (.t 19)))
 (.pure0 (some (18, true)) (.p (.len 21 (.t 20)))
 (.pure0 (some (18, true)) (.v (.bin 22 .gtr false (.t 21) (.c (.int .i64 0))))
 (.pure0 none (.v (.pick 23 (.t 18) (.t 22) (.c (.bool false))))
 (.pure0 none (.v (.mov 24 (.t 23)))
 (.pure0 (some (24, true)) (.v (.fld 25 2 (.t 2)))
 (.pure0 (some (24, true)) (.v (.load 26 false 1 (.t 25)))
 (.pure0 (some (24, true)) (.p (.idx 27 9 (.t 26) (.c (.int .i64 0))))
 (.pure0 (some (24, true)) (.v (.fld 28 0 (.t 27)))
 (.pure0 (some (24, true)) (.v (.fld 29 0 (.t 28)))
 (.pure0 (some (24, true)) (.v (.load 30 false 1 (.t 29)))
 (.pure0 (some (24, true)) (.v (.fld 31 2 (.t 3)))
 (.pure0 (some (24, true)) (.v (.load 32 false 1 (.t 31)))
 (.pure0 (some (24, true)) (.p (.idx 33 9 (.t 32) (.c (.int .i64 0))))
 (.pure0 (some (24, true)) (.v (.fld 34 0 (.t 33)))
 (.pure0 (some (24, true)) (.v (.fld 35 0 (.t 34)))
 (.pure0 (some (24, true)) (.v (.load 36 false 1 (.t 35)))
 (.pure0 (some (24, true)) (.v (.bin 37 .neq false (.t 30) (.t 36)))
 (.pure0 none (.v (.pick 38 (.t 24) (.t 37) (.c (.bool false))))
 .done))))))))))))))))))))))))))
 (.cond 38
 (.seq (.ops [(none, (.v (.build 39 [(.int .i64 0), (.int .i64 0), (.raw (.slice none 0 0))] []))),
 (none, (.e (.store 3 true (.t 4) (.t 39)))),
 (none, (.v (.mov 5 (.c (.int .i64 7)))))])
 .ret)
 .skip))
 (.seq (.seq (.ops [(none, (.v (.fld 40 0 (.t 2)))),
 (none, (.v (.load 41 false 1 (.t 40)))),
 (none, (.v (.fld 42 0 (.t 3)))),
 (none, (.v (.load 43 false 1 (.t 42)))),
 (none, (.v (.bin 44 .add false (.t 41) (.t 43)))),
 (none, (.v (.bin 45 .gtr false (.t 44) (.c (.int .i64 16777216)))))])
 (.cond 45
 (.seq (.ops [(none, (.v (.build 46 [(.int .i64 0), (.int .i64 0), (.raw (.slice none 0 0))] []))),
 (none, (.e (.store 3 true (.t 4) (.t 46)))),
 (none, (.v (.mov 5 (.c (.int .i64 2)))))])
 .ret)
 .skip))
 (.seq (.ops [(none, (.v (.fld 47 0 (.t 2)))),
 (none, (.v (.load 48 false 1 (.t 47)))),
 (none, (.v (.fld 49 0 (.t 3)))),
 (none, (.v (.load 50 false 1 (.t 49)))),
 (none, (.v (.bin 51 .add false (.t 48) (.t 50)))),
 (none, (.v (.fld 52 1 (.t 2)))),
 (none, (.v (.load 53 false 1 (.t 52)))),
 (none, (.v (.fld 54 1 (.t 3)))),
 (none, (.v (.load 55 false 1 (.t 54)))),
 (none, (.v (.bin 56 .add false (.t 53) (.t 55)))),
 (none, (.v (.build 57 [(.int .i64 0), (.int .i64 0), (.raw (.slice none 0 0))] [(0, 1, (.t 51)), (1, 1, (.t 56))]))),
 (none, (.e (.alloc 6 [(.int .i64 0), (.int .i64 0), (.raw (.slice none 0 0))]))),
 (none, (.e (.store 3 true (.t 6) (.t 57))))])
 (.seq (.any true (.pure0 none (.v (.fld 58 2 (.t 2)))
 (.pure0 none (.v (.load 59 false 1 (.t 58)))
 (.pure0 none (.v (.fld 60 2 (.t 3)))
 (.pure0 none (.v (.load 61 false 1 (.t 60)))
 (.alt none (.e (.alloc 7 [(.raw (.slice none 0 0))]))
 (.alt none (.e (.alloc 8 [(.raw (.slice none 0 0))]))
 (.alt none (.e (.store 1 false (.t 7) (.t 59)))
 (.alt none (.e (.store 1 false (.t 8) (.t 61)))
 .done
 .stop)
 .stop)
 .stop)
 (.alt none (.e (.alloc 8 [(.raw (.slice none 0 0))]))
 (.alt none (.e (.alloc 7 [(.raw (.slice none 0 0))]))
 (.alt none (.e (.store 1 false (.t 7) (.t 59)))
 (.alt none (.e (.store 1 false (.t 8) (.t 61)))
 .done
 .stop)
 .stop)
 .stop)
 .stop)))))))
 (.seq (.block 0 (.loop (.seq (.seq (.ops [(none, (.v (.load 62 false 1 (.t 7)))),
 (none, (.p (.len 63 (.t 62)))),
 (none, (.v (.bin 64 .gtr false (.t 63) (.c (.int .i64 0))))),
 (none, (.v (.mov 65 (.t 64)))),
 ((some (65, false)), (.v (.load 66 false 1 (.t 8)))),
 ((some (65, false)), (.p (.len 67 (.t 66)))),
 ((some (65, false)), (.v (.bin 68 .gtr false (.t 67) (.c (.int .i64 0))))),
 (none, (.v (.pick 69 (.t 65) (.c (.bool true)) (.t 68))))])
 (.cond 69
 .skip
 (.exit 0)))
 (.block 1 (.seq (.ops [(none, (.e (.alloc 9 [(.int .i64 0), (.int .i64 0), (.str ⟨#[]⟩), (.int .i64 0), (.int .i64 0), (.str ⟨#[]⟩), (.int .i64 0), (.int .i64 0), (.int .i64 0)])))])
 (.seq (.ops [(none, (.e (.alloc 10 [(.raw (.slice none 0 0))])))])
 (.seq (.ops [(none, (.e (.alloc 11 [(.int .i64 0)]))),
 (none, (.e (.alloc 12 [(.int .i64 0)])))])
 (.seq (.ops [(none, (.v (.fn 70 (.func 50) [] [(.t 9), (.t 10)]))),
 (none, (.v (.mov 13 (.t 70))))])
 (.seq (.seq (.any false (.pure0 none (.v (.load 71 false 1 (.t 7)))
 (.pure0 none (.p (.len 72 (.t 71)))
 (.pure0 none (.v (.bin 73 .gtr false (.t 72) (.c (.int .i64 0))))
 (.pure0 none (.v (.mov 74 (.t 73)))
 (.pure0 (some (74, true)) (.v (.load 75 false 1 (.t 8)))
 (.pure0 (some (74, true)) (.p (.len 76 (.t 75)))
 (.pure0 (some (74, true)) (.v (.bin 77 .eql false (.t 76) (.c (.int .i64 0))))
 (.pure0 (some (74, true)) (.v (.mov 78 (.t 77)))
 (.pure0 (some (78, false)) (.v (.load 79 false 1 (.t 7)))
 (.pure0 (some (78, false)) (.p (.idx 80 9 (.t 79) (.c (.int .i64 0))))
 (.pure0 (some (78, false)) (.v (.fld 81 0 (.t 80)))
 (.pure0 (some (78, false)) (.v (.load 82 true 3 (.t 81)))
 (.pure0 (some (78, false)) (.v (.load 83 false 1 (.t 8)))
 (.pure0 (some (78, false)) (.p (.idx 84 9 (.t 83) (.c (.int .i64 0))))
 (.pure0 (some (78, false)) (.v (.fld 85 0 (.t 84)))
 (.pure0 (some (78, false)) (.v (.load 86 true 3 (.t 85)))
 (.alt (some (78, false)) (.e (.call (some 87) 43 [(.t 82), (.t 86)]))
 (.base (.pure0 (some (78, false)) (.v (.bin 88 .leq false (.t 87) (.c (.int .i64 0))))
 (.pure0 (some (74, true)) (.v (.pick 89 (.t 78) (.c (.bool true)) (.t 88)))
 (.pure0 none (.v (.pick 90 (.t 74) (.t 89) (.c (.bool false))))
 .done))))
 .stop))))))))))))))))))
 (.cond 90
 (.ops [(none, (.v (.mov 91 (.t 13)))),
 (none, (.e (.callv (some 92) (.t 91) [(.t 7), (.t 11)])))])
 (.ops [(none, (.v (.mov 93 (.t 13)))),
 (none, (.e (.callv (some 94) (.t 93) [(.t 8), (.t 12)])))])))
 (.seq .skip
 (.seq (.block 2 (.loop (.block 3 (.block 4 (.seq (.seq (.ops [(none, (.v (.mov 96 (.t 13)))),
 (none, (.e (.callv (some 97) (.t 96) [(.t 7), (.t 11)]))),
 (none, (.v (.mov 95 (.t 97))))])
 (.cond 95
 .skip
 (.ops [(none, (.v (.mov 98 (.t 13)))),
 (none, (.e (.callv (some 99) (.t 98) [(.t 8), (.t 12)]))),
 (none, (.v (.mov 95 (.t 99))))])))
 (.cond 95
 .skip
 (.exit 2)))))))
 (.seq (.ops [(none, (.v (.load 100 false 1 (.t 10)))),
 (none, (.e (.call (some 101) 44 [(.t 100), (.c (.fn (.func 43) [] []))])))])
 (.seq (.any true (.pure0 none (.v (.load 102 false 1 (.t 11)))
 (.pure0 none (.v (.load 103 false 1 (.t 12)))
 (.pure0 none (.v (.load 104 false 1 (.t 10)))
 (.alt none (.e (.call (some 105) 52 [(.t 104)]))
 (.pure1 none (.p (.len 106 (.t 105)))
 (.pure1 none (.v (.max 107 [(.t 102), (.t 103), (.t 106)]))
 (.pure0 none (.v (.fld 108 7 (.t 9)))
 (.alt none (.e (.store 1 false (.t 108) (.t 107)))
 .done
 .stop))))
 .stop)))))
 (.seq (.ops [(none, (.v (.fld 109 8 (.t 9)))),
 (none, (.v (.load 110 false 1 (.t 109)))),
 (none, (.v (.fld 111 6 (.t 9)))),
 (none, (.v (.load 112 false 1 (.t 111)))),
 (none, (.v (.min 113 [(.t 110), (.t 112)]))),
 (none, (.v (.fld 114 8 (.t 9)))),
 (none, (.e (.store 1 false (.t 114) (.t 113))))])
 (.seq (.seq (.ops [(none, (.v (.load 115 true 9 (.t 9)))),
 (none, (.e (.call (some 116) 49 [(.t 115)])))])
 (.cond 116
 (.ops [(none, (.v (.fld 117 7 (.t 9)))),
 (none, (.e (.store 1 false (.t 117) (.c (.int .i64 1))))),
 (none, (.v (.fld 118 8 (.t 9)))),
 (none, (.e (.store 1 false (.t 118) (.c (.int .i64 1)))))])
 .skip))
 (.ops [(none, (.v (.fld 119 2 (.t 6)))),
 (none, (.v (.load 120 false 1 (.t 119)))),
 (none, (.v (.load 121 true 9 (.t 9)))),
 (none, (.e (.mkl 122 66 9 1 (.agg [(.int .i64 0), (.int .i64 0), (.str ⟨#[]⟩), (.int .i64 0), (.int .i64 0), (.str ⟨#[]⟩), (.int .i64 0), (.int .i64 0), (.int .i64 0)]) [(0, (.t 121))]))),
 (none, (.e (.app 123 66 9 88 (.t 120) (.t 122)))),
 (none, (.v (.fld 124 2 (.t 6)))),
 (none, (.e (.store 1 false (.t 124) (.t 123))))]))))))))))))))))
 (.seq (.ops [(none, (.v (.load 125 true 3 (.t 6)))),
 (none, (.e (.store 3 true (.t 4) (.t 125)))),
 (none, (.v (.mov 5 (.c (.int .i64 0)))))])
 .ret)))))))
theorem ok19 : FnOk E 19 126 [.cell 4 33, .tmp 5] mc19 := .of func19 (by kernel_rfl) (by kernel_rfl) (by kernel_rfl) (by kernel_rfl) (by kernel_rfl)
end Go.Proofs.Try
namespace Go.Proofs.Try
open Go.Al
set_option linter.unusedVariables false
set_option linter.unusedSimpArgs false
set_option maxRecDepth 20000
set_option maxHeartbeats 8000000

theorem mem59a : ((5 : Nat) ∈ ([5, 9] : List Nat)) = True := by simp
theorem mem59b : ((9 : Nat) ∈ ([5, 9] : List Nat)) = True := by simp
def mergeF (xs ys : List Bar) : List Bar := mergeC (xs.length + ys.length) xs ys
/-- What follows a statement. -/
def tl : MC → MC
  | .seq _ b => b
  | x => x
theorem takes_z {xs : List Bar} (h : 0 < xs.length) : takes zBar xs = true := by
  cases xs with
  | nil => simp at h
  | cons x xs => simp [takes, zBar]
theorem c50z (xs : List Bar) (hx : ∀ x ∈ xs, BarOk x) (hl : 0 < xs.length) :
    ACalls E.P 50 [.op 0 0, .op 1 0, .op 2 0, .op 3 0] [.box [.view 9 (xs.map Bar.av)], .box [.int .i64 0], .box zBar.cs, .box [.raw (.slice none 0 0)]]
      (fun r H => ∃ x ys, xs = x :: ys ∧ r = .bool true ∧ H = [.box [.view 9 (ys.map Bar.av)], .box [.int .i64 x.least], .box (zBar.joinB x).cs, .box [.slc 5 3 2], .dead, .arr 40 3 [x.lo.av, x.hi.av]]) := by
  refine ACalls.ghostB 3 0 40 3 (by omega) rfl rfl ?_
  refine (c50 xs 0 zBar [] (fun x h => ⟨⟨(hx x h).rows0, (hx x h).rows, (hx x h).least0, (hx x h).least⟩, (hx x h).most0, (hx x h).most⟩) (by omega) (by simp [zBar]) (by simp)).mono ?_
  rintro r H (⟨h1, _⟩ | ⟨x, ys, h1, h2, rfl, rfl⟩)
  · rw [takes_z hl] at h1; cases h1
  · exact ⟨x, ys, h1, rfl, by rw [Int.zero_add]; rfl⟩
/-- The loop of Merge, and what follows it. -/
theorem mergeLoop (N : FN) (hN : N.ro = none) (rows nulls : Int) (xs0 ys0 : List Bar) (hx0 : ∀ x ∈ xs0, BarOk x) (hy0 : ∀ x ∈ ys0, BarOk x) (hl0 : xs0.length + ys0.length ≤ 2048) :
    MF E.P 0 N 0 (tl (tl (tl (tl (tl mc19))))) (endQ E [.cell 4 33, .tmp 5] (keepQ 0 (fun r H => r = .tup [(Hist.mk rows nulls (mergeF xs0 ys0)).av, .int .i64 0] ∧ H = [])))
      ⟨[(4, .op 0 0), (5, .int .i64 0), (6, .op 1 0), (7, .op 2 0), (8, .op 3 0)], [.box [.int .i64 0, .int .i64 0, .raw (.slice none 0 0)], .box [.int .i64 rows, .int .i64 nulls, .slc 4 9 0], .box [.view 9 (xs0.map Bar.av)], .box [.view 9 (ys0.map Bar.av)], .arr 66 9 []]⟩ := by
  have hmax := maxLen_eq
  refine mf_last ?_
  unfold mc19
  simp only [tl, lA, ptrCells, ptrAdd, isNil, readsV, readsP, isCall, wrote, srcOf, seval]
  refine loop_i (fun x : Nat × List Bar × List Bar × List Bar => x.2.1.length + x.2.2.1.length ≤ x.1 ∧ x.1 + x.2.2.2.length ≤ 2048 ∧ (∀ y ∈ x.2.1, BarOk y) ∧ (∀ y ∈ x.2.2.1, BarOk y) ∧ x.2.2.2 ++ mergeC x.1 x.2.1 x.2.2.1 = mergeF xs0 ys0)
    (fun x => ⟨[(4, .op 0 0), (5, .int .i64 0), (6, .op 1 0), (7, .op 2 0), (8, .op 3 0)], [.box [.int .i64 0, .int .i64 0, .raw (.slice none 0 0)], .box [.int .i64 rows, .int .i64 nulls, .slc 4 9 x.2.2.2.length], .box [.view 9 (x.2.1.map Bar.av)], .box [.view 9 (x.2.2.1.map Bar.av)], .arr 66 9 (x.2.2.2.map Bar.av)]⟩)
    (fun x => x.1) (xs0.length + ys0.length, xs0, ys0, []) ⟨Nat.le_refl _, by simpa using hl0, hx0, hy0, rfl⟩ (Ent.to [0, 1, 2, 3, 4] false (by simp) (by simp) rfl (by simp only [lP, seval, List.map_nil, List.length_nil] <;> (try simp) <;> (try omega)) (by simp only [lP, seval, List.map_nil, List.length_nil] <;> (try simp) <;> (try omega))) ?_
  rintro ⟨n, xs, ys, out⟩ ⟨i1, i2, i3, i4, i5⟩
  simp only at i1 i2 i3 i4 i5 ⊢
  by_cases hz : xs.length + ys.length = 0
  · have hxl : xs.length = 0 := by omega
    have hyl : ys.length = 0 := by omega
    have hm0 : mergeC n xs ys = [] := by
      cases n with
      | zero => rfl
      | succ n => rw [mergeC, if_pos hz]
    rw [hm0, List.append_nil] at i5
    repeat' (first
     | (with_reducible apply St.o; constructor) <;> intro _
     | with_reducible first | refine LenR_i fun _ => ?_ | refine And.intro (by omega) ?_ | (apply Sp.o; constructor) | refine mkl_own ?_ | refine frz0_i ?_
     | simp (maxSteps := 1000000) (disch := omega) only [lE, ptrCells, ptrAdd, isNil, readsV, readsP, isCall, wrote, srcOf, seval, List.length_map, hxl, hyl, ti33, Int.lt_irrefl, decide_false])
    all_goals try (exfalso; omega)
    refine keepH_i (l := mergeF xs0 ys0) ?_ ⟨rfl, rfl⟩
    simp only [lP, seval, List.length_map, vw_bars, ← i5]
    exact .refl _
  · obtain ⟨n, rfl⟩ : ∃ q, n = q + 1 := ⟨n - 1, by omega⟩
    have hfx := firstX_eq xs ys
    have h43 := c43 (xs.getD 0 default).lo (ys.getD 0 default).lo
    simp only [vl_av] at h43
    repeat' (first
     | (with_reducible apply St.o; constructor) <;> intro _
     | with_reducible first | refine LenR_i fun _ => ?_ | refine And.intro (by omega) ?_ | (apply Sp.o; constructor) | refine mkl_own ?_ | refine frz0_i ?_
     | ((with_reducible apply Sc.o true; constructor); simp only [lP, seval, List.length_map, IdxR_bars, Int.toNat_zero]; refine ⟨_, h43, ?_⟩; rintro _ _ ⟨rfl, rfl⟩; simp only [lA, lP, ptrCells, ptrAdd, isNil, readsV, readsP, isCall, wrote, srcOf, seval, List.length_map, IdxR_bars, Int.toNat_zero])
     | with_reducible refine any_i [5, 9] ?_
     | simp (maxSteps := 1000000) (disch := omega) only [lE, ptrCells, ptrAdd, isNil, readsV, readsP, isCall, wrote, srcOf, seval, List.length_map, IdxR_bars, Int.toNat_zero])
    all_goals try (exfalso; omega)
    all_goals first
      | (refine callN_i [2, 7, 5, 6] false (by simp) (by simp) ?_
         simp only [lP, seval]
         refine ⟨_, c50z xs i3 (by omega), ?_⟩
         rintro _ _ ⟨x, xs', hxe, rfl, rfl⟩
         simp only [lA, lP, ptrCells, ptrAdd, isNil, readsV, readsP, isCall, wrote, srcOf, seval, ren_vl]
         obtain ⟨s, he, e1, e2, e3, e4, e5, e6, hq, hsz⟩ : ∃ s : MS, firstM xs ys = s ∧ s.bar = zBar.joinB x ∧ s.l = x.least ∧ s.r = 0 ∧ s.ends = [x.lo, x.hi] ∧ s.xs = xs' ∧ s.ys = ys ∧ MSz 1 s ∧ s.size + 1 = xs.length + ys.length := by
           refine ⟨(beginM xs ys).tookX x xs', ?_, rfl, ?_, rfl, rfl, rfl, rfl, msz_x (msz_begin i3 i4) hxe, ?_⟩
           · have hft : firstX xs ys = true := by
               rw [hfx]
               simp only [Bool.and_eq_true, Bool.or_eq_true, decide_eq_true_eq]
               omega
             rw [firstM, if_pos hft]
             subst hxe
             rfl
           · simp [MS.tookX, beginM]
           · rw [hxe]; simp [MS.size, MS.tookX, beginM]; omega)
      | (refine callN_i [3, 8, 5, 6] false (by simp) (by simp) ?_
         simp only [lP, seval]
         refine ⟨_, c50z ys i4 (by omega), ?_⟩
         rintro _ _ ⟨x, xs', hxe, rfl, rfl⟩
         simp only [lA, lP, ptrCells, ptrAdd, isNil, readsV, readsP, isCall, wrote, srcOf, seval, ren_vl]
         obtain ⟨s, he, e1, e2, e3, e4, e5, e6, hq, hsz⟩ : ∃ s : MS, firstM xs ys = s ∧ s.bar = zBar.joinB x ∧ s.l = 0 ∧ s.r = x.least ∧ s.ends = [x.lo, x.hi] ∧ s.xs = xs ∧ s.ys = xs' ∧ MSz 1 s ∧ s.size + 1 = xs.length + ys.length := by
           refine ⟨(beginM xs ys).tookY x xs', ?_, rfl, rfl, ?_, rfl, rfl, rfl, msz_y (msz_begin i3 i4) hxe, ?_⟩
           · have hft : ¬ firstX xs ys = true := by
               rw [hfx]
               simp only [Bool.and_eq_true, Bool.or_eq_true, decide_eq_true_eq]
               omega
             rw [firstM, if_neg hft]
             subst hxe
             rfl
           · simp [MS.tookY, beginM]
           · rw [hxe]; simp [MS.size, MS.tookY, beginM]; omega)
    all_goals
      repeat' (first
       | (with_reducible apply St.o; constructor) <;> intro _
       | with_reducible first | refine LenR_i fun _ => ?_ | refine And.intro (by omega) ?_ | (apply Sp.o; constructor) | refine mkl_own ?_ | refine frz0_i ?_
       | simp (maxSteps := 1000000) (disch := omega) only [lE, ptrCells, ptrAdd, isNil, readsV, readsP, isCall, wrote, srcOf, seval])
      refine loop_i (fun y : Nat × MS => MSz y.1 y.2 ∧ y.1 + y.2.size ≤ 2048 ∧ y.2.size ≤ s.size ∧ MS.run y.2.size y.2 = MS.run s.size s)
        (fun y => ⟨[(4, .op 0 0), (5, .int .i64 0), (6, .op 1 0), (7, .op 2 0), (8, .op 3 0), (9, .op 5 0), (10, .op 6 0), (11, .op 7 0), (12, .op 8 0), (13, .fn (.func 50) [] [.op 5 0, .op 6 0])],
          [.box [.int .i64 0, .int .i64 0, .raw (.slice none 0 0)], .box [.int .i64 rows, .int .i64 nulls, .slc 4 9 out.length], .box [.view 9 (y.2.xs.map Bar.av)], .box [.view 9 (y.2.ys.map Bar.av)], .arr 66 9 (out.map Bar.av), .box y.2.bar.cs, .box [.slc 9 3 y.2.ends.length], .box [.int .i64 y.2.l], .box [.int .i64 y.2.r], .arr 40 3 (y.2.ends.map VL.av)]⟩)
        (fun y => y.2.size) (1, s) ⟨hq, by simp only; omega, Nat.le_refl _, rfl⟩ (Ent.to [0, 1, 2, 3, 4, 5, 6, 7, 8, 10] false (by simp) (by simp) rfl (by simp only [lP, seval, e1, e2, e3, e4, e5, e6, List.map_cons, List.map_nil, List.length_cons, List.length_nil, pa_bars, pa_vls, pa_vl] <;> (try simp) <;> (try omega)) (by simp only [lP, seval, e1, e2, e3, e4, e5, e6, List.map_cons, List.map_nil, List.length_cons, List.length_nil, pa_bars, pa_vls, pa_vl] <;> (try simp) <;> (try omega))) ?_
      clear e1 e2 e3 e4 e5 e6 hq
      rintro ⟨q, t⟩ ⟨j1, j2, j4, j3⟩
      simp only at j1 j2 j3 j4 ⊢
      have b1 := j1.rows0
      have b2 := j1.rows
      have b3 := j1.most0
      have b4 := j1.most
      have b5 := j1.l0
      have b6 := j1.l
      have b7 := j1.r0
      have b8 := j1.r
      have b9 := j1.ends
      repeat' (first
       | (with_reducible apply St.o; constructor) <;> intro _
       | with_reducible first | refine LenR_i fun _ => ?_ | refine And.intro (by omega) ?_ | (apply Sp.o; constructor) | refine mkl_own ?_ | refine frz0_i ?_
       | simp (maxSteps := 1000000) (disch := omega) only [lE, ptrCells, ptrAdd, isNil, readsV, readsP, isCall, wrote, srcOf, seval])
      refine callN_i [2, 7, 5, 6, 9] false (by simp) (by simp) ?_
      simp only [lP, seval, pa_bars, pa_vls]
      refine ⟨_, c50 t.xs t.l t.bar t.ends (fun x h => ⟨⟨(j1.xs x h).rows0, (j1.xs x h).rows, (j1.xs x h).least0, (j1.xs x h).least⟩, (j1.xs x h).most0, (j1.xs x h).most⟩) (by omega) (by omega) (by omega), ?_⟩
      rintro _ _ (⟨tx, rfl, rfl⟩ | ⟨x1, zs, hxe1, tx, rfl, rfl⟩)
      · simp only [lA, lP, ptrCells, ptrAdd, isNil, readsV, readsP, isCall, wrote, srcOf, seval, renL_bars, renL_vls]
        repeat' (first
         | (with_reducible apply St.o; constructor) <;> intro _
         | with_reducible first | refine LenR_i fun _ => ?_ | refine And.intro (by omega) ?_ | (apply Sp.o; constructor) | refine mkl_own ?_ | refine frz0_i ?_
         | simp (maxSteps := 1000000) (disch := omega) only [lE, ptrCells, ptrAdd, isNil, readsV, readsP, isCall, wrote, srcOf, seval])
        refine callN_i [3, 8, 5, 6, 9] false (by simp) (by simp) ?_
        simp only [lP, seval, pa_bars, pa_vls]
        refine ⟨_, c50 t.ys t.r t.bar t.ends (fun x h => ⟨⟨(j1.ys x h).rows0, (j1.ys x h).rows, (j1.ys x h).least0, (j1.ys x h).least⟩, (j1.ys x h).most0, (j1.ys x h).most⟩) (by omega) (by omega) (by omega), ?_⟩
        rintro _ _ (⟨ty, rfl, rfl⟩ | ⟨y1, zs, hye1, ty, rfl, rfl⟩)
        · simp only [lA, lP, ptrCells, ptrAdd, isNil, readsV, readsP, isCall, wrote, srcOf, seval, renL_bars, renL_vls]
          repeat' (first
           | (with_reducible apply St.o; constructor) <;> intro _
           | with_reducible first | refine LenR_i fun _ => ?_ | refine And.intro (by omega) ?_ | (apply Sp.o; constructor) | refine mkl_own ?_ | refine frz0_i ?_
           | simp (maxSteps := 1000000) (disch := omega) only [lE, ptrCells, ptrAdd, isNil, readsV, readsP, isCall, wrote, srcOf, seval])
          have hrun : MS.run s.size s = t := by rw [← j3]; exact MS.run_none (MS.step_no tx ty)
          rw [mergeC, if_neg hz, he, hrun] at i5
          have hts : t.xs.length + t.ys.length ≤ n := by
            have : t.xs.length + t.ys.length = t.size := rfl
            omega
          have hfin : t.fin = if t.bar.lo = t.bar.hi then ⟨t.bar.lo, t.bar.hi, t.bar.rows, 1, 1⟩ else ⟨t.bar.lo, t.bar.hi, t.bar.rows, max (max t.l t.r) ((diffV t.ends).length : Int), min t.bar.most t.bar.rows⟩ := rfl
          refine callN_i [9] false (by simp) (by simp) ?_
          simp only [lP, seval, pa_vls]
          refine ⟨_, c44' t.ends (by omega), ?_⟩
          rintro _ _ ⟨rfl, sv, hs1, hs2, rfl⟩
          simp only [lA, lP, ptrCells, ptrAdd, isNil, readsV, readsP, isCall, wrote, srcOf, seval, renL_vls]
          have hsl := hs1.length_eq
          have hcn := cmpN_sorted j1.eright hs2 hs1
          have hdl := diffV_le t.ends []
          rw [show t.ends.foldl withV [] = diffV t.ends from rfl] at hdl
          simp only [List.length_nil] at hdl
          rw [← hcn] at hfin hdl
          repeat' (first
           | (with_reducible apply St.o; constructor) <;> intro _
           | with_reducible first | refine LenR_i fun _ => ?_ | refine And.intro (by omega) ?_ | (apply Sp.o; constructor) | refine mkl_own ?_ | refine frz0_i ?_
           | with_reducible refine any_i [5, 9] ?_
           | simp (maxSteps := 1000000) (disch := omega) only [lE, ptrCells, ptrAdd, isNil, readsV, readsP, isCall, wrote, srcOf, seval])
          refine acallI_i [9] false (by simp) (by simp) (by simp) ?_
          simp only [lP, seval, pa_vls, ← hsl]
          refine ⟨_, c52 sv (by omega), ?_⟩
          rintro _ _ ⟨av, hav, rfl, hr2⟩
          have h49 : ∀ l m : Int, ACalls E.P 49 [.agg [.int .i64 t.bar.lo.k, .int .i64 t.bar.lo.n, .str t.bar.lo.s, .int .i64 t.bar.hi.k, .int .i64 t.bar.hi.n, .str t.bar.hi.s, .int .i64 t.bar.rows, .int .i64 l, .int .i64 m]] [] (fun r H => r = .bool (decide (t.bar.lo = t.bar.hi)) ∧ H = []) := fun l m => c49 ⟨t.bar.lo, t.bar.hi, t.bar.rows, l, m⟩
          rcases hr2 with rfl | rfl
          all_goals
            simp only [lA, lP, ptrCells, ptrAdd, isNil, readsV, readsP, isCall, wrote, srcOf, seval, renL_vls]
            repeat' (first
             | (with_reducible apply St.o; constructor) <;> intro _
             | with_reducible first | refine LenR_i fun _ => ?_ | refine And.intro (by omega) ?_ | (apply Sp.o; constructor) | refine mkl_own ?_ | refine frz0_i ?_
             | ((with_reducible apply Sc.o true; constructor); simp only [lP, seval, mem59a, mem59b, fillE, List.length_cons, List.length_nil]; refine ⟨_, h49 _ _, ?_⟩; rintro _ _ ⟨rfl, rfl⟩; simp only [lA, lP, ptrCells, ptrAdd, isNil, readsV, readsP, isCall, wrote, srcOf, seval, mem59a, mem59b, fillE, List.length_cons, List.length_nil])
             | simp (maxSteps := 1000000) (disch := omega) only [lE, ptrCells, ptrAdd, isNil, readsV, readsP, isCall, wrote, srcOf, seval, mem59a, mem59b, fillE, List.length_cons, List.length_nil])
            · rename_i hq1
              have hf1 : t.fin = ⟨t.bar.lo, t.bar.hi, t.bar.rows, 1, 1⟩ := by rw [hfin, if_pos hq1]
              exact back_i (n, t.xs, t.ys, out ++ [t.fin]) ⟨hts, by simp only [List.length_append, List.length_cons, List.length_nil]; omega, j1.xs, j1.ys, by rw [List.append_assoc]; exact i5⟩ (by simp only; omega) (Ent.to [0, 1, 2, 3, 11] false (by simp) (by simp) rfl (by simp only [lP, seval, hf1, List.length_append, List.length_cons, List.length_nil, List.map_append, List.map_cons, List.map_nil, pa_bars, bar_av, pa_agg] <;> (try simp) <;> (try omega)) (by simp only [lP, seval, hf1, List.length_append, List.length_cons, List.length_nil, List.map_append, List.map_cons, List.map_nil, pa_bars, bar_av, pa_agg] <;> (try simp) <;> (try omega)))
            · rename_i hq1
              have hf1 : t.fin = ⟨t.bar.lo, t.bar.hi, t.bar.rows, if (cmpN sv : Int) > if t.r > t.l then t.r else t.l then (cmpN sv : Int) else if t.r > t.l then t.r else t.l, if t.bar.rows < t.bar.most then t.bar.rows else t.bar.most⟩ := by
                rw [hfin, if_neg hq1, Bar.mk.injEq]
                refine ⟨rfl, rfl, rfl, ?_, ?_⟩
                · (repeat' split) <;> omega
                · split <;> omega
              exact back_i (n, t.xs, t.ys, out ++ [t.fin]) ⟨hts, by simp only [List.length_append, List.length_cons, List.length_nil]; omega, j1.xs, j1.ys, by rw [List.append_assoc]; exact i5⟩ (by simp only; omega) (Ent.to [0, 1, 2, 3, 11] false (by simp) (by simp) rfl (by simp only [lP, seval, hf1, List.length_append, List.length_cons, List.length_nil, List.map_append, List.map_cons, List.map_nil, pa_bars, bar_av, pa_agg] <;> (try simp) <;> (try omega)) (by simp only [lP, seval, hf1, List.length_append, List.length_cons, List.length_nil, List.map_append, List.map_cons, List.map_nil, pa_bars, bar_av, pa_agg] <;> (try simp) <;> (try omega)))
        · simp only [lA, lP, ptrCells, ptrAdd, isNil, readsV, readsP, isCall, wrote, srcOf, seval, renL_bars, renL_vls]
          repeat' (first
           | (with_reducible apply St.o; constructor) <;> intro _
           | with_reducible first | refine LenR_i fun _ => ?_ | refine And.intro (by omega) ?_ | (apply Sp.o; constructor) | refine mkl_own ?_ | refine frz0_i ?_
           | simp (maxSteps := 1000000) (disch := omega) only [lE, ptrCells, ptrAdd, isNil, readsV, readsP, isCall, wrote, srcOf, seval])
          have hst := MS.step_y hye1 tx ty
          refine back_i (q + 1, t.tookY y1 zs) ⟨msz_y j1 hye1, by simp only; omega, by simp only; omega, (MS.run_some hst).symm.trans j3⟩ (by simp only; omega) (Ent.to [0, 1, 2, 3, 4, 5, 6, 7, 8, 10] false (by simp) (by simp) rfl (by simp only [lP, seval, MS.tookY, List.length_append, List.length_cons, List.length_nil, pa_bars, pa_vls] <;> (try simp) <;> (try omega)) (by simp only [lP, seval, MS.tookY, List.length_append, List.length_cons, List.length_nil, pa_bars, pa_vls] <;> (try simp) <;> (try omega)))
      · simp only [lA, lP, ptrCells, ptrAdd, isNil, readsV, readsP, isCall, wrote, srcOf, seval, renL_bars, renL_vls]
        repeat' (first
         | (with_reducible apply St.o; constructor) <;> intro _
         | with_reducible first | refine LenR_i fun _ => ?_ | refine And.intro (by omega) ?_ | (apply Sp.o; constructor) | refine mkl_own ?_ | refine frz0_i ?_
         | simp (maxSteps := 1000000) (disch := omega) only [lE, ptrCells, ptrAdd, isNil, readsV, readsP, isCall, wrote, srcOf, seval])
        have hst := MS.step_x hxe1 tx
        refine back_i (q + 1, t.tookX x1 zs) ⟨msz_x j1 hxe1, by simp only; omega, by simp only; omega, (MS.run_some hst).symm.trans j3⟩ (by simp only; omega) (Ent.to [0, 1, 2, 3, 4, 5, 6, 7, 8, 10] false (by simp) (by simp) rfl (by simp only [lP, seval, MS.tookX, List.length_append, List.length_cons, List.length_nil, pa_bars, pa_vls] <;> (try simp) <;> (try omega)) (by simp only [lP, seval, MS.tookX, List.length_append, List.length_cons, List.length_nil, pa_bars, pa_vls] <;> (try simp) <;> (try omega)))
end Go.Proofs.Try
