/-
  For the histograms: Check, Distinct, Merge, Join and Estimate return what the specification defines, whatever the histograms and the range.
-/
import Derived.Test.YtlokeliagcaepaaEaud
import Derived.Test.YtlokeliagcaepaaEap
import Derived.Test.YtlokeliagcaepaaPas
import Derived.Test.YtlokeliagcaepaaReads
import Derived.Test.YtlokeliagcaepaaRows
set_option linter.unusedSimpArgs false
set_option linter.unusedVariables false
namespace Go.Proofs.Try
open Go.Al
set_option maxRecDepth 100000
/-- alum/alumlaw39.StatsHistogramsMatchSpec -/
def mc4 : MC :=
 (.seq (.ops [(none, (.e (.box 3 (.t 0)))),
 (none, (.e (.box 4 (.t 1)))),
 (none, (.e (.box 5 (.t 2)))),
 (none, (.v (.mov 6 (.c (.bool false)))))])
 (.seq (.seq (.ops [(none, (.v (.fld 14 2 (.t 3)))),
 (none, (.v (.load 15 false 1 (.t 14)))),
 (none, (.p (.len 16 (.t 15)))),
 (none, (.v (.bin 17 .gtr false (.t 16) (.c (.int .i64 40))))),
 (none, (.v (.mov 18 (.t 17)))),
 ((some (18, false)), (.v (.fld 19 2 (.t 4)))),
 ((some (18, false)), (.v (.load 20 false 1 (.t 19)))),
 ((some (18, false)), (.p (.len 21 (.t 20)))),
 ((some (18, false)), (.v (.bin 22 .gtr false (.t 21) (.c (.int .i64 40))))),
 (none, (.v (.pick 23 (.t 18) (.c (.bool true)) (.t 22))))])
 (.cond 23
 (.seq (.ops [(none, (.e (.call (some 24) 10 []))),
 (none, (.v (.mov 6 (.t 24))))])
 .ret)
 .skip))
 (.seq (.ops [(none, (.v (.load 25 true 3 (.t 3)))),
 (none, (.e (.call (some 26) 17 [(.t 25)]))),
 (none, (.v (.mov 7 (.t 26))))])
 (.seq (.ops [(none, (.v (.load 27 true 3 (.t 4)))),
 (none, (.e (.call (some 28) 17 [(.t 27)]))),
 (none, (.v (.mov 8 (.t 28))))])
 (.seq (.seq (.ops [(none, (.v (.load 29 true 3 (.t 3)))),
 (none, (.e (.call (some 30) 18 [(.t 29)]))),
 (none, (.v (.mov 31 (.t 7)))),
 (none, (.v (.bin 32 .neq false (.t 30) (.t 31)))),
 (none, (.v (.mov 33 (.t 32)))),
 ((some (33, false)), (.v (.load 34 true 3 (.t 4)))),
 ((some (33, false)), (.e (.call (some 35) 18 [(.t 34)]))),
 ((some (33, false)), (.v (.mov 36 (.t 8)))),
 ((some (33, false)), (.v (.bin 37 .neq false (.t 35) (.t 36)))),
 (none, (.v (.pick 38 (.t 33) (.c (.bool true)) (.t 37))))])
 (.cond 38
 (.seq (.ops [(none, (.v (.mov 6 (.c (.bool false)))))])
 .ret)
 .skip))
 (.seq (.seq (.ops [(none, (.v (.mov 39 (.t 7)))),
 (none, (.v (.bin 40 .neq false (.t 39) (.c (.int .i64 0))))),
 (none, (.v (.mov 41 (.t 40)))),
 ((some (41, false)), (.v (.mov 42 (.t 8)))),
 ((some (41, false)), (.v (.bin 43 .neq false (.t 42) (.c (.int .i64 0))))),
 (none, (.v (.pick 44 (.t 41) (.c (.bool true)) (.t 43))))])
 (.cond 44
 (.seq (.ops [(none, (.e (.call (some 45) 10 []))),
 (none, (.v (.mov 6 (.t 45))))])
 .ret)
 .skip))
 (.seq (.ops [(none, (.v (.load 47 true 3 (.t 3)))),
 (none, (.v (.load 48 true 3 (.t 4)))),
 (none, (.e (.call (some 49) 19 [(.t 47), (.t 48)]))),
 (none, (.v (.mov 46 (.t 49)))),
 (none, (.v (.ext 50 0 (.t 46)))),
 (none, (.v (.ext 51 1 (.t 46)))),
 (none, (.e (.alloc 9 [(.int .i64 0), (.int .i64 0), (.raw (.slice none 0 0))]))),
 (none, (.e (.store 3 true (.t 9) (.t 50)))),
 (none, (.v (.mov 10 (.t 51))))])
 (.seq (.ops [(none, (.v (.load 53 true 3 (.t 3)))),
 (none, (.v (.load 54 true 3 (.t 4)))),
 (none, (.e (.call (some 55) 20 [(.t 53), (.t 54)]))),
 (none, (.v (.mov 52 (.t 55)))),
 (none, (.v (.ext 56 0 (.t 52)))),
 (none, (.v (.ext 57 1 (.t 52)))),
 (none, (.e (.alloc 11 [(.int .i64 0), (.int .i64 0), (.raw (.slice none 0 0))]))),
 (none, (.e (.store 3 true (.t 11) (.t 56)))),
 (none, (.v (.mov 12 (.t 57))))])
 (.seq (.seq (.any false (.pure0 none (.v (.load 58 true 3 (.t 9)))
 (.pure0 none (.v (.load 59 true 3 (.t 11)))
 (.alt none (.e (.call (some 60) 16 [(.t 58), (.t 59)]))
 (.base (.pure0 none (.v (.not 61 (.t 60)))
 (.pure0 none (.v (.mov 62 (.t 61)))
 (.pure0 (some (62, false)) (.v (.mov 63 (.t 10)))
 (.pure0 (some (62, false)) (.v (.mov 64 (.t 12)))
 (.pure0 (some (62, false)) (.v (.bin 65 .neq false (.t 63) (.t 64)))
 (.pure0 none (.v (.pick 66 (.t 62) (.c (.bool true)) (.t 65)))
 (.pure0 none (.v (.mov 67 (.t 66)))
 (.pure0 (some (67, false)) (.v (.load 68 true 3 (.t 3)))
 (.pure0 (some (67, false)) (.v (.load 73 true 3 (.t 3)))
 (.alt (some (67, false)) (.e (.call (some 69) 22 [(.t 68)]))
 (.base (.pure0 (some (67, false)) (.v (.ext 70 0 (.t 69)))
 (.pure0 (some (67, false)) (.v (.ext 71 1 (.t 69)))
 (.alt (some (67, false)) (.e (.call (some 72) 21 [(.t 70), (.t 71)]))
 (.base (.alt (some (67, false)) (.e (.call (some 74) 23 [(.t 73)]))
 (.base (.pure0 (some (67, false)) (.v (.eq 75 true (.agg [(0, false, 1, .int), (1, false, 1, .int)]) (.t 72) (.t 74)))
 (.pure0 none (.v (.pick 76 (.t 67) (.c (.bool true)) (.t 75)))
 (.pure0 none (.v (.mov 77 (.t 76)))
 (.pure0 (some (77, false)) (.v (.load 78 true 3 (.t 3)))
 (.pure0 (some (77, false)) (.v (.load 79 true 3 (.t 4)))
 (.pure0 (some (77, false)) (.v (.load 84 true 3 (.t 3)))
 (.pure0 (some (77, false)) (.v (.load 85 true 3 (.t 4)))
 (.alt (some (77, false)) (.e (.call (some 80) 24 [(.t 78), (.t 79)]))
 (.base (.pure0 (some (77, false)) (.v (.ext 81 0 (.t 80)))
 (.pure0 (some (77, false)) (.v (.ext 82 1 (.t 80)))
 (.alt (some (77, false)) (.e (.call (some 83) 21 [(.t 81), (.t 82)]))
 (.base (.alt (some (77, false)) (.e (.call (some 86) 25 [(.t 84), (.t 85)]))
 (.base (.pure0 (some (77, false)) (.v (.eq 87 true (.agg [(0, false, 1, .int), (1, false, 1, .int)]) (.t 83) (.t 86)))
 (.pure0 none (.v (.pick 88 (.t 77) (.c (.bool true)) (.t 87)))
 .done)))
 .stop))
 .stop))))
 .stop)))))))))
 .stop))
 .stop))))
 .stop)))))))))))
 .stop))))
 (.cond 88
 (.seq (.ops [(none, (.v (.mov 6 (.c (.bool false)))))])
 .ret)
 .skip))
 (.seq (.ops [(none, (.v (.load 89 true 11 (.t 5)))),
 (none, (.e (.call (some 90) 26 [(.t 89)]))),
 (none, (.v (.mov 13 (.t 90))))])
 (.seq (.any false (.alt none (.e (.call (some 91) 10 []))
 (.base (.pure0 none (.v (.mov 92 (.t 91)))
 (.pure0 (some (92, true)) (.v (.mov 93 (.t 13)))
 (.pure0 (some (92, true)) (.v (.not 94 (.t 93)))
 (.pure0 (some (92, true)) (.v (.mov 95 (.t 94)))
 (.pure0 (some (95, false)) (.v (.load 96 true 3 (.t 3)))
 (.pure0 (some (95, false)) (.v (.load 97 true 11 (.t 5)))
 (.pure0 (some (95, false)) (.v (.load 102 true 3 (.t 3)))
 (.pure0 (some (95, false)) (.v (.load 103 true 11 (.t 5)))
 (.alt (some (95, false)) (.e (.call (some 98) 27 [(.t 96), (.t 97)]))
 (.base (.pure0 (some (95, false)) (.v (.ext 99 0 (.t 98)))
 (.pure0 (some (95, false)) (.v (.ext 100 1 (.t 98)))
 (.alt (some (95, false)) (.e (.call (some 101) 21 [(.t 99), (.t 100)]))
 (.base (.alt (some (95, false)) (.e (.call (some 104) 28 [(.t 102), (.t 103)]))
 (.base (.pure0 (some (95, false)) (.v (.eq 105 false (.agg [(0, false, 1, .int), (1, false, 1, .int)]) (.t 101) (.t 104)))
 (.pure0 (some (92, true)) (.v (.pick 106 (.t 95) (.c (.bool true)) (.t 105)))
 (.pure0 none (.v (.pick 107 (.t 92) (.t 106) (.c (.bool false))))
 (.pure0 none (.v (.mov 6 (.t 107)))
 .done)))))
 .stop))
 .stop))))
 .stop))))))))))
 .stop))
 .ret)))))))))))
theorem ok4 : FnOk E 4 108 [.tmp 6] mc4 := .of func4 (by kernel_rfl) (by kernel_rfl) (by kernel_rfl) (by kernel_rfl) (by kernel_rfl)
end Go.Proofs.Try
namespace Go.Proofs.Try
open Go.Al
set_option linter.unusedVariables false
set_option linter.unusedSimpArgs false
set_option maxRecDepth 20000
set_option maxHeartbeats 8000000
theorem c4 (a b : Hist) (x : RG) (ha : ∀ x ∈ a.bars, x.inR) (hb : ∀ x ∈ b.bars, x.inR) : ACalls E.P 4 [a.av, b.av, x.av] [] (fun r H => r = .bool true ∧ H = []) := by
  have hmax := maxLen_eq
  have h10 := c10
  have h18a := c18 a ha
  have h18b := c18 b hb
  have h17a := c17 a fun x h => (ha x h).2.2.1
  have h17b := c17 b fun x h => (hb x h).2.2.1
  have h26 := c26 x
  have h21 := c21
  rw [chk_eq] at h18a h18b
  by_cases hl : a.bars.length ≤ 40 ∧ b.bars.length ≤ 40
  · obtain ⟨hl1, hl2⟩ := hl
    by_cases hcc : a.chk19 = true ∧ b.chk19 = true
    · obtain ⟨hoa, hob⟩ := hcc
      have ka := hok ((chk_eq a).trans hoa)
      have kb := hok ((chk_eq b).trans hob)
      rw [hoa, show Hist.err true = 0 from rfl] at h18a h17a
      rw [hob, show Hist.err true = 0 from rfl] at h18b h17b
      have ba : ∀ x ∈ a.bars, BarOk x := fun x h => ka.ok h
      have bb : ∀ x ∈ b.bars, BarOk x := fun x h => kb.ok h
      have ra : 0 ≤ a.rows ∧ a.rows ≤ 16777216 ∧ 0 ≤ a.nulls ∧ a.nulls ≤ 16777216 := ⟨ka.rows0, ka.rows, ka.nulls0, by have := ka.nulls; have := ka.rows; omega⟩
      have rb : 0 ≤ b.rows ∧ b.rows ≤ 16777216 ∧ 0 ≤ b.nulls ∧ b.nulls ≤ 16777216 := ⟨kb.rows0, kb.rows, kb.nulls0, by have := kb.nulls; have := kb.rows; omega⟩
      have h19 := c19 a b ba bb ra rb (by omega) (by omega)
      rw [merge_law ka kb] at h19
      have h20 := c20 a b ba bb ra rb (by omega) (by omega)
      have h16 := c16 (mergeH mergeR a b).1 (mergeH mergeR a b).1
      rw [decide_eq_true rfl] at h16
      have sa : ∀ x ∈ a.bars, x.small := fun x h => (ba x h).small
      have sb : ∀ x ∈ b.bars, x.small := fun x h => (bb x h).small
      have h22 := c22 a ⟨fun x h => ⟨(ba x h).least0, (ba x h).least, (ba x h).most0, (ba x h).most⟩, by omega⟩
      have h23 := c23 a ⟨fun x h => ⟨(ba x h).least0, (ba x h).least, (ba x h).most0, (ba x h).most⟩, by omega⟩
      have h24 := c24 a b sa sb (by omega) (by omega)
      have h25 := c25 a b sa sb (by omega) (by omega)
      rw [join_law ka kb] at h24
      have h27 := c27 a x sa (by omega)
      have h28 := c28 a x sa (by omega)
      have he : x.rt = true → a.est x = a.est19 x := fun hr => est_law ka hr
      clear ka kb ba bb sa sb hoa hob
      generalize mergeH mergeR a b = m at *
      generalize joinAll joinR a.bars b.bars = j at *
      generalize a.est x = e1 at *
      generalize a.est19 x = e2 at *
      generalize x.rt = rt at *
      generalize leastSum a.bars = ls at *
      generalize mostSum a.bars = ms at *
      obtain ⟨⟨m1, m2, m3⟩, m4⟩ := m
      obtain ⟨a1, a2, a3⟩ := a
      obtain ⟨b1, b2, b3⟩ := b
      obtain ⟨x1, x2, x3, x4, x5, x6, x7⟩ := x
      obtain ⟨e11, e12⟩ := e1
      obtain ⟨e21, e22⟩ := e2
      obtain ⟨j1, j2⟩ := j
      simp only [hist_av, rg_av] at *
      refine ok4.acalls hE hm (by simp) fun N hN => ?_
      unfold mc4
      simp only [lA, ptrCells, ptrAdd, isNil, readsV, readsP, isCall, wrote, srcOf, seval]
      repeat' (first
       | (with_reducible apply St.o; constructor) <;> intro _
       | with_reducible first | refine LenR_i fun _ => ?_ | refine And.intro (by omega) ?_ | (apply Sp.o; constructor) | refine mkl_own ?_ | refine frz0_i ?_ | refine any_i [] ?_
       | ((with_reducible apply Sc.o true; constructor); simp only [lP, seval, List.length_map, ti33]; (first | refine ⟨_, h17a, ?_⟩ | refine ⟨_, h17b, ?_⟩ | refine ⟨_, h18a, ?_⟩ | refine ⟨_, h18b, ?_⟩ | refine ⟨_, h16, ?_⟩ | refine ⟨_, h21 _ _, ?_⟩ | refine ⟨_, h22, ?_⟩ | refine ⟨_, h23, ?_⟩ | refine ⟨_, h24, ?_⟩ | refine ⟨_, h25, ?_⟩ | refine ⟨_, h26, ?_⟩ | refine ⟨_, h27, ?_⟩ | refine ⟨_, h28, ?_⟩ | refine ⟨_, h10, ?_⟩); rintro _ _ ⟨rfl, rfl⟩; simp only [lA, lP, ptrCells, ptrAdd, isNil, readsV, readsP, isCall, wrote, srcOf, seval, List.length_map, ti33])
       | ((with_reducible apply Sc.o false; constructor); simp only [lP, seval, List.length_map, ti33]; (first | refine ⟨_, h19, ?_⟩ | refine ⟨_, h20, ?_⟩); rintro _ _ ⟨rfl, rfl⟩; simp only [lA, lP, ptrCells, ptrAdd, isNil, readsV, readsP, isCall, wrote, srcOf, seval, List.length_map, ti33])
       | simp (maxSteps := 1000000) (disch := omega) only [lE, ptrCells, ptrAdd, isNil, readsV, readsP, isCall, wrote, srcOf, seval, List.length_map, ti33])
      · exact keep0_i ⟨rfl, rfl⟩
      · rename_i hq
        obtain ⟨g1, g2⟩ := Prod.mk.inj (he (by simpa using hq))
        refine keep0_i ⟨?_, rfl⟩
        simp only [g1, g2, decide_true, Bool.and_self]
        rfl
      · exact keep0_i ⟨rfl, rfl⟩
      · exact keep0_i ⟨rfl, rfl⟩
    · have he : ∀ q : Bool, (Hist.err q = 0) = (q = true) := fun q => by cases q <;> simp [Hist.err]
      obtain ⟨a1, a2, a3⟩ := a
      obtain ⟨b1, b2, b3⟩ := b
      obtain ⟨x1, x2, x3, x4, x5, x6, x7⟩ := x
      simp only at hl1 hl2
      generalize Hist.chk19 ⟨a1, a2, a3⟩ = qa at *
      generalize Hist.chk19 ⟨b1, b2, b3⟩ = qb at *
      simp only [hist_av, rg_av] at *
      refine ok4.acalls hE hm (by simp) fun N hN => ?_
      unfold mc4
      simp only [lA, ptrCells, ptrAdd, isNil, readsV, readsP, isCall, wrote, srcOf, seval]
      repeat' (first
       | (with_reducible apply St.o; constructor) <;> intro _
       | with_reducible first | refine LenR_i fun _ => ?_ | refine And.intro (by omega) ?_ | (apply Sp.o; constructor) | refine mkl_own ?_ | refine frz0_i ?_
       | ((with_reducible apply Sc.o true; constructor); simp only [lP, seval, List.length_map]; (first | refine ⟨_, h17a, ?_⟩ | refine ⟨_, h17b, ?_⟩ | refine ⟨_, h18a, ?_⟩ | refine ⟨_, h18b, ?_⟩ | refine ⟨_, h10, ?_⟩); rintro _ _ ⟨rfl, rfl⟩; simp only [lA, lP, ptrCells, ptrAdd, isNil, readsV, readsP, isCall, wrote, srcOf, seval, List.length_map])
       | simp (maxSteps := 1000000) (disch := omega) only [lE, ptrCells, ptrAdd, isNil, readsV, readsP, isCall, wrote, srcOf, seval, List.length_map])
      all_goals first
        | exact keep0_i ⟨rfl, rfl⟩
        | (exfalso; simp only [he] at *; exact hcc ⟨by assumption, by assumption⟩)
        | (exfalso; omega)
        | skip
  · obtain ⟨a1, a2, a3⟩ := a
    obtain ⟨b1, b2, b3⟩ := b
    obtain ⟨x1, x2, x3, x4, x5, x6, x7⟩ := x
    simp only [hist_av, rg_av] at *
    refine ok4.acalls hE hm (by simp) fun N hN => ?_
    unfold mc4
    simp only [lA, ptrCells, ptrAdd, isNil, readsV, readsP, isCall, wrote, srcOf, seval]
    repeat' (first
     | (with_reducible apply St.o; constructor) <;> intro _
     | with_reducible first | refine LenR_i fun _ => ?_ | refine And.intro (by omega) ?_ | (apply Sp.o; constructor) | refine mkl_own ?_ | refine frz0_i ?_
     | ((with_reducible apply Sc.o true; constructor); simp only [lP, seval, List.length_map]; (first | refine ⟨_, h17a, ?_⟩ | refine ⟨_, h10, ?_⟩); rintro _ _ ⟨rfl, rfl⟩; simp only [lA, lP, ptrCells, ptrAdd, isNil, readsV, readsP, isCall, wrote, srcOf, seval, List.length_map])
     | simp (maxSteps := 1000000) (disch := omega) only [lE, ptrCells, ptrAdd, isNil, readsV, readsP, isCall, wrote, srcOf, seval, List.length_map])
    all_goals first
      | exact keep0_i ⟨rfl, rfl⟩
      | (exfalso; omega)
end Go.Proofs.Try


namespace Go.Proofs.Ytlokeliagcaepaa
open Go.Al Go.Proofs.Try
open Go.ChangeShapes Go.WideShapes Go.ChangeAt Go.RowKit
set_option linter.unusedVariables false
set_option maxRecDepth 100000 in
theorem lifted4 (os : Os) (started : os.Started) (H : Type) (enc : TypeId × Value → H) :
    ReturnsInHanded {} Try.checked os 4 .any (Rows.statsHistogramsMatchSpecSpec.pre6 enc Try.prog Try.f4 Rows.statsHistogramsMatchSpecRow.domain false) (Rows.statsHistogramsMatchSpecSpec.post enc Try.prog Try.f4 false true false false) := by
  refine returnsInHanded_of_change (C := Try.checked) own started (by kernel_rfl) Try.func4
    (ChangeSpec.witness6 (enc := enc) (C := Try.checked) false ⟨#[], #[.agg #[.int .i64 0, .int .i64 0, .slice none 0 0], .agg #[.int .i64 0, .int .i64 0, .slice none 0 0], .agg #[.bool false, .bool false, .bool false, .int .i64 0, .int .i64 0, .string ByteArray.empty, .int .i64 0, .int .i64 0, .string ByteArray.empty, .bool false, .bool false]], []⟩ 8 (by kernel_rfl) (by kernel_rfl) (by kernel_rfl) (by kernel_rfl)) ?_
  intro W base args ds gs before hval hW _ _
  exact contract_of hE kids full (s := Rows.statsHistogramsMatchSpecSpec) (tb := 4) (by rw [Try.params4]; decide +kernel) (by rw [Try.params4]; exact reads_cons rv33 (reads_cons rv33 (reads_cons rv42 (reads_nil)))) (by rintro _ ⟨a, _, ha, ⟨b, _, hb, ⟨c, _, hc, rfl, rfl⟩, rfl⟩, rfl⟩; exact c4 a b c ha.2.2 hb.2.2) rfl
    (by rw [Try.params4]; rintro H (_ | ⟨d0, (_ | ⟨d1, (_ | ⟨d2, (_ | ⟨dz, ds⟩)⟩)⟩)⟩) hl <;> simp at hl; exact ⟨rfl, rfl, rfl⟩) (by kernel_rfl) (by kernel_rfl) H enc W base args ds gs before (glob_ok _) hval hW
theorem statsHistogramsMatchSpec_holds : Rows.StatsHistogramsMatchSpecSaid :=
  OpenClaim.holds_of_wide 4 Try.f4 rfl rfl rfl rfl rfl rfl rfl ⟨rfl, rfl, rfl, rfl, rfl⟩ rfl rfl rfl rfl rfl (by kernel_rfl) Try.func4 (by kernel_rfl)
    (of_decide_eq_true (by kernel_rfl)) (by unfold Func.isWrapper; first | (rw [if_pos (by decide +kernel)]; kernel_rfl) | (rw [if_neg (by decide +kernel)]; exact ⟨rfl, rfl⟩))
    (fun os started H enc _ => lifted4 os started H enc)
end Go.Proofs.Ytlokeliagcaepaa
