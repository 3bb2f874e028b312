/-
  A part of the proof: see the text of the law.
-/
import Derived.Test.YtlokeliagcaepaaEaq
import Derived.Test.YtlokeliagcaepaaPab
set_option linter.unusedSimpArgs false
set_option linter.unusedVariables false
namespace Go.Proofs.Try
open Go.Al
set_option maxRecDepth 100000
/-- alum/alumref39.Histogram -/
def mc14 : MC :=
 (.seq (.ops [(none, (.e (.alloc 6 [(.int .i64 0), (.int .i64 0), (.raw (.slice none 0 0))]))),
 (none, (.v (.mov 7 (.c (.int .i64 0)))))])
 (.seq (.seq (.ops [(none, (.v (.mov 8 (.c (.int .i64 0)))))])
 (.block 0 (.loop (.seq (.seq (.ops [(none, (.v (.mov 16 (.t 8)))),
 (none, (.v (.mov 17 (.t 0)))),
 (none, (.p (.len 18 (.t 17)))),
 (none, (.v (.bin 19 .lss false (.t 16) (.t 18))))])
 (.cond 19
 .skip
 (.exit 0)))
 (.seq (.block 1 (.seq (.ops [(none, (.v (.mov 22 (.t 1)))),
 (none, (.v (.bin 23 .lss false (.t 22) (.c (.int .i64 0))))),
 (none, (.v (.mov 24 (.t 23)))),
 ((some (24, false)), (.v (.mov 25 (.t 1)))),
 ((some (24, false)), (.v (.mov 26 (.t 0)))),
 ((some (24, false)), (.v (.mov 27 (.t 8)))),
 ((some (24, false)), (.p (.idx 28 1 (.t 26) (.t 27)))),
 ((some (24, false)), (.v (.load 29 false 1 (.t 28)))),
 ((some (24, false)), (.p (.len 30 (.t 29)))),
 ((some (24, false)), (.v (.bin 31 .geq false (.t 25) (.t 30)))),
 (none, (.v (.pick 32 (.t 24) (.c (.bool true)) (.t 31))))])
 (.cond 32
 (.seq (.ops [(none, (.v (.build 33 [(.int .i64 0), (.int .i64 0), (.raw (.slice none 0 0))] []))),
 (none, (.e (.store 3 true (.t 6) (.t 33)))),
 (none, (.v (.mov 7 (.c (.int .i64 1)))))])
 .ret)
 .skip)))
 (.ops [(none, (.v (.mov 20 (.t 8)))),
 (none, (.v (.bin 21 .add false (.t 20) (.c (.int .i64 1))))),
 (none, (.v (.mov 8 (.t 21))))]))))))
 (.seq (.seq (.ops [(none, (.v (.mov 34 (.t 2)))),
 (none, (.v (.bin 35 .lss false (.t 34) (.c (.int .i64 1))))),
 (none, (.v (.mov 36 (.t 35)))),
 ((some (36, false)), (.v (.mov 37 (.t 2)))),
 ((some (36, false)), (.v (.bin 38 .gtr false (.t 37) (.c (.int .i64 100))))),
 (none, (.v (.pick 39 (.t 36) (.c (.bool true)) (.t 38))))])
 (.cond 39
 (.seq (.ops [(none, (.v (.build 40 [(.int .i64 0), (.int .i64 0), (.raw (.slice none 0 0))] []))),
 (none, (.e (.store 3 true (.t 6) (.t 40)))),
 (none, (.v (.mov 7 (.c (.int .i64 1)))))])
 .ret)
 .skip))
 (.seq (.ops [(none, (.v (.mov 41 (.t 0)))),
 (none, (.v (.mov 42 (.t 1)))),
 (none, (.e (.call (some 43) 33 [(.t 41), (.t 42)]))),
 (none, (.v (.mov 9 (.t 43))))])
 (.seq (.seq (.ops [(none, (.v (.mov 10 (.c (.int .i64 0)))))])
 (.block 2 (.loop (.seq (.seq (.ops [(none, (.v (.mov 44 (.t 10)))),
 (none, (.v (.mov 45 (.t 9)))),
 (none, (.p (.len 46 (.t 45)))),
 (none, (.v (.bin 47 .lss false (.t 44) (.t 46))))])
 (.cond 47
 .skip
 (.exit 2)))
 (.seq (.block 3 (.seq (.any false (.pure0 none (.v (.mov 50 (.t 9)))
 (.pure0 none (.v (.mov 51 (.t 10)))
 (.pure0 none (.p (.idx 52 3 (.t 50) (.t 51)))
 (.pure0 none (.v (.fld 53 0 (.t 52)))
 (.pure0 none (.v (.load 54 false 1 (.t 53)))
 (.pure0 none (.v (.mov 55 (.t 9)))
 (.pure0 none (.p (.idx 56 3 (.t 55) (.c (.int .i64 0))))
 (.pure0 none (.v (.fld 57 0 (.t 56)))
 (.pure0 none (.v (.load 58 false 1 (.t 57)))
 (.pure0 none (.v (.bin 59 .neq false (.t 54) (.t 58)))
 .done)))))))))))
 (.cond 59
 (.seq (.ops [(none, (.v (.build 60 [(.int .i64 0), (.int .i64 0), (.raw (.slice none 0 0))] []))),
 (none, (.e (.store 3 true (.t 6) (.t 60)))),
 (none, (.v (.mov 7 (.c (.int .i64 7)))))])
 .ret)
 .skip)))
 (.ops [(none, (.v (.mov 48 (.t 10)))),
 (none, (.v (.bin 49 .add false (.t 48) (.c (.int .i64 1))))),
 (none, (.v (.mov 10 (.t 49))))]))))))
 (.seq (.ops [(none, (.v (.mov 61 (.t 9)))),
 (none, (.p (.len 62 (.t 61)))),
 (none, (.v (.mov 63 (.t 2)))),
 (none, (.p (.quo 64 (.t 62) (.t 63)))),
 (none, (.v (.mov 11 (.t 64))))])
 (.seq (.seq (.ops [(none, (.v (.mov 65 (.t 9)))),
 (none, (.p (.len 66 (.t 65)))),
 (none, (.v (.mov 67 (.t 2)))),
 (none, (.p (.rem 68 (.t 66) (.t 67)))),
 (none, (.v (.bin 69 .gtr false (.t 68) (.c (.int .i64 0)))))])
 (.cond 69
 (.ops [(none, (.v (.mov 70 (.t 11)))),
 (none, (.v (.bin 71 .add false (.t 70) (.c (.int .i64 1))))),
 (none, (.v (.mov 11 (.t 71))))])
 .skip))
 (.seq (.ops [(none, (.v (.mov 72 (.t 0)))),
 (none, (.p (.len 73 (.t 72)))),
 (none, (.v (.mov 74 (.t 0)))),
 (none, (.p (.len 75 (.t 74)))),
 (none, (.v (.mov 76 (.t 9)))),
 (none, (.p (.len 77 (.t 76)))),
 (none, (.v (.bin 78 .sub false (.t 75) (.t 77)))),
 (none, (.v (.build 79 [(.int .i64 0), (.int .i64 0), (.raw (.slice none 0 0))] [(0, 1, (.t 73)), (1, 1, (.t 78))]))),
 (none, (.e (.alloc 12 [(.int .i64 0), (.int .i64 0), (.raw (.slice none 0 0))]))),
 (none, (.e (.store 3 true (.t 12) (.t 79))))])
 (.seq (.ops [(none, (.v (.mov 80 (.t 9)))),
 (none, (.e (.call (some 81) 32 [(.t 80)]))),
 (none, (.v (.mov 13 (.t 81))))])
 (.seq (.ops [(none, (.v (.build 82 [(.int .i64 0), (.int .i64 0), (.str ⟨#[]⟩), (.int .i64 0), (.int .i64 0), (.str ⟨#[]⟩), (.int .i64 0), (.int .i64 0), (.int .i64 0)] []))),
 (none, (.e (.alloc 14 [(.int .i64 0), (.int .i64 0), (.str ⟨#[]⟩), (.int .i64 0), (.int .i64 0), (.str ⟨#[]⟩), (.int .i64 0), (.int .i64 0), (.int .i64 0)]))),
 (none, (.e (.store 9 true (.t 14) (.t 82))))])
 (.seq (.seq (.ops [(none, (.v (.mov 15 (.c (.int .i64 0)))))])
 (.block 4 (.loop (.seq (.seq (.ops [(none, (.v (.mov 83 (.t 15)))),
 (none, (.v (.mov 84 (.t 13)))),
 (none, (.p (.len 85 (.t 84)))),
 (none, (.v (.bin 86 .lss false (.t 83) (.t 85))))])
 (.cond 86
 .skip
 (.exit 4)))
 (.seq (.block 5 (.seq (.seq (.ops [(none, (.v (.fld 89 6 (.t 14)))),
 (none, (.v (.load 90 false 1 (.t 89)))),
 (none, (.v (.bin 91 .eql false (.t 90) (.c (.int .i64 0)))))])
 (.cond 91
 (.ops [(none, (.v (.mov 92 (.t 13)))),
 (none, (.v (.mov 93 (.t 15)))),
 (none, (.p (.idx 94 3 (.t 92) (.t 93)))),
 (none, (.v (.load 95 true 3 (.t 94)))),
 (none, (.v (.fld 96 0 (.t 14)))),
 (none, (.e (.store 3 true (.t 96) (.t 95))))])
 .skip))
 (.seq (.ops [(none, (.v (.mov 97 (.t 13)))),
 (none, (.v (.mov 98 (.t 15)))),
 (none, (.p (.idx 99 3 (.t 97) (.t 98)))),
 (none, (.v (.load 100 true 3 (.t 99)))),
 (none, (.v (.fld 101 3 (.t 14)))),
 (none, (.e (.store 3 true (.t 101) (.t 100))))])
 (.seq (.any true (.pure0 none (.v (.fld 102 6 (.t 14)))
 (.pure0 none (.v (.mov 104 (.t 9)))
 (.pure0 none (.v (.mov 105 (.t 13)))
 (.pure0 none (.v (.mov 106 (.t 15)))
 (.pure0 none (.p (.idx 107 3 (.t 105) (.t 106)))
 (.pure0 none (.v (.load 108 true 3 (.t 107)))
 (.alt none (.v (.load 103 false 1 (.t 102)))
 (.alt none (.e (.call (some 109) 45 [(.t 104), (.t 108)]))
 (.pure1 none (.v (.bin 110 .add false (.t 103) (.t 109)))
 (.pure0 none (.v (.fld 111 6 (.t 14)))
 (.alt none (.e (.store 1 false (.t 111) (.t 110)))
 .done
 .stop)))
 .stop)
 (.alt none (.e (.call (some 109) 45 [(.t 104), (.t 108)]))
 (.alt none (.v (.load 103 false 1 (.t 102)))
 (.pure1 none (.v (.bin 110 .add false (.t 103) (.t 109)))
 (.pure0 none (.v (.fld 111 6 (.t 14)))
 (.alt none (.e (.store 1 false (.t 111) (.t 110)))
 .done
 .stop)))
 .stop)
 .stop)))))))))
 (.seq (.ops [(none, (.v (.fld 112 7 (.t 14)))),
 (none, (.v (.load 113 false 1 (.t 112)))),
 (none, (.v (.bin 114 .add false (.t 113) (.c (.int .i64 1))))),
 (none, (.v (.fld 115 7 (.t 14)))),
 (none, (.e (.store 1 false (.t 115) (.t 114))))])
 (.seq (.ops [(none, (.v (.fld 116 8 (.t 14)))),
 (none, (.v (.load 117 false 1 (.t 116)))),
 (none, (.v (.bin 118 .add false (.t 117) (.c (.int .i64 1))))),
 (none, (.v (.fld 119 8 (.t 14)))),
 (none, (.e (.store 1 false (.t 119) (.t 118))))])
 (.seq (.ops [(none, (.v (.fld 120 6 (.t 14)))),
 (none, (.v (.load 121 false 1 (.t 120)))),
 (none, (.v (.mov 122 (.t 11)))),
 (none, (.v (.bin 123 .geq false (.t 121) (.t 122)))),
 (none, (.v (.mov 124 (.t 123)))),
 ((some (124, false)), (.v (.mov 125 (.t 15)))),
 ((some (124, false)), (.v (.mov 126 (.t 13)))),
 ((some (124, false)), (.p (.len 127 (.t 126)))),
 ((some (124, false)), (.v (.bin 128 .sub false (.t 127) (.c (.int .i64 1))))),
 ((some (124, false)), (.v (.bin 129 .eql false (.t 125) (.t 128)))),
 (none, (.v (.pick 130 (.t 124) (.c (.bool true)) (.t 129))))])
 (.cond 130
 (.seq (.ops [(none, (.v (.fld 131 2 (.t 12)))),
 (none, (.v (.load 132 false 1 (.t 131)))),
 (none, (.v (.load 133 true 9 (.t 14)))),
 (none, (.e (.mkl 134 66 9 1 (.agg [(.int .i64 0), (.int .i64 0), (.str ⟨#[]⟩), (.int .i64 0), (.int .i64 0), (.str ⟨#[]⟩), (.int .i64 0), (.int .i64 0), (.int .i64 0)]) [(0, (.t 133))]))),
 (none, (.e (.app 135 66 9 88 (.t 132) (.t 134)))),
 (none, (.v (.fld 136 2 (.t 12)))),
 (none, (.e (.store 1 false (.t 136) (.t 135))))])
 (.ops [(none, (.v (.build 137 [(.int .i64 0), (.int .i64 0), (.str ⟨#[]⟩), (.int .i64 0), (.int .i64 0), (.str ⟨#[]⟩), (.int .i64 0), (.int .i64 0), (.int .i64 0)] []))),
 (none, (.e (.store 9 true (.t 14) (.t 137))))]))
 .skip))))))))
 (.ops [(none, (.v (.mov 87 (.t 15)))),
 (none, (.v (.bin 88 .add false (.t 87) (.c (.int .i64 1))))),
 (none, (.v (.mov 15 (.t 88))))]))))))
 (.seq (.ops [(none, (.v (.load 138 true 3 (.t 12)))),
 (none, (.e (.store 3 true (.t 6) (.t 138)))),
 (none, (.v (.mov 7 (.c (.int .i64 0)))))])
 .ret))))))))))))
theorem ok14 : FnOk E 14 139 [.cell 6 33, .tmp 7] mc14 := .of func14 (by kernel_rfl) (by kernel_rfl) (by kernel_rfl) (by kernel_rfl) (by kernel_rfl)
end Go.Proofs.Try
namespace Go.Proofs.Try
open Go.Al
set_option linter.unusedVariables false
set_option linter.unusedSimpArgs false
set_option maxRecDepth 20000
set_option maxHeartbeats 8000000

theorem ti33 : E.TI 33 = some ⟨.struct [(0, 3), (1, 3), (2, 31)], 3, 40, [.int .i64 0, .int .i64 0, .slice none 0 0], true, true, false⟩ := rfl
/-- A histogram whose bars are only read from here on. -/
theorem keepH_i {Q : AV → List AObj → Prop} {H : List AObj} {x : AV} {n m e : Int} {l : List Bar} (hx : Weak (pa H [] true 6 x) (.view 9 (l.map Bar.av))) (h : Q (.tup [(Hist.mk n m l).av, .int .i64 e]) []) : keepQ 0 Q (.tup [.agg [.int .i64 n, .int .i64 m, x], .int .i64 e]) H := by
  refine keepw_i [] true rfl (by simp) rfl (r' := .tup [(Hist.mk n m l).av, .int .i64 e]) ?_ h
  simp only [pa_tup, List.map_cons, List.map_nil, pa_agg, pa_int]
  exact WeakL.tup (WeakL.cons (WeakL.agg (WeakL.cons (.refl _) (WeakL.cons (.refl _) (WeakL.cons hx (.refl _))))) (.refl _))
theorem zbar_cs : zBar.cs = [.int .i64 0, .int .i64 0, .str ⟨#[]⟩, .int .i64 0, .int .i64 0, .str ⟨#[]⟩, .int .i64 0, .int .i64 0, .int .i64 0] := rfl
theorem c33' (l : List (List VL)) (col : Int) (hc : ∀ r ∈ l, 0 ≤ col ∧ col < (r.length : Int)) (hl60 : l.length ≤ 1048576) : ACalls E.P 33 [.view 1 (l.map rowV), .int .i64 col] [] (fun r H => r = .slc 0 3 (valuesC l col.toNat).length ∧ H = [.arr 40 3 ((valuesC l col.toNat).map VL.av)]) := by
  rcases Int.le_total 0 col with h | h
  · obtain ⟨c, rfl⟩ : ∃ c : Nat, col = c := ⟨col.toNat, by omega⟩
    rw [Int.toNat_natCast]
    exact c33 l c (fun r hr => by have := hc r hr; omega) hl60
  · by_cases h0 : col = 0
    · subst h0
      exact c33 l 0 (fun r hr => by have := hc r hr; omega) hl60
    · have hl : l = [] := by
        cases l with
        | nil => rfl
        | cons r l => have := (hc r (by simp)).1; omega
      subst hl
      refine ok33.acalls hE hm (by simp) fun N hN => ?_
      unfold mc33
      simp only [lA, ptrCells, ptrAdd, isNil, readsV, readsP, isCall, wrote, srcOf, seval]
      refine loop_i (fun i : Nat => True) (fun i => ⟨[(0, .view 1 []), (1, .int .i64 col), (5, .slc 0 3 0), (6, .int .i64 0)], [.arr 40 3 []]⟩) (fun i => 0) 0 trivial
        (Ent.ghost' 5 40 3 (by omega) rfl (Ent.to [0] false (by simp) (by simp) rfl (by simp only [lP, seval] <;> (try simp) <;> (try omega)) (by simp only [lP, seval] <;> (try simp) <;> (try omega)))) ?_
      rintro i -
      repeat' (first
       | (with_reducible apply St.o; constructor) <;> intro _
       | with_reducible first | refine LenR_i fun _ => ?_ | refine And.intro (by omega) ?_ | (apply Sp.o; constructor) | refine mkl_own ?_ | refine frz0_i ?_
       | simp (maxSteps := 1000000) (disch := omega) only [lE, ptrCells, ptrAdd, isNil, readsV, readsP, isCall, wrote, srcOf, seval, List.length_nil, Int.lt_irrefl, decide_false])
      exact keep_i [0] false (by simp) (by simp) rfl ⟨by simp only [lP, seval]; rfl, by simp only [lP, seval]; rfl⟩
theorem c14 (l : List (List VL)) (col most : Int) (hf : fewR l) : ACalls E.P 14 [.view 1 (l.map rowV), .int .i64 col, .int .i64 most] [] (fun r H => r = .tup [(histOf l col most).1.av, .int .i64 (histOf l col most).2] ∧ H = []) := by
  have hmax := maxLen_eq
  have hno : argOk l col most = false → histOf l col most = (h0, 1) := fun h => by rw [histOf, h]; rfl
  refine ok14.acalls hE hm (by simp) fun N hN => ?_
  unfold mc14
  simp only [lA, ptrCells, ptrAdd, isNil, readsV, readsP, isCall, wrote, srcOf, seval]
  refine loop_i (fun i : Nat => i ≤ l.length ∧ ∀ r ∈ l.take i, 0 ≤ col ∧ col < (r.length : Int)) (fun i => ⟨[(0, .view 1 (l.map rowV)), (1, .int .i64 col), (2, .int .i64 most), (6, .op 0 0), (7, .int .i64 0), (8, .int .i64 i)], [.box [.int .i64 0, .int .i64 0, .raw (.slice none 0 0)]]⟩) (fun i => l.length - i) 0 ⟨by omega, by simp⟩ (Ent.to [0] false (by simp) (by simp) rfl (by simp only [lP, seval, List.length_map] <;> (try simp) <;> (try omega)) (by simp only [lP, seval, List.length_map] <;> (try simp) <;> (try omega))) ?_
  rintro i ⟨hi, ha⟩
  by_cases hil : i < l.length
  · have hng : ¬ (0 ≤ col ∧ col < ((l.getD i default).length : Int)) → argOk l col most = false := fun h => by
      simp only [argOk, Bool.and_eq_false_iff, decide_eq_false_iff_not]
      exact .inl fun h2 => h (h2 _ (getD_mem hil))
    have hnx := all_next (P := fun r : List VL => 0 ≤ col ∧ col < (r.length : Int)) hil ha
    repeat' (first
     | (with_reducible apply St.o; constructor) <;> intro _
     | with_reducible first | refine LenR_i fun _ => ?_ | refine And.intro (by omega) ?_ | (apply Sp.o; constructor) | refine mkl_own ?_ | refine frz0_i ?_
     | simp (maxSteps := 1000000) (disch := omega) only [lE, ptrCells, ptrAdd, isNil, readsV, readsP, isCall, wrote, srcOf, seval, IdxR_rows, Int.toNat_natCast, List.length_map, ti33])
    all_goals try (exfalso; omega)
    all_goals try (rw [hno (hng (by omega))]; exact keepH_i (l := []) weak_nil ⟨rfl, rfl⟩)
    exact back_i (i + 1) ⟨by omega, hnx (by omega)⟩ (by omega) (Ent.to [0] false (by simp) (by simp) rfl (by simp only [lP, seval] <;> (try simp) <;> (try omega)) (by simp only [lP, seval] <;> (try simp) <;> (try omega)))
  · have hie : i = l.length := by omega
    subst hie
    rw [List.take_length] at ha
    have hng : ¬ (1 ≤ most ∧ most ≤ 100) → argOk l col most = false := fun h => by
      simp only [argOk, Bool.and_eq_false_iff, decide_eq_false_iff_not]
      omega
    by_cases hmo : 1 ≤ most ∧ most ≤ 100
    · have harg : argOk l col most = true := by
        simp only [argOk, Bool.and_eq_true, decide_eq_true_eq]
        exact ⟨ha, hmo⟩
      have h60 := hf.2
      have h33 := lendV (c33' l col ha (by omega))
      have hvl := valuesC_le l col.toNat
      have hh : histOf l col most = if oneKind (valuesC l col.toNat) = true then
        (⟨l.length, l.length - (valuesC l col.toNat).length, (barsN (valuesC l col.toNat) (diffV (valuesC l col.toNat)) (depthV (valuesC l col.toNat).length most) (diffV (valuesC l col.toNat)).length).1⟩, 0) else (h0, 7) := by rw [histOf, if_pos harg]
      rw [hh]
      generalize valuesC l col.toNat = vs at *
      repeat' (first
       | (with_reducible apply St.o; constructor) <;> intro _
       | with_reducible first | refine LenR_i fun _ => ?_ | refine And.intro (by omega) ?_ | (apply Sp.o; constructor) | refine mkl_own ?_ | refine frz0_i ?_
       | ((with_reducible apply Sc.o false; constructor); simp only [lP, seval, List.length_map, Int.lt_irrefl, decide_false]; refine ⟨_, h33, ?_⟩; rintro _ _ ⟨rfl, rfl⟩; simp only [lA, lP, ptrCells, ptrAdd, isNil, readsV, readsP, isCall, wrote, srcOf, seval, List.length_map, Int.lt_irrefl, decide_false])
       | simp (maxSteps := 1000000) (disch := omega) only [lE, ptrCells, ptrAdd, isNil, readsV, readsP, isCall, wrote, srcOf, seval, List.length_map, Int.lt_irrefl, decide_false])
      all_goals try (exfalso; omega)
      refine loop_i (fun i : Nat => i ≤ vs.length ∧ ∀ v ∈ vs.take i, v.k = (vs.getD 0 default).k) (fun i => ⟨[(0, .view 1 (l.map rowV)), (1, .int .i64 col), (2, .int .i64 most), (6, .op 0 0), (7, .int .i64 0), (9, .view 3 (vs.map VL.av)), (10, .int .i64 i)], [.box [.int .i64 0, .int .i64 0, .raw (.slice none 0 0)]]⟩) (fun i => vs.length - i) 0 ⟨by omega, by simp⟩ (Ent.to [0] false (by simp) (by simp) rfl (by simp only [lP, seval, List.length_map] <;> (try simp) <;> (try omega)) (by simp only [lP, seval, List.length_map] <;> (try simp) <;> (try omega))) ?_
      rintro i ⟨hi, hk⟩
      by_cases hiv : i < vs.length
      · have hnx := all_next (P := fun v : VL => v.k = (vs.getD 0 default).k) hiv hk
        repeat' (first
         | (with_reducible apply St.o; constructor) <;> intro _
         | with_reducible first | refine LenR_i fun _ => ?_ | refine And.intro (by omega) ?_ | (apply Sp.o; constructor) | refine mkl_own ?_ | refine frz0_i ?_
         | simp (maxSteps := 1000000) (disch := omega) only [lE, ptrCells, ptrAdd, isNil, readsV, readsP, isCall, wrote, srcOf, seval, IdxR_vls, Int.toNat_natCast, Int.toNat_zero, List.length_map, ti33])
        all_goals try (exfalso; omega)
        · rename_i h1 h2
          have hok : oneKind vs = false := by
            simp only [oneKind, decide_eq_false_iff_not]
            exact fun h => h2 (h _ (getD_mem hiv))
          rw [hok]
          exact keepH_i (l := []) weak_nil ⟨rfl, rfl⟩
        · rename_i h1 h2
          exact back_i (i + 1) ⟨by omega, hnx (by simpa using h2)⟩ (by omega) (Ent.to [0] false (by simp) (by simp) rfl (by simp only [lP, seval] <;> (try simp) <;> (try omega)) (by simp only [lP, seval] <;> (try simp) <;> (try omega)))
      · have hie : i = vs.length := by omega
        subst hie
        rw [List.take_length] at hk
        have hok : oneKind vs = true := by simpa only [oneKind, decide_eq_true_eq] using hk
        rw [if_pos hok]
        have hdle := diffV_le vs []
        rw [show vs.foldl withV [] = diffV vs from rfl] at hdle
        simp only [List.length_nil] at hdle
        have h32 := lendV (c32 vs (by omega))
        generalize hd : diffV vs = d at *
        have hq0 : 0 ≤ (vs.length : Int).tdiv most := Int.tdiv_nonneg (by omega) (by omega)
        have hq1 : (vs.length : Int).tdiv most ≤ vs.length := Int.tdiv_le_self _ (by omega)
        have hdp : depthV vs.length most = (vs.length : Int).tdiv most + (if 0 < (vs.length : Int).tmod most then 1 else 0) := rfl
        have hm0 : ¬ most = 0 := by omega
        generalize hq : (vs.length : Int).tdiv most = q at *
        generalize hr : (vs.length : Int).tmod most = r at *
        rw [hdp]
        have main : ∀ (dp : Int) (fr : List (Nat × AV)), 0 ≤ dp ∧ dp ≤ 100 → get fr 6 = .op 0 0 → get fr 7 = .int .i64 0 → get fr 9 = .view 3 (vs.map VL.av) → get fr 11 = .int .i64 dp → get fr 12 = .op 1 0 → get fr 13 = .view 3 (d.map VL.av) → get fr 14 = .op 2 0 → get fr 15 = .int .i64 0 →
            Ent 0 N ⟨fr, [.box [.int .i64 0, .int .i64 0, .raw (.slice none 0 0)], .box [.int .i64 l.length, .int .i64 (l.length - vs.length), .raw (.slice none 0 0)], .box [.int .i64 0, .int .i64 0, .str ⟨#[]⟩, .int .i64 0, .int .i64 0, .str ⟨#[]⟩, .int .i64 0, .int .i64 0, .int .i64 0]]⟩
              ⟨[(6, .op 0 0), (7, .int .i64 0), (9, .view 3 (vs.map VL.av)), (11, .int .i64 dp), (12, .op 1 0), (13, .view 3 (d.map VL.av)), (14, .op 2 0), (15, .int .i64 0)], [.box [.int .i64 0, .int .i64 0, .raw (.slice none 0 0)], .box [.int .i64 l.length, .int .i64 (l.length - vs.length), .slc 3 9 0], .box zBar.cs, .arr 66 9 []]⟩ := by
          intro dp fr _ a b c d e f g h
          refine Ent.trans (Ent.ghostB 1 2 66 9 (by omega) rfl rfl) (Ent.fr ?_)
          simp [FrSub, Go.Al.get, a, b, c, d, e, f, g, h]
        repeat' (first
         | (with_reducible apply St.o; constructor) <;> intro _
         | with_reducible first | refine LenR_i fun _ => ?_ | refine And.intro (by omega) ?_ | (apply Sp.o; constructor) | refine mkl_own ?_ | refine frz0_i ?_
         | ((with_reducible apply Sc.o false; constructor); simp only [lP, seval, List.length_map, Int.lt_irrefl, decide_false, hq, hr, hm0]; refine ⟨_, h32, ?_⟩; rintro _ _ ⟨rfl, rfl⟩; simp only [lA, lP, ptrCells, ptrAdd, isNil, readsV, readsP, isCall, wrote, srcOf, seval, List.length_map, Int.lt_irrefl, decide_false, hq, hr, hm0])
         | simp (maxSteps := 1000000) (disch := omega) only [lE, ptrCells, ptrAdd, isNil, readsV, readsP, isCall, wrote, srcOf, seval, List.length_map, Int.lt_irrefl, decide_false, hq, hr, hm0])
        all_goals (
          obtain ⟨e, he, he0⟩ : ∃ e : Int, (if 0 < r then 1 else 0) = e ∧ 0 ≤ e ∧ e ≤ 1 := ⟨_, rfl, by split <;> omega⟩
          rw [he]
          refine loop_i (fun k : Nat => k ≤ d.length) (fun k => ⟨[(6, .op 0 0), (7, .int .i64 0), (9, .view 3 (vs.map VL.av)), (11, .int .i64 (q + e)), (12, .op 1 0), (13, .view 3 (d.map VL.av)), (14, .op 2 0), (15, .int .i64 k)], [.box [.int .i64 0, .int .i64 0, .raw (.slice none 0 0)], .box [.int .i64 l.length, .int .i64 (l.length - vs.length), .slc 3 9 (barsN vs d (q + e) k).1.length], .box (barsN vs d (q + e) k).2.cs, .arr 66 9 ((barsN vs d (q + e) k).1.map Bar.av)]⟩) (fun k => d.length - k) 0 (by omega) (main (q + e) _ (by omega) rfl rfl rfl (by rw [← he]; simp [Go.Al.get, *]) rfl rfl rfl rfl) ?_
          intro k hk'
          have hbl := barsN_le vs d (q + e) k
          by_cases hkl : k < d.length
          · have h45 := c45 vs (d.getD k default)
            have hnx := barsN_succ vs d (q + e) k
            have htl := timesV_le vs (d.getD k default)
            have hb60 : (barsN vs d (q + e) k).2.rows ≤ 3600 := by
              have h1 : (k : Int) * vs.length ≤ 60 * 60 := Int.mul_le_mul (by omega) (by omega) (by omega) (by omega)
              omega
            simp only [vl_av] at h45
            rcases hbq : barsN vs d (q + e) k with ⟨out, ⟨lo, hi, rows, least, most'⟩⟩
            simp only [hbq] at hbl hnx hb60 ⊢
            generalize timesV vs (d.getD k default) = t at *
            generalize hdk : d.getD k default = v at *
            simp only [Bar.more] at hnx
            have hr1 : rows = 0 ∨ ¬ rows = 0 := by omega
            have hfl : (q + e ≤ rows + t ∨ k + 1 = d.length) ∨ ¬ (q + e ≤ rows + t ∨ k + 1 = d.length) := by omega
            repeat' (first
             | (with_reducible apply St.o; constructor) <;> intro _
             | with_reducible first | refine LenR_i fun _ => ?_ | refine And.intro (by omega) ?_ | (apply Sp.o; constructor) | refine mkl_own ?_ | refine frz0_i ?_
             | ((with_reducible apply Sc.o true; constructor); simp only [lP, seval, IdxR_vls, Int.toNat_natCast, List.length_map, hdk, List.mem_singleton, List.length_append, List.length_cons, List.length_nil, fillE]; refine ⟨_, h45, ?_⟩; rintro _ _ ⟨rfl, rfl⟩; simp only [lA, lP, ptrCells, ptrAdd, isNil, readsV, readsP, isCall, wrote, srcOf, seval, IdxR_vls, Int.toNat_natCast, List.length_map, hdk, List.mem_singleton, List.length_append, List.length_cons, List.length_nil, fillE])
             | with_reducible refine any_i [2] ?_
             | simp (maxSteps := 1000000) (disch := omega) only [lE, ptrCells, ptrAdd, isNil, readsV, readsP, isCall, wrote, srcOf, seval, IdxR_vls, Int.toNat_natCast, List.length_map, hdk, List.mem_singleton, List.length_append, List.length_cons, List.length_nil, fillE])
            all_goals
              rcases hr1 with hr1 | hr1
              all_goals try (exfalso; omega)
              all_goals
                rcases hfl with hfl | hfl
                · first
                  | (exfalso; omega)
                  | (first
                     | rw [if_pos hr1, if_pos hfl] at hnx
                     | rw [if_neg hr1, if_pos hfl] at hnx
                     exact back_i (k + 1) (by omega) (by omega) (Ent.to [0, 1, 2, 5] false (by simp) (by simp) rfl (by simp only [lP, seval, hnx, zbar_cs, List.map_append, List.map_cons, List.map_nil, List.length_append, List.length_cons, List.length_nil, pa_bars, bar_av, pa_agg] <;> (try simp) <;> (try omega)) (by simp only [lP, seval, hnx, zbar_cs, List.map_append, List.map_cons, List.map_nil, List.length_append, List.length_cons, List.length_nil, pa_bars, bar_av, pa_agg] <;> (try simp) <;> (try omega))))
                · first
                  | (exfalso; omega)
                  | (first
                     | rw [if_pos hr1, if_neg hfl] at hnx
                     | rw [if_neg hr1, if_neg hfl] at hnx
                     exact back_i (k + 1) (by omega) (by omega) (Ent.to [0, 1, 2, 3] false (by simp) (by simp) rfl (by simp only [lP, seval, hnx, pa_bars] <;> (try simp) <;> (try omega)) (by simp only [lP, seval, hnx, pa_bars] <;> (try simp) <;> (try omega))))
          · have hie : k = d.length := by omega
            subst hie
            repeat' (first
             | (with_reducible apply St.o; constructor) <;> intro _
             | with_reducible first | refine LenR_i fun _ => ?_ | refine And.intro (by omega) ?_ | (apply Sp.o; constructor) | refine mkl_own ?_ | refine frz0_i ?_
             | simp (maxSteps := 1000000) (disch := omega) only [lE, ptrCells, ptrAdd, isNil, readsV, readsP, isCall, wrote, srcOf, seval, List.length_map, Int.lt_irrefl, decide_false, ti33])
            refine keepH_i (l := (barsN vs d (q + e) d.length).1) ?_ ⟨rfl, rfl⟩
            simp only [lP, seval, List.length_map, vw_bars]
            exact .refl _)
    · rw [hno (hng hmo)]
      repeat' (first
       | (with_reducible apply St.o; constructor) <;> intro _
       | with_reducible first | refine LenR_i fun _ => ?_ | refine And.intro (by omega) ?_ | (apply Sp.o; constructor) | refine mkl_own ?_ | refine frz0_i ?_
       | simp (maxSteps := 1000000) (disch := omega) only [lE, ptrCells, ptrAdd, isNil, readsV, readsP, isCall, wrote, srcOf, seval, List.length_map, Int.lt_irrefl, decide_false, ti33])
      all_goals try (exfalso; omega)
      all_goals exact keepH_i (l := []) weak_nil ⟨rfl, rfl⟩
end Go.Proofs.Try
