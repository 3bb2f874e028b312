/-
  A part of the proof: see the text of the law.
-/
import Derived.Test.YtlokeliagcaepaaEaq
import Derived.Test.YtlokeliagcaepaaPab
import Derived.Test.YtlokeliagcaepaaEar
import Derived.Test.YtlokeliagcaepaaEaf
set_option linter.unusedSimpArgs false
set_option linter.unusedVariables false
namespace Go.Proofs.Try
open Go.Al
set_option maxRecDepth 100000
/-- alum/alumref39.Histogram -/
def mc14 : MC :=
 (.seq (.ops [(none, (.e (.alloc 6 [(.int .i64 0), (.int .i64 0), (.raw (.slice none 0 0))]))),
 (none, (.v (.mov 7 (.c (.int .i64 0)))))])
 (.seq (.seq (.ops [(none, (.v (.mov 8 (.c (.int .i64 0)))))])
 (.block 0 (.loop (.seq (.seq (.ops [(none, (.v (.mov 16 (.t 8)))),
 (none, (.v (.mov 17 (.t 0)))),
 (none, (.p (.len 18 (.t 17)))),
 (none, (.v (.bin 19 .lss false (.t 16) (.t 18))))])
 (.cond 19
 .skip
 (.exit 0)))
 (.seq (.block 1 (.seq (.ops [(none, (.v (.mov 22 (.t 1)))),
 (none, (.v (.bin 23 .lss false (.t 22) (.c (.int .i64 0))))),
 (none, (.v (.mov 24 (.t 23)))),
 ((some (24, false)), (.v (.mov 25 (.t 1)))),
 ((some (24, false)), (.v (.mov 26 (.t 0)))),
 ((some (24, false)), (.v (.mov 27 (.t 8)))),
 ((some (24, false)), (.p (.idx 28 1 (.t 26) (.t 27)))),
 ((some (24, false)), (.v (.load 29 false 1 (.t 28)))),
 ((some (24, false)), (.p (.len 30 (.t 29)))),
 ((some (24, false)), (.v (.bin 31 .geq false (.t 25) (.t 30)))),
 (none, (.v (.pick 32 (.t 24) (.c (.bool true)) (.t 31))))])
 (.cond 32
 (.seq (.ops [(none, (.v (.build 33 [(.int .i64 0), (.int .i64 0), (.raw (.slice none 0 0))] []))),
 (none, (.e (.store 3 true (.t 6) (.t 33)))),
 (none, (.v (.mov 7 (.c (.int .i64 1)))))])
 .ret)
 .skip)))
 (.ops [(none, (.v (.mov 20 (.t 8)))),
 (none, (.v (.bin 21 .add false (.t 20) (.c (.int .i64 1))))),
 (none, (.v (.mov 8 (.t 21))))]))))))
 (.seq (.seq (.ops [(none, (.v (.mov 34 (.t 2)))),
 (none, (.v (.bin 35 .lss false (.t 34) (.c (.int .i64 1))))),
 (none, (.v (.mov 36 (.t 35)))),
 ((some (36, false)), (.v (.mov 37 (.t 2)))),
 ((some (36, false)), (.v (.bin 38 .gtr false (.t 37) (.c (.int .i64 100))))),
 (none, (.v (.pick 39 (.t 36) (.c (.bool true)) (.t 38))))])
 (.cond 39
 (.seq (.ops [(none, (.v (.build 40 [(.int .i64 0), (.int .i64 0), (.raw (.slice none 0 0))] []))),
 (none, (.e (.store 3 true (.t 6) (.t 40)))),
 (none, (.v (.mov 7 (.c (.int .i64 1)))))])
 .ret)
 .skip))
 (.seq (.ops [(none, (.v (.mov 41 (.t 0)))),
 (none, (.v (.mov 42 (.t 1)))),
 (none, (.e (.call (some 43) 33 [(.t 41), (.t 42)]))),
 (none, (.v (.mov 9 (.t 43))))])
 (.seq (.seq (.ops [(none, (.v (.mov 10 (.c (.int .i64 0)))))])
 (.block 2 (.loop (.seq (.seq (.ops [(none, (.v (.mov 44 (.t 10)))),
 (none, (.v (.mov 45 (.t 9)))),
 (none, (.p (.len 46 (.t 45)))),
 (none, (.v (.bin 47 .lss false (.t 44) (.t 46))))])
 (.cond 47
 .skip
 (.exit 2)))
 (.seq (.block 3 (.seq (.any false (.pure0 none (.v (.mov 50 (.t 9)))
 (.pure0 none (.v (.mov 51 (.t 10)))
 (.pure0 none (.p (.idx 52 3 (.t 50) (.t 51)))
 (.pure0 none (.v (.fld 53 0 (.t 52)))
 (.pure0 none (.v (.load 54 false 1 (.t 53)))
 (.pure0 none (.v (.mov 55 (.t 9)))
 (.pure0 none (.p (.idx 56 3 (.t 55) (.c (.int .i64 0))))
 (.pure0 none (.v (.fld 57 0 (.t 56)))
 (.pure0 none (.v (.load 58 false 1 (.t 57)))
 (.pure0 none (.v (.bin 59 .neq false (.t 54) (.t 58)))
 .done)))))))))))
 (.cond 59
 (.seq (.ops [(none, (.v (.build 60 [(.int .i64 0), (.int .i64 0), (.raw (.slice none 0 0))] []))),
 (none, (.e (.store 3 true (.t 6) (.t 60)))),
 (none, (.v (.mov 7 (.c (.int .i64 7)))))])
 .ret)
 .skip)))
 (.ops [(none, (.v (.mov 48 (.t 10)))),
 (none, (.v (.bin 49 .add false (.t 48) (.c (.int .i64 1))))),
 (none, (.v (.mov 10 (.t 49))))]))))))
 (.seq (.ops [(none, (.v (.mov 61 (.t 9)))),
 (none, (.p (.len 62 (.t 61)))),
 (none, (.v (.mov 63 (.t 2)))),
 (none, (.p (.quo 64 (.t 62) (.t 63)))),
 (none, (.v (.mov 11 (.t 64))))])
 (.seq (.seq (.ops [(none, (.v (.mov 65 (.t 9)))),
 (none, (.p (.len 66 (.t 65)))),
 (none, (.v (.mov 67 (.t 2)))),
 (none, (.p (.rem 68 (.t 66) (.t 67)))),
 (none, (.v (.bin 69 .gtr false (.t 68) (.c (.int .i64 0)))))])
 (.cond 69
 (.ops [(none, (.v (.mov 70 (.t 11)))),
 (none, (.v (.bin 71 .add false (.t 70) (.c (.int .i64 1))))),
 (none, (.v (.mov 11 (.t 71))))])
 .skip))
 (.seq (.ops [(none, (.v (.mov 72 (.t 0)))),
 (none, (.p (.len 73 (.t 72)))),
 (none, (.v (.mov 74 (.t 0)))),
 (none, (.p (.len 75 (.t 74)))),
 (none, (.v (.mov 76 (.t 9)))),
 (none, (.p (.len 77 (.t 76)))),
 (none, (.v (.bin 78 .sub false (.t 75) (.t 77)))),
 (none, (.v (.build 79 [(.int .i64 0), (.int .i64 0), (.raw (.slice none 0 0))] [(0, 1, (.t 73)), (1, 1, (.t 78))]))),
 (none, (.e (.alloc 12 [(.int .i64 0), (.int .i64 0), (.raw (.slice none 0 0))]))),
 (none, (.e (.store 3 true (.t 12) (.t 79))))])
 (.seq (.ops [(none, (.v (.mov 80 (.t 9)))),
 (none, (.e (.call (some 81) 32 [(.t 80)]))),
 (none, (.v (.mov 13 (.t 81))))])
 (.seq (.ops [(none, (.v (.build 82 [(.int .i64 0), (.int .i64 0), (.str ⟨#[]⟩), (.int .i64 0), (.int .i64 0), (.str ⟨#[]⟩), (.int .i64 0), (.int .i64 0), (.int .i64 0)] []))),
 (none, (.e (.alloc 14 [(.int .i64 0), (.int .i64 0), (.str ⟨#[]⟩), (.int .i64 0), (.int .i64 0), (.str ⟨#[]⟩), (.int .i64 0), (.int .i64 0), (.int .i64 0)]))),
 (none, (.e (.store 9 true (.t 14) (.t 82))))])
 (.seq (.seq (.ops [(none, (.v (.mov 15 (.c (.int .i64 0)))))])
 (.block 4 (.loop (.seq (.seq (.ops [(none, (.v (.mov 83 (.t 15)))),
 (none, (.v (.mov 84 (.t 13)))),
 (none, (.p (.len 85 (.t 84)))),
 (none, (.v (.bin 86 .lss false (.t 83) (.t 85))))])
 (.cond 86
 .skip
 (.exit 4)))
 (.seq (.block 5 (.seq (.seq (.ops [(none, (.v (.fld 89 6 (.t 14)))),
 (none, (.v (.load 90 false 1 (.t 89)))),
 (none, (.v (.bin 91 .eql false (.t 90) (.c (.int .i64 0)))))])
 (.cond 91
 (.ops [(none, (.v (.mov 92 (.t 13)))),
 (none, (.v (.mov 93 (.t 15)))),
 (none, (.p (.idx 94 3 (.t 92) (.t 93)))),
 (none, (.v (.load 95 true 3 (.t 94)))),
 (none, (.v (.fld 96 0 (.t 14)))),
 (none, (.e (.store 3 true (.t 96) (.t 95))))])
 .skip))
 (.seq (.ops [(none, (.v (.mov 97 (.t 13)))),
 (none, (.v (.mov 98 (.t 15)))),
 (none, (.p (.idx 99 3 (.t 97) (.t 98)))),
 (none, (.v (.load 100 true 3 (.t 99)))),
 (none, (.v (.fld 101 3 (.t 14)))),
 (none, (.e (.store 3 true (.t 101) (.t 100))))])
 (.seq (.any true (.pure0 none (.v (.fld 102 6 (.t 14)))
 (.pure0 none (.v (.mov 104 (.t 9)))
 (.pure0 none (.v (.mov 105 (.t 13)))
 (.pure0 none (.v (.mov 106 (.t 15)))
 (.pure0 none (.p (.idx 107 3 (.t 105) (.t 106)))
 (.pure0 none (.v (.load 108 true 3 (.t 107)))
 (.alt none (.v (.load 103 false 1 (.t 102)))
 (.alt none (.e (.call (some 109) 45 [(.t 104), (.t 108)]))
 (.pure1 none (.v (.bin 110 .add false (.t 103) (.t 109)))
 (.pure0 none (.v (.fld 111 6 (.t 14)))
 (.alt none (.e (.store 1 false (.t 111) (.t 110)))
 .done
 .stop)))
 .stop)
 (.alt none (.e (.call (some 109) 45 [(.t 104), (.t 108)]))
 (.alt none (.v (.load 103 false 1 (.t 102)))
 (.pure1 none (.v (.bin 110 .add false (.t 103) (.t 109)))
 (.pure0 none (.v (.fld 111 6 (.t 14)))
 (.alt none (.e (.store 1 false (.t 111) (.t 110)))
 .done
 .stop)))
 .stop)
 .stop)))))))))
 (.seq (.ops [(none, (.v (.fld 112 7 (.t 14)))),
 (none, (.v (.load 113 false 1 (.t 112)))),
 (none, (.v (.bin 114 .add false (.t 113) (.c (.int .i64 1))))),
 (none, (.v (.fld 115 7 (.t 14)))),
 (none, (.e (.store 1 false (.t 115) (.t 114))))])
 (.seq (.ops [(none, (.v (.fld 116 8 (.t 14)))),
 (none, (.v (.load 117 false 1 (.t 116)))),
 (none, (.v (.bin 118 .add false (.t 117) (.c (.int .i64 1))))),
 (none, (.v (.fld 119 8 (.t 14)))),
 (none, (.e (.store 1 false (.t 119) (.t 118))))])
 (.seq (.ops [(none, (.v (.fld 120 6 (.t 14)))),
 (none, (.v (.load 121 false 1 (.t 120)))),
 (none, (.v (.mov 122 (.t 11)))),
 (none, (.v (.bin 123 .geq false (.t 121) (.t 122)))),
 (none, (.v (.mov 124 (.t 123)))),
 ((some (124, false)), (.v (.mov 125 (.t 15)))),
 ((some (124, false)), (.v (.mov 126 (.t 13)))),
 ((some (124, false)), (.p (.len 127 (.t 126)))),
 ((some (124, false)), (.v (.bin 128 .sub false (.t 127) (.c (.int .i64 1))))),
 ((some (124, false)), (.v (.bin 129 .eql false (.t 125) (.t 128)))),
 (none, (.v (.pick 130 (.t 124) (.c (.bool true)) (.t 129))))])
 (.cond 130
 (.seq (.ops [(none, (.v (.fld 131 2 (.t 12)))),
 (none, (.v (.load 132 false 1 (.t 131)))),
 (none, (.v (.load 133 true 9 (.t 14)))),
 (none, (.e (.mkl 134 66 9 1 (.agg [(.int .i64 0), (.int .i64 0), (.str ⟨#[]⟩), (.int .i64 0), (.int .i64 0), (.str ⟨#[]⟩), (.int .i64 0), (.int .i64 0), (.int .i64 0)]) [(0, (.t 133))]))),
 (none, (.e (.app 135 66 9 88 (.t 132) (.t 134)))),
 (none, (.v (.fld 136 2 (.t 12)))),
 (none, (.e (.store 1 false (.t 136) (.t 135))))])
 (.ops [(none, (.v (.build 137 [(.int .i64 0), (.int .i64 0), (.str ⟨#[]⟩), (.int .i64 0), (.int .i64 0), (.str ⟨#[]⟩), (.int .i64 0), (.int .i64 0), (.int .i64 0)] []))),
 (none, (.e (.store 9 true (.t 14) (.t 137))))]))
 .skip))))))))
 (.ops [(none, (.v (.mov 87 (.t 15)))),
 (none, (.v (.bin 88 .add false (.t 87) (.c (.int .i64 1))))),
 (none, (.v (.mov 15 (.t 88))))]))))))
 (.seq (.ops [(none, (.v (.load 138 true 3 (.t 12)))),
 (none, (.e (.store 3 true (.t 6) (.t 138)))),
 (none, (.v (.mov 7 (.c (.int .i64 0)))))])
 .ret))))))))))))
theorem ok14 : FnOk E 14 139 [.cell 6 33, .tmp 7] mc14 := .of func14 (by kernel_rfl) (by kernel_rfl) (by kernel_rfl) (by kernel_rfl) (by kernel_rfl)
end Go.Proofs.Try
namespace Go.Proofs.Try
open Go.Al
set_option linter.unusedVariables false
set_option linter.unusedSimpArgs false
set_option maxRecDepth 20000
set_option maxHeartbeats 8000000

theorem ti33 : E.TI 33 = some ⟨.struct [(0, 3), (1, 3), (2, 31)], 3, 40, [.int .i64 0, .int .i64 0, .slice none 0 0], true, true, false⟩ := rfl
/-- A histogram whose bars are only read from here on. -/
theorem keepH_i {Q : AV → List AObj → Prop} {H : List AObj} {x : AV} {n m e : Int} {l : List Bar} (hx : Weak (pa H [] true 6 x) (.view 9 (l.map Bar.av))) (h : Q (.tup [(Hist.mk n m l).av, .int .i64 e]) []) : keepQ 0 Q (.tup [.agg [.int .i64 n, .int .i64 m, x], .int .i64 e]) H := by
  refine keepw_i [] true rfl (by simp) rfl (r' := .tup [(Hist.mk n m l).av, .int .i64 e]) ?_ h
  simp only [pa_tup, List.map_cons, List.map_nil, pa_agg, pa_int]
  exact WeakL.tup (WeakL.cons (WeakL.agg (WeakL.cons (.refl _) (WeakL.cons (.refl _) (WeakL.cons hx (.refl _))))) (.refl _))
theorem zbar_cs : zBar.cs = [.int .i64 0, .int .i64 0, .str ⟨#[]⟩, .int .i64 0, .int .i64 0, .str ⟨#[]⟩, .int .i64 0, .int .i64 0, .int .i64 0] := rfl
theorem c33' (l : List (List VL)) (col : Int) (hc : ∀ r ∈ l, 0 ≤ col ∧ col < (r.length : Int)) (hl60 : l.length ≤ 1048576) : ACalls E.P 33 [.view 1 (l.map rowV), .int .i64 col] [] (fun r H => r = .slc 0 3 (valuesC l col.toNat).length ∧ H = [.arr 40 3 ((valuesC l col.toNat).map VL.av)]) := by
  rcases Int.le_total 0 col with h | h
  · obtain ⟨c, rfl⟩ : ∃ c : Nat, col = c := ⟨col.toNat, by omega⟩
    rw [Int.toNat_natCast]
    exact c33 l c (fun r hr => by have := hc r hr; omega) hl60
  · by_cases h0 : col = 0
    · subst h0
      exact c33 l 0 (fun r hr => by have := hc r hr; omega) hl60
    · have hl : l = [] := by
        cases l with
        | nil => rfl
        | cons r l => have := (hc r (by simp)).1; omega
      subst hl
      refine ok33.acalls hE hm (by simp) fun N hN => ?_
      unfold mc33
      simp only [lA, ptrCells, ptrAdd, isNil, readsV, readsP, isCall, wrote, srcOf, seval]
      refine loop_i (fun i : Nat => True) (fun i => ⟨[(0, .view 1 []), (1, .int .i64 col), (5, .slc 0 3 0), (6, .int .i64 0)], [.arr 40 3 []]⟩) (fun i => 0) 0 trivial
        (Ent.ghost' 5 40 3 (by omega) rfl (Ent.to [0] false (by simp) (by simp) rfl (by simp only [lP, seval] <;> (try simp) <;> (try omega)) (by simp only [lP, seval] <;> (try simp) <;> (try omega)))) ?_
      rintro i -
      repeat' (first
       | (with_reducible apply St.o; constructor) <;> intro _
       | with_reducible first | refine LenR_i fun _ => ?_ | refine And.intro (by omega) ?_ | (apply Sp.o; constructor) | refine mkl_own ?_ | refine frz0_i ?_
       | simp (maxSteps := 1000000) (disch := omega) only [lE, ptrCells, ptrAdd, isNil, readsV, readsP, isCall, wrote, srcOf, seval, List.length_nil, Int.lt_irrefl, decide_false])
      exact keep_i [0] false (by simp) (by simp) rfl ⟨by simp only [lP, seval]; rfl, by simp only [lP, seval]; rfl⟩
theorem c14 (l : List (List VL)) (col most : Int) (hf : fewR l) : ACalls E.P 14 [.view 1 (l.map rowV), .int .i64 col, .int .i64 most] [] (fun r H => r = .tup [(histOf l col most).1.av, .int .i64 (histOf l col most).2] ∧ H = []) := by
  have hmax := maxLen_eq
  have hno : argOk l col most = false → histOf l col most = (h0, 1) := fun h => by rw [histOf, h]; rfl
  refine ok14.acalls hE hm (by simp) fun N hN => ?_
  unfold mc14
  simp only [lA, ptrCells, ptrAdd, isNil, readsV, readsP, isCall, wrote, srcOf, seval]
  refine loop_i (fun i : Nat => i ≤ l.length ∧ ∀ r ∈ l.take i, 0 ≤ col ∧ col < (r.length : Int)) (fun i => ⟨[(0, .view 1 (l.map rowV)), (1, .int .i64 col), (2, .int .i64 most), (6, .op 0 0), (7, .int .i64 0), (8, .int .i64 i)], [.box [.int .i64 0, .int .i64 0, .raw (.slice none 0 0)]]⟩) (fun i => l.length - i) 0 ⟨by omega, by simp⟩ (Ent.to [0] false (by simp) (by simp) rfl (by simp only [lP, seval, List.length_map] <;> (try simp) <;> (try omega)) (by simp only [lP, seval, List.length_map] <;> (try simp) <;> (try omega))) ?_
  rintro i ⟨hi, ha⟩
  by_cases hil : i < l.length
  · have hng : ¬ (0 ≤ col ∧ col < ((l.getD i default).length : Int)) → argOk l col most = false := fun h => by
      simp only [argOk, Bool.and_eq_false_iff, decide_eq_false_iff_not]
      exact .inl fun h2 => h (h2 _ (getD_mem hil))
    have hnx := all_next (P := fun r : List VL => 0 ≤ col ∧ col < (r.length : Int)) hil ha
    repeat' (first
     | (with_reducible apply St.o; constructor) <;> intro _
     | with_reducible first | refine LenR_i fun _ => ?_ | refine And.intro (by omega) ?_ | (apply Sp.o; constructor) | refine mkl_own ?_ | refine frz0_i ?_
     | simp (maxSteps := 1000000) (disch := omega) only [lE, ptrCells, ptrAdd, isNil, readsV, readsP, isCall, wrote, srcOf, seval, IdxR_rows, Int.toNat_natCast, List.length_map, ti33])
    all_goals try (exfalso; omega)
    all_goals try (rw [hno (hng (by omega))]; exact keepH_i (l := []) weak_nil ⟨rfl, rfl⟩)
    exact back_i (i + 1) ⟨by omega, hnx (by omega)⟩ (by omega) (Ent.to [0] false (by simp) (by simp) rfl (by simp only [lP, seval] <;> (try simp) <;> (try omega)) (by simp only [lP, seval] <;> (try simp) <;> (try omega)))
  · have hie : i = l.length := by omega
    subst hie
    rw [List.take_length] at ha
    have hng : ¬ (1 ≤ most ∧ most ≤ 100) → argOk l col most = false := fun h => by
      simp only [argOk, Bool.and_eq_false_iff, decide_eq_false_iff_not]
      omega
    by_cases hmo : 1 ≤ most ∧ most ≤ 100
    · have harg : argOk l col most = true := by
        simp only [argOk, Bool.and_eq_true, decide_eq_true_eq]
        exact ⟨ha, hmo⟩
      have h60 := hf.2
      have h33 := lendV (c33' l col ha (by omega))
      have hvl := valuesC_le l col.toNat
      have hh : histOf l col most = if oneKind (valuesC l col.toNat) = true then
        (⟨l.length, l.length - (valuesC l col.toNat).length, (barsN (valuesC l col.toNat) (diffV (valuesC l col.toNat)) (depthV (valuesC l col.toNat).length most) (diffV (valuesC l col.toNat)).length).1⟩, 0) else (h0, 7) := by rw [histOf, if_pos harg]
      rw [hh]
      generalize valuesC l col.toNat = vs at *
      repeat' (first
       | (with_reducible apply St.o; constructor) <;> intro _
       | with_reducible first | refine LenR_i fun _ => ?_ | refine And.intro (by omega) ?_ | (apply Sp.o; constructor) | refine mkl_own ?_ | refine frz0_i ?_
       | ((with_reducible apply Sc.o false; constructor); simp only [lP, seval, List.length_map, Int.lt_irrefl, decide_false]; refine ⟨_, h33, ?_⟩; rintro _ _ ⟨rfl, rfl⟩; simp only [lA, lP, ptrCells, ptrAdd, isNil, readsV, readsP, isCall, wrote, srcOf, seval, List.length_map, Int.lt_irrefl, decide_false])
       | simp (maxSteps := 1000000) (disch := omega) only [lE, ptrCells, ptrAdd, isNil, readsV, readsP, isCall, wrote, srcOf, seval, List.length_map, Int.lt_irrefl, decide_false])
      all_goals try (exfalso; omega)
      refine loop_i (fun i : Nat => i ≤ vs.length ∧ ∀ v ∈ vs.take i, v.k = (vs.getD 0 default).k) (fun i => ⟨[(0, .view 1 (l.map rowV)), (1, .int .i64 col), (2, .int .i64 most), (6, .op 0 0), (7, .int .i64 0), (9, .view 3 (vs.map VL.av)), (10, .int .i64 i)], [.box [.int .i64 0, .int .i64 0, .raw (.slice none 0 0)]]⟩) (fun i => vs.length - i) 0 ⟨by omega, by simp⟩ (Ent.to [0] false (by simp) (by simp) rfl (by simp only [lP, seval, List.length_map] <;> (try simp) <;> (try omega)) (by simp only [lP, seval, List.length_map] <;> (try simp) <;> (try omega))) ?_
      rintro i ⟨hi, hk⟩
      by_cases hiv : i < vs.length
      · have hnx := all_next (P := fun v : VL => v.k = (vs.getD 0 default).k) hiv hk
        repeat' (first
         | (with_reducible apply St.o; constructor) <;> intro _
         | with_reducible first | refine LenR_i fun _ => ?_ | refine And.intro (by omega) ?_ | (apply Sp.o; constructor) | refine mkl_own ?_ | refine frz0_i ?_
         | simp (maxSteps := 1000000) (disch := omega) only [lE, ptrCells, ptrAdd, isNil, readsV, readsP, isCall, wrote, srcOf, seval, IdxR_vls, Int.toNat_natCast, Int.toNat_zero, List.length_map, ti33])
        all_goals try (exfalso; omega)
        · rename_i h1 h2
          have hok : oneKind vs = false := by
            simp only [oneKind, decide_eq_false_iff_not]
            exact fun h => h2 (h _ (getD_mem hiv))
          rw [hok]
          exact keepH_i (l := []) weak_nil ⟨rfl, rfl⟩
        · rename_i h1 h2
          exact back_i (i + 1) ⟨by omega, hnx (by simpa using h2)⟩ (by omega) (Ent.to [0] false (by simp) (by simp) rfl (by simp only [lP, seval] <;> (try simp) <;> (try omega)) (by simp only [lP, seval] <;> (try simp) <;> (try omega)))
      · have hie : i = vs.length := by omega
        subst hie
        rw [List.take_length] at hk
        have hok : oneKind vs = true := by simpa only [oneKind, decide_eq_true_eq] using hk
        rw [if_pos hok]
        have hdle := diffV_le vs []
        rw [show vs.foldl withV [] = diffV vs from rfl] at hdle
        simp only [List.length_nil] at hdle
        have h32 := lendV (c32 vs (by omega))
        generalize hd : diffV vs = d at *
        have hq0 : 0 ≤ (vs.length : Int).tdiv most := Int.tdiv_nonneg (by omega) (by omega)
        have hq1 : (vs.length : Int).tdiv most ≤ vs.length := Int.tdiv_le_self _ (by omega)
        have hdp : depthV vs.length most = (vs.length : Int).tdiv most + (if 0 < (vs.length : Int).tmod most then 1 else 0) := rfl
        have hm0 : ¬ most = 0 := by omega
        generalize hq : (vs.length : Int).tdiv most = q at *
        generalize hr : (vs.length : Int).tmod most = r at *
        rw [hdp]
        have main : ∀ (dp : Int) (fr : List (Nat × AV)), 0 ≤ dp ∧ dp ≤ 100 → get fr 6 = .op 0 0 → get fr 7 = .int .i64 0 → get fr 9 = .view 3 (vs.map VL.av) → get fr 11 = .int .i64 dp → get fr 12 = .op 1 0 → get fr 13 = .view 3 (d.map VL.av) → get fr 14 = .op 2 0 → get fr 15 = .int .i64 0 →
            Ent 0 N ⟨fr, [.box [.int .i64 0, .int .i64 0, .raw (.slice none 0 0)], .box [.int .i64 l.length, .int .i64 (l.length - vs.length), .raw (.slice none 0 0)], .box [.int .i64 0, .int .i64 0, .str ⟨#[]⟩, .int .i64 0, .int .i64 0, .str ⟨#[]⟩, .int .i64 0, .int .i64 0, .int .i64 0]]⟩
              ⟨[(6, .op 0 0), (7, .int .i64 0), (9, .view 3 (vs.map VL.av)), (11, .int .i64 dp), (12, .op 1 0), (13, .view 3 (d.map VL.av)), (14, .op 2 0), (15, .int .i64 0)], [.box [.int .i64 0, .int .i64 0, .raw (.slice none 0 0)], .box [.int .i64 l.length, .int .i64 (l.length - vs.length), .slc 3 9 0], .box zBar.cs, .arr 66 9 []]⟩ := by
          intro dp fr _ a b c d e f g h
          refine Ent.trans (Ent.ghostB 1 2 66 9 (by omega) rfl rfl) (Ent.fr ?_)
          simp [FrSub, Go.Al.get, a, b, c, d, e, f, g, h]
        repeat' (first
         | (with_reducible apply St.o; constructor) <;> intro _
         | with_reducible first | refine LenR_i fun _ => ?_ | refine And.intro (by omega) ?_ | (apply Sp.o; constructor) | refine mkl_own ?_ | refine frz0_i ?_
         | ((with_reducible apply Sc.o false; constructor); simp only [lP, seval, List.length_map, Int.lt_irrefl, decide_false, hq, hr, hm0]; refine ⟨_, h32, ?_⟩; rintro _ _ ⟨rfl, rfl⟩; simp only [lA, lP, ptrCells, ptrAdd, isNil, readsV, readsP, isCall, wrote, srcOf, seval, List.length_map, Int.lt_irrefl, decide_false, hq, hr, hm0])
         | simp (maxSteps := 1000000) (disch := omega) only [lE, ptrCells, ptrAdd, isNil, readsV, readsP, isCall, wrote, srcOf, seval, List.length_map, Int.lt_irrefl, decide_false, hq, hr, hm0])
        all_goals (
          obtain ⟨e, he, he0⟩ : ∃ e : Int, (if 0 < r then 1 else 0) = e ∧ 0 ≤ e ∧ e ≤ 1 := ⟨_, rfl, by split <;> omega⟩
          rw [he]
          refine loop_i (fun k : Nat => k ≤ d.length) (fun k => ⟨[(6, .op 0 0), (7, .int .i64 0), (9, .view 3 (vs.map VL.av)), (11, .int .i64 (q + e)), (12, .op 1 0), (13, .view 3 (d.map VL.av)), (14, .op 2 0), (15, .int .i64 k)], [.box [.int .i64 0, .int .i64 0, .raw (.slice none 0 0)], .box [.int .i64 l.length, .int .i64 (l.length - vs.length), .slc 3 9 (barsN vs d (q + e) k).1.length], .box (barsN vs d (q + e) k).2.cs, .arr 66 9 ((barsN vs d (q + e) k).1.map Bar.av)]⟩) (fun k => d.length - k) 0 (by omega) (main (q + e) _ (by omega) rfl rfl rfl (by rw [← he]; simp [Go.Al.get, *]) rfl rfl rfl rfl) ?_
          intro k hk'
          have hbl := barsN_le vs d (q + e) k
          by_cases hkl : k < d.length
          · have h45 := c45 vs (d.getD k default)
            have hnx := barsN_succ vs d (q + e) k
            have htl := timesV_le vs (d.getD k default)
            have hb60 : (barsN vs d (q + e) k).2.rows ≤ 3600 := by
              have h1 : (k : Int) * vs.length ≤ 60 * 60 := Int.mul_le_mul (by omega) (by omega) (by omega) (by omega)
              omega
            simp only [vl_av] at h45
            rcases hbq : barsN vs d (q + e) k with ⟨out, ⟨lo, hi, rows, least, most'⟩⟩
            simp only [hbq] at hbl hnx hb60 ⊢
            generalize timesV vs (d.getD k default) = t at *
            generalize hdk : d.getD k default = v at *
            simp only [Bar.more] at hnx
            have hr1 : rows = 0 ∨ ¬ rows = 0 := by omega
            have hfl : (q + e ≤ rows + t ∨ k + 1 = d.length) ∨ ¬ (q + e ≤ rows + t ∨ k + 1 = d.length) := by omega
            repeat' (first
             | (with_reducible apply St.o; constructor) <;> intro _
             | with_reducible first | refine LenR_i fun _ => ?_ | refine And.intro (by omega) ?_ | (apply Sp.o; constructor) | refine mkl_own ?_ | refine frz0_i ?_
             | ((with_reducible apply Sc.o true; constructor); simp only [lP, seval, IdxR_vls, Int.toNat_natCast, List.length_map, hdk, List.mem_singleton, List.length_append, List.length_cons, List.length_nil, fillE]; refine ⟨_, h45, ?_⟩; rintro _ _ ⟨rfl, rfl⟩; simp only [lA, lP, ptrCells, ptrAdd, isNil, readsV, readsP, isCall, wrote, srcOf, seval, IdxR_vls, Int.toNat_natCast, List.length_map, hdk, List.mem_singleton, List.length_append, List.length_cons, List.length_nil, fillE])
             | with_reducible refine any_i [2] ?_
             | simp (maxSteps := 1000000) (disch := omega) only [lE, ptrCells, ptrAdd, isNil, readsV, readsP, isCall, wrote, srcOf, seval, IdxR_vls, Int.toNat_natCast, List.length_map, hdk, List.mem_singleton, List.length_append, List.length_cons, List.length_nil, fillE])
            all_goals
              rcases hr1 with hr1 | hr1
              all_goals try (exfalso; omega)
              all_goals
                rcases hfl with hfl | hfl
                · first
                  | (exfalso; omega)
                  | (first
                     | rw [if_pos hr1, if_pos hfl] at hnx
                     | rw [if_neg hr1, if_pos hfl] at hnx
                     exact back_i (k + 1) (by omega) (by omega) (Ent.to [0, 1, 2, 5] false (by simp) (by simp) rfl (by simp only [lP, seval, hnx, zbar_cs, List.map_append, List.map_cons, List.map_nil, List.length_append, List.length_cons, List.length_nil, pa_bars, bar_av, pa_agg] <;> (try simp) <;> (try omega)) (by simp only [lP, seval, hnx, zbar_cs, List.map_append, List.map_cons, List.map_nil, List.length_append, List.length_cons, List.length_nil, pa_bars, bar_av, pa_agg] <;> (try simp) <;> (try omega))))
                · first
                  | (exfalso; omega)
                  | (first
                     | rw [if_pos hr1, if_neg hfl] at hnx
                     | rw [if_neg hr1, if_neg hfl] at hnx
                     exact back_i (k + 1) (by omega) (by omega) (Ent.to [0, 1, 2, 3] false (by simp) (by simp) rfl (by simp only [lP, seval, hnx, pa_bars] <;> (try simp) <;> (try omega)) (by simp only [lP, seval, hnx, pa_bars] <;> (try simp) <;> (try omega))))
          · have hie : k = d.length := by omega
            subst hie
            repeat' (first
             | (with_reducible apply St.o; constructor) <;> intro _
             | with_reducible first | refine LenR_i fun _ => ?_ | refine And.intro (by omega) ?_ | (apply Sp.o; constructor) | refine mkl_own ?_ | refine frz0_i ?_
             | simp (maxSteps := 1000000) (disch := omega) only [lE, ptrCells, ptrAdd, isNil, readsV, readsP, isCall, wrote, srcOf, seval, List.length_map, Int.lt_irrefl, decide_false, ti33])
            refine keepH_i (l := (barsN vs d (q + e) d.length).1) ?_ ⟨rfl, rfl⟩
            simp only [lP, seval, List.length_map, vw_bars]
            exact .refl _)
    · rw [hno (hng hmo)]
      repeat' (first
       | (with_reducible apply St.o; constructor) <;> intro _
       | with_reducible first | refine LenR_i fun _ => ?_ | refine And.intro (by omega) ?_ | (apply Sp.o; constructor) | refine mkl_own ?_ | refine frz0_i ?_
       | simp (maxSteps := 1000000) (disch := omega) only [lE, ptrCells, ptrAdd, isNil, readsV, readsP, isCall, wrote, srcOf, seval, List.length_map, Int.lt_irrefl, decide_false, ti33])
      all_goals try (exfalso; omega)
      all_goals exact keepH_i (l := []) weak_nil ⟨rfl, rfl⟩
end Go.Proofs.Try

namespace Go.Proofs.Try
open Go.Al
set_option maxRecDepth 100000
/-- alum/stats.Histogram -/
def mc13 : MC :=
 (.seq (.ops [(none, (.e (.box 4 (.t 1)))),
 (none, (.e (.alloc 6 [(.int .i64 0), (.int .i64 0), (.raw (.slice none 0 0))]))),
 (none, (.v (.mov 7 (.c (.int .i64 0)))))])
 (.seq (.seq (.ops [(none, (.v (.mov 17 (.t 0)))),
 (none, (.p (.len 18 (.t 17)))),
 (none, (.v (.bin 19 .gtr false (.t 18) (.c (.int .i64 16777216)))))])
 (.cond 19
 (.seq (.ops [(none, (.v (.build 20 [(.int .i64 0), (.int .i64 0), (.raw (.slice none 0 0))] []))),
 (none, (.e (.store 3 true (.t 6) (.t 20)))),
 (none, (.v (.mov 7 (.c (.int .i64 2)))))])
 .ret)
 .skip))
 (.seq (.seq (.ops [(none, (.v (.mov 21 (.t 2)))),
 (none, (.v (.bin 22 .lss false (.t 21) (.c (.int .i64 1))))),
 (none, (.v (.mov 23 (.t 22)))),
 ((some (23, false)), (.v (.mov 24 (.t 2)))),
 ((some (23, false)), (.v (.bin 25 .gtr false (.t 24) (.c (.int .i64 100))))),
 (none, (.v (.pick 26 (.t 23) (.c (.bool true)) (.t 25)))),
 (none, (.v (.mov 27 (.t 26)))),
 ((some (27, false)), (.v (.mov 28 (.t 0)))),
 ((some (27, false)), (.v (.fn 29 (.func 39) [] [(.t 4)]))),
 ((some (27, false)), (.e (.call (some 30) 37 [(.t 28), (.t 29)]))),
 (none, (.v (.pick 31 (.t 27) (.c (.bool true)) (.t 30))))])
 (.cond 31
 (.seq (.ops [(none, (.v (.build 32 [(.int .i64 0), (.int .i64 0), (.raw (.slice none 0 0))] []))),
 (none, (.e (.store 3 true (.t 6) (.t 32)))),
 (none, (.v (.mov 7 (.c (.int .i64 1)))))])
 .ret)
 .skip))
 (.seq (.ops [(none, (.e (.alloc 8 [(.raw (.slice none 0 0))])))])
 (.seq (.seq (.ops [(none, (.v (.mov 33 (.t 0)))),
 (none, (.p (.len 34 (.t 33)))),
 (none, (.v (.mov 35 (.c (.int .i64 0)))))])
 (.block 0 (.loop (.seq (.ops [(none, (.v (.bin 36 .lss false (.t 35) (.t 34))))])
 (.seq (.cond 36
 .skip
 (.exit 0))
 (.seq (.block 1 (.seq (.ops [(none, (.p (.idx 37 1 (.t 33) (.t 35)))),
 (none, (.v (.load 38 false 1 (.t 37)))),
 (none, (.v (.mov 10 (.t 38))))])
 (.seq (.ops [(none, (.v (.mov 39 (.t 10)))),
 (none, (.v (.load 40 false 1 (.t 4)))),
 (none, (.p (.idx 41 3 (.t 39) (.t 40)))),
 (none, (.v (.fld 42 0 (.t 41)))),
 (none, (.v (.load 43 false 1 (.t 42)))),
 (none, (.v (.bin 44 .neq false (.t 43) (.c (.int .i64 0)))))])
 (.cond 44
 (.any true (.pure0 none (.v (.mov 46 (.t 10)))
 (.pure0 none (.v (.load 47 false 1 (.t 4)))
 (.pure0 none (.p (.idx 48 3 (.t 46) (.t 47)))
 (.pure0 none (.v (.load 49 true 3 (.t 48)))
 (.alt none (.v (.load 45 false 1 (.t 8)))
 (.alt none (.e (.mkl 50 40 3 1 (.agg [(.int .i64 0), (.int .i64 0), (.str ⟨#[]⟩)]) [(0, (.t 49))]))
 (.alt none (.e (.app 51 40 3 32 (.t 45) (.t 50)))
 (.alt none (.e (.store 1 false (.t 8) (.t 51)))
 .done
 .stop)
 .stop)
 .stop)
 (.alt none (.e (.mkl 50 40 3 1 (.agg [(.int .i64 0), (.int .i64 0), (.str ⟨#[]⟩)]) [(0, (.t 49))]))
 (.alt none (.v (.load 45 false 1 (.t 8)))
 (.alt none (.e (.app 51 40 3 32 (.t 45) (.t 50)))
 (.alt none (.e (.store 1 false (.t 8) (.t 51)))
 .done
 .stop)
 .stop)
 .stop)
 .stop)))))))
 .skip))))
 (.ops [(none, (.v (.bin 52 .add false (.t 35) (.c (.int .i64 1))))),
 (none, (.v (.mov 35 (.t 52))))])))))))
 (.seq (.seq (.ops [(none, (.v (.load 53 false 1 (.t 8)))),
 (none, (.v (.fn 54 (.func 41) [] [(.t 8)]))),
 (none, (.e (.call (some 55) 40 [(.t 53), (.t 54)])))])
 (.cond 55
 (.seq (.ops [(none, (.v (.build 56 [(.int .i64 0), (.int .i64 0), (.raw (.slice none 0 0))] []))),
 (none, (.e (.store 3 true (.t 6) (.t 56)))),
 (none, (.v (.mov 7 (.c (.int .i64 7)))))])
 .ret)
 .skip))
 (.seq (.ops [(none, (.v (.mov 11 (.c (.fn (.func 42) [] [])))))])
 (.seq (.ops [(none, (.v (.load 57 false 1 (.t 8)))),
 (none, (.v (.mov 58 (.t 11)))),
 (none, (.e (.call (some 59) 44 [(.t 57), (.t 58)])))])
 (.seq (.ops [(none, (.v (.mov 60 (.t 0)))),
 (none, (.p (.len 61 (.t 60)))),
 (none, (.v (.mov 62 (.t 0)))),
 (none, (.p (.len 63 (.t 62)))),
 (none, (.v (.load 64 false 1 (.t 8)))),
 (none, (.p (.len 65 (.t 64)))),
 (none, (.v (.bin 66 .sub false (.t 63) (.t 65)))),
 (none, (.v (.build 67 [(.int .i64 0), (.int .i64 0), (.raw (.slice none 0 0))] [(0, 1, (.t 61)), (1, 1, (.t 66))]))),
 (none, (.e (.alloc 12 [(.int .i64 0), (.int .i64 0), (.raw (.slice none 0 0))]))),
 (none, (.e (.store 3 true (.t 12) (.t 67))))])
 (.seq (.ops [(none, (.v (.load 68 false 1 (.t 8)))),
 (none, (.p (.len 69 (.t 68)))),
 (none, (.v (.mov 70 (.t 2)))),
 (none, (.v (.bin 71 .add false (.t 69) (.t 70)))),
 (none, (.v (.bin 72 .sub false (.t 71) (.c (.int .i64 1))))),
 (none, (.v (.mov 73 (.t 2)))),
 (none, (.p (.quo 74 (.t 72) (.t 73)))),
 (none, (.v (.mov 13 (.t 74))))])
 (.seq (.ops [(none, (.e (.alloc 14 [(.int .i64 0), (.int .i64 0), (.str ⟨#[]⟩), (.int .i64 0), (.int .i64 0), (.str ⟨#[]⟩), (.int .i64 0), (.int .i64 0), (.int .i64 0)])))])
 (.seq (.seq (.ops [(none, (.v (.load 75 false 1 (.t 8)))),
 (none, (.p (.len 76 (.t 75)))),
 (none, (.v (.mov 77 (.c (.int .i64 0)))))])
 (.block 2 (.loop (.seq (.ops [(none, (.v (.bin 78 .lss false (.t 77) (.t 76))))])
 (.seq (.cond 78
 .skip
 (.exit 2))
 (.seq (.block 3 (.seq (.ops [(none, (.v (.mov 79 (.t 77)))),
 (none, (.p (.idx 80 3 (.t 75) (.t 77)))),
 (none, (.v (.load 81 true 3 (.t 80)))),
 (none, (.e (.alloc 16 [(.int .i64 0), (.int .i64 0), (.str ⟨#[]⟩)]))),
 (none, (.v (.mov 15 (.t 79)))),
 (none, (.e (.store 3 true (.t 16) (.t 81))))])
 (.seq (.seq (.ops [(none, (.v (.fld 82 6 (.t 14)))),
 (none, (.v (.load 83 false 1 (.t 82)))),
 (none, (.v (.bin 84 .eql false (.t 83) (.c (.int .i64 0)))))])
 (.cond 84
 (.ops [(none, (.v (.load 85 true 3 (.t 16)))),
 (none, (.v (.fld 86 0 (.t 14)))),
 (none, (.e (.store 3 true (.t 86) (.t 85))))])
 .skip))
 (.seq (.ops [(none, (.v (.fld 87 6 (.t 14)))),
 (none, (.v (.load 88 false 1 (.t 87)))),
 (none, (.v (.bin 89 .add false (.t 88) (.c (.int .i64 1))))),
 (none, (.v (.fld 90 6 (.t 14)))),
 (none, (.e (.store 1 false (.t 90) (.t 89))))])
 (.seq (.seq (.any false (.pure0 none (.v (.mov 91 (.t 15)))
 (.pure0 none (.v (.bin 92 .add false (.t 91) (.c (.int .i64 1))))
 (.pure0 none (.v (.load 93 false 1 (.t 8)))
 (.pure0 none (.p (.len 94 (.t 93)))
 (.pure0 none (.v (.bin 95 .lss false (.t 92) (.t 94)))
 (.pure0 none (.v (.mov 96 (.t 95)))
 (.pure0 (some (96, true)) (.v (.load 97 false 1 (.t 8)))
 (.pure0 (some (96, true)) (.v (.mov 98 (.t 15)))
 (.pure0 (some (96, true)) (.v (.bin 99 .add false (.t 98) (.c (.int .i64 1))))
 (.pure0 (some (96, true)) (.p (.idx 100 3 (.t 97) (.t 99)))
 (.pure0 (some (96, true)) (.v (.load 101 true 3 (.t 100)))
 (.pure0 (some (96, true)) (.v (.load 102 true 3 (.t 16)))
 (.pure0 (some (96, true)) (.v (.eq 103 false (.agg [(0, false, 1, .int), (1, false, 1, .int), (2, false, 1, .str)]) (.t 101) (.t 102)))
 (.pure0 none (.v (.pick 104 (.t 96) (.t 103) (.c (.bool false))))
 .done)))))))))))))))
 (.cond 104
 (.exit 3)
 .skip))
 (.seq (.ops [(none, (.v (.load 105 true 3 (.t 16)))),
 (none, (.v (.fld 106 3 (.t 14)))),
 (none, (.e (.store 3 true (.t 106) (.t 105))))])
 (.seq (.ops [(none, (.v (.fld 107 7 (.t 14)))),
 (none, (.v (.load 108 false 1 (.t 107)))),
 (none, (.v (.bin 109 .add false (.t 108) (.c (.int .i64 1))))),
 (none, (.v (.fld 110 7 (.t 14)))),
 (none, (.e (.store 1 false (.t 110) (.t 109))))])
 (.seq (.ops [(none, (.v (.fld 111 6 (.t 14)))),
 (none, (.v (.load 112 false 1 (.t 111)))),
 (none, (.v (.mov 113 (.t 13)))),
 (none, (.v (.bin 114 .geq false (.t 112) (.t 113)))),
 (none, (.v (.mov 115 (.t 114)))),
 ((some (115, false)), (.v (.mov 116 (.t 15)))),
 ((some (115, false)), (.v (.bin 117 .add false (.t 116) (.c (.int .i64 1))))),
 ((some (115, false)), (.v (.load 118 false 1 (.t 8)))),
 ((some (115, false)), (.p (.len 119 (.t 118)))),
 ((some (115, false)), (.v (.bin 120 .eql false (.t 117) (.t 119)))),
 (none, (.v (.pick 121 (.t 115) (.c (.bool true)) (.t 120))))])
 (.cond 121
 (.seq (.ops [(none, (.v (.fld 122 7 (.t 14)))),
 (none, (.v (.load 123 false 1 (.t 122)))),
 (none, (.v (.fld 124 8 (.t 14)))),
 (none, (.e (.store 1 false (.t 124) (.t 123))))])
 (.seq (.ops [(none, (.v (.fld 125 2 (.t 12)))),
 (none, (.v (.load 126 false 1 (.t 125)))),
 (none, (.v (.load 127 true 9 (.t 14)))),
 (none, (.e (.mkl 128 66 9 1 (.agg [(.int .i64 0), (.int .i64 0), (.str ⟨#[]⟩), (.int .i64 0), (.int .i64 0), (.str ⟨#[]⟩), (.int .i64 0), (.int .i64 0), (.int .i64 0)]) [(0, (.t 127))]))),
 (none, (.e (.app 129 66 9 88 (.t 126) (.t 128)))),
 (none, (.v (.fld 130 2 (.t 12)))),
 (none, (.e (.store 1 false (.t 130) (.t 129))))])
 (.ops [(none, (.v (.build 131 [(.int .i64 0), (.int .i64 0), (.str ⟨#[]⟩), (.int .i64 0), (.int .i64 0), (.str ⟨#[]⟩), (.int .i64 0), (.int .i64 0), (.int .i64 0)] []))),
 (none, (.e (.store 9 true (.t 14) (.t 131))))])))
 .skip)))))))))
 (.ops [(none, (.v (.bin 132 .add false (.t 77) (.c (.int .i64 1))))),
 (none, (.v (.mov 77 (.t 132))))])))))))
 (.seq (.ops [(none, (.v (.load 133 true 3 (.t 12)))),
 (none, (.e (.store 3 true (.t 6) (.t 133)))),
 (none, (.v (.mov 7 (.c (.int .i64 0)))))])
 .ret)))))))))))))
theorem ok13 : FnOk E 13 134 [.cell 6 33, .tmp 7] mc13 := .of func13 (by kernel_rfl) (by kernel_rfl) (by kernel_rfl) (by kernel_rfl) (by kernel_rfl)
end Go.Proofs.Try
namespace Go.Proofs.Try
open Go.Al
set_option linter.unusedVariables false
set_option linter.unusedSimpArgs false
set_option maxRecDepth 20000
set_option maxHeartbeats 8000000

theorem mem23a : ((2 : Nat) ∈ ([2, 3] : List Nat)) = True := by simp
theorem mem23b : ((3 : Nat) ∈ ([2, 3] : List Nat)) = True := by simp
theorem andT : (true && (true && (true && true))) = true := rfl
theorem c13 (l : List (List VL)) (col most : Int) (hf : fewR l) : ACalls E.P 13 [.view 1 (l.map rowV), .int .i64 col, .int .i64 most] [] (fun r H => r = .tup [(histOf l col most).1.av, .int .i64 (histOf l col most).2] ∧ H = []) := by
  have hmax := maxLen_eq
  have hno : argOk l col most = false → histOf l col most = (h0, 1) := fun h => by rw [histOf, h]; rfl
  have h37 := c37 l 39 [.vp [.int .i64 col]] (fun r => decide (col < 0) || decide ((r.length : Int) ≤ col)) (fun r _ => c39 r col) (fun _ _ _ => rfl) (fun _ _ _ => rfl)
  have hany : l.any (fun r => decide (col < 0) || decide ((r.length : Int) ≤ col)) = !decide (∀ r ∈ l, 0 ≤ col ∧ col < (r.length : Int)) := by
    rw [Bool.eq_iff_iff, List.any_eq_true, Bool.not_eq_true', decide_eq_false_iff_not]
    simp only [Bool.or_eq_true, decide_eq_true_eq]
    constructor
    · rintro ⟨r, hr, h⟩ h2
      have := h2 r hr
      omega
    · intro h
      apply Classical.byContradiction
      intro h2
      exact h fun r hr => by
        have : ¬ (col < 0 ∨ (r.length : Int) ≤ col) := fun h3 => h2 ⟨r, hr, h3⟩
        omega
  rw [hany] at h37
  have hng : ¬ ((∀ r ∈ l, 0 ≤ col ∧ col < (r.length : Int)) ∧ 1 ≤ most ∧ most ≤ 100) → argOk l col most = false := fun h => by
    rw [Bool.eq_false_iff]
    intro h2
    simp only [argOk, Bool.and_eq_true, decide_eq_true_eq] at h2
    exact h h2
  have h60 := hf.2
  refine ok13.acalls hE hm (by simp) fun N hN => ?_
  unfold mc13
  simp only [lA, ptrCells, ptrAdd, isNil, readsV, readsP, isCall, wrote, srcOf, seval]
  repeat' (first
   | (with_reducible apply St.o; constructor) <;> intro _
   | with_reducible first | refine LenR_i fun _ => ?_ | refine And.intro (by omega) ?_ | (apply Sp.o; constructor) | refine mkl_own ?_ | refine frz0_i ?_
   | ((with_reducible apply Sc.o true; constructor); simp only [lP, seval, List.length_map, ti33]; refine ⟨_, h37, ?_⟩; rintro _ _ ⟨rfl, rfl⟩; simp only [lA, lP, ptrCells, ptrAdd, isNil, readsV, readsP, isCall, wrote, srcOf, seval, List.length_map, ti33])
   | simp (maxSteps := 1000000) (disch := omega) only [lE, ptrCells, ptrAdd, isNil, readsV, readsP, isCall, wrote, srcOf, seval, List.length_map, ti33])
  all_goals try (exfalso; omega)
  all_goals try (rw [hno (hng (fun h => by first | omega | exact absurd h.1 (by assumption)))]; exact keepH_i (l := []) weak_nil ⟨rfl, rfl⟩)
  rename_i h1 h2 ha
  have harg : argOk l col most = true := by
    simp only [argOk, Bool.and_eq_true, decide_eq_true_eq]
    exact ⟨ha, by omega, by omega⟩
  have hvl := fun i => valuesC_le (l.take i) col.toNat
  have hh : histOf l col most = if oneKind (valuesC l col.toNat) = true then
    (⟨l.length, l.length - (valuesC l col.toNat).length, (barsN (valuesC l col.toNat) (diffV (valuesC l col.toNat)) (depthV (valuesC l col.toNat).length most) (diffV (valuesC l col.toNat)).length).1⟩, 0) else (h0, 7) := by rw [histOf, if_pos harg]
  refine loop_i (fun i : Nat => i ≤ l.length) (fun i => ⟨[(0, .view 1 (l.map rowV)), (2, .int .i64 most), (4, .op 0 0), (6, .op 1 0), (7, .int .i64 0), (8, .op 2 0), (33, .view 1 (l.map rowV)), (34, .int .i64 l.length), (35, .int .i64 i)], [.box [.int .i64 col], .box [.int .i64 0, .int .i64 0, .raw (.slice none 0 0)], .box [.slc 3 3 (valuesC (l.take i) col.toNat).length], .arr 40 3 ((valuesC (l.take i) col.toNat).map VL.av)]⟩) (fun i => l.length - i) 0 (by omega) (Ent.trans (Ent.ghostB 2 0 40 3 (by omega) rfl rfl) (Ent.to [0, 1, 2, 3] false (by simp) (by simp) rfl (by simp only [lP, seval, List.length_map, List.take_zero, valuesC, List.map_nil, List.filter_nil, List.length_nil] <;> (try simp) <;> (try omega)) (by simp only [lP, seval, List.length_map, List.take_zero, valuesC, List.map_nil, List.filter_nil, List.length_nil] <;> (try simp) <;> (try omega)))) ?_
  intro i hi
  by_cases hil : i < l.length
  · have hlen := ha _ (getD_mem hil)
    have hnx := valuesC_next (c := col.toNat) hil
    have hvi := hvl i
    simp only [List.length_take] at hvi
    generalize hx : l.getD i default = x at *
    generalize hv : x.getD col.toNat default = v at *
    generalize valuesC (l.take i) col.toNat = q at *
    repeat' (first
     | (with_reducible apply St.o; constructor) <;> intro _
     | with_reducible first | refine LenR_i fun _ => ?_ | refine And.intro (by omega) ?_ | (apply Sp.o; constructor) | refine mkl_own ?_ | refine frz0_i ?_
     | with_reducible refine any_i [2, 3] ?_
     | simp (maxSteps := 1000000) (disch := omega) only [lE, ptrCells, ptrAdd, isNil, readsV, readsP, isCall, wrote, srcOf, seval, IdxR_rows, IdxR_vls, Int.toNat_natCast, List.length_map, hx, hv, fillE, List.length_cons, List.length_nil, mem23a, mem23b])
    all_goals try (exfalso; omega)
    · rename_i q1 q2
      rw [if_neg q2] at hnx
      exact back_i (i + 1) (by omega) (by omega) (Ent.to [0, 1, 2, 5] false (by simp) (by simp) rfl (by simp only [lP, seval, hnx, List.map_append, List.map_cons, List.map_nil, List.length_append, List.length_cons, List.length_nil, pa_vls, vl_av, pa_agg] <;> (try simp) <;> (try omega)) (by simp only [lP, seval, hnx, List.map_append, List.map_cons, List.map_nil, List.length_append, List.length_cons, List.length_nil, pa_vls, vl_av, pa_agg] <;> (try simp) <;> (try omega)))
    · rename_i q1 q2
      rw [if_neg q2] at hnx
      exact back_i (i + 1) (by omega) (by omega) (Ent.to [0, 1, 2, 5] false (by simp) (by simp) rfl (by simp only [lP, seval, hnx, List.map_append, List.map_cons, List.map_nil, List.length_append, List.length_cons, List.length_nil, pa_vls, vl_av, pa_agg] <;> (try simp) <;> (try omega)) (by simp only [lP, seval, hnx, List.map_append, List.map_cons, List.map_nil, List.length_append, List.length_cons, List.length_nil, pa_vls, vl_av, pa_agg] <;> (try simp) <;> (try omega)))
    · rename_i q1 q2
      rw [if_pos q2, List.append_nil] at hnx
      exact back_i (i + 1) (by omega) (by omega) (Ent.to [0, 1, 2, 3] false (by simp) (by simp) rfl (by simp only [lP, seval, hnx, pa_vls] <;> (try simp) <;> (try omega)) (by simp only [lP, seval, hnx, pa_vls] <;> (try simp) <;> (try omega)))
  · have hie : i = l.length := by omega
    subst hie
    have hvi := hvl l.length
    rw [List.take_length] at *
    have hvr : ∀ v ∈ valuesC l col.toNat, v.Right := valuesC_right fun r hr => (hf.1 r hr).1
    rw [hh]
    clear hh hvl
    generalize valuesC l col.toNat = vs at *
    have h40 := c40 vs 41 [.vp [.view 3 (vs.map VL.av)]] (fun v => !decide (v.k = (vs.getD 0 default).k)) (fun v hv => c41 v vs (List.ne_nil_of_mem hv)) (fun _ _ _ => rfl) (fun _ _ _ => rfl)
    have hany : vs.any (fun v => !decide (v.k = (vs.getD 0 default).k)) = !oneKind vs := by
      rw [Bool.eq_iff_iff, List.any_eq_true, Bool.not_eq_true', oneKind, decide_eq_false_iff_not]
      simp
    rw [hany] at h40
    have hq0 : 0 ≤ (vs.length : Int).tdiv most := Int.tdiv_nonneg (by omega) (by omega)
    have hq1 : (vs.length : Int).tdiv most ≤ vs.length := Int.tdiv_le_self _ (by omega)
    have hm0 : ¬ most = 0 := by omega
    have hdp : ((vs.length : Int) + most - 1).tdiv most = depthV vs.length most := by
      rw [depthV, Int.tdiv_eq_ediv_of_nonneg (by omega), Int.tdiv_eq_ediv_of_nonneg (by omega), Int.tmod_eq_emod_of_nonneg (by omega)]
      have h1 := Int.mul_ediv_add_emod (vs.length : Int) most
      have h2 := Int.emod_nonneg (vs.length : Int) hm0
      have h3 := Int.emod_lt_of_pos (vs.length : Int) (show 0 < most by omega)
      generalize (vs.length : Int) / most = a at *
      generalize (vs.length : Int) % most = b at *
      rw [← h1]
      split
      · rw [show most * a + b + most - 1 = (b - 1) + (a + 1) * most by rw [Int.add_mul, Int.mul_comm]; omega, Int.add_mul_ediv_right _ _ hm0, Int.ediv_eq_zero_of_lt (by omega) (by omega)]
        omega
      · rw [show most * a + b + most - 1 = (most - 1) + a * most by rw [Int.mul_comm]; omega, Int.add_mul_ediv_right _ _ hm0, Int.ediv_eq_zero_of_lt (by omega) (by omega)]
        omega
    have hdp0 : 0 ≤ depthV vs.length most ∧ depthV vs.length most ≤ 100 := by
      unfold depthV
      split <;> omega
    generalize depthV vs.length most = dp at *
    repeat' (first
     | (with_reducible apply St.o; constructor) <;> intro _
     | with_reducible first | refine LenR_i fun _ => ?_ | refine And.intro (by omega) ?_ | (apply Sp.o; constructor) | refine mkl_own ?_ | refine frz0_i ?_
     | ((with_reducible apply Sc.o true; constructor); simp only [lP, seval, List.length_map, Int.lt_irrefl, decide_false, ti33, vw_vls]; refine ⟨_, h40, ?_⟩; rintro _ _ ⟨rfl, rfl⟩; simp only [lA, lP, ptrCells, ptrAdd, isNil, readsV, readsP, isCall, wrote, srcOf, seval, List.length_map, Int.lt_irrefl, decide_false, ti33, vw_vls])
     | simp (maxSteps := 1000000) (disch := omega) only [lE, ptrCells, ptrAdd, isNil, readsV, readsP, isCall, wrote, srcOf, seval, List.length_map, Int.lt_irrefl, decide_false, ti33, vw_vls])
    · rename_i g1
      rw [if_neg (by simpa using g1)]
      exact keepH_i (l := []) weak_nil ⟨rfl, rfl⟩
    · rename_i g1
      rw [if_pos (by simpa using g1)]
      refine callN_i [3] false (by simp) (by simp) ?_
      simp only [lP, seval, pa_vls]
      refine ⟨_, c44 vs (by omega), ?_⟩
      rintro _ _ ⟨rfl, s, hs1, hs2, rfl⟩
      simp only [lA, lP, ptrCells, ptrAdd, isNil, readsV, readsP, isCall, wrote, srcOf, seval, renL_vls]
      have hsl := hs1.length_eq
      have hsr := srt_reps hvr hs2 hs1
      clear hs1 hs2
      repeat' (first
       | (with_reducible apply St.o; constructor) <;> intro _
       | with_reducible first | refine LenR_i fun _ => ?_ | refine And.intro (by omega) ?_ | (apply Sp.o; constructor) | refine mkl_own ?_ | refine frz0_i ?_
       | simp (maxSteps := 1000000) (disch := omega) only [lE, ptrCells, ptrAdd, isNil, readsV, readsP, isCall, wrote, srcOf, seval, List.length_map, hdp, hm0])
      have hasc := (diffV_spec vs hvr).1
      have hmem : ∀ v ∈ diffV vs, v ∈ vs := fun v hv => ((diffV_spec vs hvr).2 v).1 hv
      have hdle := diffV_le vs []
      rw [show vs.foldl withV [] = diffV vs from rfl] at hdle
      simp only [List.length_nil] at hdle
      generalize diffV vs = d at *
      have hz : ∀ v, midBar zBar v 0 = zBar := fun v => by simp [midBar, zBar]
      refine loop_i (fun x : Nat × Nat × Nat => x.1 ≤ s.length ∧ ((x.2.1 < d.length ∧ x.2.2 < timesV vs (d.getD x.2.1 default) ∧ s.drop x.1 = leftV vs d x.2.1 x.2.2) ∨ (x.2.1 = d.length ∧ x.2.2 = 0 ∧ x.1 = s.length)))
        (fun x => ⟨[(6, .op 1 0), (7, .int .i64 0), (8, .op 2 0), (12, .op 4 0), (13, .int .i64 dp), (14, .op 5 0), (75, .slc 3 3 vs.length), (76, .int .i64 vs.length), (77, .int .i64 x.1)],
          [.box [.int .i64 col], .box [.int .i64 0, .int .i64 0, .raw (.slice none 0 0)], .box [.slc 3 3 vs.length], .arr 40 3 (s.map VL.av), .box [.int .i64 l.length, .int .i64 (l.length - vs.length), .slc 6 9 (barsN vs d dp x.2.1).1.length], .box (midBar (barsN vs d dp x.2.1).2 (d.getD x.2.1 default) x.2.2).cs, .arr 66 9 ((barsN vs d dp x.2.1).1.map Bar.av)]⟩)
        (fun x => s.length - x.1) (0, 0, 0) ⟨by omega, ?_⟩ (Ent.trans (Ent.ghostB 4 2 66 9 (by omega) rfl rfl) (Ent.to [0, 1, 2, 3, 4, 5, 6] false (by simp) (by simp) rfl (by simp only [lP, seval, barsN, hz, zbar_cs, List.map_nil, List.length_nil, pa_vls] <;> (try simp) <;> (try omega)) (by simp only [lP, seval, barsN, hz, zbar_cs, List.map_nil, List.length_nil, pa_vls] <;> (try simp) <;> (try omega)))) ?_
      · rcases Nat.eq_zero_or_pos d.length with h0 | h0
        · right
          have hd0 : d = [] := List.eq_nil_of_length_eq_zero h0
          subst hd0
          refine ⟨rfl, rfl, ?_⟩
          rw [hsr]; rfl
        · left
          refine ⟨h0, times_pos (hmem _ (getD_mem h0)), ?_⟩
          rw [← reps_drop h0, List.drop_zero, List.drop_zero]
          exact hsr
      rintro ⟨i, k, p⟩ ⟨hi', hx⟩
      simp only at hi' hx ⊢
      rcases hx with ⟨hkl, hpt, hdr⟩ | ⟨rfl, rfl, rfl⟩
      · have hbl := barsN_le vs d dp k
        have hnx := barsN_succ vs d dp k
        obtain ⟨hi1, hvi, hA, hB⟩ := left_step hasc hmem hkl hpt hdr
        have htl := timesV_le vs (d.getD k default)
        have hb60 : (barsN vs d dp k).2.rows ≤ 3600 := by
          have h1 : (k : Int) * vs.length ≤ 60 * 60 := Int.mul_le_mul (by omega) (by omega) (by omega) (by omega)
          omega
        have hx1 : (s.map VL.av)[i]? = some (s.getD i default).av := by simp [hi1]
        have hx2 : i + 1 < s.length → (s.map VL.av)[i + 1]? = some (s.getD (i + 1) default).av := fun h => by simp [h]
        have hj : ((i : Int) + 1).toNat = i + 1 := by omega
        rcases hbq : barsN vs d dp k with ⟨out, ⟨lo, hi0, rows, least, most'⟩⟩
        have hmore : p + 1 = timesV vs (d.getD k default) → Bar.more ⟨lo, hi0, rows, least, most'⟩ (d.getD k default) (timesV vs (d.getD k default)) = ⟨if rows = 0 then d.getD k default else lo, d.getD k default, rows + p + 1, least + 1, least + 1⟩ := fun h => by
          rw [hbq] at hbl
          exact more_eq h hbl.2.2.2.2.2
        simp only [hbq] at hbl hnx hb60 ⊢
        generalize hdk : d.getD k default = v at *
        rw [hvi] at hx1
        generalize ht : timesV vs v = t at *
        have hA' : midBar ⟨lo, hi0, rows, least, most'⟩ v (p + 1) = ⟨if rows = 0 then v else lo, hi0, rows + p + 1, least, 0⟩ := by
          simp only [midBar, Nat.add_one_ne_zero, if_false, Bar.mk.injEq, true_and, and_true]
          omega
        have hB' : ∀ (nl u : VL) (a b c : Int), midBar ⟨nl, v, a, b, c⟩ u 0 = ⟨nl, v, a, b, 0⟩ := fun nl u a b c => by simp [midBar]
        have hmid : midBar ⟨lo, hi0, rows, least, most'⟩ v p = ⟨if p = 0 then lo else if rows = 0 then v else lo, hi0, rows + p, least, 0⟩ := rfl
        have hn1 : rows + p = 0 → v = (if rows = 0 then v else lo) := fun h => by rw [if_pos (by omega)]
        have hn2 : ¬ rows + p = 0 → (if p = 0 then lo else if rows = 0 then v else lo) = (if rows = 0 then v else lo) := fun h => by
          by_cases h0 : p = 0
          · rw [if_pos h0, if_neg (by omega)]
          · rw [if_neg h0]
        rw [hmid]
        clear hmid
        generalize (if rows = 0 then v else lo) = nl at *
        generalize (if p = 0 then lo else nl) = lo1 at *
        by_cases hpt2 : p + 1 < t
        · obtain ⟨g1, g2, g3⟩ := hA hpt2
          have hx2 := hx2 g1
          rw [g2] at hx2
          repeat' (first
           | (with_reducible apply St.o; constructor) <;> intro _
           | with_reducible first | refine LenR_i fun _ => ?_ | refine And.intro (by omega) ?_ | (apply Sp.o; constructor) | refine mkl_own ?_ | refine frz0_i ?_ | refine any_i [] ?_
           | simp (maxSteps := 1000000) (disch := omega) only [lE, ptrCells, ptrAdd, isNil, readsV, readsP, isCall, wrote, srcOf, seval, epR_map, hx1, hx2, hj, vl_av, Int.toNat_natCast, List.length_map, hsl, andT])
          all_goals try (exfalso; omega)
          · rename_i q1 q2 q3
            have e := (hn1 q2).symm
            exact back_i (i + 1, k, p + 1) ⟨by simp only; omega, .inl ⟨hkl, by simp only [hdk, ht]; exact hpt2, g3⟩⟩ (by simp only; omega) (Ent.to [0, 1, 2, 3, 4, 5, 6] false (by simp) (by simp) rfl (by simp only [lP, seval, hbq, hdk, hA', e, pa_vls, pa_bars] <;> (try simp) <;> (try omega)) (by simp only [lP, seval, hbq, hdk, hA', e, pa_vls, pa_bars] <;> (try simp) <;> (try omega)))
          · rename_i q1 q2 q3
            have e := hn2 q2
            exact back_i (i + 1, k, p + 1) ⟨by simp only; omega, .inl ⟨hkl, by simp only [hdk, ht]; exact hpt2, g3⟩⟩ (by simp only; omega) (Ent.to [0, 1, 2, 3, 4, 5, 6] false (by simp) (by simp) rfl (by simp only [lP, seval, hbq, hdk, hA', e, pa_vls, pa_bars] <;> (try simp) <;> (try omega)) (by simp only [lP, seval, hbq, hdk, hA', e, pa_vls, pa_bars] <;> (try simp) <;> (try omega)))
        · have hpe : p + 1 = t := by omega
          obtain ⟨g1, g2, g3⟩ := hB hpe
          rw [hmore hpe] at hnx
          simp only at hnx
          have hend : (k + 1 < d.length ∧ i + 1 < s.length ∧ ¬ s.getD (i + 1) default = v) ∨ (k + 1 = d.length ∧ i + 1 = s.length) := by
            rcases Nat.lt_or_ge (k + 1) d.length with h | h
            · exact .inl ⟨h, (g3 h).1, (g3 h).2⟩
            · have : k + 1 = d.length := by omega
              exact .inr ⟨this, g2 this⟩
          have hnext : i + 1 ≤ s.length ∧ ((k + 1 < d.length ∧ 0 < timesV vs (d.getD (k + 1) default) ∧ s.drop (i + 1) = leftV vs d (k + 1) 0) ∨ (k + 1 = d.length ∧ (0 : Nat) = 0 ∧ i + 1 = s.length)) := by
            rcases hend with ⟨h1, h2, _⟩ | ⟨h1, h2⟩
            · exact ⟨by omega, .inl ⟨h1, times_pos (hmem _ (getD_mem h1)), by rw [g1, reps_drop h1]⟩⟩
            · exact ⟨by omega, .inr ⟨h1, rfl, h2⟩⟩
          have hu1 : i + 1 < s.length → ¬ s.getD (i + 1) default = v := fun h => by
            rcases hend with h' | h'
            · exact h'.2.2
            · omega
          rw [hsl] at hnext
          generalize s.getD (i + 1) default = u at *
          repeat' (first
           | (with_reducible apply St.o; constructor) <;> intro _
           | with_reducible first | refine LenR_i fun _ => ?_ | refine And.intro (by omega) ?_ | (apply Sp.o; constructor) | refine mkl_own ?_ | refine frz0_i ?_ | refine any_i [] ?_
           | simp (maxSteps := 1000000) (disch := omega) only [lE, ptrCells, ptrAdd, isNil, readsV, readsP, isCall, wrote, srcOf, seval, epR_map, hx1, hx2, hj, vl_av, Int.toNat_natCast, List.length_map, hsl, vl_eq, vl_eq2, fillE, List.length_cons, List.length_nil])
          all_goals try (exfalso; first | omega | exact hu1 (by omega) (by assumption))
          all_goals
            have hz01 : rows + p = 0 ∨ ¬ rows + p = 0 := by omega
            have hfl : (dp ≤ rows + p + 1 ∨ k + 1 = d.length) ∨ ¬ (dp ≤ rows + p + 1 ∨ k + 1 = d.length) := by omega
            rcases hfl with hfl | hfl
            · first
              | (exfalso; omega)
              | (rw [if_pos hfl] at hnx
                 rcases hz01 with hz0 | hz0
                 · first
                   | (exfalso; omega)
                   | (have e := (hn1 hz0).symm
                      exact back_i (i + 1, k + 1, 0) hnext (by simp only; omega) (Ent.to [0, 1, 2, 3, 4, 5, 9] false (by simp) (by simp) rfl (by simp only [lP, seval, hnx, hz, e, zbar_cs, List.map_append, List.map_cons, List.map_nil, List.length_append, List.length_cons, List.length_nil, pa_vls, pa_bars, bar_av, pa_agg] <;> (try simp) <;> (try omega)) (by simp only [lP, seval, hnx, hz, e, zbar_cs, List.map_append, List.map_cons, List.map_nil, List.length_append, List.length_cons, List.length_nil, pa_vls, pa_bars, bar_av, pa_agg] <;> (try simp) <;> (try omega))))
                 · first
                   | (exfalso; omega)
                   | (have e := hn2 hz0
                      exact back_i (i + 1, k + 1, 0) hnext (by simp only; omega) (Ent.to [0, 1, 2, 3, 4, 5, 9] false (by simp) (by simp) rfl (by simp only [lP, seval, hnx, hz, e, zbar_cs, List.map_append, List.map_cons, List.map_nil, List.length_append, List.length_cons, List.length_nil, pa_vls, pa_bars, bar_av, pa_agg] <;> (try simp) <;> (try omega)) (by simp only [lP, seval, hnx, hz, e, zbar_cs, List.map_append, List.map_cons, List.map_nil, List.length_append, List.length_cons, List.length_nil, pa_vls, pa_bars, bar_av, pa_agg] <;> (try simp) <;> (try omega)))))
            · first
              | (exfalso; omega)
              | (rw [if_neg hfl] at hnx
                 rcases hz01 with hz0 | hz0
                 · first
                   | (exfalso; omega)
                   | (have e := (hn1 hz0).symm
                      exact back_i (i + 1, k + 1, 0) hnext (by simp only; omega) (Ent.to [0, 1, 2, 3, 4, 5, 6] false (by simp) (by simp) rfl (by simp only [lP, seval, hnx, hB', e, pa_vls, pa_bars] <;> (try simp) <;> (try omega)) (by simp only [lP, seval, hnx, hB', e, pa_vls, pa_bars] <;> (try simp) <;> (try omega))))
                 · first
                   | (exfalso; omega)
                   | (have e := hn2 hz0
                      exact back_i (i + 1, k + 1, 0) hnext (by simp only; omega) (Ent.to [0, 1, 2, 3, 4, 5, 6] false (by simp) (by simp) rfl (by simp only [lP, seval, hnx, hB', e, pa_vls, pa_bars] <;> (try simp) <;> (try omega)) (by simp only [lP, seval, hnx, hB', e, pa_vls, pa_bars] <;> (try simp) <;> (try omega)))))
      · repeat' (first
         | (with_reducible apply St.o; constructor) <;> intro _
         | with_reducible first | refine LenR_i fun _ => ?_ | refine And.intro (by omega) ?_ | (apply Sp.o; constructor) | refine mkl_own ?_ | refine frz0_i ?_
         | simp (maxSteps := 1000000) (disch := omega) only [lE, ptrCells, ptrAdd, isNil, readsV, readsP, isCall, wrote, srcOf, seval, List.length_map, hsl, Int.lt_irrefl, decide_false, ti33])
        refine keepH_i (l := (barsN vs d dp d.length).1) ?_ ⟨rfl, rfl⟩
        simp only [lP, seval, List.length_map, vw_bars]
        exact .refl _
end Go.Proofs.Try
