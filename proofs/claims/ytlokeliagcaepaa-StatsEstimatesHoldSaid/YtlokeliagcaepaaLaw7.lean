/-
  For the histograms: what Estimate and Distinct bound lies between their bounds, and both bounds are equal if every bar has one value, whatever the rows and the range.
-/
import Derived.Test.YtlokeliagcaepaaEauf
import Derived.Test.YtlokeliagcaepaaPar
import Derived.Test.YtlokeliagcaepaaReads
import Derived.Test.YtlokeliagcaepaaRows
set_option linter.unusedSimpArgs false
set_option linter.unusedVariables false
namespace Go.Proofs.Try
open Go.Al
set_option maxRecDepth 100000
/-- alum/alumlaw39.StatsEstimatesHold -/
def mc7 : MC :=
 (.seq (.ops [(none, (.e (.box 9 (.t 4)))),
 (none, (.v (.mov 10 (.c (.bool false)))))])
 (.seq (.ops [(none, (.v (.mov 27 (.t 0)))),
 (none, (.v (.mov 28 (.t 2)))),
 (none, (.v (.mov 29 (.t 3)))),
 (none, (.e (.call (some 30) 29 [(.t 27), (.t 28), (.t 29)]))),
 (none, (.v (.mov 26 (.t 30)))),
 (none, (.v (.ext 31 0 (.t 26)))),
 (none, (.v (.ext 32 1 (.t 26)))),
 (none, (.e (.alloc 11 [(.int .i64 0), (.int .i64 0), (.raw (.slice none 0 0))]))),
 (none, (.e (.store 3 true (.t 11) (.t 31)))),
 (none, (.v (.mov 12 (.t 32))))])
 (.seq (.ops [(none, (.v (.mov 34 (.t 1)))),
 (none, (.v (.mov 35 (.t 2)))),
 (none, (.v (.mov 36 (.t 3)))),
 (none, (.p (.quo 37 (.t 36) (.c (.int .u8 2))))),
 (none, (.e (.call (some 38) 29 [(.t 34), (.t 35), (.t 37)]))),
 (none, (.v (.mov 33 (.t 38)))),
 (none, (.v (.ext 39 0 (.t 33)))),
 (none, (.v (.ext 40 1 (.t 33)))),
 (none, (.e (.alloc 13 [(.int .i64 0), (.int .i64 0), (.raw (.slice none 0 0))]))),
 (none, (.e (.store 3 true (.t 13) (.t 39)))),
 (none, (.v (.mov 14 (.t 40))))])
 (.seq (.ops [(none, (.v (.load 41 true 11 (.t 9)))),
 (none, (.e (.call (some 42) 26 [(.t 41)]))),
 (none, (.v (.mov 15 (.t 42))))])
 (.seq (.seq (.ops [(none, (.v (.mov 43 (.t 12)))),
 (none, (.v (.not 44 (.t 43)))),
 (none, (.v (.mov 45 (.t 44)))),
 ((some (45, false)), (.v (.mov 46 (.t 14)))),
 ((some (45, false)), (.v (.not 47 (.t 46)))),
 (none, (.v (.pick 48 (.t 45) (.c (.bool true)) (.t 47)))),
 (none, (.v (.mov 49 (.t 48)))),
 ((some (49, false)), (.v (.mov 50 (.t 15)))),
 ((some (49, false)), (.v (.not 51 (.t 50)))),
 (none, (.v (.pick 52 (.t 49) (.c (.bool true)) (.t 51))))])
 (.cond 52
 (.seq (.ops [(none, (.e (.call (some 53) 10 []))),
 (none, (.v (.mov 10 (.t 53))))])
 .ret)
 .skip))
 (.seq (.ops [(none, (.v (.load 55 true 3 (.t 11)))),
 (none, (.v (.load 56 true 3 (.t 13)))),
 (none, (.e (.call (some 57) 19 [(.t 55), (.t 56)]))),
 (none, (.v (.mov 54 (.t 57)))),
 (none, (.v (.ext 58 0 (.t 54)))),
 (none, (.v (.ext 59 1 (.t 54)))),
 (none, (.e (.alloc 16 [(.int .i64 0), (.int .i64 0), (.raw (.slice none 0 0))]))),
 (none, (.e (.store 3 true (.t 16) (.t 58)))),
 (none, (.v (.mov 17 (.t 59))))])
 (.seq (.ops [(none, (.v (.mov 60 (.t 0)))),
 (none, (.v (.mov 61 (.t 0)))),
 (none, (.p (.len 62 (.t 61)))),
 (none, (.v (.mov 63 (.t 0)))),
 (none, (.p (.len 64 (.t 63)))),
 (none, (.p (.pre3 65 1 (.t 60) (.t 62) (.t 64)))),
 (none, (.v (.mov 66 (.t 1)))),
 (none, (.e (.app 67 64 1 24 (.t 65) (.t 66)))),
 (none, (.v (.mov 18 (.t 67))))])
 (.seq (.seq (.ops [(none, (.v (.mov 68 (.t 17)))),
 (none, (.v (.bin 69 .neq false (.t 68) (.c (.int .i64 0))))),
 (none, (.v (.mov 70 (.t 69)))),
 ((some (70, false)), (.v (.mov 71 (.t 18)))),
 ((some (70, false)), (.p (.len 72 (.t 71)))),
 ((some (70, false)), (.v (.bin 73 .eql false (.t 72) (.c (.int .i64 0))))),
 (none, (.v (.pick 74 (.t 70) (.c (.bool true)) (.t 73))))])
 (.cond 74
 (.seq (.ops [(none, (.e (.call (some 75) 10 []))),
 (none, (.v (.mov 10 (.t 75))))])
 .ret)
 .skip))
 (.seq (.ops [(none, (.v (.mov 19 (.c (.int .i64 0)))))])
 (.seq (.seq (.ops [(none, (.v (.mov 20 (.c (.int .i64 0)))))])
 (.block 0 (.loop (.seq (.seq (.ops [(none, (.v (.mov 76 (.t 20)))),
 (none, (.v (.mov 77 (.t 18)))),
 (none, (.p (.len 78 (.t 77)))),
 (none, (.v (.bin 79 .lss false (.t 76) (.t 78))))])
 (.cond 79
 .skip
 (.exit 0)))
 (.seq (.block 1 (.seq (.any false (.pure0 none (.v (.load 82 true 11 (.t 9)))
 (.pure0 none (.v (.mov 83 (.t 18)))
 (.pure0 none (.v (.mov 84 (.t 20)))
 (.pure0 none (.p (.idx 85 1 (.t 83) (.t 84)))
 (.pure0 none (.v (.load 86 false 1 (.t 85)))
 (.pure0 none (.v (.mov 87 (.t 2)))
 (.pure0 none (.p (.idx 88 3 (.t 86) (.t 87)))
 (.pure0 none (.v (.load 89 true 3 (.t 88)))
 (.alt none (.e (.call (some 90) 31 [(.t 82), (.t 89)]))
 (.base .done)
 .stop))))))))))
 (.cond 90
 (.ops [(none, (.v (.mov 91 (.t 19)))),
 (none, (.v (.bin 92 .add false (.t 91) (.c (.int .i64 1))))),
 (none, (.v (.mov 19 (.t 92))))])
 .skip)))
 (.ops [(none, (.v (.mov 80 (.t 20)))),
 (none, (.v (.bin 81 .add false (.t 80) (.c (.int .i64 1))))),
 (none, (.v (.mov 20 (.t 81))))]))))))
 (.seq (.ops [(none, (.v (.mov 21 (.c (.bool true)))))])
 (.seq (.seq (.ops [(none, (.v (.mov 22 (.c (.int .i64 0)))))])
 (.block 2 (.loop (.seq (.seq (.ops [(none, (.v (.mov 93 (.t 22)))),
 (none, (.v (.fld 94 2 (.t 16)))),
 (none, (.v (.load 95 false 1 (.t 94)))),
 (none, (.p (.len 96 (.t 95)))),
 (none, (.v (.bin 97 .lss false (.t 93) (.t 96))))])
 (.cond 97
 .skip
 (.exit 2)))
 (.seq (.block 3 (.any false (.pure0 none (.v (.mov 100 (.t 21)))
 (.pure0 none (.v (.mov 101 (.t 100)))
 (.pure0 (some (101, true)) (.v (.fld 102 2 (.t 16)))
 (.pure0 (some (101, true)) (.v (.load 103 false 1 (.t 102)))
 (.pure0 (some (101, true)) (.v (.mov 104 (.t 22)))
 (.pure0 (some (101, true)) (.p (.idx 105 9 (.t 103) (.t 104)))
 (.pure0 (some (101, true)) (.v (.fld 106 0 (.t 105)))
 (.pure0 (some (101, true)) (.v (.load 107 true 3 (.t 106)))
 (.pure0 (some (101, true)) (.v (.fld 108 2 (.t 16)))
 (.pure0 (some (101, true)) (.v (.load 109 false 1 (.t 108)))
 (.pure0 (some (101, true)) (.v (.mov 110 (.t 22)))
 (.pure0 (some (101, true)) (.p (.idx 111 9 (.t 109) (.t 110)))
 (.pure0 (some (101, true)) (.v (.fld 112 3 (.t 111)))
 (.pure0 (some (101, true)) (.v (.load 113 true 3 (.t 112)))
 (.pure0 (some (101, true)) (.v (.eq 114 false (.agg [(0, false, 1, .int), (1, false, 1, .int), (2, false, 1, .str)]) (.t 107) (.t 113)))
 (.pure0 none (.v (.pick 115 (.t 101) (.t 114) (.c (.bool false))))
 (.pure0 none (.v (.mov 21 (.t 115)))
 .done)))))))))))))))))))
 (.ops [(none, (.v (.mov 98 (.t 22)))),
 (none, (.v (.bin 99 .add false (.t 98) (.c (.int .i64 1))))),
 (none, (.v (.mov 22 (.t 99))))]))))))
 (.seq (.ops [(none, (.v (.load 116 true 3 (.t 16)))),
 (none, (.v (.load 117 true 11 (.t 9)))),
 (none, (.e (.call (some 118) 27 [(.t 116), (.t 117)]))),
 (none, (.v (.ext 119 0 (.t 118)))),
 (none, (.v (.ext 120 1 (.t 118)))),
 (none, (.e (.call (some 121) 21 [(.t 119), (.t 120)]))),
 (none, (.e (.alloc 23 [(.int .i64 0), (.int .i64 0)]))),
 (none, (.e (.store 2 true (.t 23) (.t 121))))])
 (.seq (.ops [(none, (.v (.load 122 true 3 (.t 16)))),
 (none, (.e (.call (some 123) 22 [(.t 122)]))),
 (none, (.v (.ext 124 0 (.t 123)))),
 (none, (.v (.ext 125 1 (.t 123)))),
 (none, (.e (.call (some 126) 21 [(.t 124), (.t 125)]))),
 (none, (.e (.alloc 24 [(.int .i64 0), (.int .i64 0)]))),
 (none, (.e (.store 2 true (.t 24) (.t 126))))])
 (.seq (.ops [(none, (.v (.mov 127 (.t 18)))),
 (none, (.v (.mov 128 (.t 2)))),
 (none, (.e (.call (some 129) 33 [(.t 127), (.t 128)]))),
 (none, (.e (.call (some 130) 32 [(.t 129)]))),
 (none, (.p (.len 131 (.t 130)))),
 (none, (.v (.mov 25 (.t 131))))])
 (.seq (.ops [(none, (.e (.call (some 132) 10 []))),
 (none, (.v (.mov 133 (.t 132)))),
 ((some (133, true)), (.v (.fld 134 0 (.t 23)))),
 ((some (133, true)), (.v (.load 135 false 1 (.t 134)))),
 ((some (133, true)), (.v (.mov 136 (.t 19)))),
 ((some (133, true)), (.v (.bin 137 .leq false (.t 135) (.t 136)))),
 (none, (.v (.pick 138 (.t 133) (.t 137) (.c (.bool false))))),
 (none, (.v (.mov 139 (.t 138)))),
 ((some (139, true)), (.v (.mov 140 (.t 19)))),
 ((some (139, true)), (.v (.fld 141 1 (.t 23)))),
 ((some (139, true)), (.v (.load 142 false 1 (.t 141)))),
 ((some (139, true)), (.v (.bin 143 .leq false (.t 140) (.t 142)))),
 (none, (.v (.pick 144 (.t 139) (.t 143) (.c (.bool false))))),
 (none, (.v (.mov 145 (.t 144)))),
 ((some (145, true)), (.v (.fld 146 0 (.t 24)))),
 ((some (145, true)), (.v (.load 147 false 1 (.t 146)))),
 ((some (145, true)), (.v (.mov 148 (.t 25)))),
 ((some (145, true)), (.v (.bin 149 .leq false (.t 147) (.t 148)))),
 (none, (.v (.pick 150 (.t 145) (.t 149) (.c (.bool false))))),
 (none, (.v (.mov 151 (.t 150)))),
 ((some (151, true)), (.v (.mov 152 (.t 25)))),
 ((some (151, true)), (.v (.fld 153 1 (.t 24)))),
 ((some (151, true)), (.v (.load 154 false 1 (.t 153)))),
 ((some (151, true)), (.v (.bin 155 .leq false (.t 152) (.t 154)))),
 (none, (.v (.pick 156 (.t 151) (.t 155) (.c (.bool false))))),
 (none, (.v (.mov 157 (.t 156)))),
 ((some (157, true)), (.v (.mov 158 (.t 21)))),
 ((some (157, true)), (.v (.not 159 (.t 158)))),
 ((some (157, true)), (.v (.mov 160 (.t 159)))),
 ((some (160, false)), (.v (.fld 161 0 (.t 23)))),
 ((some (160, false)), (.v (.load 162 false 1 (.t 161)))),
 ((some (160, false)), (.v (.fld 163 1 (.t 23)))),
 ((some (160, false)), (.v (.load 164 false 1 (.t 163)))),
 ((some (160, false)), (.v (.bin 165 .eql false (.t 162) (.t 164)))),
 ((some (157, true)), (.v (.pick 166 (.t 160) (.c (.bool true)) (.t 165)))),
 (none, (.v (.pick 167 (.t 157) (.t 166) (.c (.bool false))))),
 (none, (.v (.mov 10 (.t 167))))])
 .ret))))))))))))))))
theorem ok7 : FnOk E 7 168 [.tmp 10] mc7 := .of func7 (by kernel_rfl) (by kernel_rfl) (by kernel_rfl) (by kernel_rfl) (by kernel_rfl)
end Go.Proofs.Try
namespace Go.Proofs.Try
open Go.Al
set_option linter.unusedVariables false
set_option linter.unusedSimpArgs false
set_option maxRecDepth 20000
set_option maxHeartbeats 8000000
/-- Are all bars single, of the first ones? -/
def exN (bs : List Bar) (i : Nat) : Bool := decide (∀ b ∈ bs.take i, b.lo = b.hi)
theorem exN_succ {bs : List Bar} {i : Nat} (h : i < bs.length) : exN bs (i + 1) = (exN bs i && decide ((bs.getD i default).lo = (bs.getD i default).hi)) := by
  unfold exN
  rw [take_succD h, Bool.eq_iff_iff]
  simp only [List.mem_append, List.mem_singleton, decide_eq_true_eq, Bool.and_eq_true]
  exact ⟨fun q => ⟨fun b hb => q b (.inl hb), q _ (.inr rfl)⟩, fun q b hb => hb.elim (q.1 b) (fun e => e ▸ q.2)⟩
def colV (w : List (List VL)) (c : Nat) : List VL := w.map fun r => r.getD c default
theorem inN_succ {w : List (List VL)} {c i : Nat} (x : RG) (h : i < w.length) : inN x (colV (w.take (i + 1)) c) = inN x (colV (w.take i) c) + cntB (x.has ((w.getD i default).getD c default)) := by
  rw [take_succD h]
  unfold inN colV S
  simp
theorem inN_le (x : RG) (w : List (List VL)) (c i : Nat) : 0 ≤ inN x (colV (w.take i) c) ∧ inN x (colV (w.take i) c) ≤ w.length := by
  refine ⟨S_nonneg fun v _ => cntB_nn _, ?_⟩
  have := S_le (g := fun v => cntB (x.has v)) (f := fun _ => 1) (V := colV (w.take i) c) fun v _ => by unfold cntB; split <;> simp
  rw [S_one] at this
  have h2 : (colV (w.take i) c).length ≤ w.length := by simp [colV]; omega
  unfold inN
  omega
theorem c7 (l k : List (List VL)) (col m : Int) (x : RG) (hm0 : 0 ≤ m ∧ m ≤ 255) : ACalls E.P 7 [.view 1 (l.map rowV), .view 1 (k.map rowV), .int .i64 col, .int .u8 m, .agg x.cs] [] (fun r H => r = .bool true ∧ H = []) := by
  have hmax := maxLen_eq
  have h10 := c10
  have h21 := c21
  have h26 := c26 x
  have hma : l.map rowV ++ k.map rowV = (l ++ k).map rowV := List.map_append.symm
  have hmt : ∀ i, (l.map rowV).take i = (l.take i).map rowV := fun i => List.map_take.symm
  have h2 : 0 ≤ m.tdiv 2 ∧ m.tdiv 2 ≤ 255 := by
    rw [Int.tdiv_eq_ediv_of_nonneg (by omega)]; omega
  have hw2 : IntKind.u8.wrap (m.tdiv 2) = m.tdiv 2 := by
    rw [IntKind.wrap_u8]; omega
  have h29a := c29 l col m hm0
  have h29b := c29 k col (m.tdiv 2) h2
  by_cases hk : ((madeOf l col m).2 = true ∧ (madeOf k col (m.tdiv 2)).2 = true) ∧ x.rt = true
  · obtain ⟨⟨hk1, hk2⟩, hx⟩ := hk
    obtain ⟨d1, l1, c1, v1⟩ := made_fact hk1
    obtain ⟨d2, l2, c2, v2⟩ := made_fact hk2
    rw [hk1] at h29a
    rw [hk2] at h29b
    rw [hx] at h26
    have h19 := c19d d1 d2 (by omega) (by omega)
    by_cases he : (mergeH mergeR (madeOf l col m).1 (madeOf k col (m.tdiv 2)).1).2 = 0
    · have d4 := merge_desc d1 d2 v1 v2 he
      rw [← valuesC_app, ← List.length_append] at d4
      have v4 : ∀ v ∈ valuesC (l ++ k) col.toNat, v.Right := fun v hv => by
        rw [valuesC_app] at hv
        exact (List.mem_append.1 hv).elim (v1 v) (v2 v)
      have c4 : ∀ r ∈ l ++ k, 0 ≤ col ∧ col < (r.length : Int) := fun r hr => (List.mem_append.1 hr).elim (c1 r) (c2 r)
      have l4 : (l ++ k).length ≤ 120 := by rw [List.length_append]; omega
      rw [he] at h19
      have z4 := d4.sz
      have o4 := d4.hok
      have h27 := c27 (mergeH mergeR (madeOf l col m).1 (madeOf k col (m.tdiv 2)).1).1 x (fun b hb => (z4.ok b hb).small) (by have := z4.few; omega)
      have h22 := c22 (mergeH mergeR (madeOf l col m).1 (madeOf k col (m.tdiv 2)).1).1 ⟨fun b hb => ⟨(z4.ok b hb).least0, (z4.ok b hb).least, (z4.ok b hb).most0, (z4.ok b hb).most⟩, by have := z4.few; omega⟩
      have h33 := lendV (c33' (l ++ k) col c4 (by omega))
      have hvl : (valuesC (l ++ k) col.toNat).length ≤ (l ++ k).length := Nat.le_trans (List.length_filter_le _ _) (by simp)
      have h32 := lendV (c32 (valuesC (l ++ k) col.toNat) (by omega))
      have est := est_holds (C := colV (l ++ k) col.toNat) (h := (mergeH mergeR (madeOf l col m).1 (madeOf k col (m.tdiv 2)).1).1) (by
        have : (colV (l ++ k) col.toNat).length = (l ++ k).length := by simp [colV]
        rw [this]; exact d4) v4 hx
      have dist := dist_holds d4 v4
      have exact' : exN (mergeH mergeR (madeOf l col m).1 (madeOf k col (m.tdiv 2)).1).1.bars (mergeH mergeR (madeOf l col m).1 (madeOf k col (m.tdiv 2)).1).1.bars.length = true → ((mergeH mergeR (madeOf l col m).1 (madeOf k col (m.tdiv 2)).1).1.est x).1 = ((mergeH mergeR (madeOf l col m).1 (madeOf k col (m.tdiv 2)).1).1.est x).2 := fun h => est_exact d4 (by simpa [exN] using h) x
      have few := z4.few
      clear d1 d2 d4 v1 v2 v4 z4 o4 hk1 hk2 he hx
      generalize (mergeH mergeR (madeOf l col m).1 (madeOf k col (m.tdiv 2)).1).1 = g at *
      generalize (madeOf l col m).1 = qa at *
      generalize (madeOf k col (m.tdiv 2)).1 = qb at *
      generalize hW : l ++ k = w at *
      generalize valuesC w col.toNat = V at *
      generalize Hist.est g x = es at *
      obtain ⟨a1, a2, a3⟩ := qa
      obtain ⟨b1, b2, b3⟩ := qb
      obtain ⟨g1, g2, g3⟩ := g
      obtain ⟨e1, e2⟩ := es
      simp only [hist_av, rg_av] at *
      have hwl : l.length + k.length = w.length := by rw [← hW, List.length_append]
      refine ok7.acalls hE hm (by simp) fun N hN => ?_
      unfold mc7
      simp only [lA, ptrCells, ptrAdd, isNil, readsV, readsP, isCall, wrote, srcOf, seval]
      repeat' (first
       | (with_reducible apply St.o; constructor) <;> intro _
       | with_reducible first | refine LenR_i fun _ => ?_ | refine And.intro (by omega) ?_ | (apply Sp.o; constructor) | refine mkl_own ?_ | refine frz0_i ?_
       | ((with_reducible apply Sc.o true; constructor); simp only [lP, seval, ti33, List.length_map, hma, hmt, hW, hw2, sc_rows, List.take_length, hwl]; (first | refine ⟨_, h26, ?_⟩ | refine ⟨_, h10, ?_⟩); rintro _ _ ⟨rfl, rfl⟩; simp only [lA, lP, ptrCells, ptrAdd, isNil, readsV, readsP, isCall, wrote, srcOf, seval, ti33, List.length_map, hma, hmt, hW, hw2, sc_rows, List.take_length, hwl])
       | ((with_reducible apply Sc.o false; constructor); simp only [lP, seval, ti33, List.length_map, hma, hmt, hW, hw2, sc_rows, List.take_length, hwl]; (first | refine ⟨_, h29a, ?_⟩ | refine ⟨_, h29b, ?_⟩ | refine ⟨_, h19, ?_⟩); rintro _ _ ⟨rfl, rfl⟩; simp only [lA, lP, ptrCells, ptrAdd, isNil, readsV, readsP, isCall, wrote, srcOf, seval, ti33, List.length_map, hma, hmt, hW, hw2, sc_rows, List.take_length, hwl])
       | simp (maxSteps := 1000000) (disch := omega) only [lE, ptrCells, ptrAdd, isNil, readsV, readsP, isCall, wrote, srcOf, seval, ti33, List.length_map, hma, hmt, hW, hw2, sc_rows, List.take_length, hwl])
      · exact keep0_i ⟨rfl, rfl⟩
      refine loop_i (fun i : Nat => i ≤ w.length) (fun i => ⟨[(2, .int .i64 col), (9, .op 0 0), (16, .op 3 0), (18, .view 1 (w.map rowV)), (19, .int .i64 (inN x (colV (w.take i) col.toNat))), (20, .int .i64 i)], [.box x.cs, .box (Hist.mk a1 a2 a3).cs, .box (Hist.mk b1 b2 b3).cs, .box (Hist.mk g1 g2 g3).cs]⟩) (fun i => w.length - i) 0 (by omega) (Ent.to [0, 1, 2, 3] false (by simp) (by simp) rfl (by simp only [lP, seval, List.take_zero, inN, colV, List.map_nil, S_nil, pa_bars] <;> (try simp) <;> (try omega)) (by simp only [lP, seval, List.take_zero, inN, colV, List.map_nil, S_nil, pa_bars] <;> (try simp) <;> (try omega))) ?_
      intro i hi
      have hle := inN_le x w col.toNat i
      by_cases hil : i < w.length
      · have hnx := inN_succ (c := col.toNat) x hil
        have hcr := c4 _ (getD_mem hil)
        generalize inN x (colV (w.take i) col.toNat) = P at *
        generalize hy : w.getD i default = y at *
        generalize hv : y.getD col.toNat default = v at *
        have h31 := c31 x v
        simp only [rg_av, vl_av] at h31
        repeat' (first
         | (with_reducible apply St.o; constructor) <;> intro _
         | with_reducible first | refine LenR_i fun _ => ?_ | refine And.intro (by omega) ?_ | (apply Sp.o; constructor) | refine mkl_own ?_ | refine frz0_i ?_ | refine any_i [] ?_
         | ((with_reducible apply Sc.o true; constructor); simp only [lP, seval, IdxR_rows, IdxR_vls, hy, hv, Int.toNat_natCast, List.length_map]; refine ⟨_, h31, ?_⟩; rintro _ _ ⟨rfl, rfl⟩; simp only [lA, lP, ptrCells, ptrAdd, isNil, readsV, readsP, isCall, wrote, srcOf, seval, IdxR_rows, IdxR_vls, hy, hv, Int.toNat_natCast, List.length_map])
         | simp (maxSteps := 1000000) (disch := omega) only [lE, ptrCells, ptrAdd, isNil, readsV, readsP, isCall, wrote, srcOf, seval, IdxR_rows, IdxR_vls, hy, hv, Int.toNat_natCast, List.length_map])
        all_goals try (exfalso; omega)
        · rename_i hh
          rw [hh] at hnx
          exact back_i (i + 1) (by omega) (by omega) (Ent.to [0, 1, 2, 3] false (by simp) (by simp) rfl (by simp only [lP, seval, hnx, cntB, if_true, pa_bars] <;> (try simp) <;> (try omega)) (by simp only [lP, seval, hnx, cntB, if_true, pa_bars] <;> (try simp) <;> (try omega)))
        · rename_i hh
          have hh' : x.has v = false := by simpa using hh
          rw [hh'] at hnx
          exact back_i (i + 1) (by omega) (by omega) (Ent.to [0, 1, 2, 3] false (by simp) (by simp) rfl (by simp only [lP, seval, hnx, cntB, Bool.false_eq_true, if_false, Int.add_zero, pa_bars] <;> (try simp) <;> (try omega)) (by simp only [lP, seval, hnx, cntB, Bool.false_eq_true, if_false, Int.add_zero, pa_bars] <;> (try simp) <;> (try omega)))
      have hie : i = w.length := by omega
      subst hie
      rw [List.take_length] at hle ⊢
      generalize inN x (colV w col.toNat) = P at *
      repeat' (first
       | (with_reducible apply St.o; constructor) <;> intro _
       | with_reducible first | refine LenR_i fun _ => ?_ | refine And.intro (by omega) ?_ | (apply Sp.o; constructor) | refine mkl_own ?_ | refine frz0_i ?_
       | simp (maxSteps := 1000000) (disch := omega) only [lE, ptrCells, ptrAdd, isNil, readsV, readsP, isCall, wrote, srcOf, seval, List.length_map, Int.lt_irrefl, decide_false])
      refine loop_i (fun i : Nat => i ≤ g3.length) (fun i => ⟨[(2, .int .i64 col), (9, .op 0 0), (16, .op 3 0), (18, .view 1 (w.map rowV)), (19, .int .i64 P), (21, .bool (exN g3 i)), (22, .int .i64 i)], [.box x.cs, .box (Hist.mk a1 a2 a3).cs, .box (Hist.mk b1 b2 b3).cs, .box (Hist.mk g1 g2 g3).cs]⟩) (fun i => g3.length - i) 0 (by omega) (Ent.to [0, 1, 2, 3] false (by simp) (by simp) rfl (by simp only [lP, seval, List.take_zero, exN, pa_bars] <;> (try simp) <;> (try omega)) (by simp only [lP, seval, List.take_zero, exN, pa_bars] <;> (try simp) <;> (try omega))) ?_
      intro i hi
      by_cases hil : i < g3.length
      · have hnx := exN_succ hil
        generalize exN g3 i = ex at *
        generalize hbb : g3.getD i default = b at *
        repeat' (first
         | (with_reducible apply St.o; constructor) <;> intro _
         | with_reducible first | refine LenR_i fun _ => ?_ | refine And.intro (by omega) ?_ | (apply Sp.o; constructor) | refine mkl_own ?_ | refine frz0_i ?_ | refine any_i [] ?_
         | simp (maxSteps := 1000000) (disch := omega) only [lE, ptrCells, ptrAdd, isNil, readsV, readsP, isCall, wrote, srcOf, seval, IdxR_bars, hbb, Int.toNat_natCast, List.length_map, vl_eq, vl_eq2])
        all_goals try (exfalso; omega)
        · rename_i hh
          have hh' : ex = true := by simpa using hh
          rw [hh', Bool.true_and] at hnx
          exact back_i (i + 1) (by omega) (by omega) (Ent.to [0, 1, 2, 3] false (by simp) (by simp) rfl (by simp only [lP, seval, hnx, pa_bars] <;> (try simp) <;> (try omega)) (by simp only [lP, seval, hnx, pa_bars] <;> (try simp) <;> (try omega)))
        · rename_i hh
          have hh' : ex = false := by simpa using hh
          rw [hh', Bool.false_and] at hnx
          exact back_i (i + 1) (by omega) (by omega) (Ent.to [0, 1, 2, 3] false (by simp) (by simp) rfl (by simp only [lP, seval, hnx, pa_bars] <;> (try simp) <;> (try omega)) (by simp only [lP, seval, hnx, pa_bars] <;> (try simp) <;> (try omega)))
      have hie : i = g3.length := by omega
      subst hie
      generalize exN g3 g3.length = ex at *
      repeat' (first
       | (with_reducible apply St.o; constructor) <;> intro _
       | with_reducible first | refine LenR_i fun _ => ?_ | refine And.intro (by omega) ?_ | (apply Sp.o; constructor) | refine mkl_own ?_ | refine frz0_i ?_
       | ((with_reducible apply Sc.o true; constructor); simp only [lP, seval, List.length_map, Int.lt_irrefl, decide_false]; (first | refine ⟨_, h27, ?_⟩ | refine ⟨_, h21 _ _, ?_⟩ | refine ⟨_, h22, ?_⟩ | refine ⟨_, h10, ?_⟩); rintro _ _ ⟨rfl, rfl⟩; simp only [lA, lP, ptrCells, ptrAdd, isNil, readsV, readsP, isCall, wrote, srcOf, seval, List.length_map, Int.lt_irrefl, decide_false])
       | ((with_reducible apply Sc.o false; constructor); simp only [lP, seval, List.length_map, Int.lt_irrefl, decide_false]; (first | refine ⟨_, h33, ?_⟩ | refine ⟨_, h32, ?_⟩); rintro _ _ ⟨rfl, rfl⟩; simp only [lA, lP, ptrCells, ptrAdd, isNil, readsV, readsP, isCall, wrote, srcOf, seval, List.length_map, Int.lt_irrefl, decide_false])
       | simp (maxSteps := 1000000) (disch := omega) only [lE, ptrCells, ptrAdd, isNil, readsV, readsP, isCall, wrote, srcOf, seval, List.length_map, Int.lt_irrefl, decide_false])
      all_goals try (exfalso; omega)
      · rename_i hh
        have he2 := exact' (by simpa using hh)
        refine keep0_i ⟨?_, rfl⟩
        simp only [he2, decide_true]
        rfl
      all_goals exact keep0_i ⟨rfl, rfl⟩
    · clear d1 d2 v1 v2
      generalize (mergeH mergeR (madeOf l col m).1 (madeOf k col (m.tdiv 2)).1) = g at *
      generalize (madeOf l col m).1 = qa at *
      generalize (madeOf k col (m.tdiv 2)).1 = qb at *
      generalize hW : l ++ k = w at *
      obtain ⟨a1, a2, a3⟩ := qa
      obtain ⟨b1, b2, b3⟩ := qb
      obtain ⟨⟨g1, g2, g3⟩, g4⟩ := g
      simp only [hist_av, rg_av] at *
      have hwl : l.length + k.length = w.length := by rw [← hW, List.length_append]
      have l4 : w.length ≤ 120 := by omega
      refine ok7.acalls hE hm (by simp) fun N hN => ?_
      unfold mc7
      simp only [lA, ptrCells, ptrAdd, isNil, readsV, readsP, isCall, wrote, srcOf, seval]
      repeat' (first
       | (with_reducible apply St.o; constructor) <;> intro _
       | with_reducible first | refine LenR_i fun _ => ?_ | refine And.intro (by omega) ?_ | (apply Sp.o; constructor) | refine mkl_own ?_ | refine frz0_i ?_
       | ((with_reducible apply Sc.o true; constructor); simp only [lP, seval, ti33, List.length_map, hma, hmt, hW, hw2, he, sc_rows, List.take_length, hwl]; (first | refine ⟨_, h26, ?_⟩ | refine ⟨_, h10, ?_⟩); rintro _ _ ⟨rfl, rfl⟩; simp only [lA, lP, ptrCells, ptrAdd, isNil, readsV, readsP, isCall, wrote, srcOf, seval, ti33, List.length_map, hma, hmt, hW, hw2, he, sc_rows, List.take_length, hwl])
       | ((with_reducible apply Sc.o false; constructor); simp only [lP, seval, ti33, List.length_map, hma, hmt, hW, hw2, he, sc_rows, List.take_length, hwl]; (first | refine ⟨_, h29a, ?_⟩ | refine ⟨_, h29b, ?_⟩ | refine ⟨_, h19, ?_⟩); rintro _ _ ⟨rfl, rfl⟩; simp only [lA, lP, ptrCells, ptrAdd, isNil, readsV, readsP, isCall, wrote, srcOf, seval, ti33, List.length_map, hma, hmt, hW, hw2, he, sc_rows, List.take_length, hwl])
       | simp (maxSteps := 1000000) (disch := omega) only [lE, ptrCells, ptrAdd, isNil, readsV, readsP, isCall, wrote, srcOf, seval, ti33, List.length_map, hma, hmt, hW, hw2, he, sc_rows, List.take_length, hwl])
      all_goals exact keep0_i ⟨rfl, rfl⟩
  · have hkk : ((madeOf l col m).2 = false ∨ (madeOf k col (m.tdiv 2)).2 = false) ∨ x.rt = false := by
      cases h1 : (madeOf l col m).2 <;> cases h2 : (madeOf k col (m.tdiv 2)).2 <;> cases h3 : x.rt <;> simp_all
    generalize (madeOf l col m) = qa at *
    generalize (madeOf k col (m.tdiv 2)) = qb at *
    generalize x.rt = rt at *
    obtain ⟨⟨a1, a2, a3⟩, a4⟩ := qa
    obtain ⟨⟨b1, b2, b3⟩, b4⟩ := qb
    simp only [hist_av, rg_av] at *
    refine ok7.acalls hE hm (by simp) fun N hN => ?_
    unfold mc7
    simp only [lA, ptrCells, ptrAdd, isNil, readsV, readsP, isCall, wrote, srcOf, seval]
    repeat' (first
     | (with_reducible apply St.o; constructor) <;> intro _
     | with_reducible first | refine LenR_i fun _ => ?_ | refine And.intro (by omega) ?_ | (apply Sp.o; constructor) | refine mkl_own ?_ | refine frz0_i ?_
     | ((with_reducible apply Sc.o true; constructor); simp only [lP, seval, ti33, hw2]; (first | refine ⟨_, h26, ?_⟩ | refine ⟨_, h10, ?_⟩); rintro _ _ ⟨rfl, rfl⟩; simp only [lA, lP, ptrCells, ptrAdd, isNil, readsV, readsP, isCall, wrote, srcOf, seval, ti33, hw2])
     | ((with_reducible apply Sc.o false; constructor); simp only [lP, seval, ti33, hw2]; (first | refine ⟨_, h29a, ?_⟩ | refine ⟨_, h29b, ?_⟩); rintro _ _ ⟨rfl, rfl⟩; simp only [lA, lP, ptrCells, ptrAdd, isNil, readsV, readsP, isCall, wrote, srcOf, seval, ti33, hw2])
     | simp (maxSteps := 1000000) (disch := omega) only [lE, ptrCells, ptrAdd, isNil, readsV, readsP, isCall, wrote, srcOf, seval, ti33, hw2])
    all_goals first
      | exact keep0_i ⟨rfl, rfl⟩
      | (exfalso; simp_all; done)
end Go.Proofs.Try


namespace Go.Proofs.Ytlokeliagcaepaa
open Go.Al Go.Proofs.Try
open Go.ChangeShapes Go.WideShapes Go.ChangeAt Go.RowKit
set_option linter.unusedVariables false
set_option maxRecDepth 100000 in
theorem lifted7 (os : Os) (started : os.Started) (H : Type) (enc : TypeId × Value → H) :
    ReturnsInHanded {} Try.checked os 7 .any (Rows.statsEstimatesHoldSpec.pre6 enc Try.prog Try.f7 Rows.statsEstimatesHoldRow.domain false) (Rows.statsEstimatesHoldSpec.post enc Try.prog Try.f7 false true false false) := by
  refine returnsInHanded_of_change (C := Try.checked) own started (by kernel_rfl) Try.func7
    (ChangeSpec.witness6 (enc := enc) (C := Try.checked) false ⟨#[], #[.slice none 0 0, .slice none 0 0, .int .i64 0, .int .u8 0, .agg #[.bool false, .bool false, .bool false, .int .i64 0, .int .i64 0, .string ByteArray.empty, .int .i64 0, .int .i64 0, .string ByteArray.empty, .bool false, .bool false]], []⟩ 8 (by kernel_rfl) (by kernel_rfl) (by kernel_rfl) (by kernel_rfl)) ?_
  intro W base args ds gs before hval hW _ _
  exact contract_of hE kids full (s := Rows.statsEstimatesHoldSpec) (tb := 4) (by rw [Try.params7]; decide +kernel) (by rw [Try.params7]; exact reads_cons rv22 (reads_cons rv22 (reads_cons rv3 (reads_cons rv5 (reads_cons rv42 (reads_nil)))))) (by rintro _ ⟨a, _, ha, ⟨b, _, hb, ⟨c, _, hc, ⟨d, _, hd, ⟨e, _, he, rfl, rfl⟩, rfl⟩, rfl⟩, rfl⟩, rfl⟩; exact c7 a b c d e hd) rfl
    (by rw [Try.params7]; rintro H (_ | ⟨d0, (_ | ⟨d1, (_ | ⟨d2, (_ | ⟨d3, (_ | ⟨d4, (_ | ⟨dz, ds⟩)⟩)⟩)⟩)⟩)⟩) hl <;> simp at hl; exact ⟨rfl, rfl, rfl⟩) (by kernel_rfl) (by kernel_rfl) H enc W base args ds gs before (glob_ok _) hval hW
theorem statsEstimatesHold_holds : Rows.StatsEstimatesHoldSaid :=
  OpenClaim.holds_of_wide 7 Try.f7 rfl rfl rfl rfl rfl rfl rfl ⟨rfl, rfl, rfl, rfl, rfl⟩ rfl rfl rfl rfl rfl (by kernel_rfl) Try.func7 (by kernel_rfl)
    (of_decide_eq_true (by kernel_rfl)) (by unfold Func.isWrapper; first | (rw [if_pos (by decide +kernel)]; kernel_rfl) | (rw [if_neg (by decide +kernel)]; exact ⟨rfl, rfl⟩))
    (fun os started H enc _ => lifted7 os started H enc)
end Go.Proofs.Ytlokeliagcaepaa
