/-
  For the histograms: Merge describes the column of both lists together, and is commutative, whatever the rows.
-/
import Derived.Test.YtlokeliagcaepaaEaud
import Derived.Test.YtlokeliagcaepaaEaue
import Derived.Test.YtlokeliagcaepaaPar
import Derived.Test.YtlokeliagcaepaaReads
import Derived.Test.YtlokeliagcaepaaRows
set_option linter.unusedSimpArgs false
set_option linter.unusedVariables false
namespace Go.Proofs.Try
open Go.Al
set_option maxRecDepth 100000
/-- alum/alumlaw39.StatsMergeDescribes -/
def mc6 : MC :=
 (.seq (.ops [(none, (.v (.mov 10 (.c (.bool false)))))])
 (.seq (.ops [(none, (.v (.mov 25 (.t 0)))),
 (none, (.p (.len 26 (.t 25)))),
 (none, (.p (.quo 27 (.t 26) (.c (.int .i64 2))))),
 (none, (.v (.mov 11 (.t 27))))])
 (.seq (.ops [(none, (.v (.mov 29 (.t 0)))),
 (none, (.v (.mov 30 (.t 11)))),
 (none, (.p (.pre 31 1 (.t 29) (some (.t 30))))),
 (none, (.v (.mov 32 (.t 2)))),
 (none, (.v (.mov 33 (.t 3)))),
 (none, (.e (.call (some 34) 29 [(.t 31), (.t 32), (.t 33)]))),
 (none, (.v (.mov 28 (.t 34)))),
 (none, (.v (.ext 35 0 (.t 28)))),
 (none, (.v (.ext 36 1 (.t 28)))),
 (none, (.e (.alloc 12 [(.int .i64 0), (.int .i64 0), (.raw (.slice none 0 0))]))),
 (none, (.e (.store 3 true (.t 12) (.t 35)))),
 (none, (.v (.mov 13 (.t 36))))])
 (.seq (.ops [(none, (.v (.mov 38 (.t 0)))),
 (none, (.v (.mov 39 (.t 11)))),
 (none, (.p (.cut 40 1 (.t 38) (.t 39) none))),
 (none, (.v (.mov 41 (.t 2)))),
 (none, (.v (.mov 42 (.t 4)))),
 (none, (.e (.call (some 43) 29 [(.t 40), (.t 41), (.t 42)]))),
 (none, (.v (.mov 37 (.t 43)))),
 (none, (.v (.ext 44 0 (.t 37)))),
 (none, (.v (.ext 45 1 (.t 37)))),
 (none, (.e (.alloc 14 [(.int .i64 0), (.int .i64 0), (.raw (.slice none 0 0))]))),
 (none, (.e (.store 3 true (.t 14) (.t 44)))),
 (none, (.v (.mov 15 (.t 45))))])
 (.seq (.ops [(none, (.v (.mov 47 (.t 1)))),
 (none, (.v (.mov 48 (.t 2)))),
 (none, (.v (.mov 49 (.t 3)))),
 (none, (.e (.call (some 50) 29 [(.t 47), (.t 48), (.t 49)]))),
 (none, (.v (.mov 46 (.t 50)))),
 (none, (.v (.ext 51 0 (.t 46)))),
 (none, (.v (.ext 52 1 (.t 46)))),
 (none, (.e (.alloc 16 [(.int .i64 0), (.int .i64 0), (.raw (.slice none 0 0))]))),
 (none, (.e (.store 3 true (.t 16) (.t 51)))),
 (none, (.v (.mov 17 (.t 52))))])
 (.seq (.seq (.ops [(none, (.v (.mov 53 (.t 13)))),
 (none, (.v (.not 54 (.t 53)))),
 (none, (.v (.mov 55 (.t 54)))),
 ((some (55, false)), (.v (.mov 56 (.t 15)))),
 ((some (55, false)), (.v (.not 57 (.t 56)))),
 (none, (.v (.pick 58 (.t 55) (.c (.bool true)) (.t 57)))),
 (none, (.v (.mov 59 (.t 58)))),
 ((some (59, false)), (.v (.mov 60 (.t 17)))),
 ((some (59, false)), (.v (.not 61 (.t 60)))),
 (none, (.v (.pick 62 (.t 59) (.c (.bool true)) (.t 61))))])
 (.cond 62
 (.seq (.ops [(none, (.e (.call (some 63) 10 []))),
 (none, (.v (.mov 10 (.t 63))))])
 .ret)
 .skip))
 (.seq (.ops [(none, (.v (.load 65 true 3 (.t 12)))),
 (none, (.v (.load 66 true 3 (.t 14)))),
 (none, (.e (.call (some 67) 19 [(.t 65), (.t 66)]))),
 (none, (.v (.mov 64 (.t 67)))),
 (none, (.v (.ext 68 0 (.t 64)))),
 (none, (.v (.ext 69 1 (.t 64)))),
 (none, (.e (.alloc 18 [(.int .i64 0), (.int .i64 0), (.raw (.slice none 0 0))]))),
 (none, (.e (.store 3 true (.t 18) (.t 68)))),
 (none, (.v (.mov 19 (.t 69))))])
 (.seq (.seq (.ops [(none, (.v (.mov 70 (.t 19)))),
 (none, (.v (.bin 71 .neq false (.t 70) (.c (.int .i64 0)))))])
 (.cond 71
 (.seq (.ops [(none, (.e (.call (some 72) 10 []))),
 (none, (.v (.mov 10 (.t 72))))])
 .ret)
 .skip))
 (.seq (.ops [(none, (.v (.load 74 true 3 (.t 18)))),
 (none, (.v (.load 75 true 3 (.t 16)))),
 (none, (.e (.call (some 76) 19 [(.t 74), (.t 75)]))),
 (none, (.v (.mov 73 (.t 76)))),
 (none, (.v (.ext 77 0 (.t 73)))),
 (none, (.v (.ext 78 1 (.t 73)))),
 (none, (.e (.alloc 20 [(.int .i64 0), (.int .i64 0), (.raw (.slice none 0 0))]))),
 (none, (.e (.store 3 true (.t 20) (.t 77)))),
 (none, (.v (.mov 21 (.t 78))))])
 (.seq (.ops [(none, (.v (.load 80 true 3 (.t 16)))),
 (none, (.v (.load 81 true 3 (.t 18)))),
 (none, (.e (.call (some 82) 19 [(.t 80), (.t 81)]))),
 (none, (.v (.mov 79 (.t 82)))),
 (none, (.v (.ext 83 0 (.t 79)))),
 (none, (.v (.ext 84 1 (.t 79)))),
 (none, (.e (.alloc 22 [(.int .i64 0), (.int .i64 0), (.raw (.slice none 0 0))]))),
 (none, (.e (.store 3 true (.t 22) (.t 83)))),
 (none, (.v (.mov 23 (.t 84))))])
 (.seq (.seq (.ops [(none, (.v (.mov 85 (.t 21)))),
 (none, (.v (.mov 86 (.t 23)))),
 (none, (.v (.bin 87 .neq false (.t 85) (.t 86)))),
 (none, (.v (.mov 88 (.t 87)))),
 ((some (88, false)), (.v (.load 89 true 3 (.t 20)))),
 ((some (88, false)), (.v (.load 90 true 3 (.t 22)))),
 ((some (88, false)), (.e (.call (some 91) 16 [(.t 89), (.t 90)]))),
 ((some (88, false)), (.v (.not 92 (.t 91)))),
 (none, (.v (.pick 93 (.t 88) (.c (.bool true)) (.t 92))))])
 (.cond 93
 (.seq (.ops [(none, (.v (.mov 10 (.c (.bool false)))))])
 .ret)
 .skip))
 (.seq (.ops [(none, (.v (.mov 94 (.t 0)))),
 (none, (.v (.mov 95 (.t 0)))),
 (none, (.p (.len 96 (.t 95)))),
 (none, (.v (.mov 97 (.t 0)))),
 (none, (.p (.len 98 (.t 97)))),
 (none, (.p (.pre3 99 1 (.t 94) (.t 96) (.t 98)))),
 (none, (.v (.mov 100 (.t 1)))),
 (none, (.e (.app 101 64 1 24 (.t 99) (.t 100)))),
 (none, (.v (.mov 24 (.t 101))))])
 (.seq (.seq (.ops [(none, (.v (.mov 102 (.t 21)))),
 (none, (.v (.bin 103 .neq false (.t 102) (.c (.int .i64 0))))),
 (none, (.v (.mov 104 (.t 103)))),
 ((some (104, false)), (.v (.mov 105 (.t 24)))),
 ((some (104, false)), (.p (.len 106 (.t 105)))),
 ((some (104, false)), (.v (.bin 107 .eql false (.t 106) (.c (.int .i64 0))))),
 (none, (.v (.pick 108 (.t 104) (.c (.bool true)) (.t 107))))])
 (.cond 108
 (.seq (.ops [(none, (.e (.call (some 109) 10 []))),
 (none, (.v (.mov 10 (.t 109))))])
 .ret)
 .skip))
 (.seq (.ops [(none, (.e (.call (some 110) 10 []))),
 (none, (.v (.mov 111 (.t 110)))),
 ((some (111, true)), (.v (.load 112 true 3 (.t 20)))),
 ((some (111, true)), (.v (.mov 113 (.t 24)))),
 ((some (111, true)), (.v (.mov 114 (.t 2)))),
 ((some (111, true)), (.e (.call (some 115) 30 [(.t 112), (.t 113), (.t 114)]))),
 (none, (.v (.pick 116 (.t 111) (.t 115) (.c (.bool false))))),
 (none, (.v (.mov 10 (.t 116))))])
 .ret))))))))))))))
theorem ok6 : FnOk E 6 117 [.tmp 10] mc6 := .of func6 (by kernel_rfl) (by kernel_rfl) (by kernel_rfl) (by kernel_rfl) (by kernel_rfl)
end Go.Proofs.Try
namespace Go.Proofs.Try
open Go.Al
set_option linter.unusedVariables false
set_option linter.unusedSimpArgs false
set_option maxRecDepth 20000
set_option maxHeartbeats 8000000
theorem bars_few {h : Hist} (hk : HOk h) : (h.bars.length : Int) ≤ h.rows := by
  have hge := sumRows_ge (D := 1) h.bars fun b hb => (hk.rt hb).rows
  have hs := hk.sum
  have h2 := hk.nulls0
  omega
/-- A right made histogram, as a law sees it. -/
theorem made_fact {l : List (List VL)} {col m : Int} (h : (madeOf l col m).2 = true) :
    Desc (madeOf l col m).1 (valuesC l col.toNat) l.length ∧ l.length ≤ 60 ∧ (∀ r ∈ l, 0 ≤ col ∧ col < (r.length : Int)) ∧ (∀ v ∈ valuesC l col.toNat, v.Right) := by
  obtain ⟨hf, he, ho⟩ := made_true h
  obtain ⟨hd, hlen, hc⟩ := hist_desc hf ho
  rw [← he] at hd
  exact ⟨hd, hf.2, hc, fun v hv => (values_right hf hc v hv).1⟩
theorem valuesC_app (l k : List (List VL)) (c : Nat) : valuesC (l ++ k) c = valuesC l c ++ valuesC k c := by
  rw [valuesC, List.map_append, List.filter_append]; rfl
structure HSz (h : Hist) (n : Nat) : Prop where
  ok : ∀ x ∈ h.bars, BarOk x
  rng : 0 ≤ h.rows ∧ h.rows ≤ 16777216 ∧ 0 ≤ h.nulls ∧ h.nulls ≤ 16777216
  few : h.bars.length ≤ n
theorem Desc.hok {h : Hist} {V : List VL} {n : Nat} (hd : Desc h V n) : HOk h := Go.Proofs.Try.hok ((chk_eq h).trans hd.chk)
theorem Desc.sz {h : Hist} {V : List VL} {n : Nat} (hd : Desc h V n) : HSz h n := by
  have hk := hd.hok
  have h1 := bars_few hk
  have h2 := hd.rows
  refine ⟨fun x hx => hk.ok hx, ⟨hk.rows0, hk.rows, hk.nulls0, ?_⟩, by omega⟩
  have := hk.nulls
  have := hk.rows
  omega
/-- Merge, at described histograms. -/
theorem c19d {a b : Hist} {V U : List VL} {n m : Nat} (ha : Desc a V n) (hb : Desc b U m) (hn : n ≤ 1024) (hm : m ≤ 1024) : ACalls E.P 19 [a.av, b.av] [] (fun r H => r = .tup [(mergeH mergeR a b).1.av, .int .i64 (mergeH mergeR a b).2] ∧ H = []) := by
  have h := c19 a b ha.sz.ok hb.sz.ok ha.sz.rng hb.sz.rng (by have := ha.sz.few; omega) (by have := hb.sz.few; omega)
  rwa [merge_law ha.hok hb.hok] at h
theorem c30d {h : Hist} {l : List (List VL)} {col : Int} (hd : Desc h (valuesC l col.toNat) l.length) (hc : ∀ r ∈ l, 0 ≤ col ∧ col < (r.length : Int)) (hl : l.length ≤ 1000) :
    ACalls E.P 30 [h.av, .view 1 (l.map rowV), .int .i64 col] [] (fun r H => r = .bool true ∧ H = []) :=
  c30 h l col hd (fun b hb => by
    have := (hd.sz.ok b hb).rows0
    have := (hd.sz.ok b hb).rows
    exact ⟨by omega, by omega⟩) hc hl
theorem sc_vls (n : Nat) : ∀ xs : List VL, scL n (xs.map VL.av) = true
  | [] => rfl
  | x :: xs => by
    rw [List.map_cons, scL, sc_vls n xs]
    simp [VL.av, sc, scL]
theorem sc_rows (n : Nat) : ∀ xs : List (List VL), scL n (xs.map rowV) = true
  | [] => rfl
  | x :: xs => by
    rw [List.map_cons, scL, sc_rows n xs]
    simp [rowV, sc, sc_vls]
theorem c6 (l k : List (List VL)) (col m n : Int) (hm0 : 0 ≤ m ∧ m ≤ 255) (hn0 : 0 ≤ n ∧ n ≤ 255) : ACalls E.P 6 [.view 1 (l.map rowV), .view 1 (k.map rowV), .int .i64 col, .int .u8 m, .int .u8 n] [] (fun r H => r = .bool true ∧ H = []) := by
  have hmax := maxLen_eq
  have h10 := c10
  have hmt : ∀ i, (l.map rowV).take i = (l.take i).map rowV := fun i => List.map_take.symm
  have hmd : ∀ i, (l.map rowV).drop i = (l.drop i).map rowV := fun i => List.map_drop.symm
  have hma : l.map rowV ++ k.map rowV = (l ++ k).map rowV := List.map_append.symm
  have hq : ((l.length : Int).tdiv 2) = ((l.length / 2 : Nat) : Int) := by
    rw [Int.tdiv_eq_ediv_of_nonneg (by omega)]
    omega
  have h29a := c29 (l.take (l.length / 2)) col m hm0
  have h29b := c29 (l.drop (l.length / 2)) col n hn0
  have h29c := c29 k col m hm0
  by_cases hk : ((madeOf (l.take (l.length / 2)) col m).2 = true ∧ (madeOf (l.drop (l.length / 2)) col n).2 = true) ∧ (madeOf k col m).2 = true
  · obtain ⟨⟨hk1, hk2⟩, hk3⟩ := hk
    obtain ⟨d1, l1, c1, v1⟩ := made_fact hk1
    obtain ⟨d2, l2, c2, v2⟩ := made_fact hk2
    obtain ⟨d3, l3, c3, v3⟩ := made_fact hk3
    rw [hk1] at h29a
    rw [hk2] at h29b
    rw [hk3] at h29c
    have h19 := c19d d1 d2 (by omega) (by omega)
    have ll : l.length ≤ 120 := by
      have : (l.take (l.length / 2)).length + (l.drop (l.length / 2)).length = l.length := by rw [← List.length_append, List.take_append_drop]
      omega
    by_cases he : (mergeH mergeR (madeOf (l.take (l.length / 2)) col m).1 (madeOf (l.drop (l.length / 2)) col n).1).2 = 0
    · have d4 := merge_desc d1 d2 v1 v2 he
      rw [← valuesC_app, List.take_append_drop, ← List.length_append, List.take_append_drop] at d4
      have v4 : ∀ v ∈ valuesC l col.toNat, v.Right := fun v hv => by
        rw [← List.take_append_drop (l.length / 2) l, valuesC_app] at hv
        exact (List.mem_append.1 hv).elim (v1 v) (v2 v)
      have c4 : ∀ r ∈ l, 0 ≤ col ∧ col < (r.length : Int) := fun r hr => by
        rw [← List.take_append_drop (l.length / 2) l] at hr
        exact (List.mem_append.1 hr).elim (c1 r) (c2 r)
      have h19a := c19d d4 d3 (by omega) (by omega)
      have h19b := c19d d3 d4 (by omega) (by omega)
      rw [merge_comm d3.hok d4.hok] at h19b
      have h16 := c16 (mergeH mergeR (mergeH mergeR (madeOf (l.take (l.length / 2)) col m).1 (madeOf (l.drop (l.length / 2)) col n).1).1 (madeOf k col m).1).1 (mergeH mergeR (mergeH mergeR (madeOf (l.take (l.length / 2)) col m).1 (madeOf (l.drop (l.length / 2)) col n).1).1 (madeOf k col m).1).1
      rw [decide_eq_true rfl] at h16
      rw [he] at h19
      by_cases hf : (mergeH mergeR (mergeH mergeR (madeOf (l.take (l.length / 2)) col m).1 (madeOf (l.drop (l.length / 2)) col n).1).1 (madeOf k col m).1).2 = 0
      · have d5 := merge_desc d4 d3 v4 v3 hf
        rw [← valuesC_app, ← List.length_append] at d5
        have h30 := c30d d5 (fun r hr => (List.mem_append.1 hr).elim (c4 r) (c3 r)) (by rw [List.length_append]; omega)
        rw [hf] at h19a h19b
        clear d1 d2 d3 d4 d5 v1 v2 v3 v4
        generalize (mergeH mergeR (mergeH mergeR (madeOf (l.take (l.length / 2)) col m).1 (madeOf (l.drop (l.length / 2)) col n).1).1 (madeOf k col m).1).1 = x at *
        generalize (mergeH mergeR (madeOf (l.take (l.length / 2)) col m).1 (madeOf (l.drop (l.length / 2)) col n).1).1 = g at *
        generalize (madeOf (l.take (l.length / 2)) col m).1 = qa at *
        generalize (madeOf (l.drop (l.length / 2)) col n).1 = qb at *
        generalize (madeOf k col m).1 = qc at *
        obtain ⟨a1, a2, a3⟩ := qa
        obtain ⟨b1, b2, b3⟩ := qb
        obtain ⟨q1, q2, q3⟩ := qc
        obtain ⟨g1, g2, g3⟩ := g
        obtain ⟨x1, x2, x3⟩ := x
        simp only [hist_av] at *
        refine ok6.acalls hE hm (by simp) fun N hN => ?_
        unfold mc6
        simp only [lA, ptrCells, ptrAdd, isNil, readsV, readsP, isCall, wrote, srcOf, seval]
        repeat' (first
         | (with_reducible apply St.o; constructor) <;> intro _
         | with_reducible first | refine LenR_i fun _ => ?_ | refine And.intro (by omega) ?_ | (apply Sp.o; constructor) | refine mkl_own ?_ | refine frz0_i ?_
         | ((with_reducible apply Sc.o true; constructor); simp only [lP, seval, ti33, List.length_map, hmt, hmd, hma, hq, sc_rows, List.take_length, List.length_append, Int.toNat_natCast]; (first | refine ⟨_, h16, ?_⟩ | refine ⟨_, h30, ?_⟩ | refine ⟨_, h10, ?_⟩); rintro _ _ ⟨rfl, rfl⟩; simp only [lA, lP, ptrCells, ptrAdd, isNil, readsV, readsP, isCall, wrote, srcOf, seval, ti33, List.length_map, hmt, hmd, hma, hq, sc_rows, List.take_length, List.length_append, Int.toNat_natCast])
         | ((with_reducible apply Sc.o false; constructor); simp only [lP, seval, ti33, List.length_map, hmt, hmd, hma, hq, sc_rows, List.take_length, List.length_append, Int.toNat_natCast]; (first | refine ⟨_, h29a, ?_⟩ | refine ⟨_, h29b, ?_⟩ | refine ⟨_, h29c, ?_⟩ | refine ⟨_, h19, ?_⟩ | refine ⟨_, h19a, ?_⟩ | refine ⟨_, h19b, ?_⟩); rintro _ _ ⟨rfl, rfl⟩; simp only [lA, lP, ptrCells, ptrAdd, isNil, readsV, readsP, isCall, wrote, srcOf, seval, ti33, List.length_map, hmt, hmd, hma, hq, sc_rows, List.take_length, List.length_append, Int.toNat_natCast])
         | simp (maxSteps := 1000000) (disch := omega) only [lE, ptrCells, ptrAdd, isNil, readsV, readsP, isCall, wrote, srcOf, seval, ti33, List.length_map, hmt, hmd, hma, hq, sc_rows, List.take_length, List.length_append, Int.toNat_natCast])
        all_goals exact keep0_i ⟨rfl, rfl⟩
      · clear d1 d2 d3 d4 v1 v2 v3 v4
        generalize (mergeH mergeR (mergeH mergeR (madeOf (l.take (l.length / 2)) col m).1 (madeOf (l.drop (l.length / 2)) col n).1).1 (madeOf k col m).1) = x at *
        generalize (mergeH mergeR (madeOf (l.take (l.length / 2)) col m).1 (madeOf (l.drop (l.length / 2)) col n).1).1 = g at *
        generalize (madeOf (l.take (l.length / 2)) col m).1 = qa at *
        generalize (madeOf (l.drop (l.length / 2)) col n).1 = qb at *
        generalize (madeOf k col m).1 = qc at *
        obtain ⟨a1, a2, a3⟩ := qa
        obtain ⟨b1, b2, b3⟩ := qb
        obtain ⟨q1, q2, q3⟩ := qc
        obtain ⟨g1, g2, g3⟩ := g
        obtain ⟨⟨x1, x2, x3⟩, x4⟩ := x
        simp only [hist_av] at *
        refine ok6.acalls hE hm (by simp) fun N hN => ?_
        unfold mc6
        simp only [lA, ptrCells, ptrAdd, isNil, readsV, readsP, isCall, wrote, srcOf, seval]
        repeat' (first
         | (with_reducible apply St.o; constructor) <;> intro _
         | with_reducible first | refine LenR_i fun _ => ?_ | refine And.intro (by omega) ?_ | (apply Sp.o; constructor) | refine mkl_own ?_ | refine frz0_i ?_
         | ((with_reducible apply Sc.o true; constructor); simp only [lP, seval, ti33, List.length_map, hmt, hmd, hma, hq, hf, sc_rows, List.take_length, List.length_append, Int.toNat_natCast]; (first | refine ⟨_, h16, ?_⟩ | refine ⟨_, h10, ?_⟩); rintro _ _ ⟨rfl, rfl⟩; simp only [lA, lP, ptrCells, ptrAdd, isNil, readsV, readsP, isCall, wrote, srcOf, seval, ti33, List.length_map, hmt, hmd, hma, hq, hf, sc_rows, List.take_length, List.length_append, Int.toNat_natCast])
         | ((with_reducible apply Sc.o false; constructor); simp only [lP, seval, ti33, List.length_map, hmt, hmd, hma, hq, hf, sc_rows, List.take_length, List.length_append, Int.toNat_natCast]; (first | refine ⟨_, h29a, ?_⟩ | refine ⟨_, h29b, ?_⟩ | refine ⟨_, h29c, ?_⟩ | refine ⟨_, h19, ?_⟩ | refine ⟨_, h19a, ?_⟩ | refine ⟨_, h19b, ?_⟩); rintro _ _ ⟨rfl, rfl⟩; simp only [lA, lP, ptrCells, ptrAdd, isNil, readsV, readsP, isCall, wrote, srcOf, seval, ti33, List.length_map, hmt, hmd, hma, hq, hf, sc_rows, List.take_length, List.length_append, Int.toNat_natCast])
         | simp (maxSteps := 1000000) (disch := omega) only [lE, ptrCells, ptrAdd, isNil, readsV, readsP, isCall, wrote, srcOf, seval, ti33, List.length_map, hmt, hmd, hma, hq, hf, sc_rows, List.take_length, List.length_append, Int.toNat_natCast])
        all_goals exact keep0_i ⟨rfl, rfl⟩
    · clear d1 d2 d3 v1 v2 v3
      generalize (mergeH mergeR (madeOf (l.take (l.length / 2)) col m).1 (madeOf (l.drop (l.length / 2)) col n).1) = g at *
      generalize (madeOf (l.take (l.length / 2)) col m).1 = qa at *
      generalize (madeOf (l.drop (l.length / 2)) col n).1 = qb at *
      generalize (madeOf k col m).1 = qc at *
      obtain ⟨a1, a2, a3⟩ := qa
      obtain ⟨b1, b2, b3⟩ := qb
      obtain ⟨q1, q2, q3⟩ := qc
      obtain ⟨⟨g1, g2, g3⟩, g4⟩ := g
      simp only [hist_av] at *
      refine ok6.acalls hE hm (by simp) fun N hN => ?_
      unfold mc6
      simp only [lA, ptrCells, ptrAdd, isNil, readsV, readsP, isCall, wrote, srcOf, seval]
      repeat' (first
       | (with_reducible apply St.o; constructor) <;> intro _
       | with_reducible first | refine LenR_i fun _ => ?_ | refine And.intro (by omega) ?_ | (apply Sp.o; constructor) | refine mkl_own ?_ | refine frz0_i ?_
       | ((with_reducible apply Sc.o true; constructor); simp only [lP, seval, ti33, List.length_map, hmt, hmd, hq, he, Int.toNat_natCast]; refine ⟨_, h10, ?_⟩; rintro _ _ ⟨rfl, rfl⟩; simp only [lA, lP, ptrCells, ptrAdd, isNil, readsV, readsP, isCall, wrote, srcOf, seval, ti33, List.length_map, hmt, hmd, hq, he, Int.toNat_natCast])
       | ((with_reducible apply Sc.o false; constructor); simp only [lP, seval, ti33, List.length_map, hmt, hmd, hq, he, Int.toNat_natCast]; (first | refine ⟨_, h29a, ?_⟩ | refine ⟨_, h29b, ?_⟩ | refine ⟨_, h29c, ?_⟩ | refine ⟨_, h19, ?_⟩); rintro _ _ ⟨rfl, rfl⟩; simp only [lA, lP, ptrCells, ptrAdd, isNil, readsV, readsP, isCall, wrote, srcOf, seval, ti33, List.length_map, hmt, hmd, hq, he, Int.toNat_natCast])
       | simp (maxSteps := 1000000) (disch := omega) only [lE, ptrCells, ptrAdd, isNil, readsV, readsP, isCall, wrote, srcOf, seval, ti33, List.length_map, hmt, hmd, hq, he, Int.toNat_natCast])
      all_goals exact keep0_i ⟨rfl, rfl⟩
  · have hkk : ((madeOf (l.take (l.length / 2)) col m).2 = false ∨ (madeOf (l.drop (l.length / 2)) col n).2 = false) ∨ (madeOf k col m).2 = false := by
      cases h1 : (madeOf (l.take (l.length / 2)) col m).2 <;> cases h2 : (madeOf (l.drop (l.length / 2)) col n).2 <;> cases h3 : (madeOf k col m).2 <;> simp_all
    generalize (madeOf (l.take (l.length / 2)) col m) = qa at *
    generalize (madeOf (l.drop (l.length / 2)) col n) = qb at *
    generalize (madeOf k col m) = qc at *
    obtain ⟨⟨a1, a2, a3⟩, a4⟩ := qa
    obtain ⟨⟨b1, b2, b3⟩, b4⟩ := qb
    obtain ⟨⟨q1, q2, q3⟩, q4⟩ := qc
    simp only [hist_av] at *
    refine ok6.acalls hE hm (by simp) fun N hN => ?_
    unfold mc6
    simp only [lA, ptrCells, ptrAdd, isNil, readsV, readsP, isCall, wrote, srcOf, seval]
    repeat' (first
     | (with_reducible apply St.o; constructor) <;> intro _
     | with_reducible first | refine LenR_i fun _ => ?_ | refine And.intro (by omega) ?_ | (apply Sp.o; constructor) | refine mkl_own ?_ | refine frz0_i ?_
     | simp (maxSteps := 1000000) (disch := omega) only [lE, ptrCells, ptrAdd, isNil, readsV, readsP, isCall, wrote, srcOf, seval, ti33, List.length_map, hq])
    rename_i hlm
    have hw : IntKind.i64.wrap ((l.length / 2 : Nat) : Int) = ((l.length / 2 : Nat) : Int) := by
      rw [List.length_map] at hlm
      rw [IntKind.wrap_i64]; omega
    repeat' (first
     | (with_reducible apply St.o; constructor) <;> intro _
     | with_reducible first | refine LenR_i fun _ => ?_ | refine And.intro (by omega) ?_ | (apply Sp.o; constructor) | refine mkl_own ?_ | refine frz0_i ?_
     | ((with_reducible apply Sc.o true; constructor); simp only [lP, seval, ti33, List.length_map, hmt, hmd, hq, hw, Int.toNat_natCast]; refine ⟨_, h10, ?_⟩; rintro _ _ ⟨rfl, rfl⟩; simp only [lA, lP, ptrCells, ptrAdd, isNil, readsV, readsP, isCall, wrote, srcOf, seval, ti33, List.length_map, hmt, hmd, hq, hw, Int.toNat_natCast])
     | ((with_reducible apply Sc.o false; constructor); simp only [lP, seval, ti33, List.length_map, hmt, hmd, hq, hw, Int.toNat_natCast]; (first | refine ⟨_, h29a, ?_⟩ | refine ⟨_, h29b, ?_⟩ | refine ⟨_, h29c, ?_⟩); rintro _ _ ⟨rfl, rfl⟩; simp only [lA, lP, ptrCells, ptrAdd, isNil, readsV, readsP, isCall, wrote, srcOf, seval, ti33, List.length_map, hmt, hmd, hq, hw, Int.toNat_natCast])
     | simp (maxSteps := 1000000) (disch := omega) only [lE, ptrCells, ptrAdd, isNil, readsV, readsP, isCall, wrote, srcOf, seval, ti33, List.length_map, hmt, hmd, hq, hw, Int.toNat_natCast])
    all_goals first
      | exact keep0_i ⟨rfl, rfl⟩
      | (exfalso; simp_all; done)
end Go.Proofs.Try


namespace Go.Proofs.Ytlokeliagcaepaa
open Go.Al Go.Proofs.Try
open Go.ChangeShapes Go.WideShapes Go.ChangeAt Go.RowKit
set_option linter.unusedVariables false
set_option maxRecDepth 100000 in
theorem lifted6 (os : Os) (started : os.Started) (H : Type) (enc : TypeId × Value → H) :
    ReturnsInHanded {} Try.checked os 6 .any (Rows.statsMergeDescribesSpec.pre6 enc Try.prog Try.f6 Rows.statsMergeDescribesRow.domain false) (Rows.statsMergeDescribesSpec.post enc Try.prog Try.f6 false true false false) := by
  refine returnsInHanded_of_change (C := Try.checked) own started (by kernel_rfl) Try.func6
    (ChangeSpec.witness6 (enc := enc) (C := Try.checked) false ⟨#[], #[.slice none 0 0, .slice none 0 0, .int .i64 0, .int .u8 0, .int .u8 0], []⟩ 8 (by kernel_rfl) (by kernel_rfl) (by kernel_rfl) (by kernel_rfl)) ?_
  intro W base args ds gs before hval hW _ _
  exact contract_of hE kids full (s := Rows.statsMergeDescribesSpec) (tb := 4) (by rw [Try.params6]; decide +kernel) (by rw [Try.params6]; exact reads_cons rv22 (reads_cons rv22 (reads_cons rv3 (reads_cons rv5 (reads_cons rv5 (reads_nil)))))) (by rintro _ ⟨a, _, ha, ⟨b, _, hb, ⟨c, _, hc, ⟨d, _, hd, ⟨e, _, he, rfl, rfl⟩, rfl⟩, rfl⟩, rfl⟩, rfl⟩; exact c6 a b c d e hd he) rfl
    (by rw [Try.params6]; rintro H (_ | ⟨d0, (_ | ⟨d1, (_ | ⟨d2, (_ | ⟨d3, (_ | ⟨d4, (_ | ⟨dz, ds⟩)⟩)⟩)⟩)⟩)⟩) hl <;> simp at hl; exact ⟨rfl, rfl, rfl⟩) (by kernel_rfl) (by kernel_rfl) H enc W base args ds gs before (glob_ok _) hval hW
theorem statsMergeDescribes_holds : Rows.StatsMergeDescribesSaid :=
  OpenClaim.holds_of_wide 6 Try.f6 rfl rfl rfl rfl rfl rfl rfl ⟨rfl, rfl, rfl, rfl, rfl⟩ rfl rfl rfl rfl rfl (by kernel_rfl) Try.func6 (by kernel_rfl)
    (of_decide_eq_true (by kernel_rfl)) (by unfold Func.isWrapper; first | (rw [if_pos (by decide +kernel)]; kernel_rfl) | (rw [if_neg (by decide +kernel)]; exact ⟨rfl, rfl⟩))
    (fun os started H enc _ => lifted6 os started H enc)
end Go.Proofs.Ytlokeliagcaepaa
