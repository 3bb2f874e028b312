/-
  For the histograms: the number of pairs of rows with equal values that are not null is between the bounds of Join, whatever the rows.
-/
import Derived.Test.YtlokeliagcaepaaEaud
import Derived.Test.YtlokeliagcaepaaEaue
import Derived.Test.YtlokeliagcaepaaPar
import Derived.Test.YtlokeliagcaepaaReads
import Derived.Test.YtlokeliagcaepaaRows
set_option linter.unusedSimpArgs false
set_option linter.unusedVariables false
namespace Go.Proofs.Try
open Go.Al
set_option maxRecDepth 100000
/-- alum/alumlaw39.StatsJoinHolds -/
def mc8 : MC :=
 (.seq (.ops [(none, (.v (.mov 12 (.c (.bool false)))))])
 (.seq (.ops [(none, (.v (.mov 23 (.t 0)))),
 (none, (.v (.mov 24 (.t 2)))),
 (none, (.v (.mov 25 (.t 4)))),
 (none, (.e (.call (some 26) 29 [(.t 23), (.t 24), (.t 25)]))),
 (none, (.v (.mov 22 (.t 26)))),
 (none, (.v (.ext 27 0 (.t 22)))),
 (none, (.v (.ext 28 1 (.t 22)))),
 (none, (.e (.alloc 13 [(.int .i64 0), (.int .i64 0), (.raw (.slice none 0 0))]))),
 (none, (.e (.store 3 true (.t 13) (.t 27)))),
 (none, (.v (.mov 14 (.t 28))))])
 (.seq (.ops [(none, (.v (.mov 30 (.t 1)))),
 (none, (.v (.mov 31 (.t 3)))),
 (none, (.v (.mov 32 (.t 5)))),
 (none, (.e (.call (some 33) 29 [(.t 30), (.t 31), (.t 32)]))),
 (none, (.v (.mov 29 (.t 33)))),
 (none, (.v (.ext 34 0 (.t 29)))),
 (none, (.v (.ext 35 1 (.t 29)))),
 (none, (.e (.alloc 15 [(.int .i64 0), (.int .i64 0), (.raw (.slice none 0 0))]))),
 (none, (.e (.store 3 true (.t 15) (.t 34)))),
 (none, (.v (.mov 16 (.t 35))))])
 (.seq (.seq (.ops [(none, (.v (.mov 36 (.t 14)))),
 (none, (.v (.not 37 (.t 36)))),
 (none, (.v (.mov 38 (.t 37)))),
 ((some (38, false)), (.v (.mov 39 (.t 16)))),
 ((some (38, false)), (.v (.not 40 (.t 39)))),
 (none, (.v (.pick 41 (.t 38) (.c (.bool true)) (.t 40))))])
 (.cond 41
 (.seq (.ops [(none, (.e (.call (some 42) 10 []))),
 (none, (.v (.mov 12 (.t 42))))])
 .ret)
 .skip))
 (.seq (.ops [(none, (.v (.mov 17 (.c (.int .i64 0)))))])
 (.seq (.seq (.ops [(none, (.v (.mov 18 (.c (.int .i64 0)))))])
 (.block 0 (.loop (.seq (.seq (.ops [(none, (.v (.mov 43 (.t 18)))),
 (none, (.v (.mov 44 (.t 0)))),
 (none, (.p (.len 45 (.t 44)))),
 (none, (.v (.bin 46 .lss false (.t 43) (.t 45))))])
 (.cond 46
 .skip
 (.exit 0)))
 (.seq (.block 1 (.seq (.ops [(none, (.v (.mov 19 (.c (.int .i64 0)))))])
 (.block 2 (.loop (.seq (.seq (.ops [(none, (.v (.mov 49 (.t 19)))),
 (none, (.v (.mov 50 (.t 1)))),
 (none, (.p (.len 51 (.t 50)))),
 (none, (.v (.bin 52 .lss false (.t 49) (.t 51))))])
 (.cond 52
 .skip
 (.exit 2)))
 (.seq (.block 3 (.seq (.any false (.pure0 none (.v (.mov 55 (.t 0)))
 (.pure0 none (.v (.mov 56 (.t 18)))
 (.pure0 none (.p (.idx 57 1 (.t 55) (.t 56)))
 (.pure0 none (.v (.load 58 false 1 (.t 57)))
 (.pure0 none (.v (.mov 59 (.t 2)))
 (.pure0 none (.p (.idx 60 3 (.t 58) (.t 59)))
 (.pure0 none (.v (.load 61 true 3 (.t 60)))
 (.pure0 none (.v (.mov 62 (.t 1)))
 (.pure0 none (.v (.mov 63 (.t 19)))
 (.pure0 none (.p (.idx 64 1 (.t 62) (.t 63)))
 (.pure0 none (.v (.load 65 false 1 (.t 64)))
 (.pure0 none (.v (.mov 66 (.t 3)))
 (.pure0 none (.p (.idx 67 3 (.t 65) (.t 66)))
 (.pure0 none (.v (.load 68 true 3 (.t 67)))
 (.pure0 none (.v (.eq 69 false (.agg [(0, false, 1, .int), (1, false, 1, .int), (2, false, 1, .str)]) (.t 61) (.t 68)))
 (.pure0 none (.v (.mov 70 (.t 69)))
 (.pure0 (some (70, true)) (.v (.mov 71 (.t 0)))
 (.pure0 (some (70, true)) (.v (.mov 72 (.t 18)))
 (.pure0 (some (70, true)) (.p (.idx 73 1 (.t 71) (.t 72)))
 (.pure0 (some (70, true)) (.v (.load 74 false 1 (.t 73)))
 (.pure0 (some (70, true)) (.v (.mov 75 (.t 2)))
 (.pure0 (some (70, true)) (.p (.idx 76 3 (.t 74) (.t 75)))
 (.pure0 (some (70, true)) (.v (.fld 77 0 (.t 76)))
 (.pure0 (some (70, true)) (.v (.load 78 false 1 (.t 77)))
 (.pure0 (some (70, true)) (.v (.bin 79 .neq false (.t 78) (.c (.int .i64 0))))
 (.pure0 none (.v (.pick 80 (.t 70) (.t 79) (.c (.bool false))))
 .done)))))))))))))))))))))))))))
 (.cond 80
 (.ops [(none, (.v (.mov 81 (.t 17)))),
 (none, (.v (.bin 82 .add false (.t 81) (.c (.int .i64 1))))),
 (none, (.v (.mov 17 (.t 82))))])
 .skip)))
 (.ops [(none, (.v (.mov 53 (.t 19)))),
 (none, (.v (.bin 54 .add false (.t 53) (.c (.int .i64 1))))),
 (none, (.v (.mov 19 (.t 54))))])))))))
 (.ops [(none, (.v (.mov 47 (.t 18)))),
 (none, (.v (.bin 48 .add false (.t 47) (.c (.int .i64 1))))),
 (none, (.v (.mov 18 (.t 48))))]))))))
 (.seq (.ops [(none, (.v (.load 83 true 3 (.t 13)))),
 (none, (.v (.load 84 true 3 (.t 15)))),
 (none, (.e (.call (some 85) 24 [(.t 83), (.t 84)]))),
 (none, (.v (.ext 86 0 (.t 85)))),
 (none, (.v (.ext 87 1 (.t 85)))),
 (none, (.e (.call (some 88) 21 [(.t 86), (.t 87)]))),
 (none, (.e (.alloc 20 [(.int .i64 0), (.int .i64 0)]))),
 (none, (.e (.store 2 true (.t 20) (.t 88))))])
 (.seq (.ops [(none, (.v (.load 89 true 3 (.t 15)))),
 (none, (.v (.load 90 true 3 (.t 13)))),
 (none, (.e (.call (some 91) 24 [(.t 89), (.t 90)]))),
 (none, (.v (.ext 92 0 (.t 91)))),
 (none, (.v (.ext 93 1 (.t 91)))),
 (none, (.e (.call (some 94) 21 [(.t 92), (.t 93)]))),
 (none, (.e (.alloc 21 [(.int .i64 0), (.int .i64 0)]))),
 (none, (.e (.store 2 true (.t 21) (.t 94))))])
 (.seq (.ops [(none, (.e (.call (some 95) 10 []))),
 (none, (.v (.mov 96 (.t 95)))),
 ((some (96, true)), (.v (.fld 97 0 (.t 20)))),
 ((some (96, true)), (.v (.load 98 false 1 (.t 97)))),
 ((some (96, true)), (.v (.mov 99 (.t 17)))),
 ((some (96, true)), (.v (.bin 100 .leq false (.t 98) (.t 99)))),
 (none, (.v (.pick 101 (.t 96) (.t 100) (.c (.bool false))))),
 (none, (.v (.mov 102 (.t 101)))),
 ((some (102, true)), (.v (.mov 103 (.t 17)))),
 ((some (102, true)), (.v (.fld 104 1 (.t 20)))),
 ((some (102, true)), (.v (.load 105 false 1 (.t 104)))),
 ((some (102, true)), (.v (.bin 106 .leq false (.t 103) (.t 105)))),
 (none, (.v (.pick 107 (.t 102) (.t 106) (.c (.bool false))))),
 (none, (.v (.mov 108 (.t 107)))),
 ((some (108, true)), (.v (.load 109 true 2 (.t 20)))),
 ((some (108, true)), (.v (.load 110 true 2 (.t 21)))),
 ((some (108, true)), (.v (.eq 111 false (.agg [(0, false, 1, .int), (1, false, 1, .int)]) (.t 109) (.t 110)))),
 (none, (.v (.pick 112 (.t 108) (.t 111) (.c (.bool false))))),
 (none, (.v (.mov 12 (.t 112))))])
 .ret)))))))))
theorem ok8 : FnOk E 8 113 [.tmp 12] mc8 := .of func8 (by kernel_rfl) (by kernel_rfl) (by kernel_rfl) (by kernel_rfl) (by kernel_rfl)
end Go.Proofs.Try
namespace Go.Proofs.Try
open Go.Al
set_option linter.unusedVariables false
set_option linter.unusedSimpArgs false
set_option maxRecDepth 20000
set_option maxHeartbeats 8000000
/-- A right made histogram, as the law sees it. -/
theorem made_facts {l : List (List VL)} {col m : Int} (hm0 : 0 ≤ m ∧ m ≤ 255) (h : (madeOf l col m).2 = true) :
    Desc (madeOf l col m).1 (valuesC l col.toNat) l.length ∧ l.length ≤ 60 ∧ (∀ r ∈ l, 0 ≤ col ∧ col < (r.length : Int)) ∧ (∀ v ∈ valuesC l col.toNat, v.Right ∧ v.k ≠ 0) ∧ (madeOf l col m).1.bars.length ≤ 60 ∧ HOk (madeOf l col m).1 := by
  obtain ⟨hf, he, ho⟩ := made_true h
  obtain ⟨hd, hlen, hc⟩ := hist_desc hf ho
  rw [← he] at hd hlen
  have hk := hok ((chk_eq _).trans hd.chk)
  refine ⟨hd, hf.2, hc, values_right hf hc, ?_, hk⟩
  have hge := sumRows_ge (D := 1) (madeOf l col m).1.bars fun b hb => (hk.rt hb).rows
  have hs := hk.sum
  have h1 := hd.rows
  have h2 := hk.nulls0
  have h3 := hf.2
  omega
theorem valuesC_succ {l : List (List VL)} {c i : Nat} (h : i < l.length) : valuesC (l.take (i + 1)) c = valuesC (l.take i) c ++ (if ((l.getD i default).getD c default).k = 0 then [] else [(l.getD i default).getD c default]) := by
  rw [take_succD h, valuesC, List.map_append, List.filter_append]
  congr 1
  simp only [List.map_cons, List.map_nil, List.filter_cons, List.filter_nil]
  split <;> rename_i h <;> simp at h <;> simp [h]
/-- The pairs of one row, counted one by one. -/
def inn (k : List (List VL)) (o : Nat) (v : VL) (j : Nat) : Int := if v.k = 0 then 0 else (timesV (valuesC (k.take j) o) v : Int)
theorem inn_succ {k : List (List VL)} {o j : Nat} {v : VL} (h : j < k.length) : inn k o v (j + 1) = inn k o v j + (if v = (k.getD j default).getD o default ∧ v.k ≠ 0 then 1 else 0) := by
  unfold inn
  by_cases hv : v.k = 0
  · simp [hv]
  · rw [if_neg hv, if_neg hv, valuesC_succ h]
    generalize (k.getD j default).getD o default = w
    unfold timesV
    rw [List.filter_append, List.length_append]
    by_cases hw : w.k = 0
    · have : v ≠ w := fun e => hv (e ▸ hw)
      simp [hw, this]
    · by_cases e : w = v
      · subst e
        simp [hw]
      · have e' : ¬ v = w := fun q => e q.symm
        simp [hw, e, e']
theorem pairs_succ {l : List (List VL)} {c i : Nat} (k : List (List VL)) (o : Nat) (h : i < l.length) : pairs (valuesC (l.take (i + 1)) c) (valuesC k o) = pairs (valuesC (l.take i) c) (valuesC k o) + inn k o ((l.getD i default).getD c default) k.length := by
  rw [valuesC_succ h]
  unfold pairs inn
  rw [List.take_length]
  generalize (l.getD i default).getD c default = v
  by_cases hv : v.k = 0
  · simp [hv]
  · rw [if_neg hv, if_neg hv]
    unfold S
    simp
theorem inn_le (k : List (List VL)) (o : Nat) (v : VL) (j : Nat) : 0 ≤ inn k o v j ∧ inn k o v j ≤ k.length := by
  unfold inn
  split
  · omega
  · have h1 := timesV_le (valuesC (k.take j) o) v
    have h2 : (valuesC (k.take j) o).length ≤ (k.take j).length := Nat.le_trans (List.length_filter_le _ _) (by simp)
    simp only [List.length_take] at h2
    omega
theorem pairs_le (l k : List (List VL)) (c o i : Nat) : 0 ≤ pairs (valuesC (l.take i) c) (valuesC k o) ∧ pairs (valuesC (l.take i) c) (valuesC k o) ≤ l.length * k.length := by
  have h2 : (valuesC (l.take i) c).length ≤ l.length := Nat.le_trans (List.length_filter_le _ _) (by simp; omega)
  have h3 : (valuesC k o).length ≤ k.length := Nat.le_trans (List.length_filter_le _ _) (by simp)
  refine ⟨S_nonneg fun v _ => by omega, ?_⟩
  have := S_le (g := fun v => (timesV (valuesC k o) v : Int)) (f := fun _ => (k.length : Int)) (V := valuesC (l.take i) c) fun v _ => by
    have := timesV_le (valuesC k o) v
    omega
  rw [S_const] at this
  refine Int.le_trans this ?_
  exact Int.mul_le_mul_of_nonneg_right (by omega) (by omega)
theorem c8 (l k : List (List VL)) (col oth m n : Int) (hm0 : 0 ≤ m ∧ m ≤ 255) (hn0 : 0 ≤ n ∧ n ≤ 255) : ACalls E.P 8 [.view 1 (l.map rowV), .view 1 (k.map rowV), .int .i64 col, .int .i64 oth, .int .u8 m, .int .u8 n] [] (fun r H => r = .bool true ∧ H = []) := by
  have hmax := maxLen_eq
  have h10 := c10
  have h21 := c21
  have h29a := c29 l col m hm0
  have h29b := c29 k oth n hn0
  by_cases hk : (madeOf l col m).2 = true ∧ (madeOf k oth n).2 = true
  · obtain ⟨hk1, hk2⟩ := hk
    obtain ⟨d1, l1, c1, v1, b1, o1⟩ := made_facts hm0 hk1
    obtain ⟨d2, l2, c2, v2, b2, o2⟩ := made_facts hn0 hk2
    have sa : ∀ x ∈ (madeOf l col m).1.bars, x.small := fun x h => (o1.ok h).small
    have sb : ∀ x ∈ (madeOf k oth n).1.bars, x.small := fun x h => (o2.ok h).small
    have h24a := c24 _ _ sa sb (by omega) (by omega)
    have h24b := c24 _ _ sb sa (by omega) (by omega)
    obtain ⟨hj1, hj2⟩ := join_holds d1 d2 (fun v hv => (v1 v hv).1) (fun v hv => (v2 v hv).1)
    rw [joinAll_symm] at h24b
    rw [hk1] at h29a
    rw [hk2] at h29b
    generalize joinAll joinC (madeOf l col m).1.bars (madeOf k oth n).1.bars = J at *
    clear d1 d2 v1 v2 o1 o2 sa sb hk1 hk2 b1 b2
    generalize (madeOf l col m).1 = qa at *
    generalize (madeOf k oth n).1 = qb at *
    obtain ⟨a1, a2, a3⟩ := qa
    obtain ⟨b1, b2, b3⟩ := qb
    obtain ⟨J1, J2⟩ := J
    simp only [hist_av] at *
    refine ok8.acalls hE hm (by simp) fun N hN => ?_
    unfold mc8
    simp only [lA, ptrCells, ptrAdd, isNil, readsV, readsP, isCall, wrote, srcOf, seval]
    repeat' (first
     | (with_reducible apply St.o; constructor) <;> intro _
     | with_reducible first | refine LenR_i fun _ => ?_ | refine And.intro (by omega) ?_ | (apply Sp.o; constructor) | refine mkl_own ?_ | refine frz0_i ?_
     | ((with_reducible apply Sc.o false; constructor); simp only [lP, seval, ti33]; (first | refine ⟨_, h29a, ?_⟩ | refine ⟨_, h29b, ?_⟩); rintro _ _ ⟨rfl, rfl⟩; simp only [lA, lP, ptrCells, ptrAdd, isNil, readsV, readsP, isCall, wrote, srcOf, seval, ti33])
     | simp (maxSteps := 1000000) (disch := omega) only [lE, ptrCells, ptrAdd, isNil, readsV, readsP, isCall, wrote, srcOf, seval, ti33])
    refine loop_i (fun i : Nat => i ≤ l.length) (fun i => ⟨[(0, .view 1 (l.map rowV)), (1, .view 1 (k.map rowV)), (2, .int .i64 col), (3, .int .i64 oth), (13, .op 0 0), (15, .op 1 0), (17, .int .i64 (pairs (valuesC (l.take i) col.toNat) (valuesC k oth.toNat))), (18, .int .i64 i)], [.box (Hist.mk a1 a2 a3).cs, .box (Hist.mk b1 b2 b3).cs]⟩) (fun i => l.length - i) 0 (by omega) (Ent.to [0, 1] false (by simp) (by simp) rfl (by simp only [lP, seval, List.take_zero, pairs, valuesC, List.map_nil, List.filter_nil, S_nil, pa_bars] <;> (try simp) <;> (try omega)) (by simp only [lP, seval, List.take_zero, pairs, valuesC, List.map_nil, List.filter_nil, S_nil, pa_bars] <;> (try simp) <;> (try omega))) ?_
    intro i hi
    have hle := pairs_le l k col.toNat oth.toNat i
    have hmul : (l.length : Int) * k.length ≤ 3600 := by
      have := Int.mul_le_mul (by omega : (l.length : Int) ≤ 60) (by omega : (k.length : Int) ≤ 60) (by omega) (by omega)
      omega
    by_cases hil : i < l.length
    · have hnx := pairs_succ (c := col.toNat) k oth.toNat hil
      have hcr := c1 _ (getD_mem hil)
      generalize pairs (valuesC (l.take i) col.toNat) (valuesC k oth.toNat) = P at *
      generalize hx : l.getD i default = x at *
      generalize hv : x.getD col.toNat default = v at *
      repeat' (first
       | (with_reducible apply St.o; constructor) <;> intro _
       | with_reducible first | refine LenR_i fun _ => ?_ | refine And.intro (by omega) ?_ | (apply Sp.o; constructor) | refine mkl_own ?_ | refine frz0_i ?_
       | simp (maxSteps := 1000000) (disch := omega) only [lE, ptrCells, ptrAdd, isNil, readsV, readsP, isCall, wrote, srcOf, seval, List.length_map])
      all_goals try (exfalso; omega)
      refine loop_i (fun j : Nat => j ≤ k.length) (fun j => ⟨[(0, .view 1 (l.map rowV)), (1, .view 1 (k.map rowV)), (2, .int .i64 col), (3, .int .i64 oth), (13, .op 0 0), (15, .op 1 0), (17, .int .i64 (P + inn k oth.toNat v j)), (18, .int .i64 i), (19, .int .i64 j)], [.box (Hist.mk a1 a2 a3).cs, .box (Hist.mk b1 b2 b3).cs]⟩) (fun j => k.length - j) 0 (by omega) (Ent.to [0, 1] false (by simp) (by simp) rfl (by simp only [lP, seval, List.take_zero, inn, valuesC, List.map_nil, List.filter_nil, timesV, List.length_nil, ite_self, pa_bars] <;> (try simp) <;> (try omega)) (by simp only [lP, seval, List.take_zero, inn, valuesC, List.map_nil, List.filter_nil, timesV, List.length_nil, ite_self, pa_bars] <;> (try simp) <;> (try omega))) ?_
      intro j hj
      have hil2 := inn_le k oth.toNat v j
      by_cases hjl : j < k.length
      · have hjx := inn_succ (o := oth.toNat) (v := v) hjl
        have hcw := c2 _ (getD_mem hjl)
        generalize inn k oth.toNat v j = Q at *
        generalize hy : k.getD j default = y at *
        generalize hw : y.getD oth.toNat default = w at *
        repeat' (first
         | (with_reducible apply St.o; constructor) <;> intro _
         | with_reducible first | refine LenR_i fun _ => ?_ | refine And.intro (by omega) ?_ | (apply Sp.o; constructor) | refine mkl_own ?_ | refine frz0_i ?_ | refine any_i [] ?_
         | simp (maxSteps := 1000000) (disch := omega) only [lE, ptrCells, ptrAdd, isNil, readsV, readsP, isCall, wrote, srcOf, seval, IdxR_rows, IdxR_vls, hx, hv, hy, hw, Int.toNat_natCast, List.length_map, vl_eq, vl_eq2])
        all_goals try (exfalso; omega)
        · rename_i e1 e2
          rw [if_pos ⟨e1, e2⟩] at hjx
          exact back_i (j + 1) (by omega) (by omega) (Ent.to [0, 1] false (by simp) (by simp) rfl (by simp only [lP, seval, hjx, Int.add_assoc, pa_bars] <;> (try simp) <;> (try omega)) (by simp only [lP, seval, hjx, Int.add_assoc, pa_bars] <;> (try simp) <;> (try omega)))
        · rename_i e1 e2
          rw [if_neg (fun q => q.2 e2), Int.add_zero] at hjx
          exact back_i (j + 1) (by omega) (by omega) (Ent.to [0, 1] false (by simp) (by simp) rfl (by simp only [lP, seval, hjx, pa_bars] <;> (try simp) <;> (try omega)) (by simp only [lP, seval, hjx, pa_bars] <;> (try simp) <;> (try omega)))
        · rename_i e1
          rw [if_neg (fun q => e1 q.1), Int.add_zero] at hjx
          exact back_i (j + 1) (by omega) (by omega) (Ent.to [0, 1] false (by simp) (by simp) rfl (by simp only [lP, seval, hjx, pa_bars] <;> (try simp) <;> (try omega)) (by simp only [lP, seval, hjx, pa_bars] <;> (try simp) <;> (try omega)))
      · have hje : j = k.length := by omega
        subst hje
        rw [← hnx]
        repeat' (first
         | (with_reducible apply St.o; constructor) <;> intro _
         | with_reducible first | refine LenR_i fun _ => ?_ | refine And.intro (by omega) ?_ | (apply Sp.o; constructor) | refine mkl_own ?_ | refine frz0_i ?_
         | simp (maxSteps := 1000000) (disch := omega) only [lE, ptrCells, ptrAdd, isNil, readsV, readsP, isCall, wrote, srcOf, seval, List.length_map, Int.lt_irrefl, decide_false])
        exact back_i (i + 1) (by omega) (by omega) (Ent.to [0, 1] false (by simp) (by simp) rfl (by simp only [lP, seval, pa_bars] <;> (try simp) <;> (try omega)) (by simp only [lP, seval, pa_bars] <;> (try simp) <;> (try omega)))
    · have hie : i = l.length := by omega
      subst hie
      rw [List.take_length] at hle ⊢
      generalize pairs (valuesC l col.toNat) (valuesC k oth.toNat) = P at *
      repeat' (first
       | (with_reducible apply St.o; constructor) <;> intro _
       | with_reducible first | refine LenR_i fun _ => ?_ | refine And.intro (by omega) ?_ | (apply Sp.o; constructor) | refine mkl_own ?_ | refine frz0_i ?_
       | ((with_reducible apply Sc.o true; constructor); simp only [lP, seval, List.length_map, Int.lt_irrefl, decide_false]; (first | refine ⟨_, h24a, ?_⟩ | refine ⟨_, h24b, ?_⟩ | refine ⟨_, h21 _ _, ?_⟩ | refine ⟨_, h10, ?_⟩); rintro _ _ ⟨rfl, rfl⟩; simp only [lA, lP, ptrCells, ptrAdd, isNil, readsV, readsP, isCall, wrote, srcOf, seval, List.length_map, Int.lt_irrefl, decide_false])
       | simp (maxSteps := 1000000) (disch := omega) only [lE, ptrCells, ptrAdd, isNil, readsV, readsP, isCall, wrote, srcOf, seval, List.length_map, Int.lt_irrefl, decide_false])
      all_goals first
        | (exfalso; omega)
        | exact keep0_i ⟨rfl, rfl⟩
        | (trace_state; sorry)
  · have hkk : (madeOf l col m).2 = false ∨ (madeOf k oth n).2 = false := by
      cases h1 : (madeOf l col m).2 <;> cases h2 : (madeOf k oth n).2 <;> simp_all
    generalize madeOf l col m = qa at *
    generalize madeOf k oth n = qb at *
    obtain ⟨⟨a1, a2, a3⟩, a4⟩ := qa
    obtain ⟨⟨b1, b2, b3⟩, b4⟩ := qb
    simp only [hist_av] at *
    refine ok8.acalls hE hm (by simp) fun N hN => ?_
    unfold mc8
    simp only [lA, ptrCells, ptrAdd, isNil, readsV, readsP, isCall, wrote, srcOf, seval]
    repeat' (first
     | (with_reducible apply St.o; constructor) <;> intro _
     | with_reducible first | refine LenR_i fun _ => ?_ | refine And.intro (by omega) ?_ | (apply Sp.o; constructor) | refine mkl_own ?_ | refine frz0_i ?_
     | ((with_reducible apply Sc.o true; constructor); simp only [lP, seval, ti33]; refine ⟨_, h10, ?_⟩; rintro _ _ ⟨rfl, rfl⟩; simp only [lA, lP, ptrCells, ptrAdd, isNil, readsV, readsP, isCall, wrote, srcOf, seval, ti33])
     | ((with_reducible apply Sc.o false; constructor); simp only [lP, seval, ti33]; (first | refine ⟨_, h29a, ?_⟩ | refine ⟨_, h29b, ?_⟩); rintro _ _ ⟨rfl, rfl⟩; simp only [lA, lP, ptrCells, ptrAdd, isNil, readsV, readsP, isCall, wrote, srcOf, seval, ti33])
     | simp (maxSteps := 1000000) (disch := omega) only [lE, ptrCells, ptrAdd, isNil, readsV, readsP, isCall, wrote, srcOf, seval, ti33])
    all_goals first
      | exact keep0_i ⟨rfl, rfl⟩
      | (exfalso; simp_all; done)
      | (trace_state; sorry)
end Go.Proofs.Try


namespace Go.Proofs.Ytlokeliagcaepaa
open Go.Al Go.Proofs.Try
open Go.ChangeShapes Go.WideShapes Go.ChangeAt Go.RowKit
set_option linter.unusedVariables false
set_option maxRecDepth 100000 in
theorem lifted8 (os : Os) (started : os.Started) (H : Type) (enc : TypeId × Value → H) :
    ReturnsInHanded {} Try.checked os 8 .any (Rows.statsJoinHoldsSpec.pre6 enc Try.prog Try.f8 Rows.statsJoinHoldsRow.domain false) (Rows.statsJoinHoldsSpec.post enc Try.prog Try.f8 false true false false) := by
  refine returnsInHanded_of_change (C := Try.checked) own started (by kernel_rfl) Try.func8
    (ChangeSpec.witness6 (enc := enc) (C := Try.checked) false ⟨#[], #[.slice none 0 0, .slice none 0 0, .int .i64 0, .int .i64 0, .int .u8 0, .int .u8 0], []⟩ 8 (by kernel_rfl) (by kernel_rfl) (by kernel_rfl) (by kernel_rfl)) ?_
  intro W base args ds gs before hval hW _ _
  exact contract_of hE kids full (s := Rows.statsJoinHoldsSpec) (tb := 4) (by rw [Try.params8]; decide +kernel) (by rw [Try.params8]; exact reads_cons rv22 (reads_cons rv22 (reads_cons rv3 (reads_cons rv3 (reads_cons rv5 (reads_cons rv5 (reads_nil))))))) (by rintro _ ⟨a, _, ha, ⟨b, _, hb, ⟨c, _, hc, ⟨d, _, hd, ⟨e, _, he, ⟨f, _, hf, rfl, rfl⟩, rfl⟩, rfl⟩, rfl⟩, rfl⟩, rfl⟩; exact c8 a b c d e f he hf) rfl
    (by rw [Try.params8]; rintro H (_ | ⟨d0, (_ | ⟨d1, (_ | ⟨d2, (_ | ⟨d3, (_ | ⟨d4, (_ | ⟨d5, (_ | ⟨dz, ds⟩)⟩)⟩)⟩)⟩)⟩)⟩) hl <;> simp at hl; exact ⟨rfl, rfl, rfl⟩) (by kernel_rfl) (by kernel_rfl) H enc W base args ds gs before (glob_ok _) hval hW
theorem statsJoinHolds_holds : Rows.StatsJoinHoldsSaid :=
  OpenClaim.holds_of_wide 8 Try.f8 rfl rfl rfl rfl rfl rfl rfl ⟨rfl, rfl, rfl, rfl, rfl⟩ rfl rfl rfl rfl rfl (by kernel_rfl) Try.func8 (by kernel_rfl)
    (of_decide_eq_true (by kernel_rfl)) (by unfold Func.isWrapper; first | (rw [if_pos (by decide +kernel)]; kernel_rfl) | (rw [if_neg (by decide +kernel)]; exact ⟨rfl, rfl⟩))
    (fun os started H enc _ => lifted8 os started H enc)
end Go.Proofs.Ytlokeliagcaepaa
