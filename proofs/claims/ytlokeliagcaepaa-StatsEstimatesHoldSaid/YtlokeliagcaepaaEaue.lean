/-
  A part of the proof: see the text of the law.
-/
import Derived.Test.YtlokeliagcaepaaEat
import Derived.Test.YtlokeliagcaepaaEaz
import Derived.Test.YtlokeliagcaepaaEak
import Derived.Test.YtlokeliagcaepaaPar
set_option linter.unusedSimpArgs false
set_option linter.unusedVariables false
namespace Go.Proofs.Try
open Go.Al
set_option maxRecDepth 100000
/-- alum/alumlaw39.made -/
def mc29 : MC :=
 (.seq (.ops [(none, (.e (.alloc 6 [(.int .i64 0), (.int .i64 0), (.raw (.slice none 0 0))]))),
 (none, (.v (.mov 7 (.c (.bool false)))))])
 (.seq (.ops [(none, (.v (.mov 11 (.t 0)))),
 (none, (.e (.call (some 12) 9 [(.t 11)]))),
 (none, (.v (.mov 8 (.t 12))))])
 (.seq (.seq (.ops [(none, (.v (.mov 13 (.t 8)))),
 (none, (.v (.not 14 (.t 13))))])
 (.cond 14
 (.seq (.ops [(none, (.v (.build 15 [(.int .i64 0), (.int .i64 0), (.raw (.slice none 0 0))] []))),
 (none, (.e (.store 3 true (.t 6) (.t 15)))),
 (none, (.v (.mov 7 (.c (.bool false)))))])
 .ret)
 .skip))
 (.seq (.ops [(none, (.v (.mov 17 (.t 0)))),
 (none, (.v (.mov 18 (.t 1)))),
 (none, (.v (.mov 19 (.t 2)))),
 (none, (.v (.conv 20 .i64 (.t 19)))),
 (none, (.p (.rem 21 (.t 20) (.c (.int .i64 100))))),
 (none, (.v (.bin 22 .add false (.c (.int .i64 1)) (.t 21)))),
 (none, (.e (.call (some 23) 13 [(.t 17), (.t 18), (.t 22)]))),
 (none, (.v (.mov 16 (.t 23)))),
 (none, (.v (.ext 24 0 (.t 16)))),
 (none, (.v (.ext 25 1 (.t 16)))),
 (none, (.e (.alloc 9 [(.int .i64 0), (.int .i64 0), (.raw (.slice none 0 0))]))),
 (none, (.e (.store 3 true (.t 9) (.t 24)))),
 (none, (.v (.mov 10 (.t 25))))])
 (.seq (.ops [(none, (.v (.load 26 true 3 (.t 9)))),
 (none, (.v (.mov 27 (.t 10)))),
 (none, (.v (.bin 28 .eql false (.t 27) (.c (.int .i64 0))))),
 (none, (.e (.store 3 true (.t 6) (.t 26)))),
 (none, (.v (.mov 7 (.t 28))))])
 .ret)))))
theorem ok29 : FnOk E 29 29 [.cell 6 33, .tmp 7] mc29 := .of func29 (by kernel_rfl) (by kernel_rfl) (by kernel_rfl) (by kernel_rfl) (by kernel_rfl)
/-- alum/alumref39.Describes -/
def mc30 : MC :=
 (.seq (.ops [(none, (.e (.box 3 (.t 0)))),
 (none, (.v (.mov 6 (.c (.bool false)))))])
 (.seq (.seq (.ops [(none, (.v (.load 13 true 3 (.t 3)))),
 (none, (.e (.call (some 14) 17 [(.t 13)]))),
 (none, (.v (.bin 15 .neq false (.t 14) (.c (.int .i64 0))))),
 (none, (.v (.mov 16 (.t 15)))),
 ((some (16, false)), (.v (.fld 17 0 (.t 3)))),
 ((some (16, false)), (.v (.load 18 false 1 (.t 17)))),
 ((some (16, false)), (.v (.mov 19 (.t 1)))),
 ((some (16, false)), (.p (.len 20 (.t 19)))),
 ((some (16, false)), (.v (.bin 21 .neq false (.t 18) (.t 20)))),
 (none, (.v (.pick 22 (.t 16) (.c (.bool true)) (.t 21))))])
 (.cond 22
 (.seq (.ops [(none, (.v (.mov 6 (.c (.bool false)))))])
 .ret)
 .skip))
 (.seq (.ops [(none, (.v (.mov 23 (.t 1)))),
 (none, (.v (.mov 24 (.t 2)))),
 (none, (.e (.call (some 25) 33 [(.t 23), (.t 24)]))),
 (none, (.v (.mov 7 (.t 25))))])
 (.seq (.seq (.ops [(none, (.v (.fld 26 1 (.t 3)))),
 (none, (.v (.load 27 false 1 (.t 26)))),
 (none, (.v (.mov 28 (.t 1)))),
 (none, (.p (.len 29 (.t 28)))),
 (none, (.v (.mov 30 (.t 7)))),
 (none, (.p (.len 31 (.t 30)))),
 (none, (.v (.bin 32 .sub false (.t 29) (.t 31)))),
 (none, (.v (.bin 33 .neq false (.t 27) (.t 32))))])
 (.cond 33
 (.seq (.ops [(none, (.v (.mov 6 (.c (.bool false)))))])
 .ret)
 .skip))
 (.seq (.seq (.ops [(none, (.v (.mov 8 (.c (.int .i64 0)))))])
 (.block 0 (.loop (.seq (.seq (.ops [(none, (.v (.mov 34 (.t 8)))),
 (none, (.v (.fld 35 2 (.t 3)))),
 (none, (.v (.load 36 false 1 (.t 35)))),
 (none, (.p (.len 37 (.t 36)))),
 (none, (.v (.bin 38 .lss false (.t 34) (.t 37))))])
 (.cond 38
 .skip
 (.exit 0)))
 (.seq (.block 1 (.seq (.ops [(none, (.v (.fld 41 2 (.t 3)))),
 (none, (.v (.load 42 false 1 (.t 41)))),
 (none, (.v (.mov 43 (.t 8)))),
 (none, (.p (.idx 44 9 (.t 42) (.t 43)))),
 (none, (.v (.load 45 true 9 (.t 44)))),
 (none, (.e (.alloc 9 [(.int .i64 0), (.int .i64 0), (.str ⟨#[]⟩), (.int .i64 0), (.int .i64 0), (.str ⟨#[]⟩), (.int .i64 0), (.int .i64 0), (.int .i64 0)]))),
 (none, (.e (.store 9 true (.t 9) (.t 45))))])
 (.seq (.ops [(none, (.v (.mov 10 (.c (.raw (.slice none 0 0))))))])
 (.seq (.seq (.ops [(none, (.v (.mov 11 (.c (.int .i64 0)))))])
 (.block 2 (.loop (.seq (.seq (.ops [(none, (.v (.mov 46 (.t 11)))),
 (none, (.v (.mov 47 (.t 7)))),
 (none, (.p (.len 48 (.t 47)))),
 (none, (.v (.bin 49 .lss false (.t 46) (.t 48))))])
 (.cond 49
 .skip
 (.exit 2)))
 (.seq (.block 3 (.seq (.any false (.pure0 none (.v (.mov 52 (.t 7)))
 (.pure0 none (.v (.mov 53 (.t 11)))
 (.pure0 none (.p (.idx 54 3 (.t 52) (.t 53)))
 (.pure0 none (.v (.fld 55 0 (.t 54)))
 (.pure0 none (.v (.load 56 false 1 (.t 55)))
 (.pure0 none (.v (.fld 57 0 (.t 9)))
 (.pure0 none (.v (.fld 58 0 (.t 57)))
 (.pure0 none (.v (.load 59 false 1 (.t 58)))
 (.pure0 none (.v (.bin 60 .eql false (.t 56) (.t 59)))
 (.pure0 none (.v (.mov 61 (.t 60)))
 (.pure0 (some (61, true)) (.v (.mov 62 (.t 7)))
 (.pure0 (some (61, true)) (.v (.mov 63 (.t 11)))
 (.pure0 (some (61, true)) (.p (.idx 64 3 (.t 62) (.t 63)))
 (.pure0 (some (61, true)) (.v (.load 65 true 3 (.t 64)))
 (.pure0 (some (61, true)) (.v (.fld 66 0 (.t 9)))
 (.pure0 (some (61, true)) (.v (.load 67 true 3 (.t 66)))
 (.alt (some (61, true)) (.e (.call (some 68) 47 [(.t 65), (.t 67)]))
 (.base (.pure0 (some (61, true)) (.v (.bin 69 .geq false (.t 68) (.c (.int .i64 0))))
 (.pure0 none (.v (.pick 70 (.t 61) (.t 69) (.c (.bool false))))
 (.pure0 none (.v (.mov 71 (.t 70)))
 (.pure0 (some (71, true)) (.v (.mov 72 (.t 7)))
 (.pure0 (some (71, true)) (.v (.mov 73 (.t 11)))
 (.pure0 (some (71, true)) (.p (.idx 74 3 (.t 72) (.t 73)))
 (.pure0 (some (71, true)) (.v (.load 75 true 3 (.t 74)))
 (.pure0 (some (71, true)) (.v (.fld 76 3 (.t 9)))
 (.pure0 (some (71, true)) (.v (.load 77 true 3 (.t 76)))
 (.alt (some (71, true)) (.e (.call (some 78) 47 [(.t 75), (.t 77)]))
 (.base (.pure0 (some (71, true)) (.v (.bin 79 .leq false (.t 78) (.c (.int .i64 0))))
 (.pure0 none (.v (.pick 80 (.t 71) (.t 79) (.c (.bool false))))
 .done)))
 .stop)))))))))))
 .stop))))))))))))))))))
 (.cond 80
 (.ops [(none, (.v (.mov 81 (.t 10)))),
 (none, (.v (.mov 82 (.t 7)))),
 (none, (.v (.mov 83 (.t 11)))),
 (none, (.p (.idx 84 3 (.t 82) (.t 83)))),
 (none, (.v (.load 85 true 3 (.t 84)))),
 (none, (.e (.mkl 86 40 3 1 (.agg [(.int .i64 0), (.int .i64 0), (.str ⟨#[]⟩)]) [(0, (.t 85))]))),
 (none, (.e (.app 87 40 3 32 (.t 81) (.t 86)))),
 (none, (.v (.mov 10 (.t 87))))])
 .skip)))
 (.ops [(none, (.v (.mov 50 (.t 11)))),
 (none, (.v (.bin 51 .add false (.t 50) (.c (.int .i64 1))))),
 (none, (.v (.mov 11 (.t 51))))]))))))
 (.seq (.ops [(none, (.v (.mov 88 (.t 10)))),
 (none, (.e (.call (some 89) 32 [(.t 88)]))),
 (none, (.p (.len 90 (.t 89)))),
 (none, (.v (.mov 12 (.t 90))))])
 (.seq (.ops [(none, (.v (.mov 91 (.t 10)))),
 (none, (.p (.len 92 (.t 91)))),
 (none, (.v (.fld 93 6 (.t 9)))),
 (none, (.v (.load 94 false 1 (.t 93)))),
 (none, (.v (.bin 95 .neq false (.t 92) (.t 94)))),
 (none, (.v (.mov 96 (.t 95)))),
 ((some (96, false)), (.v (.mov 97 (.t 12)))),
 ((some (96, false)), (.v (.fld 98 7 (.t 9)))),
 ((some (96, false)), (.v (.load 99 false 1 (.t 98)))),
 ((some (96, false)), (.v (.bin 100 .lss false (.t 97) (.t 99)))),
 (none, (.v (.pick 101 (.t 96) (.c (.bool true)) (.t 100)))),
 (none, (.v (.mov 102 (.t 101)))),
 ((some (102, false)), (.v (.mov 103 (.t 12)))),
 ((some (102, false)), (.v (.fld 104 8 (.t 9)))),
 ((some (102, false)), (.v (.load 105 false 1 (.t 104)))),
 ((some (102, false)), (.v (.bin 106 .gtr false (.t 103) (.t 105)))),
 (none, (.v (.pick 107 (.t 102) (.c (.bool true)) (.t 106)))),
 (none, (.v (.mov 108 (.t 107)))),
 ((some (108, false)), (.v (.mov 109 (.t 7)))),
 ((some (108, false)), (.v (.fld 110 0 (.t 9)))),
 ((some (108, false)), (.v (.load 111 true 3 (.t 110)))),
 ((some (108, false)), (.e (.call (some 112) 45 [(.t 109), (.t 111)]))),
 ((some (108, false)), (.v (.bin 113 .eql false (.t 112) (.c (.int .i64 0))))),
 (none, (.v (.pick 114 (.t 108) (.c (.bool true)) (.t 113)))),
 (none, (.v (.mov 115 (.t 114)))),
 ((some (115, false)), (.v (.mov 116 (.t 7)))),
 ((some (115, false)), (.v (.fld 117 3 (.t 9)))),
 ((some (115, false)), (.v (.load 118 true 3 (.t 117)))),
 ((some (115, false)), (.e (.call (some 119) 45 [(.t 116), (.t 118)]))),
 ((some (115, false)), (.v (.bin 120 .eql false (.t 119) (.c (.int .i64 0))))),
 (none, (.v (.pick 121 (.t 115) (.c (.bool true)) (.t 120))))])
 (.cond 121
 (.seq (.ops [(none, (.v (.mov 6 (.c (.bool false)))))])
 .ret)
 .skip)))))))
 (.ops [(none, (.v (.mov 39 (.t 8)))),
 (none, (.v (.bin 40 .add false (.t 39) (.c (.int .i64 1))))),
 (none, (.v (.mov 8 (.t 40))))]))))))
 (.seq (.ops [(none, (.v (.mov 6 (.c (.bool true)))))])
 .ret))))))
theorem ok30 : FnOk E 30 122 [.tmp 6] mc30 := .of func30 (by kernel_rfl) (by kernel_rfl) (by kernel_rfl) (by kernel_rfl) (by kernel_rfl)
end Go.Proofs.Try
namespace Go.Proofs.Try
open Go.Al
set_option linter.unusedVariables false
set_option linter.unusedSimpArgs false
set_option maxRecDepth 20000
set_option maxHeartbeats 8000000

theorem keepHb_i {Q : AV → List AObj → Prop} {H : List AObj} {x : AV} {n m : Int} {e : Bool} {l : List Bar} (hx : Weak (pa H [] true 6 x) (.view 9 (l.map Bar.av))) (h : Q (.tup [(Hist.mk n m l).av, .bool e]) []) : keepQ 0 Q (.tup [.agg [.int .i64 n, .int .i64 m, x], .bool e]) H := by
  refine keepw_i [] true rfl (by simp) rfl (r' := .tup [(Hist.mk n m l).av, .bool e]) ?_ h
  simp only [pa_tup, List.map_cons, List.map_nil, pa_agg, pa_int, pa_bool]
  exact WeakL.tup (WeakL.cons (WeakL.agg (WeakL.cons (.refl _) (WeakL.cons (.refl _) (WeakL.cons hx (.refl _))))) (.refl _))
theorem c29 (l : List (List VL)) (col m : Int) (hm0 : 0 ≤ m ∧ m ≤ 255) : ACalls E.P 29 [.view 1 (l.map rowV), .int .i64 col, .int .u8 m] [] (fun r H => r = .tup [(madeOf l col m).1.av, .bool (madeOf l col m).2] ∧ H = []) := by
  have hmax := maxLen_eq
  have h9 := c9 l
  have h5 : IntKind.i64.wrap m = m := by rw [IntKind.wrap_i64]; omega
  have h6 : m.tmod 100 = m % 100 := by rw [Int.tmod_eq_emod_of_nonneg (by omega)]
  have h7 : IntKind.i64.wrap (1 + m % 100) = 1 + m % 100 := by rw [IntKind.wrap_i64]; omega
  by_cases hf : fewR l
  · have h13 := c13 l col (1 + m % 100) hf
    have he : madeOf l col m = ((histOf l col (1 + m % 100)).1, decide ((histOf l col (1 + m % 100)).2 = 0)) := if_pos hf
    rw [he]
    rw [decide_eq_true hf] at h9
    clear he
    generalize histOf l col (1 + m % 100) = q at *
    obtain ⟨⟨q1, q2, q3⟩, q4⟩ := q
    simp only [hist_av] at *
    refine ok29.acalls hE hm (by simp) fun N hN => ?_
    unfold mc29
    simp only [lA, ptrCells, ptrAdd, isNil, readsV, readsP, isCall, wrote, srcOf, seval]
    repeat' (first
     | (with_reducible apply St.o; constructor) <;> intro _
     | with_reducible first | refine LenR_i fun _ => ?_ | refine And.intro (by omega) ?_ | (apply Sp.o; constructor) | refine mkl_own ?_ | refine frz0_i ?_
     | ((with_reducible apply Sc.o true; constructor); simp only [lP, seval, ti33, h5, h6, h7]; refine ⟨_, h9, ?_⟩; rintro _ _ ⟨rfl, rfl⟩; simp only [lA, lP, ptrCells, ptrAdd, isNil, readsV, readsP, isCall, wrote, srcOf, seval, ti33, h5, h6, h7])
     | ((with_reducible apply Sc.o false; constructor); simp only [lP, seval, ti33, h5, h6, h7]; refine ⟨_, h13, ?_⟩; rintro _ _ ⟨rfl, rfl⟩; simp only [lA, lP, ptrCells, ptrAdd, isNil, readsV, readsP, isCall, wrote, srcOf, seval, ti33, h5, h6, h7])
     | simp (maxSteps := 1000000) (disch := omega) only [lE, ptrCells, ptrAdd, isNil, readsV, readsP, isCall, wrote, srcOf, seval, ti33, h5, h6, h7])
    all_goals exact keep0_i ⟨rfl, rfl⟩
  · have he : madeOf l col m = (h0, false) := if_neg hf
    rw [he]
    rw [decide_eq_false hf] at h9
    refine ok29.acalls hE hm (by simp) fun N hN => ?_
    unfold mc29
    simp only [lA, ptrCells, ptrAdd, isNil, readsV, readsP, isCall, wrote, srcOf, seval]
    repeat' (first
     | (with_reducible apply St.o; constructor) <;> intro _
     | with_reducible first | refine LenR_i fun _ => ?_ | refine And.intro (by omega) ?_ | (apply Sp.o; constructor) | refine mkl_own ?_ | refine frz0_i ?_
     | ((with_reducible apply Sc.o true; constructor); simp only [lP, seval, ti33]; refine ⟨_, h9, ?_⟩; rintro _ _ ⟨rfl, rfl⟩; simp only [lA, lP, ptrCells, ptrAdd, isNil, readsV, readsP, isCall, wrote, srcOf, seval, ti33])
     | simp (maxSteps := 1000000) (disch := omega) only [lE, ptrCells, ptrAdd, isNil, readsV, readsP, isCall, wrote, srcOf, seval, ti33])
    exact keepHb_i (l := []) weak_nil ⟨rfl, rfl⟩
theorem c30 (h : Hist) (l : List (List VL)) (col : Int) (hd : Desc h (valuesC l col.toNat) l.length) (hb : ∀ b ∈ h.bars, inI b.rows) (hc : ∀ r ∈ l, 0 ≤ col ∧ col < (r.length : Int)) (hl : l.length ≤ 1000) :
    ACalls E.P 30 [h.av, .view 1 (l.map rowV), .int .i64 col] [] (fun r H => r = .bool true ∧ H = []) := by
  have hmax := maxLen_eq
  have h17 := c17 h hb
  rw [hd.chk, show Hist.err true = 0 from rfl] at h17
  have h33 := lendV (c33' l col hc (by omega))
  have hvl : (valuesC l col.toNat).length ≤ l.length := Nat.le_trans (List.length_filter_le _ _) (by simp)
  obtain ⟨k1, k2, k3, k4⟩ := hd
  clear k1
  obtain ⟨hr, hn, bs⟩ := h
  simp only at k2 k3 k4 hb
  generalize hV : valuesC l col.toNat = V at *
  clear hV
  simp only [hist_av] at *
  subst k2 k3
  refine ok30.acalls hE hm (by simp) fun N hN => ?_
  unfold mc30
  simp only [lA, ptrCells, ptrAdd, isNil, readsV, readsP, isCall, wrote, srcOf, seval]
  repeat' (first
   | (with_reducible apply St.o; constructor) <;> intro _
   | with_reducible first | refine LenR_i fun _ => ?_ | refine And.intro (by omega) ?_ | (apply Sp.o; constructor) | refine mkl_own ?_ | refine frz0_i ?_
   | ((with_reducible apply Sc.o true; constructor); simp only [lP, seval, List.length_map]; refine ⟨_, h17, ?_⟩; rintro _ _ ⟨rfl, rfl⟩; simp only [lA, lP, ptrCells, ptrAdd, isNil, readsV, readsP, isCall, wrote, srcOf, seval, List.length_map])
   | ((with_reducible apply Sc.o false; constructor); simp only [lP, seval, List.length_map]; refine ⟨_, h33, ?_⟩; rintro _ _ ⟨rfl, rfl⟩; simp only [lA, lP, ptrCells, ptrAdd, isNil, readsV, readsP, isCall, wrote, srcOf, seval, List.length_map])
   | simp (maxSteps := 1000000) (disch := omega) only [lE, ptrCells, ptrAdd, isNil, readsV, readsP, isCall, wrote, srcOf, seval, List.length_map])
  all_goals try (exfalso; omega)
  refine loop_i (fun i : Nat => i ≤ bs.length) (fun i => ⟨[(3, .op 0 0), (7, .view 3 (V.map VL.av)), (8, .int .i64 i)], [.box (Hist.mk l.length (l.length - V.length) bs).cs]⟩) (fun i => bs.length - i) 0 (by omega) (Ent.to [0] false (by simp) (by simp) rfl (by simp only [lP, seval] <;> (try simp) <;> (try omega)) (by simp only [lP, seval] <;> (try simp) <;> (try omega))) ?_
  intro i hi
  by_cases hil : i < bs.length
  · have hbd := k4 _ (getD_mem hil)
    generalize hbb : bs.getD i default = b at *
    have q1 := hbd.rows
    have q2 := hbd.least
    have q3 := hbd.most
    have q4 := hbd.lo
    have q5 := hbd.hi
    have h45a := c45 V b.lo
    have h45b := c45 V b.hi
    have hIl : (V.filter (inB b)).length ≤ V.length := List.length_filter_le _ _
    have h32 := c32 (V.filter (inB b)) (by omega)
    simp only [vl_av] at h45a h45b
    repeat' (first
     | (with_reducible apply St.o; constructor) <;> intro _
     | with_reducible first | refine LenR_i fun _ => ?_ | refine And.intro (by omega) ?_ | (apply Sp.o; constructor) | refine mkl_own ?_ | refine frz0_i ?_
     | simp (maxSteps := 1000000) (disch := omega) only [lE, ptrCells, ptrAdd, isNil, readsV, readsP, isCall, wrote, srcOf, seval, IdxR_bars, hbb, Int.toNat_natCast, List.length_map, fillE, List.length_cons, List.length_nil])
    all_goals try (exfalso; omega)
    refine loop_i (fun j : Nat => j ≤ V.length) (fun j => ⟨[(3, .op 0 0), (7, .view 3 (V.map VL.av)), (8, .int .i64 i), (9, .op 1 0), (10, .slc 2 3 ((V.take j).filter (inB b)).length), (11, .int .i64 j)], [.box (Hist.mk l.length (l.length - V.length) bs).cs, .box b.cs, .arr 40 3 (((V.take j).filter (inB b)).map VL.av)]⟩) (fun j => V.length - j) 0 (by omega) (Ent.ghost' 10 40 3 (by omega) rfl (Ent.to [0, 1, 2] false (by simp) (by simp) rfl (by simp only [lP, seval, List.take_zero, List.filter_nil, List.map_nil, List.length_nil] <;> (try simp) <;> (try omega)) (by simp only [lP, seval, List.take_zero, List.filter_nil, List.map_nil, List.length_nil] <;> (try simp) <;> (try omega)))) ?_
    intro j hj
    have hle : ((V.take j).filter (inB b)).length ≤ V.length := Nat.le_trans (List.length_filter_le _ _) (by simp; omega)
    by_cases hjl : j < V.length
    · have hnx : (V.take (j + 1)).filter (inB b) = (V.take j).filter (inB b) ++ (if inB b (V.getD j default) = true then [V.getD j default] else []) := by
        rw [take_succD hjl, List.filter_append]
        simp only [List.filter_cons, List.filter_nil]
      generalize (V.take j).filter (inB b) = I at *
      generalize hvv : V.getD j default = v at *
      have h47a := c47 v b.lo
      have h47b := c47 v b.hi
      simp only [vl_av] at h47a h47b
      repeat' (first
       | (with_reducible apply St.o; constructor) <;> intro _
       | with_reducible first | refine LenR_i fun _ => ?_ | refine And.intro (by omega) ?_ | (apply Sp.o; constructor) | refine mkl_own ?_ | refine frz0_i ?_ | refine any_i [] ?_
       | ((with_reducible apply Sc.o true; constructor); simp only [lP, seval, IdxR_vls, hvv, Int.toNat_natCast, List.length_map, fillE, List.length_cons, List.length_nil]; (first | refine ⟨_, h47a, ?_⟩ | refine ⟨_, h47b, ?_⟩); rintro _ _ ⟨rfl, rfl⟩; simp only [lA, lP, ptrCells, ptrAdd, isNil, readsV, readsP, isCall, wrote, srcOf, seval, IdxR_vls, hvv, Int.toNat_natCast, List.length_map, fillE, List.length_cons, List.length_nil])
       | simp (maxSteps := 1000000) (disch := omega) only [lE, ptrCells, ptrAdd, isNil, readsV, readsP, isCall, wrote, srcOf, seval, IdxR_vls, hvv, Int.toNat_natCast, List.length_map, fillE, List.length_cons, List.length_nil])
      all_goals try (exfalso; omega)
      · have hin : inB b v = true := by simp [inB, *]
        rw [if_pos hin] at hnx
        exact back_i (j + 1) (by omega) (by omega) (Ent.to [0, 1, 4] false (by simp) (by simp) rfl (by simp only [lP, seval, hnx, List.map_append, List.map_cons, List.map_nil, List.length_append, List.length_cons, List.length_nil, pa_vls, vl_av, pa_agg] <;> (try simp) <;> (try omega)) (by simp only [lP, seval, hnx, List.map_append, List.map_cons, List.map_nil, List.length_append, List.length_cons, List.length_nil, pa_vls, vl_av, pa_agg] <;> (try simp) <;> (try omega)))
      all_goals
        have hin : ¬ inB b v = true := by
          simp only [inB, Bool.and_eq_true, decide_eq_true_eq]
          rintro ⟨⟨g1, g2⟩, g3⟩
          first | omega | exact absurd g1 (by assumption) | exact absurd g2 (by assumption) | exact absurd g3 (by assumption)
        rw [if_neg hin, List.append_nil] at hnx
        exact back_i (j + 1) (by omega) (by omega) (Ent.to [0, 1, 2] false (by simp) (by simp) rfl (by simp only [lP, seval, hnx, pa_vls] <;> (try simp) <;> (try omega)) (by simp only [lP, seval, hnx, pa_vls] <;> (try simp) <;> (try omega)))
    · have hje : j = V.length := by omega
      subst hje
      rw [List.take_length]
      repeat' (first
       | (with_reducible apply St.o; constructor) <;> intro _
       | with_reducible first | refine LenR_i fun _ => ?_ | refine And.intro (by omega) ?_ | (apply Sp.o; constructor) | refine mkl_own ?_ | refine frz0_i ?_
       | ((with_reducible apply Sc.o true; constructor); simp only [lP, seval, List.length_map, Int.lt_irrefl, decide_false, vw_vls, pa_vls, novL_vls, renL_vls]; (first | refine ⟨_, h32, ?_⟩ | refine ⟨_, h45a, ?_⟩ | refine ⟨_, h45b, ?_⟩); rintro _ _ ⟨rfl, rfl⟩; simp only [lA, lP, ptrCells, ptrAdd, isNil, readsV, readsP, isCall, wrote, srcOf, seval, List.length_map, Int.lt_irrefl, decide_false, vw_vls, pa_vls, novL_vls, renL_vls])
       | simp (maxSteps := 1000000) (disch := omega) only [lE, ptrCells, ptrAdd, isNil, readsV, readsP, isCall, wrote, srcOf, seval, List.length_map, Int.lt_irrefl, decide_false, vw_vls, pa_vls, novL_vls, renL_vls])
      all_goals try (exfalso; omega)
      exact back_i (i + 1) (by omega) (by omega) (Ent.to [0] false (by simp) (by simp) rfl (by simp only [lP, seval] <;> (try simp) <;> (try omega)) (by simp only [lP, seval] <;> (try simp) <;> (try omega)))
  · have hie : i = bs.length := by omega
    subst hie
    repeat' (first
     | (with_reducible apply St.o; constructor) <;> intro _
     | with_reducible first | refine LenR_i fun _ => ?_ | refine And.intro (by omega) ?_ | (apply Sp.o; constructor) | refine mkl_own ?_ | refine frz0_i ?_
     | simp (maxSteps := 1000000) (disch := omega) only [lE, ptrCells, ptrAdd, isNil, readsV, readsP, isCall, wrote, srcOf, seval, List.length_map, Int.lt_irrefl, decide_false])
    exact keep0_i ⟨rfl, rfl⟩
end Go.Proofs.Try
