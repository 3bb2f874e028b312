/-
  A part of the proof: see the text of the law.
-/
import Derived.Test.YtlokeliagcaepaaEak
set_option linter.unusedSimpArgs false
set_option linter.unusedVariables false
namespace Go.Proofs.Try
open Go.Al
set_option maxRecDepth 100000
/-- alum/stats.Check -/
def mc18 : MC :=
 (.seq (.ops [(none, (.e (.box 1 (.t 0)))),
 (none, (.v (.mov 2 (.c (.int .i64 0)))))])
 (.seq (.seq (.ops [(none, (.v (.fld 7 0 (.t 1)))),
 (none, (.v (.load 8 false 1 (.t 7)))),
 (none, (.v (.bin 9 .lss false (.t 8) (.c (.int .i64 0))))),
 (none, (.v (.mov 10 (.t 9)))),
 ((some (10, false)), (.v (.fld 11 0 (.t 1)))),
 ((some (10, false)), (.v (.load 12 false 1 (.t 11)))),
 ((some (10, false)), (.v (.bin 13 .gtr false (.t 12) (.c (.int .i64 16777216))))),
 (none, (.v (.pick 14 (.t 10) (.c (.bool true)) (.t 13)))),
 (none, (.v (.mov 15 (.t 14)))),
 ((some (15, false)), (.v (.fld 16 1 (.t 1)))),
 ((some (15, false)), (.v (.load 17 false 1 (.t 16)))),
 ((some (15, false)), (.v (.bin 18 .lss false (.t 17) (.c (.int .i64 0))))),
 (none, (.v (.pick 19 (.t 15) (.c (.bool true)) (.t 18)))),
 (none, (.v (.mov 20 (.t 19)))),
 ((some (20, false)), (.v (.fld 21 1 (.t 1)))),
 ((some (20, false)), (.v (.load 22 false 1 (.t 21)))),
 ((some (20, false)), (.v (.fld 23 0 (.t 1)))),
 ((some (20, false)), (.v (.load 24 false 1 (.t 23)))),
 ((some (20, false)), (.v (.bin 25 .gtr false (.t 22) (.t 24)))),
 (none, (.v (.pick 26 (.t 20) (.c (.bool true)) (.t 25))))])
 (.cond 26
 (.seq (.ops [(none, (.v (.mov 2 (.c (.int .i64 3)))))])
 .ret)
 .skip))
 (.seq (.ops [(none, (.v (.fld 27 1 (.t 1)))),
 (none, (.v (.load 28 false 1 (.t 27)))),
 (none, (.v (.mov 3 (.t 28))))])
 (.seq (.seq (.ops [(none, (.v (.fld 29 2 (.t 1)))),
 (none, (.v (.load 30 false 1 (.t 29)))),
 (none, (.p (.len 31 (.t 30)))),
 (none, (.v (.mov 32 (.c (.int .i64 0)))))])
 (.block 0 (.loop (.seq (.ops [(none, (.v (.bin 33 .lss false (.t 32) (.t 31))))])
 (.seq (.cond 33
 .skip
 (.exit 0))
 (.seq (.block 1 (.seq (.ops [(none, (.v (.mov 34 (.t 32)))),
 (none, (.p (.idx 35 9 (.t 30) (.t 32)))),
 (none, (.v (.load 36 true 9 (.t 35)))),
 (none, (.e (.alloc 5 [(.int .i64 0), (.int .i64 0), (.str ⟨#[]⟩), (.int .i64 0), (.int .i64 0), (.str ⟨#[]⟩), (.int .i64 0), (.int .i64 0), (.int .i64 0)]))),
 (none, (.v (.mov 4 (.t 34)))),
 (none, (.e (.store 9 true (.t 5) (.t 36))))])
 (.seq (.seq (.any false (.pure0 none (.v (.fld 37 0 (.t 5)))
 (.pure0 none (.v (.load 38 true 3 (.t 37)))
 (.alt none (.e (.call (some 39) 48 [(.t 38)]))
 (.base (.pure0 none (.v (.not 40 (.t 39)))
 (.pure0 none (.v (.mov 41 (.t 40)))
 (.pure0 (some (41, false)) (.v (.fld 42 3 (.t 5)))
 (.pure0 (some (41, false)) (.v (.load 43 true 3 (.t 42)))
 (.alt (some (41, false)) (.e (.call (some 44) 48 [(.t 43)]))
 (.base (.pure0 (some (41, false)) (.v (.not 45 (.t 44)))
 (.pure0 none (.v (.pick 46 (.t 41) (.c (.bool true)) (.t 45)))
 (.pure0 none (.v (.mov 47 (.t 46)))
 (.pure0 (some (47, false)) (.v (.fld 48 0 (.t 5)))
 (.pure0 (some (47, false)) (.v (.fld 49 0 (.t 48)))
 (.pure0 (some (47, false)) (.v (.load 50 false 1 (.t 49)))
 (.pure0 (some (47, false)) (.v (.bin 51 .eql false (.t 50) (.c (.int .i64 0))))
 (.pure0 none (.v (.pick 52 (.t 47) (.c (.bool true)) (.t 51)))
 (.pure0 none (.v (.mov 53 (.t 52)))
 (.pure0 (some (53, false)) (.v (.fld 54 0 (.t 5)))
 (.pure0 (some (53, false)) (.v (.fld 55 0 (.t 54)))
 (.pure0 (some (53, false)) (.v (.load 56 false 1 (.t 55)))
 (.pure0 (some (53, false)) (.v (.fld 57 3 (.t 5)))
 (.pure0 (some (53, false)) (.v (.fld 58 0 (.t 57)))
 (.pure0 (some (53, false)) (.v (.load 59 false 1 (.t 58)))
 (.pure0 (some (53, false)) (.v (.bin 60 .neq false (.t 56) (.t 59)))
 (.pure0 none (.v (.pick 61 (.t 53) (.c (.bool true)) (.t 60)))
 (.pure0 none (.v (.mov 62 (.t 61)))
 (.pure0 (some (62, false)) (.v (.fld 63 0 (.t 5)))
 (.pure0 (some (62, false)) (.v (.fld 64 0 (.t 63)))
 (.pure0 (some (62, false)) (.v (.load 65 false 1 (.t 64)))
 (.pure0 (some (62, false)) (.v (.fld 66 2 (.t 1)))
 (.pure0 (some (62, false)) (.v (.load 67 false 1 (.t 66)))
 (.pure0 (some (62, false)) (.p (.idx 68 9 (.t 67) (.c (.int .i64 0))))
 (.pure0 (some (62, false)) (.v (.fld 69 0 (.t 68)))
 (.pure0 (some (62, false)) (.v (.fld 70 0 (.t 69)))
 (.pure0 (some (62, false)) (.v (.load 71 false 1 (.t 70)))
 (.pure0 (some (62, false)) (.v (.bin 72 .neq false (.t 65) (.t 71)))
 (.pure0 none (.v (.pick 73 (.t 62) (.c (.bool true)) (.t 72)))
 (.pure0 none (.v (.mov 74 (.t 73)))
 (.pure0 (some (74, false)) (.v (.fld 75 6 (.t 5)))
 (.pure0 (some (74, false)) (.v (.load 76 false 1 (.t 75)))
 (.pure0 (some (74, false)) (.v (.bin 77 .lss false (.t 76) (.c (.int .i64 1))))
 (.pure0 none (.v (.pick 78 (.t 74) (.c (.bool true)) (.t 77)))
 (.pure0 none (.v (.mov 79 (.t 78)))
 (.pure0 (some (79, false)) (.v (.fld 80 6 (.t 5)))
 (.pure0 (some (79, false)) (.v (.load 81 false 1 (.t 80)))
 (.pure0 (some (79, false)) (.v (.fld 82 0 (.t 1)))
 (.pure0 (some (79, false)) (.v (.load 83 false 1 (.t 82)))
 (.pure0 (some (79, false)) (.v (.mov 84 (.t 3)))
 (.pure0 (some (79, false)) (.v (.bin 85 .sub false (.t 83) (.t 84)))
 (.pure0 (some (79, false)) (.v (.bin 86 .gtr false (.t 81) (.t 85)))
 (.pure0 none (.v (.pick 87 (.t 79) (.c (.bool true)) (.t 86)))
 .done))))))))))))))))))))))))))))))))))))))))))))
 .stop))))))
 .stop))))
 (.cond 87
 (.seq (.ops [(none, (.v (.mov 2 (.c (.int .i64 3)))))])
 .ret)
 .skip))
 (.seq (.ops [(none, (.v (.mov 88 (.t 3)))),
 (none, (.v (.fld 89 6 (.t 5)))),
 (none, (.v (.load 90 false 1 (.t 89)))),
 (none, (.v (.bin 91 .add false (.t 88) (.t 90)))),
 (none, (.v (.mov 3 (.t 91))))])
 (.seq (.ops [(none, (.v (.mov 6 (.c (.int .i64 2)))))])
 (.seq (.seq (.ops [(none, (.v (.load 92 true 9 (.t 5)))),
 (none, (.e (.call (some 93) 49 [(.t 92)])))])
 (.cond 93
 (.ops [(none, (.v (.mov 6 (.c (.int .i64 1)))))])
 .skip))
 (.block 2 (.seq (.seq (.ops [(none, (.v (.fld 95 0 (.t 5)))),
 (none, (.v (.load 96 true 3 (.t 95)))),
 (none, (.v (.fld 97 3 (.t 5)))),
 (none, (.v (.load 98 true 3 (.t 97)))),
 (none, (.e (.call (some 99) 43 [(.t 96), (.t 98)]))),
 (none, (.v (.bin 100 .gtr false (.t 99) (.c (.int .i64 0))))),
 (none, (.v (.mov 94 (.t 100))))])
 (.cond 94
 .skip
 (.seq (.ops [(none, (.v (.fld 101 7 (.t 5)))),
 (none, (.v (.load 102 false 1 (.t 101)))),
 (none, (.v (.mov 103 (.t 6)))),
 (none, (.v (.bin 104 .lss false (.t 102) (.t 103)))),
 (none, (.v (.mov 94 (.t 104))))])
 (.cond 94
 .skip
 (.seq (.ops [(none, (.v (.fld 105 8 (.t 5)))),
 (none, (.v (.load 106 false 1 (.t 105)))),
 (none, (.v (.fld 107 7 (.t 5)))),
 (none, (.v (.load 108 false 1 (.t 107)))),
 (none, (.v (.bin 109 .lss false (.t 106) (.t 108)))),
 (none, (.v (.mov 94 (.t 109))))])
 (.cond 94
 .skip
 (.seq (.ops [(none, (.v (.fld 110 8 (.t 5)))),
 (none, (.v (.load 111 false 1 (.t 110)))),
 (none, (.v (.fld 112 6 (.t 5)))),
 (none, (.v (.load 113 false 1 (.t 112)))),
 (none, (.v (.bin 114 .gtr false (.t 111) (.t 113)))),
 (none, (.v (.mov 94 (.t 114))))])
 (.cond 94
 .skip
 (.ops [(none, (.v (.load 115 true 9 (.t 5)))),
 (none, (.e (.call (some 116) 49 [(.t 115)]))),
 (none, (.v (.mov 117 (.t 116)))),
 ((some (117, true)), (.v (.fld 118 8 (.t 5)))),
 ((some (117, true)), (.v (.load 119 false 1 (.t 118)))),
 ((some (117, true)), (.v (.bin 120 .gtr false (.t 119) (.c (.int .i64 1))))),
 (none, (.v (.pick 121 (.t 117) (.t 120) (.c (.bool false))))),
 (none, (.v (.mov 94 (.t 121))))])))))))))
 (.cond 94
 (.seq (.ops [(none, (.v (.mov 2 (.c (.int .i64 3)))))])
 .ret)
 (.seq (.any false (.pure0 none (.v (.mov 123 (.t 4)))
 (.pure0 none (.v (.bin 124 .gtr false (.t 123) (.c (.int .i64 0))))
 (.pure0 none (.v (.mov 125 (.t 124)))
 (.pure0 (some (125, true)) (.v (.fld 126 2 (.t 1)))
 (.pure0 (some (125, true)) (.v (.load 127 false 1 (.t 126)))
 (.pure0 (some (125, true)) (.v (.mov 128 (.t 4)))
 (.pure0 (some (125, true)) (.v (.bin 129 .sub false (.t 128) (.c (.int .i64 1))))
 (.pure0 (some (125, true)) (.p (.idx 130 9 (.t 127) (.t 129)))
 (.pure0 (some (125, true)) (.v (.fld 131 3 (.t 130)))
 (.pure0 (some (125, true)) (.v (.load 132 true 3 (.t 131)))
 (.pure0 (some (125, true)) (.v (.fld 133 0 (.t 5)))
 (.pure0 (some (125, true)) (.v (.load 134 true 3 (.t 133)))
 (.alt (some (125, true)) (.e (.call (some 135) 43 [(.t 132), (.t 134)]))
 (.base (.pure0 (some (125, true)) (.v (.bin 136 .geq false (.t 135) (.c (.int .i64 0))))
 (.pure0 none (.v (.pick 137 (.t 125) (.t 136) (.c (.bool false))))
 (.pure0 none (.v (.mov 122 (.t 137)))
 .done))))
 .stop))))))))))))))
 (.cond 122
 (.seq (.ops [(none, (.v (.mov 2 (.c (.int .i64 3)))))])
 .ret)
 .skip)))))))))))
 (.ops [(none, (.v (.bin 138 .add false (.t 32) (.c (.int .i64 1))))),
 (none, (.v (.mov 32 (.t 138))))])))))))
 (.seq (.seq (.ops [(none, (.v (.mov 139 (.t 3)))),
 (none, (.v (.fld 140 0 (.t 1)))),
 (none, (.v (.load 141 false 1 (.t 140)))),
 (none, (.v (.bin 142 .neq false (.t 139) (.t 141))))])
 (.cond 142
 (.seq (.ops [(none, (.v (.mov 2 (.c (.int .i64 3)))))])
 .ret)
 .skip))
 (.seq (.ops [(none, (.v (.mov 2 (.c (.int .i64 0)))))])
 .ret))))))
theorem ok18 : FnOk E 18 143 [.tmp 2] mc18 := .of func18 (by kernel_rfl) (by kernel_rfl) (by kernel_rfl) (by kernel_rfl) (by kernel_rfl)
end Go.Proofs.Try
namespace Go.Proofs.Try
open Go.Al
set_option linter.unusedVariables false
set_option linter.unusedSimpArgs false
set_option maxRecDepth 20000
set_option maxHeartbeats 8000000

def Bar.inR (b : Bar) : Prop := inI b.lo.n ∧ inI b.hi.n ∧ inI b.rows ∧ inI b.least ∧ inI b.most
theorem c18 (h : Hist) (hin : ∀ b ∈ h.bars, b.inR) : ACalls E.P 18 [h.av] [] (fun r H => r = .int .i64 (Hist.err h.chkC) ∧ H = []) := by
  have hmax := maxLen_eq
  obtain ⟨hr, hn, l⟩ := h
  simp only at hin
  have key : ∀ q, q = Hist.chkC ⟨hr, hn, l⟩ → ∀ n, n = Hist.err q → (AV.int .i64 n = AV.int .i64 (Hist.err (Hist.chkC ⟨hr, hn, l⟩))) := fun b h n hn => by rw [hn, h]
  refine ok18.acalls hE hm (by simp) fun N hN => ?_
  unfold mc18
  simp only [lA, ptrCells, ptrAdd, isNil, readsV, readsP, isCall, wrote, srcOf, seval, hist_av]
  repeat' (first
   | (with_reducible apply St.o; constructor) <;> intro _
   | with_reducible first | refine LenR_i fun _ => ?_ | refine And.intro (by omega) ?_ | (apply Sp.o; constructor) | refine mkl_own ?_ | refine frz0_i ?_
   | ((with_reducible refine keep0_i ?_); simp only [lP, seval])
   | simp (maxSteps := 1000000) (disch := omega) only [lE, ptrCells, ptrAdd, isNil, readsV, readsP, isCall, wrote, srcOf, seval, List.length_map])
  all_goals try (refine key false ?_ _ rfl; simp only [Hist.chkC, Hist.ok]; simp; omega)
  rename_i q1 q2 q3 q4 _
  have hall : Hist.chkC ⟨hr, hn, l⟩ = okFrom (fun b => b.rtC (l.getD 0 default).lo.k) VL.cmp hr none hn l := by
    simp only [Hist.chkC, Hist.ok]
    rw [decide_eq_true (by omega), decide_eq_true (by omega), decide_eq_true (by omega), decide_eq_true (by omega)]
    simp
  refine loop_i (fun s : Nat × Int => s.1 ≤ l.length ∧ 0 ≤ s.2 ∧ s.2 ≤ hr ∧ Hist.chkC ⟨hr, hn, l⟩ = okFrom (fun b => b.rtC (l.getD 0 default).lo.k) VL.cmp hr (prevB l s.1) s.2 (l.drop s.1)) (fun s => ⟨[(1, .op 0 0), (2, .int .i64 0), (3, .int .i64 s.2), (30, .view 9 (l.map Bar.av)), (31, .int .i64 l.length), (32, .int .i64 s.1)], [.box (Hist.mk hr hn l).cs]⟩) (fun s => l.length - s.1) (0, hn) ⟨by simp, by omega, by omega, hall⟩ (Ent.to [0] false (by simp) (by simp) rfl (by simp only [lP, seval, List.length_map] <;> (try simp) <;> (try omega)) (by simp only [lP, seval, List.length_map] <;> (try simp) <;> (try omega))) ?_
  rintro ⟨i, n⟩ ⟨hi, hn0, hnr, hc⟩
  simp only at hi hn0 hnr hc ⊢
  by_cases hil : i < l.length
  · obtain ⟨hin1, hin2, hin3, hin4, hin5⟩ := hin _ (getD_mem hil)
    have h48a := c48 (l.getD i default).lo hin1
    have h48b := c48 (l.getD i default).hi hin2
    have h49 := c49 (l.getD i default)
    have h43a := c43 (l.getD i default).lo (l.getD i default).hi
    have hst := okFrom_step (f := fun b => b.rtC (l.getD 0 default).lo.k) (g := VL.cmp) (hr := hr) (n := n) hil
    have h43b := c43 (l.getD (i - 1) default).hi (l.getD i default).lo
    rw [hst] at hc
    simp only [bar_av, vl_av] at h48a h48b h49 h43a h43b
    have hj : ((i : Int) - 1).toNat = i - 1 := by omega
    repeat' (first
     | (with_reducible apply St.o; constructor) <;> intro _
     | with_reducible first | refine LenR_i fun _ => ?_ | refine And.intro (by omega) ?_ | (apply Sp.o; constructor) | refine mkl_own ?_ | refine frz0_i ?_ | refine any_i [] ?_
     | ((with_reducible apply Sc.o true; constructor); simp only [lP, seval, IdxR_bars, Int.toNat_natCast, List.length_map, hj]; (first | refine ⟨_, h48a, ?_⟩ | refine ⟨_, h48b, ?_⟩ | refine ⟨_, h49, ?_⟩ | refine ⟨_, h43a, ?_⟩ | refine ⟨_, h43b, ?_⟩); rintro _ _ ⟨rfl, rfl⟩; simp only [lA, lP, ptrCells, ptrAdd, isNil, readsV, readsP, isCall, wrote, srcOf, seval, IdxR_bars, Int.toNat_natCast, List.length_map, hj])
     | ((with_reducible refine keep0_i ?_); simp only [lP, seval])
     | simp (maxSteps := 1000000) (disch := omega) only [lE, ptrCells, ptrAdd, isNil, readsV, readsP, isCall, wrote, srcOf, seval, IdxR_bars, Int.toNat_natCast, List.length_map, hj])
    all_goals try (exfalso; omega)
    all_goals clear h48a h48b h49 h43a h43b hst hall
    all_goals
      have hpos : (l.getD i default).rtC (l.getD 0 default).lo.k = true → _ := rtC_pos
      generalize hw : okFrom (fun b => b.rtC (l.getD 0 default).lo.k) VL.cmp hr (prevB l (i + 1)) (n + (l.getD i default).rows) (List.drop (i + 1) l) = w at *
      generalize (l.getD (i - 1) default).hi.cmp (l.getD i default).lo = c at *
    all_goals try (
      refine key false ?_ _ rfl
      rw [hc, eq_comm, Bool.eq_false_iff]
      intro hh
      clear hc key hw hpos
      simp only [Bar.rtC, Bool.and_eq_true, decide_eq_true_eq, Bool.or_eq_true, Bool.not_eq_true', ne_eq] at hh
      obtain ⟨⟨⟨⟨⟨⟨⟨⟨⟨⟨⟨⟨⟨g1, g2⟩, g3⟩, g4⟩, g5⟩, g6⟩, g7⟩, g8⟩, g9⟩, g10⟩, g11⟩, g12⟩, g13⟩, g14⟩ := hh
      generalize (l.getD i default).single = sg at *
      clear hin
      generalize l.getD i default = b at *
      cases sg <;> first | omega | contradiction | (simp only [Bool.false_eq_true, if_false, if_true, Bool.true_and, Bool.false_and, Bool.not_eq_true', decide_eq_false_iff_not, ite_true, ite_false, reduceIte] at *; first | omega | contradiction))
    all_goals (
      have ht : (l.getD i default).rtC (l.getD 0 default).lo.k = true := by
        clear hc key hw hpos
        simp only [Bar.rtC, Bool.and_eq_true, decide_eq_true_eq]
        generalize (l.getD i default).single = sg at *
        clear hin
        generalize l.getD i default = b at *
        refine ⟨⟨⟨⟨⟨⟨⟨⟨⟨⟨?_, ?_⟩, ?_⟩, ?_⟩, ?_⟩, ?_⟩, ?_⟩, ?_⟩, ?_⟩, ?_⟩, ?_⟩ <;> first | assumption | omega | (cases sg <;> simp <;> first | omega | contradiction)
      have hm1 := hpos ht
      have hwr : IntKind.i64.wrap (n + (l.getD i default).rows) = n + (l.getD i default).rows := by rw [IntKind.wrap_i64]; omega
      exact back_i (i + 1, n + (l.getD i default).rows) ⟨by omega, by simp only; omega, by simp only; omega, by rw [hc, ht, decide_eq_true (by omega : (l.getD i default).rows ≤ hr - n), hw]; first | (rw [decide_eq_true (by omega : c < 0)]; simp) | (rw [decide_eq_true (by omega : i = 0)]; simp)⟩ (by simp only; omega) (Ent.to [0] false (by simp) (by simp) rfl (by simp only [lP, seval, hwr] <;> (try simp) <;> (try omega)) (by simp only [lP, seval, hwr] <;> (try simp) <;> (try omega))))
  · have hie : i = l.length := by omega
    subst hie
    rw [List.drop_length] at hc
    repeat' (first
     | (with_reducible apply St.o; constructor) <;> intro _
     | with_reducible first | refine LenR_i fun _ => ?_ | refine And.intro (by omega) ?_ | (apply Sp.o; constructor) | refine mkl_own ?_ | refine frz0_i ?_
     | ((with_reducible refine keep0_i ?_); simp only [lP, seval])
     | simp (maxSteps := 1000000) (disch := omega) only [lE, ptrCells, ptrAdd, isNil, readsV, readsP, isCall, wrote, srcOf, seval, List.length_map, Int.lt_irrefl, decide_false])
    all_goals (refine key _ rfl _ ?_; rw [hc]; simp [okFrom, Hist.err]; try omega)
end Go.Proofs.Try
