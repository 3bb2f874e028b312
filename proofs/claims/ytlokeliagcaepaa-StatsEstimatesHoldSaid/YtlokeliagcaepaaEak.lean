/-
  A part of the proof: see the text of the law.
-/
import Derived.Test.YtlokeliagcaepaaEaj
import Derived.Test.YtlokeliagcaepaaPab
set_option linter.unusedSimpArgs false
set_option linter.unusedVariables false
namespace Go.Proofs.Try
open Go.Al
set_option maxRecDepth 100000
/-- alum/alumref39.Check -/
def mc17 : MC :=
 (.seq (.ops [(none, (.e (.box 1 (.t 0)))),
 (none, (.v (.mov 2 (.c (.int .i64 0)))))])
 (.seq (.seq (.ops [(none, (.v (.fld 7 0 (.t 1)))),
 (none, (.v (.load 8 false 1 (.t 7)))),
 (none, (.v (.bin 9 .lss false (.t 8) (.c (.int .i64 0))))),
 (none, (.v (.mov 10 (.t 9)))),
 ((some (10, false)), (.v (.fld 11 0 (.t 1)))),
 ((some (10, false)), (.v (.load 12 false 1 (.t 11)))),
 ((some (10, false)), (.v (.bin 13 .gtr false (.t 12) (.c (.int .i64 16777216))))),
 (none, (.v (.pick 14 (.t 10) (.c (.bool true)) (.t 13)))),
 (none, (.v (.mov 15 (.t 14)))),
 ((some (15, false)), (.v (.fld 16 1 (.t 1)))),
 ((some (15, false)), (.v (.load 17 false 1 (.t 16)))),
 ((some (15, false)), (.v (.bin 18 .lss false (.t 17) (.c (.int .i64 0))))),
 (none, (.v (.pick 19 (.t 15) (.c (.bool true)) (.t 18)))),
 (none, (.v (.mov 20 (.t 19)))),
 ((some (20, false)), (.v (.fld 21 1 (.t 1)))),
 ((some (20, false)), (.v (.load 22 false 1 (.t 21)))),
 ((some (20, false)), (.v (.fld 23 0 (.t 1)))),
 ((some (20, false)), (.v (.load 24 false 1 (.t 23)))),
 ((some (20, false)), (.v (.bin 25 .gtr false (.t 22) (.t 24)))),
 (none, (.v (.pick 26 (.t 20) (.c (.bool true)) (.t 25))))])
 (.cond 26
 (.seq (.ops [(none, (.v (.mov 2 (.c (.int .i64 3)))))])
 .ret)
 .skip))
 (.seq (.ops [(none, (.v (.fld 27 1 (.t 1)))),
 (none, (.v (.load 28 false 1 (.t 27)))),
 (none, (.v (.mov 3 (.t 28))))])
 (.seq (.seq (.ops [(none, (.v (.mov 4 (.c (.int .i64 0)))))])
 (.block 0 (.loop (.seq (.seq (.ops [(none, (.v (.mov 29 (.t 4)))),
 (none, (.v (.fld 30 2 (.t 1)))),
 (none, (.v (.load 31 false 1 (.t 30)))),
 (none, (.p (.len 32 (.t 31)))),
 (none, (.v (.bin 33 .lss false (.t 29) (.t 32))))])
 (.cond 33
 .skip
 (.exit 0)))
 (.seq (.block 1 (.seq (.ops [(none, (.v (.fld 36 2 (.t 1)))),
 (none, (.v (.load 37 false 1 (.t 36)))),
 (none, (.v (.mov 38 (.t 4)))),
 (none, (.p (.idx 39 9 (.t 37) (.t 38)))),
 (none, (.v (.load 40 true 9 (.t 39)))),
 (none, (.e (.alloc 5 [(.int .i64 0), (.int .i64 0), (.str ⟨#[]⟩), (.int .i64 0), (.int .i64 0), (.str ⟨#[]⟩), (.int .i64 0), (.int .i64 0), (.int .i64 0)]))),
 (none, (.e (.store 9 true (.t 5) (.t 40))))])
 (.seq (.any false (.pure0 none (.v (.load 41 true 9 (.t 5)))
 (.pure0 none (.v (.fld 42 2 (.t 1)))
 (.pure0 none (.v (.load 43 false 1 (.t 42)))
 (.pure0 none (.p (.idx 44 9 (.t 43) (.c (.int .i64 0))))
 (.pure0 none (.v (.fld 45 0 (.t 44)))
 (.pure0 none (.v (.fld 46 0 (.t 45)))
 (.pure0 none (.v (.load 47 false 1 (.t 46)))
 (.alt none (.e (.call (some 48) 46 [(.t 41), (.t 47)]))
 (.base (.pure0 none (.v (.mov 6 (.t 48)))
 .done))
 .stop)))))))))
 (.seq (.seq (.ops [(none, (.v (.mov 49 (.t 6)))),
 (none, (.v (.not 50 (.t 49)))),
 (none, (.v (.mov 51 (.t 50)))),
 ((some (51, false)), (.v (.fld 52 6 (.t 5)))),
 ((some (51, false)), (.v (.load 53 false 1 (.t 52)))),
 ((some (51, false)), (.v (.fld 54 0 (.t 1)))),
 ((some (51, false)), (.v (.load 55 false 1 (.t 54)))),
 ((some (51, false)), (.v (.mov 56 (.t 3)))),
 ((some (51, false)), (.v (.bin 57 .sub false (.t 55) (.t 56)))),
 ((some (51, false)), (.v (.bin 58 .gtr false (.t 53) (.t 57)))),
 (none, (.v (.pick 59 (.t 51) (.c (.bool true)) (.t 58))))])
 (.cond 59
 (.seq (.ops [(none, (.v (.mov 2 (.c (.int .i64 3)))))])
 .ret)
 .skip))
 (.seq (.seq (.any false (.pure0 none (.v (.mov 60 (.t 4)))
 (.pure0 none (.v (.bin 61 .gtr false (.t 60) (.c (.int .i64 0))))
 (.pure0 none (.v (.mov 62 (.t 61)))
 (.pure0 (some (62, true)) (.v (.fld 63 2 (.t 1)))
 (.pure0 (some (62, true)) (.v (.load 64 false 1 (.t 63)))
 (.pure0 (some (62, true)) (.v (.mov 65 (.t 4)))
 (.pure0 (some (62, true)) (.v (.bin 66 .sub false (.t 65) (.c (.int .i64 1))))
 (.pure0 (some (62, true)) (.p (.idx 67 9 (.t 64) (.t 66)))
 (.pure0 (some (62, true)) (.v (.fld 68 3 (.t 67)))
 (.pure0 (some (62, true)) (.v (.load 69 true 3 (.t 68)))
 (.pure0 (some (62, true)) (.v (.fld 70 0 (.t 5)))
 (.pure0 (some (62, true)) (.v (.load 71 true 3 (.t 70)))
 (.alt (some (62, true)) (.e (.call (some 72) 47 [(.t 69), (.t 71)]))
 (.base (.pure0 (some (62, true)) (.v (.bin 73 .geq false (.t 72) (.c (.int .i64 0))))
 (.pure0 none (.v (.pick 74 (.t 62) (.t 73) (.c (.bool false))))
 .done)))
 .stop))))))))))))))
 (.cond 74
 (.seq (.ops [(none, (.v (.mov 2 (.c (.int .i64 3)))))])
 .ret)
 .skip))
 (.ops [(none, (.v (.mov 75 (.t 3)))),
 (none, (.v (.fld 76 6 (.t 5)))),
 (none, (.v (.load 77 false 1 (.t 76)))),
 (none, (.v (.bin 78 .add false (.t 75) (.t 77)))),
 (none, (.v (.mov 3 (.t 78))))]))))))
 (.ops [(none, (.v (.mov 34 (.t 4)))),
 (none, (.v (.bin 35 .add false (.t 34) (.c (.int .i64 1))))),
 (none, (.v (.mov 4 (.t 35))))]))))))
 (.seq (.seq (.ops [(none, (.v (.mov 79 (.t 3)))),
 (none, (.v (.fld 80 0 (.t 1)))),
 (none, (.v (.load 81 false 1 (.t 80)))),
 (none, (.v (.bin 82 .neq false (.t 79) (.t 81))))])
 (.cond 82
 (.seq (.ops [(none, (.v (.mov 2 (.c (.int .i64 3)))))])
 .ret)
 .skip))
 (.seq (.ops [(none, (.v (.mov 2 (.c (.int .i64 0)))))])
 .ret))))))
theorem ok17 : FnOk E 17 83 [.tmp 2] mc17 := .of func17 (by kernel_rfl) (by kernel_rfl) (by kernel_rfl) (by kernel_rfl) (by kernel_rfl)
/-- alum/alumref39.bar -/
def mc46 : MC :=
 (.seq (.ops [(none, (.e (.box 2 (.t 0)))),
 (none, (.v (.mov 4 (.c (.bool false)))))])
 (.seq (.ops [(none, (.v (.fld 7 0 (.t 2)))),
 (none, (.v (.load 8 true 3 (.t 7)))),
 (none, (.e (.call (some 9) 58 [(.t 8)]))),
 (none, (.v (.mov 5 (.t 9))))])
 (.seq (.ops [(none, (.v (.fld 10 3 (.t 2)))),
 (none, (.v (.load 11 true 3 (.t 10)))),
 (none, (.e (.call (some 12) 58 [(.t 11)]))),
 (none, (.v (.mov 6 (.t 12))))])
 (.seq (.seq (.ops [(none, (.v (.mov 13 (.t 5)))),
 (none, (.v (.not 14 (.t 13)))),
 (none, (.v (.mov 15 (.t 14)))),
 ((some (15, false)), (.v (.mov 16 (.t 6)))),
 ((some (15, false)), (.v (.not 17 (.t 16)))),
 (none, (.v (.pick 18 (.t 15) (.c (.bool true)) (.t 17)))),
 (none, (.v (.mov 19 (.t 18)))),
 ((some (19, false)), (.v (.fld 20 0 (.t 2)))),
 ((some (19, false)), (.v (.fld 21 0 (.t 20)))),
 ((some (19, false)), (.v (.load 22 false 1 (.t 21)))),
 ((some (19, false)), (.v (.bin 23 .eql false (.t 22) (.c (.int .i64 0))))),
 (none, (.v (.pick 24 (.t 19) (.c (.bool true)) (.t 23)))),
 (none, (.v (.mov 25 (.t 24)))),
 ((some (25, false)), (.v (.fld 26 0 (.t 2)))),
 ((some (25, false)), (.v (.fld 27 0 (.t 26)))),
 ((some (25, false)), (.v (.load 28 false 1 (.t 27)))),
 ((some (25, false)), (.v (.mov 29 (.t 1)))),
 ((some (25, false)), (.v (.bin 30 .neq false (.t 28) (.t 29)))),
 (none, (.v (.pick 31 (.t 25) (.c (.bool true)) (.t 30)))),
 (none, (.v (.mov 32 (.t 31)))),
 ((some (32, false)), (.v (.fld 33 3 (.t 2)))),
 ((some (32, false)), (.v (.fld 34 0 (.t 33)))),
 ((some (32, false)), (.v (.load 35 false 1 (.t 34)))),
 ((some (32, false)), (.v (.mov 36 (.t 1)))),
 ((some (32, false)), (.v (.bin 37 .neq false (.t 35) (.t 36)))),
 (none, (.v (.pick 38 (.t 32) (.c (.bool true)) (.t 37))))])
 (.cond 38
 (.seq (.ops [(none, (.v (.mov 4 (.c (.bool false)))))])
 .ret)
 .skip))
 (.seq (.seq (.ops [(none, (.v (.fld 39 0 (.t 2)))),
 (none, (.v (.load 40 true 3 (.t 39)))),
 (none, (.v (.fld 41 3 (.t 2)))),
 (none, (.v (.load 42 true 3 (.t 41)))),
 (none, (.v (.eq 43 false (.agg [(0, false, 1, .int), (1, false, 1, .int), (2, false, 1, .str)]) (.t 40) (.t 42))))])
 (.cond 43
 (.seq (.ops [(none, (.v (.fld 44 6 (.t 2)))),
 (none, (.v (.load 45 false 1 (.t 44)))),
 (none, (.v (.bin 46 .geq false (.t 45) (.c (.int .i64 1))))),
 (none, (.v (.mov 47 (.t 46)))),
 ((some (47, true)), (.v (.fld 48 7 (.t 2)))),
 ((some (47, true)), (.v (.load 49 false 1 (.t 48)))),
 ((some (47, true)), (.v (.bin 50 .eql false (.t 49) (.c (.int .i64 1))))),
 (none, (.v (.pick 51 (.t 47) (.t 50) (.c (.bool false))))),
 (none, (.v (.mov 52 (.t 51)))),
 ((some (52, true)), (.v (.fld 53 8 (.t 2)))),
 ((some (52, true)), (.v (.load 54 false 1 (.t 53)))),
 ((some (52, true)), (.v (.bin 55 .eql false (.t 54) (.c (.int .i64 1))))),
 (none, (.v (.pick 56 (.t 52) (.t 55) (.c (.bool false))))),
 (none, (.v (.mov 4 (.t 56))))])
 .ret)
 .skip))
 (.seq (.ops [(none, (.v (.fld 57 0 (.t 2)))),
 (none, (.v (.load 58 true 3 (.t 57)))),
 (none, (.v (.fld 59 3 (.t 2)))),
 (none, (.v (.load 60 true 3 (.t 59)))),
 (none, (.e (.call (some 61) 47 [(.t 58), (.t 60)]))),
 (none, (.v (.bin 62 .lss false (.t 61) (.c (.int .i64 0))))),
 (none, (.v (.mov 63 (.t 62)))),
 ((some (63, true)), (.v (.fld 64 7 (.t 2)))),
 ((some (63, true)), (.v (.load 65 false 1 (.t 64)))),
 ((some (63, true)), (.v (.bin 66 .geq false (.t 65) (.c (.int .i64 2))))),
 (none, (.v (.pick 67 (.t 63) (.t 66) (.c (.bool false))))),
 (none, (.v (.mov 68 (.t 67)))),
 ((some (68, true)), (.v (.fld 69 7 (.t 2)))),
 ((some (68, true)), (.v (.load 70 false 1 (.t 69)))),
 ((some (68, true)), (.v (.fld 71 8 (.t 2)))),
 ((some (68, true)), (.v (.load 72 false 1 (.t 71)))),
 ((some (68, true)), (.v (.bin 73 .leq false (.t 70) (.t 72)))),
 (none, (.v (.pick 74 (.t 68) (.t 73) (.c (.bool false))))),
 (none, (.v (.mov 75 (.t 74)))),
 ((some (75, true)), (.v (.fld 76 8 (.t 2)))),
 ((some (75, true)), (.v (.load 77 false 1 (.t 76)))),
 ((some (75, true)), (.v (.fld 78 6 (.t 2)))),
 ((some (75, true)), (.v (.load 79 false 1 (.t 78)))),
 ((some (75, true)), (.v (.bin 80 .leq false (.t 77) (.t 79)))),
 (none, (.v (.pick 81 (.t 75) (.t 80) (.c (.bool false))))),
 (none, (.v (.mov 4 (.t 81))))])
 .ret))))))
theorem ok46 : FnOk E 46 82 [.tmp 4] mc46 := .of func46 (by kernel_rfl) (by kernel_rfl) (by kernel_rfl) (by kernel_rfl) (by kernel_rfl)
end Go.Proofs.Try
namespace Go.Proofs.Try
open Go.Al
set_option linter.unusedVariables false
set_option linter.unusedSimpArgs false
set_option maxRecDepth 20000
set_option maxHeartbeats 8000000

theorem c46 (b : Bar) (k : Int) : ACalls E.P 46 [b.av, .int .i64 k] [] (fun r H => r = .bool (b.rt19 k) ∧ H = []) := by
  have h1 := c58 b.lo
  have h2 := c58 b.hi
  have h3 := c47 b.lo b.hi
  simp only [vl_av] at h1 h2 h3
  have key : ∀ q, q = b.rt19 k → (AV.bool q = AV.bool (b.rt19 k)) := fun b h => by rw [h]
  refine ok46.acalls hE hm (by simp) fun N hN => ?_
  unfold mc46
  simp only [lA, ptrCells, ptrAdd, isNil, readsV, readsP, isCall, wrote, srcOf, seval, bar_av]
  repeat' (first
   | (with_reducible apply St.o; constructor) <;> intro _
   | with_reducible first | refine LenR_i fun _ => ?_ | refine And.intro (by omega) ?_ | (apply Sp.o; constructor) | refine mkl_own ?_ | refine frz0_i ?_
   | ((with_reducible apply Sc.o true; constructor); simp only [lP, seval, vl_eq, vl_eq2]; (first | refine ⟨_, h1, ?_⟩ | refine ⟨_, h2, ?_⟩ | refine ⟨_, h3, ?_⟩); rintro _ _ ⟨rfl, rfl⟩; simp only [lA, lP, ptrCells, ptrAdd, isNil, readsV, readsP, isCall, wrote, srcOf, seval, vl_eq, vl_eq2])
   | ((with_reducible refine keep0_i ?_); simp only [lP, seval])
   | simp (maxSteps := 1000000) (disch := omega) only [lE, ptrCells, ptrAdd, isNil, readsV, readsP, isCall, wrote, srcOf, seval, vl_eq, vl_eq2])
  all_goals clear h1 h2 h3
  all_goals
    apply key
    clear key
    simp only [Bar.rt19, vl_eq] at *
    generalize b.lo.cmp19 b.hi = c at *
    try simp_all
  all_goals try (first | omega | (intros; omega))

def Hist.chk19 (h : Hist) : Bool := h.ok Bar.rt19 VL.cmp19
def Hist.chkC (h : Hist) : Bool := h.ok Bar.rtC VL.cmp
theorem c17 (h : Hist) (hin : ∀ b ∈ h.bars, inI b.rows) : ACalls E.P 17 [h.av] [] (fun r H => r = .int .i64 (Hist.err h.chk19) ∧ H = []) := by
  have hmax := maxLen_eq
  obtain ⟨hr, hn, l⟩ := h
  simp only at hin
  have key : ∀ q, q = Hist.chk19 ⟨hr, hn, l⟩ → ∀ n, n = Hist.err q → (AV.int .i64 n = AV.int .i64 (Hist.err (Hist.chk19 ⟨hr, hn, l⟩))) := fun b h n hn => by rw [hn, h]
  refine ok17.acalls hE hm (by simp) fun N hN => ?_
  unfold mc17
  simp only [lA, ptrCells, ptrAdd, isNil, readsV, readsP, isCall, wrote, srcOf, seval, hist_av]
  repeat' (first
   | (with_reducible apply St.o; constructor) <;> intro _
   | with_reducible first | refine LenR_i fun _ => ?_ | refine And.intro (by omega) ?_ | (apply Sp.o; constructor) | refine mkl_own ?_ | refine frz0_i ?_
   | ((with_reducible refine keep0_i ?_); simp only [lP, seval])
   | simp (maxSteps := 1000000) (disch := omega) only [lE, ptrCells, ptrAdd, isNil, readsV, readsP, isCall, wrote, srcOf, seval, List.length_map])
  all_goals try (refine key false ?_ _ rfl; simp only [Hist.chk19, Hist.ok]; simp; omega)
  rename_i q1 q2 q3 q4
  have hall : Hist.chk19 ⟨hr, hn, l⟩ = okFrom (fun b => b.rt19 (l.getD 0 default).lo.k) VL.cmp19 hr none hn l := by
    simp only [Hist.chk19, Hist.ok]
    rw [decide_eq_true (by omega), decide_eq_true (by omega), decide_eq_true (by omega), decide_eq_true (by omega)]
    simp
  refine loop_i (fun s : Nat × Int => s.1 ≤ l.length ∧ 0 ≤ s.2 ∧ s.2 ≤ hr ∧ Hist.chk19 ⟨hr, hn, l⟩ = okFrom (fun b => b.rt19 (l.getD 0 default).lo.k) VL.cmp19 hr (prevB l s.1) s.2 (l.drop s.1)) (fun s => ⟨[(1, .op 0 0), (2, .int .i64 0), (3, .int .i64 s.2), (4, .int .i64 s.1)], [.box (Hist.mk hr hn l).cs]⟩) (fun s => l.length - s.1) (0, hn) ⟨by simp, by omega, by omega, hall⟩ (Ent.to [0] false (by simp) (by simp) rfl (by simp only [lP, seval, List.length_map] <;> (try simp) <;> (try omega)) (by simp only [lP, seval, List.length_map] <;> (try simp) <;> (try omega))) ?_
  rintro ⟨i, n⟩ ⟨hi, hn0, hnr, hc⟩
  simp only at hi hn0 hnr hc ⊢
  by_cases hil : i < l.length
  · have h46 := c46 (l.getD i default) (l.getD 0 default).lo.k
    have hst := okFrom_step (f := fun b => b.rt19 (l.getD 0 default).lo.k) (g := VL.cmp19) (hr := hr) (n := n) hil
    have h47 := c47 (l.getD (i - 1) default).hi (l.getD i default).lo
    have hbi := hin _ (getD_mem hil)
    rw [hst] at hc
    simp only [bar_av, vl_av] at h46 h47
    have hj : ((i : Int) - 1).toNat = i - 1 := by omega
    repeat' (first
     | (with_reducible apply St.o; constructor) <;> intro _
     | with_reducible first | refine LenR_i fun _ => ?_ | refine And.intro (by omega) ?_ | (apply Sp.o; constructor) | refine mkl_own ?_ | refine frz0_i ?_ | refine any_i [] ?_
     | ((with_reducible apply Sc.o true; constructor); simp only [lP, seval, IdxR_bars, Int.toNat_natCast, List.length_map, hj]; (first | refine ⟨_, h46, ?_⟩ | refine ⟨_, h47, ?_⟩); rintro _ _ ⟨rfl, rfl⟩; simp only [lA, lP, ptrCells, ptrAdd, isNil, readsV, readsP, isCall, wrote, srcOf, seval, IdxR_bars, Int.toNat_natCast, List.length_map, hj])
     | ((with_reducible refine keep0_i ?_); simp only [lP, seval])
     | simp (maxSteps := 1000000) (disch := omega) only [lE, ptrCells, ptrAdd, isNil, readsV, readsP, isCall, wrote, srcOf, seval, IdxR_bars, Int.toNat_natCast, List.length_map, hj])
    all_goals try (exfalso; omega)
    all_goals clear h46 h47 hst hall
    all_goals
      have hpos : (l.getD i default).rt19 (l.getD 0 default).lo.k = true → _ := rt19_pos
      generalize (l.getD i default).rt19 (l.getD 0 default).lo.k = t at *
      generalize (l.getD (i - 1) default).hi.cmp19 (l.getD i default).lo = c at *
      generalize hw : okFrom (fun b => b.rt19 (l.getD 0 default).lo.k) VL.cmp19 hr (prevB l (i + 1)) (n + (l.getD i default).rows) (List.drop (i + 1) l) = w at *
      generalize (l.getD i default).rows = m at *
    all_goals try (refine key false ?_ _ rfl; rw [hc]; first | (rw [decide_eq_false (by omega : ¬ m ≤ hr - n)]; simp; done) | (rw [decide_eq_false (by omega : ¬ i = 0), decide_eq_false (by omega : ¬ c < 0)]; simp; done) | (rw [show t = false by simp_all]; simp; done))
    all_goals (
      have ht : t = true := by simp_all
      have hm1 := hpos ht
      have hwr : IntKind.i64.wrap (n + m) = n + m := by rw [IntKind.wrap_i64]; omega
      exact back_i (i + 1, n + m) ⟨by omega, by simp only; omega, by simp only; omega, by rw [hc, ht, decide_eq_true (by omega : m ≤ hr - n), hw]; first | (rw [decide_eq_true (by omega : c < 0)]; simp) | (rw [decide_eq_true (by omega : i = 0)]; simp)⟩ (by simp only; omega) (Ent.to [0] false (by simp) (by simp) rfl (by simp only [lP, seval, hwr] <;> (try simp) <;> (try omega)) (by simp only [lP, seval, hwr] <;> (try simp) <;> (try omega))))
  · have hie : i = l.length := by omega
    subst hie
    rw [List.drop_length] at hc
    repeat' (first
     | (with_reducible apply St.o; constructor) <;> intro _
     | with_reducible first | refine LenR_i fun _ => ?_ | refine And.intro (by omega) ?_ | (apply Sp.o; constructor) | refine mkl_own ?_ | refine frz0_i ?_
     | ((with_reducible refine keep0_i ?_); simp only [lP, seval])
     | simp (maxSteps := 1000000) (disch := omega) only [lE, ptrCells, ptrAdd, isNil, readsV, readsP, isCall, wrote, srcOf, seval, List.length_map, Int.lt_irrefl, decide_false])
    all_goals (refine key _ rfl _ ?_; rw [hc]; simp [okFrom, Hist.err]; try omega)
end Go.Proofs.Try
