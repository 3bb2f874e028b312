/-
  A part of the proof: see the text of the law.
-/
import Derived.Test.YtjiijjfpmaligaaDoorCbw
import Derived.Test.YtjiijjfpmaligaaDoorCbv
import Derived.Test.YtjiijjfpmaligaaDoorCba
set_option linter.unusedSimpArgs false
set_option linter.unusedVariables false
namespace Go.Proofs.Try
open Go.Proofs.Tryd
open Go.Al
set_option maxRecDepth 100000
/-- alum/alumlaw36.ExprSimplifyKeepsMeaning -/
def mc8 : MC :=
 (.seq (.ops [(none, (.e (.box 4 (.t 1)))),
 (none, (.v (.mov 6 (.c (.bool false)))))])
 (.seq (.ops [(none, (.v (.mov 22 (.t 0)))),
 (none, (.v (.mov 23 (.t 2)))),
 (none, (.e (.call (some 24) 11 [(.t 22), (.t 23)]))),
 (none, (.v (.mov 7 (.t 24))))])
 (.seq (.seq (.ops [(none, (.v (.mov 25 (.t 7)))),
 (none, (.v (.not 26 (.t 25)))),
 (none, (.v (.mov 27 (.t 26)))),
 ((some (27, false)), (.v (.load 28 true 6 (.t 4)))),
 ((some (27, false)), (.e (.call (some 29) 19 [(.t 28)]))),
 ((some (27, false)), (.v (.bin 30 .gtr false (.t 29) (.c (.int .i64 300))))),
 (none, (.v (.pick 31 (.t 27) (.c (.bool true)) (.t 30))))])
 (.cond 31
 (.seq (.ops [(none, (.e (.call (some 32) 13 []))),
 (none, (.v (.mov 6 (.t 32))))])
 .ret)
 .skip))
 (.seq (.ops [(none, (.v (.mov 34 (.t 0)))),
 (none, (.v (.load 35 true 6 (.t 4)))),
 (none, (.e (.call (some 36) 16 [(.t 34), (.t 35)]))),
 (none, (.v (.mov 33 (.t 36)))),
 (none, (.v (.ext 37 0 (.t 33)))),
 (none, (.v (.ext 38 1 (.t 33)))),
 (none, (.v (.mov 8 (.t 37)))),
 (none, (.v (.mov 9 (.t 38))))])
 (.seq (.seq (.ops [(none, (.v (.mov 39 (.t 9)))),
 (none, (.v (.bin 40 .neq false (.t 39) (.c (.int .i64 0)))))])
 (.cond 40
 (.seq (.ops [(none, (.e (.call (some 41) 13 []))),
 (none, (.v (.mov 6 (.t 41))))])
 .ret)
 .skip))
 (.seq (.ops [(none, (.v (.load 42 true 6 (.t 4)))),
 (none, (.e (.call (some 43) 31 [(.t 42)]))),
 (none, (.e (.alloc 10 [(.int .i64 0), (.int .i64 0), (.int .i64 0), (.int .i64 0), (.str ⟨#[]⟩), (.raw (.slice none 0 0))]))),
 (none, (.e (.store 6 true (.t 10) (.t 43))))])
 (.seq (.ops [(none, (.v (.mov 45 (.t 0)))),
 (none, (.v (.load 46 true 6 (.t 10)))),
 (none, (.e (.call (some 47) 16 [(.t 45), (.t 46)]))),
 (none, (.v (.mov 44 (.t 47)))),
 (none, (.v (.ext 48 0 (.t 44)))),
 (none, (.v (.ext 49 1 (.t 44)))),
 (none, (.v (.mov 11 (.t 48)))),
 (none, (.v (.mov 12 (.t 49))))])
 (.seq (.ops [(none, (.v (.load 50 true 6 (.t 4)))),
 (none, (.e (.call (some 51) 28 [(.t 50)]))),
 (none, (.e (.call (some 52) 34 [(.t 51)]))),
 (none, (.e (.alloc 13 [(.int .i64 0), (.int .i64 0), (.int .i64 0), (.int .i64 0), (.str ⟨#[]⟩), (.raw (.slice none 0 0))]))),
 (none, (.e (.store 6 true (.t 13) (.t 52))))])
 (.seq (.ops [(none, (.v (.mov 54 (.t 0)))),
 (none, (.v (.load 55 true 6 (.t 13)))),
 (none, (.e (.call (some 56) 16 [(.t 54), (.t 55)]))),
 (none, (.v (.mov 53 (.t 56)))),
 (none, (.v (.ext 57 0 (.t 53)))),
 (none, (.v (.ext 58 1 (.t 53)))),
 (none, (.v (.mov 14 (.t 57)))),
 (none, (.v (.mov 15 (.t 58))))])
 (.seq (.seq (.any false (.pure0 none (.v (.mov 59 (.t 12)))
 (.pure0 none (.v (.bin 60 .neq false (.t 59) (.c (.int .i64 0))))
 (.pure0 none (.v (.mov 61 (.t 60)))
 (.pure0 (some (61, false)) (.v (.mov 62 (.t 15)))
 (.pure0 (some (61, false)) (.v (.bin 63 .neq false (.t 62) (.c (.int .i64 0))))
 (.pure0 none (.v (.pick 64 (.t 61) (.c (.bool true)) (.t 63)))
 (.pure0 none (.v (.mov 65 (.t 64)))
 (.pure0 (some (65, false)) (.v (.mov 66 (.t 11)))
 (.pure0 (some (65, false)) (.v (.mov 67 (.t 8)))
 (.pure0 (some (65, false)) (.v (.bin 68 .neq false (.t 66) (.t 67)))
 (.pure0 (some (65, false)) (.v (.mov 69 (.t 68)))
 (.pure0 (some (69, true)) (.v (.mov 70 (.t 11)))
 (.pure0 (some (69, true)) (.v (.bin 71 .neq false (.t 70) (.c (.int .i64 0))))
 (.pure0 (some (65, false)) (.v (.pick 72 (.t 69) (.t 71) (.c (.bool false))))
 (.pure0 none (.v (.pick 73 (.t 65) (.c (.bool true)) (.t 72)))
 (.pure0 none (.v (.mov 74 (.t 73)))
 (.pure0 (some (74, false)) (.v (.load 75 true 6 (.t 10)))
 (.pure0 (some (74, false)) (.v (.load 77 true 6 (.t 4)))
 (.alt (some (74, false)) (.e (.call (some 76) 36 [(.t 75)]))
 (.base (.alt (some (74, false)) (.e (.call (some 78) 36 [(.t 77)]))
 (.base (.pure0 (some (74, false)) (.v (.bin 79 .gtr false (.t 76) (.t 78)))
 (.pure0 none (.v (.pick 80 (.t 74) (.c (.bool true)) (.t 79)))
 (.pure0 none (.v (.mov 81 (.t 80)))
 (.pure0 (some (81, false)) (.v (.load 82 true 6 (.t 10)))
 (.pure0 (some (81, false)) (.v (.load 84 true 6 (.t 10)))
 (.alt (some (81, false)) (.e (.call (some 83) 31 [(.t 82)]))
 (.base (.alt (some (81, false)) (.e (.call (some 85) 37 [(.t 83), (.t 84)]))
 (.base (.pure0 (some (81, false)) (.v (.not 86 (.t 85)))
 (.pure0 none (.v (.pick 87 (.t 81) (.c (.bool true)) (.t 86)))
 .done)))
 .stop))
 .stop)))))))
 .stop))
 .stop))))))))))))))))))))
 (.cond 87
 (.seq (.ops [(none, (.v (.mov 6 (.c (.bool false)))))])
 .ret)
 .skip))
 (.seq (.ops [(none, (.v (.load 89 true 6 (.t 4)))),
 (none, (.v (.mov 90 (.t 2)))),
 (none, (.e (.call (some 91) 14 [(.t 89), (.t 90)]))),
 (none, (.v (.mov 88 (.t 91)))),
 (none, (.v (.ext 92 0 (.t 88)))),
 (none, (.v (.ext 93 1 (.t 88)))),
 (none, (.e (.alloc 16 [(.int .i64 0), (.int .i64 0), (.str ⟨#[]⟩)]))),
 (none, (.e (.store 3 true (.t 16) (.t 92)))),
 (none, (.v (.mov 17 (.t 93))))])
 (.seq (.ops [(none, (.v (.load 95 true 6 (.t 10)))),
 (none, (.v (.mov 96 (.t 2)))),
 (none, (.e (.call (some 97) 14 [(.t 95), (.t 96)]))),
 (none, (.v (.mov 94 (.t 97)))),
 (none, (.v (.ext 98 0 (.t 94)))),
 (none, (.v (.ext 99 1 (.t 94)))),
 (none, (.e (.alloc 18 [(.int .i64 0), (.int .i64 0), (.str ⟨#[]⟩)]))),
 (none, (.e (.store 3 true (.t 18) (.t 98)))),
 (none, (.v (.mov 19 (.t 99))))])
 (.seq (.ops [(none, (.v (.load 101 true 6 (.t 13)))),
 (none, (.v (.mov 102 (.t 2)))),
 (none, (.e (.call (some 103) 14 [(.t 101), (.t 102)]))),
 (none, (.v (.mov 100 (.t 103)))),
 (none, (.v (.ext 104 0 (.t 100)))),
 (none, (.v (.ext 105 1 (.t 100)))),
 (none, (.e (.alloc 20 [(.int .i64 0), (.int .i64 0), (.str ⟨#[]⟩)]))),
 (none, (.e (.store 3 true (.t 20) (.t 104)))),
 (none, (.v (.mov 21 (.t 105))))])
 (.seq (.ops [(none, (.e (.call (some 106) 13 []))),
 (none, (.v (.mov 107 (.t 106)))),
 ((some (107, true)), (.v (.load 108 true 3 (.t 16)))),
 ((some (107, true)), (.v (.load 109 true 3 (.t 18)))),
 ((some (107, true)), (.v (.eq 110 false (.agg [(0, false, 1, .int), (1, false, 1, .int), (2, false, 1, .str)]) (.t 108) (.t 109)))),
 (none, (.v (.pick 111 (.t 107) (.t 110) (.c (.bool false))))),
 (none, (.v (.mov 112 (.t 111)))),
 ((some (112, true)), (.v (.mov 113 (.t 17)))),
 ((some (112, true)), (.v (.mov 114 (.t 19)))),
 ((some (112, true)), (.v (.bin 115 .eql false (.t 113) (.t 114)))),
 (none, (.v (.pick 116 (.t 112) (.t 115) (.c (.bool false))))),
 (none, (.v (.mov 117 (.t 116)))),
 ((some (117, true)), (.v (.load 118 true 3 (.t 16)))),
 ((some (117, true)), (.v (.load 119 true 3 (.t 20)))),
 ((some (117, true)), (.v (.eq 120 false (.agg [(0, false, 1, .int), (1, false, 1, .int), (2, false, 1, .str)]) (.t 118) (.t 119)))),
 (none, (.v (.pick 121 (.t 117) (.t 120) (.c (.bool false))))),
 (none, (.v (.mov 122 (.t 121)))),
 ((some (122, true)), (.v (.mov 123 (.t 17)))),
 ((some (122, true)), (.v (.mov 124 (.t 21)))),
 ((some (122, true)), (.v (.bin 125 .eql false (.t 123) (.t 124)))),
 (none, (.v (.pick 126 (.t 122) (.t 125) (.c (.bool false))))),
 (none, (.v (.mov 6 (.t 126))))])
 .ret))))))))))))))
theorem ok8 : FnOk E 8 127 [.tmp 6] mc8 := .of func8 (by kernel_rfl) (by kernel_rfl) (by kernel_rfl) (by kernel_rfl) (by kernel_rfl)
end Go.Proofs.Try
namespace Go.Proofs.Try
open Go.Al
set_option linter.unusedVariables false
set_option linter.unusedSimpArgs false
set_option maxRecDepth 20000
set_option maxHeartbeats 16000000

theorem wrap_small {n : Nat} (h : n ≤ 1048576) : IntKind.i64.wrap (n : Int) = n := wrap_i64 (by omega) (by omega)
theorem chk_S {ks : List Int} {t : T} (hw : t.wf) (hs : t.size ≤ 200) : chk ks t.ex = t.kind ks := by
  unfold chk
  rw [T.count_ex, wrap_small (by omega), if_neg (by omega), T.formed t hw, if_pos rfl, tr_ex]
theorem chk_count {ks : List Int} {e : EX} (hs : e.count ≤ 1048576) (h : (chk ks e).2 = 0) : e.count ≤ 200 := by
  unfold chk at h
  rw [wrap_small hs] at h
  split at h
  · simp at h
  · omega
theorem c8 (h13 : Sane) (ks : List Int) (e : EX) (hI : e.okI) (r : List VL) (hs : e.count ≤ 1048576) : ACalls E.P 8 [ksV ks, e.av, rowV r] [] (fun r H => r = .bool true ∧ H = []) := by
  have hmax := maxLen_eq
  have h11 := c11 ks r
  have h19 := c19 e
  have h16 := c16 ks e hI
  have h36 := c36 e
  rw [wrap_small hs] at h19 h36
  simp only [av_fs] at h19 h16 h36
  refine ok8.acalls hE hm (by simp) fun N hN => ?_
  unfold mc8
  simp only [lA, ptrCells, ptrAdd, isNil, readsV, readsP, isCall, wrote, srcOf, seval, av_fs]
  by_cases ho' : ¬ OfR ks r
  · repeat' (first
     | (with_reducible apply St.o; constructor) <;> intro _
     | with_reducible first | refine LenR_i fun _ => ?_ | refine And.intro (by omega) ?_ | (apply Sp.o; constructor) | refine frz0_i ?_
     | ((with_reducible apply Sc.o true; constructor); simp only [lP, seval, ho']; (first | refine ⟨_, h11, ?_⟩ | refine ⟨_, h13, ?_⟩); rintro _ _ ⟨rfl, rfl⟩; simp only [lA, lP, ptrCells, ptrAdd, isNil, readsV, readsP, isCall, wrote, srcOf, seval, ho'])
     | ((with_reducible refine keep0_i ?_); simp only [lP, seval])
     | simp (maxSteps := 1000000) (disch := omega) only [lE, ptrCells, ptrAdd, isNil, readsV, readsP, isCall, wrote, srcOf, seval, ho'])
  have ho := Classical.not_not.1 ho'
  clear ho'
  by_cases h300 : ((300 : Int) < (e.count : Int))
  · repeat' (first
     | (with_reducible apply St.o; constructor) <;> intro _
     | with_reducible first | refine LenR_i fun _ => ?_ | refine And.intro (by omega) ?_ | (apply Sp.o; constructor) | refine frz0_i ?_
     | ((with_reducible apply Sc.o true; constructor); simp only [lP, seval, ho, h300, decide_true, decide_false]; (first | refine ⟨_, h11, ?_⟩ | refine ⟨_, h19, ?_⟩ | refine ⟨_, h13, ?_⟩); rintro _ _ ⟨rfl, rfl⟩; simp only [lA, lP, ptrCells, ptrAdd, isNil, readsV, readsP, isCall, wrote, srcOf, seval, ho, h300, decide_true, decide_false])
     | ((with_reducible refine keep0_i ?_); simp only [lP, seval])
     | simp (maxSteps := 1000000) (disch := omega) only [lE, ptrCells, ptrAdd, isNil, readsV, readsP, isCall, wrote, srcOf, seval, ho, h300, decide_true, decide_false])
  by_cases hc' : ¬ (chk ks e).2 = 0
  · repeat' (first
     | (with_reducible apply St.o; constructor) <;> intro _
     | with_reducible first | refine LenR_i fun _ => ?_ | refine And.intro (by omega) ?_ | (apply Sp.o; constructor) | refine frz0_i ?_
     | ((with_reducible apply Sc.o true; constructor); simp only [lP, seval, ho, h300, hc', decide_true, decide_false]; (first | refine ⟨_, h11, ?_⟩ | refine ⟨_, h19, ?_⟩ | refine ⟨_, h16, ?_⟩ | refine ⟨_, h13, ?_⟩); rintro _ _ ⟨rfl, rfl⟩; simp only [lA, lP, ptrCells, ptrAdd, isNil, readsV, readsP, isCall, wrote, srcOf, seval, ho, h300, hc', decide_true, decide_false])
     | ((with_reducible refine keep0_i ?_); simp only [lP, seval])
     | simp (maxSteps := 1000000) (disch := omega) only [lE, ptrCells, ptrAdd, isNil, readsV, readsP, isCall, wrote, srcOf, seval, ho, h300, hc', decide_true, decide_false])
  have hc := Classical.not_not.1 hc'
  clear hc'
  have hcnt := chk_count hs hc
  obtain ⟨hf, hk, hck⟩ := chk_ok hc
  obtain ⟨t1, t2, _⟩ := ex_tr e hf
  obtain ⟨hfit, hvals⟩ := kind_ok ks e.tr t2 hk
  rw [← ho.2.1] at hfit
  have hsz : e.tr.size = e.count := by rw [← T.count_ex, t1]
  obtain ⟨s1, s2, s3⟩ := simp_sub e.tr t2 hk
  obtain ⟨sf, sv⟩ := kind_ok ks e.tr.simp s1 s2
  rw [← ho.2.1] at sf
  have ss := simp_size e.tr
  obtain ⟨w1, w2, w3⟩ := all_keeps ho t2 hk
  obtain ⟨wf, wv⟩ := kind_ok ks (T.allT e.tr.conj) w1 w2
  rw [← ho.2.1] at wf
  have ws := all_size e.tr
  have h28 := lendT rfl (c28 e.tr t2 (by omega))
  have h31 := (c31 e.tr t2 hvals).2.2
  have h31s := (c31 e.tr.simp s1 sv).2.2
  rw [nf_simp _ (simp_nf e.tr)] at h31s
  have h34 := c34 e.tr.conj
  have h16s := c16 ks e.tr.simp.ex (T.okI_ex (T.vals_mono (fun v hv => right_inI hv) sv))
  have h16w := c16 ks (T.allT e.tr.conj).ex (T.okI_ex (T.vals_mono (fun v hv => right_inI hv) wv))
  rw [chk_S s1 (by omega)] at h16s
  rw [chk_S w1 (by omega)] at h16w
  have h36s := c36 e.tr.simp.ex
  rw [T.count_ex, wrap_small (by omega)] at h36s
  have h37 := c37 e.tr.simp.ex e.tr.simp.ex
  rw [eqE_iff.2 rfl] at h37
  have h14 := c14 (ofR_right ho) e.tr t2 hfit hvals
  have h14s := c14 (ofR_right ho) e.tr.simp s1 sf sv
  have h14w := c14 (ofR_right ho) (T.allT e.tr.conj) w1 wf wv
  rw [simp_eval ho e.tr t2 hk] at h14s
  rw [w3] at h14w
  rw [t1] at h14 h28 h31
  have hle : ¬ ((e.count : Int) < (e.tr.simp.size : Int)) := by omega
  rw [hck] at h16 hc
  simp only [av_fs] at h14 h14s h14w h28 h31 h31s h34 h16s h16w h36s h37
  simp only [vl_av] at h14 h14s h14w
  generalize e.tr.simp.kind ks = q at *
  generalize (T.allT e.tr.conj).kind ks = q2 at *
  generalize e.tr.kind ks = q0 at *
  generalize e.tr.simp.size = sz at *
  generalize e.tr.simp.ex = s at *
  generalize (T.allT e.tr.conj).ex = w at *
  generalize e.tr.conj = l at *
  generalize e.tr.eval r = v at *
  clear hfit hvals hsz t1 t2 hf s1 sf sv w1 wf wv w3
  repeat' (first
   | (with_reducible apply St.o; constructor) <;> intro _
   | with_reducible first | refine LenR_i fun _ => ?_ | refine And.intro (by omega) ?_ | (apply Sp.o; constructor) | refine frz0_i ?_
   | ((with_reducible apply Sc.o true; constructor); simp only [lP, seval, ho, h300, hc, s2, w2, hle, decide_true, decide_false, ti27, pa_exs, vw_exs, pa_Ts, vw_Ts, strA, flatEq]; (first | refine ⟨_, h11, ?_⟩ | refine ⟨_, h19, ?_⟩ | refine ⟨_, h16, ?_⟩ | refine ⟨_, h16s, ?_⟩ | refine ⟨_, h16w, ?_⟩ | refine ⟨_, h36, ?_⟩ | refine ⟨_, h36s, ?_⟩ | refine ⟨_, h37, ?_⟩ | refine ⟨_, h14, ?_⟩ | refine ⟨_, h14s, ?_⟩ | refine ⟨_, h14w, ?_⟩ | refine ⟨_, h13, ?_⟩); rintro _ _ ⟨rfl, rfl⟩; simp only [lA, lP, ptrCells, ptrAdd, isNil, readsV, readsP, isCall, wrote, srcOf, seval, ho, h300, hc, s2, w2, hle, decide_true, decide_false, ti27, pa_exs, vw_exs, pa_Ts, vw_Ts, strA, flatEq])
   | ((with_reducible apply Sc.o false; constructor); simp only [lP, seval, ho, h300, hc, s2, w2, hle, decide_true, decide_false, ti27, pa_exs, vw_exs, pa_Ts, vw_Ts, strA, flatEq]; (first | refine ⟨_, h31, ?_⟩ | refine ⟨_, h28, ?_⟩ | refine ⟨_, h34, ?_⟩ | refine ⟨_, h31s, ?_⟩); rintro _ _ ⟨rfl, rfl⟩; simp only [lA, lP, ptrCells, ptrAdd, isNil, readsV, readsP, isCall, wrote, srcOf, seval, ho, h300, hc, s2, w2, hle, decide_true, decide_false, ti27, pa_exs, vw_exs, pa_Ts, vw_Ts, strA, flatEq])
   | ((with_reducible refine keep0_i ?_); simp only [lP, seval])
   | simp (maxSteps := 1000000) (disch := omega) only [lE, ptrCells, ptrAdd, isNil, readsV, readsP, isCall, wrote, srcOf, seval, ho, h300, hc, s2, w2, hle, decide_true, decide_false, ti27, pa_exs, vw_exs, pa_Ts, vw_Ts, strA, flatEq])
  all_goals omega
end Go.Proofs.Try
