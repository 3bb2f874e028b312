/-
  A part of the proof: see the text of the law.
-/
import Derived.Test.YtjiijjfpmaligaaDoorCbm
set_option linter.unusedSimpArgs false
set_option linter.unusedVariables false
namespace Go.Proofs.Try
open Go.Proofs.Tryd
open Go.Al
set_option maxRecDepth 100000
/-- alum/alumref36.Subst -/
def mc40 : MC :=
 (.seq (.ops [(none, (.e (.box 2 (.t 0)))),
 (none, (.e (.alloc 4 [(.int .i64 0), (.int .i64 0), (.int .i64 0), (.int .i64 0), (.str ⟨#[]⟩), (.raw (.slice none 0 0))])))])
 (.seq (.seq (.ops [(none, (.v (.fld 7 0 (.t 2)))),
 (none, (.v (.load 8 false 1 (.t 7)))),
 (none, (.v (.bin 9 .eql false (.t 8) (.c (.int .i64 1)))))])
 (.cond 9
 (.seq (.ops [(none, (.v (.mov 10 (.t 1)))),
 (none, (.v (.fld 11 1 (.t 2)))),
 (none, (.v (.load 12 false 1 (.t 11)))),
 (none, (.p (.idx 13 6 (.t 10) (.t 12)))),
 (none, (.v (.load 14 true 6 (.t 13)))),
 (none, (.e (.store 6 true (.t 4) (.t 14))))])
 .ret)
 .skip))
 (.seq (.ops [(none, (.v (.fld 15 0 (.t 2)))),
 (none, (.v (.load 16 false 1 (.t 15)))),
 (none, (.v (.fld 17 2 (.t 2)))),
 (none, (.v (.load 18 true 3 (.t 17)))),
 (none, (.v (.build 19 [(.int .i64 0), (.int .i64 0), (.int .i64 0), (.int .i64 0), (.str ⟨#[]⟩), (.raw (.slice none 0 0))] [(0, 1, (.t 16)), (2, 3, (.t 18))]))),
 (none, (.e (.alloc 5 [(.int .i64 0), (.int .i64 0), (.int .i64 0), (.int .i64 0), (.str ⟨#[]⟩), (.raw (.slice none 0 0))]))),
 (none, (.e (.store 6 true (.t 5) (.t 19))))])
 (.seq (.seq (.ops [(none, (.v (.mov 6 (.c (.int .i64 0)))))])
 (.block 0 (.loop (.seq (.seq (.ops [(none, (.v (.mov 20 (.t 6)))),
 (none, (.v (.fld 21 5 (.t 2)))),
 (none, (.v (.load 22 false 1 (.t 21)))),
 (none, (.p (.len 23 (.t 22)))),
 (none, (.v (.bin 24 .lss false (.t 20) (.t 23))))])
 (.cond 24
 .skip
 (.exit 0)))
 (.seq (.block 1 (.any true (.pure0 none (.v (.fld 27 5 (.t 5)))
 (.pure0 none (.v (.fld 29 5 (.t 2)))
 (.pure0 none (.v (.load 30 false 1 (.t 29)))
 (.pure0 none (.v (.mov 31 (.t 6)))
 (.pure0 none (.p (.idx 32 6 (.t 30) (.t 31)))
 (.pure0 none (.v (.load 33 true 6 (.t 32)))
 (.pure0 none (.v (.mov 34 (.t 1)))
 (.alt none (.v (.load 28 false 1 (.t 27)))
 (.alt none (.e (.call (some 35) 40 [(.t 33), (.t 34)]))
 (.alt none (.e (.mkl 36 27 6 1 (.agg [(.int .i64 0), (.int .i64 0), (.int .i64 0), (.int .i64 0), (.str ⟨#[]⟩), (.raw (.slice none 0 0))]) [(0, (.t 35))]))
 (.alt none (.e (.app 37 27 6 72 (.t 28) (.t 36)))
 (.pure0 none (.v (.fld 38 5 (.t 5)))
 (.alt none (.e (.store 1 false (.t 38) (.t 37)))
 .done
 .stop))
 .stop)
 .stop)
 .stop)
 (.alt none (.e (.call (some 35) 40 [(.t 33), (.t 34)]))
 (.alt none (.v (.load 28 false 1 (.t 27)))
 (.alt none (.e (.mkl 36 27 6 1 (.agg [(.int .i64 0), (.int .i64 0), (.int .i64 0), (.int .i64 0), (.str ⟨#[]⟩), (.raw (.slice none 0 0))]) [(0, (.t 35))]))
 (.alt none (.e (.app 37 27 6 72 (.t 28) (.t 36)))
 (.pure0 none (.v (.fld 38 5 (.t 5)))
 (.alt none (.e (.store 1 false (.t 38) (.t 37)))
 .done
 .stop))
 .stop)
 .stop)
 (.alt none (.e (.mkl 36 27 6 1 (.agg [(.int .i64 0), (.int .i64 0), (.int .i64 0), (.int .i64 0), (.str ⟨#[]⟩), (.raw (.slice none 0 0))]) [(0, (.t 35))]))
 (.alt none (.v (.load 28 false 1 (.t 27)))
 (.alt none (.e (.app 37 27 6 72 (.t 28) (.t 36)))
 (.pure0 none (.v (.fld 38 5 (.t 5)))
 (.alt none (.e (.store 1 false (.t 38) (.t 37)))
 .done
 .stop))
 .stop)
 .stop)
 .stop))
 .stop)))))))))))
 (.ops [(none, (.v (.mov 25 (.t 6)))),
 (none, (.v (.bin 26 .add false (.t 25) (.c (.int .i64 1))))),
 (none, (.v (.mov 6 (.t 26))))]))))))
 (.seq (.ops [(none, (.v (.load 39 true 6 (.t 5)))),
 (none, (.e (.store 6 true (.t 4) (.t 39))))])
 .ret)))))
theorem ok40 : FnOk E 40 40 [.cell 4 27] mc40 := .of func40 (by kernel_rfl) (by kernel_rfl) (by kernel_rfl) (by kernel_rfl) (by kernel_rfl)
end Go.Proofs.Try
namespace Go.Proofs.Try
open Go.Al
set_option linter.unusedVariables false
set_option linter.unusedSimpArgs false
set_option maxRecDepth 20000
set_option maxHeartbeats 8000000

theorem c40u (l : List T) (op : Int) (a a' : T) (hop : op = 14 ∨ op = 15) (hrec : ACalls E.P 40 [a.ex.av, .view 6 (l.map avT)] [] (fun r H => r = a'.ex.av ∧ H = [])) : ACalls E.P 40 [(T.un op a).ex.av, .view 6 (l.map avT)] [] (fun r H => r = (T.un op a').ex.av ∧ H = []) := by
  have hmax := maxLen_eq
  have n1 : ¬ op = 1 := by omega
  rw [fs_un, fs_un]
  simp only [tv_fs] at hrec
  refine ok40.acalls hE hm (by simp) fun N hN => ?_
  unfold mc40
  simp only [lA, ptrCells, ptrAdd, isNil, readsV, readsP, isCall, wrote, srcOf, seval]
  repeat' (first
   | (with_reducible apply St.o; constructor) <;> intro _
   | with_reducible first | refine LenR_i fun _ => ?_ | refine And.intro (by omega) ?_ | (apply Sp.o; constructor) | refine frz0_i ?_
   | ((with_reducible refine keep0_i ?_); simp only [lP, seval])
   | simp (maxSteps := 1000000) (disch := omega) only [lE, ptrCells, ptrAdd, isNil, readsV, readsP, isCall, wrote, srcOf, seval, List.length_cons, List.length_nil, Int.natCast_one, ti27, ti24, decide_false])
  · contradiction
  refine loop_i (fun i : Nat => i ≤ 1) (fun i => ⟨[(1, .view 6 (l.map avT)), (2, .op 0 0), (4, .op 1 0), (5, .op 2 0), (6, .int .i64 i)], [.box [.int .i64 op, .int .i64 0, .int .i64 0, .int .i64 0, .str ⟨#[]⟩, .view 6 [.agg a.ex.fs]], .box out0, .box [.int .i64 op, .int .i64 0, .int .i64 0, .int .i64 0, .str ⟨#[]⟩, if i = 0 then .raw (.slice none 0 0) else .view 6 [.agg a'.ex.fs]]]⟩) (fun i => 1 - i) 0 (by omega) (by simp only [if_true]; exact (Ent.to [0,1,2] false (by simp) (by simp) rfl (by simp only [lP, seval, pa_Ts] <;> (try simp) <;> (try omega)) (by simp only [lP, seval, pa_Ts] <;> (try simp) <;> (try omega)))) ?_
  intro i hi
  have hi2 : i = 0 ∨ i = 1 := by omega
  rcases hi2 with rfl | rfl
  · simp only [if_true]
    repeat' (first
     | (with_reducible apply St.o; constructor) <;> intro _
     | with_reducible first | refine LenR_i fun _ => ?_ | refine And.intro (by omega) ?_ | (apply Sp.o; constructor) | refine frz0_i ?_
     | ((with_reducible apply Sc.o false; constructor); simp only [lP, seval, Int.ofNat_zero, List.length_cons, List.length_nil, IdxR_0, ti27, pa_Ts, vw_Ts]; refine ⟨_, hrec, ?_⟩; rintro _ _ ⟨rfl, rfl⟩; simp only [lA, lP, ptrCells, ptrAdd, isNil, readsV, readsP, isCall, wrote, srcOf, seval, Int.ofNat_zero, List.length_cons, List.length_nil, IdxR_0, ti27, pa_Ts, vw_Ts])
     | with_reducible refine any_i [2] ?_
     | ((with_reducible refine keep0_i ?_); simp only [lP, seval])
     | simp (maxSteps := 1000000) (disch := omega) only [lE, ptrCells, ptrAdd, isNil, readsV, readsP, isCall, wrote, srcOf, seval, Int.ofNat_zero, List.length_cons, List.length_nil, IdxR_0, ti27, pa_Ts, vw_Ts])
    all_goals
      refine back_i 1 (by omega) (by omega) ?_
      rw [if_neg (by omega)]
      exact (Ent.to [0, 1, 2] true (by simp) (by simp) rfl (by simp only [lP, seval, pa_Ts, vw_Ts] <;> (try simp) <;> (try omega)) (by simp only [lP, seval, vw_exs]))
  · have h1 : ((1 : Nat) = 0) = False := by simp
    simp only [h1, if_false]
    repeat' (first
     | (with_reducible apply St.o; constructor) <;> intro _
     | with_reducible first | refine LenR_i fun _ => ?_ | refine And.intro (by omega) ?_ | (apply Sp.o; constructor) | refine frz0_i ?_
     | ((with_reducible refine keep0_i ?_); simp only [lP, seval])
     | simp (maxSteps := 1000000) (disch := omega) only [lE, ptrCells, ptrAdd, isNil, readsV, readsP, isCall, wrote, srcOf, seval, Int.natCast_one, Int.lt_irrefl, decide_false, ti27, pa_Ts, vw_Ts])
theorem c40b (l : List T) (op : Int) (a b a' b' : T) (hop : 3 ≤ op ∧ op ≤ 13) (hrec : ACalls E.P 40 [a.ex.av, .view 6 (l.map avT)] [] (fun r H => r = a'.ex.av ∧ H = [])) (hrec2 : ACalls E.P 40 [b.ex.av, .view 6 (l.map avT)] [] (fun r H => r = b'.ex.av ∧ H = [])) :
    ACalls E.P 40 [(T.bin op a b).ex.av, .view 6 (l.map avT)] [] (fun r H => r = (T.bin op a' b').ex.av ∧ H = []) := by
  have hmax := maxLen_eq
  have n1 : ¬ op = 1 := by omega
  rw [fs_bin, fs_bin]
  simp only [tv_fs] at hrec hrec2
  refine ok40.acalls hE hm (by simp) fun N hN => ?_
  unfold mc40
  simp only [lA, ptrCells, ptrAdd, isNil, readsV, readsP, isCall, wrote, srcOf, seval]
  repeat' (first
   | (with_reducible apply St.o; constructor) <;> intro _
   | with_reducible first | refine LenR_i fun _ => ?_ | refine And.intro (by omega) ?_ | (apply Sp.o; constructor) | refine frz0_i ?_
   | ((with_reducible refine keep0_i ?_); simp only [lP, seval])
   | simp (maxSteps := 1000000) (disch := omega) only [lE, ptrCells, ptrAdd, isNil, readsV, readsP, isCall, wrote, srcOf, seval, List.length_cons, List.length_nil, Int.natCast_one, ti27, ti24, decide_false])
  · contradiction
  refine loop_i (fun i : Nat => i ≤ 2) (fun i => ⟨[(1, .view 6 (l.map avT)), (2, .op 0 0), (4, .op 1 0), (5, .op 2 0), (6, .int .i64 i)],
    if i = 1 then [.box [.int .i64 op, .int .i64 0, .int .i64 0, .int .i64 0, .str ⟨#[]⟩, .view 6 [.agg a.ex.fs, .agg b.ex.fs]], .box out0, .box [.int .i64 op, .int .i64 0, .int .i64 0, .int .i64 0, .str ⟨#[]⟩, .slc 3 6 1], .arr 27 6 [.agg a'.ex.fs]]
    else [.box [.int .i64 op, .int .i64 0, .int .i64 0, .int .i64 0, .str ⟨#[]⟩, .view 6 [.agg a.ex.fs, .agg b.ex.fs]], .box out0, .box [.int .i64 op, .int .i64 0, .int .i64 0, .int .i64 0, .str ⟨#[]⟩, if i = 0 then .raw (.slice none 0 0) else .view 6 [.agg a'.ex.fs, .agg b'.ex.fs]]]⟩) (fun i => 2 - i) 0 (by omega) (by rw [if_neg (by omega)]; simp only [if_true]; exact (Ent.to [0,1,2] false (by simp) (by simp) rfl (by simp only [lP, seval, pa_Ts] <;> (try simp) <;> (try omega)) (by simp only [lP, seval, pa_Ts] <;> (try simp) <;> (try omega)))) ?_
  intro i hi
  have hi2 : i = 0 ∨ i = 1 ∨ i = 2 := by omega
  rcases hi2 with rfl | rfl | rfl
  · rw [if_neg (by omega)]
    simp only [if_true]
    repeat' (first
     | (with_reducible apply St.o; constructor) <;> intro _
     | with_reducible first | refine LenR_i fun _ => ?_ | refine And.intro (by omega) ?_ | (apply Sp.o; constructor) | refine frz0_i ?_
     | ((with_reducible apply Sc.o false; constructor); simp only [lP, seval, Int.ofNat_zero, List.length_cons, List.length_nil, IdxR_0, ti27, pa_Ts, vw_Ts]; refine ⟨_, hrec, ?_⟩; rintro _ _ ⟨rfl, rfl⟩; simp only [lA, lP, ptrCells, ptrAdd, isNil, readsV, readsP, isCall, wrote, srcOf, seval, Int.ofNat_zero, List.length_cons, List.length_nil, IdxR_0, ti27, pa_Ts, vw_Ts])
     | with_reducible refine any_i [2] ?_
     | ((with_reducible refine keep0_i ?_); simp only [lP, seval])
     | simp (maxSteps := 1000000) (disch := omega) only [lE, ptrCells, ptrAdd, isNil, readsV, readsP, isCall, wrote, srcOf, seval, Int.ofNat_zero, List.length_cons, List.length_nil, IdxR_0, ti27, pa_Ts, vw_Ts])
    all_goals
      refine back_i 1 (by omega) (by omega) ?_
      rw [if_pos rfl]
      exact (Ent.to [0, 1, 2, 4] false (by simp) (by simp) rfl (by simp only [lP, seval, pa_Ts, vw_Ts] <;> (try simp) <;> (try omega)) (by simp only [lP, seval, pa_exs]))
  · rw [if_pos rfl]
    have m3 := mem23.1
    have m2 := mem23.2
    repeat' (first
     | (with_reducible apply St.o; constructor) <;> intro _
     | with_reducible first | refine LenR_i fun _ => ?_ | refine And.intro (by omega) ?_ | (apply Sp.o; constructor) | refine frz0_i ?_
     | ((with_reducible apply Sc.o false; constructor); simp only [lP, seval, m2, m3, Int.natCast_one, List.length_cons, List.length_nil, IdxR_1, ti27, pa_Ts, vw_Ts]; refine ⟨_, hrec2, ?_⟩; rintro _ _ ⟨rfl, rfl⟩; simp only [lA, lP, ptrCells, ptrAdd, isNil, readsV, readsP, isCall, wrote, srcOf, seval, m2, m3, Int.natCast_one, List.length_cons, List.length_nil, IdxR_1, ti27, pa_Ts, vw_Ts])
     | with_reducible refine any_i [2, 3] ?_
     | ((with_reducible refine keep0_i ?_); simp only [lP, seval])
     | simp (maxSteps := 1000000) (disch := omega) only [lE, ptrCells, ptrAdd, isNil, readsV, readsP, isCall, wrote, srcOf, seval, m2, m3, Int.natCast_one, List.length_cons, List.length_nil, IdxR_1, ti27, pa_Ts, vw_Ts])
    all_goals
      refine back_i 2 (by omega) (by omega) ?_
      rw [if_neg (by omega), if_neg (by omega)]
      exact (Ent.to [0, 1, 2] true (by simp) (by simp) rfl (by simp only [lP, seval, pa_Ts, vw_Ts] <;> (try simp) <;> (try omega)) (by simp only [lP, seval, vw_exs]))
  · rw [if_neg (by omega), if_neg (by omega)]
    repeat' (first
     | (with_reducible apply St.o; constructor) <;> intro _
     | with_reducible first | refine LenR_i fun _ => ?_ | refine And.intro (by omega) ?_ | (apply Sp.o; constructor) | refine frz0_i ?_
     | ((with_reducible refine keep0_i ?_); simp only [lP, seval])
     | simp (maxSteps := 1000000) (disch := omega) only [lE, ptrCells, ptrAdd, isNil, readsV, readsP, isCall, wrote, srcOf, seval, Int.lt_irrefl, decide_false, ti27, pa_Ts, vw_Ts])
theorem c40col (l : List T) (n : Int) (h : 0 ≤ n ∧ n < l.length) : ACalls E.P 40 [(T.col n).ex.av, .view 6 (l.map avT)] [] (fun r H => r = (l.getD n.toNat default).ex.av ∧ H = []) := by
  have hmax := maxLen_eq
  obtain ⟨h1, h2⟩ := h
  simp only [tv_fs, fsL_col]
  refine ok40.acalls hE hm (by simp) fun N hN => ?_
  unfold mc40
  simp only [lA, ptrCells, ptrAdd, isNil, readsV, readsP, isCall, wrote, srcOf, seval]
  repeat' (first
   | (with_reducible apply St.o; constructor) <;> intro _
   | with_reducible first | refine LenR_i fun _ => ?_ | refine And.intro (by omega) ?_ | (apply Sp.o; constructor) | refine frz0_i ?_
   | ((with_reducible refine keep0_i ?_); simp only [lP, seval])
   | simp (maxSteps := 1000000) (disch := omega) only [lE, ptrCells, ptrAdd, isNil, readsV, readsP, isCall, wrote, srcOf, seval, IdxR_Ts, ti27, pa_Ts, vw_Ts, pa_exs, vw_exs])
theorem c40val (l : List T) (v : VL) : ACalls E.P 40 [(T.val v).ex.av, .view 6 (l.map avT)] [] (fun r H => r = (T.val v).ex.av ∧ H = []) := by
  have hmax := maxLen_eq
  simp only [tv_fs, fsL_val]
  refine ok40.acalls hE hm (by simp) fun N hN => ?_
  unfold mc40
  simp only [lA, ptrCells, ptrAdd, isNil, readsV, readsP, isCall, wrote, srcOf, seval]
  repeat' (first
   | (with_reducible apply St.o; constructor) <;> intro _
   | with_reducible first | refine LenR_i fun _ => ?_ | refine And.intro (by omega) ?_ | (apply Sp.o; constructor) | refine frz0_i ?_
   | ((with_reducible refine keep0_i ?_); simp only [lP, seval])
   | simp (maxSteps := 1000000) (disch := omega) only [lE, ptrCells, ptrAdd, isNil, readsV, readsP, isCall, wrote, srcOf, seval, List.length_nil, Int.ofNat_zero, ti27, ti24, decide_false])
  refine loop_i (fun i : Nat => i = 0) (fun i => ⟨[(2, .op 0 0), (4, .op 1 0), (5, .op 2 0), (6, .int .i64 0)], [.box [.int .i64 2, .int .i64 0, .int .i64 v.k, .int .i64 v.n, .str v.s, .view 6 []], .box out0, .box [.int .i64 2, .int .i64 0, .int .i64 v.k, .int .i64 v.n, .str v.s, .raw (.slice none 0 0)]]⟩) (fun i => 0) 0 rfl (Ent.to [0,1,2] false (by simp) (by simp) rfl (by simp only [lP, seval, pa_Ts] <;> (try simp) <;> (try omega)) (by simp only [lP, seval, pa_Ts] <;> (try simp) <;> (try omega))) ?_
  intro i hi
  repeat' (first
   | (with_reducible apply St.o; constructor) <;> intro _
   | with_reducible first | refine LenR_i fun _ => ?_ | refine And.intro (by omega) ?_ | (apply Sp.o; constructor) | refine frz0_i ?_
   | with_reducible refine keep_exnil ?_
   | ((with_reducible refine keep0_i ?_); simp only [lP, seval])
   | simp (maxSteps := 1000000) (disch := omega) only [lE, ptrCells, ptrAdd, isNil, readsV, readsP, isCall, wrote, srcOf, seval, Int.lt_irrefl, decide_false, ti27, pa_Ts, vw_Ts])
  all_goals (simp only [lP, seval, pH_nil])
theorem c40 (l : List T) : ∀ t : T, t.wf → t.fits l.length → ACalls E.P 40 [t.ex.av, .view 6 (l.map avT)] [] (fun r H => r = (t.subst l).ex.av ∧ H = [])
  | .col n, _, h => c40col l n h
  | .val v, _, _ => c40val l v
  | .un op a, hw, h => c40u l op a (a.subst l) hw.1 (c40 l a hw.2 h)
  | .bin op a b, hw, h => c40b l op a b (a.subst l) (b.subst l) hw.1 (c40 l a hw.2.1 h.1) (c40 l b hw.2.2 h.2)
end Go.Proofs.Try
