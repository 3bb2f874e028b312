/-
  A part of the proof: see the text of the law.
-/
import Derived.Test.YtjiijjfpmaligaaDoorCao
import Derived.Test.YtjiijjfpmaligaaDoorCar
set_option linter.unusedSimpArgs false
set_option linter.unusedVariables false
namespace Go.Proofs.Try
open Go.Proofs.Tryd
open Go.Al
set_option maxRecDepth 100000
/-- alum/expr.Subst -/
def mc39 : MC :=
 (.seq (.ops [(none, (.e (.box 2 (.t 0)))),
 (none, (.e (.alloc 4 [(.int .i64 0), (.int .i64 0), (.int .i64 0), (.int .i64 0), (.str ⟨#[]⟩), (.raw (.slice none 0 0))])))])
 (.seq (.seq (.ops [(none, (.v (.fld 8 0 (.t 2)))),
 (none, (.v (.load 9 false 1 (.t 8)))),
 (none, (.v (.bin 10 .eql false (.t 9) (.c (.int .i64 1)))))])
 (.cond 10
 (.seq (.ops [(none, (.v (.mov 11 (.t 1)))),
 (none, (.v (.fld 12 1 (.t 2)))),
 (none, (.v (.load 13 false 1 (.t 12)))),
 (none, (.p (.idx 14 6 (.t 11) (.t 13)))),
 (none, (.v (.load 15 true 6 (.t 14)))),
 (none, (.e (.store 6 true (.t 4) (.t 15))))])
 .ret)
 .skip))
 (.seq (.ops [(none, (.v (.fld 16 0 (.t 2)))),
 (none, (.v (.load 17 false 1 (.t 16)))),
 (none, (.v (.fld 18 2 (.t 2)))),
 (none, (.v (.load 19 true 3 (.t 18)))),
 (none, (.v (.build 20 [(.int .i64 0), (.int .i64 0), (.int .i64 0), (.int .i64 0), (.str ⟨#[]⟩), (.raw (.slice none 0 0))] [(0, 1, (.t 17)), (2, 3, (.t 19))]))),
 (none, (.e (.alloc 5 [(.int .i64 0), (.int .i64 0), (.int .i64 0), (.int .i64 0), (.str ⟨#[]⟩), (.raw (.slice none 0 0))]))),
 (none, (.e (.store 6 true (.t 5) (.t 20))))])
 (.seq (.seq (.ops [(none, (.v (.fld 21 5 (.t 2)))),
 (none, (.v (.load 22 false 1 (.t 21)))),
 (none, (.p (.len 23 (.t 22)))),
 (none, (.v (.mov 24 (.c (.int .i64 0)))))])
 (.block 0 (.loop (.seq (.ops [(none, (.v (.bin 25 .lss false (.t 24) (.t 23))))])
 (.seq (.cond 25
 .skip
 (.exit 0))
 (.seq (.block 1 (.seq (.ops [(none, (.p (.idx 26 6 (.t 22) (.t 24)))),
 (none, (.v (.load 27 true 6 (.t 26)))),
 (none, (.e (.alloc 7 [(.int .i64 0), (.int .i64 0), (.int .i64 0), (.int .i64 0), (.str ⟨#[]⟩), (.raw (.slice none 0 0))]))),
 (none, (.e (.store 6 true (.t 7) (.t 27))))])
 (.any true (.pure0 none (.v (.fld 28 5 (.t 5)))
 (.pure0 none (.v (.load 30 true 6 (.t 7)))
 (.pure0 none (.v (.mov 31 (.t 1)))
 (.alt none (.v (.load 29 false 1 (.t 28)))
 (.alt none (.e (.call (some 32) 39 [(.t 30), (.t 31)]))
 (.alt none (.e (.mkl 33 27 6 1 (.agg [(.int .i64 0), (.int .i64 0), (.int .i64 0), (.int .i64 0), (.str ⟨#[]⟩), (.raw (.slice none 0 0))]) [(0, (.t 32))]))
 (.alt none (.e (.app 34 27 6 72 (.t 29) (.t 33)))
 (.pure0 none (.v (.fld 35 5 (.t 5)))
 (.alt none (.e (.store 1 false (.t 35) (.t 34)))
 .done
 .stop))
 .stop)
 .stop)
 .stop)
 (.alt none (.e (.call (some 32) 39 [(.t 30), (.t 31)]))
 (.alt none (.v (.load 29 false 1 (.t 28)))
 (.alt none (.e (.mkl 33 27 6 1 (.agg [(.int .i64 0), (.int .i64 0), (.int .i64 0), (.int .i64 0), (.str ⟨#[]⟩), (.raw (.slice none 0 0))]) [(0, (.t 32))]))
 (.alt none (.e (.app 34 27 6 72 (.t 29) (.t 33)))
 (.pure0 none (.v (.fld 35 5 (.t 5)))
 (.alt none (.e (.store 1 false (.t 35) (.t 34)))
 .done
 .stop))
 .stop)
 .stop)
 (.alt none (.e (.mkl 33 27 6 1 (.agg [(.int .i64 0), (.int .i64 0), (.int .i64 0), (.int .i64 0), (.str ⟨#[]⟩), (.raw (.slice none 0 0))]) [(0, (.t 32))]))
 (.alt none (.v (.load 29 false 1 (.t 28)))
 (.alt none (.e (.app 34 27 6 72 (.t 29) (.t 33)))
 (.pure0 none (.v (.fld 35 5 (.t 5)))
 (.alt none (.e (.store 1 false (.t 35) (.t 34)))
 .done
 .stop))
 .stop)
 .stop)
 .stop))
 .stop))))))))
 (.ops [(none, (.v (.bin 36 .add false (.t 24) (.c (.int .i64 1))))),
 (none, (.v (.mov 24 (.t 36))))])))))))
 (.seq (.ops [(none, (.v (.load 37 true 6 (.t 5)))),
 (none, (.e (.store 6 true (.t 4) (.t 37))))])
 .ret)))))
theorem ok39 : FnOk E 39 38 [.cell 4 27] mc39 := .of func39 (by kernel_rfl) (by kernel_rfl) (by kernel_rfl) (by kernel_rfl) (by kernel_rfl)
end Go.Proofs.Try
namespace Go.Proofs.Try
open Go.Al
set_option linter.unusedVariables false
set_option linter.unusedSimpArgs false
set_option maxRecDepth 20000
set_option maxHeartbeats 8000000

/-- Columns are replaced. -/
def T.subst (l : List T) : T → T
  | .col n => l.getD n.toNat default
  | .val v => .val v
  | .un op a => .un op (a.subst l)
  | .bin op a b => .bin op (a.subst l) (b.subst l)
theorem c39u (l : List T) (op : Int) (a a' : T) (hop : op = 14 ∨ op = 15) (hrec : ACalls E.P 39 [a.ex.av, .view 6 (l.map avT)] [] (fun r H => r = a'.ex.av ∧ H = [])) : ACalls E.P 39 [(T.un op a).ex.av, .view 6 (l.map avT)] [] (fun r H => r = (T.un op a').ex.av ∧ H = []) := by
  have hmax := maxLen_eq
  have n1 : ¬ op = 1 := by omega
  rw [fs_un, fs_un]
  simp only [tv_fs] at hrec
  refine ok39.acalls hE hm (by simp) fun N hN => ?_
  unfold mc39
  simp only [lA, ptrCells, ptrAdd, isNil, readsV, readsP, isCall, wrote, srcOf, seval]
  repeat' (first
   | (with_reducible apply St.o; constructor) <;> intro _
   | with_reducible first | refine LenR_i fun _ => ?_ | refine And.intro (by omega) ?_ | (apply Sp.o; constructor) | refine frz0_i ?_
   | ((with_reducible refine keep0_i ?_); simp only [lP, seval])
   | simp (maxSteps := 1000000) (disch := omega) only [lE, ptrCells, ptrAdd, isNil, readsV, readsP, isCall, wrote, srcOf, seval, List.length_cons, List.length_nil, Int.natCast_one, ti27, ti24, decide_false])
  · contradiction
  refine loop_i (fun i : Nat => i ≤ 1) (fun i => ⟨[(1, .view 6 (l.map avT)), (2, .op 0 0), (4, .op 1 0), (5, .op 2 0), (22, .view 6 [.agg a.ex.fs]), (23, .int .i64 1), (24, .int .i64 i)], [.box [.int .i64 op, .int .i64 0, .int .i64 0, .int .i64 0, .str ⟨#[]⟩, .view 6 [.agg a.ex.fs]], .box out0, .box [.int .i64 op, .int .i64 0, .int .i64 0, .int .i64 0, .str ⟨#[]⟩, if i = 0 then .raw (.slice none 0 0) else .view 6 [.agg a'.ex.fs]]]⟩) (fun i => 1 - i) 0 (by omega) (by simp only [if_true]; exact (Ent.to [0,1,2] false (by simp) (by simp) rfl (by simp only [lP, seval, pa_Ts] <;> (try simp) <;> (try omega)) (by simp only [lP, seval, pa_Ts] <;> (try simp) <;> (try omega)))) ?_
  intro i hi
  have hi2 : i = 0 ∨ i = 1 := by omega
  rcases hi2 with rfl | rfl
  · simp only [if_true]
    repeat' (first
     | (with_reducible apply St.o; constructor) <;> intro _
     | with_reducible first | refine LenR_i fun _ => ?_ | refine And.intro (by omega) ?_ | (apply Sp.o; constructor) | refine frz0_i ?_
     | ((with_reducible apply Sc.o false; constructor); simp only [lP, seval, Int.ofNat_zero, List.length_cons, List.length_nil, IdxR_0, ti27, pa_Ts, vw_Ts]; refine ⟨_, hrec, ?_⟩; rintro _ _ ⟨rfl, rfl⟩; simp only [lA, lP, ptrCells, ptrAdd, isNil, readsV, readsP, isCall, wrote, srcOf, seval, Int.ofNat_zero, List.length_cons, List.length_nil, IdxR_0, ti27, pa_Ts, vw_Ts])
     | with_reducible refine any_i [2] ?_
     | ((with_reducible refine keep0_i ?_); simp only [lP, seval])
     | simp (maxSteps := 1000000) (disch := omega) only [lE, ptrCells, ptrAdd, isNil, readsV, readsP, isCall, wrote, srcOf, seval, Int.ofNat_zero, List.length_cons, List.length_nil, IdxR_0, ti27, pa_Ts, vw_Ts])
    all_goals
      refine back_i 1 (by omega) (by omega) ?_
      rw [if_neg (by omega)]
      exact (Ent.to [0, 1, 2] true (by simp) (by simp) rfl (by simp only [lP, seval, pa_Ts, vw_Ts] <;> (try simp) <;> (try omega)) (by simp only [lP, seval, vw_exs]))
  · have h1 : ((1 : Nat) = 0) = False := by simp
    simp only [h1, if_false]
    repeat' (first
     | (with_reducible apply St.o; constructor) <;> intro _
     | with_reducible first | refine LenR_i fun _ => ?_ | refine And.intro (by omega) ?_ | (apply Sp.o; constructor) | refine frz0_i ?_
     | ((with_reducible refine keep0_i ?_); simp only [lP, seval])
     | simp (maxSteps := 1000000) (disch := omega) only [lE, ptrCells, ptrAdd, isNil, readsV, readsP, isCall, wrote, srcOf, seval, Int.natCast_one, Int.lt_irrefl, decide_false, ti27, pa_Ts, vw_Ts])
theorem mem23 : (3 ∈ [2, 3]) = True ∧ (2 ∈ [2, 3]) = True := by simp
theorem c39b (l : List T) (op : Int) (a b a' b' : T) (hop : 3 ≤ op ∧ op ≤ 13) (hrec : ACalls E.P 39 [a.ex.av, .view 6 (l.map avT)] [] (fun r H => r = a'.ex.av ∧ H = [])) (hrec2 : ACalls E.P 39 [b.ex.av, .view 6 (l.map avT)] [] (fun r H => r = b'.ex.av ∧ H = [])) :
    ACalls E.P 39 [(T.bin op a b).ex.av, .view 6 (l.map avT)] [] (fun r H => r = (T.bin op a' b').ex.av ∧ H = []) := by
  have hmax := maxLen_eq
  have n1 : ¬ op = 1 := by omega
  rw [fs_bin, fs_bin]
  simp only [tv_fs] at hrec hrec2
  refine ok39.acalls hE hm (by simp) fun N hN => ?_
  unfold mc39
  simp only [lA, ptrCells, ptrAdd, isNil, readsV, readsP, isCall, wrote, srcOf, seval]
  repeat' (first
   | (with_reducible apply St.o; constructor) <;> intro _
   | with_reducible first | refine LenR_i fun _ => ?_ | refine And.intro (by omega) ?_ | (apply Sp.o; constructor) | refine frz0_i ?_
   | ((with_reducible refine keep0_i ?_); simp only [lP, seval])
   | simp (maxSteps := 1000000) (disch := omega) only [lE, ptrCells, ptrAdd, isNil, readsV, readsP, isCall, wrote, srcOf, seval, List.length_cons, List.length_nil, Int.natCast_one, ti27, ti24, decide_false])
  · contradiction
  refine loop_i (fun i : Nat => i ≤ 2) (fun i => ⟨[(1, .view 6 (l.map avT)), (2, .op 0 0), (4, .op 1 0), (5, .op 2 0), (22, .view 6 [.agg a.ex.fs, .agg b.ex.fs]), (23, .int .i64 2), (24, .int .i64 i)],
    if i = 1 then [.box [.int .i64 op, .int .i64 0, .int .i64 0, .int .i64 0, .str ⟨#[]⟩, .view 6 [.agg a.ex.fs, .agg b.ex.fs]], .box out0, .box [.int .i64 op, .int .i64 0, .int .i64 0, .int .i64 0, .str ⟨#[]⟩, .slc 3 6 1], .arr 27 6 [.agg a'.ex.fs]]
    else [.box [.int .i64 op, .int .i64 0, .int .i64 0, .int .i64 0, .str ⟨#[]⟩, .view 6 [.agg a.ex.fs, .agg b.ex.fs]], .box out0, .box [.int .i64 op, .int .i64 0, .int .i64 0, .int .i64 0, .str ⟨#[]⟩, if i = 0 then .raw (.slice none 0 0) else .view 6 [.agg a'.ex.fs, .agg b'.ex.fs]]]⟩) (fun i => 2 - i) 0 (by omega) (by rw [if_neg (by omega)]; simp only [if_true]; exact (Ent.to [0,1,2] false (by simp) (by simp) rfl (by simp only [lP, seval, pa_Ts] <;> (try simp) <;> (try omega)) (by simp only [lP, seval, pa_Ts] <;> (try simp) <;> (try omega)))) ?_
  intro i hi
  have hi2 : i = 0 ∨ i = 1 ∨ i = 2 := by omega
  rcases hi2 with rfl | rfl | rfl
  · rw [if_neg (by omega)]
    simp only [if_true]
    repeat' (first
     | (with_reducible apply St.o; constructor) <;> intro _
     | with_reducible first | refine LenR_i fun _ => ?_ | refine And.intro (by omega) ?_ | (apply Sp.o; constructor) | refine frz0_i ?_
     | ((with_reducible apply Sc.o false; constructor); simp only [lP, seval, Int.ofNat_zero, List.length_cons, List.length_nil, IdxR_0, ti27, pa_Ts, vw_Ts]; refine ⟨_, hrec, ?_⟩; rintro _ _ ⟨rfl, rfl⟩; simp only [lA, lP, ptrCells, ptrAdd, isNil, readsV, readsP, isCall, wrote, srcOf, seval, Int.ofNat_zero, List.length_cons, List.length_nil, IdxR_0, ti27, pa_Ts, vw_Ts])
     | with_reducible refine any_i [2] ?_
     | ((with_reducible refine keep0_i ?_); simp only [lP, seval])
     | simp (maxSteps := 1000000) (disch := omega) only [lE, ptrCells, ptrAdd, isNil, readsV, readsP, isCall, wrote, srcOf, seval, Int.ofNat_zero, List.length_cons, List.length_nil, IdxR_0, ti27, pa_Ts, vw_Ts])
    all_goals
      refine back_i 1 (by omega) (by omega) ?_
      rw [if_pos rfl]
      exact (Ent.to [0, 1, 2, 5] false (by simp) (by simp) rfl (by simp only [lP, seval, pa_Ts, vw_Ts] <;> (try simp) <;> (try omega)) (by simp only [lP, seval, pa_exs]))
  · rw [if_pos rfl]
    have m3 := mem23.1
    have m2 := mem23.2
    repeat' (first
     | (with_reducible apply St.o; constructor) <;> intro _
     | with_reducible first | refine LenR_i fun _ => ?_ | refine And.intro (by omega) ?_ | (apply Sp.o; constructor) | refine frz0_i ?_
     | ((with_reducible apply Sc.o false; constructor); simp only [lP, seval, m2, m3, Int.natCast_one, List.length_cons, List.length_nil, IdxR_1, ti27, pa_Ts, vw_Ts]; refine ⟨_, hrec2, ?_⟩; rintro _ _ ⟨rfl, rfl⟩; simp only [lA, lP, ptrCells, ptrAdd, isNil, readsV, readsP, isCall, wrote, srcOf, seval, m2, m3, Int.natCast_one, List.length_cons, List.length_nil, IdxR_1, ti27, pa_Ts, vw_Ts])
     | with_reducible refine any_i [2, 3] ?_
     | ((with_reducible refine keep0_i ?_); simp only [lP, seval])
     | simp (maxSteps := 1000000) (disch := omega) only [lE, ptrCells, ptrAdd, isNil, readsV, readsP, isCall, wrote, srcOf, seval, m2, m3, Int.natCast_one, List.length_cons, List.length_nil, IdxR_1, ti27, pa_Ts, vw_Ts])
    all_goals
      refine back_i 2 (by omega) (by omega) ?_
      rw [if_neg (by omega), if_neg (by omega)]
      exact (Ent.to [0, 1, 2] true (by simp) (by simp) rfl (by simp only [lP, seval, pa_Ts, vw_Ts] <;> (try simp) <;> (try omega)) (by simp only [lP, seval, vw_exs]))
  · rw [if_neg (by omega), if_neg (by omega)]
    repeat' (first
     | (with_reducible apply St.o; constructor) <;> intro _
     | with_reducible first | refine LenR_i fun _ => ?_ | refine And.intro (by omega) ?_ | (apply Sp.o; constructor) | refine frz0_i ?_
     | ((with_reducible refine keep0_i ?_); simp only [lP, seval])
     | simp (maxSteps := 1000000) (disch := omega) only [lE, ptrCells, ptrAdd, isNil, readsV, readsP, isCall, wrote, srcOf, seval, Int.lt_irrefl, decide_false, ti27, pa_Ts, vw_Ts])
end Go.Proofs.Try
