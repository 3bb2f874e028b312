/-
  A part of the proof: see the text of the law.
-/
import Derived.Test.YtjiijjfpmaligaaDoorCbo
import Derived.Test.YtjiijjfpmaligaaDoorCav
import Derived.Test.YtjiijjfpmaligaaDoorCap
set_option linter.unusedSimpArgs false
set_option linter.unusedVariables false
namespace Go.Proofs.Try
open Go.Proofs.Tryd
open Go.Al
set_option maxRecDepth 100000
/-- alum/alumref36.Simplify -/
def mc32 : MC :=
 (.seq (.ops [(none, (.e (.box 1 (.t 0)))),
 (none, (.e (.alloc 2 [(.int .i64 0), (.int .i64 0), (.int .i64 0), (.int .i64 0), (.str ⟨#[]⟩), (.raw (.slice none 0 0))])))])
 (.seq (.seq (.ops [(none, (.v (.fld 5 5 (.t 1)))),
 (none, (.v (.load 6 false 1 (.t 5)))),
 (none, (.p (.len 7 (.t 6)))),
 (none, (.v (.bin 8 .eql false (.t 7) (.c (.int .i64 0)))))])
 (.cond 8
 (.seq (.ops [(none, (.v (.load 9 true 6 (.t 1)))),
 (none, (.e (.store 6 true (.t 2) (.t 9))))])
 .ret)
 .skip))
 (.seq (.ops [(none, (.v (.fld 10 0 (.t 1)))),
 (none, (.v (.load 11 false 1 (.t 10)))),
 (none, (.v (.build 12 [(.int .i64 0), (.int .i64 0), (.int .i64 0), (.int .i64 0), (.str ⟨#[]⟩), (.raw (.slice none 0 0))] [(0, 1, (.t 11))]))),
 (none, (.e (.alloc 3 [(.int .i64 0), (.int .i64 0), (.int .i64 0), (.int .i64 0), (.str ⟨#[]⟩), (.raw (.slice none 0 0))]))),
 (none, (.e (.store 6 true (.t 3) (.t 12))))])
 (.seq (.seq (.ops [(none, (.v (.mov 4 (.c (.int .i64 0)))))])
 (.block 0 (.loop (.seq (.seq (.ops [(none, (.v (.mov 13 (.t 4)))),
 (none, (.v (.fld 14 5 (.t 1)))),
 (none, (.v (.load 15 false 1 (.t 14)))),
 (none, (.p (.len 16 (.t 15)))),
 (none, (.v (.bin 17 .lss false (.t 13) (.t 16))))])
 (.cond 17
 .skip
 (.exit 0)))
 (.seq (.block 1 (.any true (.pure0 none (.v (.fld 20 5 (.t 3)))
 (.pure0 none (.v (.fld 22 5 (.t 1)))
 (.pure0 none (.v (.load 23 false 1 (.t 22)))
 (.pure0 none (.v (.mov 24 (.t 4)))
 (.pure0 none (.p (.idx 25 6 (.t 23) (.t 24)))
 (.pure0 none (.v (.load 26 true 6 (.t 25)))
 (.alt none (.v (.load 21 false 1 (.t 20)))
 (.alt none (.e (.call (some 27) 32 [(.t 26)]))
 (.alt none (.e (.mkl 28 27 6 1 (.agg [(.int .i64 0), (.int .i64 0), (.int .i64 0), (.int .i64 0), (.str ⟨#[]⟩), (.raw (.slice none 0 0))]) [(0, (.t 27))]))
 (.alt none (.e (.app 29 27 6 72 (.t 21) (.t 28)))
 (.pure0 none (.v (.fld 30 5 (.t 3)))
 (.alt none (.e (.store 1 false (.t 30) (.t 29)))
 .done
 .stop))
 .stop)
 .stop)
 .stop)
 (.alt none (.e (.call (some 27) 32 [(.t 26)]))
 (.alt none (.v (.load 21 false 1 (.t 20)))
 (.alt none (.e (.mkl 28 27 6 1 (.agg [(.int .i64 0), (.int .i64 0), (.int .i64 0), (.int .i64 0), (.str ⟨#[]⟩), (.raw (.slice none 0 0))]) [(0, (.t 27))]))
 (.alt none (.e (.app 29 27 6 72 (.t 21) (.t 28)))
 (.pure0 none (.v (.fld 30 5 (.t 3)))
 (.alt none (.e (.store 1 false (.t 30) (.t 29)))
 .done
 .stop))
 .stop)
 .stop)
 (.alt none (.e (.mkl 28 27 6 1 (.agg [(.int .i64 0), (.int .i64 0), (.int .i64 0), (.int .i64 0), (.str ⟨#[]⟩), (.raw (.slice none 0 0))]) [(0, (.t 27))]))
 (.alt none (.v (.load 21 false 1 (.t 20)))
 (.alt none (.e (.app 29 27 6 72 (.t 21) (.t 28)))
 (.pure0 none (.v (.fld 30 5 (.t 3)))
 (.alt none (.e (.store 1 false (.t 30) (.t 29)))
 .done
 .stop))
 .stop)
 .stop)
 .stop))
 .stop))))))))))
 (.ops [(none, (.v (.mov 18 (.t 4)))),
 (none, (.v (.bin 19 .add false (.t 18) (.c (.int .i64 1))))),
 (none, (.v (.mov 4 (.t 19))))]))))))
 (.seq (.ops [(none, (.v (.load 31 true 6 (.t 3)))),
 (none, (.e (.call (some 32) 73 [(.t 31)]))),
 (none, (.e (.store 6 true (.t 2) (.t 32))))])
 .ret)))))
theorem ok32 : FnOk E 32 33 [.cell 2 27] mc32 := .of func32 (by kernel_rfl) (by kernel_rfl) (by kernel_rfl) (by kernel_rfl) (by kernel_rfl)
end Go.Proofs.Try
namespace Go.Proofs.Try
open Go.Al
set_option linter.unusedVariables false
set_option linter.unusedSimpArgs false
set_option maxRecDepth 20000
set_option maxHeartbeats 8000000

theorem c32u (op : Int) (a a' s : T) (hrec : ACalls E.P 32 [a.ex.av] [] (fun r H => r = a'.ex.av ∧ H = [])) (h73 : ACalls E.P 73 [(T.un op a').ex.av] [] (fun r H => r = s.ex.av ∧ H = [])) : ACalls E.P 32 [(T.un op a).ex.av] [] (fun r H => r = s.ex.av ∧ H = []) := by
  have hmax := maxLen_eq
  rw [fs_un] at h73 ⊢
  simp only [tv_fs] at hrec h73 ⊢
  refine ok32.acalls hE hm (by simp) fun N hN => ?_
  unfold mc32
  simp only [lA, ptrCells, ptrAdd, isNil, readsV, readsP, isCall, wrote, srcOf, seval]
  have l1 : ((1 : Int) = 0) = False := by simp
  repeat' (first
   | (with_reducible apply St.o; constructor) <;> intro _
   | with_reducible first | refine LenR_i fun _ => ?_ | refine And.intro (by omega) ?_ | (apply Sp.o; constructor) | refine frz0_i ?_
   | ((with_reducible refine keep0_i ?_); simp only [lP, seval])
   | simp (maxSteps := 1000000) (disch := omega) only [lE, ptrCells, ptrAdd, isNil, readsV, readsP, isCall, wrote, srcOf, seval, List.length_cons, List.length_nil, Int.natCast_one, l1, ti27, ti24, decide_false])
  refine loop_i (fun i : Nat => i ≤ 1) (fun i => ⟨[(1, .op 0 0), (2, .op 1 0), (3, .op 2 0), (4, .int .i64 i)], [.box [.int .i64 op, .int .i64 0, .int .i64 0, .int .i64 0, .str ⟨#[]⟩, .view 6 [.agg a.ex.fs]], .box out0, .box [.int .i64 op, .int .i64 0, .int .i64 0, .int .i64 0, .str ⟨#[]⟩, if i = 0 then .raw (.slice none 0 0) else .view 6 [.agg a'.ex.fs]]]⟩) (fun i => 1 - i) 0 (by omega) (by simp only [if_true]; exact (Ent.to [0,1,2] false (by simp) (by simp) rfl (by simp only [lP, seval] <;> (try simp) <;> (try omega)) (by simp only [lP, seval] <;> (try simp) <;> (try omega)))) ?_
  intro i hi
  have hi2 : i = 0 ∨ i = 1 := by omega
  rcases hi2 with rfl | rfl
  · simp only [if_true]
    repeat' (first
     | (with_reducible apply St.o; constructor) <;> intro _
     | with_reducible first | refine LenR_i fun _ => ?_ | refine And.intro (by omega) ?_ | (apply Sp.o; constructor) | refine frz0_i ?_
     | ((with_reducible apply Sc.o false; constructor); simp only [lP, seval, Int.ofNat_zero, List.length_cons, List.length_nil, IdxR_0, ti27]; refine ⟨_, hrec, ?_⟩; rintro _ _ ⟨rfl, rfl⟩; simp only [lA, lP, ptrCells, ptrAdd, isNil, readsV, readsP, isCall, wrote, srcOf, seval, Int.ofNat_zero, List.length_cons, List.length_nil, IdxR_0, ti27])
     | with_reducible refine any_i [2] ?_
     | ((with_reducible refine keep0_i ?_); simp only [lP, seval])
     | simp (maxSteps := 1000000) (disch := omega) only [lE, ptrCells, ptrAdd, isNil, readsV, readsP, isCall, wrote, srcOf, seval, Int.ofNat_zero, List.length_cons, List.length_nil, IdxR_0, ti27])
    all_goals
      refine back_i 1 (by omega) (by omega) ?_
      rw [if_neg (by omega)]
      exact (Ent.to [0, 1, 2] true (by simp) (by simp) rfl (by simp only [lP, seval] <;> (try simp) <;> (try omega)) (by simp only [lP, seval, vw_exs]))
  · have h1 : ((1 : Nat) = 0) = False := by simp
    simp only [h1, if_false]
    repeat' (first
     | (with_reducible apply St.o; constructor) <;> intro _
     | with_reducible first | refine LenR_i fun _ => ?_ | refine And.intro (by omega) ?_ | (apply Sp.o; constructor) | refine frz0_i ?_
     | ((with_reducible apply Sc.o false; constructor); simp only [lP, seval, Int.natCast_one, Int.lt_irrefl, decide_false, ti27, List.length_cons, List.length_nil]; refine ⟨_, h73, ?_⟩; rintro _ _ ⟨rfl, rfl⟩; simp only [lA, lP, ptrCells, ptrAdd, isNil, readsV, readsP, isCall, wrote, srcOf, seval, Int.natCast_one, Int.lt_irrefl, decide_false, ti27, List.length_cons, List.length_nil])
     | ((with_reducible refine keep0_i ?_); simp only [lP, seval])
     | simp (maxSteps := 1000000) (disch := omega) only [lE, ptrCells, ptrAdd, isNil, readsV, readsP, isCall, wrote, srcOf, seval, Int.natCast_one, Int.lt_irrefl, decide_false, ti27, List.length_cons, List.length_nil])
theorem c32b (op : Int) (a b a' b' s : T) (hrec : ACalls E.P 32 [a.ex.av] [] (fun r H => r = a'.ex.av ∧ H = [])) (hrec2 : ACalls E.P 32 [b.ex.av] [] (fun r H => r = b'.ex.av ∧ H = [])) (h73 : ACalls E.P 73 [(T.bin op a' b').ex.av] [] (fun r H => r = s.ex.av ∧ H = [])) :
    ACalls E.P 32 [(T.bin op a b).ex.av] [] (fun r H => r = s.ex.av ∧ H = []) := by
  have hmax := maxLen_eq
  rw [fs_bin] at h73 ⊢
  simp only [tv_fs] at hrec hrec2 h73 ⊢
  refine ok32.acalls hE hm (by simp) fun N hN => ?_
  unfold mc32
  simp only [lA, ptrCells, ptrAdd, isNil, readsV, readsP, isCall, wrote, srcOf, seval]
  have l2 : ((2 : Int) = 0) = False := by simp
  repeat' (first
   | (with_reducible apply St.o; constructor) <;> intro _
   | with_reducible first | refine LenR_i fun _ => ?_ | refine And.intro (by omega) ?_ | (apply Sp.o; constructor) | refine frz0_i ?_
   | ((with_reducible refine keep0_i ?_); simp only [lP, seval])
   | simp (maxSteps := 1000000) (disch := omega) only [lE, ptrCells, ptrAdd, isNil, readsV, readsP, isCall, wrote, srcOf, seval, List.length_cons, List.length_nil, Int.natCast_one, l2, ti27, ti24, decide_false])
  refine loop_i (fun i : Nat => i ≤ 2) (fun i => ⟨[(1, .op 0 0), (2, .op 1 0), (3, .op 2 0), (4, .int .i64 i)],
    if i = 1 then [.box [.int .i64 op, .int .i64 0, .int .i64 0, .int .i64 0, .str ⟨#[]⟩, .view 6 [.agg a.ex.fs, .agg b.ex.fs]], .box out0, .box [.int .i64 op, .int .i64 0, .int .i64 0, .int .i64 0, .str ⟨#[]⟩, .slc 3 6 1], .arr 27 6 [.agg a'.ex.fs]]
    else [.box [.int .i64 op, .int .i64 0, .int .i64 0, .int .i64 0, .str ⟨#[]⟩, .view 6 [.agg a.ex.fs, .agg b.ex.fs]], .box out0, .box [.int .i64 op, .int .i64 0, .int .i64 0, .int .i64 0, .str ⟨#[]⟩, if i = 0 then .raw (.slice none 0 0) else .view 6 [.agg a'.ex.fs, .agg b'.ex.fs]]]⟩) (fun i => 2 - i) 0 (by omega) (by rw [if_neg (by omega)]; simp only [if_true]; exact (Ent.to [0,1,2] false (by simp) (by simp) rfl (by simp only [lP, seval] <;> (try simp) <;> (try omega)) (by simp only [lP, seval] <;> (try simp) <;> (try omega)))) ?_
  intro i hi
  have hi2 : i = 0 ∨ i = 1 ∨ i = 2 := by omega
  rcases hi2 with rfl | rfl | rfl
  · rw [if_neg (by omega)]
    simp only [if_true]
    repeat' (first
     | (with_reducible apply St.o; constructor) <;> intro _
     | with_reducible first | refine LenR_i fun _ => ?_ | refine And.intro (by omega) ?_ | (apply Sp.o; constructor) | refine frz0_i ?_
     | ((with_reducible apply Sc.o false; constructor); simp only [lP, seval, Int.ofNat_zero, List.length_cons, List.length_nil, IdxR_0, ti27]; refine ⟨_, hrec, ?_⟩; rintro _ _ ⟨rfl, rfl⟩; simp only [lA, lP, ptrCells, ptrAdd, isNil, readsV, readsP, isCall, wrote, srcOf, seval, Int.ofNat_zero, List.length_cons, List.length_nil, IdxR_0, ti27])
     | with_reducible refine any_i [2] ?_
     | ((with_reducible refine keep0_i ?_); simp only [lP, seval])
     | simp (maxSteps := 1000000) (disch := omega) only [lE, ptrCells, ptrAdd, isNil, readsV, readsP, isCall, wrote, srcOf, seval, Int.ofNat_zero, List.length_cons, List.length_nil, IdxR_0, ti27])
    all_goals
      refine back_i 1 (by omega) (by omega) ?_
      rw [if_pos rfl]
      exact (Ent.to [0, 1, 2, 4] false (by simp) (by simp) rfl (by simp only [lP, seval] <;> (try simp) <;> (try omega)) (by simp only [lP, seval, pa_exs]))
  · rw [if_pos rfl]
    have m3 := mem23.1
    have m2 := mem23.2
    repeat' (first
     | (with_reducible apply St.o; constructor) <;> intro _
     | with_reducible first | refine LenR_i fun _ => ?_ | refine And.intro (by omega) ?_ | (apply Sp.o; constructor) | refine frz0_i ?_
     | ((with_reducible apply Sc.o false; constructor); simp only [lP, seval, m2, m3, Int.natCast_one, List.length_cons, List.length_nil, IdxR_1, ti27]; refine ⟨_, hrec2, ?_⟩; rintro _ _ ⟨rfl, rfl⟩; simp only [lA, lP, ptrCells, ptrAdd, isNil, readsV, readsP, isCall, wrote, srcOf, seval, m2, m3, Int.natCast_one, List.length_cons, List.length_nil, IdxR_1, ti27])
     | with_reducible refine any_i [2, 3] ?_
     | ((with_reducible refine keep0_i ?_); simp only [lP, seval])
     | simp (maxSteps := 1000000) (disch := omega) only [lE, ptrCells, ptrAdd, isNil, readsV, readsP, isCall, wrote, srcOf, seval, m2, m3, Int.natCast_one, List.length_cons, List.length_nil, IdxR_1, ti27])
    all_goals
      refine back_i 2 (by omega) (by omega) ?_
      rw [if_neg (by omega), if_neg (by omega)]
      exact (Ent.to [0, 1, 2] true (by simp) (by simp) rfl (by simp only [lP, seval] <;> (try simp) <;> (try omega)) (by simp only [lP, seval, vw_exs]))
  · rw [if_neg (by omega), if_neg (by omega)]
    repeat' (first
     | (with_reducible apply St.o; constructor) <;> intro _
     | with_reducible first | refine LenR_i fun _ => ?_ | refine And.intro (by omega) ?_ | (apply Sp.o; constructor) | refine frz0_i ?_
     | ((with_reducible apply Sc.o false; constructor); simp only [lP, seval, Int.lt_irrefl, decide_false, ti27, List.length_cons, List.length_nil]; refine ⟨_, h73, ?_⟩; rintro _ _ ⟨rfl, rfl⟩; simp only [lA, lP, ptrCells, ptrAdd, isNil, readsV, readsP, isCall, wrote, srcOf, seval, Int.lt_irrefl, decide_false, ti27, List.length_cons, List.length_nil])
     | ((with_reducible refine keep0_i ?_); simp only [lP, seval])
     | simp (maxSteps := 1000000) (disch := omega) only [lE, ptrCells, ptrAdd, isNil, readsV, readsP, isCall, wrote, srcOf, seval, Int.lt_irrefl, decide_false, ti27, List.length_cons, List.length_nil])
theorem c32leaf (t : T) (h : t.ex.args = []) : ACalls E.P 32 [t.ex.av] [] (fun r H => r = t.ex.av ∧ H = []) := by
  simp only [tv_fs]
  refine ok32.acalls hE hm (by simp) fun N hN => ?_
  unfold mc32
  simp only [lA, ptrCells, ptrAdd, isNil, readsV, readsP, isCall, wrote, srcOf, seval, h, List.map_nil]
  repeat' (first
   | (with_reducible apply St.o; constructor) <;> intro _
   | with_reducible first | refine LenR_i fun _ => ?_ | refine And.intro (by omega) ?_ | (apply Sp.o; constructor) | refine frz0_i ?_
   | ((with_reducible refine keep0_i ?_); simp only [lP, seval])
   | simp (maxSteps := 1000000) (disch := omega) only [lE, ptrCells, ptrAdd, isNil, readsV, readsP, isCall, wrote, srcOf, seval, h, List.map_nil, List.length_nil, Int.ofNat_zero, ti27, decide_true])
  rw [show t.ex.fs = [.int .i64 t.ex.op, .int .i64 t.ex.n, .int .i64 t.ex.val.k, .int .i64 t.ex.val.n, .str t.ex.val.s, .view 6 (t.ex.args.map EX.av)] from rfl, h]
  rfl
theorem c32 : ∀ t : T, t.wf → t.vals VL.Right → t.simR.wf ∧ t.simR.vals VL.Right ∧ ACalls E.P 32 [t.ex.av] [] (fun r H => r = t.simR.ex.av ∧ H = [])
  | .col n, hw, hv => ⟨hw, hv, c32leaf _ rfl⟩
  | .val v, hw, hv => ⟨hw, hv, c32leaf _ rfl⟩
  | .un op a, hw, hv => by
    obtain ⟨h1, h2, h3⟩ := c32 a hw.2 hv
    obtain ⟨k1, k2⟩ := simpU_ok hw.1 h1 h2
    exact ⟨k1, k2, c32u op a a.simR _ h3 (c73u op a.simR hw.1 h1 h2)⟩
  | .bin op a b, hw, hv => by
    obtain ⟨h1, h2, h3⟩ := c32 a hw.2.1 hv.1
    obtain ⟨g1, g2, g3⟩ := c32 b hw.2.2 hv.2
    obtain ⟨k1, k2⟩ := simpR_ok hw.1 h1 h2 g1 g2
    exact ⟨k1, k2, c32b op a b a.simR b.simR _ h3 g3 (c73b op a.simR b.simR hw.1 h1 h2 g1 g2)⟩
end Go.Proofs.Try
