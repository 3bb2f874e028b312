/-
  A part of the proof: see the text of the law.
-/
import Derived.Test.YtlokeliagcaepaaEaub
set_option linter.unusedSimpArgs false
set_option linter.unusedVariables false
namespace Go.Proofs.Try
open Go.Al
set_option maxRecDepth 100000
/-- alum/alumlaw39.rows -/
def mc35 : MC :=
 (.seq (.ops [(none, (.v (.mov 2 (.c (.raw (.slice none 0 0))))))])
 (.seq (.ops [(none, (.v (.mov 3 (.c (.raw (.slice none 0 0))))))])
 (.seq (.seq (.ops [(none, (.v (.mov 4 (.c (.int .i64 0)))))])
 (.block 0 (.loop (.seq (.seq (.ops [(none, (.v (.mov 5 (.t 4)))),
 (none, (.v (.mov 6 (.t 0)))),
 (none, (.p (.len 7 (.t 6)))),
 (none, (.v (.bin 8 .lss false (.t 5) (.t 7))))])
 (.cond 8
 .skip
 (.exit 0)))
 (.seq (.block 1 (.ops [(none, (.v (.mov 11 (.t 3)))),
 (none, (.v (.mov 12 (.t 0)))),
 (none, (.v (.mov 13 (.t 4)))),
 (none, (.p (.idx 14 1 (.t 12) (.t 13)))),
 (none, (.v (.load 15 false 1 (.t 14)))),
 (none, (.e (.call (some 16) 36 [(.t 15)]))),
 (none, (.e (.mkl 17 40 3 1 (.agg [(.int .i64 0), (.int .i64 0), (.str ⟨#[]⟩)]) [(0, (.t 16))]))),
 (none, (.e (.mkl 18 64 1 1 (.raw (.slice none 0 0)) [(0, (.t 17))]))),
 (none, (.e (.app 19 64 1 24 (.t 11) (.t 18)))),
 (none, (.v (.mov 3 (.t 19))))]))
 (.ops [(none, (.v (.mov 9 (.t 4)))),
 (none, (.v (.bin 10 .add false (.t 9) (.c (.int .i64 1))))),
 (none, (.v (.mov 4 (.t 10))))]))))))
 (.seq (.ops [(none, (.v (.mov 20 (.t 3)))),
 (none, (.v (.mov 2 (.t 20))))])
 .ret))))
theorem ok35 : FnOk E 35 21 [.tmp 2] mc35 := .of func35 (by kernel_rfl) (by kernel_rfl) (by kernel_rfl) (by kernel_rfl) (by kernel_rfl)
/-- alum/alumlaw39.num -/
def mc36 : MC :=
 (.seq (.ops [(none, (.e (.alloc 2 [(.int .i64 0), (.int .i64 0), (.str ⟨#[]⟩)])))])
 (.seq (.ops [(none, (.v (.mov 3 (.t 0)))),
 (none, (.v (.build 4 [(.int .i64 0), (.int .i64 0), (.str ⟨#[]⟩)] [(0, 1, (.c (.int .i64 1))), (1, 1, (.t 3))]))),
 (none, (.e (.store 3 true (.t 2) (.t 4))))])
 .ret))
theorem ok36 : FnOk E 36 5 [.cell 2 40] mc36 := .of func36 (by kernel_rfl) (by kernel_rfl) (by kernel_rfl) (by kernel_rfl) (by kernel_rfl)
end Go.Proofs.Try
namespace Go.Proofs.Try
open Go.Al
set_option linter.unusedVariables false
set_option linter.unusedSimpArgs false
set_option maxRecDepth 20000
set_option maxHeartbeats 16000000

def numV (n : Int) : VL := ⟨1, n, ⟨#[]⟩⟩
theorem ti40 : E.TI 40 = some ⟨.struct [(0, 3), (1, 3), (2, 9)], 3, 32, [.int .i64 0, .int .i64 0, .string ByteArray.empty], true, true, true⟩ := rfl
theorem c36 (n : Int) : ACalls E.P 36 [.int .i64 n] [] (fun r H => r = (numV n).av ∧ H = []) := by
  have hmax := maxLen_eq
  refine ok36.acalls hE hm (by simp) fun N hN => ?_
  unfold mc36
  simp only [lA, ptrCells, ptrAdd, isNil, readsV, readsP, isCall, wrote, srcOf, seval]
  repeat' (first
   | (with_reducible apply St.o; constructor) <;> intro _
   | with_reducible first | refine LenR_i fun _ => ?_ | refine And.intro (by omega) ?_ | (apply Sp.o; constructor) | refine mkl_own ?_ | refine frz0_i ?_
   | ((with_reducible refine keep0_i ?_); simp only [lP, seval])
   | simp (maxSteps := 1000000) (disch := omega) only [lE, ptrCells, ptrAdd, isNil, readsV, readsP, isCall, wrote, srcOf, seval, ti40, numV, vl_av])
theorem pa_row {H : List AObj} {l : List Nat} {bor : Bool} {n : Nat} (v : List VL) : pa H l bor (n + 2) (rowV v) = rowV v := by
  simp only [rowV, lP, seval, pa_vls]
theorem pa_rows {H : List AObj} {l : List Nat} {bor : Bool} {n : Nat} {xs : List (List VL)} : (xs.map rowV).map (pa H l bor (n + 2)) = xs.map rowV := map_same pa_row xs
def rowsV (l : List Int) : List (List VL) := l.map fun n => [numV n]
theorem IdxR_int {P : Program} {m : Nat} {N : FN} {xs : List Int} {n : Int} {d : Nat} {c : Kn} (h0 : 0 ≤ n) (h1 : n < xs.length) : IdxR P m N (xs.map (AV.int .i64)) n d c = rK P m N c d (.vp [.int .i64 (xs.getD n.toNat default)]) :=
  IdxR_map (cs := fun r => [.int .i64 r]) (fun _ => rfl) h0 h1
theorem rowV1 (x : Int) : rowV [numV x] = .view 3 [.agg [.int .i64 1, .int .i64 x, .str ⟨#[]⟩]] := rfl
theorem c35 (l : List Int) (hl : l.length ≤ 1000) : ACalls E.P 35 [.view 1 (l.map (AV.int .i64))] [] (fun r H => r = .slc 0 1 l.length ∧ H = [.arr 64 1 ((rowsV l).map rowV)]) := by
  have hmax := maxLen_eq
  have h36 : ∀ n, ACalls E.P 36 [.int .i64 n] [] (fun r H => r = (numV n).av ∧ H = []) := c36
  refine ok35.acalls hE hm (by simp) fun N hN => ?_
  unfold mc35
  simp only [lA, ptrCells, ptrAdd, isNil, readsV, readsP, isCall, wrote, srcOf, seval]
  refine loop_i (fun i : Nat => i ≤ l.length) (fun i => ⟨[(0, .view 1 (l.map (AV.int .i64))), (3, .slc 0 1 i), (4, .int .i64 i)], [.arr 64 1 ((rowsV (l.take i)).map rowV)]⟩) (fun i => l.length - i) 0 (by omega)
    (Ent.ghost' 3 64 1 (by omega) rfl (Ent.to [0] false (by simp) (by simp) rfl (by simp only [lP, seval, List.length_map, rowsV, List.take_zero, List.map_nil, List.length_nil] <;> (try simp) <;> (try omega)) (by simp only [lP, seval, List.length_map, rowsV, List.take_zero, List.map_nil, List.length_nil] <;> (try simp) <;> (try omega)))) ?_
  rintro i hi
  by_cases hil : i < l.length
  · have hnx : rowsV (l.take (i + 1)) = rowsV (l.take i) ++ [[numV (l.getD i 0)]] := by
      rw [take_succD hil, rowsV, List.map_append]
      rfl
    have hlen : (rowsV (l.take i)).length = i := by simp [rowsV]; omega
    generalize rowsV (l.take i) = q at *
    generalize hx : l.getD i 0 = x at *
    repeat' (first
     | (with_reducible apply St.o; constructor) <;> intro _
     | with_reducible first | refine LenR_i fun _ => ?_ | refine And.intro (by omega) ?_ | (apply Sp.o; constructor) | refine mkl_own ?_ | refine frz0_i ?_
     | ((with_reducible apply Sc.o true; constructor); simp only [lP, seval, numV, vl_av, IdxR_int, Int.toNat_natCast, List.length_map, List.length_cons, List.length_nil, fillE, hx]; refine ⟨_, h36 x, ?_⟩; rintro _ _ ⟨rfl, rfl⟩; simp only [lA, lP, ptrCells, ptrAdd, isNil, readsV, readsP, isCall, wrote, srcOf, seval, numV, vl_av, IdxR_int, Int.toNat_natCast, List.length_map, List.length_cons, List.length_nil, fillE, hx])
     | simp (maxSteps := 1000000) (disch := omega) only [lE, ptrCells, ptrAdd, isNil, readsV, readsP, isCall, wrote, srcOf, seval, numV, vl_av, IdxR_int, Int.toNat_natCast, List.length_map, List.length_cons, List.length_nil, fillE, hx])
    · exact back_i (i + 1) (by omega) (by omega) (Ent.to [3] true (by simp) (by simp) rfl (by simp only [lP, seval, hnx, hlen, List.map_append, List.map_cons, List.map_nil, List.length_append, List.length_cons, List.length_nil, pa_rows, rowV1] <;> (try simp) <;> (try omega)) (by simp only [lP, seval, hnx, hlen, List.map_append, List.map_cons, List.map_nil, List.length_append, List.length_cons, List.length_nil, pa_rows, rowV1] <;> (try simp) <;> (try omega)))
    · omega
  · have hie : i = l.length := by omega
    rw [hie, List.take_length]
    repeat' (first
     | (with_reducible apply St.o; constructor) <;> intro _
     | with_reducible first | refine LenR_i fun _ => ?_ | refine And.intro (by omega) ?_ | (apply Sp.o; constructor) | refine mkl_own ?_ | refine frz0_i ?_
     | simp (maxSteps := 1000000) (disch := omega) only [lE, ptrCells, ptrAdd, isNil, readsV, readsP, isCall, wrote, srcOf, seval, List.length_map, Int.lt_irrefl, decide_false])
    exact keep_i [0] false (by simp) (by simp) rfl ⟨by simp only [lP, seval], by simp only [lP, seval, pa_rows]⟩
end Go.Proofs.Try
