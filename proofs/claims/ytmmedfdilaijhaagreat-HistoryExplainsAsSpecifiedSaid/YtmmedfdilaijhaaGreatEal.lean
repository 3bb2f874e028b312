/-
  A part of the proof: see the text of the law.
-/
import Derived.Test.YtmmedfdilaijhaaGreatEak
import Derived.Test.YtmmedfdilaijhaaGreatAlphaK
set_option linter.unusedSimpArgs false
set_option linter.unusedVariables false
namespace Go.Proofs.Try
open Go.Proofs.Tryz
open Go.Al
set_option maxRecDepth 100000
def mc16 : MC :=
(.seq (.ops [(none,.e (.alloc 4 [(.int .i64 0),(.int .i64 0),(.int .i64 0),(.raw (.slice none 0 0)),(.raw (.slice none 0 0))]))])
(.seq (.ops [(none,.v (.mov 5 (.t 0))),
(none,.v (.mov 6 (.t 0))),
(none,.v (.mov 7 (.t 1))),
(none,.e (.call (some 8) 39 [(.t 7)])),
(none,.v (.build 9 [(.int .i64 0),(.int .i64 0),(.int .i64 0),(.raw (.slice none 0 0))] [(1,1,(.c (.int .i64 1))),(2,1,(.t 6)),(3,1,(.t 8))])),
(none,.e (.mkl 10 77 4 1 (.agg [(.int .i64 0),(.int .i64 0),(.int .i64 0),(.raw (.slice none 0 0))]) [(0,(.t 9))])),
(none,.v (.build 11 [(.int .i64 0),(.int .i64 0),(.int .i64 0),(.raw (.slice none 0 0)),(.raw (.slice none 0 0))] [(0,1,(.c (.int .i64 5))),(2,1,(.t 5)),(4,1,(.t 10))])),
(none,.e (.store 5 true (.t 4) (.t 11)))])
.ret))
theorem ok16 : FnOk E 16 12 [.cell 4 37] mc16 := .of func16 (by kernel_rfl) (by kernel_rfl) (by kernel_rfl) (by kernel_rfl) (by kernel_rfl)
def mc39 : MC :=
(.seq (.ops [(none,.v (.mov 2 (.c (.raw (.slice none 0 0)))))])
(.seq (.ops [(none,.v (.mov 3 (.t 0))),
(none,.v (.build 4 [(.int .i64 0),(.int .i64 0),(.str ⟨#[]⟩)] [(0,1,(.c (.int .i64 2))),(2,1,(.t 3))])),
(none,.e (.mkl 5 97 3 1 (.agg [(.int .i64 0),(.int .i64 0),(.str ⟨#[]⟩)]) [(0,(.t 4))])),
(none,.v (.mov 2 (.t 5)))])
.ret))
theorem ok39 : FnOk E 39 6 [.tmp 2] mc39 := .of func39 (by kernel_rfl) (by kernel_rfl) (by kernel_rfl) (by kernel_rfl) (by kernel_rfl)
end Go.Proofs.Try
namespace Go.Proofs.Try
open Go.Proofs.Tryz
open Go.Al
set_option linter.unusedVariables false
set_option linter.unusedSimpArgs false
set_option maxRecDepth 20000
set_option maxHeartbeats 8000000

theorem ti32 : E.TI 37 = some ⟨.struct [(0, 3), (1, 3), (2, 3), (3, 34), (4, 35)], 5, 72, [.int .i64 0, .int .i64 0, .int .i64 0, .slice none 0 0, .slice none 0 0], true, true, false⟩ := rfl
def textR (s : ByteArray) : List VL := [⟨2, 0, s⟩]
theorem c39 (s : ByteArray) : ACalls E.P 39 [.str s] [] (fun r H => r = .view 3 ((textR s).map VL.av) ∧ H = []) := by
  refine ok39.acalls hE hm (by simp) fun N hN => ?_
  unfold mc39
  simp only [lA,ptrCells,ptrAdd,isNil,readsV,readsP,isCall,wrote,srcOf,seval]
  repeat' (first | (with_reducible apply St.o; constructor) <;> intro _ | ((with_reducible refine mkl_view ?_ ?_ ?_); (focus decide); (focus rfl)) | (with_reducible first | refine LenR_i fun _ => ?_ | refine And.intro (by omega) ?_ | (apply Sp.o; constructor) | refine mkl_own ?_ | refine frz0_i ?_) | simp (maxSteps := 1000000) (disch := omega) only [lE,ptrCells,ptrAdd,isNil,readsV,readsP,isCall,wrote,srcOf,seval,fillE,setAll])
  all_goals exact keep0_i ⟨rfl, rfl⟩
def seeH (n : Int) (s : ByteArray) : Hap := ⟨5, 0, n, [], [⟨0, 1, n, textR s⟩]⟩
theorem see_av (n : Int) (s : ByteArray) : (seeH n s).av = .agg [.int .i64 5, .int .i64 0, .int .i64 n, .view 4 [], .view 4 [.agg [.int .i64 0, .int .i64 1, .int .i64 n, .view 3 ((textR s).map VL.av)]]] := rfl
theorem c16 (n : Int) (s : ByteArray) : ACalls E.P 16 [.int .i64 n, .str s] [] (fun r H => r = (seeH n s).av ∧ H = []) := by
  have h55 := c39 s
  rw [see_av]
  generalize textR s = t at *
  refine ok16.acalls hE hm (by simp) fun N hN => ?_
  unfold mc16
  simp only [lA,ptrCells,ptrAdd,isNil,readsV,readsP,isCall,wrote,srcOf,seval]
  repeat' (first | (with_reducible apply St.o; constructor) <;> intro _ | ((with_reducible refine mkl_view ?_ ?_ ?_); (focus decide); (focus rfl)) | (with_reducible first | refine LenR_i fun _ => ?_ | refine And.intro (by omega) ?_ | (apply Sp.o; constructor) | refine mkl_own ?_ | refine frz0_i ?_) | ((with_reducible apply Sc.o false; constructor); simp only [lP,seval,ti32,fillE,setAll]; refine ⟨_,h55,?_⟩; rintro _ _ ⟨rfl,rfl⟩; simp only [lA,lP,ptrCells,ptrAdd,isNil,readsV,readsP,isCall,wrote,srcOf,seval,ti32,fillE,setAll]) | simp (maxSteps := 1000000) (disch := omega) only [lE,ptrCells,ptrAdd,isNil,readsV,readsP,isCall,wrote,srcOf,seval,ti32,fillE,setAll])
  all_goals
    refine keepw_i [] true rfl (by simp) rfl (r' := .agg [.int .i64 5, .int .i64 0, .int .i64 n, .view 4 [], .view 4 [.agg [.int .i64 0, .int .i64 1, .int .i64 n, .view 3 (t.map VL.av)]]]) ?_ ⟨rfl, rfl⟩
    simp only [lP,seval,pa_vls]
    exact WeakL.agg (.cons (.refl _) (.cons (.refl _) (.cons (.refl _) (.cons weak_nil (.refl _)))))
end Go.Proofs.Try


namespace Go.Proofs.Try
open Go.Proofs.Tryz
open Go.Al
set_option maxRecDepth 100000
def mc27 : MC :=
(.seq (.ops [(none,.v (.mov 2 (.c (.raw (.slice none 0 0)))))])
(.seq (.seq (.ops [(none,.v (.mov 3 (.t 0))),
(none,.v (.eq 4 false .slc (.t 3) (.c (.raw (.slice none 0 0)))))])
(.cond 4
(.seq (.ops [(none,.v (.mov 2 (.c (.raw (.slice none 0 0)))))])
.ret)
.skip))
(.seq (.ops [(none,.e (.mkl 5 3 1 0 (.int .i64 0) [])),
(none,.v (.mov 6 (.t 0))),
(none,.e (.app 7 3 1 8 (.t 5) (.t 6))),
(none,.v (.mov 2 (.t 7)))])
.ret)))
theorem ok27 : FnOk E 27 8 [.tmp 2] mc27 := .of func27 (by kernel_rfl) (by kernel_rfl) (by kernel_rfl) (by kernel_rfl) (by kernel_rfl)
end Go.Proofs.Try
namespace Go.Proofs.Try
open Go.Proofs.Tryz
open Go.Al
set_option linter.unusedVariables false
set_option linter.unusedSimpArgs false
set_option maxRecDepth 20000
set_option maxHeartbeats 8000000

theorem c27 (v : Int) (l : List Int) (h60 : l.length ≤ 1048576) : ACalls E.P 27 [.view 1 ((v :: l).map (AV.int .i64))] [] (fun r H => r = .slc 0 1 (l.length + 1) ∧ H = [.arr 3 1 ((v :: l).map (AV.int .i64))]) := by
  have hmax := maxLen_eq
  refine ok27.acalls hE hm (by simp) fun N hN => ?_
  unfold mc27
  simp only [lA,ptrCells,ptrAdd,isNil,readsV,readsP,isCall,wrote,srcOf,seval,List.map_cons]
  repeat' (first | (with_reducible apply St.o; constructor) <;> intro _ | (with_reducible first | refine LenR_i fun _ => ?_ | refine And.intro (by omega) ?_ | (apply Sp.o; constructor) | refine mkl_own ?_ | refine frz0_i ?_) | simp (maxSteps := 1000000) (disch := omega) only [lE,ptrCells,ptrAdd,isNil,readsV,readsP,isCall,wrote,srcOf,seval,List.length_map,List.length_cons])
  exact keep_i [1] false (by simp) (by simp) rfl ⟨by simp only [lP,seval],by simp only [lP,seval,List.map_cons]⟩
theorem c27n : ACalls E.P 27 [.view 1 []] [] (fun r H => (r = .raw (.slice none 0 0) ∧ H = []) ∨ (r = .slc 0 1 0 ∧ H = [.arr 3 1 []])) := by
  refine ACalls.view0 fun a c => ?_
  refine ok27.acalls hE hm (by simp) fun N hN => ?_
  unfold mc27
  simp only [lA,ptrCells,ptrAdd,isNil,readsV,readsP,isCall,wrote,srcOf,seval]
  cases a with
  | none =>
    repeat' (first | (with_reducible apply St.o; constructor) <;> intro _ | (with_reducible first | refine LenR_i fun _ => ?_ | refine And.intro (by omega) ?_ | (apply Sp.o; constructor) | refine mkl_own ?_ | refine frz0_i ?_) | simp (maxSteps := 1000000) (disch := omega) only [lE,ptrCells,ptrAdd,isNil,readsV,readsP,isCall,wrote,srcOf,seval,slcNil,isEmptySlice,Option.isNone_none])
    all_goals try (rename_i h; simp at h; done)
    exact keep_i [] false rfl (by simp) rfl (.inl ⟨by simp only [lP,seval],by simp only [lP,seval]⟩)
  | some b =>
    repeat' (first | (with_reducible apply St.o; constructor) <;> intro _ | (with_reducible first | refine LenR_i fun _ => ?_ | refine And.intro (by omega) ?_ | (apply Sp.o; constructor) | refine mkl_own ?_ | refine frz0_i ?_) | simp (maxSteps := 1000000) (disch := omega) only [lE,ptrCells,ptrAdd,isNil,readsV,readsP,isCall,wrote,srcOf,seval,slcNil,isEmptySlice,Option.isNone_some])
    all_goals try (rename_i h; simp at h; done)
    exact keep_i [1] false (by simp) (by simp) rfl (.inr ⟨by simp only [lP,seval],by simp only [lP,seval,List.map_nil]⟩)
theorem c27a (l : List Int) (h60 : l.length ≤ 1048576) : ACalls E.P 27 [.view 1 (l.map (AV.int .i64))] [] (fun r H => r = .slc 0 1 l.length ∧ H = [.arr 3 1 (l.map (AV.int .i64))]) := by
  cases l with
  | nil => exact ACalls.ghost 3 1 (by omega) (c27n.mono fun r H h => by
      rcases h with ⟨rfl, rfl⟩ | ⟨rfl, rfl⟩
      · exact .inl ⟨rfl, rfl, rfl⟩
      · exact .inr ⟨rfl, rfl⟩)
  | cons v l => exact c27 v l (by simp only [List.length_cons] at h60; omega)
end Go.Proofs.Try

