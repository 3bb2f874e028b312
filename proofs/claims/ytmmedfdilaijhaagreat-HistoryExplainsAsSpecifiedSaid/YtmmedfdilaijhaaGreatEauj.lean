/-
  A part of the proof: see the text of the law.
-/
import Derived.Test.YtmmedfdilaijhaaGreatEaui
import Derived.Test.YtmmedfdilaijhaaGreatAlphaK
set_option linter.unusedSimpArgs false
set_option linter.unusedVariables false
namespace Go.Proofs.Try
open Go.Proofs.Tryz
open Go.Al
set_option maxRecDepth 100000
def mc15 : MC :=
(.seq (.ops [(none,.e (.alloc 6 [(.int .i64 0),(.int .i64 0),(.int .i64 0),(.raw (.slice none 0 0)),(.raw (.slice none 0 0))]))])
(.seq (.ops [(none,.v (.mov 10 (.t 0))),
(none,.v (.build 11 [(.int .i64 0),(.int .i64 0),(.int .i64 0),(.raw (.slice none 0 0)),(.raw (.slice none 0 0))] [(0,1,(.c (.int .i64 1))),(1,1,(.t 10))])),
(none,.e (.alloc 7 [(.int .i64 0),(.int .i64 0),(.int .i64 0),(.raw (.slice none 0 0)),(.raw (.slice none 0 0))])),
(none,.e (.store 5 true (.t 7) (.t 11)))])
(.seq (.seq (.ops [(none,.v (.mov 12 (.t 2))),
(none,.p (.len 13 (.t 12))),
(none,.v (.mov 14 (.c (.int .i64 0))))])
(.block 0 (.loop (.seq (.ops [(none,.v (.bin 15 .lss false (.t 14) (.t 13)))])
(.seq (.cond 15
.skip
(.exit 0))
(.seq (.block 1 (.seq (.ops [(none,.p (.idx 16 1 (.t 12) (.t 14))),
(none,.v (.load 17 false 1 (.t 16))),
(none,.v (.mov 9 (.t 17)))])
(.any true (.pure0 none (.v (.fld 18 3 (.t 7)))
(.pure0 none (.v (.mov 20 (.t 9)))
(.pure0 none (.v (.mov 21 (.t 1)))
(.alt none (.v (.load 19 false 1 (.t 18)))
(.alt none (.e (.call (some 22) 39 [(.t 21)]))
(.pure1 none (.v (.build 23 [(.int .i64 0),(.int .i64 0),(.bool false),(.raw (.slice none 0 0))] [(1,1,(.t 20)),(3,1,(.t 22))]))
(.alt none (.e (.mkl 24 75 4 1 (.agg [(.int .i64 0),(.int .i64 0),(.bool false),(.raw (.slice none 0 0))]) [(0,(.t 23))]))
(.alt none (.e (.app 25 75 4 48 (.t 19) (.t 24)))
(.pure0 none (.v (.fld 26 3 (.t 7)))
(.alt none (.e (.store 1 false (.t 26) (.t 25)))
.done
.stop))
.stop)
.stop))
.stop)
(.alt none (.e (.call (some 22) 39 [(.t 21)]))
(.pure1 none (.v (.build 23 [(.int .i64 0),(.int .i64 0),(.bool false),(.raw (.slice none 0 0))] [(1,1,(.t 20)),(3,1,(.t 22))]))
(.alt none (.v (.load 19 false 1 (.t 18)))
(.alt none (.e (.mkl 24 75 4 1 (.agg [(.int .i64 0),(.int .i64 0),(.bool false),(.raw (.slice none 0 0))]) [(0,(.t 23))]))
(.alt none (.e (.app 25 75 4 48 (.t 19) (.t 24)))
(.pure0 none (.v (.fld 26 3 (.t 7)))
(.alt none (.e (.store 1 false (.t 26) (.t 25)))
.done
.stop))
.stop)
.stop)
(.alt none (.e (.mkl 24 75 4 1 (.agg [(.int .i64 0),(.int .i64 0),(.bool false),(.raw (.slice none 0 0))]) [(0,(.t 23))]))
(.alt none (.v (.load 19 false 1 (.t 18)))
(.alt none (.e (.app 25 75 4 48 (.t 19) (.t 24)))
(.pure0 none (.v (.fld 26 3 (.t 7)))
(.alt none (.e (.store 1 false (.t 26) (.t 25)))
.done
.stop))
.stop)
.stop)
.stop)))
.stop))))))))
(.ops [(none,.v (.bin 27 .add false (.t 14) (.c (.int .i64 1)))),
(none,.v (.mov 14 (.t 27)))])))))))
(.seq (.ops [(none,.v (.load 28 true 5 (.t 7))),
(none,.e (.store 5 true (.t 6) (.t 28)))])
.ret))))
theorem ok15 : FnOk E 15 29 [.cell 6 37] mc15 := .of func15 (by kernel_rfl) (by kernel_rfl) (by kernel_rfl) (by kernel_rfl) (by kernel_rfl)
end Go.Proofs.Try
namespace Go.Proofs.Try
open Go.Proofs.Tryz
open Go.Al
set_option linter.unusedVariables false
set_option linter.unusedSimpArgs false
set_option maxRecDepth 20000
set_option maxHeartbeats 16000000

theorem mem12a : (1 ∈ [1, 2]) = True := by simp
theorem mem12b : (2 ∈ [1, 2]) = True := by simp
def askW (s : ByteArray) (n : Int) : Wr := ⟨0, n, false, textR s⟩
def askH (tx : Int) (s : ByteArray) (rows : List Int) : Hap := ⟨1, tx, 0, rows.map (askW s), []⟩
theorem c15 (tx : Int) (s : ByteArray) (rows : List Int) (hl : rows.length ≤ 1000) : ACalls E.P 15 [.int .i64 tx, .str s, .view 1 (rows.map (AV.int .i64))] [] (fun r H => r = (askH tx s rows).av ∧ H = []) := by
  have hmax := maxLen_eq
  have h55 := c39 s
  have hav : ∀ n, AV.agg [AV.int .i64 0, AV.int .i64 n, AV.bool false, AV.view 3 ((textR s).map VL.av)] = (askW s n).av := fun n => rfl
  generalize htx : (textR s).map VL.av = T at *
  refine ok15.acalls hE hm (by simp) fun N hN => ?_
  unfold mc15
  simp only [lA,ptrCells,ptrAdd,isNil,readsV,readsP,isCall,wrote,srcOf,seval]
  repeat' (first | (with_reducible apply St.o; constructor) <;> intro _ | (with_reducible first | refine LenR_i fun _ => ?_ | refine And.intro (by omega) ?_ | (apply Sp.o; constructor) | refine mkl_own ?_ | refine frz0_i ?_) | simp (maxSteps := 1000000) (disch := omega) only [lE,ptrCells,ptrAdd,isNil,readsV,readsP,isCall,wrote,srcOf,seval])
  refine loop_i (fun i : Nat => i ≤ rows.length) (fun i => ⟨[(1, .str s), (6, .op 0 0), (7, .op 1 0), (12, .view 1 (rows.map (AV.int .i64))), (13, .int .i64 rows.length), (14, .int .i64 i)], [.box [.int .i64 0, .int .i64 0, .int .i64 0, .raw (.slice none 0 0), .raw (.slice none 0 0)], .box [.int .i64 1, .int .i64 tx, .int .i64 0, .slc 2 4 i, .raw (.slice none 0 0)], .arr 75 4 (((rows.take i).map (askW s)).map Wr.av)]⟩) (fun i => rows.length - i) 0 (by omega)
    (Ent.trans (Ent.ghostB 1 3 75 4 (by omega) rfl rfl) (Ent.to [0, 1, 2] false (by simp) (by simp) rfl (by simp only [lP,seval,List.take_zero,List.map_nil,List.length_map] <;> (try simp) <;> (try omega)) (by simp only [lP,seval,List.take_zero,List.map_nil,List.length_map] <;> (try simp) <;> (try omega)))) ?_
  rintro i hi
  by_cases hil : i < rows.length
  · have htk := take_succD hil
    have hlt : (((rows.take i).map (askW s)).map Wr.av).length = i := by simp; omega
    have hnx : ((rows.take i).map (askW s)).map Wr.av ++ [(askW s (rows.getD i 0)).av] = ((rows.take (i + 1)).map (askW s)).map Wr.av := by
      rw [htk, List.map_append, List.map_append]; rfl
    have hg2 : rows.getD i default = rows.getD i 0 := rfl
    generalize hg : rows.getD i 0 = n at *
    rw [← hav] at hnx
    generalize hA : ((rows.take i).map (askW s)).map Wr.av = A at *
    have hvA : ∀ H l b k, (((rows.take (i + 1)).map (askW s)).map Wr.av).map (pa H l b (k + 3)) = ((rows.take (i + 1)).map (askW s)).map Wr.av := fun H l b k => pa_wrs
    generalize hA' : ((rows.take (i + 1)).map (askW s)).map Wr.av = A' at *
    repeat' (first | (with_reducible apply St.o; constructor) <;> intro _ | ((with_reducible refine mkl_view ?_ ?_ ?_); (focus decide); (focus rfl)) | (with_reducible first | refine LenR_i fun _ => ?_ | refine And.intro (by omega) ?_ | (apply Sp.o; constructor) | refine mkl_own ?_ | refine frz0_i ?_) | ((with_reducible apply Sc.o false; constructor); simp only [lP,seval,IdxR_int,hg,hg2,hlt,hnx,mem12a,mem12b,Int.toNat_natCast,List.length_map,fillE,setAll]; refine ⟨_,h55,?_⟩; rintro _ _ ⟨rfl,rfl⟩; simp only [lA,lP,ptrCells,ptrAdd,isNil,readsV,readsP,isCall,wrote,srcOf,seval,IdxR_int,hg,hg2,hlt,hnx,mem12a,mem12b,Int.toNat_natCast,List.length_map,fillE,setAll]) | with_reducible refine any_i [1, 2] ?_ | simp (maxSteps := 1000000) (disch := omega) only [lE,ptrCells,ptrAdd,isNil,readsV,readsP,isCall,wrote,srcOf,seval,IdxR_int,hg,hg2,hlt,hnx,mem12a,mem12b,Int.toNat_natCast,List.length_map,fillE,setAll])
    all_goals try (exfalso; omega)
    all_goals exact back_i (i + 1) (by omega) (by omega) (Ent.to [0, 1, 3] false (by simp) (by simp) rfl (by simp only [lP,seval,hA',hvA] <;> (try simp) <;> (try omega)) (by simp only [lP,seval,hA',hvA] <;> (try simp) <;> (try omega)))
  · have hie : i = rows.length := by omega
    subst hie
    rw [List.take_length]
    repeat' (first | (with_reducible apply St.o; constructor) <;> intro _ | (with_reducible first | refine LenR_i fun _ => ?_ | refine And.intro (by omega) ?_ | (apply Sp.o; constructor) | refine mkl_own ?_ | refine frz0_i ?_) | simp (maxSteps := 1000000) (disch := omega) only [lE,ptrCells,ptrAdd,isNil,readsV,readsP,isCall,wrote,srcOf,seval,ti32,fillE,setAll,List.length_map,Int.lt_irrefl,decide_false])
    refine keepw_i [] true rfl (by simp) rfl (r' := (askH tx s rows).av) ?_ ⟨rfl,by simp only [lP,seval]⟩
    have e : (askH tx s rows).av = .agg [.int .i64 1, .int .i64 tx, .int .i64 0, .view 4 ((rows.map (askW s)).map Wr.av), .view 4 []] := rfl
    rw [e]
    simp only [lP,seval,vw_wrs,List.length_map]
    exact WeakL.agg (.cons (.refl _) (.cons (.refl _) (.cons (.refl _) (.cons (.refl _) (.cons weak_nil (.refl _))))))
end Go.Proofs.Try

