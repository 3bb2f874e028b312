/-
  A part of the proof: see the text of the law.
-/
import Derived.Test.YtmmedfdilaijhaaGreatEac
set_option linter.unusedSimpArgs false
set_option linter.unusedVariables false
namespace Go.Proofs.Try
open Go.Proofs.Tryz
open Go.Al
set_option maxRecDepth 100000
def mc9 : MC :=
(.seq (.ops [(none,.v (.mov 4 (.c (.bool false))))])
(.seq (.seq (.ops [(none,.v (.mov 6 (.t 0))),
(none,.p (.len 7 (.t 6))),
(none,.v (.mov 8 (.t 1))),
(none,.p (.len 9 (.t 8))),
(none,.v (.bin 10 .neq false (.t 7) (.t 9)))])
(.cond 10
(.seq (.ops [(none,.v (.mov 4 (.c (.bool false))))])
.ret)
.skip))
(.seq (.seq (.ops [(none,.v (.mov 5 (.c (.int .i64 0))))])
(.block 0 (.loop (.seq (.seq (.ops [(none,.v (.mov 11 (.t 5))),
(none,.v (.mov 12 (.t 0))),
(none,.p (.len 13 (.t 12))),
(none,.v (.bin 14 .lss false (.t 11) (.t 13)))])
(.cond 14
.skip
(.exit 0)))
(.seq (.block 1 (.seq (.any false (.pure0 none (.v (.mov 17 (.t 0)))
(.pure0 none (.v (.mov 18 (.t 5)))
(.pure0 none (.p (.idx 19 1 (.t 17) (.t 18)))
(.pure0 none (.v (.load 20 false 1 (.t 19)))
(.pure0 none (.v (.mov 21 (.t 1)))
(.pure0 none (.v (.mov 22 (.t 5)))
(.pure0 none (.p (.idx 23 1 (.t 21) (.t 22)))
(.pure0 none (.v (.load 24 false 1 (.t 23)))
(.pure0 none (.v (.bin 25 .neq false (.t 20) (.t 24)))
.done))))))))))
(.cond 25
(.seq (.ops [(none,.v (.mov 4 (.c (.bool false))))])
.ret)
.skip)))
(.ops [(none,.v (.mov 15 (.t 5))),
(none,.v (.bin 16 .add false (.t 15) (.c (.int .i64 1)))),
(none,.v (.mov 5 (.t 16)))]))))))
(.seq (.ops [(none,.v (.mov 4 (.c (.bool true))))])
.ret))))
theorem ok9 : FnOk E 9 26 [.tmp 4] mc9 := .of func9 (by kernel_rfl) (by kernel_rfl) (by kernel_rfl) (by kernel_rfl) (by kernel_rfl)
def mc26 : MC :=
(.seq (.ops [(none,.v (.mov 4 (.c (.bool false))))])
(.seq (.ops [(none,.v (.mov 5 (.t 0))),
(none,.v (.mov 6 (.t 1))),
(none,.e (.call (some 7) 53 [(.t 5),(.t 6),(.c (.fn (.func 54) [] []))])),
(none,.v (.mov 4 (.t 7)))])
.ret))
theorem ok26 : FnOk E 26 8 [.tmp 4] mc26 := .of func26 (by kernel_rfl) (by kernel_rfl) (by kernel_rfl) (by kernel_rfl) (by kernel_rfl)
def mc33 : MC :=
(.seq (.ops [(none,.v (.mov 4 (.c (.int .i64 0))))])
(.seq (.seq (.ops [(none,.v (.mov 7 (.t 0))),
(none,.v (.mov 8 (.t 1))),
(none,.p (.cut 9 5 (.t 7) (.t 8) none)),
(none,.p (.len 10 (.t 9))),
(none,.v (.mov 11 (.c (.int .i64 0))))])
(.block 0 (.loop (.seq (.ops [(none,.v (.bin 12 .lss false (.t 11) (.t 10)))])
(.seq (.cond 12
.skip
(.exit 0))
(.seq (.block 1 (.seq (.ops [(none,.p (.idx 13 5 (.t 9) (.t 11))),
(none,.v (.load 14 true 5 (.t 13))),
(none,.e (.alloc 6 [(.int .i64 0),(.int .i64 0),(.int .i64 0),(.raw (.slice none 0 0)),(.raw (.slice none 0 0))])),
(none,.e (.store 5 true (.t 6) (.t 14)))])
(.seq (.ops [(none,.v (.fld 15 0 (.t 6))),
(none,.v (.load 16 false 1 (.t 15))),
(none,.v (.bin 17 .eql false (.t 16) (.c (.int .i64 5))))])
(.cond 17
(.seq (.ops [(none,.v (.fld 18 2 (.t 6))),
(none,.v (.load 19 false 1 (.t 18))),
(none,.v (.mov 4 (.t 19)))])
.ret)
.skip))))
(.ops [(none,.v (.bin 20 .add false (.t 11) (.c (.int .i64 1)))),
(none,.v (.mov 11 (.t 20)))])))))))
(.seq (.ops [(none,.v (.mov 4 (.c (.int .i64 1073741825))))])
.ret)))
theorem ok33 : FnOk E 33 21 [.tmp 4] mc33 := .of func33 (by kernel_rfl) (by kernel_rfl) (by kernel_rfl) (by kernel_rfl) (by kernel_rfl)
def mc53 : MC :=
(.seq (.ops [(none,.v (.mov 6 (.c (.bool false))))])
(.seq (.seq (.ops [(none,.v (.mov 10 (.t 0))),
(none,.p (.len 11 (.t 10))),
(none,.v (.mov 12 (.t 1))),
(none,.p (.len 13 (.t 12))),
(none,.v (.bin 14 .neq false (.t 11) (.t 13)))])
(.cond 14
(.seq (.ops [(none,.v (.mov 6 (.c (.bool false))))])
.ret)
.skip))
(.seq (.seq (.ops [(none,.v (.mov 15 (.t 0))),
(none,.p (.len 16 (.t 15))),
(none,.v (.mov 17 (.c (.int .i64 0))))])
(.block 0 (.loop (.seq (.ops [(none,.v (.bin 18 .lss false (.t 17) (.t 16)))])
(.seq (.cond 18
.skip
(.exit 0))
(.seq (.block 1 (.seq (.ops [(none,.v (.mov 19 (.t 17))),
(none,.p (.idx 20 4 (.t 15) (.t 17))),
(none,.v (.load 21 true 4 (.t 20))),
(none,.e (.alloc 8 [(.int .i64 0),(.int .i64 0),(.int .i64 0),(.raw (.slice none 0 0))])),
(none,.v (.mov 7 (.t 19))),
(none,.e (.store 4 true (.t 8) (.t 21)))])
(.seq (.ops [(none,.v (.mov 22 (.t 1))),
(none,.v (.mov 23 (.t 7))),
(none,.p (.idx 24 4 (.t 22) (.t 23))),
(none,.v (.load 25 true 4 (.t 24))),
(none,.e (.alloc 9 [(.int .i64 0),(.int .i64 0),(.int .i64 0),(.raw (.slice none 0 0))])),
(none,.e (.store 4 true (.t 9) (.t 25)))])
(.seq (.ops [(none,.v (.mov 26 (.t 2))),
(none,.v (.load 27 true 4 (.t 8))),
(none,.v (.load 28 true 4 (.t 9))),
(none,.e (.callv (some 29) (.t 26) [(.t 27),(.t 28)])),
(none,.v (.not 30 (.t 29)))])
(.cond 30
(.seq (.ops [(none,.v (.mov 6 (.c (.bool false))))])
.ret)
.skip)))))
(.ops [(none,.v (.bin 31 .add false (.t 17) (.c (.int .i64 1)))),
(none,.v (.mov 17 (.t 31)))])))))))
(.seq (.ops [(none,.v (.mov 6 (.c (.bool true))))])
.ret))))
theorem ok53 : FnOk E 53 32 [.tmp 6] mc53 := .of func53 (by kernel_rfl) (by kernel_rfl) (by kernel_rfl) (by kernel_rfl) (by kernel_rfl)
def mc54 : MC :=
(.seq (.ops [(none,.e (.box 2 (.t 0))),
(none,.e (.box 3 (.t 1))),
(none,.v (.mov 4 (.c (.bool false))))])
(.seq (.ops [(none,.v (.load 5 true 4 (.t 2))),
(none,.v (.load 6 true 4 (.t 3))),
(none,.e (.call (some 7) 46 [(.t 5),(.t 6)])),
(none,.v (.bin 8 .eql false (.t 7) (.c (.int .i64 0)))),
(none,.v (.mov 9 (.t 8))),
(some (9,true),.v (.fld 10 2 (.t 2))),
(some (9,true),.v (.load 11 false 1 (.t 10))),
(some (9,true),.v (.fld 12 2 (.t 3))),
(some (9,true),.v (.load 13 false 1 (.t 12))),
(some (9,true),.v (.bin 14 .eql false (.t 11) (.t 13))),
(none,.v (.pick 15 (.t 9) (.t 14) (.c (.bool false)))),
(none,.v (.mov 16 (.t 15))),
(some (16,true),.v (.fld 17 3 (.t 2))),
(some (16,true),.v (.load 18 false 1 (.t 17))),
(some (16,true),.v (.fld 19 3 (.t 3))),
(some (16,true),.v (.load 20 false 1 (.t 19))),
(some (16,true),.e (.call (some 21) 55 [(.t 18),(.t 20)])),
(none,.v (.pick 22 (.t 16) (.t 21) (.c (.bool false)))),
(none,.v (.mov 4 (.t 22)))])
.ret))
theorem ok54 : FnOk E 54 23 [.tmp 4] mc54 := .of func54 (by kernel_rfl) (by kernel_rfl) (by kernel_rfl) (by kernel_rfl) (by kernel_rfl)
def mc55 : MC :=
(.seq (.ops [(none,.v (.mov 4 (.c (.bool false))))])
(.seq (.seq (.ops [(none,.v (.mov 6 (.t 0))),
(none,.p (.len 7 (.t 6))),
(none,.v (.mov 8 (.t 1))),
(none,.p (.len 9 (.t 8))),
(none,.v (.bin 10 .neq false (.t 7) (.t 9)))])
(.cond 10
(.seq (.ops [(none,.v (.mov 4 (.c (.bool false))))])
.ret)
.skip))
(.seq (.seq (.ops [(none,.v (.mov 11 (.t 0))),
(none,.p (.len 12 (.t 11))),
(none,.v (.mov 13 (.c (.int .i64 0))))])
(.block 0 (.loop (.seq (.ops [(none,.v (.bin 14 .lss false (.t 13) (.t 12)))])
(.seq (.cond 14
.skip
(.exit 0))
(.seq (.block 1 (.seq (.ops [(none,.v (.mov 15 (.t 13))),
(none,.v (.mov 5 (.t 15)))])
(.seq (.any false (.pure0 none (.v (.mov 16 (.t 0)))
(.pure0 none (.v (.mov 17 (.t 5)))
(.pure0 none (.p (.idx 18 3 (.t 16) (.t 17)))
(.pure0 none (.v (.load 19 true 3 (.t 18)))
(.pure0 none (.v (.mov 20 (.t 1)))
(.pure0 none (.v (.mov 21 (.t 5)))
(.pure0 none (.p (.idx 22 3 (.t 20) (.t 21)))
(.pure0 none (.v (.load 23 true 3 (.t 22)))
(.pure0 none (.v (.eq 24 true (.agg [(0,false,1,.int),(1,false,1,.int),(2,false,1,.str)]) (.t 19) (.t 23)))
.done))))))))))
(.cond 24
(.seq (.ops [(none,.v (.mov 4 (.c (.bool false))))])
.ret)
.skip))))
(.ops [(none,.v (.bin 25 .add false (.t 13) (.c (.int .i64 1)))),
(none,.v (.mov 13 (.t 25)))])))))))
(.seq (.ops [(none,.v (.mov 4 (.c (.bool true))))])
.ret))))
theorem ok55 : FnOk E 55 26 [.tmp 4] mc55 := .of func55 (by kernel_rfl) (by kernel_rfl) (by kernel_rfl) (by kernel_rfl) (by kernel_rfl)
end Go.Proofs.Try
namespace Go.Proofs.Try
open Go.Proofs.Tryz
open Go.Al
set_option linter.unusedVariables false
set_option linter.unusedSimpArgs false
set_option maxRecDepth 20000
set_option maxHeartbeats 8000000

theorem c33 (h : List Hap) (at' : Nat) (hat : at' ≤ h.length) : ACalls E.P 33 [.view 5 (h.map Hap.av), .int .i64 at'] [] (fun r H => r = .int .i64 (nextS (h.drop at')) ∧ H = []) := by
  have hmax := maxLen_eq
  have hmd : ∀ i, (h.map Hap.av).drop i = (h.drop i).map Hap.av := fun i => List.map_drop.symm
  refine ok33.acalls hE hm (by simp) fun N hN => ?_
  unfold mc33
  simp only [lA,ptrCells,ptrAdd,isNil,readsV,readsP,isCall,wrote,srcOf,seval]
  generalize hg : h.drop at' = g at *
  have hgl : g.length = h.length - at' := by rw [← hg, List.length_drop]
  have hge : (h.map Hap.av).drop at' = g.map Hap.av := by rw [hmd, hg]
  repeat' (first | (with_reducible apply St.o; constructor) <;> intro _ | (with_reducible first | refine LenR_i fun _ => ?_ | refine And.intro (by omega) ?_ | (apply Sp.o; constructor) | refine mkl_own ?_ | refine frz0_i ?_) | simp (maxSteps := 1000000) (disch := omega) only [lE,ptrCells,ptrAdd,isNil,readsV,readsP,isCall,wrote,srcOf,seval,List.length_map,hge,Int.toNat_natCast])
  all_goals try (exfalso; omega)
  refine loop_i (fun i : Nat => i ≤ g.length ∧ ∀ x ∈ g.take i,decide (x.k = 5) = false) (fun i => ⟨[(9, .view 5 (g.map Hap.av)),(10, .int .i64 g.length),(11, .int .i64 i)], []⟩) (fun i => g.length - i) 0 ⟨by omega,by simp⟩ (Ent.to [] false (by simp) (by simp) rfl (by simp only [lP,seval,hgl] <;> (try simp) <;> (try omega)) (by simp only [lP,seval,hgl] <;> (try simp) <;> (try omega))) ?_
  rintro i ⟨hi, hn⟩
  by_cases hil : i < g.length
  · have hyes : (g.getD i default).k = 5 → nextS g = (g.getD i default).st := fun hk => by
      unfold nextS
      rw [find_at hil (by simpa using hk) hn]
    have hno : ¬ (g.getD i default).k = 5 → ∀ x ∈ g.take (i + 1), decide (x.k = 5) = false := fun hk => all_step hil hn (by simpa using hk)
    generalize hx : g.getD i default = x at *
    repeat' (first | (with_reducible apply St.o; constructor) <;> intro _ | (with_reducible first | refine LenR_i fun _ => ?_ | refine And.intro (by omega) ?_ | (apply Sp.o; constructor) | refine mkl_own ?_ | refine frz0_i ?_) | simp (maxSteps := 1000000) (disch := omega) only [lE,ptrCells,ptrAdd,isNil,readsV,readsP,isCall,wrote,srcOf,seval,IdxR_haps,hx,Int.toNat_natCast,List.length_map,fillE,List.length_cons,List.length_nil])
    all_goals try (exfalso; omega)
    · rename_i hk
      exact keep_n (hyes hk).symm
    · rename_i hk
      exact back_i (i + 1) ⟨by omega,hno hk⟩ (by omega) (Ent.to [] false (by simp) (by simp) rfl (by simp only [lP,seval] <;> (try simp) <;> (try omega)) (by simp only [lP,seval] <;> (try simp) <;> (try omega)))
  · have hie : i = g.length := by omega
    subst hie
    rw [List.take_length] at hn
    have : nextS g = 1073741825 := by
      unfold nextS
      rw [List.find?_eq_none.2 fun x hx => by simpa using hn x hx]
    repeat' (first | (with_reducible apply St.o; constructor) <;> intro _ | (with_reducible first | refine LenR_i fun _ => ?_ | refine And.intro (by omega) ?_ | (apply Sp.o; constructor) | refine mkl_own ?_ | refine frz0_i ?_) | simp (maxSteps := 1000000) (disch := omega) only [lE,ptrCells,ptrAdd,isNil,readsV,readsP,isCall,wrote,srcOf,seval,List.length_map,Int.lt_irrefl,decide_false])
    exact keep_n this.symm
theorem c9 (a b : List Int) : ACalls E.P 9 [.view 1 (a.map (AV.int .i64)), .view 1 (b.map (AV.int .i64))] [] (fun r H => r = .bool (decide (a = b)) ∧ H = []) := by
  have hmax := maxLen_eq
  refine ok9.acalls hE hm (by simp) fun N hN => ?_
  unfold mc9
  simp only [lA,ptrCells,ptrAdd,isNil,readsV,readsP,isCall,wrote,srcOf,seval]
  repeat' (first | (with_reducible apply St.o; constructor) <;> intro _ | (with_reducible first | refine LenR_i fun _ => ?_ | refine And.intro (by omega) ?_ | (apply Sp.o; constructor) | refine mkl_own ?_ | refine frz0_i ?_) | simp (maxSteps := 1000000) (disch := omega) only [lE,ptrCells,ptrAdd,isNil,readsV,readsP,isCall,wrote,srcOf,seval,List.length_map])
  · rename_i he
    refine keep_b (decide_eq_false ?_).symm
    rintro rfl
    exact he rfl
  · rename_i he
    have he2 : a.length = b.length := by omega
    refine loop_i (fun i : Nat => i ≤ a.length ∧ a.take i = b.take i) (fun i => ⟨[(0, .view 1 (a.map (AV.int .i64))),(1, .view 1 (b.map (AV.int .i64))),(5, .int .i64 i)], []⟩) (fun i => a.length - i) 0 ⟨by omega,by simp⟩ (Ent.to [] false (by simp) (by simp) rfl (by simp only [lP,seval] <;> (try simp) <;> (try omega)) (by simp only [lP,seval] <;> (try simp) <;> (try omega))) ?_
    rintro i ⟨hi, ha⟩
    by_cases hil : i < a.length
    · have hyes : a.getD i 0 = b.getD i 0 → a.take (i + 1) = b.take (i + 1) := fun q => take_next he2 hil ha q
      have hno : a.getD i 0 ≠ b.getD i 0 → a ≠ b := fun q => ne_at q
      generalize hx : a.getD i 0 = x at *
      generalize hy : b.getD i 0 = y at *
      have hx0 : a.getD i default = x := hx
      have hy0 : b.getD i default = y := hy
      repeat' (first | (with_reducible apply St.o; constructor) <;> intro _ | (with_reducible first | refine LenR_i fun _ => ?_ | refine And.intro (by omega) ?_ | (apply Sp.o; constructor) | refine mkl_own ?_ | refine frz0_i ?_ | refine any_i [] ?_) | simp (maxSteps := 1000000) (disch := omega) only [lE,ptrCells,ptrAdd,isNil,readsV,readsP,isCall,wrote,srcOf,seval,IdxR_int,hx,hx0,hy,hy0,Int.toNat_natCast,List.length_map])
      all_goals try (exfalso; omega)
      · rename_i q
        exact keep_b (decide_eq_false (hno q)).symm
      · rename_i q
        exact back_i (i + 1) ⟨by omega,hyes q⟩ (by omega) (Ent.to [] false (by simp) (by simp) rfl (by simp only [lP,seval] <;> (try simp) <;> (try omega)) (by simp only [lP,seval] <;> (try simp) <;> (try omega)))
    · have hie : i = a.length := by omega
      subst hie
      have hab : a = b := by
        rw [List.take_length, he2, List.take_length] at ha
        exact ha
      repeat' (first | (with_reducible apply St.o; constructor) <;> intro _ | (with_reducible first | refine LenR_i fun _ => ?_ | refine And.intro (by omega) ?_ | (apply Sp.o; constructor) | refine mkl_own ?_ | refine frz0_i ?_) | simp (maxSteps := 1000000) (disch := omega) only [lE,ptrCells,ptrAdd,isNil,readsV,readsP,isCall,wrote,srcOf,seval,List.length_map,Int.lt_irrefl,decide_false])
      exact keep_b (decide_eq_true hab).symm
theorem c55 (a b : List VL) : ACalls E.P 55 [.view 3 (a.map VL.av), .view 3 (b.map VL.av)] [] (fun r H => r = .bool (decide (a = b)) ∧ H = []) := by
  have hmax := maxLen_eq
  refine ok55.acalls hE hm (by simp) fun N hN => ?_
  unfold mc55
  simp only [lA,ptrCells,ptrAdd,isNil,readsV,readsP,isCall,wrote,srcOf,seval]
  repeat' (first | (with_reducible apply St.o; constructor) <;> intro _ | (with_reducible first | refine LenR_i fun _ => ?_ | refine And.intro (by omega) ?_ | (apply Sp.o; constructor) | refine mkl_own ?_ | refine frz0_i ?_) | simp (maxSteps := 1000000) (disch := omega) only [lE,ptrCells,ptrAdd,isNil,readsV,readsP,isCall,wrote,srcOf,seval,List.length_map])
  · rename_i he
    refine keep_b (decide_eq_false ?_).symm
    rintro rfl
    exact he rfl
  · rename_i he
    have he2 : a.length = b.length := by omega
    refine loop_i (fun i : Nat => i ≤ a.length ∧ a.take i = b.take i) (fun i => ⟨[(0, .view 3 (a.map VL.av)),(1, .view 3 (b.map VL.av)),(12, .int .i64 a.length),(13, .int .i64 i)], []⟩) (fun i => a.length - i) 0 ⟨by omega,by simp⟩ (Ent.to [] false (by simp) (by simp) rfl (by simp only [lP,seval] <;> (try simp) <;> (try omega)) (by simp only [lP,seval] <;> (try simp) <;> (try omega))) ?_
    rintro i ⟨hi, ha⟩
    by_cases hil : i < a.length
    · have hyes : a.getD i default = b.getD i default → a.take (i + 1) = b.take (i + 1) := fun q => take_next he2 hil ha q
      have hno : a.getD i default ≠ b.getD i default → a ≠ b := fun q => ne_at q
      generalize hx : a.getD i default = x at *
      generalize hy : b.getD i default = y at *
      repeat' (first | (with_reducible apply St.o; constructor) <;> intro _ | (with_reducible first | refine LenR_i fun _ => ?_ | refine And.intro (by omega) ?_ | (apply Sp.o; constructor) | refine mkl_own ?_ | refine frz0_i ?_ | refine any_i [] ?_) | simp (maxSteps := 1000000) (disch := omega) only [lE,ptrCells,ptrAdd,isNil,readsV,readsP,isCall,wrote,srcOf,seval,IdxR_vls,hx,hy,Int.toNat_natCast,List.length_map,vl_eq])
      all_goals try (exfalso; omega)
      · rename_i q
        exact keep_b (decide_eq_false (hno q)).symm
      · rename_i q
        exact back_i (i + 1) ⟨by omega,hyes q⟩ (by omega) (Ent.to [] false (by simp) (by simp) rfl (by simp only [lP,seval] <;> (try simp) <;> (try omega)) (by simp only [lP,seval] <;> (try simp) <;> (try omega)))
    · have hie : i = a.length := by omega
      subst hie
      have hab : a = b := by
        rw [List.take_length, he2, List.take_length] at ha
        exact ha
      repeat' (first | (with_reducible apply St.o; constructor) <;> intro _ | (with_reducible first | refine LenR_i fun _ => ?_ | refine And.intro (by omega) ?_ | (apply Sp.o; constructor) | refine mkl_own ?_ | refine frz0_i ?_) | simp (maxSteps := 1000000) (disch := omega) only [lE,ptrCells,ptrAdd,isNil,readsV,readsP,isCall,wrote,srcOf,seval,List.length_map,Int.lt_irrefl,decide_false])
      exact keep_b (decide_eq_true hab).symm
theorem c54 (a b : Hd) : ACalls E.P 54 [a.av, b.av] [] (fun r H => r = .bool (decide (a = b)) ∧ H = []) := by
  have h31 := c46 a b
  have h44 := c55 a.v b.v
  have h0 := hd_cmp0 a b
  have key : ∀ q : Bool, (q = true ↔ (a.cmp b = 0 ∧ a.st = b.st ∧ a.v = b.v)) → q = decide (a = b) := fun q hq => by
    rw [Bool.eq_iff_iff, decide_eq_true_eq, hq, h0]
    obtain ⟨a1, a2, a3, a4⟩ := a
    obtain ⟨b1, b2, b3, b4⟩ := b
    simp only [Hd.mk.injEq]
    constructor
    · rintro ⟨⟨x, y⟩, z, w⟩; exact ⟨x, y, z, w⟩
    · rintro ⟨x, y, z, w⟩; exact ⟨⟨x, y⟩, z, w⟩
  simp only [hd_av] at h31
  refine ok54.acalls hE hm (by simp) fun N hN => ?_
  unfold mc54
  simp only [lA,ptrCells,ptrAdd,isNil,readsV,readsP,isCall,wrote,srcOf,seval,hd_av]
  repeat' (first | (with_reducible apply St.o; constructor) <;> intro _ | (with_reducible first | refine LenR_i fun _ => ?_ | refine And.intro (by omega) ?_ | (apply Sp.o; constructor) | refine mkl_own ?_ | refine frz0_i ?_) | ((with_reducible apply Sc.o true; constructor); simp only [lP,seval]; (first | refine ⟨_,h31,?_⟩ | refine ⟨_,h44,?_⟩); rintro _ _ ⟨rfl,rfl⟩; simp only [lA,lP,ptrCells,ptrAdd,isNil,readsV,readsP,isCall,wrote,srcOf,seval]) | simp (maxSteps := 1000000) (disch := omega) only [lE,ptrCells,ptrAdd,isNil,readsV,readsP,isCall,wrote,srcOf,seval])
  all_goals (refine keep_b (key _ ?_); clear h31 h44 key h0; simp [*])
theorem c53 (a b : List Hd) : ACalls E.P 53 [.view 4 (a.map Hd.av), .view 4 (b.map Hd.av), .fn (.func 54) [] []] [] (fun r H => r = .bool (decide (a = b)) ∧ H = []) := by
  have hmax := maxLen_eq
  refine ok53.acalls hE hm (by simp) fun N hN => ?_
  unfold mc53
  simp only [lA,ptrCells,ptrAdd,isNil,readsV,readsP,isCall,wrote,srcOf,seval]
  repeat' (first | (with_reducible apply St.o; constructor) <;> intro _ | (with_reducible first | refine LenR_i fun _ => ?_ | refine And.intro (by omega) ?_ | (apply Sp.o; constructor) | refine mkl_own ?_ | refine frz0_i ?_) | simp (maxSteps := 1000000) (disch := omega) only [lE,ptrCells,ptrAdd,isNil,readsV,readsP,isCall,wrote,srcOf,seval,List.length_map])
  · rename_i he
    refine keep_b (decide_eq_false ?_).symm
    rintro rfl
    exact he rfl
  · rename_i he
    have he2 : a.length = b.length := by omega
    refine loop_i (fun i : Nat => i ≤ a.length ∧ a.take i = b.take i) (fun i => ⟨[(1, .view 4 (b.map Hd.av)),(2, .fn (.func 54) [] []),(15, .view 4 (a.map Hd.av)),(16, .int .i64 a.length),(17, .int .i64 i)], []⟩) (fun i => a.length - i) 0 ⟨by omega,by simp⟩ (Ent.to [] false (by simp) (by simp) rfl (by simp only [lP,seval] <;> (try simp) <;> (try omega)) (by simp only [lP,seval] <;> (try simp) <;> (try omega))) ?_
    rintro i ⟨hi, ha⟩
    by_cases hil : i < a.length
    · have hyes : a.getD i default = b.getD i default → a.take (i + 1) = b.take (i + 1) := fun q => take_next he2 hil ha q
      have hno : a.getD i default ≠ b.getD i default → a ≠ b := fun q => ne_at q
      generalize hx : a.getD i default = x at *
      generalize hy : b.getD i default = y at *
      have h43 := c54 x y
      simp only [hd_av] at h43
      repeat' (first | (with_reducible apply St.o; constructor) <;> intro _ | (with_reducible first | refine LenR_i fun _ => ?_ | refine And.intro (by omega) ?_ | (apply Sp.o; constructor) | refine mkl_own ?_ | refine frz0_i ?_) | ((with_reducible apply Sc.o true; constructor); simp only [lP,seval,IdxR_hds,hx,hy,Int.toNat_natCast,List.length_map,fillE,List.length_cons,List.length_nil]; refine ⟨_,h43,?_⟩; rintro _ _ ⟨rfl,rfl⟩; simp only [lA,lP,ptrCells,ptrAdd,isNil,readsV,readsP,isCall,wrote,srcOf,seval,IdxR_hds,hx,hy,Int.toNat_natCast,List.length_map,fillE,List.length_cons,List.length_nil]) | simp (maxSteps := 1000000) (disch := omega) only [lE,ptrCells,ptrAdd,isNil,readsV,readsP,isCall,wrote,srcOf,seval,IdxR_hds,hx,hy,Int.toNat_natCast,List.length_map,fillE,List.length_cons,List.length_nil])
      all_goals try (exfalso; omega)
      · rename_i q
        exact keep_b (decide_eq_false (hno (by simpa using q))).symm
      · rename_i q
        exact back_i (i + 1) ⟨by omega,hyes (by simpa using q)⟩ (by omega) (Ent.to [] false (by simp) (by simp) rfl (by simp only [lP,seval] <;> (try simp) <;> (try omega)) (by simp only [lP,seval] <;> (try simp) <;> (try omega)))
    · have hie : i = a.length := by omega
      subst hie
      have hab : a = b := by
        rw [List.take_length, he2, List.take_length] at ha
        exact ha
      repeat' (first | (with_reducible apply St.o; constructor) <;> intro _ | (with_reducible first | refine LenR_i fun _ => ?_ | refine And.intro (by omega) ?_ | (apply Sp.o; constructor) | refine mkl_own ?_ | refine frz0_i ?_) | simp (maxSteps := 1000000) (disch := omega) only [lE,ptrCells,ptrAdd,isNil,readsV,readsP,isCall,wrote,srcOf,seval,List.length_map,Int.lt_irrefl,decide_false])
      exact keep_b (decide_eq_true hab).symm
theorem c26 (a b : List Hd) : ACalls E.P 26 [.view 4 (a.map Hd.av), .view 4 (b.map Hd.av)] [] (fun r H => r = .bool (decide (a = b)) ∧ H = []) := by
  have h42 := c53 a b
  refine ok26.acalls hE hm (by simp) fun N hN => ?_
  unfold mc26
  simp only [lA,ptrCells,ptrAdd,isNil,readsV,readsP,isCall,wrote,srcOf,seval]
  repeat' (first | (with_reducible apply St.o; constructor) <;> intro _ | (with_reducible first | refine LenR_i fun _ => ?_ | refine And.intro (by omega) ?_ | (apply Sp.o; constructor) | refine mkl_own ?_ | refine frz0_i ?_) | ((with_reducible apply Sc.o true; constructor); simp only [lP,seval]; refine ⟨_,h42,?_⟩; rintro _ _ ⟨rfl,rfl⟩; simp only [lA,lP,ptrCells,ptrAdd,isNil,readsV,readsP,isCall,wrote,srcOf,seval]) | simp (maxSteps := 1000000) (disch := omega) only [lE,ptrCells,ptrAdd,isNil,readsV,readsP,isCall,wrote,srcOf,seval])
  all_goals exact keep_b rfl
end Go.Proofs.Try

