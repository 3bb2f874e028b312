/-
  A part of the proof: see the text of the law.
-/
import Derived.Test.YtmmedfdilaijhaaGreatFag
import Derived.Test.YtmmedfdilaijhaaGreatAlphaK
import Derived.Test.YtmmedfdilaijhaaGreatAlphaJ
import Derived.Test.YtmmedfdilaijhaaGreatPaf
set_option linter.unusedSimpArgs false
set_option linter.unusedVariables false
namespace Go.Proofs.Try
open Go.Proofs.Tryz
open Go.Al
set_option maxRecDepth 100000
def mc30 : MC :=
(.seq (.ops [(none,.e (.alloc 8 [(.raw (.slice none 0 0)),(.bool false),(.int .i64 0)]))])
(.seq (.seq (.ops [(none,.v (.mov 15 (.t 1))),
(none,.p (.len 16 (.t 15))),
(none,.v (.mov 17 (.t 3))),
(none,.v (.bin 18 .eql false (.t 16) (.t 17)))])
(.cond 18
(.seq (.ops [(none,.v (.mov 19 (.t 1))),
(none,.v (.mov 20 (.t 0))),
(none,.v (.mov 21 (.t 1))),
(none,.e (.call (some 22) 57 [(.t 20),(.t 21)])),
(none,.v (.bin 23 .lss false (.t 22) (.c (.int .i64 0)))),
(none,.v (.build 24 [(.raw (.slice none 0 0)),(.bool false),(.int .i64 0)] [(0,1,(.t 19)),(1,1,(.t 23))])),
(none,.e (.store 3 true (.t 8) (.t 24)))])
.ret)
.skip))
(.seq (.ops [(none,.v (.mov 26 (.t 0))),
(none,.v (.mov 27 (.t 1))),
(none,.p (.len 28 (.t 27))),
(none,.v (.bin 29 .add false (.t 28) (.c (.int .i64 1)))),
(none,.e (.call (some 30) 58 [(.t 26),(.t 29)])),
(none,.v (.mov 25 (.t 30))),
(none,.v (.ext 31 0 (.t 25))),
(none,.v (.ext 32 1 (.t 25))),
(none,.v (.mov 9 (.t 31))),
(none,.v (.mov 10 (.t 32)))])
(.seq (.seq (.ops [(none,.v (.mov 33 (.t 10)))])
(.cond 33
(.seq (.ops [(none,.e (.mkl 34 3 1 0 (.int .i64 0) [])),
(none,.v (.mov 35 (.t 1))),
(none,.e (.app 36 3 1 8 (.t 34) (.t 35))),
(none,.v (.mov 11 (.t 36)))])
(.seq (.ops [(none,.v (.mov 37 (.t 11))),
(none,.v (.mov 38 (.t 9))),
(none,.e (.mkl 39 3 1 1 (.int .i64 0) [(0,(.t 38))])),
(none,.e (.app 40 3 1 8 (.t 37) (.t 39))),
(none,.v (.mov 11 (.t 40)))])
(.seq (.ops [(none,.v (.mov 41 (.t 0))),
(none,.v (.mov 42 (.t 11))),
(none,.v (.mov 43 (.t 2))),
(none,.v (.mov 44 (.t 3))),
(none,.e (.call (some 45) 30 [(.t 41),(.t 42),(.t 43),(.t 44)])),
(none,.e (.store 3 true (.t 8) (.t 45)))])
.ret)))
.skip))
(.seq (.seq (.ops [(none,.v (.mov 12 (.c (.int .i64 0))))])
(.block 0 (.loop (.seq (.seq (.ops [(none,.v (.mov 46 (.t 12))),
(none,.v (.mov 47 (.t 2))),
(none,.p (.len 48 (.t 47))),
(none,.v (.bin 49 .lss false (.t 46) (.t 48)))])
(.cond 49
.skip
(.exit 0)))
(.seq (.block 1 (.seq (.seq (.ops [(none,.v (.mov 52 (.t 2))),
(none,.v (.mov 53 (.t 12))),
(none,.p (.idx 54 1 (.t 52) (.t 53))),
(none,.v (.load 55 false 1 (.t 54))),
(none,.v (.bin 56 .neq false (.t 55) (.c (.int .i64 0)))),
(none,.v (.mov 57 (.t 56))),
(some (57,true),.v (.mov 58 (.t 1))),
(some (57,true),.v (.mov 59 (.t 2))),
(some (57,true),.v (.mov 60 (.t 12))),
(some (57,true),.p (.idx 61 1 (.t 59) (.t 60))),
(some (57,true),.v (.load 62 false 1 (.t 61))),
(some (57,true),.e (.call (some 63) 59 [(.t 58),(.t 62)])),
(some (57,true),.v (.bin 64 .gtr false (.t 63) (.c (.int .i64 0)))),
(none,.v (.pick 65 (.t 57) (.t 64) (.c (.bool false))))])
(.cond 65
(.exit 1)
.skip))
(.seq (.ops [(none,.e (.mkl 66 3 1 0 (.int .i64 0) [])),
(none,.v (.mov 67 (.t 1))),
(none,.e (.app 68 3 1 8 (.t 66) (.t 67))),
(none,.v (.mov 13 (.t 68)))])
(.seq (.ops [(none,.v (.mov 69 (.t 13))),
(none,.v (.mov 70 (.t 2))),
(none,.v (.mov 71 (.t 12))),
(none,.p (.idx 72 1 (.t 70) (.t 71))),
(none,.v (.load 73 false 1 (.t 72))),
(none,.e (.mkl 74 3 1 1 (.int .i64 0) [(0,(.t 73))])),
(none,.e (.app 75 3 1 8 (.t 69) (.t 74))),
(none,.v (.mov 13 (.t 75)))])
(.seq (.ops [(none,.v (.mov 76 (.t 0))),
(none,.v (.mov 77 (.t 13))),
(none,.v (.mov 78 (.t 2))),
(none,.v (.mov 79 (.t 3))),
(none,.e (.call (some 80) 30 [(.t 76),(.t 77),(.t 78),(.t 79)])),
(none,.e (.alloc 14 [(.raw (.slice none 0 0)),(.bool false),(.int .i64 0)])),
(none,.e (.store 3 true (.t 14) (.t 80)))])
(.seq (.ops [(none,.v (.fld 81 1 (.t 14))),
(none,.v (.load 82 false 1 (.t 81)))])
(.cond 82
(.seq (.ops [(none,.v (.load 83 true 3 (.t 14))),
(none,.e (.store 3 true (.t 8) (.t 83)))])
.ret)
.skip)))))))
(.ops [(none,.v (.mov 50 (.t 12))),
(none,.v (.bin 51 .add false (.t 50) (.c (.int .i64 1)))),
(none,.v (.mov 12 (.t 51)))]))))))
(.seq (.ops [(none,.v (.build 84 [(.raw (.slice none 0 0)),(.bool false),(.int .i64 0)] [])),
(none,.e (.store 3 true (.t 8) (.t 84)))])
.ret))))))
theorem ok30 : FnOk E 30 85 [.cell 8 30] mc30 := .of func30 (by kernel_rfl) (by kernel_rfl) (by kernel_rfl) (by kernel_rfl) (by kernel_rfl)
end Go.Proofs.Try
namespace Go.Proofs.Try
open Go.Proofs.Tryz
open Go.Al
set_option linter.unusedVariables false
set_option linter.unusedSimpArgs false
set_option maxRecDepth 20000
set_option maxHeartbeats 8000000

theorem atAnyQ {f : FuncId} {args : List AV} {Q : AV → Prop} (ha : scL 0 args = true) (h : ACalls E.P f args [] (fun r H => Q r ∧ H = [])) (L : List AObj) : ACalls E.P f args L (fun r H => Q r ∧ H = L) :=
  (ACalls.suffix (H := []) (L := L) rfl ha h (fun r H' ⟨_, h⟩ => by rw [h])).mono fun r H ⟨H1, h1, h2, h3⟩ => ⟨h2, by rw [h1, h3]; rfl⟩
theorem ti30 : E.TI 30 = some ⟨.struct [(0, 25), (1, 4), (2, 26)], 3, 40, [.slice none 0 0, .bool false, .int .i64 0], true, true, false⟩ := rfl
def refS (h : List Hap) (free : List Int) (L : Int) : Nat → List Int → Option (List Int)
  | 0, _ => none
  | n + 1, order =>
    if (order.length : Int) = L then (if checkH h order < 0 then some order else none) else
    match repH h (order.length + 1) with
    | some t => refS h free L n (order ++ [t])
    | none => free.findSome? fun t => if t ≠ 0 ∧ 0 < plc order t then none else refS h free L n (order ++ [t])
def FoundQ (o : Option (List Int)) (r : AV) : Prop := ∃ l : List Int, r = .agg [.view 1 (l.map (AV.int .i64)), .bool o.isSome, .int .i64 0] ∧ ∀ l', o = some l' → l = l'
theorem find_next {α : Type} {free : List Int} {f : Int → Option α} {i : Nat} (hi : i < free.length) (hn : (free.take i).findSome? f = none) : (free.take (i + 1)).findSome? f = f (free.getD i 0) := by
  rw [take_succD hi, List.findSome?_append, hn]
  rw [List.findSome?_cons, List.findSome?_nil, Option.none_or]
  cases f (free.getD i 0) <;> rfl
theorem find_hit {α : Type} {free : List Int} {f : Int → Option α} {i : Nat} {v : α} (hi : i < free.length) (hn : (free.take i).findSome? f = none) (h : f (free.getD i 0) = some v) : free.findSome? f = some v := by
  have h1 := find_next hi hn
  rw [← List.take_append_drop (i + 1) free, List.findSome?_append, h1, h]
  rfl
theorem c30 (h : List Hap) (hr : rightB h = true) (free : List Int) (hf : free.length ≤ 1000000) (L : Nat) (hL : L ≤ 10000) : ∀ (n : Nat) (order : List Int), order.length + n = L → 
    ACalls E.P 30 [.view 5 (h.map Hap.av), .view 1 (order.map (AV.int .i64)), .view 1 (free.map (AV.int .i64)), .int .i64 L] [] (fun r H => FoundQ (refS h free L (n + 1) order) r ∧ H = []) := by
  intro n
  induction n with
  | zero =>
    intro order ho
    have hmax := maxLen_eq
    have h57 := c57 h hr order (by omega)
    refine ok30.acalls hE hm (by simp) fun N hN => ?_
    unfold mc30
    simp only [lA,ptrCells,ptrAdd,isNil,readsV,readsP,isCall,wrote,srcOf,seval]
    have hS : refS h free L 1 order = if checkH h order < 0 then some order else none := by
      rw [refS, if_pos (by omega)]
    generalize checkH h order = C at *
    rw [hS]
    repeat' (first | (with_reducible apply St.o; constructor) <;> intro _ | (with_reducible first | refine LenR_i fun _ => ?_ | refine And.intro (by omega) ?_ | (apply Sp.o; constructor) | refine mkl_own ?_ | refine frz0_i ?_) | ((with_reducible apply Sc.o true; constructor); simp only [lP,seval,ti30,List.length_map,fillE,setAll]; refine ⟨_,h57,?_⟩; rintro _ _ ⟨rfl,rfl⟩; simp only [lA,lP,ptrCells,ptrAdd,isNil,readsV,readsP,isCall,wrote,srcOf,seval,ti30,List.length_map,fillE,setAll]) | simp (maxSteps := 1000000) (disch := omega) only [lE,ptrCells,ptrAdd,isNil,readsV,readsP,isCall,wrote,srcOf,seval,ti30,List.length_map,fillE,setAll])
    all_goals try (exfalso; omega)
    refine keep_i [] true rfl (by simp) rfl ⟨⟨order, ?_, fun l' hl => ?_⟩, ?_⟩
    · have : (if C < 0 then some order else none).isSome = decide (C < 0) := by split <;> simp [*]
      simp only [lP,seval,this]
    · split at hl
      · exact Option.some.inj hl
      · cases hl
    · simp only [lP,seval]
  | succ n ih =>
    intro order ho
    have hmax := maxLen_eq
    have h58 := c58 h (order.length + 1)
    have hS : refS h free L (n + 1 + 1) order = match repH h (order.length + 1) with
      | some t => refS h free L (n + 1) (order ++ [t])
      | none => free.findSome? fun t => if t ≠ 0 ∧ 0 < plc order t then none else refS h free L (n + 1) (order ++ [t]) := by
      rw [refS, if_neg (by omega)]
    have hih : ∀ (t : Int) (K : List AObj), _ := fun t K => atAnyQ (by simp [scL, sc]) (ih (order ++ [t]) (by simp; omega)) K
    refine ok30.acalls hE hm (by simp) fun N hN => ?_
    unfold mc30
    simp only [lA,ptrCells,ptrAdd,isNil,readsV,readsP,isCall,wrote,srcOf,seval]
    rw [hS]
    clear hS
    cases hrep : repH h (order.length + 1) with
    | some t =>
      rw [hrep] at h58
      simp only [Option.getD_some,Option.isSome_some] at h58 ⊢
      have hit := hih t
      have hmo : List.map (AV.int .i64) order ++ [AV.int .i64 t] = List.map (AV.int .i64) (order ++ [t]) := by simp
      generalize refS h free L (n + 1) (order ++ [t]) = S at *
      repeat' (first | (with_reducible apply St.o; constructor) <;> intro _ | (with_reducible first | refine LenR_i fun _ => ?_ | refine And.intro (by omega) ?_ | (apply Sp.o; constructor) | refine mkl_own ?_ | refine frz0_i ?_) | ((with_reducible apply Sc.o true; constructor); simp only [lP,seval,ti30,List.length_map,fillE,setAll,hmo]; refine ⟨_,h58,?_⟩; rintro _ _ ⟨rfl,rfl⟩; simp only [lA,lP,ptrCells,ptrAdd,isNil,readsV,readsP,isCall,wrote,srcOf,seval,ti30,List.length_map,fillE,setAll,hmo]) | simp (maxSteps := 1000000) (disch := omega) only [lE,ptrCells,ptrAdd,isNil,readsV,readsP,isCall,wrote,srcOf,seval,ti30,List.length_map,fillE,setAll,hmo])
      all_goals try (exfalso; omega)
      rw [show order.length + 1 = (order ++ [t]).length by simp]
      refine callZ_i [0] (by simp) (by simp) ?_
      simp only [lP,seval,vw_ints]
      refine ⟨_, hit _, ?_⟩
      rintro _ _ ⟨⟨l, rfl, hl⟩, rfl⟩
      simp only [lA,lP,ptrCells,ptrAdd,isNil,readsV,readsP,isCall,wrote,srcOf,seval]
      repeat' (first | (with_reducible apply St.o; constructor) <;> intro _ | (with_reducible first | refine LenR_i fun _ => ?_ | refine And.intro (by omega) ?_ | (apply Sp.o; constructor) | refine mkl_own ?_ | refine frz0_i ?_) | simp (maxSteps := 1000000) (disch := omega) only [lE,ptrCells,ptrAdd,isNil,readsV,readsP,isCall,wrote,srcOf,seval,ti30,List.length_map,fillE,setAll,hmo])
      refine keep_i [] true rfl (by simp) rfl ⟨⟨l, ?_, hl⟩, ?_⟩
      · simp only [lP,seval]
      · simp only [lP,seval]
    | none =>
      rw [hrep] at h58
      simp only [Option.getD_none,Option.isSome_none] at h58 ⊢
      have hfn := fun i => find_next (free := free) (i := i) (f := fun t => if t ≠ 0 ∧ 0 < plc order t then none else refS h free L (n + 1) (order ++ [t]))
      repeat' (first | (with_reducible apply St.o; constructor) <;> intro _ | (with_reducible first | refine LenR_i fun _ => ?_ | refine And.intro (by omega) ?_ | (apply Sp.o; constructor) | refine mkl_own ?_ | refine frz0_i ?_) | ((with_reducible apply Sc.o true; constructor); simp only [lP,seval,ti30,List.length_map,fillE,setAll]; refine ⟨_,h58,?_⟩; rintro _ _ ⟨rfl,rfl⟩; simp only [lA,lP,ptrCells,ptrAdd,isNil,readsV,readsP,isCall,wrote,srcOf,seval,ti30,List.length_map,fillE,setAll]) | simp (maxSteps := 1000000) (disch := omega) only [lE,ptrCells,ptrAdd,isNil,readsV,readsP,isCall,wrote,srcOf,seval,ti30,List.length_map,fillE,setAll])
      all_goals try (exfalso; omega)
      generalize hF : (fun t => if t ≠ 0 ∧ 0 < plc order t then none else refS h free L (n + 1) (order ++ [t])) = F at *
      refine loop_i (fun i : Nat => i ≤ free.length ∧ (free.take i).findSome? F = none) (fun i => ⟨[(0, .view 5 (h.map Hap.av)),(1, .view 1 (order.map (AV.int .i64))),(2, .view 1 (free.map (AV.int .i64))),(3, .int .i64 L),(8, .op 0 0),(12, .int .i64 i)], [.box [.raw (.slice none 0 0), .bool false, .int .i64 0]]⟩) (fun i => free.length - i) 0 ⟨by omega,by simp⟩ (Ent.to [0] false (by simp) (by simp) rfl (by simp only [lP,seval] <;> (try simp) <;> (try omega)) (by simp only [lP,seval] <;> (try simp) <;> (try omega))) ?_
      rintro i ⟨hi, hnone⟩
      by_cases hil : i < free.length
      · have hnx := hfn i hil hnone
        have hF1 : F (free.getD i 0) = if free.getD i 0 ≠ 0 ∧ 0 < plc order (free.getD i 0) then none else refS h free L (n + 1) (order ++ [free.getD i 0]) := by rw [← hF]
        have hhit : ∀ v, F (free.getD i 0) = some v → free.findSome? F = some v := fun v => find_hit hil hnone
        have h59 := c59 order (free.getD i 0) (by omega)
        have hit := hih (free.getD i 0)
        generalize hy : free.getD i 0 = t at *
        have hmo : List.map (AV.int .i64) order ++ [AV.int .i64 t] = List.map (AV.int .i64) (order ++ [t]) := by simp
        generalize refS h free L (n + 1) (order ++ [t]) = S at *
        generalize plc order t = p at *
        repeat' (first | (with_reducible apply St.o; constructor) <;> intro _ | (with_reducible first | refine LenR_i fun _ => ?_ | refine And.intro (by omega) ?_ | (apply Sp.o; constructor) | refine mkl_own ?_ | refine frz0_i ?_ | refine any_i [] ?_) | ((with_reducible apply Sc.o true; constructor); simp only [lP,seval,ti30,IdxR_int,hy,Int.toNat_natCast,List.length_map,fillE,setAll,hmo]; refine ⟨_,h59,?_⟩; rintro _ _ ⟨rfl,rfl⟩; simp only [lA,lP,ptrCells,ptrAdd,isNil,readsV,readsP,isCall,wrote,srcOf,seval,ti30,IdxR_int,hy,Int.toNat_natCast,List.length_map,fillE,setAll,hmo]) | simp (maxSteps := 1000000) (disch := omega) only [lE,ptrCells,ptrAdd,isNil,readsV,readsP,isCall,wrote,srcOf,seval,ti30,IdxR_int,hy,Int.toNat_natCast,List.length_map,fillE,setAll,hmo])
        all_goals try (exfalso; omega)
        · rename_i g1 g2
          exact back_i (i + 1) ⟨by omega,by rw [hnx,if_pos ⟨g1,g2⟩]⟩ (by omega) (Ent.to [0] false (by simp) (by simp) rfl (by simp only [lP,seval] <;> (try simp) <;> (try omega)) (by simp only [lP,seval] <;> (try simp) <;> (try omega)))
        all_goals
          rw [show order.length + 1 = (order ++ [t]).length by simp]
          refine callZ_i [0] (by simp) (by simp) ?_
          simp only [lP,seval,vw_ints]
          refine ⟨_, hit _, ?_⟩
          rintro _ _ ⟨⟨l, rfl, hl⟩, rfl⟩
          simp only [lA,lP,ptrCells,ptrAdd,isNil,readsV,readsP,isCall,wrote,srcOf,seval]
        · rename_i g1 g2
          rw [if_neg (fun q => g2 q.2)] at hnx hF1
          cases hS : S with
          | none =>
            rw [hS] at hnx
            repeat' (first | (with_reducible apply St.o; constructor) <;> intro _ | (with_reducible first | refine LenR_i fun _ => ?_ | refine And.intro (by omega) ?_ | (apply Sp.o; constructor) | refine mkl_own ?_ | refine frz0_i ?_) | simp (maxSteps := 1000000) (disch := omega) only [lE,ptrCells,ptrAdd,isNil,readsV,readsP,isCall,wrote,srcOf,seval,ti30,List.length_map,fillE,setAll,hS,Option.isSome_none])
            all_goals try (exfalso; rename_i q; cases q; done)
            exact back_i (i + 1) ⟨by omega,hnx⟩ (by omega) (Ent.to [0] false (by simp) (by simp) rfl (by simp only [lP,seval] <;> (try simp) <;> (try omega)) (by simp only [lP,seval] <;> (try simp) <;> (try omega)))
          | some v =>
            rw [hhit v (by rw [hF1, hS])]
            have hl2 := hl v hS
            repeat' (first | (with_reducible apply St.o; constructor) <;> intro _ | (with_reducible first | refine LenR_i fun _ => ?_ | refine And.intro (by omega) ?_ | (apply Sp.o; constructor) | refine mkl_own ?_ | refine frz0_i ?_) | simp (maxSteps := 1000000) (disch := omega) only [lE,ptrCells,ptrAdd,isNil,readsV,readsP,isCall,wrote,srcOf,seval,ti30,List.length_map,fillE,setAll,hS,Option.isSome_some])
            all_goals try (exfalso; rename_i q; cases q; done)
            refine keep_i [] true rfl (by simp) rfl ⟨⟨l, ?_, fun l' q => hl2.trans (Option.some.inj q)⟩, ?_⟩
            · simp only [lP,seval,Option.isSome_some]
            · simp only [lP,seval]
        · rename_i g1
          rw [if_neg (fun q => q.1 g1)] at hnx hF1
          cases hS : S with
          | none =>
            rw [hS] at hnx
            repeat' (first | (with_reducible apply St.o; constructor) <;> intro _ | (with_reducible first | refine LenR_i fun _ => ?_ | refine And.intro (by omega) ?_ | (apply Sp.o; constructor) | refine mkl_own ?_ | refine frz0_i ?_) | simp (maxSteps := 1000000) (disch := omega) only [lE,ptrCells,ptrAdd,isNil,readsV,readsP,isCall,wrote,srcOf,seval,ti30,List.length_map,fillE,setAll,hS,Option.isSome_none])
            all_goals try (exfalso; rename_i q; cases q; done)
            exact back_i (i + 1) ⟨by omega,hnx⟩ (by omega) (Ent.to [0] false (by simp) (by simp) rfl (by simp only [lP,seval] <;> (try simp) <;> (try omega)) (by simp only [lP,seval] <;> (try simp) <;> (try omega)))
          | some v =>
            rw [hhit v (by rw [hF1, hS])]
            have hl2 := hl v hS
            repeat' (first | (with_reducible apply St.o; constructor) <;> intro _ | (with_reducible first | refine LenR_i fun _ => ?_ | refine And.intro (by omega) ?_ | (apply Sp.o; constructor) | refine mkl_own ?_ | refine frz0_i ?_) | simp (maxSteps := 1000000) (disch := omega) only [lE,ptrCells,ptrAdd,isNil,readsV,readsP,isCall,wrote,srcOf,seval,ti30,List.length_map,fillE,setAll,hS,Option.isSome_some])
            all_goals try (exfalso; rename_i q; cases q; done)
            refine keep_i [] true rfl (by simp) rfl ⟨⟨l, ?_, fun l' q => hl2.trans (Option.some.inj q)⟩, ?_⟩
            · simp only [lP,seval,Option.isSome_some]
            · simp only [lP,seval]
      · have hie : i = free.length := by omega
        subst hie
        rw [List.take_length] at hnone
        rw [hnone]
        repeat' (first | (with_reducible apply St.o; constructor) <;> intro _ | (with_reducible first | refine LenR_i fun _ => ?_ | refine And.intro (by omega) ?_ | (apply Sp.o; constructor) | refine mkl_own ?_ | refine frz0_i ?_) | simp (maxSteps := 1000000) (disch := omega) only [lE,ptrCells,ptrAdd,isNil,readsV,readsP,isCall,wrote,srcOf,seval,ti30,Int.lt_irrefl,decide_false,List.length_map,fillE,setAll])
        refine keepw_i [] true rfl (by simp) rfl (r' := .agg [.view 1 (([] : List Int).map (AV.int .i64)), .bool false, .int .i64 0]) ?_ ⟨⟨[], rfl, fun l' q => by cases q⟩, rfl⟩
        simp only [lP,seval]
        exact WeakL.agg (.cons weak_nil (.refl _))
end Go.Proofs.Try


namespace Go.Proofs.Try
open Go.Proofs.Tryz
open Go.Al
set_option maxRecDepth 100000
def mc8 : MC :=
(.seq (.ops [(none,.e (.alloc 2 [(.raw (.slice none 0 0)),(.bool false),(.int .i64 0)]))])
(.seq (.ops [(none,.v (.mov 6 (.t 0))),
(none,.e (.call (some 7) 11 [(.t 6)])),
(none,.v (.mov 3 (.t 7)))])
(.seq (.seq (.ops [(none,.v (.mov 8 (.t 3))),
(none,.v (.not 9 (.t 8)))])
(.cond 9
(.seq (.ops [(none,.v (.build 10 [(.raw (.slice none 0 0)),(.bool false),(.int .i64 0)] [(2,1,(.c (.int .i64 1)))])),
(none,.e (.store 3 true (.t 2) (.t 10)))])
.ret)
.skip))
(.seq (.seq (.ops [(none,.v (.mov 11 (.t 0))),
(none,.e (.call (some 12) 12 [(.t 11)])),
(none,.v (.bin 13 .gtr false (.t 12) (.c (.int .i64 8))))])
(.cond 13
(.seq (.ops [(none,.v (.build 14 [(.raw (.slice none 0 0)),(.bool false),(.int .i64 0)] [(2,1,(.c (.int .i64 2)))])),
(none,.e (.store 3 true (.t 2) (.t 14)))])
.ret)
.skip))
(.seq (.ops [(none,.v (.mov 15 (.t 0))),
(none,.e (.call (some 16) 29 [(.t 15)])),
(none,.e (.mkl 17 3 1 1 (.int .i64 0) [(0,(.c (.int .i64 0)))])),
(none,.e (.app 18 3 1 8 (.t 16) (.t 17))),
(none,.v (.mov 4 (.t 18)))])
(.seq (.ops [(none,.v (.mov 19 (.t 0))),
(none,.v (.mov 20 (.t 4))),
(none,.v (.mov 21 (.t 0))),
(none,.e (.call (some 22) 14 [(.t 21)])),
(none,.e (.call (some 23) 30 [(.t 19),(.c (.raw (.slice none 0 0))),(.t 20),(.t 22)])),
(none,.e (.alloc 5 [(.raw (.slice none 0 0)),(.bool false),(.int .i64 0)])),
(none,.e (.store 3 true (.t 5) (.t 23)))])
(.seq (.seq (.ops [(none,.v (.fld 24 1 (.t 5))),
(none,.v (.load 25 false 1 (.t 24))),
(none,.v (.not 26 (.t 25)))])
(.cond 26
(.seq (.ops [(none,.v (.build 27 [(.raw (.slice none 0 0)),(.bool false),(.int .i64 0)] [])),
(none,.e (.store 3 true (.t 2) (.t 27)))])
.ret)
.skip))
(.seq (.ops [(none,.v (.load 28 true 3 (.t 5))),
(none,.e (.store 3 true (.t 2) (.t 28)))])
.ret))))))))
theorem ok8 : FnOk E 8 29 [.cell 2 30] mc8 := .of func8 (by kernel_rfl) (by kernel_rfl) (by kernel_rfl) (by kernel_rfl) (by kernel_rfl)
end Go.Proofs.Try
namespace Go.Proofs.Try
open Go.Proofs.Tryz
open Go.Al
set_option linter.unusedVariables false
set_option linter.unusedSimpArgs false
set_option maxRecDepth 20000
set_option maxHeartbeats 8000000

theorem ACalls.weakArg2 {P : Program} {f : FuncId} {z x y : AV} {rest : List AV} {H : List AObj} {Q : AV → List AObj → Prop} (hw : Weak x y) (h : ACalls P f (z :: y :: rest) H Q) : ACalls P f (z :: x :: rest) H Q :=
  ⟨h.1, fun γ σ w vs hi hv => by
    obtain ⟨v, vs', rfl, hv1, hv2⟩ := repVs_cons.1 hv
    obtain ⟨v2, vs2, rfl, hv3, hv4⟩ := repVs_cons.1 hv2
    exact h.2 γ σ w _ hi (repVs_cons.2 ⟨_, _, rfl, hv1, repVs_cons.2 ⟨_, _, rfl, hw _ _ _ hv3, hv4⟩⟩)⟩
def refE (h : List Hap) : Option (List Int) × Int :=
  if rightB h = false then (none, 1)
  else if 8 < lenH h - repN h then (none, 2)
  else (refS h (candL h ++ [0]) (lenH h) ((lenH h).toNat + 1) [], 0)
def fndV (p : Option (List Int) × Int) : AV := .agg [.view 1 ((p.1.getD []).map (AV.int .i64)), .bool p.1.isSome, .int .i64 p.2]
theorem c8 (h : List Hap) (h410 : h.length ≤ 1000000) : ACalls E.P 8 [.view 5 (h.map Hap.av)] [] (fun r H => r = fndV (refE h) ∧ H = []) := by
  have hmax := maxLen_eq
  have h11 := c11 h
  have h14 := c14 h
  refine ok8.acalls hE hm (by simp) fun N hN => ?_
  unfold mc8
  simp only [lA,ptrCells,ptrAdd,isNil,readsV,readsP,isCall,wrote,srcOf,seval]
  by_cases hr : rightB h = true
  · have h4 := rightB_len hr
    have h12 := c12 h hr
    have h29 := c29 h h410
    have hcl : (candL h).length ≤ h.length := candQ_len h h
    have hpos := lenH_pos h
    rw [hr] at h11
    by_cases hun : 8 < lenH h - repN h
    · have hR : refE h = (none, 2) := by rw [refE, if_neg (by simp [hr]), if_pos hun]
      rw [hR]
      repeat' (first | (with_reducible apply St.o; constructor) <;> intro _ | (with_reducible first | refine LenR_i fun _ => ?_ | refine And.intro (by omega) ?_ | (apply Sp.o; constructor) | refine mkl_own ?_ | refine frz0_i ?_) | ((with_reducible apply Sc.o true; constructor); simp only [lP,seval,ti30,List.length_map,fillE,setAll]; (first | refine ⟨_,h11,?_⟩ | refine ⟨_,h12,?_⟩); rintro _ _ ⟨rfl,rfl⟩; simp only [lA,lP,ptrCells,ptrAdd,isNil,readsV,readsP,isCall,wrote,srcOf,seval,ti30,List.length_map,fillE,setAll]) | simp (maxSteps := 1000000) (disch := omega) only [lE,ptrCells,ptrAdd,isNil,readsV,readsP,isCall,wrote,srcOf,seval,ti30,List.length_map,fillE,setAll])
      all_goals try (exfalso; omega)
      refine keepw_i [] true rfl (by simp) rfl (r' := fndV (none, 2)) ?_ ⟨rfl, rfl⟩
      simp only [lP,seval,fndV,Option.isSome_none,Option.getD_none,List.map_nil]
      exact WeakL.agg (.cons weak_nil (.refl _))
    · have hR : refE h = (refS h (candL h ++ [0]) (lenH h) ((lenH h).toNat + 1) [], 0) := by rw [refE, if_neg (by simp [hr]), if_neg hun]
      rw [hR]
      have hrn := repN_le h
      obtain ⟨L, hL⟩ := Int.eq_ofNat_of_zero_le hpos
      have h30 := fun K => ACalls.weakArg2 weak_nil (atAnyQ (by simp [scL, sc]) (c30 h hr (candL h ++ [0]) (by simp; omega) L (by omega) L [] (by simp)) K)
      have hT : (lenH h).toNat + 1 = L + 1 := by omega
      rw [hT]
      rw [hL] at h14 h12 hun ⊢
      try simp only [Int.ofNat_eq_natCast] at h14 h12 hun ⊢
      generalize refS h (candL h ++ [0]) L (L + 1) [] = S at *
      have htk : ∀ a : List Int, a.take (candL h).length = candL h → (List.map (AV.int .i64) a).take (candL h).length ++ [AV.int .i64 0] = (candL h ++ [0]).map (AV.int .i64) := fun a q => by
        rw [← List.map_take, q]; simp
      repeat' (first | (with_reducible apply St.o; constructor) <;> intro _ | (with_reducible first | refine LenR_i fun _ => ?_ | refine And.intro (by omega) ?_ | (apply Sp.o; constructor) | refine mkl_own ?_ | refine frz0_i ?_) | ((with_reducible apply Sc.o true; constructor); simp only [lP,seval,ti30,List.length_map,fillE,setAll]; (first | refine ⟨_,h11,?_⟩ | refine ⟨_,h12,?_⟩ | refine ⟨_,h14,?_⟩); rintro _ _ ⟨rfl,rfl⟩; simp only [lA,lP,ptrCells,ptrAdd,isNil,readsV,readsP,isCall,wrote,srcOf,seval,ti30,List.length_map,fillE,setAll]) | ((with_reducible apply Sc.o false; constructor); simp only [lP,seval,ti30,List.length_map,fillE,setAll]; refine ⟨_,h29,?_⟩; rintro _ _ ⟨a,q1,q2,rfl,rfl⟩; simp only [lA,lP,ptrCells,ptrAdd,isNil,readsV,readsP,isCall,wrote,srcOf,seval,ti30,List.length_map,fillE,setAll]) | simp (maxSteps := 1000000) (disch := omega) only [lE,ptrCells,ptrAdd,isNil,readsV,readsP,isCall,wrote,srcOf,seval,ti30,List.length_map,fillE,setAll])
      all_goals try (exfalso; omega)
      rw [htk a q2, show (candL h).length + 1 = (candL h ++ [0]).length by simp]
      refine callZ_i [0] (by simp) (by simp) ?_
      simp only [lP,seval,vw_ints]
      refine ⟨_, h30 _, ?_⟩
      rintro _ _ ⟨⟨l, rfl, hl⟩, rfl⟩
      simp only [lA,lP,ptrCells,ptrAdd,isNil,readsV,readsP,isCall,wrote,srcOf,seval]
      cases hS : S with
      | none =>
        repeat' (first | (with_reducible apply St.o; constructor) <;> intro _ | (with_reducible first | refine LenR_i fun _ => ?_ | refine And.intro (by omega) ?_ | (apply Sp.o; constructor) | refine mkl_own ?_ | refine frz0_i ?_) | simp (maxSteps := 1000000) (disch := omega) only [lE,ptrCells,ptrAdd,isNil,readsV,readsP,isCall,wrote,srcOf,seval,ti30,List.length_map,fillE,setAll,Option.isSome_none])
        all_goals try (exfalso; rename_i q; cases q; done)
        refine keepw_i [] true rfl (by simp) rfl (r' := fndV (none, 0)) ?_ ⟨rfl, rfl⟩
        simp only [lP,seval,fndV,Option.isSome_none,Option.getD_none,List.map_nil]
        exact WeakL.agg (.cons weak_nil (.refl _))
      | some v =>
        rw [hl v hS]
        repeat' (first | (with_reducible apply St.o; constructor) <;> intro _ | (with_reducible first | refine LenR_i fun _ => ?_ | refine And.intro (by omega) ?_ | (apply Sp.o; constructor) | refine mkl_own ?_ | refine frz0_i ?_) | simp (maxSteps := 1000000) (disch := omega) only [lE,ptrCells,ptrAdd,isNil,readsV,readsP,isCall,wrote,srcOf,seval,ti30,List.length_map,fillE,setAll,Option.isSome_some])
        all_goals try (exfalso; rename_i q; cases q; done)
        refine keepw_i [] true rfl (by simp) rfl (r' := fndV (some v, 0)) ?_ ⟨rfl, rfl⟩
        simp only [lP,seval,fndV,Option.isSome_some,Option.getD_some]
        exact .refl _
  · replace hr : rightB h = false := by simpa using hr
    have hR : refE h = (none, 1) := by rw [refE, if_pos hr]
    rw [hr] at h11
    rw [hR]
    repeat' (first | (with_reducible apply St.o; constructor) <;> intro _ | (with_reducible first | refine LenR_i fun _ => ?_ | refine And.intro (by omega) ?_ | (apply Sp.o; constructor) | refine mkl_own ?_ | refine frz0_i ?_) | ((with_reducible apply Sc.o true; constructor); simp only [lP,seval,ti30,List.length_map,fillE,setAll]; refine ⟨_,h11,?_⟩; rintro _ _ ⟨rfl,rfl⟩; simp only [lA,lP,ptrCells,ptrAdd,isNil,readsV,readsP,isCall,wrote,srcOf,seval,ti30,List.length_map,fillE,setAll]) | simp (maxSteps := 1000000) (disch := omega) only [lE,ptrCells,ptrAdd,isNil,readsV,readsP,isCall,wrote,srcOf,seval,ti30,List.length_map,fillE,setAll])
    all_goals try (exfalso; omega)
    refine keepw_i [] true rfl (by simp) rfl (r' := fndV (none, 1)) ?_ ⟨rfl, rfl⟩
    simp only [lP,seval,fndV,Option.isSome_none,Option.getD_none,List.map_nil]
    exact WeakL.agg (.cons weak_nil (.refl _))
end Go.Proofs.Try


namespace Go.Proofs.Try
open Go.Proofs.Tryz
open Go.Al
set_option linter.unusedVariables false
set_option linter.unusedSimpArgs false

theorem check_neg {h : List Hap} {o : List Int} (hc : checkH h o < 0) : checkH h o = -1 := by
  unfold checkH at *
  split at hc
  · omega
  · split at hc
    · rename_i q; rw [if_pos q]
    · omega
theorem refS_spec {h : List Hap} {free : List Int} {L : Int} : ∀ (n : Nat) (o l : List Int), refS h free L n o = some l → (∃ r, l = o ++ r) ∧ checkH h l = -1
  | 0, o, l, e => by rw [refS] at e; cases e
  | n + 1, o, l, e => by
    rw [refS] at e
    split at e
    · split at e
      · rename_i hc
        cases e
        exact ⟨⟨[], by simp⟩, check_neg hc⟩
      · cases e
    · split at e
      · obtain ⟨⟨r, h1⟩, h2⟩ := refS_spec n _ _ e
        exact ⟨⟨_, by rw [h1, List.append_assoc]⟩, h2⟩
      · obtain ⟨t, ht, e⟩ := List.exists_of_findSome?_eq_some e
        split at e
        · cases e
        · obtain ⟨⟨r, h1⟩, h2⟩ := refS_spec n _ _ e
          exact ⟨⟨_, by rw [h1, List.append_assoc]⟩, h2⟩
theorem stL_app (h : List Hap) (o r : List Int) : ∀ n, n ≤ o.length → stL h (o ++ r) n = stL h o n
  | 0, _ => rfl
  | n + 1, hn => by
    rw [stL, stL, stL_app h o r n (by omega)]
    congr 2
    rw [List.getD_eq_getElem?_getD, List.getD_eq_getElem?_getD, List.getElem?_append_left (by omega)]
theorem mem_at {h : List Hap} {x : Hap} (hx : x ∈ h) : ∃ i, i < h.length ∧ h.getD i default = x := by
  obtain ⟨i, hi, rfl⟩ := List.getElem_of_mem hx
  exact ⟨i, hi, by rw [List.getD_eq_getElem?_getD, List.getElem?_eq_getElem hi, Option.getD_some]⟩
theorem seen_prune {h : List Hap} (hr : rightB h = true) {free : List Int} {L : Int} {n : Nat} {o : List Int} (hs : ((seenL h o.length).any fun x => !decide (x.rs = stL h o o.length)) = true) : refS h free L n o = none := by
  cases e : refS h free L n o with
  | none => rfl
  | some l =>
    exfalso
    obtain ⟨⟨r, rfl⟩, hc⟩ := refS_spec _ _ _ e
    obtain ⟨x, hx, hne⟩ := List.any_eq_true.1 hs
    unfold seenL at hx
    obtain ⟨hx, hk⟩ := List.mem_filter.1 hx
    simp only [Bool.and_eq_true,decide_eq_true_eq] at hk
    obtain ⟨i, hi, hg⟩ := mem_at hx
    have := (see_facts hr hc hi (by rw [hg]; exact hk.1)).1
    rw [hg, hk.2, Int.toNat_natCast, stL_app h o r _ (Nat.le_refl _)] at this
    rw [this] at hne
    simp at hne
theorem plc_mem {l : List Int} {t : Int} : 0 < plc l t ↔ t ∈ l := by
  unfold plc
  cases hf : l.findIdx? (fun u => decide (u = t)) with
  | none =>
    have := List.findIdx?_eq_none_iff.1 hf
    simp only [Int.lt_irrefl,false_iff]
    intro hm
    have := this t hm
    simp at this
  | some i =>
    obtain ⟨h1, h2, _⟩ := List.findIdx?_eq_some_iff_getElem.1 hf
    simp only [decide_eq_true_eq] at h2
    simp only [show (0 : Int) < (i : Int) + 1 by omega,true_iff]
    rw [← h2]
    exact List.getElem_mem h1
theorem place_snoc {o r : List Int} {t : Int} (hz : t ≠ 0) (hn : t ∉ o) : placeH (o ++ [t] ++ r) t = (o.length : Int) + 1 := by
  unfold placeH
  rw [if_neg hz]
  have : (o ++ [t] ++ r).findIdx? (fun u => decide (u = t)) = some o.length := by
    refine List.findIdx?_eq_some_iff_getElem.2 ⟨by simp, by simp, fun j hj => ?_⟩
    have : (o ++ [t] ++ r)[j]'(by simp; omega) = o[j] := by
      rw [List.getElem_append_left (by simp; omega), List.getElem_append_left hj]
    rw [this]
    simp only [Bool.not_eq_true,decide_eq_false_iff_not]
    exact fun e => hn (e ▸ List.getElem_mem hj)
  rw [this]
theorem insI_cons (u : Int) (l : List Int) (t : Int) : insI (u :: l) t = if u < t then u :: insI l t else t :: u :: l := by
  unfold insI
  by_cases h : u < t
  · simp [h, List.takeWhile_cons, List.dropWhile_cons]
  · simp [h, List.takeWhile_cons, List.dropWhile_cons]
theorem mem_insI (l : List Int) (t u : Int) : u ∈ insI l t ↔ u = t ∨ u ∈ l := by
  induction l with
  | nil => simp [insI]
  | cons v l ih =>
    rw [insI_cons]
    split
    · rw [List.mem_cons, ih, List.mem_cons]
      constructor
      · rintro (h | h | h)
        · exact .inr (.inl h)
        · exact .inl h
        · exact .inr (.inr h)
      · rintro (h | h | h)
        · exact .inr (.inl h)
        · exact .inl h
        · exact .inr (.inr h)
    · rw [List.mem_cons]
theorem insI_asc {l : List Int} {t : Int} (h : l.Pairwise (· < ·)) (ht : t ∉ l) : (insI l t).Pairwise (· < ·) := by
  induction l with
  | nil => simp [insI]
  | cons v l ih =>
    obtain ⟨h1, h2⟩ := List.pairwise_cons.1 h
    rw [List.mem_cons, not_or] at ht
    rw [insI_cons]
    split
    · rename_i q
      refine List.pairwise_cons.2 ⟨fun u hu => ?_, ih h2 ht.2⟩
      rcases (mem_insI _ _ _).1 hu with rfl | hu
      · exact q
      · exact h1 u hu
    · rename_i q
      have hv : t < v := by have := ht.1; omega
      refine List.pairwise_cons.2 ⟨fun u hu => ?_, h⟩
      rcases List.mem_cons.1 hu with rfl | hu
      · exact hv
      · have := h1 u hu; omega
theorem asked_next {h : List Hap} {i : Nat} (hi : i < h.length) (t : Int) : asked (h.take (i + 1)) t = if 0 ≤ asked (h.take i) t then asked (h.take i) t else if isAsk t (h.getD i default) = true then ((h.take i).length : Int) else -1 := by
  rw [take_succD hi, asked_snoc]
theorem candQ_ok {h : List Hap} (hr : rightB h = true) : ∀ i, i ≤ h.length → (candQ h (h.take i)).Pairwise (· < ·) ∧ ∀ t, t ∈ candQ h (h.take i) ↔ 0 ≤ asked (h.take i) t ∧ h.any (goneX t) = false
  | 0, _ => by simp [candQ, asked]
  | i + 1, hi => by
    obtain ⟨h1, h2⟩ := candQ_ok hr i (by omega)
    have hil : i < h.length := by omega
    have hev := right_at hr hil
    rw [eventOk_eq, Bool.and_eq_true] at hev
    have hev := hev.2
    rw [candQ_next hil]
    have ha := asked_next hil
    generalize h.getD i default = x at *
    generalize candQ h (h.take i) = l at *
    by_cases hk : x.k = 1
    · simp only [evB,hk,if_true,Bool.and_eq_true,decide_eq_true_eq] at hev
      have hna := hev.2.1
      by_cases hg : h.any (goneX x.tx) = false
      · rw [candStep, if_pos ⟨hk, hg⟩]
        refine ⟨insI_asc h1 (fun q => by have := (h2 _).1 q; omega), fun t => ?_⟩
        rw [mem_insI, h2, ha]
        by_cases e : t = x.tx
        · rw [e, if_neg (by omega), if_pos (by simp [isAsk, hk])]
          simp [hg]
        · have e' : ¬ x.tx = t := fun q => e q.symm
          rw [show isAsk t x = false by simp [isAsk, e']]
          simp only [e,false_or]
          by_cases q : 0 ≤ asked (h.take i) t
          · rw [if_pos q]
          · rw [if_neg q]
            simp [q]
      · rw [candStep, if_neg (fun q => hg q.2)]
        refine ⟨h1, fun t => ?_⟩
        rw [h2, ha]
        by_cases e : t = x.tx
        · rw [e]; simp [hg]
        · have e' : ¬ x.tx = t := fun q => e q.symm
          rw [show isAsk t x = false by simp [isAsk, e']]
          by_cases q : 0 ≤ asked (h.take i) t
          · rw [if_pos q]
          · rw [if_neg q]
            simp [q]
    · rw [candStep, if_neg (fun q => hk q.1)]
      refine ⟨h1, fun t => ?_⟩
      rw [h2, ha, show isAsk t x = false by simp [isAsk, hk]]
      by_cases q : 0 ≤ asked (h.take i) t
      · rw [if_pos q]
      · rw [if_neg q]
        simp [q]
theorem candL_ok {h : List Hap} (hr : rightB h = true) : (candL h).Pairwise (· < ·) ∧ ∀ t, t ∈ candL h ↔ 0 ≤ asked h t ∧ h.any (goneX t) = false := by
  have := candQ_ok hr h.length (Nat.le_refl _)
  rwa [List.take_length] at this
end Go.Proofs.Try


namespace Go.Proofs.Try
open Go.Proofs.Tryz
open Go.Al
set_option linter.unusedVariables false
set_option linter.unusedSimpArgs false

theorem getM_del {α : Type} {m : List (Int × α)} (h : (keysM m).Nodup) (r s : Int) : getM (delM m r) s = if s = r then none else getM m s := by
  induction m with
  | nil => simp [delM, getM]
  | cons p m ih =>
    simp only [keysM,List.map_cons,List.nodup_cons] at h
    rw [delM]
    split
    · rename_i hp
      split
      · rename_i hs
        rw [hs, ← hp]
        exact getM_none.2 h.1
      · rename_i hs
        rw [getM_cons, if_neg (fun e => hs (e.symm.trans hp))]
    · rename_i hp
      rw [getM_cons, getM_cons, ih h.2]
      by_cases e : s = r
      · rw [if_pos e, if_pos e, if_neg (fun q => hp (q.trans e))]
      · rw [if_neg e, if_neg e]
theorem keys_del_nodup {α : Type} {m : List (Int × α)} {r : Int} (h : (keysM m).Nodup) : (keysM (delM m r)).Nodup := by
  induction m with
  | nil => exact h
  | cons p m ih =>
    simp only [keysM,List.map_cons,List.nodup_cons] at h
    rw [delM]
    split
    · exact h.2
    · rw [keysM, List.map_cons, List.nodup_cons]
      refine ⟨fun hm => h.1 ?_, ih h.2⟩
      have h2 : getM (delM m r) p.1 ≠ none := fun q => getM_none.1 q hm
      rw [getM_del h.2] at h2
      split at h2
      · exact absurd rfl h2
      · exact Decidable.byContradiction fun q => h2 (getM_none.2 q)
theorem getM_cut (n : Int) (m : List (Int × (Int × Int))) (tx t : Int) : getM (cutSp n m tx) t = if t = tx then (getM m t).map (fun s => (s.1, min s.2 n)) else getM m t := by
  unfold cutSp
  cases hg : getM m tx with
  | none =>
    show getM m t = _
    split
    · rename_i e; rw [e, hg]; rfl
    · rfl
  | some s =>
    simp only
    rw [getM_set]
    split
    · rename_i e; rw [e, hg]; rfl
    · rfl
theorem cut_keys (n : Int) (m : List (Int × (Int × Int))) (tx : Int) : keysM (cutSp n m tx) = keysM m := by
  unfold cutSp
  cases hg : getM m tx with
  | none => rfl
  | some s =>
    simp only
    rw [keysM_set, if_pos]
    exact Decidable.byContradiction fun q => by rw [getM_none.2 q] at hg; cases hg
theorem cuts_keys (n : Int) : ∀ (l : List Int) (m : List (Int × (Int × Int))), keysM (l.foldl (cutSp n) m) = keysM m
  | [], m => rfl
  | t :: l, m => by rw [List.foldl_cons, cuts_keys n l, cut_keys]
theorem cuts_ok (n : Int) {P : Int → Int × Int → Prop} : ∀ (l : List Int) (m : List (Int × (Int × Int))), (∀ t s, t ∈ l → P t s → P t (s.1, min s.2 n)) → (∀ t s, getM m t = some s → P t s) → ∀ t s, getM (l.foldl (cutSp n) m) t = some s → P t s
  | [], m, _, h2 => h2
  | u :: l, m, h1, h2 => by
    rw [List.foldl_cons]
    refine cuts_ok n l _ (fun t s ht => h1 t s (List.mem_cons_of_mem _ ht)) fun t s hs => ?_
    rw [getM_cut] at hs
    split at hs
    · rename_i e
      cases hg : getM m t with
      | none => rw [hg] at hs; cases hs
      | some s0 =>
        rw [hg] at hs
        cases hs
        exact h1 t s0 (by rw [e]; exact List.mem_cons_self) (h2 t s0 hg)
    · exact h2 t s hs
def FitS (h : List Hap) (t : Int) (s : Int × Int) : Prop := ∀ l, checkH h l = -1 → 0 < placeH l t → s.1 ≤ placeH l t ∧ placeH l t ≤ s.2
structure SpOk (h g : List Hap) (y : List (Int × (Int × Int)) × List (Int × Int) × Int) : Prop where
  nodup : (keysM y.1).Nodup
  keys : ∀ t, t ∈ keysM y.1 ↔ 0 ≤ asked g t ∧ g.any (goneX t) = false
  gone : ∀ t, g.any (goneX t) = true → 0 ≤ asked g t
  known : ∀ s, getM y.2.1 s = repH g s
  num : y.2.1.length = repN g
  last : y.2.2 = lenH g
  fit : ∀ t s, getM y.1 t = some s → FitS h t s
theorem any_snoc (g : List Hap) (x : Hap) (t : Int) : (g ++ [x]).any (goneX t) = (g.any (goneX t) || goneX t x) := by
  rw [List.any_append]; simp
theorem mem_keys {α : Type} {m : List (Int × α)} {r : Int} : r ∈ keysM m ↔ getM m r ≠ none := by
  rw [ne_eq, getM_none, Decidable.not_not]
theorem rep_snoc (g : List Hap) (x : Hap) (s : Int) : repH (g ++ [x]) s = if (repH g s).isSome then repH g s else if x.k = 2 ∧ x.st = s then some x.tx else none := by
  unfold repH
  rw [List.find?_append]
  cases hf : g.find? fun x => decide (x.k = 2) && decide (x.st = s) with
  | some y => rfl
  | none =>
    simp only [Option.none_or,Option.map_none,Option.isSome_none,Bool.false_eq_true,if_false]
    by_cases q : x.k = 2 ∧ x.st = s
    · rw [if_pos q]; simp [List.find?_cons, q.1, q.2]
    · rw [if_neg q]
      have : (decide (x.k = 2) && decide (x.st = s)) = false := by
        rw [Bool.eq_false_iff]
        simpa using q
      simp [List.find?_cons, this]
theorem rep_latest {g : List Hap} {s : Int} (h : (repH g s).isSome) : s ≤ latest g := by
  unfold repH at h
  rw [Option.isSome_map] at h
  obtain ⟨x, hx⟩ := Option.isSome_iff_exists.1 h
  have h1 := List.find?_some hx
  have h2 := List.mem_of_find?_eq_some hx
  simp only [Bool.and_eq_true,decide_eq_true_eq] at h1
  obtain ⟨i, hi, hg⟩ := mem_at h2
  have := latest_ge hi (j := g.length) hi (by rw [hg]; exact h1.1)
  rw [List.take_length, hg, h1.2] at this
  exact this
theorem place_low {h : List Hap} (hr : rightB h = true) {l : List Int} (hc : checkH h l = -1) {i : Nat} (hi : i < h.length) (hk : (h.getD i default).k = 1) (hp : 0 < placeH l (h.getD i default).tx) : lenH (h.take i) ≤ placeH l (h.getD i default).tx := by
  obtain ⟨hb, he⟩ := check_ok.1 hc
  have hev := right_at hr hi
  rw [eventOk_eq, Bool.and_eq_true] at hev
  have hev := hev.2
  simp only [evB,hk,if_true,Bool.and_eq_true,decide_eq_true_eq] at hev
  have hna := hev.2.1
  have hbi := hb i hi
  unfold badAt at hbi
  simp only [hk,if_true] at hbi
  rw [decide_eq_true hp, Bool.true_and, decide_eq_false_iff_not] at hbi
  rcases lenH_at h i (by omega) with h0 | ⟨j, hj, hkj, hst⟩
  · omega
  · rw [← hst]
    rcases hkj with hkj | hkj
    · have := latest_ge (h := h) (i := j) (j := i) (by omega) hj hkj
      omega
    · obtain ⟨_, s1, s2, honce, s3⟩ := see_facts hr hc (i := j) (by omega) hkj
      obtain ⟨q, hq, hgq, hpq, hz⟩ := place_inv hp
      refine Decidable.byContradiction fun hlt => ?_
      obtain ⟨k, hk1, hk2⟩ := s3 q (by omega) (by rw [hgq]; exact hz)
      rw [hgq] at hk1
      have := findIdx_take hk1 (m := i) (by omega)
      rcases asked_lt (h.take i) (h.getD i default).tx with ⟨_, q2⟩ | ⟨n, q1, _, _⟩
      · rw [q2] at this; cases this
      · omega
theorem spOk {h : List Hap} (hr : rightB h = true) : ∀ i, i ≤ h.length → SpOk h (h.take i) (spansN h i)
  | 0, _ => ⟨.nil, fun t => by simp [spansN, keysM, asked], fun t q => by simp at q, fun s => by simp [spansN, getM, repH], rfl, rfl, fun t s q => by simp [spansN, getM] at q⟩
  | i + 1, hi => by
    have s := spOk hr i (by omega)
    have hil : i < h.length := by omega
    have hev := right_at hr hil
    rw [eventOk_eq, Bool.and_eq_true] at hev
    have hev := hev.2
    have hplow := fun l hc => place_low hr (l := l) hc hil
    have hlen := lenH_next hil
    have hb := fun l (hc : checkH h l = -1) => (check_ok.1 hc).1 i hil
    have hend := fun l (hc : checkH h l = -1) => (check_ok.1 hc).2
    have hmax := lenH_max hr
    rw [spansN]
    have htk := take_succD hil
    generalize hy : spansN h i = y at *
    generalize hx : h.getD i default = x at *
    rw [htk] at hlen ⊢
    have hcase : x.k = 1 ∨ x.k = 2 ∨ x.k = 3 ∨ x.k = 4 ∨ x.k = 5 ∨ (¬ x.k = 1 ∧ ¬ x.k = 2 ∧ ¬ x.k = 3 ∧ ¬ x.k = 4 ∧ ¬ x.k = 5) := by omega
    rcases hcase with hk | hk | hk | hk | hk | ⟨k1, k2, k3, k4, k5⟩
    · simp only [evB,hk,if_true,Bool.and_eq_true,decide_eq_true_eq] at hev
      have hna := hev.2.1
      have hgn : ∀ t, goneX t x = false := fun t => by simp [goneX, hk]
      rw [spStep, if_pos hk]
      refine ⟨keys_set_nodup s.nodup, fun t => ?_, fun t q => ?_, fun st => ?_, ?_, ?_, fun t sp q => ?_⟩
      · rw [mem_keys, getM_set, asked_snoc, any_snoc, hgn, Bool.or_false]
        by_cases e : t = x.tx
        · rw [if_pos e, e, if_neg (by omega), if_pos (by simp [isAsk, hk])]
          have : (h.take i).any (goneX x.tx) = false := by
            rw [Bool.eq_false_iff]
            intro q
            have := s.gone _ q
            omega
          simp [this]
        · have e' : ¬ x.tx = t := fun q => e q.symm
          rw [if_neg e, ← mem_keys, s.keys, show isAsk t x = false by simp [isAsk, e']]
          by_cases q : 0 ≤ asked (h.take i) t
          · rw [if_pos q]
          · rw [if_neg q]
            simp [q]
      · rw [any_snoc, hgn, Bool.or_false] at q
        have := s.gone t q
        rw [asked_snoc, if_pos this]
        exact this
      · rw [s.known, rep_snoc]
        cases repH (h.take i) st <;> simp [hk]
      · rw [s.num]
        unfold repN
        rw [List.filter_append]
        simp [hk]
      · rw [s.last, hlen, if_neg (by omega)]
      · simp only [getM_set] at q
        split at q
        · rename_i e
          cases q
          intro l hc hp
          rw [e] at hp ⊢
          have h1 := hplow l hc hk hp
          have h2 := place_le l x.tx
          have h3 := hend l hc
          unfold endOk at h3
          rw [Bool.and_eq_true, Bool.and_eq_true, decide_eq_true_eq] at h3
          rw [s.last]
          refine ⟨h1, ?_⟩
          have := h3.1.1
          simp only
          omega
        · exact s.fit t sp q
    · simp only [evB,hk,show ¬ (2 : Int) = 1 by decide,if_false,if_true,Bool.and_eq_true,decide_eq_true_eq] at hev
      obtain ⟨hop, hnb, hlat⟩ := hev
      have hask := open_asked hop
      have hgn : ∀ t, goneX t x = decide (x.tx = t) := fun t => by simp [goneX, hk]
      have hia : ∀ t, isAsk t x = false := fun t => by simp [isAsk, hk]
      have hre : repH (h.take i) x.st = none := by
        cases hq : repH (h.take i) x.st with
        | none => rfl
        | some v =>
          have := rep_latest (g := h.take i) (s := x.st) (by rw [hq]; rfl)
          omega
      have hasn : ∀ t, asked (h.take i ++ [x]) t = asked (h.take i) t := fun t => by
        rw [asked_snoc, hia]
        by_cases q : 0 ≤ asked (h.take i) t
        · rw [if_pos q]
        · rw [if_neg q]
          rcases asked_lt (h.take i) t with ⟨q1, _⟩ | ⟨n, q1, _⟩
          · rw [q1]; rfl
          · omega
      rw [spStep, if_neg (by omega), if_pos hk]
      refine ⟨keys_del_nodup s.nodup, fun t => ?_, fun t q => ?_, fun st => ?_, ?_, ?_, fun t sp q => ?_⟩
      · rw [mem_keys, getM_del s.nodup, hasn, any_snoc, hgn]
        by_cases e : t = x.tx
        · rw [if_pos e, e]; simp
        · have e' : ¬ x.tx = t := fun q => e q.symm
          rw [if_neg e, ← mem_keys, s.keys, decide_eq_false e', Bool.or_false]
      · rw [any_snoc, hgn, Bool.or_eq_true, decide_eq_true_eq] at q
        rw [hasn]
        rcases q with q | q
        · exact s.gone t q
        · rw [← q]; exact hask
      · rw [getM_set, s.known, rep_snoc]
        by_cases e : st = x.st
        · rw [if_pos e, e, hre, if_neg (by simp), if_pos ⟨hk, rfl⟩]
        · have e' : ¬ x.st = st := fun q => e q.symm
          rw [if_neg e]
          cases repH (h.take i) st <;> simp [e']
      · rw [setM_len_out, s.num]
        · unfold repN
          rw [List.filter_append]
          simp [hk]
        · rw [← getM_none, s.known, hre]
      · rw [s.last, hlen, if_pos (.inl hk)]
      · simp only [getM_del s.nodup] at q
        split at q
        · cases q
        · exact s.fit t sp q
    · simp only [evB,hk,show ¬ (3 : Int) = 1 by decide,show ¬ (3 : Int) = 2 by decide,if_false,if_true] at hev
      have hask := open_asked hev
      have hgn : ∀ t, goneX t x = decide (x.tx = t) := fun t => by simp [goneX, hk]
      have hia : ∀ t, isAsk t x = false := fun t => by simp [isAsk, hk]
      have hasn : ∀ t, asked (h.take i ++ [x]) t = asked (h.take i) t := fun t => by
        rw [asked_snoc, hia]
        by_cases q : 0 ≤ asked (h.take i) t
        · rw [if_pos q]
        · rw [if_neg q]
          rcases asked_lt (h.take i) t with ⟨q1, _⟩ | ⟨n, q1, _⟩
          · rw [q1]; rfl
          · omega
      rw [spStep, if_neg (by omega), if_neg (by omega), if_pos hk]
      refine ⟨keys_del_nodup s.nodup, fun t => ?_, fun t q => ?_, fun st => ?_, ?_, ?_, fun t sp q => ?_⟩
      · rw [mem_keys, getM_del s.nodup, hasn, any_snoc, hgn]
        by_cases e : t = x.tx
        · rw [if_pos e, e]; simp
        · have e' : ¬ x.tx = t := fun q => e q.symm
          rw [if_neg e, ← mem_keys, s.keys, decide_eq_false e', Bool.or_false]
      · rw [any_snoc, hgn, Bool.or_eq_true, decide_eq_true_eq] at q
        rw [hasn]
        rcases q with q | q
        · exact s.gone t q
        · rw [← q]; exact hask
      · rw [s.known, rep_snoc]
        cases repH (h.take i) st <;> simp [hk]
      · rw [s.num]
        unfold repN
        rw [List.filter_append]
        simp [hk]
      · rw [s.last, hlen, if_neg (by omega)]
      · simp only [getM_del s.nodup] at q
        split at q
        · cases q
        · exact s.fit t sp q
    · have hgn : ∀ t, goneX t x = false := fun t => by simp [goneX, hk]
      have hia : ∀ t, isAsk t x = false := fun t => by simp [isAsk, hk]
      have hasn : ∀ t, asked (h.take i ++ [x]) t = asked (h.take i) t := fun t => by
        rw [asked_snoc, hia]
        by_cases q : 0 ≤ asked (h.take i) t
        · rw [if_pos q]
        · rw [if_neg q]
          rcases asked_lt (h.take i) t with ⟨q1, _⟩ | ⟨n, q1, _⟩
          · rw [q1]; rfl
          · omega
      rw [spStep, if_neg (by omega), if_neg (by omega), if_neg (by omega), if_pos hk]
      have hck := cuts_keys (nextS (h.drop i)) (openL (h.take i)) y.1
      refine ⟨by rw [hck]; exact s.nodup, fun t => ?_, fun t q => ?_, fun st => ?_, ?_, ?_, fun t sp q => ?_⟩
      · rw [hck, s.keys, hasn, any_snoc, hgn, Bool.or_false]
      · rw [any_snoc, hgn, Bool.or_false] at q
        rw [hasn]
        exact s.gone t q
      · rw [s.known, rep_snoc]
        cases repH (h.take i) st <;> simp [hk]
      · rw [s.num]
        unfold repN
        rw [List.filter_append]
        simp [hk]
      · rw [s.last, hlen, if_neg (by omega)]
      · refine cuts_ok (nextS (h.drop i)) (P := FitS h) _ _ (fun t s0 ht h0 l hc hp => ?_) s.fit t sp q
        obtain ⟨h1, h2⟩ := h0 l hc hp
        refine ⟨h1, ?_⟩
        have hbi := hb l hc
        unfold badAt at hbi
        rw [hx] at hbi
        simp only at hbi
        rw [if_neg (by omega), if_neg (by omega), if_neg (by omega), if_pos hk] at hbi
        have := List.any_eq_false.1 hbi t ht
        simp only [decide_eq_true_eq] at this
        simp only
        omega
    · have hgn : ∀ t, goneX t x = false := fun t => by simp [goneX, hk]
      have hia : ∀ t, isAsk t x = false := fun t => by simp [isAsk, hk]
      have hasn : ∀ t, asked (h.take i ++ [x]) t = asked (h.take i) t := fun t => by
        rw [asked_snoc, hia]
        by_cases q : 0 ≤ asked (h.take i) t
        · rw [if_pos q]
        · rw [if_neg q]
          rcases asked_lt (h.take i) t with ⟨q1, _⟩ | ⟨n, q1, _⟩
          · rw [q1]; rfl
          · omega
      rw [spStep, if_neg (by omega), if_neg (by omega), if_neg (by omega), if_neg (by omega), if_pos hk]
      refine ⟨s.nodup, fun t => ?_, fun t q => ?_, fun st => ?_, ?_, ?_, s.fit⟩
      · rw [s.keys, hasn, any_snoc, hgn, Bool.or_false]
      · rw [any_snoc, hgn, Bool.or_false] at q
        rw [hasn]
        exact s.gone t q
      · rw [s.known, rep_snoc]
        cases repH (h.take i) st <;> simp [hk]
      · rw [s.num]
        unfold repN
        rw [List.filter_append]
        simp [hk]
      · rw [s.last, hlen, if_pos (.inr hk)]
    · exfalso
      simp [evB, k1, k2, k3, k4, k5] at hev
theorem find_congr {α : Type} {f g : Int → Option α} : ∀ (l : List Int), (∀ t ∈ l, f t = g t) → l.findSome? f = l.findSome? g
  | [], _ => rfl
  | t :: l, h => by rw [List.findSome?_cons, List.findSome?_cons, h t List.mem_cons_self, find_congr l fun u hu => h u (List.mem_cons_of_mem _ hu)]
theorem srch_refS {h : List Hap} (hr : rightB h = true) {kn : Int → Option Int} (hkn : ∀ s, kn s = repH h s) {txs : List Int} {sp : Int → Int × Int} (hz : ∀ t ∈ txs, t ≠ 0) (hfit : ∀ t ∈ txs, FitS h t (sp t)) {n : Nat} : ∀ (f : Nat) (o : List Int), o.length + f = n + 1 → srch h (seenL h) n kn txs sp f o = refS h (txs ++ [0]) n f o
  | 0, o, _ => rfl
  | f + 1, o, hf => by
    by_cases hs : ((seenL h o.length).any fun x => !decide (x.rs = stL h o o.length)) = true
    · rw [seen_prune hr hs, srch, if_pos hs]
    · rw [srch, if_neg hs, refS]
      by_cases hn : o.length = n
      · rw [if_pos hn, if_pos (show (o.length : Int) = n by omega)]
        by_cases hc : checkH h o = -1
        · rw [if_pos hc, if_pos (show checkH h o < 0 by omega)]
        · rw [if_neg hc, if_neg (fun q => hc (check_neg q))]
      · rw [if_neg hn, if_neg (show ¬ (o.length : Int) = n by omega), hkn]
        cases repH h ((o.length : Int) + 1) with
        | some t => exact srch_refS hr hkn hz hfit f _ (by simp; omega)
        | none =>
          simp only
          rw [List.findSome?_append]
          have h0 : [(0 : Int)].findSome? (fun t => if t ≠ 0 ∧ 0 < plc o t then none else refS h (txs ++ [0]) n f (o ++ [t])) = refS h (txs ++ [0]) n f (o ++ [0]) := by
            rw [List.findSome?_cons, List.findSome?_nil, if_neg (by simp)]
            cases refS h (txs ++ [0]) n f (o ++ [0]) <;> rfl
          have h00 : srch h (seenL h) n kn txs sp f (o ++ [0]) = refS h (txs ++ [0]) n f (o ++ [0]) := srch_refS hr hkn hz hfit f (o ++ [0]) (by simp; omega)
          rw [h0, ← h00]
          have hcg : txs.findSome? (fun tx => if ((o.length : Int) + 1 < (sp tx).1 ∨ (sp tx).2 < (o.length : Int) + 1) ∨ tx ∈ o then none else srch h (seenL h) n kn txs sp f (o ++ [tx])) = txs.findSome? (fun t => if t ≠ 0 ∧ 0 < plc o t then none else refS h (txs ++ [0]) n f (o ++ [t])) := by
            refine find_congr _ fun t ht => ?_
            have hih := srch_refS (n := n) hr hkn hz hfit f (o ++ [t]) (by simp; omega)
            by_cases hm : t ∈ o
            · rw [if_pos (.inr hm), if_pos ⟨hz t ht, plc_mem.2 hm⟩]
            · rw [if_neg (c := t ≠ 0 ∧ 0 < plc o t) (fun q => hm (plc_mem.1 q.2)), ← hih]
              split
              · rename_i q
                rw [hih]
                cases e : refS h (txs ++ [0]) n f (o ++ [t]) with
                | none => rfl
                | some l =>
                  exfalso
                  obtain ⟨⟨r, rfl⟩, hc⟩ := refS_spec _ _ _ e
                  have hpl := place_snoc (r := r) (hz t ht) hm
                  have := hfit t ht _ hc (by rw [hpl]; omega)
                  rw [hpl] at this
                  rcases q with q | q
                  · omega
                  · exact hm q
              · rfl
          rw [hcg]
          cases txs.findSome? (fun t => if t ≠ 0 ∧ 0 < plc o t then none else refS h (txs ++ [0]) n f (o ++ [t])) <;> rfl
theorem lt_eq {l l' : List Int} (h : l.Pairwise (· < ·)) (h' : l'.Pairwise (· < ·)) (hm : ∀ t, t ∈ l ↔ t ∈ l') : l = l' := by
  have hnd : ∀ {l : List Int}, l.Pairwise (· < ·) → l.Nodup := fun {l} hl => List.nodup_iff_pairwise_ne.2 (List.Pairwise.imp (fun {a b} (hab : a < b) => by omega) hl)
  have hp : l.Perm l' := (List.perm_ext_iff_of_nodup (hnd h) (hnd h')).2 hm
  exact hp.eq_of_pairwise (fun a b _ _ h1 h2 => by omega) h h'
theorem explain_ref (h : List Hap) : explainH h = ((refE h).1.getD [], (refE h).1.isSome, (refE h).2) := by
  by_cases hr : rightB h = true
  rotate_left
  · replace hr : rightB h = false := by simpa using hr
    rw [explainH, refE, if_pos hr, if_pos hr]
    rfl
  have hr' : ¬ rightB h = false := by simp [hr]
  have s := spOk hr h.length (Nat.le_refl _)
  rw [List.take_length] at s
  have hsp : spansN h h.length = spansH h := rfl
  rw [hsp] at s
  rw [explainH, if_neg hr', s.num]
  by_cases h8 : 8 < lenH h - (repN h : Int)
  · have hE : refE h = (none, 2) := by rw [refE, if_neg hr', if_pos h8]
    rw [if_pos h8, hE]; rfl
  have hE : refE h = (refS h (candL h ++ [0]) (lenH h) ((lenH h).toNat + 1) [], 0) := by rw [refE, if_neg hr', if_neg h8]
  rw [if_neg h8, hE]
  obtain ⟨c1, c2⟩ := candL_ok hr
  have hkeys : ∀ t, t ∈ candL h ↔ t ∈ keysM (spansH h).1 := fun t => by rw [c2, s.keys]
  have hsrt : srt ((spansH h).1.map (·.1)) = candL h := by
    have hp := srt_perm (keysM (spansH h).1)
    refine lt_eq ?_ c1 fun t => ?_
    · have hne : (srt (keysM (spansH h).1)).Nodup := hp.nodup_iff.2 s.nodup
      exact ((srt_asc _).and (List.nodup_iff_pairwise_ne.1 hne)).imp fun {a b} q => by
        have := q.1; have := q.2; omega
    · rw [hkeys]
      exact hp.mem_iff
  have hz : ∀ t ∈ candL h, t ≠ 0 := fun t ht e => by
    have := ((c2 t).1 ht).1
    rcases asked_lt h t with ⟨q, _⟩ | ⟨n, _, _, q⟩
    · omega
    · rw [e, no_zero hr] at q; cases q
  have hfit : ∀ t ∈ candL h, FitS h t ((fun tx => (getM (spansH h).1 tx).getD (0, 0)) t) := fun t ht => by
    have := (hkeys t).1 ht
    rw [mem_keys] at this
    cases hg : getM (spansH h).1 t with
    | none => exact absurd hg this
    | some v =>
      simp only [hg,Option.getD_some]
      exact s.fit t v hg
  have hpos := lenH_pos h
  have hn : ((lenH h).toNat : Int) = lenH h := Int.toNat_of_nonneg hpos
  rw [hsrt, srch_refS hr s.known hz hfit _ _ (by simp), hn]
  cases refS h (candL h ++ [0]) (lenH h) ((lenH h).toNat + 1) [] <;> rfl
end Go.Proofs.Try

