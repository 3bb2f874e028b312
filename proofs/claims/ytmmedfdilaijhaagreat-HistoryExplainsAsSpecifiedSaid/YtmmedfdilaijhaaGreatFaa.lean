/-
  A part of the proof: see the text of the law.
-/
import Derived.Test.YtmmedfdilaijhaaGreatEaul
import Derived.Test.YtmmedfdilaijhaaGreatPaf
set_option linter.unusedSimpArgs false
set_option linter.unusedVariables false
namespace Go.Proofs.Try
open Go.Proofs.Tryz
open Go.Al
set_option maxRecDepth 100000
def mc12 : MC :=
(.seq (.ops [(none,.v (.mov 2 (.c (.int .i64 0))))])
(.seq (.ops [(none,.v (.mov 5 (.t 0))),
(none,.e (.call (some 6) 14 [(.t 5)])),
(none,.v (.mov 3 (.t 6)))])
(.seq (.seq (.ops [(none,.v (.mov 4 (.c (.int .i64 0))))])
(.block 0 (.loop (.seq (.seq (.ops [(none,.v (.mov 7 (.t 4))),
(none,.v (.mov 8 (.t 0))),
(none,.p (.len 9 (.t 8))),
(none,.v (.bin 10 .lss false (.t 7) (.t 9)))])
(.cond 10
.skip
(.exit 0)))
(.seq (.block 1 (.seq (.ops [(none,.v (.mov 13 (.t 0))),
(none,.v (.mov 14 (.t 4))),
(none,.p (.idx 15 5 (.t 13) (.t 14))),
(none,.v (.fld 16 0 (.t 15))),
(none,.v (.load 17 false 1 (.t 16))),
(none,.v (.bin 18 .eql false (.t 17) (.c (.int .i64 2))))])
(.cond 18
(.ops [(none,.v (.mov 19 (.t 3))),
(none,.v (.bin 20 .sub false (.t 19) (.c (.int .i64 1)))),
(none,.v (.mov 3 (.t 20)))])
.skip)))
(.ops [(none,.v (.mov 11 (.t 4))),
(none,.v (.bin 12 .add false (.t 11) (.c (.int .i64 1)))),
(none,.v (.mov 4 (.t 12)))]))))))
(.seq (.ops [(none,.v (.mov 21 (.t 3))),
(none,.v (.mov 2 (.t 21)))])
.ret))))
theorem ok12 : FnOk E 12 22 [.tmp 2] mc12 := .of func12 (by kernel_rfl) (by kernel_rfl) (by kernel_rfl) (by kernel_rfl) (by kernel_rfl)
def mc14 : MC :=
(.seq (.ops [(none,.v (.mov 2 (.c (.int .i64 0))))])
(.seq (.ops [(none,.v (.mov 3 (.c (.int .i64 0))))])
(.seq (.seq (.ops [(none,.v (.mov 4 (.c (.int .i64 0))))])
(.block 0 (.loop (.seq (.seq (.ops [(none,.v (.mov 5 (.t 4))),
(none,.v (.mov 6 (.t 0))),
(none,.p (.len 7 (.t 6))),
(none,.v (.bin 8 .lss false (.t 5) (.t 7)))])
(.cond 8
.skip
(.exit 0)))
(.seq (.block 1 (.seq (.ops [(none,.v (.mov 11 (.t 0))),
(none,.v (.mov 12 (.t 4))),
(none,.p (.idx 13 5 (.t 11) (.t 12))),
(none,.v (.fld 14 0 (.t 13))),
(none,.v (.load 15 false 1 (.t 14))),
(none,.v (.bin 16 .eql false (.t 15) (.c (.int .i64 2)))),
(none,.v (.mov 17 (.t 16))),
(some (17,false),.v (.mov 18 (.t 0))),
(some (17,false),.v (.mov 19 (.t 4))),
(some (17,false),.p (.idx 20 5 (.t 18) (.t 19))),
(some (17,false),.v (.fld 21 0 (.t 20))),
(some (17,false),.v (.load 22 false 1 (.t 21))),
(some (17,false),.v (.bin 23 .eql false (.t 22) (.c (.int .i64 5)))),
(none,.v (.pick 24 (.t 17) (.c (.bool true)) (.t 23)))])
(.cond 24
(.ops [(none,.v (.mov 25 (.t 3))),
(none,.v (.mov 26 (.t 0))),
(none,.v (.mov 27 (.t 4))),
(none,.p (.idx 28 5 (.t 26) (.t 27))),
(none,.v (.fld 29 2 (.t 28))),
(none,.v (.load 30 false 1 (.t 29))),
(none,.v (.max 31 [(.t 25),(.t 30)])),
(none,.v (.mov 3 (.t 31)))])
.skip)))
(.ops [(none,.v (.mov 9 (.t 4))),
(none,.v (.bin 10 .add false (.t 9) (.c (.int .i64 1)))),
(none,.v (.mov 4 (.t 10)))]))))))
(.seq (.ops [(none,.v (.mov 32 (.t 3))),
(none,.v (.mov 2 (.t 32)))])
.ret))))
theorem ok14 : FnOk E 14 33 [.tmp 2] mc14 := .of func14 (by kernel_rfl) (by kernel_rfl) (by kernel_rfl) (by kernel_rfl) (by kernel_rfl)
def mc58 : MC :=
(.seq (.ops [(none,.v (.mov 4 (.c (.int .i64 0)))),
(none,.v (.mov 5 (.c (.bool false))))])
(.seq (.seq (.ops [(none,.v (.mov 6 (.c (.int .i64 0))))])
(.block 0 (.loop (.seq (.seq (.ops [(none,.v (.mov 7 (.t 6))),
(none,.v (.mov 8 (.t 0))),
(none,.p (.len 9 (.t 8))),
(none,.v (.bin 10 .lss false (.t 7) (.t 9)))])
(.cond 10
.skip
(.exit 0)))
(.seq (.block 1 (.seq (.ops [(none,.v (.mov 13 (.t 0))),
(none,.v (.mov 14 (.t 6))),
(none,.p (.idx 15 5 (.t 13) (.t 14))),
(none,.v (.fld 16 0 (.t 15))),
(none,.v (.load 17 false 1 (.t 16))),
(none,.v (.bin 18 .eql false (.t 17) (.c (.int .i64 2)))),
(none,.v (.mov 19 (.t 18))),
(some (19,true),.v (.mov 20 (.t 0))),
(some (19,true),.v (.mov 21 (.t 6))),
(some (19,true),.p (.idx 22 5 (.t 20) (.t 21))),
(some (19,true),.v (.fld 23 2 (.t 22))),
(some (19,true),.v (.load 24 false 1 (.t 23))),
(some (19,true),.v (.mov 25 (.t 1))),
(some (19,true),.v (.bin 26 .eql false (.t 24) (.t 25))),
(none,.v (.pick 27 (.t 19) (.t 26) (.c (.bool false))))])
(.cond 27
(.seq (.ops [(none,.v (.mov 28 (.t 0))),
(none,.v (.mov 29 (.t 6))),
(none,.p (.idx 30 5 (.t 28) (.t 29))),
(none,.v (.fld 31 1 (.t 30))),
(none,.v (.load 32 false 1 (.t 31))),
(none,.v (.mov 4 (.t 32))),
(none,.v (.mov 5 (.c (.bool true))))])
.ret)
.skip)))
(.ops [(none,.v (.mov 11 (.t 6))),
(none,.v (.bin 12 .add false (.t 11) (.c (.int .i64 1)))),
(none,.v (.mov 6 (.t 12)))]))))))
(.seq (.ops [(none,.v (.mov 4 (.c (.int .i64 0)))),
(none,.v (.mov 5 (.c (.bool false))))])
.ret)))
theorem ok58 : FnOk E 58 33 [.tmp 4, .tmp 5] mc58 := .of func58 (by kernel_rfl) (by kernel_rfl) (by kernel_rfl) (by kernel_rfl) (by kernel_rfl)
def mc59 : MC :=
(.seq (.ops [(none,.v (.mov 4 (.c (.int .i64 0))))])
(.seq (.seq (.ops [(none,.v (.mov 5 (.c (.int .i64 0))))])
(.block 0 (.loop (.seq (.seq (.ops [(none,.v (.mov 6 (.t 5))),
(none,.v (.mov 7 (.t 0))),
(none,.p (.len 8 (.t 7))),
(none,.v (.bin 9 .lss false (.t 6) (.t 8)))])
(.cond 9
.skip
(.exit 0)))
(.seq (.block 1 (.seq (.ops [(none,.v (.mov 12 (.t 0))),
(none,.v (.mov 13 (.t 5))),
(none,.p (.idx 14 1 (.t 12) (.t 13))),
(none,.v (.load 15 false 1 (.t 14))),
(none,.v (.mov 16 (.t 1))),
(none,.v (.bin 17 .eql false (.t 15) (.t 16)))])
(.cond 17
(.seq (.ops [(none,.v (.mov 18 (.t 5))),
(none,.v (.bin 19 .add false (.t 18) (.c (.int .i64 1)))),
(none,.v (.mov 4 (.t 19)))])
.ret)
.skip)))
(.ops [(none,.v (.mov 10 (.t 5))),
(none,.v (.bin 11 .add false (.t 10) (.c (.int .i64 1)))),
(none,.v (.mov 5 (.t 11)))]))))))
(.seq (.ops [(none,.v (.mov 4 (.c (.int .i64 0))))])
.ret)))
theorem ok59 : FnOk E 59 20 [.tmp 4] mc59 := .of func59 (by kernel_rfl) (by kernel_rfl) (by kernel_rfl) (by kernel_rfl) (by kernel_rfl)
end Go.Proofs.Try
namespace Go.Proofs.Try
open Go.Proofs.Tryz
open Go.Al
set_option linter.unusedVariables false
set_option linter.unusedSimpArgs false
set_option maxRecDepth 20000
set_option maxHeartbeats 8000000

theorem c14 (h : List Hap) : ACalls E.P 14 [.view 5 (h.map Hap.av)] [] (fun r H => r = .int .i64 (lenH h) ∧ H = []) := by
  have hmax := maxLen_eq
  refine ok14.acalls hE hm (by simp) fun N hN => ?_
  unfold mc14
  simp only [lA,ptrCells,ptrAdd,isNil,readsV,readsP,isCall,wrote,srcOf,seval]
  refine loop_i (fun i : Nat => i ≤ h.length) (fun i => ⟨[(0, .view 5 (h.map Hap.av)),(3, .int .i64 (lenH (h.take i))),(4, .int .i64 i)], []⟩) (fun i => h.length - i) 0 (by omega) (Ent.to [] false (by simp) (by simp) rfl (by simp only [lP,seval,List.take_zero,lenH,List.foldl_nil] <;> (try simp) <;> (try omega)) (by simp only [lP,seval,List.take_zero,lenH,List.foldl_nil] <;> (try simp) <;> (try omega))) ?_
  rintro i hi
  by_cases hil : i < h.length
  · have hnx := lenH_next hil
    generalize lenH (h.take i) = n at *
    generalize hx : h.getD i default = x at *
    repeat' (first | (with_reducible apply St.o; constructor) <;> intro _ | (with_reducible first | refine LenR_i fun _ => ?_ | refine And.intro (by omega) ?_ | (apply Sp.o; constructor) | refine mkl_own ?_ | refine frz0_i ?_) | simp (maxSteps := 1000000) (disch := omega) only [lE,ptrCells,ptrAdd,isNil,readsV,readsP,isCall,wrote,srcOf,seval,IdxR_haps,hx,Int.toNat_natCast,List.length_map])
    all_goals try (exfalso; omega)
    all_goals first
      | (rw [if_pos (by omega)] at hnx
         have hm : max n x.st = if x.st > n then x.st else n := by split <;> omega
         rw [hm] at hnx
         exact back_i (i + 1) (by omega) (by omega) (Ent.to [] false (by simp) (by simp) rfl (by simp only [lP,seval,hnx] <;> (try simp) <;> (try omega)) (by simp only [lP,seval,hnx] <;> (try simp) <;> (try omega))))
      | (rw [if_neg (by omega)] at hnx
         exact back_i (i + 1) (by omega) (by omega) (Ent.to [] false (by simp) (by simp) rfl (by simp only [lP,seval,hnx] <;> (try simp) <;> (try omega)) (by simp only [lP,seval,hnx] <;> (try simp) <;> (try omega))))
  · have hie : i = h.length := by omega
    subst hie
    rw [List.take_length]
    repeat' (first | (with_reducible apply St.o; constructor) <;> intro _ | (with_reducible first | refine LenR_i fun _ => ?_ | refine And.intro (by omega) ?_ | (apply Sp.o; constructor) | refine mkl_own ?_ | refine frz0_i ?_) | simp (maxSteps := 1000000) (disch := omega) only [lE,ptrCells,ptrAdd,isNil,readsV,readsP,isCall,wrote,srcOf,seval,List.length_map,Int.lt_irrefl,decide_false])
    exact keep_n rfl
def repN (h : List Hap) : Nat := (h.filter fun x => decide (x.k = 2)).length
theorem repN_next {h : List Hap} {i : Nat} (hi : i < h.length) : repN (h.take (i + 1)) = repN (h.take i) + if (h.getD i default).k = 2 then 1 else 0 := by
  rw [take_succD hi]
  unfold repN
  rw [List.filter_append, List.length_append]
  by_cases hk : (h.getD i default).k = 2
  · rw [if_pos hk]; simp only [List.filter_cons,hk,decide_true,if_true,List.filter_nil,List.length_cons,List.length_nil]
  · rw [if_neg hk]; simp only [List.filter_cons,decide_eq_false hk,Bool.false_eq_true,if_false,List.filter_nil,List.length_nil]
theorem repN_le (h : List Hap) : repN h ≤ h.length := List.length_filter_le _ _
theorem c12 (h : List Hap) (hr : rightB h = true) : ACalls E.P 12 [.view 5 (h.map Hap.av)] [] (fun r H => r = .int .i64 (lenH h - repN h) ∧ H = []) := by
  have hmax := maxLen_eq
  have h14 := c14 h
  have h0 := lenH_pos h
  have h1 := lenH_max hr
  have h4 := rightB_len hr
  refine ok12.acalls hE hm (by simp) fun N hN => ?_
  unfold mc12
  simp only [lA,ptrCells,ptrAdd,isNil,readsV,readsP,isCall,wrote,srcOf,seval]
  generalize lenH h = L at *
  repeat' (first | (with_reducible apply St.o; constructor) <;> intro _ | (with_reducible first | refine LenR_i fun _ => ?_ | refine And.intro (by omega) ?_ | (apply Sp.o; constructor) | refine mkl_own ?_ | refine frz0_i ?_) | ((with_reducible apply Sc.o true; constructor); simp only [lP,seval]; refine ⟨_,h14,?_⟩; rintro _ _ ⟨rfl,rfl⟩; simp only [lA,lP,ptrCells,ptrAdd,isNil,readsV,readsP,isCall,wrote,srcOf,seval]) | simp (maxSteps := 1000000) (disch := omega) only [lE,ptrCells,ptrAdd,isNil,readsV,readsP,isCall,wrote,srcOf,seval])
  refine loop_i (fun i : Nat => i ≤ h.length) (fun i => ⟨[(0, .view 5 (h.map Hap.av)),(3, .int .i64 (L - repN (h.take i))),(4, .int .i64 i)], []⟩) (fun i => h.length - i) 0 (by omega) (Ent.to [] false (by simp) (by simp) rfl (by simp only [lP,seval,List.take_zero,repN,List.filter_nil,List.length_nil,Int.natCast_zero,Int.sub_zero] <;> (try simp) <;> (try omega)) (by simp only [lP,seval,List.take_zero,repN,List.filter_nil,List.length_nil,Int.natCast_zero,Int.sub_zero] <;> (try simp) <;> (try omega))) ?_
  rintro i hi
  by_cases hil : i < h.length
  · have hnx := repN_next hil
    have hle := repN_le (h.take i)
    rw [List.length_take] at hle
    generalize repN (h.take i) = n at *
    generalize hx : h.getD i default = x at *
    repeat' (first | (with_reducible apply St.o; constructor) <;> intro _ | (with_reducible first | refine LenR_i fun _ => ?_ | refine And.intro (by omega) ?_ | (apply Sp.o; constructor) | refine mkl_own ?_ | refine frz0_i ?_) | simp (maxSteps := 1000000) (disch := omega) only [lE,ptrCells,ptrAdd,isNil,readsV,readsP,isCall,wrote,srcOf,seval,IdxR_haps,hx,Int.toNat_natCast,List.length_map])
    all_goals try (exfalso; omega)
    · rename_i hk
      rw [if_pos hk] at hnx
      have hw : IntKind.i64.wrap (L - (n : Int) - 1) = L - (n : Int) - 1 := wrap_i64 (by omega) (by omega)
      have hq : (L - ((n + 1 : Nat) : Int)) = L - (n : Int) - 1 := by omega
      exact back_i (i + 1) (by omega) (by omega) (Ent.to [] false (by simp) (by simp) rfl (by simp only [lP,seval,hnx,hq,hw] <;> (try simp) <;> (try omega)) (by simp only [lP,seval,hnx,hq,hw] <;> (try simp) <;> (try omega)))
    · rename_i hk
      rw [if_neg hk] at hnx
      exact back_i (i + 1) (by omega) (by omega) (Ent.to [] false (by simp) (by simp) rfl (by simp only [lP,seval,hnx,Nat.add_zero] <;> (try simp) <;> (try omega)) (by simp only [lP,seval,hnx,Nat.add_zero] <;> (try simp) <;> (try omega)))
  · have hie : i = h.length := by omega
    subst hie
    rw [List.take_length]
    repeat' (first | (with_reducible apply St.o; constructor) <;> intro _ | (with_reducible first | refine LenR_i fun _ => ?_ | refine And.intro (by omega) ?_ | (apply Sp.o; constructor) | refine mkl_own ?_ | refine frz0_i ?_) | simp (maxSteps := 1000000) (disch := omega) only [lE,ptrCells,ptrAdd,isNil,readsV,readsP,isCall,wrote,srcOf,seval,List.length_map,Int.lt_irrefl,decide_false])
    exact keep_n rfl
def repH (h : List Hap) (s : Int) : Option Int := (h.find? fun x => decide (x.k = 2) && decide (x.st = s)).map (·.tx)
theorem c58 (h : List Hap) (s : Int) : ACalls E.P 58 [.view 5 (h.map Hap.av), .int .i64 s] [] (fun r H => r = .tup [.int .i64 ((repH h s).getD 0), .bool (repH h s).isSome] ∧ H = []) := by
  have hmax := maxLen_eq
  refine ok58.acalls hE hm (by simp) fun N hN => ?_
  unfold mc58
  simp only [lA,ptrCells,ptrAdd,isNil,readsV,readsP,isCall,wrote,srcOf,seval]
  refine loop_i (fun i : Nat => i ≤ h.length ∧ ∀ x ∈ h.take i,(decide (x.k = 2) && decide (x.st = s)) = false) (fun i => ⟨[(0, .view 5 (h.map Hap.av)),(1, .int .i64 s),(6, .int .i64 i)], []⟩) (fun i => h.length - i) 0 ⟨by omega,by simp⟩ (Ent.to [] false (by simp) (by simp) rfl (by simp only [lP,seval] <;> (try simp) <;> (try omega)) (by simp only [lP,seval] <;> (try simp) <;> (try omega))) ?_
  rintro i ⟨hi, hn⟩
  by_cases hil : i < h.length
  · have hyes : (decide ((h.getD i default).k = 2) && decide ((h.getD i default).st = s)) = true → repH h s = some (h.getD i default).tx := fun q => by
      unfold repH
      rw [find_at (p := fun x : Hap => decide (x.k = 2) && decide (x.st = s)) hil q hn]
      rfl
    have hno : ¬ (decide ((h.getD i default).k = 2) && decide ((h.getD i default).st = s)) = true → ∀ x ∈ h.take (i + 1), (decide (x.k = 2) && decide (x.st = s)) = false := fun q => all_step hil hn (by simpa using q)
    generalize hx : h.getD i default = x at *
    repeat' (first | (with_reducible apply St.o; constructor) <;> intro _ | (with_reducible first | refine LenR_i fun _ => ?_ | refine And.intro (by omega) ?_ | (apply Sp.o; constructor) | refine mkl_own ?_ | refine frz0_i ?_) | simp (maxSteps := 1000000) (disch := omega) only [lE,ptrCells,ptrAdd,isNil,readsV,readsP,isCall,wrote,srcOf,seval,IdxR_haps,hx,Int.toNat_natCast,List.length_map])
    all_goals try (exfalso; omega)
    · rw [hyes (by simp [*])]
      exact keep0_i ⟨rfl, rfl⟩
    all_goals exact back_i (i + 1) ⟨by omega,hno (by simp [*])⟩ (by omega) (Ent.to [] false (by simp) (by simp) rfl (by simp only [lP,seval] <;> (try simp) <;> (try omega)) (by simp only [lP,seval] <;> (try simp) <;> (try omega)))
  · have hie : i = h.length := by omega
    subst hie
    rw [List.take_length] at hn
    have he : repH h s = none := by
      unfold repH
      rw [List.find?_eq_none.2 fun x hx => by simpa using hn x hx]
      rfl
    repeat' (first | (with_reducible apply St.o; constructor) <;> intro _ | (with_reducible first | refine LenR_i fun _ => ?_ | refine And.intro (by omega) ?_ | (apply Sp.o; constructor) | refine mkl_own ?_ | refine frz0_i ?_) | simp (maxSteps := 1000000) (disch := omega) only [lE,ptrCells,ptrAdd,isNil,readsV,readsP,isCall,wrote,srcOf,seval,List.length_map,Int.lt_irrefl,decide_false])
    rw [he]
    exact keep0_i ⟨rfl, rfl⟩
def plc (l : List Int) (t : Int) : Int := match l.findIdx? (fun u => decide (u = t)) with | some i => (i : Int) + 1 | none => 0
theorem c59 (l : List Int) (t : Int) (hl : l.length ≤ 1000000) : ACalls E.P 59 [.view 1 (l.map (AV.int .i64)), .int .i64 t] [] (fun r H => r = .int .i64 (plc l t) ∧ H = []) := by
  have hmax := maxLen_eq
  refine ok59.acalls hE hm (by simp) fun N hN => ?_
  unfold mc59
  simp only [lA,ptrCells,ptrAdd,isNil,readsV,readsP,isCall,wrote,srcOf,seval]
  refine loop_i (fun i : Nat => i ≤ l.length ∧ ∀ u ∈ l.take i,decide (u = t) = false) (fun i => ⟨[(0, .view 1 (l.map (AV.int .i64))),(1, .int .i64 t),(5, .int .i64 i)], []⟩) (fun i => l.length - i) 0 ⟨by omega,by simp⟩ (Ent.to [] false (by simp) (by simp) rfl (by simp only [lP,seval] <;> (try simp) <;> (try omega)) (by simp only [lP,seval] <;> (try simp) <;> (try omega))) ?_
  rintro i ⟨hi, hn⟩
  by_cases hil : i < l.length
  · have hyes : l.getD i 0 = t → plc l t = (i : Int) + 1 := fun q => by
      unfold plc
      rw [first_some (p := fun u => decide (u = t)) hil (decide_eq_true q) hn]
    have hno : ¬ l.getD i 0 = t → ∀ u ∈ l.take (i + 1), decide (u = t) = false := fun q => all_step hil hn (decide_eq_false q)
    have hg2 : l.getD i default = l.getD i 0 := rfl
    generalize hx : l.getD i 0 = u at *
    repeat' (first | (with_reducible apply St.o; constructor) <;> intro _ | (with_reducible first | refine LenR_i fun _ => ?_ | refine And.intro (by omega) ?_ | (apply Sp.o; constructor) | refine mkl_own ?_ | refine frz0_i ?_) | simp (maxSteps := 1000000) (disch := omega) only [lE,ptrCells,ptrAdd,isNil,readsV,readsP,isCall,wrote,srcOf,seval,IdxR_int,hx,hg2,Int.toNat_natCast,List.length_map])
    all_goals try (exfalso; omega)
    · rename_i hk
      exact keep_n (hyes hk).symm
    · rename_i hk
      exact back_i (i + 1) ⟨by omega,hno hk⟩ (by omega) (Ent.to [] false (by simp) (by simp) rfl (by simp only [lP,seval] <;> (try simp) <;> (try omega)) (by simp only [lP,seval] <;> (try simp) <;> (try omega)))
  · have hie : i = l.length := by omega
    subst hie
    rw [List.take_length] at hn
    have he : plc l t = 0 := by
      unfold plc
      rw [first_none hn]
    repeat' (first | (with_reducible apply St.o; constructor) <;> intro _ | (with_reducible first | refine LenR_i fun _ => ?_ | refine And.intro (by omega) ?_ | (apply Sp.o; constructor) | refine mkl_own ?_ | refine frz0_i ?_) | simp (maxSteps := 1000000) (disch := omega) only [lE,ptrCells,ptrAdd,isNil,readsV,readsP,isCall,wrote,srcOf,seval,List.length_map,Int.lt_irrefl,decide_false])
    exact keep_n he.symm
end Go.Proofs.Try


namespace Go.Proofs.Try
open Go.Proofs.Tryz
open Go.Al
set_option maxRecDepth 100000
def mc111 : MC :=
(.seq (.ops [(none,.v (.mov 4 (.c (.bool false))))])
(.seq (.seq (.ops [(none,.v (.mov 6 (.t 0))),
(none,.p (.len 7 (.t 6))),
(none,.v (.mov 8 (.t 1))),
(none,.p (.len 9 (.t 8))),
(none,.v (.bin 10 .neq false (.t 7) (.t 9)))])
(.cond 10
(.seq (.ops [(none,.v (.mov 4 (.c (.bool false))))])
.ret)
.skip))
(.seq (.seq (.ops [(none,.v (.mov 5 (.c (.int .i64 0))))])
(.block 0 (.loop (.seq (.seq (.ops [(none,.v (.mov 11 (.t 5))),
(none,.v (.mov 12 (.t 0))),
(none,.p (.len 13 (.t 12))),
(none,.v (.bin 14 .lss false (.t 11) (.t 13)))])
(.cond 14
.skip
(.exit 0)))
(.seq (.block 1 (.seq (.any false (.pure0 none (.v (.mov 17 (.t 0)))
(.pure0 none (.v (.mov 18 (.t 5)))
(.pure0 none (.p (.idx 19 4 (.t 17) (.t 18)))
(.pure0 none (.v (.fld 20 0 (.t 19)))
(.pure0 none (.v (.load 21 false 1 (.t 20)))
(.pure0 none (.v (.mov 22 (.t 1)))
(.pure0 none (.v (.mov 23 (.t 5)))
(.pure0 none (.p (.idx 24 4 (.t 22) (.t 23)))
(.pure0 none (.v (.fld 25 0 (.t 24)))
(.pure0 none (.v (.load 26 false 1 (.t 25)))
(.pure0 none (.v (.bin 27 .neq false (.t 21) (.t 26)))
(.pure0 none (.v (.mov 28 (.t 27)))
(.pure0 (some (28,false)) (.v (.mov 29 (.t 0)))
(.pure0 (some (28,false)) (.v (.mov 30 (.t 5)))
(.pure0 (some (28,false)) (.p (.idx 31 4 (.t 29) (.t 30)))
(.pure0 (some (28,false)) (.v (.fld 32 1 (.t 31)))
(.pure0 (some (28,false)) (.v (.load 33 false 1 (.t 32)))
(.pure0 (some (28,false)) (.v (.mov 34 (.t 1)))
(.pure0 (some (28,false)) (.v (.mov 35 (.t 5)))
(.pure0 (some (28,false)) (.p (.idx 36 4 (.t 34) (.t 35)))
(.pure0 (some (28,false)) (.v (.fld 37 1 (.t 36)))
(.pure0 (some (28,false)) (.v (.load 38 false 1 (.t 37)))
(.pure0 (some (28,false)) (.v (.bin 39 .neq false (.t 33) (.t 38)))
(.pure0 none (.v (.pick 40 (.t 28) (.c (.bool true)) (.t 39)))
(.pure0 none (.v (.mov 41 (.t 40)))
(.pure0 (some (41,false)) (.v (.mov 42 (.t 0)))
(.pure0 (some (41,false)) (.v (.mov 43 (.t 5)))
(.pure0 (some (41,false)) (.p (.idx 44 4 (.t 42) (.t 43)))
(.pure0 (some (41,false)) (.v (.fld 45 2 (.t 44)))
(.pure0 (some (41,false)) (.v (.load 46 false 1 (.t 45)))
(.pure0 (some (41,false)) (.v (.mov 47 (.t 1)))
(.pure0 (some (41,false)) (.v (.mov 48 (.t 5)))
(.pure0 (some (41,false)) (.p (.idx 49 4 (.t 47) (.t 48)))
(.pure0 (some (41,false)) (.v (.fld 50 2 (.t 49)))
(.pure0 (some (41,false)) (.v (.load 51 false 1 (.t 50)))
(.pure0 (some (41,false)) (.v (.bin 52 .neq false (.t 46) (.t 51)))
(.pure0 none (.v (.pick 53 (.t 41) (.c (.bool true)) (.t 52)))
(.pure0 none (.v (.mov 54 (.t 53)))
(.pure0 (some (54,false)) (.v (.mov 55 (.t 0)))
(.pure0 (some (54,false)) (.v (.mov 56 (.t 5)))
(.pure0 (some (54,false)) (.p (.idx 57 4 (.t 55) (.t 56)))
(.pure0 (some (54,false)) (.v (.fld 58 3 (.t 57)))
(.pure0 (some (54,false)) (.v (.load 59 false 1 (.t 58)))
(.pure0 (some (54,false)) (.v (.mov 60 (.t 1)))
(.pure0 (some (54,false)) (.v (.mov 61 (.t 5)))
(.pure0 (some (54,false)) (.p (.idx 62 4 (.t 60) (.t 61)))
(.pure0 (some (54,false)) (.v (.fld 63 3 (.t 62)))
(.pure0 (some (54,false)) (.v (.load 64 false 1 (.t 63)))
(.alt (some (54,false)) (.e (.call (some 65) 117 [(.t 59),(.t 64)]))
(.base (.pure0 (some (54,false)) (.v (.not 66 (.t 65)))
(.pure0 none (.v (.pick 67 (.t 54) (.c (.bool true)) (.t 66)))
.done)))
.stop))))))))))))))))))))))))))))))))))))))))))))))))))
(.cond 67
(.seq (.ops [(none,.v (.mov 4 (.c (.bool false))))])
.ret)
.skip)))
(.ops [(none,.v (.mov 15 (.t 5))),
(none,.v (.bin 16 .add false (.t 15) (.c (.int .i64 1)))),
(none,.v (.mov 5 (.t 16)))]))))))
(.seq (.ops [(none,.v (.mov 4 (.c (.bool true))))])
.ret))))
theorem ok111 : FnOk E 111 68 [.tmp 4] mc111 := .of func111 (by kernel_rfl) (by kernel_rfl) (by kernel_rfl) (by kernel_rfl) (by kernel_rfl)
def mc117 : MC :=
(.seq (.ops [(none,.v (.mov 4 (.c (.bool false))))])
(.seq (.seq (.ops [(none,.v (.mov 6 (.t 0))),
(none,.p (.len 7 (.t 6))),
(none,.v (.mov 8 (.t 1))),
(none,.p (.len 9 (.t 8))),
(none,.v (.bin 10 .neq false (.t 7) (.t 9)))])
(.cond 10
(.seq (.ops [(none,.v (.mov 4 (.c (.bool false))))])
.ret)
.skip))
(.seq (.seq (.ops [(none,.v (.mov 5 (.c (.int .i64 0))))])
(.block 0 (.loop (.seq (.seq (.ops [(none,.v (.mov 11 (.t 5))),
(none,.v (.mov 12 (.t 0))),
(none,.p (.len 13 (.t 12))),
(none,.v (.bin 14 .lss false (.t 11) (.t 13)))])
(.cond 14
.skip
(.exit 0)))
(.seq (.block 1 (.seq (.any false (.pure0 none (.v (.mov 17 (.t 0)))
(.pure0 none (.v (.mov 18 (.t 5)))
(.pure0 none (.p (.idx 19 3 (.t 17) (.t 18)))
(.pure0 none (.v (.load 20 true 3 (.t 19)))
(.pure0 none (.v (.mov 21 (.t 1)))
(.pure0 none (.v (.mov 22 (.t 5)))
(.pure0 none (.p (.idx 23 3 (.t 21) (.t 22)))
(.pure0 none (.v (.load 24 true 3 (.t 23)))
(.pure0 none (.v (.eq 25 true (.agg [(0,false,1,.int),(1,false,1,.int),(2,false,1,.str)]) (.t 20) (.t 24)))
.done))))))))))
(.cond 25
(.seq (.ops [(none,.v (.mov 4 (.c (.bool false))))])
.ret)
.skip)))
(.ops [(none,.v (.mov 15 (.t 5))),
(none,.v (.bin 16 .add false (.t 15) (.c (.int .i64 1)))),
(none,.v (.mov 5 (.t 16)))]))))))
(.seq (.ops [(none,.v (.mov 4 (.c (.bool true))))])
.ret))))
theorem ok117 : FnOk E 117 26 [.tmp 4] mc117 := .of func117 (by kernel_rfl) (by kernel_rfl) (by kernel_rfl) (by kernel_rfl) (by kernel_rfl)
end Go.Proofs.Try
namespace Go.Proofs.Try
open Go.Proofs.Tryz
open Go.Al
set_option linter.unusedVariables false
set_option linter.unusedSimpArgs false
set_option maxRecDepth 20000
set_option maxHeartbeats 8000000

theorem c117 (a b : List VL) : ACalls E.P 117 [.view 3 (a.map VL.av), .view 3 (b.map VL.av)] [] (fun r H => r = .bool (decide (a = b)) ∧ H = []) := by
  have hmax := maxLen_eq
  refine ok117.acalls hE hm (by simp) fun N hN => ?_
  unfold mc117
  simp only [lA,ptrCells,ptrAdd,isNil,readsV,readsP,isCall,wrote,srcOf,seval]
  repeat' (first | (with_reducible apply St.o; constructor) <;> intro _ | (with_reducible first | refine LenR_i fun _ => ?_ | refine And.intro (by omega) ?_ | (apply Sp.o; constructor) | refine mkl_own ?_ | refine frz0_i ?_) | simp (maxSteps := 1000000) (disch := omega) only [lE,ptrCells,ptrAdd,isNil,readsV,readsP,isCall,wrote,srcOf,seval,List.length_map])
  · rename_i he
    refine keep_b (decide_eq_false ?_).symm
    rintro rfl
    exact he rfl
  · rename_i he
    have he2 : a.length = b.length := by omega
    refine loop_i (fun i : Nat => i ≤ a.length ∧ a.take i = b.take i) (fun i => ⟨[(0, .view 3 (a.map VL.av)),(1, .view 3 (b.map VL.av)),(5, .int .i64 i)], []⟩) (fun i => a.length - i) 0 ⟨by omega,by simp⟩ (Ent.to [] false (by simp) (by simp) rfl (by simp only [lP,seval] <;> (try simp) <;> (try omega)) (by simp only [lP,seval] <;> (try simp) <;> (try omega))) ?_
    rintro i ⟨hi, ha⟩
    by_cases hil : i < a.length
    · have hyes : a.getD i default = b.getD i default → a.take (i + 1) = b.take (i + 1) := fun q => take_next he2 hil ha q
      have hno : a.getD i default ≠ b.getD i default → a ≠ b := fun q => ne_at q
      generalize hx : a.getD i default = x at *
      generalize hy : b.getD i default = y at *
      repeat' (first | (with_reducible apply St.o; constructor) <;> intro _ | (with_reducible first | refine LenR_i fun _ => ?_ | refine And.intro (by omega) ?_ | (apply Sp.o; constructor) | refine mkl_own ?_ | refine frz0_i ?_ | refine any_i [] ?_) | simp (maxSteps := 1000000) (disch := omega) only [lE,ptrCells,ptrAdd,isNil,readsV,readsP,isCall,wrote,srcOf,seval,IdxR_vls,hx,hy,Int.toNat_natCast,List.length_map,vl_eq])
      all_goals try (exfalso; omega)
      · rename_i q
        exact keep_b (decide_eq_false (hno q)).symm
      · rename_i q
        exact back_i (i + 1) ⟨by omega,hyes q⟩ (by omega) (Ent.to [] false (by simp) (by simp) rfl (by simp only [lP,seval] <;> (try simp) <;> (try omega)) (by simp only [lP,seval] <;> (try simp) <;> (try omega)))
    · have hie : i = a.length := by omega
      subst hie
      have hab : a = b := by
        rw [List.take_length, he2, List.take_length] at ha
        exact ha
      repeat' (first | (with_reducible apply St.o; constructor) <;> intro _ | (with_reducible first | refine LenR_i fun _ => ?_ | refine And.intro (by omega) ?_ | (apply Sp.o; constructor) | refine mkl_own ?_ | refine frz0_i ?_) | simp (maxSteps := 1000000) (disch := omega) only [lE,ptrCells,ptrAdd,isNil,readsV,readsP,isCall,wrote,srcOf,seval,List.length_map,Int.lt_irrefl,decide_false])
      exact keep_b (decide_eq_true hab).symm
theorem hd_eta (a b : Hd) : a = b ↔ a.t = b.t ∧ a.r = b.r ∧ a.st = b.st ∧ a.v = b.v := by
  obtain ⟨a1, a2, a3, a4⟩ := a
  obtain ⟨b1, b2, b3, b4⟩ := b
  simp
theorem c111 (a b : List Hd) : ACalls E.P 111 [.view 4 (a.map Hd.av), .view 4 (b.map Hd.av)] [] (fun r H => r = .bool (decide (a = b)) ∧ H = []) := by
  have hmax := maxLen_eq
  refine ok111.acalls hE hm (by simp) fun N hN => ?_
  unfold mc111
  simp only [lA,ptrCells,ptrAdd,isNil,readsV,readsP,isCall,wrote,srcOf,seval]
  repeat' (first | (with_reducible apply St.o; constructor) <;> intro _ | (with_reducible first | refine LenR_i fun _ => ?_ | refine And.intro (by omega) ?_ | (apply Sp.o; constructor) | refine mkl_own ?_ | refine frz0_i ?_) | simp (maxSteps := 1000000) (disch := omega) only [lE,ptrCells,ptrAdd,isNil,readsV,readsP,isCall,wrote,srcOf,seval,List.length_map])
  · rename_i he
    refine keep_b (decide_eq_false ?_).symm
    rintro rfl
    exact he rfl
  · rename_i he
    have he2 : a.length = b.length := by omega
    refine loop_i (fun i : Nat => i ≤ a.length ∧ a.take i = b.take i) (fun i => ⟨[(0, .view 4 (a.map Hd.av)),(1, .view 4 (b.map Hd.av)),(5, .int .i64 i)], []⟩) (fun i => a.length - i) 0 ⟨by omega,by simp⟩ (Ent.to [] false (by simp) (by simp) rfl (by simp only [lP,seval] <;> (try simp) <;> (try omega)) (by simp only [lP,seval] <;> (try simp) <;> (try omega))) ?_
    rintro i ⟨hi, ha⟩
    by_cases hil : i < a.length
    · have hyes : a.getD i default = b.getD i default → a.take (i + 1) = b.take (i + 1) := fun q => take_next he2 hil ha q
      have hno : a.getD i default ≠ b.getD i default → a ≠ b := fun q => ne_at q
      generalize hx : a.getD i default = x at *
      generalize hy : b.getD i default = y at *
      have h117 := c117 x.v y.v
      rw [hd_eta] at hyes
      rw [ne_eq, hd_eta] at hno
      repeat' (first | (with_reducible apply St.o; constructor) <;> intro _ | (with_reducible first | refine LenR_i fun _ => ?_ | refine And.intro (by omega) ?_ | (apply Sp.o; constructor) | refine mkl_own ?_ | refine frz0_i ?_ | refine any_i [] ?_) | ((with_reducible apply Sc.o true; constructor); simp only [lP,seval,IdxR_hds,hx,hy,Int.toNat_natCast,List.length_map]; refine ⟨_,h117,?_⟩; rintro _ _ ⟨rfl,rfl⟩; simp only [lA,lP,ptrCells,ptrAdd,isNil,readsV,readsP,isCall,wrote,srcOf,seval,IdxR_hds,hx,hy,Int.toNat_natCast,List.length_map]) | simp (maxSteps := 1000000) (disch := omega) only [lE,ptrCells,ptrAdd,isNil,readsV,readsP,isCall,wrote,srcOf,seval,IdxR_hds,hx,hy,Int.toNat_natCast,List.length_map])
      all_goals try (exfalso; omega)
      all_goals first
        | exact back_i (i + 1) ⟨by omega,hyes ⟨by omega,by omega,by omega,by simp_all⟩⟩ (by omega) (Ent.to [] false (by simp) (by simp) rfl (by simp only [lP,seval] <;> (try simp) <;> (try omega)) (by simp only [lP,seval] <;> (try simp) <;> (try omega)))
        | (refine keep_b (decide_eq_false (hno ?_)).symm
           rintro ⟨q1, q2, q3, q4⟩
           first | contradiction | (simp_all; done))
    · have hie : i = a.length := by omega
      subst hie
      have hab : a = b := by
        rw [List.take_length, he2, List.take_length] at ha
        exact ha
      repeat' (first | (with_reducible apply St.o; constructor) <;> intro _ | (with_reducible first | refine LenR_i fun _ => ?_ | refine And.intro (by omega) ?_ | (apply Sp.o; constructor) | refine mkl_own ?_ | refine frz0_i ?_) | simp (maxSteps := 1000000) (disch := omega) only [lE,ptrCells,ptrAdd,isNil,readsV,readsP,isCall,wrote,srcOf,seval,List.length_map,Int.lt_irrefl,decide_false])
      exact keep_b (decide_eq_true hab).symm
def dnP (l : List Hd) (x : Hd) (i : Nat) : Bool := decide (∃ y ∈ l.take i, ¬ y.before x)
def outP (s : Int) (l : List Hd) (w : Wr) (i : Nat) : List Hd := (l.take i).filter (fun y => decide (y.before (w.row s))) ++ (if w.dead = false ∧ dnP l (w.row s) i = true then [w.row s] else []) ++ (l.take i).filter (fun y => decide ((w.row s).before y))
theorem dnP_next {l : List Hd} {x : Hd} {i : Nat} (hi : i < l.length) : dnP l x (i + 1) = (dnP l x i || decide (¬ (l.getD i default).before x)) := by
  unfold dnP
  rw [Bool.eq_iff_iff]
  simp only [decide_eq_true_eq,Bool.or_eq_true]
  rw [take_succD hi]
  constructor
  · rintro ⟨y, hy, h⟩
    rcases List.mem_append.1 hy with hy | hy
    · exact .inl ⟨y, hy, h⟩
    · rw [List.mem_singleton.1 hy] at h; exact .inr h
  · rintro (⟨y, hy, h⟩ | h)
    · exact ⟨y, by simp [hy], h⟩
    · exact ⟨_, by simp, h⟩
theorem flt_before {l : List Hd} {x : Hd} {i : Nat} (h : dnP l x i = false) : (l.take i).filter (fun y => decide (x.before y)) = [] := by
  unfold dnP at h
  rw [decide_eq_false_iff_not] at h
  rw [List.filter_eq_nil_iff]
  intro y hy
  simp only [decide_eq_true_eq]
  intro q
  exact h ⟨y, hy, before_asymm q⟩
def addP (s : Int) (w : Wr) (y : Hd) (done : Bool) : List Hd := (if done = false ∧ ((y.t = w.t ∧ y.r = w.r) ∨ (w.row s).before y) then [w.row s] else []) ++ (if y.t = w.t ∧ y.r = w.r then [] else [y])
theorem outP_next {s : Int} {l : List Hd} {w : Wr} {i : Nat} (hl : l.Pairwise Hd.before) (hi : i < l.length) : outP s l w (i + 1) = outP s l w i ++ addP s w (l.getD i default) (w.dead || dnP l (w.row s) i) := by
  have hprev : ∀ y ∈ l.take i, y.before (l.getD i default) := fun y hy => by
    obtain ⟨j, hj, rfl⟩ := List.mem_take_iff_getElem.1 hy
    have := pair_at hl (show j < i by omega) hi
    rw [List.getD_eq_getElem?_getD, List.getElem?_eq_getElem (by omega), Option.getD_some] at this
    exact this
  have hfe := flt_before (l := l) (x := w.row s) (i := i)
  have hdn : dnP l (w.row s) i = true → (w.row s).before (l.getD i default) := fun h => by
    unfold dnP at h
    rw [decide_eq_true_eq] at h
    obtain ⟨y, hy, h1⟩ := h
    have h2 := hprev y hy
    unfold Hd.before at *
    omega
  unfold outP addP
  rw [dnP_next hi, take_succD hi, List.filter_append, List.filter_append]
  generalize l.getD i default = y at *
  have hrow : (w.row s).t = w.t ∧ (w.row s).r = w.r := ⟨rfl, rfl⟩
  generalize w.row s = x at *
  generalize dnP l x i = dn at *
  have hcase : y.before x ∨ (y.t = w.t ∧ y.r = w.r) ∨ x.before y := by
    unfold Hd.before
    omega
  rcases hcase with h | h | h
  · have h1 : ¬ x.before y := before_asymm h
    have h2 : ¬ (y.t = w.t ∧ y.r = w.r) := by unfold Hd.before at h; omega
    have h3 : dn = false := by
      cases dn with
      | false => rfl
      | true => exact absurd (hdn rfl) h1
    subst h3
    rw [hfe rfl]
    simp [List.filter_cons, h, h1, h2]
  · have h1 : ¬ x.before y := by unfold Hd.before; omega
    have h2 : ¬ y.before x := by unfold Hd.before; omega
    have h3 : dn = false := by
      cases dn with
      | false => rfl
      | true => exact absurd (hdn rfl) h1
    subst h3
    rw [hfe rfl]
    cases w.dead <;> simp [List.filter_cons, h, h1, h2]
  · have h1 : ¬ y.before x := before_asymm h
    have h2 : ¬ (y.t = w.t ∧ y.r = w.r) := by unfold Hd.before at h; omega
    cases dn with
    | false =>
      rw [hfe rfl]
      cases w.dead <;> simp [List.filter_cons, h, h1, h2]
    | true =>
      cases w.dead <;> simp [List.filter_cons, h, h1, h2]
theorem outP_end {s : Int} {l : List Hd} {w : Wr} : putL s l w = outP s l w l.length ++ (if (w.dead || dnP l (w.row s) l.length) = false then [w.row s] else []) := by
  have hfe := flt_before (l := l) (x := w.row s) (i := l.length)
  unfold putL outP
  rw [List.take_length] at *
  cases hd : w.dead with
  | true => simp
  | false =>
    cases hdn : dnP l (w.row s) l.length with
    | true => simp
    | false => rw [hfe hdn]; simp
end Go.Proofs.Try


namespace Go.Proofs.Try
open Go.Proofs.Tryz
open Go.Al
set_option maxRecDepth 100000
def mc118 : MC :=
(.seq (.ops [(none,.e (.box 4 (.t 1))),
(none,.v (.mov 6 (.c (.raw (.slice none 0 0)))))])
(.seq (.ops [(none,.v (.mov 7 (.c (.raw (.slice none 0 0)))))])
(.seq (.ops [(none,.v (.fld 12 0 (.t 4))),
(none,.v (.load 13 false 1 (.t 12))),
(none,.v (.fld 14 1 (.t 4))),
(none,.v (.load 15 false 1 (.t 14))),
(none,.v (.mov 16 (.t 2))),
(none,.v (.fld 17 3 (.t 4))),
(none,.v (.load 18 false 1 (.t 17))),
(none,.v (.build 19 [(.int .i64 0),(.int .i64 0),(.int .i64 0),(.raw (.slice none 0 0))] [(0,1,(.t 13)),(1,1,(.t 15)),(2,1,(.t 16)),(3,1,(.t 18))])),
(none,.e (.alloc 8 [(.int .i64 0),(.int .i64 0),(.int .i64 0),(.raw (.slice none 0 0))])),
(none,.e (.store 4 true (.t 8) (.t 19)))])
(.seq (.ops [(none,.v (.fld 20 2 (.t 4))),
(none,.v (.load 21 false 1 (.t 20))),
(none,.v (.mov 9 (.t 21)))])
(.seq (.seq (.ops [(none,.v (.mov 10 (.c (.int .i64 0))))])
(.block 0 (.loop (.seq (.seq (.ops [(none,.v (.mov 22 (.t 10))),
(none,.v (.mov 23 (.t 0))),
(none,.p (.len 24 (.t 23))),
(none,.v (.bin 25 .lss false (.t 22) (.t 24)))])
(.cond 25
.skip
(.exit 0)))
(.seq (.block 1 (.seq (.any false (.pure0 none (.v (.mov 28 (.t 0)))
(.pure0 none (.v (.mov 29 (.t 10)))
(.pure0 none (.p (.idx 30 4 (.t 28) (.t 29)))
(.pure0 none (.v (.fld 31 0 (.t 30)))
(.pure0 none (.v (.load 32 false 1 (.t 31)))
(.pure0 none (.v (.fld 33 0 (.t 4)))
(.pure0 none (.v (.load 34 false 1 (.t 33)))
(.pure0 none (.v (.bin 35 .eql false (.t 32) (.t 34)))
(.pure0 none (.v (.mov 36 (.t 35)))
(.pure0 (some (36,true)) (.v (.mov 37 (.t 0)))
(.pure0 (some (36,true)) (.v (.mov 38 (.t 10)))
(.pure0 (some (36,true)) (.p (.idx 39 4 (.t 37) (.t 38)))
(.pure0 (some (36,true)) (.v (.fld 40 1 (.t 39)))
(.pure0 (some (36,true)) (.v (.load 41 false 1 (.t 40)))
(.pure0 (some (36,true)) (.v (.fld 42 1 (.t 4)))
(.pure0 (some (36,true)) (.v (.load 43 false 1 (.t 42)))
(.pure0 (some (36,true)) (.v (.bin 44 .eql false (.t 41) (.t 43)))
(.pure0 none (.v (.pick 45 (.t 36) (.t 44) (.c (.bool false))))
(.pure0 none (.v (.mov 11 (.t 45)))
.done))))))))))))))))))))
(.seq (.seq (.any false (.pure0 none (.v (.mov 46 (.t 9)))
(.pure0 none (.v (.not 47 (.t 46)))
(.pure0 none (.v (.mov 48 (.t 47)))
(.pure0 (some (48,true)) (.v (.mov 49 (.t 11)))
(.pure0 (some (48,true)) (.v (.mov 50 (.t 49)))
(.pure0 (some (50,false)) (.v (.load 51 true 4 (.t 8)))
(.pure0 (some (50,false)) (.v (.mov 52 (.t 0)))
(.pure0 (some (50,false)) (.v (.mov 53 (.t 10)))
(.pure0 (some (50,false)) (.p (.idx 54 4 (.t 52) (.t 53)))
(.pure0 (some (50,false)) (.v (.load 55 true 4 (.t 54)))
(.alt (some (50,false)) (.e (.call (some 56) 80 [(.t 51),(.t 55)]))
(.base (.pure0 (some (48,true)) (.v (.pick 57 (.t 50) (.c (.bool true)) (.t 56)))
(.pure0 none (.v (.pick 58 (.t 48) (.t 57) (.c (.bool false))))
.done)))
.stop))))))))))))
(.cond 58
(.seq (.ops [(none,.v (.mov 59 (.t 7))),
(none,.v (.load 60 true 4 (.t 8))),
(none,.e (.mkl 61 77 4 1 (.agg [(.int .i64 0),(.int .i64 0),(.int .i64 0),(.raw (.slice none 0 0))]) [(0,(.t 60))])),
(none,.e (.app 62 77 4 48 (.t 59) (.t 61))),
(none,.v (.mov 7 (.t 62)))])
(.ops [(none,.v (.mov 9 (.c (.bool true))))]))
.skip))
(.seq (.ops [(none,.v (.mov 63 (.t 11))),
(none,.v (.not 64 (.t 63)))])
(.cond 64
(.ops [(none,.v (.mov 65 (.t 7))),
(none,.v (.mov 66 (.t 0))),
(none,.v (.mov 67 (.t 10))),
(none,.p (.idx 68 4 (.t 66) (.t 67))),
(none,.v (.load 69 true 4 (.t 68))),
(none,.e (.mkl 70 77 4 1 (.agg [(.int .i64 0),(.int .i64 0),(.int .i64 0),(.raw (.slice none 0 0))]) [(0,(.t 69))])),
(none,.e (.app 71 77 4 48 (.t 65) (.t 70))),
(none,.v (.mov 7 (.t 71)))])
.skip)))))
(.ops [(none,.v (.mov 26 (.t 10))),
(none,.v (.bin 27 .add false (.t 26) (.c (.int .i64 1)))),
(none,.v (.mov 10 (.t 27)))]))))))
(.seq (.seq (.ops [(none,.v (.mov 72 (.t 9))),
(none,.v (.not 73 (.t 72)))])
(.cond 73
(.ops [(none,.v (.mov 74 (.t 7))),
(none,.v (.load 75 true 4 (.t 8))),
(none,.e (.mkl 76 77 4 1 (.agg [(.int .i64 0),(.int .i64 0),(.int .i64 0),(.raw (.slice none 0 0))]) [(0,(.t 75))])),
(none,.e (.app 77 77 4 48 (.t 74) (.t 76))),
(none,.v (.mov 7 (.t 77)))])
.skip))
(.seq (.ops [(none,.v (.mov 78 (.t 7))),
(none,.v (.mov 6 (.t 78)))])
.ret)))))))
theorem ok118 : FnOk E 118 79 [.tmp 6] mc118 := .of func118 (by kernel_rfl) (by kernel_rfl) (by kernel_rfl) (by kernel_rfl) (by kernel_rfl)
end Go.Proofs.Try
namespace Go.Proofs.Try
open Go.Proofs.Tryz
open Go.Al
set_option linter.unusedVariables false
set_option linter.unusedSimpArgs false
set_option maxRecDepth 20000
set_option maxHeartbeats 8000000

theorem c118 (l : List Hd) (hl : l.Pairwise Hd.before) (hll : l.length ≤ 1000000) (w : Wr) (s : Int) : ACalls E.P 118 [.view 4 (l.map Hd.av), w.av, .int .i64 s] [] (fun r H => r = .view 4 ((putL s l w).map Hd.av) ∧ H = []) := by
  have hmax := maxLen_eq
  have hxa : AV.agg [.int .i64 w.t, .int .i64 w.r, .int .i64 s, .view 3 (w.v.map VL.av)] = (w.row s).av := rfl
  have hxc : (w.row s).cs = [.int .i64 w.t, .int .i64 w.r, .int .i64 s, .view 3 (w.v.map VL.av)] := rfl
  have hend := outP_end (s := s) (l := l) (w := w)
  have hfin := fun (O : List Hd) => (w.row s)
  refine ok118.acalls hE hm (by simp) fun N hN => ?_
  unfold mc118
  simp only [lA,ptrCells,ptrAdd,isNil,readsV,readsP,isCall,wrote,srcOf,seval,wr_av]
  repeat' (first | (with_reducible apply St.o; constructor) <;> intro _ | (with_reducible first | refine LenR_i fun _ => ?_ | refine And.intro (by omega) ?_ | (apply Sp.o; constructor) | refine mkl_own ?_ | refine frz0_i ?_) | simp (maxSteps := 1000000) (disch := omega) only [lE,ptrCells,ptrAdd,isNil,readsV,readsP,isCall,wrote,srcOf,seval])
  have h0 : outP s l w 0 = [] := by simp [outP, dnP]
  have hd0 : (w.dead || dnP l (w.row s) 0) = w.dead := by simp [dnP]
  refine loop_i (fun i : Nat => i ≤ l.length) (fun i => ⟨[(0, .view 4 (l.map Hd.av)), (4, .op 0 0), (7, .slc 2 4 (outP s l w i).length), (8, .op 1 0), (9, .bool (w.dead || dnP l (w.row s) i)), (10, .int .i64 i)], [.box w.cs, .box (w.row s).cs, .arr 77 4 ((outP s l w i).map Hd.av)]⟩) (fun i => l.length - i) 0 (by omega)
    (Ent.ghost' 7 77 4 (by omega) rfl (Ent.to [0, 1, 2] false (by simp) (by simp) rfl (by simp only [lP,seval,h0,hd0,hxc,List.map_nil,List.length_nil] <;> (try simp) <;> (try omega)) (by simp only [lP,seval,h0,hd0,hxc,List.map_nil,List.length_nil] <;> (try simp) <;> (try omega)))) ?_
  rintro i hi
  by_cases hil : i < l.length
  · have hnx := outP_next (s := s) (w := w) hl hil
    have hdn := dnP_next (x := w.row s) hil
    have h80 := c80 (w.row s) (l.getD i default)
    simp only [hd_av] at h80
    have hOl : ((outP s l w i).map Hd.av).length = (outP s l w i).length := by simp
    have hOb : (outP s l w i).length ≤ 2 * i + 1 := by
      have h1 := List.length_filter_le (fun y => decide (y.before (w.row s))) (l.take i)
      have h2 := List.length_filter_le (fun y => decide ((w.row s).before y)) (l.take i)
      rw [List.length_take] at h1 h2
      unfold outP
      simp only [List.length_append]
      split
      · simp only [List.length_cons,List.length_nil]; omega
      · simp only [List.length_nil]; omega
    have hcase : (l.getD i default).before (w.row s) ∨ ((l.getD i default).t = w.t ∧ (l.getD i default).r = w.r) ∨ (w.row s).before (l.getD i default) := by
      have hrow : (w.row s).t = w.t ∧ (w.row s).r = w.r := ⟨rfl, rfl⟩
      unfold Hd.before
      omega
    have hbx : (l.getD i default).before (w.row s) ↔ ((l.getD i default).t < w.t ∨ (l.getD i default).t = w.t ∧ (l.getD i default).r < w.r) := Iff.rfl
    have hxb : (w.row s).before (l.getD i default) ↔ (w.t < (l.getD i default).t ∨ w.t = (l.getD i default).t ∧ w.r < (l.getD i default).r) := Iff.rfl
    have hnx2 : (outP s l w (i + 1)).map Hd.av = (outP s l w i).map Hd.av ++ (addP s w (l.getD i default) (w.dead || dnP l (w.row s) i)).map Hd.av := by rw [hnx, List.map_append]
    have hnx3 : (outP s l w (i + 1)).length = (outP s l w i).length + (addP s w (l.getD i default) (w.dead || dnP l (w.row s) i)).length := by rw [hnx, List.length_append]
    have hvO : ∀ H l' b k, ((outP s l w (i + 1)).map Hd.av).map (pa H l' b (k + 3)) = (outP s l w (i + 1)).map Hd.av := fun H l' b k => pa_hds
    unfold addP at hnx2 hnx3
    clear hnx
    have hvA := hvO
    generalize hO : outP s l w i = O at *
    generalize hO' : outP s l w (i + 1) = O' at *
    generalize hy : l.getD i default = y at *
    generalize hN' : O'.length = n' at *
    generalize hA' : O'.map Hd.av = A' at *
    generalize hdn1 : dnP l (w.row s) i = d at *
    generalize hdn2 : dnP l (w.row s) (i + 1) = d' at *
    have hdd : (w.dead || d') = ((w.dead || d) || !decide (y.before (w.row s))) := by rw [hdn, decide_not, Bool.or_assoc]
    generalize hD : (w.dead || d) = D at *
    generalize hD' : (w.dead || d') = D' at *
    have hback : i + 1 ≤ l.length := by omega
    by_cases hsame : y.t = w.t ∧ y.r = w.r
    · have hb : ¬ (w.row s).before y := by rw [hxb]; omega
      have hbb : ¬ y.before (w.row s) := by rw [hbx]; omega
      rw [decide_eq_false hb] at h80
      rw [decide_eq_false hbb, Bool.not_false, Bool.or_true] at hdd
      cases D with
      | true =>
        simp only [hsame,hb,or_false,and_self,and_false,false_and,if_false,if_true,List.nil_append,List.append_nil,List.map_nil,List.length_nil,Nat.add_zero,reduceCtorEq,true_or] at hnx2 hnx3
        repeat' (first | (with_reducible apply St.o; constructor) <;> intro _ | (with_reducible first | refine LenR_i fun _ => ?_ | refine And.intro (by omega) ?_ | (apply Sp.o; constructor) | refine mkl_own ?_ | refine frz0_i ?_ | refine any_i [] ?_) | simp (maxSteps := 1000000) (disch := omega) only [lE,ptrCells,ptrAdd,isNil,readsV,readsP,isCall,wrote,srcOf,seval,IdxR_hds,hy,hsame.1,hsame.2,hOl,Int.toNat_natCast,List.length_map,fillE,List.length_cons,List.length_nil])
        all_goals try (exfalso; omega)
        all_goals exact back_i (i + 1) hback (by omega) (Ent.to [0, 1, 2] false (by simp) (by simp) rfl (by simp only [lP,seval,hO',hN',hA',hnx3,hnx2,hdn2,hD',hdd,pa_hds] <;> (try simp) <;> (try omega)) (by simp only [lP,seval,hO',hN',hA',hnx3,hnx2,hdn2,hD',hdd,pa_hds] <;> (try simp) <;> (try omega)))
      | false =>
        simp only [hsame,hb,or_false,and_self,and_false,false_and,if_false,if_true,List.nil_append,List.append_nil,List.map_cons,List.map_nil,List.length_cons,List.length_nil,reduceCtorEq,true_or] at hnx2 hnx3
        have hnx2' : O.map Hd.av ++ [AV.agg (w.row s).cs] = A' := hnx2.symm
        rw [hxc] at hnx2' ⊢
        repeat' (first | (with_reducible apply St.o; constructor) <;> intro _ | (with_reducible first | refine LenR_i fun _ => ?_ | refine And.intro (by omega) ?_ | (apply Sp.o; constructor) | refine mkl_own ?_ | refine frz0_i ?_ | refine any_i [] ?_) | simp (maxSteps := 1000000) (disch := omega) only [lE,ptrCells,ptrAdd,isNil,readsV,readsP,isCall,wrote,srcOf,seval,IdxR_hds,hy,hsame.1,hsame.2,hOl,hnx2',Int.toNat_natCast,List.length_map,fillE,List.length_cons,List.length_nil])
        all_goals try (exfalso; omega)
        all_goals exact back_i (i + 1) hback (by omega) (Ent.to [0, 1, 4] false (by simp) (by simp) rfl (by simp only [lP,seval,hO',hN',hA',hnx3,hdn2,hD',hdd,hvA,hxc] <;> (try simp) <;> (try omega)) (by simp only [lP,seval,hO',hN',hA',hnx3,hdn2,hD',hdd,hvA,hxc] <;> (try simp) <;> (try omega)))
    · have hns : ¬ (y.t = w.t ∧ y.r = w.r) := hsame
      by_cases hb : (w.row s).before y
      · have hbb : ¬ y.before (w.row s) := before_asymm hb
        rw [decide_eq_true hb] at h80
        rw [decide_eq_false hbb, Bool.not_false, Bool.or_true] at hdd
        cases D with
        | true =>
          simp only [hsame,hb,or_true,and_true,false_and,if_false,if_true,List.nil_append,List.map_cons,List.map_nil,List.length_cons,List.length_nil,reduceCtorEq] at hnx2 hnx3
          have hnx2' : O.map Hd.av ++ [AV.agg y.cs] = A' := hnx2.symm
          repeat' (first | (with_reducible apply St.o; constructor) <;> intro _ | (with_reducible first | refine LenR_i fun _ => ?_ | refine And.intro (by omega) ?_ | (apply Sp.o; constructor) | refine mkl_own ?_ | refine frz0_i ?_ | refine any_i [] ?_) | ((with_reducible apply Sc.o true; constructor); simp only [lP,seval,IdxR_hds,hy,hOl,hnx2',Int.toNat_natCast,List.length_map,fillE,List.length_cons,List.length_nil]; refine ⟨_,h80,?_⟩; rintro _ _ ⟨rfl,rfl⟩; simp only [lA,lP,ptrCells,ptrAdd,isNil,readsV,readsP,isCall,wrote,srcOf,seval,IdxR_hds,hy,hOl,hnx2',Int.toNat_natCast,List.length_map,fillE,List.length_cons,List.length_nil]) | simp (maxSteps := 1000000) (disch := omega) only [lE,ptrCells,ptrAdd,isNil,readsV,readsP,isCall,wrote,srcOf,seval,IdxR_hds,hy,hOl,hnx2',Int.toNat_natCast,List.length_map,fillE,List.length_cons,List.length_nil])
          all_goals try (exfalso; omega)
          all_goals exact back_i (i + 1) hback (by omega) (Ent.to [0, 1, 4] false (by simp) (by simp) rfl (by simp only [lP,seval,hO',hN',hA',hnx3,hdn2,hD',hdd,hvA] <;> (try simp) <;> (try omega)) (by simp only [lP,seval,hO',hN',hA',hnx3,hdn2,hD',hdd,hvA] <;> (try simp) <;> (try omega)))
        | false =>
          simp only [hsame,hb,or_true,and_self,false_and,if_false,if_true,List.map_append,List.length_append,List.map_cons,List.map_nil,List.length_cons,List.length_nil,reduceCtorEq,List.cons_append,List.nil_append] at hnx2 hnx3
          have hnx2' : (O.map Hd.av ++ [AV.agg (w.row s).cs]) ++ [AV.agg y.cs] = A' := by rw [List.append_assoc]; exact hnx2.symm
          rw [hxc] at hnx2' ⊢
          repeat' (first | (with_reducible apply St.o; constructor) <;> intro _ | (with_reducible first | refine LenR_i fun _ => ?_ | refine And.intro (by omega) ?_ | (apply Sp.o; constructor) | refine mkl_own ?_ | refine frz0_i ?_ | refine any_i [] ?_) | ((with_reducible apply Sc.o true; constructor); simp only [lP,seval,IdxR_hds,hy,hOl,hnx2',Int.toNat_natCast,List.length_map,fillE,List.length_cons,List.length_nil,List.length_append]; refine ⟨_,h80,?_⟩; rintro _ _ ⟨rfl,rfl⟩; simp only [lA,lP,ptrCells,ptrAdd,isNil,readsV,readsP,isCall,wrote,srcOf,seval,IdxR_hds,hy,hOl,hnx2',Int.toNat_natCast,List.length_map,fillE,List.length_cons,List.length_nil,List.length_append]) | simp (maxSteps := 1000000) (disch := omega) only [lE,ptrCells,ptrAdd,isNil,readsV,readsP,isCall,wrote,srcOf,seval,IdxR_hds,hy,hOl,hnx2',Int.toNat_natCast,List.length_map,fillE,List.length_cons,List.length_nil,List.length_append])
          all_goals try (exfalso; omega)
          all_goals exact back_i (i + 1) hback (by omega) (Ent.to [0, 1, 6] false (by simp) (by simp) rfl (by simp only [lP,seval,hO',hN',hA',hnx3,hdn2,hD',hdd,hvA,hxc] <;> (try simp) <;> (try omega)) (by simp only [lP,seval,hO',hN',hA',hnx3,hdn2,hD',hdd,hvA,hxc] <;> (try simp) <;> (try omega)))
      · have hbb : y.before (w.row s) := by
          rcases hcase with q | q | q
          · exact q
          · exact absurd q hsame
          · exact absurd q hb
        rw [decide_eq_true hbb, Bool.not_true, Bool.or_false] at hdd
        simp only [hsame,hb,or_self,and_false,if_false,List.nil_append,List.map_cons,List.map_nil,List.length_cons,List.length_nil] at hnx2 hnx3
        rw [decide_eq_false hb] at h80
        have hnx2' : O.map Hd.av ++ [AV.agg y.cs] = A' := hnx2.symm
        repeat' (first | (with_reducible apply St.o; constructor) <;> intro _ | (with_reducible first | refine LenR_i fun _ => ?_ | refine And.intro (by omega) ?_ | (apply Sp.o; constructor) | refine mkl_own ?_ | refine frz0_i ?_ | refine any_i [] ?_) | ((with_reducible apply Sc.o true; constructor); simp only [lP,seval,IdxR_hds,hy,hOl,hnx2',Int.toNat_natCast,List.length_map,fillE,List.length_cons,List.length_nil]; refine ⟨_,h80,?_⟩; rintro _ _ ⟨rfl,rfl⟩; simp only [lA,lP,ptrCells,ptrAdd,isNil,readsV,readsP,isCall,wrote,srcOf,seval,IdxR_hds,hy,hOl,hnx2',Int.toNat_natCast,List.length_map,fillE,List.length_cons,List.length_nil]) | simp (maxSteps := 1000000) (disch := omega) only [lE,ptrCells,ptrAdd,isNil,readsV,readsP,isCall,wrote,srcOf,seval,IdxR_hds,hy,hOl,hnx2',Int.toNat_natCast,List.length_map,fillE,List.length_cons,List.length_nil])
        all_goals try (exfalso; omega)
        all_goals exact back_i (i + 1) hback (by omega) (Ent.to [0, 1, 4] false (by simp) (by simp) rfl (by simp only [lP,seval,hO',hN',hA',hnx3,hdn2,hD',hdd,hvA] <;> (try simp) <;> (try omega)) (by simp only [lP,seval,hO',hN',hA',hnx3,hdn2,hD',hdd,hvA] <;> (try simp) <;> (try omega)))
  · have hie : i = l.length := by omega
    subst hie
    have hOl : ((outP s l w l.length).map Hd.av).length = (outP s l w l.length).length := by simp
    have hOb : (outP s l w l.length).length ≤ 2 * l.length + 1 := by
      have h1 := List.length_filter_le (fun y => decide (y.before (w.row s))) (l.take l.length)
      have h2 := List.length_filter_le (fun y => decide ((w.row s).before y)) (l.take l.length)
      rw [List.length_take] at h1 h2
      unfold outP
      simp only [List.length_append]
      split
      · simp only [List.length_cons,List.length_nil]; omega
      · simp only [List.length_nil]; omega
    generalize outP s l w l.length = O at *
    generalize hD : (w.dead || dnP l (w.row s) l.length) = D at *
    generalize putL s l w = P at *
    cases D with
    | true =>
      simp only [reduceCtorEq,if_false,List.append_nil] at hend
      subst hend
      repeat' (first | (with_reducible apply St.o; constructor) <;> intro _ | (with_reducible first | refine LenR_i fun _ => ?_ | refine And.intro (by omega) ?_ | (apply Sp.o; constructor) | refine mkl_own ?_ | refine frz0_i ?_) | simp (maxSteps := 1000000) (disch := omega) only [lE,ptrCells,ptrAdd,isNil,readsV,readsP,isCall,wrote,srcOf,seval,List.length_map,Int.lt_irrefl,decide_false])
      exact keep_i [] true rfl (by simp) rfl ⟨by simp only [lP,seval,vw_hds,List.length_map],by simp only [lP,seval]⟩
    | false =>
      simp only [if_true] at hend
      have hA : O.map Hd.av ++ [AV.agg (w.row s).cs] = P.map Hd.av := by rw [hend, List.map_append]; rfl
      have hPl : P.length = O.length + 1 := by rw [hend]; simp
      rw [hxc] at hA ⊢
      repeat' (first | (with_reducible apply St.o; constructor) <;> intro _ | (with_reducible first | refine LenR_i fun _ => ?_ | refine And.intro (by omega) ?_ | (apply Sp.o; constructor) | refine mkl_own ?_ | refine frz0_i ?_) | simp (maxSteps := 1000000) (disch := omega) only [lE,ptrCells,ptrAdd,isNil,readsV,readsP,isCall,wrote,srcOf,seval,hOl,hA,fillE,List.length_map,Int.lt_irrefl,decide_false])
      all_goals exact keep_i [] true rfl (by simp) rfl ⟨by simp only [lP,seval,vw_hds,List.length_map,hPl],by simp only [lP,seval]⟩
end Go.Proofs.Try

