/-
  A part of the proof: see the text of the law.
-/
import Derived.Test.YtmmedfdilaijhaaGreatEaf
set_option linter.unusedSimpArgs false
set_option linter.unusedVariables false
namespace Go.Proofs.Try
open Go.Proofs.Tryz
open Go.Al
set_option maxRecDepth 100000
def mc28 : MC :=
(.seq (.ops [(none,.v (.mov 4 (.c (.bool false))))])
(.seq (.ops [(none,.v (.mov 5 (.t 0))),
(none,.v (.mov 6 (.t 1))),
(none,.e (.call (some 7) 56 [(.t 5),(.t 6)])),
(none,.v (.bin 8 .geq false (.t 7) (.c (.int .i64 0)))),
(none,.v (.mov 4 (.t 8)))])
.ret))
theorem ok28 : FnOk E 28 9 [.tmp 4] mc28 := .of func28 (by kernel_rfl) (by kernel_rfl) (by kernel_rfl) (by kernel_rfl) (by kernel_rfl)
def mc34 : MC :=
(.seq (.ops [(none,.v (.mov 4 (.c (.bool false))))])
(.seq (.ops [(none,.v (.mov 5 (.t 0))),
(none,.v (.mov 6 (.t 1))),
(none,.e (.call (some 7) 61 [(.t 5),(.t 6)])),
(none,.v (.bin 8 .geq false (.t 7) (.c (.int .i64 0)))),
(none,.v (.mov 4 (.t 8)))])
.ret))
theorem ok34 : FnOk E 34 9 [.tmp 4] mc34 := .of func34 (by kernel_rfl) (by kernel_rfl) (by kernel_rfl) (by kernel_rfl) (by kernel_rfl)
def mc45 : MC :=
(.seq (.ops [(none,.v (.mov 4 (.c (.bool false))))])
(.seq (.ops [(none,.v (.mov 5 (.t 0))),
(none,.v (.mov 6 (.t 1))),
(none,.e (.call (some 7) 70 [(.t 5),(.t 6)])),
(none,.v (.bin 8 .geq false (.t 7) (.c (.int .i64 0)))),
(none,.v (.mov 4 (.t 8)))])
.ret))
theorem ok45 : FnOk E 45 9 [.tmp 4] mc45 := .of func45 (by kernel_rfl) (by kernel_rfl) (by kernel_rfl) (by kernel_rfl) (by kernel_rfl)
def mc56 : MC :=
(.seq (.ops [(none,.v (.mov 4 (.c (.int .i64 0))))])
(.seq (.seq (.ops [(none,.v (.mov 6 (.t 0))),
(none,.p (.len 7 (.t 6))),
(none,.v (.mov 8 (.c (.int .i64 0))))])
(.block 0 (.loop (.seq (.ops [(none,.v (.bin 9 .lss false (.t 8) (.t 7)))])
(.seq (.cond 9
.skip
(.exit 0))
(.seq (.block 1 (.seq (.ops [(none,.v (.mov 10 (.t 8))),
(none,.v (.mov 5 (.t 10)))])
(.seq (.ops [(none,.v (.mov 11 (.t 1))),
(none,.v (.mov 12 (.t 0))),
(none,.v (.mov 13 (.t 5))),
(none,.p (.idx 14 1 (.t 12) (.t 13))),
(none,.v (.load 15 false 1 (.t 14))),
(none,.v (.bin 16 .eql false (.t 11) (.t 15)))])
(.cond 16
(.seq (.ops [(none,.v (.mov 17 (.t 5))),
(none,.v (.mov 4 (.t 17)))])
.ret)
.skip))))
(.ops [(none,.v (.bin 18 .add false (.t 8) (.c (.int .i64 1)))),
(none,.v (.mov 8 (.t 18)))])))))))
(.seq (.ops [(none,.v (.mov 4 (.c (.int .i64 (-1)))))])
.ret)))
theorem ok56 : FnOk E 56 19 [.tmp 4] mc56 := .of func56 (by kernel_rfl) (by kernel_rfl) (by kernel_rfl) (by kernel_rfl) (by kernel_rfl)
def mc61 : MC :=
(.seq (.ops [(none,.v (.mov 4 (.c (.int .i64 0))))])
(.seq (.seq (.ops [(none,.v (.mov 6 (.t 0))),
(none,.p (.len 7 (.t 6))),
(none,.v (.mov 8 (.c (.int .i64 0))))])
(.block 0 (.loop (.seq (.ops [(none,.v (.bin 9 .lss false (.t 8) (.t 7)))])
(.seq (.cond 9
.skip
(.exit 0))
(.seq (.block 1 (.seq (.ops [(none,.v (.mov 10 (.t 8))),
(none,.v (.mov 5 (.t 10)))])
(.seq (.ops [(none,.v (.mov 11 (.t 1))),
(none,.v (.mov 12 (.t 0))),
(none,.v (.mov 13 (.t 5))),
(none,.p (.idx 14 1 (.t 12) (.t 13))),
(none,.v (.load 15 false 1 (.t 14))),
(none,.e (.callv (some 16) (.t 11) [(.t 15)]))])
(.cond 16
(.seq (.ops [(none,.v (.mov 17 (.t 5))),
(none,.v (.mov 4 (.t 17)))])
.ret)
.skip))))
(.ops [(none,.v (.bin 18 .add false (.t 8) (.c (.int .i64 1)))),
(none,.v (.mov 8 (.t 18)))])))))))
(.seq (.ops [(none,.v (.mov 4 (.c (.int .i64 (-1)))))])
.ret)))
theorem ok61 : FnOk E 61 19 [.tmp 4] mc61 := .of func61 (by kernel_rfl) (by kernel_rfl) (by kernel_rfl) (by kernel_rfl) (by kernel_rfl)
def mc70 : MC :=
(.seq (.ops [(none,.v (.mov 4 (.c (.int .i64 0))))])
(.seq (.seq (.ops [(none,.v (.mov 6 (.t 0))),
(none,.p (.len 7 (.t 6))),
(none,.v (.mov 8 (.c (.int .i64 0))))])
(.block 0 (.loop (.seq (.ops [(none,.v (.bin 9 .lss false (.t 8) (.t 7)))])
(.seq (.cond 9
.skip
(.exit 0))
(.seq (.block 1 (.seq (.ops [(none,.v (.mov 10 (.t 8))),
(none,.v (.mov 5 (.t 10)))])
(.seq (.ops [(none,.v (.mov 11 (.t 1))),
(none,.v (.mov 12 (.t 0))),
(none,.v (.mov 13 (.t 5))),
(none,.p (.idx 14 4 (.t 12) (.t 13))),
(none,.v (.load 15 true 4 (.t 14))),
(none,.e (.callv (some 16) (.t 11) [(.t 15)]))])
(.cond 16
(.seq (.ops [(none,.v (.mov 17 (.t 5))),
(none,.v (.mov 4 (.t 17)))])
.ret)
.skip))))
(.ops [(none,.v (.bin 18 .add false (.t 8) (.c (.int .i64 1)))),
(none,.v (.mov 8 (.t 18)))])))))))
(.seq (.ops [(none,.v (.mov 4 (.c (.int .i64 (-1)))))])
.ret)))
theorem ok70 : FnOk E 70 19 [.tmp 4] mc70 := .of func70 (by kernel_rfl) (by kernel_rfl) (by kernel_rfl) (by kernel_rfl) (by kernel_rfl)
end Go.Proofs.Try
namespace Go.Proofs.Try
open Go.Proofs.Tryz
open Go.Al
set_option linter.unusedVariables false
set_option linter.unusedSimpArgs false
set_option maxRecDepth 20000
set_option maxHeartbeats 8000000

def firstI {α : Type} (p : α → Bool) (l : List α) : Int := match l.findIdx? p with
  | some i => i
  | none => -1
theorem firstI_some {α : Type} [Inhabited α] {p : α → Bool} {l : List α} {i : Nat} (hi : i < l.length) (hp : p (l.getD i default) = true) (hn : ∀ x ∈ l.take i, p x = false) : firstI p l = i := by
  unfold firstI; rw [first_some hi hp hn]
theorem firstI_none {α : Type} {p : α → Bool} {l : List α} (hn : ∀ x ∈ l, p x = false) : firstI p l = -1 := by
  unfold firstI; rw [first_none hn]
theorem firstI_any {α : Type} (p : α → Bool) (l : List α) : decide (0 ≤ firstI p l) = l.any p := by
  unfold firstI
  cases hf : l.findIdx? p with
  | none =>
    have := List.findIdx?_eq_none_iff.1 hf
    have e : l.any p = false := by simpa using this
    rw [e]; rfl
  | some i =>
    obtain ⟨hi, hp, _⟩ := List.findIdx?_eq_some_iff_getElem.1 hf
    have e : l.any p = true := List.any_eq_true.2 ⟨_, List.getElem_mem hi, hp⟩
    rw [e]
    simp
theorem c61 (l : List Int) (f : FuncId) (caps : List AV) (p : Int → Bool) (hp : ∀ r ∈ l, ACalls E.P f (.int .i64 r :: caps) [] (fun q H => q = .bool (p r) ∧ H = [])) (hcap : ∀ H ids bor, caps.map (pa H ids bor 8) = caps) :
    ACalls E.P 61 [.view 1 (l.map (AV.int .i64)), .fn (.func f) [] caps] [] (fun r H => r = .int .i64 (firstI p l) ∧ H = []) := by
  have hmax := maxLen_eq
  refine ok61.acalls hE hm (by simp) fun N hN => ?_
  unfold mc61
  simp only [lA,ptrCells,ptrAdd,isNil,readsV,readsP,isCall,wrote,srcOf,seval]
  refine LenR_i fun hl => ?_
  rw [List.length_map, hmax] at hl
  simp only [lA,ptrCells,ptrAdd,isNil,readsV,readsP,isCall,wrote,srcOf,seval,List.length_map]
  refine loop_i (fun i : Nat => i ≤ l.length ∧ ∀ x ∈ l.take i, p x = false) (fun i => ⟨[(0, .view 1 (l.map (AV.int .i64))), (1, .fn (.func f) [] caps), (7, .int .i64 l.length), (8, .int .i64 i)], []⟩) (fun i => l.length - i) 0 ⟨by omega, by simp⟩ (Ent.fr (by simp [FrSub, Go.Al.get])) ?_
  rintro i ⟨hi, hn⟩
  by_cases hil : i < l.length
  · have hpi := hp _ (getD_mem hil)
    have hs : p (l.getD i default) = true → firstI p l = i := fun q => firstI_some hil q hn
    have hf : ¬ p (l.getD i default) = true → ∀ x ∈ l.take (i + 1), p x = false := fun q => all_step hil hn (by simpa using q)
    generalize hx : l.getD i default = x at *
    have hx0 : l.getD i 0 = x := hx
    repeat' (first | (with_reducible apply St.o; constructor) <;> intro _ | (with_reducible first | refine LenR_i fun _ => ?_ | refine And.intro (by omega) ?_ | (apply Sp.o; constructor) | refine mkl_own ?_ | refine frz0_i ?_) | ((with_reducible apply Sc.o true; constructor); simp only [lP,seval,IdxR_int,Int.toNat_natCast,List.length_map,hx,hx0,hcap]; refine ⟨_,hpi,?_⟩; rintro _ _ ⟨rfl,rfl⟩; simp only [lA,lP,ptrCells,ptrAdd,isNil,readsV,readsP,isCall,wrote,srcOf,seval,IdxR_int,Int.toNat_natCast,List.length_map,hx,hx0,hcap]) | simp (maxSteps := 1000000) (disch := omega) only [lE,ptrCells,ptrAdd,isNil,readsV,readsP,isCall,wrote,srcOf,seval,IdxR_int,Int.toNat_natCast,List.length_map,hx,hx0,hcap])
    all_goals try (exfalso; omega)
    · rename_i q
      exact keep_n (hs q).symm
    · rename_i q
      exact back_i (i + 1) ⟨by omega, hf (by simpa using q)⟩ (by omega) (Ent.fr (by simp [FrSub, Go.Al.get]))
  · have hie : i = l.length := by omega
    subst hie
    rw [List.take_length] at hn
    repeat' (first | (with_reducible apply St.o; constructor) <;> intro _ | (with_reducible first | refine LenR_i fun _ => ?_ | refine And.intro (by omega) ?_ | (apply Sp.o; constructor) | refine mkl_own ?_ | refine frz0_i ?_) | simp (maxSteps := 1000000) (disch := omega) only [lE,ptrCells,ptrAdd,isNil,readsV,readsP,isCall,wrote,srcOf,seval,List.length_map,Int.lt_irrefl,decide_false])
    exact keep_n (firstI_none hn).symm
theorem c34 (l : List Int) (f : FuncId) (caps : List AV) (p : Int → Bool) (hp : ∀ r ∈ l, ACalls E.P f (.int .i64 r :: caps) [] (fun q H => q = .bool (p r) ∧ H = [])) (hcap : ∀ H ids bor, caps.map (pa H ids bor 8) = caps) (hcap7 : ∀ H ids bor, caps.map (pa H ids bor 7) = caps) :
    ACalls E.P 34 [.view 1 (l.map (AV.int .i64)), .fn (.func f) [] caps] [] (fun r H => r = .bool (l.any p) ∧ H = []) := by
  have h39 := c61 l f caps p hp hcap
  have ha := firstI_any p l
  refine ok34.acalls hE hm (by simp) fun N hN => ?_
  unfold mc34
  simp only [lA,ptrCells,ptrAdd,isNil,readsV,readsP,isCall,wrote,srcOf,seval]
  repeat' (first | (with_reducible apply St.o; constructor) <;> intro _ | (with_reducible first | refine LenR_i fun _ => ?_ | refine And.intro (by omega) ?_ | (apply Sp.o; constructor) | refine mkl_own ?_ | refine frz0_i ?_) | ((with_reducible apply Sc.o true; constructor); simp only [lP,seval,hcap,hcap7]; refine ⟨_,h39,?_⟩; rintro _ _ ⟨rfl,rfl⟩; simp only [lA,lP,ptrCells,ptrAdd,isNil,readsV,readsP,isCall,wrote,srcOf,seval,hcap,hcap7]) | simp (maxSteps := 1000000) (disch := omega) only [lE,ptrCells,ptrAdd,isNil,readsV,readsP,isCall,wrote,srcOf,seval,hcap,hcap7])
  all_goals exact keep_b ha
theorem c70 (l : List Hd) (f : FuncId) (caps : List AV) (p : Hd → Bool) (hp : ∀ r ∈ l, ACalls E.P f (r.av :: caps) [] (fun q H => q = .bool (p r) ∧ H = [])) (hcap : ∀ H ids bor, caps.map (pa H ids bor 8) = caps) :
    ACalls E.P 70 [.view 4 (l.map Hd.av), .fn (.func f) [] caps] [] (fun r H => r = .int .i64 (firstI p l) ∧ H = []) := by
  have hmax := maxLen_eq
  refine ok70.acalls hE hm (by simp) fun N hN => ?_
  unfold mc70
  simp only [lA,ptrCells,ptrAdd,isNil,readsV,readsP,isCall,wrote,srcOf,seval]
  refine LenR_i fun hl => ?_
  rw [List.length_map, hmax] at hl
  simp only [lA,ptrCells,ptrAdd,isNil,readsV,readsP,isCall,wrote,srcOf,seval,List.length_map]
  refine loop_i (fun i : Nat => i ≤ l.length ∧ ∀ x ∈ l.take i, p x = false) (fun i => ⟨[(0, .view 4 (l.map Hd.av)), (1, .fn (.func f) [] caps), (7, .int .i64 l.length), (8, .int .i64 i)], []⟩) (fun i => l.length - i) 0 ⟨by omega, by simp⟩ (Ent.fr (by simp [FrSub, Go.Al.get])) ?_
  rintro i ⟨hi, hn⟩
  by_cases hil : i < l.length
  · have hpi := hp _ (getD_mem hil)
    have hs : p (l.getD i default) = true → firstI p l = i := fun q => firstI_some hil q hn
    have hf : ¬ p (l.getD i default) = true → ∀ x ∈ l.take (i + 1), p x = false := fun q => all_step hil hn (by simpa using q)
    generalize hx : l.getD i default = x at *
    simp only [hd_av] at hpi
    repeat' (first | (with_reducible apply St.o; constructor) <;> intro _ | (with_reducible first | refine LenR_i fun _ => ?_ | refine And.intro (by omega) ?_ | (apply Sp.o; constructor) | refine mkl_own ?_ | refine frz0_i ?_) | ((with_reducible apply Sc.o true; constructor); simp only [lP,seval,IdxR_hds,Int.toNat_natCast,List.length_map,hx,hcap]; refine ⟨_,hpi,?_⟩; rintro _ _ ⟨rfl,rfl⟩; simp only [lA,lP,ptrCells,ptrAdd,isNil,readsV,readsP,isCall,wrote,srcOf,seval,IdxR_hds,Int.toNat_natCast,List.length_map,hx,hcap]) | simp (maxSteps := 1000000) (disch := omega) only [lE,ptrCells,ptrAdd,isNil,readsV,readsP,isCall,wrote,srcOf,seval,IdxR_hds,Int.toNat_natCast,List.length_map,hx,hcap])
    all_goals try (exfalso; omega)
    · rename_i q
      exact keep_n (hs q).symm
    · rename_i q
      exact back_i (i + 1) ⟨by omega, hf (by simpa using q)⟩ (by omega) (Ent.fr (by simp [FrSub, Go.Al.get]))
  · have hie : i = l.length := by omega
    subst hie
    rw [List.take_length] at hn
    repeat' (first | (with_reducible apply St.o; constructor) <;> intro _ | (with_reducible first | refine LenR_i fun _ => ?_ | refine And.intro (by omega) ?_ | (apply Sp.o; constructor) | refine mkl_own ?_ | refine frz0_i ?_) | simp (maxSteps := 1000000) (disch := omega) only [lE,ptrCells,ptrAdd,isNil,readsV,readsP,isCall,wrote,srcOf,seval,List.length_map,Int.lt_irrefl,decide_false])
    exact keep_n (firstI_none hn).symm
theorem c45 (l : List Hd) (f : FuncId) (caps : List AV) (p : Hd → Bool) (hp : ∀ r ∈ l, ACalls E.P f (r.av :: caps) [] (fun q H => q = .bool (p r) ∧ H = [])) (hcap : ∀ H ids bor, caps.map (pa H ids bor 8) = caps) (hcap7 : ∀ H ids bor, caps.map (pa H ids bor 7) = caps) :
    ACalls E.P 45 [.view 4 (l.map Hd.av), .fn (.func f) [] caps] [] (fun r H => r = .bool (l.any p) ∧ H = []) := by
  have h56 := c70 l f caps p hp hcap
  have ha := firstI_any p l
  refine ok45.acalls hE hm (by simp) fun N hN => ?_
  unfold mc45
  simp only [lA,ptrCells,ptrAdd,isNil,readsV,readsP,isCall,wrote,srcOf,seval]
  repeat' (first | (with_reducible apply St.o; constructor) <;> intro _ | (with_reducible first | refine LenR_i fun _ => ?_ | refine And.intro (by omega) ?_ | (apply Sp.o; constructor) | refine mkl_own ?_ | refine frz0_i ?_) | ((with_reducible apply Sc.o true; constructor); simp only [lP,seval,hcap,hcap7]; refine ⟨_,h56,?_⟩; rintro _ _ ⟨rfl,rfl⟩; simp only [lA,lP,ptrCells,ptrAdd,isNil,readsV,readsP,isCall,wrote,srcOf,seval,hcap,hcap7]) | simp (maxSteps := 1000000) (disch := omega) only [lE,ptrCells,ptrAdd,isNil,readsV,readsP,isCall,wrote,srcOf,seval,hcap,hcap7])
  all_goals exact keep_b ha
theorem c56 (l : List Int) (v : Int) : ACalls E.P 56 [.view 1 (l.map (AV.int .i64)), .int .i64 v] [] (fun r H => r = .int .i64 (firstI (fun x => decide (v = x)) l) ∧ H = []) := by
  have hmax := maxLen_eq
  refine ok56.acalls hE hm (by simp) fun N hN => ?_
  unfold mc56
  simp only [lA,ptrCells,ptrAdd,isNil,readsV,readsP,isCall,wrote,srcOf,seval]
  refine LenR_i fun hl => ?_
  rw [List.length_map, hmax] at hl
  simp only [lA,ptrCells,ptrAdd,isNil,readsV,readsP,isCall,wrote,srcOf,seval,List.length_map]
  refine loop_i (fun i : Nat => i ≤ l.length ∧ ∀ x ∈ l.take i, decide (v = x) = false) (fun i => ⟨[(0, .view 1 (l.map (AV.int .i64))), (1, .int .i64 v), (7, .int .i64 l.length), (8, .int .i64 i)], []⟩) (fun i => l.length - i) 0 ⟨by omega, by simp⟩ (Ent.fr (by simp [FrSub, Go.Al.get])) ?_
  rintro i ⟨hi, hn⟩
  by_cases hil : i < l.length
  · have hs : v = l.getD i default → firstI (fun x => decide (v = x)) l = i := fun q => firstI_some hil (decide_eq_true q) hn
    have hf : ¬ v = l.getD i default → ∀ x ∈ l.take (i + 1), decide (v = x) = false := fun q => all_step hil hn (by simpa using q)
    generalize hx : l.getD i default = x at *
    have hx0 : l.getD i 0 = x := hx
    repeat' (first | (with_reducible apply St.o; constructor) <;> intro _ | (with_reducible first | refine LenR_i fun _ => ?_ | refine And.intro (by omega) ?_ | (apply Sp.o; constructor) | refine mkl_own ?_ | refine frz0_i ?_) | simp (maxSteps := 1000000) (disch := omega) only [lE,ptrCells,ptrAdd,isNil,readsV,readsP,isCall,wrote,srcOf,seval,IdxR_int,Int.toNat_natCast,List.length_map,hx,hx0])
    all_goals try (exfalso; omega)
    · rename_i q
      exact keep_n (hs q).symm
    · rename_i q
      exact back_i (i + 1) ⟨by omega, hf q⟩ (by omega) (Ent.fr (by simp [FrSub, Go.Al.get]))
  · have hie : i = l.length := by omega
    subst hie
    rw [List.take_length] at hn
    repeat' (first | (with_reducible apply St.o; constructor) <;> intro _ | (with_reducible first | refine LenR_i fun _ => ?_ | refine And.intro (by omega) ?_ | (apply Sp.o; constructor) | refine mkl_own ?_ | refine frz0_i ?_) | simp (maxSteps := 1000000) (disch := omega) only [lE,ptrCells,ptrAdd,isNil,readsV,readsP,isCall,wrote,srcOf,seval,List.length_map,Int.lt_irrefl,decide_false])
    exact keep_n (firstI_none hn).symm
theorem c28 (l : List Int) (v : Int) : ACalls E.P 28 [.view 1 (l.map (AV.int .i64)), .int .i64 v] [] (fun r H => r = .bool (decide (v ∈ l)) ∧ H = []) := by
  have h67 := c56 l v
  have ha := firstI_any (fun x => decide (v = x)) l
  have e : l.any (fun x => decide (v = x)) = decide (v ∈ l) := by
    rw [Bool.eq_iff_iff]
    simp
  rw [e] at ha
  refine ok28.acalls hE hm (by simp) fun N hN => ?_
  unfold mc28
  simp only [lA,ptrCells,ptrAdd,isNil,readsV,readsP,isCall,wrote,srcOf,seval]
  repeat' (first | (with_reducible apply St.o; constructor) <;> intro _ | (with_reducible first | refine LenR_i fun _ => ?_ | refine And.intro (by omega) ?_ | (apply Sp.o; constructor) | refine mkl_own ?_ | refine frz0_i ?_) | ((with_reducible apply Sc.o true; constructor); simp only [lP,seval]; refine ⟨_,h67,?_⟩; rintro _ _ ⟨rfl,rfl⟩; simp only [lA,lP,ptrCells,ptrAdd,isNil,readsV,readsP,isCall,wrote,srcOf,seval]) | simp (maxSteps := 1000000) (disch := omega) only [lE,ptrCells,ptrAdd,isNil,readsV,readsP,isCall,wrote,srcOf,seval])
  all_goals exact keep_b ha
end Go.Proofs.Try


namespace Go.Proofs.Try
open Go.Proofs.Tryz
open Go.Al
set_option maxRecDepth 100000
def mc24 : MC :=
(.seq (.ops [(none,.v (.mov 4 (.c (.bool false))))])
(.seq (.ops [(none,.v (.mov 5 (.t 0))),
(none,.v (.mov 6 (.t 1))),
(none,.e (.call (some 7) 52 [(.t 5),(.t 6)])),
(none,.v (.bin 8 .geq false (.t 7) (.c (.int .i64 0)))),
(none,.v (.mov 4 (.t 8)))])
.ret))
theorem ok24 : FnOk E 24 9 [.tmp 4] mc24 := .of func24 (by kernel_rfl) (by kernel_rfl) (by kernel_rfl) (by kernel_rfl) (by kernel_rfl)
def mc52 : MC :=
(.seq (.ops [(none,.v (.mov 4 (.c (.int .i64 0))))])
(.seq (.seq (.ops [(none,.v (.mov 6 (.t 0))),
(none,.p (.len 7 (.t 6))),
(none,.v (.mov 8 (.c (.int .i64 0))))])
(.block 0 (.loop (.seq (.ops [(none,.v (.bin 9 .lss false (.t 8) (.t 7)))])
(.seq (.cond 9
.skip
(.exit 0))
(.seq (.block 1 (.seq (.ops [(none,.v (.mov 10 (.t 8))),
(none,.v (.mov 5 (.t 10)))])
(.seq (.ops [(none,.v (.mov 11 (.t 1))),
(none,.v (.mov 12 (.t 0))),
(none,.v (.mov 13 (.t 5))),
(none,.p (.idx 14 5 (.t 12) (.t 13))),
(none,.v (.load 15 true 5 (.t 14))),
(none,.e (.callv (some 16) (.t 11) [(.t 15)]))])
(.cond 16
(.seq (.ops [(none,.v (.mov 17 (.t 5))),
(none,.v (.mov 4 (.t 17)))])
.ret)
.skip))))
(.ops [(none,.v (.bin 18 .add false (.t 8) (.c (.int .i64 1)))),
(none,.v (.mov 8 (.t 18)))])))))))
(.seq (.ops [(none,.v (.mov 4 (.c (.int .i64 (-1)))))])
.ret)))
theorem ok52 : FnOk E 52 19 [.tmp 4] mc52 := .of func52 (by kernel_rfl) (by kernel_rfl) (by kernel_rfl) (by kernel_rfl) (by kernel_rfl)
end Go.Proofs.Try
namespace Go.Proofs.Try
open Go.Proofs.Tryz
open Go.Al
set_option linter.unusedVariables false
set_option linter.unusedSimpArgs false
set_option maxRecDepth 20000
set_option maxHeartbeats 8000000

theorem c52 (l : List Hap) (f : FuncId) (caps : List AV) (p : Hap → Bool) (hp : ∀ r ∈ l, ACalls E.P f (r.av :: caps) [] (fun q H => q = .bool (p r) ∧ H = [])) (hcap : ∀ H ids bor, caps.map (pa H ids bor 8) = caps) :
    ACalls E.P 52 [.view 5 (l.map Hap.av), .fn (.func f) [] caps] [] (fun r H => r = .int .i64 (firstI p l) ∧ H = []) := by
  have hmax := maxLen_eq
  refine ok52.acalls hE hm (by simp) fun N hN => ?_
  unfold mc52
  simp only [lA,ptrCells,ptrAdd,isNil,readsV,readsP,isCall,wrote,srcOf,seval]
  refine LenR_i fun hl => ?_
  rw [List.length_map, hmax] at hl
  simp only [lA,ptrCells,ptrAdd,isNil,readsV,readsP,isCall,wrote,srcOf,seval,List.length_map]
  refine loop_i (fun i : Nat => i ≤ l.length ∧ ∀ x ∈ l.take i, p x = false) (fun i => ⟨[(0, .view 5 (l.map Hap.av)), (1, .fn (.func f) [] caps), (7, .int .i64 l.length), (8, .int .i64 i)], []⟩) (fun i => l.length - i) 0 ⟨by omega, by simp⟩ (Ent.fr (by simp [FrSub, Go.Al.get])) ?_
  rintro i ⟨hi, hn⟩
  by_cases hil : i < l.length
  · have hpi := hp _ (getD_mem hil)
    have hs : p (l.getD i default) = true → firstI p l = i := fun q => firstI_some hil q hn
    have hf : ¬ p (l.getD i default) = true → ∀ x ∈ l.take (i + 1), p x = false := fun q => all_step hil hn (by simpa using q)
    generalize hx : l.getD i default = x at *
    simp only [hap_av] at hpi
    repeat' (first | (with_reducible apply St.o; constructor) <;> intro _ | (with_reducible first | refine LenR_i fun _ => ?_ | refine And.intro (by omega) ?_ | (apply Sp.o; constructor) | refine mkl_own ?_ | refine frz0_i ?_) | ((with_reducible apply Sc.o true; constructor); simp only [lP,seval,IdxR_haps,Int.toNat_natCast,List.length_map,hx,hcap]; refine ⟨_,hpi,?_⟩; rintro _ _ ⟨rfl,rfl⟩; simp only [lA,lP,ptrCells,ptrAdd,isNil,readsV,readsP,isCall,wrote,srcOf,seval,IdxR_haps,Int.toNat_natCast,List.length_map,hx,hcap]) | simp (maxSteps := 1000000) (disch := omega) only [lE,ptrCells,ptrAdd,isNil,readsV,readsP,isCall,wrote,srcOf,seval,IdxR_haps,Int.toNat_natCast,List.length_map,hx,hcap])
    all_goals try (exfalso; omega)
    · rename_i q
      exact keep_n (hs q).symm
    · rename_i q
      exact back_i (i + 1) ⟨by omega, hf (by simpa using q)⟩ (by omega) (Ent.fr (by simp [FrSub, Go.Al.get]))
  · have hie : i = l.length := by omega
    subst hie
    rw [List.take_length] at hn
    repeat' (first | (with_reducible apply St.o; constructor) <;> intro _ | (with_reducible first | refine LenR_i fun _ => ?_ | refine And.intro (by omega) ?_ | (apply Sp.o; constructor) | refine mkl_own ?_ | refine frz0_i ?_) | simp (maxSteps := 1000000) (disch := omega) only [lE,ptrCells,ptrAdd,isNil,readsV,readsP,isCall,wrote,srcOf,seval,List.length_map,Int.lt_irrefl,decide_false])
    exact keep_n (firstI_none hn).symm
theorem c24 (l : List Hap) (f : FuncId) (caps : List AV) (p : Hap → Bool) (hp : ∀ r ∈ l, ACalls E.P f (r.av :: caps) [] (fun q H => q = .bool (p r) ∧ H = [])) (hcap : ∀ H ids bor, caps.map (pa H ids bor 8) = caps) (hcap7 : ∀ H ids bor, caps.map (pa H ids bor 7) = caps) :
    ACalls E.P 24 [.view 5 (l.map Hap.av), .fn (.func f) [] caps] [] (fun r H => r = .bool (l.any p) ∧ H = []) := by
  have h66 := c52 l f caps p hp hcap
  have ha := firstI_any p l
  refine ok24.acalls hE hm (by simp) fun N hN => ?_
  unfold mc24
  simp only [lA,ptrCells,ptrAdd,isNil,readsV,readsP,isCall,wrote,srcOf,seval]
  repeat' (first | (with_reducible apply St.o; constructor) <;> intro _ | (with_reducible first | refine LenR_i fun _ => ?_ | refine And.intro (by omega) ?_ | (apply Sp.o; constructor) | refine mkl_own ?_ | refine frz0_i ?_) | ((with_reducible apply Sc.o true; constructor); simp only [lP,seval,hcap,hcap7]; refine ⟨_,h66,?_⟩; rintro _ _ ⟨rfl,rfl⟩; simp only [lA,lP,ptrCells,ptrAdd,isNil,readsV,readsP,isCall,wrote,srcOf,seval,hcap,hcap7]) | simp (maxSteps := 1000000) (disch := omega) only [lE,ptrCells,ptrAdd,isNil,readsV,readsP,isCall,wrote,srcOf,seval,hcap,hcap7])
  all_goals exact keep_b ha
end Go.Proofs.Try

