/-
  A part of the proof: see the text of the law.
-/
import Derived.Test.YtmmedfdilaijhaaGreatEaw
set_option linter.unusedSimpArgs false
set_option linter.unusedVariables false
namespace Go.Proofs.Try
open Go.Proofs.Tryz
open Go.Al
set_option maxRecDepth 100000
def mc32 : MC :=
(.seq (.ops [(none,.e (.box 1 (.t 0))),
(none,.v (.mov 2 (.c (.raw .nilFunc))))])
(.seq (.ops [(none,.v (.fn 3 (.func 60) [] [(.t 1)])),
(none,.v (.mov 2 (.t 3)))])
.ret))
theorem ok32 : FnOk E 32 4 [.tmp 2] mc32 := .of func32 (by kernel_rfl) (by kernel_rfl) (by kernel_rfl) (by kernel_rfl) (by kernel_rfl)
def mc60 : MC :=
(.seq (.ops [(none,.v (.load 4 false 1 (.t 1))),
(none,.p (.len 5 (.t 4))),
(none,.v (.bin 6 .sub false (.t 5) (.c (.int .i64 1)))),
(none,.v (.mov 3 (.t 6)))])
(.block 0 (.loop (.seq (.seq (.ops [(none,.v (.mov 7 (.t 3))),
(none,.v (.bin 8 .geq false (.t 7) (.c (.int .i64 0))))])
(.cond 8
.skip
(.exit 0)))
(.seq (.block 1 (.seq (.ops [(none,.v (.mov 11 (.t 0))),
(none,.v (.mov 12 (.t 3))),
(none,.v (.load 13 false 1 (.t 1))),
(none,.v (.mov 14 (.t 3))),
(none,.p (.idx 15 1 (.t 13) (.t 14))),
(none,.v (.load 16 false 1 (.t 15))),
(none,.e (.callv (some 17) (.t 11) [(.t 12),(.t 16)])),
(none,.v (.not 18 (.t 17)))])
(.cond 18
.ret
.skip)))
(.ops [(none,.v (.mov 9 (.t 3))),
(none,.v (.bin 10 .sub false (.t 9) (.c (.int .i64 1)))),
(none,.v (.mov 3 (.t 10)))]))))))
theorem ok60 : FnOk E 60 19 [] mc60 := .of func60 (by kernel_rfl) (by kernel_rfl) (by kernel_rfl) (by kernel_rfl) (by kernel_rfl)
end Go.Proofs.Try
namespace Go.Proofs.Try
open Go.Proofs.Tryz
open Go.Al
set_option linter.unusedVariables false
set_option linter.unusedSimpArgs false
set_option maxRecDepth 20000
set_option maxHeartbeats 8000000

theorem c32 (l : List Int) : ACalls E.P 32 [.view 1 (l.map (AV.int .i64))] [] (fun r H => r = .fn (.func 60) [] [.vp [.view 1 (l.map (AV.int .i64))]] ∧ H = []) := by
  refine ok32.acalls hE hm (by simp) fun N hN => ?_
  unfold mc32
  simp only [lA,ptrCells,ptrAdd,isNil,readsV,readsP,isCall,wrote,srcOf,seval]
  repeat' (first | (with_reducible apply St.o; constructor) <;> intro _ | (with_reducible first | refine LenR_i fun _ => ?_ | refine And.intro (by omega) ?_ | (apply Sp.o; constructor) | refine mkl_own ?_ | refine frz0_i ?_) | simp (maxSteps := 1000000) (disch := omega) only [lE,ptrCells,ptrAdd,isNil,readsV,readsP,isCall,wrote,srcOf,seval])
  all_goals exact keep_i [] true (by simp) (by simp) rfl ⟨by simp only [lP,seval],by simp only [lP,seval]⟩
section
variable {X : Type} {S : X → (Nat → Prop) → List AObj → Prop} {id : Nat}
def foldB (f : X → Nat → Int → X) (x : X) : Nat → List Int → X
  | _, [] => x
  | j, t :: l => f (foldB f x (j + 1) l) j t
theorem c60g (hG : Grows S) (f : X → Nat → Int → X) (l : List Int) (hc : l.length ≤ 1048576) (x : X)
    (hy : ∀ y j t G H, j < l.length → l.getD j 0 = t → y = foldB f x (j + 1) (l.drop (j + 1)) → S y G H → AYield E.P id [.int .i64 j, .int .i64 t] H (fun r H' => r = .bool true ∧ Bhd S (f y j t) G H H')) (G : Nat → Prop) (H : List AObj) (hs : S x G H) :
    ACalls E.P 60 [.yld id, .vp [.view 1 (l.map (AV.int .i64))]] H (fun r H' => Bhd S (foldB f x 0 l) G H H') := by
  have hmax := maxLen_eq
  refine ok60.acalls0 hE hm (by simp) fun N hN => ?_
  unfold mc60
  simp only [lA,ptrCells,ptrAdd,isNil,readsV,readsP,isCall,wrote,srcOf,seval]
  refine LenR_i fun hlen => ?_
  simp only [lA,ptrCells,ptrAdd,isNil,readsV,readsP,isCall,wrote,srcOf,seval,List.length_map,wrap_i64 (show -9223372036854775808 ≤ (l.length : Int) - 1 by omega) (show (l.length : Int) - 1 ≤ 9223372036854775807 by omega)]
  refine loop_i (fun p : Nat × List AObj => p.1 ≤ l.length ∧ Bhd S (foldB f x p.1 (l.drop p.1)) G H p.2) (fun p => ⟨[(0, .yld id), (1, .vp [.view 1 (l.map (AV.int .i64))]), (3, .int .i64 ((p.1 : Int) - 1))], p.2⟩) (fun p => p.1) (l.length, H)
    ⟨by simp,by simp only [List.drop_length,foldB]; exact ⟨hs,Nat.le_refl _,fun _ _ => rfl⟩⟩ (Ent.fr (by simp [FrSub,Go.Al.get])) ?_
  rintro ⟨j, H2⟩ ⟨hj, hb⟩
  simp only at hj hb ⊢
  rcases Nat.eq_zero_or_pos j with rfl | hpos
  · repeat' (first | (with_reducible apply St.o; constructor) <;> intro _ | (with_reducible first | refine LenR_i fun _ => ?_ | refine And.intro (by omega) ?_ | (apply Sp.o; constructor) | refine mkl_own ?_ | refine frz0_i ?_) | simp (maxSteps := 1000000) (disch := omega) only [lE,ptrCells,ptrAdd,isNil,readsV,readsP,isCall,wrote,srcOf,seval])
    all_goals try (exfalso; omega)
    exact hb
  · obtain ⟨i, rfl⟩ : ∃ i, j = i + 1 := ⟨j - 1, by omega⟩
    have hij : ((i + 1 : Nat) : Int) - 1 = i := by omega
    have hdr : l.drop i = l.getD i 0 :: l.drop (i + 1) := by
      rw [List.drop_eq_getElem_cons (by omega), List.getD_eq_getElem?_getD, List.getElem?_eq_getElem (by omega), Option.getD_some]
    have hnx : foldB f x i (l.drop i) = f (foldB f x (i + 1) (l.drop (i + 1))) i (l.getD i 0) := by rw [hdr, foldB]
    have hcall := hy _ i (l.getD i 0) _ _ (by omega) rfl rfl hb.1
    rw [hij]
    repeat' (first | (with_reducible apply St.o; constructor) <;> intro _ | (with_reducible first | refine LenR_i fun _ => ?_ | refine And.intro (by omega) ?_ | (apply Sp.o; constructor) | refine mkl_own ?_ | refine frz0_i ?_) | simp (maxSteps := 1000000) (disch := omega) only [lE,ptrCells,ptrAdd,isNil,readsV,readsP,isCall,wrote,srcOf,seval,IdxR_int,Int.toNat_natCast])
    all_goals try (exfalso; omega)
    refine yld_i hcall ?_
    rintro _ H3 ⟨rfl, hb3⟩
    rw [← hnx] at hb3
    simp only [lA,ptrCells,ptrAdd,isNil,readsV,readsP,isCall,wrote,srcOf,seval,wrap_i64 (show -9223372036854775808 ≤ (i : Int) - 1 by omega) (show (i : Int) - 1 ≤ 9223372036854775807 by omega)]
    exact back_i (i, H3) ⟨by simp only; omega, hb.trans hb3⟩ (by simp only; omega) (Ent.fr (by simp [FrSub, Go.Al.get]))
end
def bkStep (y : List (Int × Int) × Int) (j : Nat) (t : Int) : List (Int × Int) × Int := if t = 0 then (y.1, y.2 + 1) else (setM y.1 t ((j : Int) + 1), y.2)
def bkM (l : List Int) : List (Int × Int) × Int := foldB bkStep ([], 0) 0 l
def placeH (l : List Int) (tx : Int) : Int := if tx = 0 then 0 else match l.findIdx? (fun t => decide (t = tx)) with | some i => (i : Int) + 1 | none => 0
theorem bk_get (tx : Int) : ∀ (l : List Int) (j : Nat), getM (foldB bkStep ([], 0) j l).1 tx = if tx = 0 then none else (l.findIdx? (fun t => decide (t = tx))).map fun i : Nat => (j : Int) + i + 1
  | [], j => by simp [foldB, getM]
  | t :: l, j => by
    have ih := bk_get tx l (j + 1)
    rw [foldB, bkStep]
    by_cases ht : t = 0
    · rw [if_pos ht]
      simp only
      rw [ih]
      by_cases hz : tx = 0
      · rw [if_pos hz, if_pos hz]
      · have hne : ¬ t = tx := fun e => hz (e.symm.trans ht)
        rw [if_neg hz, if_neg hz, List.findIdx?_cons, decide_eq_false hne]
        simp only [Bool.false_eq_true,if_false,Option.map_map]
        congr 1
        funext i
        simp only [Function.comp]
        omega
    · rw [if_neg ht]
      simp only
      rw [getM_set, ih]
      by_cases he : tx = t
      · have hz : ¬ tx = 0 := fun e => ht (he.symm.trans e)
        rw [if_pos he, if_neg hz, List.findIdx?_cons, decide_eq_true he.symm]
        simp
      · have hne : ¬ t = tx := fun e => he e.symm
        rw [if_neg he]
        by_cases hz : tx = 0
        · rw [if_pos hz, if_pos hz]
        · rw [if_neg hz, if_neg hz, List.findIdx?_cons, decide_eq_false hne]
          simp only [Bool.false_eq_true,if_false,Option.map_map]
          congr 1
          funext i
          simp only [Function.comp]
          omega
theorem bkM_get (l : List Int) (tx : Int) : (match getM (bkM l).1 tx with | some v => (AV.int .i64 v, true) | none => (AV.int .i64 0, false)) = (AV.int .i64 (placeH l tx), decide (0 < placeH l tx)) := by
  unfold bkM
  rw [bk_get, placeH]
  by_cases hz : tx = 0
  · rw [if_pos hz, if_pos hz]; rfl
  · rw [if_neg hz, if_neg hz]
    cases l.findIdx? (fun t => decide (t = tx)) with
    | none => rfl
    | some i =>
      simp only [Option.map_some,Int.natCast_zero,Int.zero_add]
      rw [decide_eq_true (by omega)]
def onceB (l : List Int) : Bool := decide (l.filter fun t => !decide (t = 0)).Nodup
theorem setM_len_in {α : Type} {m : List (Int × α)} {r : Int} {v : α} (h : r ∈ keysM m) : (setM m r v).length = m.length := by
  have := congrArg List.length (keysM_set m r v)
  rw [if_pos h] at this
  simpa [keysM] using this
theorem setM_len_out {α : Type} {m : List (Int × α)} {r : Int} {v : α} (h : r ∉ keysM m) : (setM m r v).length = m.length + 1 := by
  have := congrArg List.length (keysM_set m r v)
  rw [if_neg h] at this
  simpa [keysM] using this
theorem bk_len : ∀ (l : List Int) (j : Nat), (foldB bkStep ([], 0) j l).2 = ((l.filter fun t => decide (t = 0)).length : Nat) ∧ (foldB bkStep ([], 0) j l).1.length ≤ (l.filter fun t => !decide (t = 0)).length ∧
    ((foldB bkStep ([], 0) j l).1.length = (l.filter fun t => !decide (t = 0)).length ↔ (l.filter fun t => !decide (t = 0)).Nodup)
  | [], j => by simp [foldB]
  | t :: l, j => by
    obtain ⟨h1, h2, h3⟩ := bk_len l (j + 1)
    have hg := bk_get t l (j + 1)
    rw [foldB, bkStep]
    by_cases ht : t = 0
    · rw [if_pos ht]
      simp only [List.filter_cons,ht,decide_true,Bool.not_true,if_true,Bool.false_eq_true,if_false,List.length_cons]
      exact ⟨by omega, h2, h3⟩
    · rw [if_neg ht]
      simp only [List.filter_cons,decide_eq_false ht,Bool.not_false,Bool.false_eq_true,if_false,if_true,List.length_cons,List.nodup_cons,List.mem_filter,Bool.not_eq_true',decide_eq_false_iff_not]
      rw [if_neg ht] at hg
      by_cases hm : t ∈ l
      · have hin : t ∈ keysM (foldB bkStep ([], 0) (j + 1) l).1 := by
          refine Decidable.byContradiction fun hc => ?_
          rw [getM_none.2 hc] at hg
          have hn := (Option.map_eq_none_iff.1 hg.symm)
          have := List.findIdx?_eq_none_iff.1 hn t hm
          simp at this
        rw [setM_len_in hin]
        refine ⟨h1, by omega, ?_⟩
        constructor
        · intro q; omega
        · rintro ⟨q, _⟩; exact absurd ⟨hm, trivial⟩ q
      · have hin : t ∉ keysM (foldB bkStep ([], 0) (j + 1) l).1 := by
          refine getM_none.1 ?_
          rw [hg, Option.map_eq_none_iff]
          refine List.findIdx?_eq_none_iff.2 fun u hu => ?_
          simp only [decide_eq_false_iff_not]
          rintro rfl
          exact hm hu
        rw [setM_len_out hin]
        refine ⟨h1, by omega, ?_⟩
        constructor
        · intro q
          exact ⟨fun q2 => hm q2.1, h3.1 (by omega)⟩
        · rintro ⟨_, q⟩
          have := h3.2 q
          omega
theorem bkM_once (l : List Int) : (((bkM l).1.length : Int) + (bkM l).2 = l.length) ↔ onceB l = true := by
  obtain ⟨h1, h2, h3⟩ := bk_len l 0
  unfold onceB bkM
  rw [decide_eq_true_eq, ← h3, h1]
  have : (l.filter fun t => decide (t = 0)).length + (l.filter fun t => !decide (t = 0)).length = l.length := by
    clear h1 h2 h3
    induction l with
    | nil => rfl
    | cons t l ih => by_cases ht : t = 0 <;> simp [List.filter_cons, ht] <;> omega
  omega
end Go.Proofs.Try


namespace Go.Proofs.Try
open Go.Proofs.Tryz
open Go.Al
set_option maxRecDepth 100000
def mc36 : MC :=
(.seq (.ops [(none,.v (.mov 4 (.c (.bool false))))])
(.seq (.ops [(none,.v (.load 5 false 1 (.t 1))),
(none,.v (.mov 6 (.t 0))),
(none,.p (.look 7 false (.int .i64) (.int .i64 0) (.t 5) (.t 6))),
(none,.v (.load 8 false 1 (.t 2))),
(none,.v (.bin 9 .gtr false (.t 7) (.t 8))),
(none,.v (.mov 4 (.t 9)))])
.ret))
theorem ok36 : FnOk E 36 10 [.tmp 4] mc36 := .of func36 (by kernel_rfl) (by kernel_rfl) (by kernel_rfl) (by kernel_rfl) (by kernel_rfl)
def mc37 : MC :=
(.seq (.ops [(none,.v (.mov 4 (.c (.bool false))))])
(.seq (.ops [(none,.v (.load 8 false 1 (.t 1))),
(none,.v (.mov 9 (.t 0))),
(none,.p (.look 10 true (.int .i64) (.int .i64 0) (.t 8) (.t 9))),
(none,.v (.mov 7 (.t 10))),
(none,.v (.ext 11 0 (.t 7))),
(none,.v (.ext 12 1 (.t 7))),
(none,.v (.mov 5 (.t 11))),
(none,.v (.mov 6 (.t 12)))])
(.seq (.ops [(none,.v (.mov 13 (.t 0))),
(none,.v (.bin 14 .neq false (.t 13) (.c (.int .i64 0)))),
(none,.v (.mov 15 (.t 14))),
(some (15,true),.v (.mov 16 (.t 6))),
(some (15,true),.v (.not 17 (.t 16))),
(some (15,true),.v (.mov 18 (.t 17))),
(some (18,false),.v (.mov 19 (.t 5))),
(some (18,false),.v (.load 20 false 1 (.t 2))),
(some (18,false),.v (.bin 21 .gtr false (.t 19) (.t 20))),
(some (15,true),.v (.pick 22 (.t 18) (.c (.bool true)) (.t 21))),
(none,.v (.pick 23 (.t 15) (.t 22) (.c (.bool false)))),
(none,.v (.mov 4 (.t 23)))])
.ret)))
theorem ok37 : FnOk E 37 24 [.tmp 4] mc37 := .of func37 (by kernel_rfl) (by kernel_rfl) (by kernel_rfl) (by kernel_rfl) (by kernel_rfl)
end Go.Proofs.Try
namespace Go.Proofs.Try
open Go.Proofs.Tryz
open Go.Al
set_option linter.unusedVariables false
set_option linter.unusedSimpArgs false
set_option maxRecDepth 20000
set_option maxHeartbeats 8000000

def inH (h : List Hap) (tx : Int) : Bool := (h.findIdx? (isAsk tx)).isSome
def lateH (h : List Hap) (i : Int) (tx : Int) : Bool := !decide (tx = 0) && (match h.findIdx? (isAsk tx) with | none => true | some k => decide (i < (k : Int)))
def badAt (h : List Hap) (order : List Int) (i : Nat) : Bool :=
  let x := h.getD i default
  if x.k = 1 then decide (0 < placeH order x.tx) && decide (placeH order x.tx < latest (h.take i))
  else if x.k = 2 then decide ((order.length : Int) < x.st) || !decide (order.getD (x.st - 1).toNat 0 = x.tx)
  else if x.k = 3 then decide (0 < placeH order x.tx)
  else if x.k = 4 then (openL (h.take i)).any fun tx => decide (nextS (h.drop i) < placeH order tx)
  else if x.k = 5 then decide ((order.length : Int) < x.st) || decide (x.st < latest (h.take i)) || (order.take x.st.toNat).any (lateH h i) || !decide (x.rs = stL h order x.st.toNat)
  else false
def endOk (h : List Hap) (order : List Int) : Bool := decide ((order.length : Int) = lenH h) && onceB order && order.all fun tx => decide (tx = 0) || inH h tx
def checkH (h : List Hap) (order : List Int) : Int := match (List.range h.length).find? (badAt h order) with
  | some i => i
  | none => if endOk h order = true then -1 else h.length
theorem look_bk (l : List Int) (tx : Int) : Al.look (.int .i64) (.int .i64 0) (kM (bkM l).1) (vM (AV.int .i64) (bkM l).1) (.int .i64 tx) = some (.int .i64 (placeH l tx), decide (0 < placeH l tx)) := by
  rw [look_m, ← bkM_get]
  cases getM (bkM l).1 tx <;> rfl
theorem c36 (order : List Int) (n tx : Int) : ACalls E.P 36 [.int .i64 tx, .vp [.mview (kM (bkM order).1) (vM (AV.int .i64) (bkM order).1)], .vp [.int .i64 n]] [] (fun q H => q = .bool (decide (n < placeH order tx)) ∧ H = []) := by
  have hlook := look_bk order tx
  refine ok36.acalls hE hm (by simp) fun N hN => ?_
  unfold mc36
  simp only [lA,ptrCells,ptrAdd,isNil,readsV,readsP,isCall,wrote,srcOf,seval]
  repeat' (first | (with_reducible apply St.o; constructor) <;> intro _ | (with_reducible first | refine LenR_i fun _ => ?_ | refine And.intro (by omega) ?_ | (apply Sp.o; constructor) | refine mkl_own ?_ | refine frz0_i ?_) | simp (maxSteps := 1000000) (disch := omega) only [lE,ptrCells,ptrAdd,isNil,readsV,readsP,isCall,wrote,srcOf,seval,hlook])
  all_goals exact keep_b rfl
theorem c37 (h : List Hap) (hr : rightB h = true) (i tx : Int) : ACalls E.P 37 [.int .i64 tx, .vp [.mview (kM (asksM h)) (vM (AV.int .i64) (asksM h))], .vp [.int .i64 i]] [] (fun q H => q = .bool (lateH h i tx) ∧ H = []) := by
  have hlook := look_m (AV.int .i64) (.int .i64 0) (asksM h) tx
  rw [asksM_all hr] at hlook
  have hd : lateH h i tx = (!decide (tx = 0) && (match h.findIdx? (isAsk tx) with | none => true | some k => decide (i < (k : Int)))) := rfl
  refine ok37.acalls hE hm (by simp) fun N hN => ?_
  unfold mc37
  simp only [lA,ptrCells,ptrAdd,isNil,readsV,readsP,isCall,wrote,srcOf,seval]
  cases hf : h.findIdx? (isAsk tx) with
  | none =>
    rw [hf] at hlook hd
    repeat' (first | (with_reducible apply St.o; constructor) <;> intro _ | (with_reducible first | refine LenR_i fun _ => ?_ | refine And.intro (by omega) ?_ | (apply Sp.o; constructor) | refine mkl_own ?_ | refine frz0_i ?_) | simp (maxSteps := 1000000) (disch := omega) only [lE,ptrCells,ptrAdd,isNil,readsV,readsP,isCall,wrote,srcOf,seval,hlook,Option.map_none])
    all_goals (refine keep_b ?_; rw [hd]; simp [*])
  | some k =>
    rw [hf] at hlook hd
    repeat' (first | (with_reducible apply St.o; constructor) <;> intro _ | (with_reducible first | refine LenR_i fun _ => ?_ | refine And.intro (by omega) ?_ | (apply Sp.o; constructor) | refine mkl_own ?_ | refine frz0_i ?_) | simp (maxSteps := 1000000) (disch := omega) only [lE,ptrCells,ptrAdd,isNil,readsV,readsP,isCall,wrote,srcOf,seval,hlook,Option.map_some])
    all_goals (refine keep_b ?_; rw [hd]; simp [*])
theorem vw_kM {α : Type} {H : List AObj} {l : List Nat} {n : Nat} (m : List (Int × α)) : (kM m).map (vw H l (n + 1)) = kM m := by
  unfold kM
  rw [List.map_map]
  exact List.map_congr_left fun p _ => by simp [vw_int]
theorem vw_vI {H : List AObj} {l : List Nat} {n : Nat} (m : List (Int × Int)) : (vM (AV.int .i64) m).map (vw H l (n + 1)) = vM (AV.int .i64) m := by
  unfold vM
  rw [List.map_map]
  exact List.map_congr_left fun p _ => by simp [vw_int]
end Go.Proofs.Try

