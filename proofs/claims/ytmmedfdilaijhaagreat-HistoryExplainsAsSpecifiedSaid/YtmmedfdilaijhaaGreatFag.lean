/-
  A part of the proof: see the text of the law.
-/
import Derived.Test.YtmmedfdilaijhaaGreatFad
set_option linter.unusedSimpArgs false
set_option linter.unusedVariables false
namespace Go.Proofs.Try
open Go.Proofs.Tryz
open Go.Al
set_option maxRecDepth 100000
def mc57 : MC :=
(.seq (.ops [(none,.v (.mov 4 (.c (.int .i64 0))))])
(.seq (.seq (.ops [(none,.v (.mov 5 (.c (.int .i64 0))))])
(.block 0 (.loop (.seq (.seq (.ops [(none,.v (.mov 8 (.t 5))),
(none,.v (.mov 9 (.t 0))),
(none,.p (.len 10 (.t 9))),
(none,.v (.bin 11 .lss false (.t 8) (.t 10)))])
(.cond 11
.skip
(.exit 0)))
(.seq (.block 1 (.seq (.ops [(none,.v (.mov 14 (.t 0))),
(none,.v (.mov 15 (.t 5))),
(none,.v (.mov 16 (.t 1))),
(none,.e (.call (some 17) 79 [(.t 14),(.t 15),(.t 16)])),
(none,.v (.mov 6 (.t 17)))])
(.seq (.ops [(none,.v (.mov 18 (.t 6)))])
(.cond 18
(.seq (.ops [(none,.v (.mov 19 (.t 5))),
(none,.v (.mov 4 (.t 19)))])
.ret)
.skip))))
(.ops [(none,.v (.mov 12 (.t 5))),
(none,.v (.bin 13 .add false (.t 12) (.c (.int .i64 1)))),
(none,.v (.mov 5 (.t 13)))]))))))
(.seq (.seq (.ops [(none,.v (.mov 20 (.t 1))),
(none,.p (.len 21 (.t 20))),
(none,.v (.mov 22 (.t 0))),
(none,.e (.call (some 23) 14 [(.t 22)])),
(none,.v (.bin 24 .neq false (.t 21) (.t 23)))])
(.cond 24
(.seq (.ops [(none,.v (.mov 25 (.t 0))),
(none,.p (.len 26 (.t 25))),
(none,.v (.mov 4 (.t 26)))])
.ret)
.skip))
(.seq (.seq (.ops [(none,.v (.mov 7 (.c (.int .i64 0))))])
(.block 2 (.loop (.seq (.seq (.ops [(none,.v (.mov 27 (.t 7))),
(none,.v (.mov 28 (.t 1))),
(none,.p (.len 29 (.t 28))),
(none,.v (.bin 30 .lss false (.t 27) (.t 29)))])
(.cond 30
.skip
(.exit 2)))
(.seq (.block 3 (.seq (.ops [(none,.v (.mov 33 (.t 1))),
(none,.v (.mov 34 (.t 7))),
(none,.p (.idx 35 1 (.t 33) (.t 34))),
(none,.v (.load 36 false 1 (.t 35))),
(none,.v (.bin 37 .neq false (.t 36) (.c (.int .i64 0)))),
(none,.v (.mov 38 (.t 37))),
(some (38,true),.v (.mov 39 (.t 0))),
(some (38,true),.v (.mov 40 (.t 1))),
(some (38,true),.v (.mov 41 (.t 7))),
(some (38,true),.p (.idx 42 1 (.t 40) (.t 41))),
(some (38,true),.v (.load 43 false 1 (.t 42))),
(some (38,true),.e (.call (some 44) 65 [(.t 39),(.t 43)])),
(some (38,true),.v (.bin 45 .lss false (.t 44) (.c (.int .i64 0)))),
(some (38,true),.v (.mov 46 (.t 45))),
(some (46,false),.v (.mov 47 (.t 1))),
(some (46,false),.v (.mov 48 (.t 1))),
(some (46,false),.v (.mov 49 (.t 7))),
(some (46,false),.p (.idx 50 1 (.t 48) (.t 49))),
(some (46,false),.v (.load 51 false 1 (.t 50))),
(some (46,false),.e (.call (some 52) 59 [(.t 47),(.t 51)])),
(some (46,false),.v (.mov 53 (.t 7))),
(some (46,false),.v (.bin 54 .add false (.t 53) (.c (.int .i64 1)))),
(some (46,false),.v (.bin 55 .neq false (.t 52) (.t 54))),
(some (38,true),.v (.pick 56 (.t 46) (.c (.bool true)) (.t 55))),
(none,.v (.pick 57 (.t 38) (.t 56) (.c (.bool false))))])
(.cond 57
(.seq (.ops [(none,.v (.mov 58 (.t 0))),
(none,.p (.len 59 (.t 58))),
(none,.v (.mov 4 (.t 59)))])
.ret)
.skip)))
(.ops [(none,.v (.mov 31 (.t 7))),
(none,.v (.bin 32 .add false (.t 31) (.c (.int .i64 1)))),
(none,.v (.mov 7 (.t 32)))]))))))
(.seq (.ops [(none,.v (.mov 4 (.c (.int .i64 (-1)))))])
.ret)))))
theorem ok57 : FnOk E 57 60 [.tmp 4] mc57 := .of func57 (by kernel_rfl) (by kernel_rfl) (by kernel_rfl) (by kernel_rfl) (by kernel_rfl)
def mc79 : MC :=
(.seq (.ops [(none,.v (.mov 6 (.c (.bool false))))])
(.seq (.ops [(none,.v (.mov 9 (.t 0))),
(none,.v (.mov 10 (.t 1))),
(none,.p (.idx 11 5 (.t 9) (.t 10))),
(none,.v (.load 12 true 5 (.t 11))),
(none,.e (.alloc 7 [(.int .i64 0),(.int .i64 0),(.int .i64 0),(.raw (.slice none 0 0)),(.raw (.slice none 0 0))])),
(none,.e (.store 5 true (.t 7) (.t 12)))])
(.seq (.ops [(none,.v (.mov 13 (.t 2))),
(none,.v (.fld 14 1 (.t 7))),
(none,.v (.load 15 false 1 (.t 14))),
(none,.e (.call (some 16) 59 [(.t 13),(.t 15)])),
(none,.v (.mov 8 (.t 16)))])
(.seq (.seq (.ops [(none,.v (.fld 17 0 (.t 7))),
(none,.v (.load 18 false 1 (.t 17)))])
(.block 0 (.seq (.ops [(none,.v (.bin 20 .eql false (.t 18) (.c (.int .i64 1)))),
(none,.v (.mov 19 (.t 20)))])
(.cond 19
(.seq (.ops [(none,.v (.mov 21 (.t 8))),
(none,.v (.bin 22 .gtr false (.t 21) (.c (.int .i64 0)))),
(none,.v (.mov 23 (.t 22))),
(some (23,true),.v (.mov 24 (.t 8))),
(some (23,true),.v (.mov 25 (.t 0))),
(some (23,true),.v (.mov 26 (.t 1))),
(some (23,true),.p (.pre 27 5 (.t 25) (some (.t 26)))),
(some (23,true),.e (.call (some 28) 68 [(.t 27)])),
(some (23,true),.v (.bin 29 .lss false (.t 24) (.t 28))),
(none,.v (.pick 30 (.t 23) (.t 29) (.c (.bool false)))),
(none,.v (.mov 6 (.t 30)))])
.ret)
(.seq (.ops [(none,.v (.bin 32 .eql false (.t 18) (.c (.int .i64 2)))),
(none,.v (.mov 31 (.t 32)))])
(.cond 31
(.seq (.any false (.pure0 none (.v (.fld 33 2 (.t 7)))
(.pure0 none (.v (.load 34 false 1 (.t 33)))
(.pure0 none (.v (.mov 35 (.t 2)))
(.pure0 none (.p (.len 36 (.t 35)))
(.pure0 none (.v (.bin 37 .gtr false (.t 34) (.t 36)))
(.pure0 none (.v (.mov 38 (.t 37)))
(.pure0 (some (38,false)) (.v (.mov 39 (.t 2)))
(.pure0 (some (38,false)) (.v (.fld 40 2 (.t 7)))
(.pure0 (some (38,false)) (.v (.load 41 false 1 (.t 40)))
(.pure0 (some (38,false)) (.v (.bin 42 .sub false (.t 41) (.c (.int .i64 1))))
(.pure0 (some (38,false)) (.p (.idx 43 1 (.t 39) (.t 42)))
(.pure0 (some (38,false)) (.v (.load 44 false 1 (.t 43)))
(.pure0 (some (38,false)) (.v (.fld 45 1 (.t 7)))
(.pure0 (some (38,false)) (.v (.load 46 false 1 (.t 45)))
(.pure0 (some (38,false)) (.v (.bin 47 .neq false (.t 44) (.t 46)))
(.pure0 none (.v (.pick 48 (.t 38) (.c (.bool true)) (.t 47)))
(.pure0 none (.v (.mov 6 (.t 48)))
.done))))))))))))))))))
.ret)
(.seq (.ops [(none,.v (.bin 50 .eql false (.t 18) (.c (.int .i64 3)))),
(none,.v (.mov 49 (.t 50)))])
(.cond 49
(.seq (.ops [(none,.v (.mov 51 (.t 8))),
(none,.v (.bin 52 .gtr false (.t 51) (.c (.int .i64 0)))),
(none,.v (.mov 6 (.t 52)))])
.ret)
(.seq (.ops [(none,.v (.bin 54 .eql false (.t 18) (.c (.int .i64 4)))),
(none,.v (.mov 53 (.t 54)))])
(.cond 53
(.seq (.ops [(none,.v (.mov 55 (.t 0))),
(none,.v (.mov 56 (.t 1))),
(none,.v (.mov 57 (.t 2))),
(none,.e (.call (some 58) 95 [(.t 55),(.t 56),(.t 57)])),
(none,.v (.mov 6 (.t 58)))])
.ret)
.skip))))))))))
(.seq (.ops [(none,.v (.mov 59 (.t 0))),
(none,.v (.mov 60 (.t 1))),
(none,.v (.mov 61 (.t 2))),
(none,.e (.call (some 62) 96 [(.t 59),(.t 60),(.t 61)])),
(none,.v (.mov 6 (.t 62)))])
.ret)))))
theorem ok79 : FnOk E 79 63 [.tmp 6] mc79 := .of func79 (by kernel_rfl) (by kernel_rfl) (by kernel_rfl) (by kernel_rfl) (by kernel_rfl)
end Go.Proofs.Try
namespace Go.Proofs.Try
open Go.Proofs.Tryz
open Go.Al
set_option linter.unusedVariables false
set_option linter.unusedSimpArgs false
set_option maxRecDepth 20000
set_option maxHeartbeats 8000000

theorem rep_tx {h : List Hap} (hr : rightB h = true) {i : Nat} (hi : i < h.length) (hk : (h.getD i default).k = 2 ∨ (h.getD i default).k = 3) : (h.getD i default).tx ≠ 0 := by
  have hev := right_at hr hi
  rw [eventOk_eq, Bool.and_eq_true] at hev
  have ho : isOpen (h.take i) (h.getD i default).tx = true := by
    rcases hk with hk | hk
    · have := hev.2
      simp only [evB,hk,show ¬ (2 : Int) = 1 by decide,if_false,if_true,Bool.and_eq_true] at this
      exact this.1
    · have := hev.2
      simp only [evB,hk,show ¬ (3 : Int) = 1 by decide,show ¬ (3 : Int) = 2 by decide,if_false,if_true] at this
      exact this
  have h1 := open_asked ho
  intro e
  rw [e] at h1
  have := no_zero (right_take hr i)
  rcases asked_lt (h.take i) 0 with ⟨q, _⟩ | ⟨n, q, _, q3⟩
  · omega
  · rw [this] at q3; cases q3
theorem badAtK {h : List Hap} {order : List Int} {i : Nat} : badAt h order i =
    if (h.getD i default).k = 1 then decide (0 < placeH order (h.getD i default).tx) && decide (placeH order (h.getD i default).tx < latest (h.take i))
    else if (h.getD i default).k = 2 then decide ((order.length : Int) < (h.getD i default).st) || !decide (order.getD ((h.getD i default).st - 1).toNat 0 = (h.getD i default).tx)
    else if (h.getD i default).k = 3 then decide (0 < placeH order (h.getD i default).tx)
    else if (h.getD i default).k = 4 then (openL (h.take i)).any fun tx => decide (nextS (h.drop i) < placeH order tx)
    else if (h.getD i default).k = 5 then badAt h order i else false := by
  by_cases h5 : (h.getD i default).k = 5
  · rw [if_neg (by omega), if_neg (by omega), if_neg (by omega), if_neg (by omega), if_pos h5]
  · unfold badAt
    simp only [h5,if_false]
theorem c79 (h : List Hap) (hr : rightB h = true) (order : List Int) (ho : order.length ≤ 10000) (i : Nat) (hi : i < h.length) :
    ACalls E.P 79 [.view 5 (h.map Hap.av), .int .i64 i, .view 1 (order.map (AV.int .i64))] [] (fun r H => r = .bool (badAt h order i) ∧ H = []) := by
  have hmax := maxLen_eq
  have h4 := rightB_len hr
  have hev := right_at hr hi
  rw [eventOk_eq, Bool.and_eq_true] at hev
  have h68 := c68 (h.take i)
  have hvt : (h.map Hap.av).take i = (h.take i).map Hap.av := List.map_take.symm
  have h95 := c95 h hr order ho i (by omega)
  have h96 := fun hk => c96 h hr order ho i hi hk
  have h59 := c59 order (h.getD i default).tx (by omega)
  have hB := badAtK (h := h) (order := order) (i := i)
  have hpn : (h.getD i default).tx ≠ 0 → plc order (h.getD i default).tx = placeH order (h.getD i default).tx := fun hz => plc_place hz
  have hask := fun hk => asked_tx hr hi hk
  have hrep := rep_tx hr hi
  generalize badAt h order i = B at *
  generalize latest (h.take i) = last at *
  generalize ((openL (h.take i)).any fun tx => decide (nextS (h.drop i) < placeH order tx)) = A at *
  generalize hx : h.getD i default = x at *
  have hcase : x.k = 1 ∨ x.k = 2 ∨ x.k = 3 ∨ x.k = 4 ∨ x.k = 5 ∨ (¬ x.k = 1 ∧ ¬ x.k = 2 ∧ ¬ x.k = 3 ∧ ¬ x.k = 4 ∧ ¬ x.k = 5) := by omega
  refine ok79.acalls hE hm (by simp) fun N hN => ?_
  unfold mc79
  simp only [lA,ptrCells,ptrAdd,isNil,readsV,readsP,isCall,wrote,srcOf,seval]
  rcases hcase with hk | hk | hk | hk | hk | ⟨k1, k2, k3, k4, k5⟩
  · rw [hpn (by have := hask hk; omega)] at h59
    simp only [hk,if_true] at hB
    generalize placeH order x.tx = p at *
    repeat' (first | (with_reducible apply St.o; constructor) <;> intro _ | (with_reducible first | refine LenR_i fun _ => ?_ | refine And.intro (by omega) ?_ | (apply Sp.o; constructor) | refine mkl_own ?_ | refine frz0_i ?_) | ((with_reducible apply Sc.o true; constructor); simp only [lP,seval,IdxR_haps,hx,hk,hvt,Int.toNat_natCast,List.length_map,fillE]; (first | refine ⟨_,h59,?_⟩ | refine ⟨_,h68,?_⟩); rintro _ _ ⟨rfl,rfl⟩; simp only [lA,lP,ptrCells,ptrAdd,isNil,readsV,readsP,isCall,wrote,srcOf,seval,IdxR_haps,hx,hk,hvt,Int.toNat_natCast,List.length_map,fillE]) | simp (maxSteps := 1000000) (disch := omega) only [lE,ptrCells,ptrAdd,isNil,readsV,readsP,isCall,wrote,srcOf,seval,IdxR_haps,hx,hk,hvt,Int.toNat_natCast,List.length_map,fillE])
    all_goals first
      | (exfalso; omega)
      | exact keep_b (by rw [hB]; simp [*])
  · have hq := hev.2
    simp only [evB,hk,show ¬ (2 : Int) = 1 by decide,if_false,if_true,numb,Bool.and_eq_true,decide_eq_true_eq] at hq
    obtain ⟨_, ⟨q1, q2⟩, q3⟩ := hq
    simp only [hk,show ¬ (2 : Int) = 1 by decide,if_false,if_true] at hB
    generalize hu : order.getD (x.st - 1).toNat 0 = u at *
    repeat' (first | (with_reducible apply St.o; constructor) <;> intro _ | (with_reducible first | refine LenR_i fun _ => ?_ | refine And.intro (by omega) ?_ | (apply Sp.o; constructor) | refine mkl_own ?_ | refine frz0_i ?_ | refine any_i [] ?_) | ((with_reducible apply Sc.o true; constructor); simp only [lP,seval,IdxR_haps,IdxR_int,hx,hk,hu,hvt,Int.toNat_natCast,List.length_map,fillE]; refine ⟨_,h59,?_⟩; rintro _ _ ⟨rfl,rfl⟩; simp only [lA,lP,ptrCells,ptrAdd,isNil,readsV,readsP,isCall,wrote,srcOf,seval,IdxR_haps,IdxR_int,hx,hk,hu,hvt,Int.toNat_natCast,List.length_map,fillE]) | simp (maxSteps := 1000000) (disch := omega) only [lE,ptrCells,ptrAdd,isNil,readsV,readsP,isCall,wrote,srcOf,seval,IdxR_haps,IdxR_int,hx,hk,hu,hvt,Int.toNat_natCast,List.length_map,fillE])
    all_goals first
      | (exfalso; omega)
      | exact keep_b (by rw [hB]; simp [*])
  · rw [hpn (hrep (.inr hk))] at h59
    simp only [hk,show ¬ (3 : Int) = 1 by decide,show ¬ (3 : Int) = 2 by decide,if_false,if_true] at hB
    generalize placeH order x.tx = p at *
    repeat' (first | (with_reducible apply St.o; constructor) <;> intro _ | (with_reducible first | refine LenR_i fun _ => ?_ | refine And.intro (by omega) ?_ | (apply Sp.o; constructor) | refine mkl_own ?_ | refine frz0_i ?_) | ((with_reducible apply Sc.o true; constructor); simp only [lP,seval,IdxR_haps,hx,hk,hvt,Int.toNat_natCast,List.length_map,fillE]; refine ⟨_,h59,?_⟩; rintro _ _ ⟨rfl,rfl⟩; simp only [lA,lP,ptrCells,ptrAdd,isNil,readsV,readsP,isCall,wrote,srcOf,seval,IdxR_haps,hx,hk,hvt,Int.toNat_natCast,List.length_map,fillE]) | simp (maxSteps := 1000000) (disch := omega) only [lE,ptrCells,ptrAdd,isNil,readsV,readsP,isCall,wrote,srcOf,seval,IdxR_haps,hx,hk,hvt,Int.toNat_natCast,List.length_map,fillE])
    all_goals first
      | (exfalso; omega)
      | exact keep_b (by rw [hB])
  · simp only [hk,show ¬ (4 : Int) = 1 by decide,show ¬ (4 : Int) = 2 by decide,show ¬ (4 : Int) = 3 by decide,if_false,if_true] at hB
    repeat' (first | (with_reducible apply St.o; constructor) <;> intro _ | (with_reducible first | refine LenR_i fun _ => ?_ | refine And.intro (by omega) ?_ | (apply Sp.o; constructor) | refine mkl_own ?_ | refine frz0_i ?_) | ((with_reducible apply Sc.o true; constructor); simp only [lP,seval,IdxR_haps,hx,hk,hvt,Int.toNat_natCast,List.length_map,fillE]; (first | refine ⟨_,h59,?_⟩ | refine ⟨_,h95,?_⟩); rintro _ _ ⟨rfl,rfl⟩; simp only [lA,lP,ptrCells,ptrAdd,isNil,readsV,readsP,isCall,wrote,srcOf,seval,IdxR_haps,hx,hk,hvt,Int.toNat_natCast,List.length_map,fillE]) | simp (maxSteps := 1000000) (disch := omega) only [lE,ptrCells,ptrAdd,isNil,readsV,readsP,isCall,wrote,srcOf,seval,IdxR_haps,hx,hk,hvt,Int.toNat_natCast,List.length_map,fillE])
    all_goals first
      | (exfalso; omega)
      | exact keep_b (by rw [hB])
  · have h96' := h96 hk
    repeat' (first | (with_reducible apply St.o; constructor) <;> intro _ | (with_reducible first | refine LenR_i fun _ => ?_ | refine And.intro (by omega) ?_ | (apply Sp.o; constructor) | refine mkl_own ?_ | refine frz0_i ?_) | ((with_reducible apply Sc.o true; constructor); simp only [lP,seval,IdxR_haps,hx,hk,hvt,Int.toNat_natCast,List.length_map,fillE]; (first | refine ⟨_,h59,?_⟩ | refine ⟨_,h96',?_⟩); rintro _ _ ⟨rfl,rfl⟩; simp only [lA,lP,ptrCells,ptrAdd,isNil,readsV,readsP,isCall,wrote,srcOf,seval,IdxR_haps,hx,hk,hvt,Int.toNat_natCast,List.length_map,fillE]) | simp (maxSteps := 1000000) (disch := omega) only [lE,ptrCells,ptrAdd,isNil,readsV,readsP,isCall,wrote,srcOf,seval,IdxR_haps,hx,hk,hvt,Int.toNat_natCast,List.length_map,fillE])
    all_goals first
      | (exfalso; omega)
      | exact keep_b rfl
  · exfalso
    have := hev.1
    simp [plainB, k1, k2, k3, k4, k5] at this
theorem plc_once {l : List Int} : onceB l = true ↔ ∀ i, i < l.length → l.getD i 0 ≠ 0 → plc l (l.getD i 0) = (i : Int) + 1 := by
  constructor
  · intro ho i hi hz
    rw [plc_place hz]
    exact place_at ho hi hz
  · intro hall
    unfold onceB
    rw [decide_eq_true_eq, List.nodup_iff_pairwise_ne, List.pairwise_filter, List.pairwise_iff_getElem]
    intro i j hi hj hij h1 h2 e
    have g1 : l.getD i 0 = l[i] := by rw [List.getD_eq_getElem?_getD, List.getElem?_eq_getElem hi, Option.getD_some]
    have g2 : l.getD j 0 = l[j] := by rw [List.getD_eq_getElem?_getD, List.getElem?_eq_getElem hj, Option.getD_some]
    have z1 : l[i] ≠ 0 := by simpa using h1
    have a1 := hall i hi (by rw [g1]; exact z1)
    have a2 := hall j hj (by rw [g2, ← e]; exact z1)
    rw [g1] at a1
    rw [g2, ← e] at a2
    omega
theorem c57 (h : List Hap) (hr : rightB h = true) (order : List Int) (ho : order.length ≤ 10000) :
    ACalls E.P 57 [.view 5 (h.map Hap.av), .view 1 (order.map (AV.int .i64))] [] (fun r H => r = .int .i64 (checkH h order) ∧ H = []) := by
  have hmax := maxLen_eq
  have h4 := rightB_len hr
  have h14 := c14 h
  refine ok57.acalls hE hm (by simp) fun N hN => ?_
  unfold mc57
  simp only [lA,ptrCells,ptrAdd,isNil,readsV,readsP,isCall,wrote,srcOf,seval]
  refine loop_i (fun i : Nat => i ≤ h.length ∧ ∀ j,j < i → badAt h order j = false) (fun i => ⟨[(0, .view 5 (h.map Hap.av)),(1, .view 1 (order.map (AV.int .i64))),(5, .int .i64 i)], []⟩) (fun i => h.length - i) 0 ⟨by omega,fun j hj => by omega⟩ (Ent.to [] false (by simp) (by simp) rfl (by simp only [lP,seval] <;> (try simp) <;> (try omega)) (by simp only [lP,seval] <;> (try simp) <;> (try omega))) ?_
  rintro i ⟨hi, hn⟩
  by_cases hil : i < h.length
  · have hyes : badAt h order i = true → checkH h order = i := fun q => by
      unfold checkH
      rw [find_range (n := h.length) hil q hn]
    have hno : badAt h order i = false → (i + 1 ≤ h.length ∧ ∀ j, j < i + 1 → badAt h order j = false) := fun q => ⟨by omega, fun j hj => by
      by_cases e : j = i
      · rw [e]; exact q
      · exact hn j (by omega)⟩
    have h79 := c79 h hr order ho i hil
    generalize badAt h order i = B at *
    repeat' (first | (with_reducible apply St.o; constructor) <;> intro _ | (with_reducible first | refine LenR_i fun _ => ?_ | refine And.intro (by omega) ?_ | (apply Sp.o; constructor) | refine mkl_own ?_ | refine frz0_i ?_) | ((with_reducible apply Sc.o true; constructor); simp only [lP,seval,List.length_map]; refine ⟨_,h79,?_⟩; rintro _ _ ⟨rfl,rfl⟩; simp only [lA,lP,ptrCells,ptrAdd,isNil,readsV,readsP,isCall,wrote,srcOf,seval,List.length_map]) | simp (maxSteps := 1000000) (disch := omega) only [lE,ptrCells,ptrAdd,isNil,readsV,readsP,isCall,wrote,srcOf,seval,List.length_map])
    all_goals first
      | (exfalso; omega)
      | exact keep_n (hyes (by assumption)).symm
      | exact back_i (i + 1) (hno (by simpa using ‹B = _›)) (by omega) (Ent.to [] false (by simp) (by simp) rfl (by simp only [lP,seval] <;> (try simp) <;> (try omega)) (by simp only [lP,seval] <;> (try simp) <;> (try omega)))
  · have hie : i = h.length := by omega
    subst hie
    have hck : checkH h order = if endOk h order = true then -1 else (h.length : Int) := by
      unfold checkH
      rw [List.find?_eq_none.2 fun j hj => by simpa using hn j (by simpa using hj)]
    have hend : endOk h order = (decide ((order.length : Int) = lenH h) && onceB order && order.all fun tx => decide (tx = 0) || inH h tx) := rfl
    repeat' (first | (with_reducible apply St.o; constructor) <;> intro _ | (with_reducible first | refine LenR_i fun _ => ?_ | refine And.intro (by omega) ?_ | (apply Sp.o; constructor) | refine mkl_own ?_ | refine frz0_i ?_) | ((with_reducible apply Sc.o true; constructor); simp only [lP,seval,List.length_map,Int.lt_irrefl,decide_false]; refine ⟨_,h14,?_⟩; rintro _ _ ⟨rfl,rfl⟩; simp only [lA,lP,ptrCells,ptrAdd,isNil,readsV,readsP,isCall,wrote,srcOf,seval,List.length_map,Int.lt_irrefl,decide_false]) | simp (maxSteps := 1000000) (disch := omega) only [lE,ptrCells,ptrAdd,isNil,readsV,readsP,isCall,wrote,srcOf,seval,List.length_map,Int.lt_irrefl,decide_false])
    rotate_left
    · rename_i g1
      refine loop_i (fun j : Nat => j ≤ order.length ∧ ∀ m,m < j → order.getD m 0 ≠ 0 → 0 ≤ asked h (order.getD m 0) ∧ plc order (order.getD m 0) = (m : Int) + 1) (fun j => ⟨[(0, .view 5 (h.map Hap.av)),(1, .view 1 (order.map (AV.int .i64))),(7, .int .i64 j)], []⟩) (fun j => order.length - j) 0 ⟨by omega,fun m hm => by omega⟩ (Ent.to [] false (by simp) (by simp) rfl (by simp only [lP,seval] <;> (try simp) <;> (try omega)) (by simp only [lP,seval] <;> (try simp) <;> (try omega))) ?_
      rintro j ⟨hj, hall⟩
      by_cases hjl : j < order.length
      · have hyes : order.getD j 0 ≠ 0 → (asked h (order.getD j 0) < 0 ∨ plc order (order.getD j 0) ≠ (j : Int) + 1) → checkH h order = h.length := fun hz q => by
          rw [hck, if_neg]
          rw [hend]
          simp only [Bool.and_eq_true,not_and,Bool.not_eq_true]
          rintro ⟨_, q1⟩
          rcases q with q | q
          · rw [Bool.eq_false_iff]
            intro q2
            have := List.all_eq_true.1 q2 _ (getD_mem hjl)
            rw [show order.getD j default = order.getD j 0 from rfl, decide_eq_false hz, Bool.false_or] at this
            unfold inH at this
            rcases asked_lt h (order.getD j 0) with ⟨_, q3⟩ | ⟨n, q3, _⟩
            · rw [q3] at this; cases this
            · omega
          · exact absurd (plc_once.1 q1 j hjl hz) q
        have hno : (order.getD j 0 ≠ 0 → 0 ≤ asked h (order.getD j 0) ∧ plc order (order.getD j 0) = (j : Int) + 1) → (j + 1 ≤ order.length ∧ ∀ m, m < j + 1 → order.getD m 0 ≠ 0 → 0 ≤ asked h (order.getD m 0) ∧ plc order (order.getD m 0) = (m : Int) + 1) := fun q => ⟨by omega, fun m hm => by
          by_cases e : m = j
          · rw [e]; exact q
          · exact hall m (by omega)⟩
        have hg2 : order.getD j default = order.getD j 0 := rfl
        have h65 := c65 h (order.getD j 0)
        have h59 := c59 order (order.getD j 0) (by omega)
        generalize hg3 : order.getD j 0 = t at *
        generalize asked h t = a at *
        generalize plc order t = p at *
        repeat' (first | (with_reducible apply St.o; constructor) <;> intro _ | (with_reducible first | refine LenR_i fun _ => ?_ | refine And.intro (by omega) ?_ | (apply Sp.o; constructor) | refine mkl_own ?_ | refine frz0_i ?_) | ((with_reducible apply Sc.o true; constructor); simp only [lP,seval,IdxR_int,hg2,hg3,Int.toNat_natCast,List.length_map]; (first | refine ⟨_,h65,?_⟩ | refine ⟨_,h59,?_⟩); rintro _ _ ⟨rfl,rfl⟩; simp only [lA,lP,ptrCells,ptrAdd,isNil,readsV,readsP,isCall,wrote,srcOf,seval,IdxR_int,hg2,hg3,Int.toNat_natCast,List.length_map]) | simp (maxSteps := 1000000) (disch := omega) only [lE,ptrCells,ptrAdd,isNil,readsV,readsP,isCall,wrote,srcOf,seval,IdxR_int,hg2,hg3,Int.toNat_natCast,List.length_map])
        all_goals have hwr := wrap_i64 (show -9223372036854775808 ≤ (j : Int) + 1 by omega) (show (j : Int) + 1 ≤ 9223372036854775807 by omega)
        all_goals first
          | (exfalso; omega)
          | exact keep_n (hyes (by omega) (by omega)).symm
          | exact back_i (j + 1) (hno (fun q => by omega)) (by omega) (Ent.to [] false (by simp) (by simp) rfl (by simp only [lP,seval] <;> (try simp) <;> (try omega)) (by simp only [lP,seval] <;> (try simp) <;> (try omega)))
      · have hje : j = order.length := by omega
        subst hje
        repeat' (first | (with_reducible apply St.o; constructor) <;> intro _ | (with_reducible first | refine LenR_i fun _ => ?_ | refine And.intro (by omega) ?_ | (apply Sp.o; constructor) | refine mkl_own ?_ | refine frz0_i ?_) | simp (maxSteps := 1000000) (disch := omega) only [lE,ptrCells,ptrAdd,isNil,readsV,readsP,isCall,wrote,srcOf,seval,List.length_map,Int.lt_irrefl,decide_false])
        refine keep_n ?_
        rw [hck, if_pos]
        rw [hend]
        simp only [Bool.and_eq_true,decide_eq_true_eq]
        refine ⟨⟨g1, plc_once.2 fun m hm hz => (hall m hm hz).2⟩, List.all_eq_true.2 fun t ht => ?_⟩
        obtain ⟨m, hm, rfl⟩ := List.getElem_of_mem ht
        have g2 : order.getD m 0 = order[m] := by rw [List.getD_eq_getElem?_getD, List.getElem?_eq_getElem hm, Option.getD_some]
        rw [Bool.or_eq_true, decide_eq_true_eq]
        by_cases hz : order[m] = 0
        · exact .inl hz
        · right
          have := (hall m hm (by rw [g2]; exact hz)).1
          rw [g2] at this
          unfold inH
          rcases asked_lt h order[m] with ⟨q3, _⟩ | ⟨n, _, _, q3⟩
          · omega
          · rw [q3]; rfl
    · rename_i g1
      refine keep_n ?_
      rw [hck, hend, decide_eq_false g1]
      simp
end Go.Proofs.Try


namespace Go.Proofs.Try
open Go.Proofs.Tryz
open Go.Al
set_option maxRecDepth 100000
def mc29 : MC :=
(.seq (.ops [(none,.v (.mov 2 (.c (.raw (.slice none 0 0)))))])
(.seq (.ops [(none,.v (.mov 3 (.c (.raw (.slice none 0 0)))))])
(.seq (.seq (.ops [(none,.v (.mov 4 (.c (.int .i64 0))))])
(.block 0 (.loop (.seq (.seq (.ops [(none,.v (.mov 9 (.t 4))),
(none,.v (.mov 10 (.t 0))),
(none,.p (.len 11 (.t 10))),
(none,.v (.bin 12 .lss false (.t 9) (.t 11)))])
(.cond 12
.skip
(.exit 0)))
(.seq (.block 1 (.seq (.seq (.ops [(none,.v (.mov 15 (.t 0))),
(none,.v (.mov 16 (.t 4))),
(none,.p (.idx 17 5 (.t 15) (.t 16))),
(none,.v (.fld 18 0 (.t 17))),
(none,.v (.load 19 false 1 (.t 18))),
(none,.v (.bin 20 .neq false (.t 19) (.c (.int .i64 1))))])
(.cond 20
(.exit 1)
.skip))
(.seq (.ops [(none,.v (.mov 5 (.c (.bool false))))])
(.seq (.seq (.ops [(none,.v (.mov 6 (.c (.int .i64 0))))])
(.block 2 (.loop (.seq (.seq (.ops [(none,.v (.mov 21 (.t 6))),
(none,.v (.mov 22 (.t 0))),
(none,.p (.len 23 (.t 22))),
(none,.v (.bin 24 .lss false (.t 21) (.t 23)))])
(.cond 24
.skip
(.exit 2)))
(.seq (.block 3 (.any false (.pure0 none (.v (.mov 27 (.t 5)))
(.pure0 none (.v (.mov 28 (.t 27)))
(.pure0 (some (28,false)) (.v (.mov 29 (.t 0)))
(.pure0 (some (28,false)) (.v (.mov 30 (.t 6)))
(.pure0 (some (28,false)) (.p (.idx 31 5 (.t 29) (.t 30)))
(.pure0 (some (28,false)) (.v (.fld 32 0 (.t 31)))
(.pure0 (some (28,false)) (.v (.load 33 false 1 (.t 32)))
(.pure0 (some (28,false)) (.v (.bin 34 .eql false (.t 33) (.c (.int .i64 2))))
(.pure0 (some (28,false)) (.v (.mov 35 (.t 34)))
(.pure0 (some (35,false)) (.v (.mov 36 (.t 0)))
(.pure0 (some (35,false)) (.v (.mov 37 (.t 6)))
(.pure0 (some (35,false)) (.p (.idx 38 5 (.t 36) (.t 37)))
(.pure0 (some (35,false)) (.v (.fld 39 0 (.t 38)))
(.pure0 (some (35,false)) (.v (.load 40 false 1 (.t 39)))
(.pure0 (some (35,false)) (.v (.bin 41 .eql false (.t 40) (.c (.int .i64 3))))
(.pure0 (some (28,false)) (.v (.pick 42 (.t 35) (.c (.bool true)) (.t 41)))
(.pure0 (some (28,false)) (.v (.mov 43 (.t 42)))
(.pure0 (some (43,true)) (.v (.mov 44 (.t 0)))
(.pure0 (some (43,true)) (.v (.mov 45 (.t 6)))
(.pure0 (some (43,true)) (.p (.idx 46 5 (.t 44) (.t 45)))
(.pure0 (some (43,true)) (.v (.fld 47 1 (.t 46)))
(.pure0 (some (43,true)) (.v (.load 48 false 1 (.t 47)))
(.pure0 (some (43,true)) (.v (.mov 49 (.t 0)))
(.pure0 (some (43,true)) (.v (.mov 50 (.t 4)))
(.pure0 (some (43,true)) (.p (.idx 51 5 (.t 49) (.t 50)))
(.pure0 (some (43,true)) (.v (.fld 52 1 (.t 51)))
(.pure0 (some (43,true)) (.v (.load 53 false 1 (.t 52)))
(.pure0 (some (43,true)) (.v (.bin 54 .eql false (.t 48) (.t 53)))
(.pure0 (some (28,false)) (.v (.pick 55 (.t 43) (.t 54) (.c (.bool false))))
(.pure0 none (.v (.pick 56 (.t 28) (.c (.bool true)) (.t 55)))
(.pure0 none (.v (.mov 5 (.t 56)))
.done)))))))))))))))))))))))))))))))))
(.ops [(none,.v (.mov 25 (.t 6))),
(none,.v (.bin 26 .add false (.t 25) (.c (.int .i64 1)))),
(none,.v (.mov 6 (.t 26)))]))))))
(.seq (.seq (.ops [(none,.v (.mov 57 (.t 5)))])
(.cond 57
(.exit 1)
.skip))
(.seq (.ops [(none,.v (.mov 7 (.c (.int .i64 0))))])
(.seq (.block 4 (.loop (.seq (.seq (.any false (.pure0 none (.v (.mov 58 (.t 7)))
(.pure0 none (.v (.mov 59 (.t 3)))
(.pure0 none (.p (.len 60 (.t 59)))
(.pure0 none (.v (.bin 61 .lss false (.t 58) (.t 60)))
(.pure0 none (.v (.mov 62 (.t 61)))
(.pure0 (some (62,true)) (.v (.mov 63 (.t 3)))
(.pure0 (some (62,true)) (.v (.mov 64 (.t 7)))
(.pure0 (some (62,true)) (.p (.idx 65 1 (.t 63) (.t 64)))
(.pure0 (some (62,true)) (.v (.load 66 false 1 (.t 65)))
(.pure0 (some (62,true)) (.v (.mov 67 (.t 0)))
(.pure0 (some (62,true)) (.v (.mov 68 (.t 4)))
(.pure0 (some (62,true)) (.p (.idx 69 5 (.t 67) (.t 68)))
(.pure0 (some (62,true)) (.v (.fld 70 1 (.t 69)))
(.pure0 (some (62,true)) (.v (.load 71 false 1 (.t 70)))
(.pure0 (some (62,true)) (.v (.bin 72 .lss false (.t 66) (.t 71)))
(.pure0 none (.v (.pick 73 (.t 62) (.t 72) (.c (.bool false))))
.done)))))))))))))))))
(.cond 73
.skip
(.exit 4)))
(.block 5 (.ops [(none,.v (.mov 74 (.t 7))),
(none,.v (.bin 75 .add false (.t 74) (.c (.int .i64 1)))),
(none,.v (.mov 7 (.t 75)))])))))
(.seq (.ops [(none,.e (.mkl 76 3 1 0 (.int .i64 0) [])),
(none,.v (.mov 77 (.t 3))),
(none,.v (.mov 78 (.t 7))),
(none,.p (.cut 79 1 (.t 77) (.t 78) none)),
(none,.e (.app 80 3 1 8 (.t 76) (.t 79))),
(none,.v (.mov 8 (.t 80)))])
(.seq (.any true (.pure0 none (.v (.mov 81 (.t 3)))
(.pure0 none (.v (.mov 82 (.t 7)))
(.pure0 none (.p (.pre 83 1 (.t 81) (some (.t 82))))
(.pure0 none (.v (.mov 84 (.t 0)))
(.pure0 none (.v (.mov 85 (.t 4)))
(.pure0 none (.p (.idx 86 5 (.t 84) (.t 85)))
(.pure0 none (.v (.fld 87 1 (.t 86)))
(.pure0 none (.v (.load 88 false 1 (.t 87)))
(.alt none (.e (.mkl 89 3 1 1 (.int .i64 0) [(0,(.t 88))]))
(.alt none (.e (.app 90 3 1 8 (.t 83) (.t 89)))
(.pure1 none (.v (.mov 3 (.t 90)))
.done)
.stop)
.stop))))))))))
(.ops [(none,.v (.mov 91 (.t 3))),
(none,.v (.mov 92 (.t 8))),
(none,.e (.app 93 3 1 8 (.t 91) (.t 92))),
(none,.v (.mov 3 (.t 93)))]))))))))))
(.ops [(none,.v (.mov 13 (.t 4))),
(none,.v (.bin 14 .add false (.t 13) (.c (.int .i64 1)))),
(none,.v (.mov 4 (.t 14)))]))))))
(.seq (.ops [(none,.v (.mov 94 (.t 3))),
(none,.v (.mov 2 (.t 94)))])
.ret))))
theorem ok29 : FnOk E 29 95 [.tmp 2] mc29 := .of func29 (by kernel_rfl) (by kernel_rfl) (by kernel_rfl) (by kernel_rfl) (by kernel_rfl)
end Go.Proofs.Try
namespace Go.Proofs.Try
open Go.Proofs.Tryz
open Go.Al
set_option linter.unusedVariables false
set_option linter.unusedSimpArgs false
set_option maxRecDepth 20000
set_option maxHeartbeats 8000000

def goneX (t : Int) (x : Hap) : Bool := (decide (x.k = 2) || decide (x.k = 3)) && decide (x.tx = t)
def insI (l : List Int) (t : Int) : List Int := l.takeWhile (fun u => decide (u < t)) ++ [t] ++ l.dropWhile (fun u => decide (u < t))
def candStep (h : List Hap) (l : List Int) (x : Hap) : List Int := if x.k = 1 ∧ h.any (goneX x.tx) = false then insI l x.tx else l
def candQ (h g : List Hap) : List Int := g.foldl (candStep h) []
def candL (h : List Hap) : List Int := candQ h h
theorem candQ_next {h g : List Hap} {i : Nat} (hi : i < g.length) : candQ h (g.take (i + 1)) = candStep h (candQ h (g.take i)) (g.getD i default) := by
  rw [take_succD hi, candQ, List.foldl_append]; rfl
theorem insI_len (l : List Int) (t : Int) : (insI l t).length = l.length + 1 := by
  have := congrArg List.length (List.takeWhile_append_dropWhile (p := fun u => decide (u < t)) (l := l))
  unfold insI
  simp only [List.length_append,List.length_cons,List.length_nil] at *
  omega
theorem candQ_len (h : List Hap) : ∀ (g : List Hap), (candQ h g).length ≤ g.length := by
  have : ∀ (g : List Hap) (l : List Int), (g.foldl (candStep h) l).length ≤ l.length + g.length := by
    intro g
    induction g with
    | nil => intro l; simp
    | cons x g ih =>
      intro l
      rw [List.foldl_cons]
      have h1 := ih (candStep h l x)
      have h2 : (candStep h l x).length ≤ l.length + 1 := by
        unfold candStep
        split
        · rw [insI_len]; exact Nat.le_refl _
        · omega
      simp only [List.length_cons]
      omega
  intro g
  simpa [candQ] using this g []
theorem tw_at {l : List Int} {t : Int} {m : Nat} (h1 : m ≤ l.length) (h2 : ∀ u ∈ l.take m, decide (u < t) = true) (h3 : m < l.length → ¬ l.getD m 0 < t) : l.takeWhile (fun u => decide (u < t)) = l.take m ∧ l.dropWhile (fun u => decide (u < t)) = l.drop m := by
  induction l generalizing m with
  | nil => simp
  | cons u l ih =>
    cases m with
    | zero =>
      have := h3 (by simp)
      simp only [List.getD_cons_zero] at this
      simp [List.takeWhile_cons, List.dropWhile_cons, this]
    | succ m =>
      have hu : decide (u < t) = true := h2 u (by simp)
      obtain ⟨a, b⟩ := ih (m := m) (by simp at h1; omega) (fun v hv => h2 v (by simp [hv])) (fun hm => by
        have := h3 (by simp; omega)
        simpa using this)
      simp only [List.takeWhile_cons,List.dropWhile_cons,hu,if_true,List.take_succ_cons,List.drop_succ_cons,a,b]
      exact ⟨trivial, trivial⟩
theorem c29 (h : List Hap) (h410 : h.length ≤ 1000000) : ACalls E.P 29 [.view 5 (h.map Hap.av)] [] (fun r H => ∃ a : List Int, (candL h).length ≤ a.length ∧ a.take (candL h).length = candL h ∧ r = .sub 0 1 0 (candL h).length ∧ H = [.arr 3 1 (a.map (AV.int .i64))]) := by
  have hmax := maxLen_eq
  refine ok29.acalls hE hm (by simp) fun N hN => ?_
  unfold mc29
  simp only [lA,ptrCells,ptrAdd,isNil,readsV,readsP,isCall,wrote,srcOf,seval]
  refine loop_i (fun p : Nat × List Int => p.1 ≤ h.length ∧ (candQ h (h.take p.1)).length ≤ p.2.length ∧ p.2.take (candQ h (h.take p.1)).length = candQ h (h.take p.1))
    (fun p => ⟨[(0, .view 5 (h.map Hap.av)), (3, .sub 0 1 0 (candQ h (h.take p.1)).length), (4, .int .i64 p.1)], [.arr 3 1 (p.2.map (AV.int .i64))]⟩) (fun p => h.length - p.1) (0, []) ⟨by simp, by simp [candQ], by simp [candQ]⟩
    (Ent.ghost' 3 3 1 (by omega) rfl ((Ent.asSub 3 rfl rfl).trans (Ent.to [0] false (by simp) (by simp) rfl (by simp only [lP,seval,List.take_zero,candQ,List.foldl_nil,List.map_nil,List.length_nil] <;> (try simp) <;> (try omega)) (by simp only [lP,seval,List.take_zero,candQ,List.foldl_nil,List.map_nil,List.length_nil] <;> (try simp) <;> (try omega))))) ?_
  rintro ⟨i, a⟩ ⟨hi, hn, ht⟩
  simp only at hi hn ht ⊢
  by_cases hil : i < h.length
  · have hnx := candQ_next (h := h) hil
    have hql := candQ_len h (h.take i)
    rw [List.length_take] at hql
    have hx0 : (h.getD i default).tx = (h.getD i default).tx := rfl
    generalize hL : candQ h (h.take i) = L at *
    generalize hL' : candQ h (h.take (i + 1)) = L' at *
    generalize hx : h.getD i default = x at *
    have hback : ∀ b : List Int, L'.length ≤ b.length → b.take L'.length = L' → (i + 1 ≤ h.length ∧ (candQ h (h.take (i + 1))).length ≤ b.length ∧ b.take (candQ h (h.take (i + 1))).length = candQ h (h.take (i + 1))) := fun b q1 q2 => by
      rw [hL']; exact ⟨by omega, q1, q2⟩
    by_cases hk : x.k = 1
    · repeat' (first | (with_reducible apply St.o; constructor) <;> intro _ | (with_reducible first | refine LenR_i fun _ => ?_ | refine And.intro (by omega) ?_ | (apply Sp.o; constructor) | refine mkl_own ?_ | refine frz0_i ?_) | simp (maxSteps := 1000000) (disch := omega) only [lE,ptrCells,ptrAdd,isNil,readsV,readsP,isCall,wrote,srcOf,seval,IdxR_haps,hx,hk,Int.toNat_natCast,List.length_map])
      all_goals try (exfalso; omega)
      refine loop_i (fun k : Nat => k ≤ h.length) (fun k => ⟨[(0, .view 5 (h.map Hap.av)),(3, .sub 0 1 0 L.length),(4, .int .i64 i),(5, .bool ((h.take k).any (goneX x.tx))),(6, .int .i64 k)], [.arr 3 1 (a.map (AV.int .i64))]⟩) (fun k => h.length - k) 0 (by omega) (Ent.to [0] false (by simp) (by simp) rfl (by simp only [lP,seval,List.take_zero,List.any_nil,pa_ints] <;> (try simp) <;> (try omega)) (by simp only [lP,seval,List.take_zero,List.any_nil,pa_ints] <;> (try simp) <;> (try omega))) ?_
      intro k hk1
      by_cases hkl : k < h.length
      · have hst : (h.take (k + 1)).any (goneX x.tx) = ((h.take k).any (goneX x.tx) || goneX x.tx (h.getD k default)) := by
          rw [take_succD hkl, List.any_append]; simp
        generalize (h.take k).any (goneX x.tx) = g at *
        generalize hg' : (h.take (k + 1)).any (goneX x.tx) = g' at *
        generalize hy : h.getD k default = y at *
        unfold goneX at hst
        repeat' (first | (with_reducible apply St.o; constructor) <;> intro _ | (with_reducible first | refine LenR_i fun _ => ?_ | refine And.intro (by omega) ?_ | (apply Sp.o; constructor) | refine mkl_own ?_ | refine frz0_i ?_ | refine any_i [] ?_) | simp (maxSteps := 1000000) (disch := omega) only [lE,ptrCells,ptrAdd,isNil,readsV,readsP,isCall,wrote,srcOf,seval,IdxR_haps,hx,hy,Int.toNat_natCast,List.length_map])
        all_goals first
          | (exfalso; omega)
          | (have hgg : g' = true := by rw [hst]; simp [*]
             exact back_i (k + 1) (by omega) (by omega) (Ent.to [0] false (by simp) (by simp) rfl (by simp only [lP,seval,hg',hgg,pa_ints] <;> (try simp) <;> (try omega)) (by simp only [lP,seval,hg',hgg,pa_ints] <;> (try simp) <;> (try omega))))
          | (have hgg : g' = false := by rw [hst]; simp [*]
             exact back_i (k + 1) (by omega) (by omega) (Ent.to [0] false (by simp) (by simp) rfl (by simp only [lP,seval,hg',hgg,pa_ints] <;> (try simp) <;> (try omega)) (by simp only [lP,seval,hg',hgg,pa_ints] <;> (try simp) <;> (try omega))))
          | (have hgg : g' = decide (y.tx = x.tx) := by rw [hst]; simp [*]
             exact back_i (k + 1) (by omega) (by omega) (Ent.to [0] false (by simp) (by simp) rfl (by simp only [lP,seval,hg',hgg,pa_ints] <;> (try simp) <;> (try omega)) (by simp only [lP,seval,hg',hgg,pa_ints] <;> (try simp) <;> (try omega))))
      · have hke : k = h.length := by omega
        subst hke
        rw [List.take_length]
        by_cases hgone : h.any (goneX x.tx) = true
        · have hst : L' = L := by rw [hnx, candStep, if_neg]; rintro ⟨_, q⟩; rw [hgone] at q; cases q
          rw [hgone]
          repeat' (first | (with_reducible apply St.o; constructor) <;> intro _ | (with_reducible first | refine LenR_i fun _ => ?_ | refine And.intro (by omega) ?_ | (apply Sp.o; constructor) | refine mkl_own ?_ | refine frz0_i ?_) | simp (maxSteps := 1000000) (disch := omega) only [lE,ptrCells,ptrAdd,isNil,readsV,readsP,isCall,wrote,srcOf,seval,List.length_map,Int.lt_irrefl,decide_false])
          exact back_i (i + 1,a) (hback _ (by rw [hst]; exact hn) (by rw [hst]; exact ht)) (by simp only; omega) (Ent.to [0] false (by simp) (by simp) rfl (by simp only [lP,seval,hL',hst,pa_ints] <;> (try simp) <;> (try omega)) (by simp only [lP,seval,hL',hst,pa_ints] <;> (try simp) <;> (try omega)))
        · replace hgone : h.any (goneX x.tx) = false := by simpa using hgone
          have hst : L' = insI L x.tx := by rw [hnx, candStep, if_pos ⟨hk, hgone⟩]
          rw [hgone]
          repeat' (first | (with_reducible apply St.o; constructor) <;> intro _ | (with_reducible first | refine LenR_i fun _ => ?_ | refine And.intro (by omega) ?_ | (apply Sp.o; constructor) | refine mkl_own ?_ | refine frz0_i ?_) | simp (maxSteps := 1000000) (disch := omega) only [lE,ptrCells,ptrAdd,isNil,readsV,readsP,isCall,wrote,srcOf,seval,List.length_map,Int.lt_irrefl,decide_false])
          refine loop_i (fun m : Nat => m ≤ L.length ∧ ∀ u ∈ L.take m,decide (u < x.tx) = true) (fun m => ⟨[(0, .view 5 (h.map Hap.av)),(3, .sub 0 1 0 L.length),(4, .int .i64 i),(7, .int .i64 m)], [.arr 3 1 (a.map (AV.int .i64))]⟩) (fun m => L.length - m) 0 ⟨by omega,by simp⟩ (Ent.to [0] false (by simp) (by simp) rfl (by simp only [lP,seval,pa_ints] <;> (try simp) <;> (try omega)) (by simp only [lP,seval,pa_ints] <;> (try simp) <;> (try omega))) ?_
          rintro m ⟨hm1, hm2⟩
          have hfin : (m < L.length → ¬ L.getD m 0 < x.tx) → L' = L.take m ++ [x.tx] ++ L.drop m := fun q => by
            obtain ⟨q1, q2⟩ := tw_at hm1 hm2 q
            rw [hst, insI, q1, q2]
          have hla : L' = L.take m ++ [x.tx] ++ L.drop m → L'.length = L.length + 1 := fun q => by rw [q]; simp; omega
          have htk : (a.map (AV.int .i64)).take m = (L.take m).map (AV.int .i64) := by
            rw [← List.map_take, ← ht, List.take_take, Nat.min_eq_left hm1]
          have hdk : ((a.map (AV.int .i64)).drop m).take (L.length - m) = (L.drop m).map (AV.int .i64) := by
            rw [← List.map_drop, ← List.map_take]
            congr 1
            conv => rhs; rw [← ht, List.drop_take]
          have hif : (m + (L.length - m) ≤ a.length) = True := by simp; omega
          have hmin : min m L.length = m := Nat.min_eq_left hm1
          have htk2 : ((L.drop m).map (AV.int .i64)).take (L.length - m) = (L.drop m).map (AV.int .i64) := List.take_of_length_le (by simp)
          have hlen3 : m + 1 + (L.length - m) = L.length + 1 := by omega
          have hmap : ((L.take m).map (AV.int .i64) ++ [AV.int .i64 x.tx]) ++ (L.drop m).map (AV.int .i64) = (L.take m ++ [x.tx] ++ L.drop m).map (AV.int .i64) := by simp
          by_cases hml : m < L.length
          · have hg0 : (a.map (AV.int .i64))[m]? = some (.int .i64 (L.getD m 0)) := by
              have : L.getD m 0 = a.getD m 0 := by
                conv => lhs; rw [← ht]
                exact take_getD hml
              rw [this]
              simp [show m < a.length by omega]
            have hyes : L.getD m 0 < x.tx → ∀ u ∈ L.take (m + 1), decide (u < x.tx) = true := fun q => all_step hml hm2 (decide_eq_true q)
            generalize hg : L.getD m 0 = u at *
            repeat' (first | (with_reducible apply St.o; constructor) <;> intro _ | (with_reducible first | refine LenR_i fun _ => ?_ | refine And.intro (by omega) ?_ | (apply Sp.o; constructor) | refine mkl_own ?_ | refine frz0_i ?_ | refine any_i [] ?_) | simp (maxSteps := 1000000) (disch := omega) only [lE,ptrCells,ptrAdd,isNil,readsV,readsP,isCall,wrote,srcOf,seval,IdxR_haps,hx,hg0,Int.toNat_natCast,List.length_map])
            all_goals try (exfalso; omega)
            · rename_i q
              exact back_i (m + 1) ⟨by omega,hyes q⟩ (by omega) (Ent.to [0] false (by simp) (by simp) rfl (by simp only [lP,seval,pa_ints] <;> (try simp) <;> (try omega)) (by simp only [lP,seval,pa_ints] <;> (try simp) <;> (try omega)))
            · rename_i q
              have hL2 := hfin fun _ => q
              have hLl := hla hL2
              rw [← hL2] at hmap
              repeat' (first | (with_reducible apply St.o; constructor) <;> intro _ | (with_reducible first | refine LenR_i fun _ => ?_ | refine And.intro (by omega) ?_ | (apply Sp.o; constructor) | refine mkl_own ?_ | refine frz0_i ?_) | with_reducible refine any_i [0] ?_ | simp (maxSteps := 1000000) (disch := omega) only [lE,ptrCells,ptrAdd,isNil,readsV,readsP,isCall,wrote,srcOf,seval,IdxR_haps,hx,hif,if_true,hdk,htk,htk2,hmap,hmin,hlen3,fillE,List.mem_singleton,Int.toNat_natCast,List.length_map,List.length_append,List.length_take,List.length_drop,List.length_cons,List.length_nil])
              all_goals try (exfalso; omega)
              exact back_i (i + 1,L') (hback _ (Nat.le_refl _) List.take_length) (by simp only; omega) ((Ent.asSub 3 rfl rfl).trans (Ent.to [5] false (by simp) (by simp) rfl (by simp only [lP,seval,hL',hLl,pa_ints] <;> (try simp) <;> (try omega)) (by simp only [lP,seval,hL',hLl,pa_ints] <;> (try simp) <;> (try omega))))
          · have hme : m = L.length := by omega
            have hL2 := hfin fun q => by omega
            have hLl := hla hL2
            rw [← hL2] at hmap
            repeat' (first | (with_reducible apply St.o; constructor) <;> intro _ | (with_reducible first | refine LenR_i fun _ => ?_ | refine And.intro (by omega) ?_ | (apply Sp.o; constructor) | refine mkl_own ?_ | refine frz0_i ?_ | refine any_i [] ?_) | simp (maxSteps := 1000000) (disch := omega) only [lE,ptrCells,ptrAdd,isNil,readsV,readsP,isCall,wrote,srcOf,seval,IdxR_haps,hx,Int.toNat_natCast,List.length_map])
            all_goals try (exfalso; omega)
            repeat' (first | (with_reducible apply St.o; constructor) <;> intro _ | (with_reducible first | refine LenR_i fun _ => ?_ | refine And.intro (by omega) ?_ | (apply Sp.o; constructor) | refine mkl_own ?_ | refine frz0_i ?_) | with_reducible refine any_i [0] ?_ | simp (maxSteps := 1000000) (disch := omega) only [lE,ptrCells,ptrAdd,isNil,readsV,readsP,isCall,wrote,srcOf,seval,IdxR_haps,hx,hif,if_true,hdk,htk,htk2,hmap,hmin,hlen3,fillE,List.mem_singleton,Int.toNat_natCast,List.length_map,List.length_append,List.length_take,List.length_drop,List.length_cons,List.length_nil])
            all_goals try (exfalso; omega)
            exact back_i (i + 1,L') (hback _ (Nat.le_refl _) List.take_length) (by simp only; omega) ((Ent.asSub 3 rfl rfl).trans (Ent.to [5] false (by simp) (by simp) rfl (by simp only [lP,seval,hL',hLl,pa_ints] <;> (try simp) <;> (try omega)) (by simp only [lP,seval,hL',hLl,pa_ints] <;> (try simp) <;> (try omega))))
    · have hst : L' = L := by rw [hnx, candStep, if_neg]; exact fun q => hk q.1
      repeat' (first | (with_reducible apply St.o; constructor) <;> intro _ | (with_reducible first | refine LenR_i fun _ => ?_ | refine And.intro (by omega) ?_ | (apply Sp.o; constructor) | refine mkl_own ?_ | refine frz0_i ?_) | simp (maxSteps := 1000000) (disch := omega) only [lE,ptrCells,ptrAdd,isNil,readsV,readsP,isCall,wrote,srcOf,seval,IdxR_haps,hx,hk,Int.toNat_natCast,List.length_map])
      all_goals try (exfalso; omega)
      exact back_i (i + 1,a) (hback _ (by rw [hst]; exact hn) (by rw [hst]; exact ht)) (by simp only; omega) (Ent.to [0] false (by simp) (by simp) rfl (by simp only [lP,seval,hL',hst,pa_ints] <;> (try simp) <;> (try omega)) (by simp only [lP,seval,hL',hst,pa_ints] <;> (try simp) <;> (try omega)))
  · have hie : i = h.length := by omega
    subst hie
    rw [List.take_length] at hn ht ⊢
    show R E.P 0 N _ _ _ _ _
    have hfold : candQ h h = candL h := rfl
    rw [hfold] at hn ht ⊢
    repeat' (first | (with_reducible apply St.o; constructor) <;> intro _ | (with_reducible first | refine LenR_i fun _ => ?_ | refine And.intro (by omega) ?_ | (apply Sp.o; constructor) | refine mkl_own ?_ | refine frz0_i ?_) | simp (maxSteps := 1000000) (disch := omega) only [lE,ptrCells,ptrAdd,isNil,readsV,readsP,isCall,wrote,srcOf,seval,List.length_map,Int.lt_irrefl,decide_false])
    exact keep_i [0] false (by simp) (by simp) rfl ⟨a,hn,ht,by simp only [lP,seval],by simp only [lP,seval,pa_ints]⟩
end Go.Proofs.Try


namespace Go.Proofs.Try
open Go.Proofs.Tryz
open Go.Al
set_option maxRecDepth 100000
def mc5 : MC :=
(.seq (.ops [(none,.v (.mov 2 (.c (.bool false))))])
(.seq (.ops [(none,.v (.mov 5 (.t 0))),
(none,.e (.call (some 6) 11 [(.t 5)])),
(none,.v (.mov 3 (.t 6)))])
(.seq (.seq (.ops [(none,.v (.mov 7 (.t 3))),
(none,.v (.not 8 (.t 7)))])
(.cond 8
(.seq (.ops [(none,.v (.mov 9 (.t 0))),
(none,.p (.len 10 (.t 9))),
(none,.v (.bin 11 .leq false (.t 10) (.c (.int .i64 500)))),
(none,.v (.mov 2 (.t 11)))])
.ret)
.skip))
(.seq (.ops [(none,.v (.mov 12 (.t 0))),
(none,.e (.call (some 13) 12 [(.t 12)])),
(none,.v (.mov 4 (.t 13)))])
(.seq (.ops [(none,.v (.mov 14 (.t 4))),
(none,.v (.bin 15 .gtr false (.t 14) (.c (.int .i64 8)))),
(none,.v (.mov 16 (.t 15))),
(some (16,false),.v (.mov 17 (.t 4))),
(some (16,false),.v (.bin 18 .leq false (.t 17) (.c (.int .i64 4)))),
(some (16,false),.v (.mov 19 (.t 18))),
(some (19,true),.v (.mov 20 (.t 0))),
(some (19,true),.e (.call (some 21) 13 [(.t 20)])),
(some (19,true),.v (.bin 22 .leq false (.t 21) (.c (.int .i64 7)))),
(some (16,false),.v (.pick 23 (.t 19) (.t 22) (.c (.bool false)))),
(some (16,false),.v (.mov 24 (.t 23))),
(some (24,true),.v (.mov 25 (.t 0))),
(some (24,true),.e (.call (some 26) 14 [(.t 25)])),
(some (24,true),.v (.bin 27 .leq false (.t 26) (.c (.int .i64 60)))),
(some (16,false),.v (.pick 28 (.t 24) (.t 27) (.c (.bool false)))),
(none,.v (.pick 29 (.t 16) (.c (.bool true)) (.t 28))),
(none,.v (.mov 2 (.t 29)))])
.ret)))))
theorem ok5 : FnOk E 5 30 [.tmp 2] mc5 := .of func5 (by kernel_rfl) (by kernel_rfl) (by kernel_rfl) (by kernel_rfl) (by kernel_rfl)
def mc13 : MC :=
(.seq (.ops [(none,.v (.mov 2 (.c (.int .i64 0))))])
(.seq (.ops [(none,.v (.mov 3 (.t 0))),
(none,.e (.call (some 4) 29 [(.t 3)])),
(none,.p (.len 5 (.t 4))),
(none,.v (.mov 2 (.t 5)))])
.ret))
theorem ok13 : FnOk E 13 6 [.tmp 2] mc13 := .of func13 (by kernel_rfl) (by kernel_rfl) (by kernel_rfl) (by kernel_rfl) (by kernel_rfl)
end Go.Proofs.Try
namespace Go.Proofs.Try
open Go.Proofs.Tryz
open Go.Al
set_option linter.unusedVariables false
set_option linter.unusedSimpArgs false
set_option maxRecDepth 20000
set_option maxHeartbeats 8000000

theorem candL_le {h : List Hap} (h410 : h.length ≤ 1000000) : (candL h).length ≤ 1000000 := Nat.le_trans (candQ_len h h) h410
theorem c13 (h : List Hap) (h410 : h.length ≤ 1000000) : ACalls E.P 13 [.view 5 (h.map Hap.av)] [] (fun r H => r = .int .i64 (candL h).length ∧ H = []) := by
  have hmax := maxLen_eq
  have h29 := c29 h h410
  have hcl := candL_le h410
  refine ok13.acalls hE hm (by simp) fun N hN => ?_
  unfold mc13
  simp only [lA,ptrCells,ptrAdd,isNil,readsV,readsP,isCall,wrote,srcOf,seval]
  repeat' (first | (with_reducible apply St.o; constructor) <;> intro _ | (with_reducible first | refine LenR_i fun _ => ?_ | refine And.intro (by omega) ?_ | (apply Sp.o; constructor) | refine mkl_own ?_ | refine frz0_i ?_) | ((with_reducible apply Sc.o false; constructor); simp only [lP,seval,List.length_map]; refine ⟨_,h29,?_⟩; rintro _ _ ⟨a,q1,q2,rfl,rfl⟩; simp only [lA,lP,ptrCells,ptrAdd,isNil,readsV,readsP,isCall,wrote,srcOf,seval,List.length_map]) | simp (maxSteps := 1000000) (disch := omega) only [lE,ptrCells,ptrAdd,isNil,readsV,readsP,isCall,wrote,srcOf,seval,List.length_map])
  all_goals try (exfalso; omega)
  exact keep_n rfl
theorem c5 (h : List Hap) (h410 : h.length ≤ 1000000) : ACalls E.P 5 [.view 5 (h.map Hap.av)] [] (fun r H => (∃ b, r = .bool b) ∧ H = []) := by
  have hmax := maxLen_eq
  have h11 := c11 h
  have h13 := c13 h h410
  have h14 := c14 h
  refine ok5.acalls hE hm (by simp) fun N hN => ?_
  unfold mc5
  simp only [lA,ptrCells,ptrAdd,isNil,readsV,readsP,isCall,wrote,srcOf,seval]
  by_cases hr : rightB h = true
  · have h12 := c12 h hr
    rw [hr] at h11
    repeat' (first | (with_reducible apply St.o; constructor) <;> intro _ | (with_reducible first | refine LenR_i fun _ => ?_ | refine And.intro (by omega) ?_ | (apply Sp.o; constructor) | refine mkl_own ?_ | refine frz0_i ?_) | ((with_reducible apply Sc.o true; constructor); simp only [lP,seval,List.length_map]; (first | refine ⟨_,h11,?_⟩ | refine ⟨_,h12,?_⟩ | refine ⟨_,h13,?_⟩ | refine ⟨_,h14,?_⟩); rintro _ _ ⟨rfl,rfl⟩; simp only [lA,lP,ptrCells,ptrAdd,isNil,readsV,readsP,isCall,wrote,srcOf,seval,List.length_map]) | simp (maxSteps := 1000000) (disch := omega) only [lE,ptrCells,ptrAdd,isNil,readsV,readsP,isCall,wrote,srcOf,seval,List.length_map])
    all_goals first
      | (exfalso; omega)
      | exact keepw_i [] true rfl (by simp) rfl (r' := .bool _) (.refl _) ⟨⟨_, rfl⟩, rfl⟩
  · replace hr : rightB h = false := by simpa using hr
    rw [hr] at h11
    repeat' (first | (with_reducible apply St.o; constructor) <;> intro _ | (with_reducible first | refine LenR_i fun _ => ?_ | refine And.intro (by omega) ?_ | (apply Sp.o; constructor) | refine mkl_own ?_ | refine frz0_i ?_) | ((with_reducible apply Sc.o true; constructor); simp only [lP,seval,List.length_map]; refine ⟨_,h11,?_⟩; rintro _ _ ⟨rfl,rfl⟩; simp only [lA,lP,ptrCells,ptrAdd,isNil,readsV,readsP,isCall,wrote,srcOf,seval,List.length_map]) | simp (maxSteps := 1000000) (disch := omega) only [lE,ptrCells,ptrAdd,isNil,readsV,readsP,isCall,wrote,srcOf,seval,List.length_map])
    all_goals first
      | (exfalso; omega)
      | exact keepw_i [] true rfl (by simp) rfl (r' := .bool _) (.refl _) ⟨⟨_, rfl⟩, rfl⟩
end Go.Proofs.Try

