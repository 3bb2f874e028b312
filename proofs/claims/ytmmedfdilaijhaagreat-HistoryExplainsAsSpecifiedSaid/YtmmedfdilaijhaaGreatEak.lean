/-
  A part of the proof: see the text of the law.
-/
import Derived.Test.YtmmedfdilaijhaaGreatEaj
set_option linter.unusedSimpArgs false
set_option linter.unusedVariables false
namespace Go.Proofs.Try
open Go.Proofs.Tryz
open Go.Al
set_option maxRecDepth 100000
def mc41 : MC :=
(.seq (.ops [(none,.v (.mov 2 (.c (.bool false))))])
(.seq (.ops [(none,.e (.mkmap 7)),
(none,.v (.mov 3 (.t 7)))])
(.seq (.seq (.ops [(none,.v (.mov 8 (.t 0))),
(none,.p (.len 9 (.t 8))),
(none,.v (.mov 10 (.c (.int .i64 0))))])
(.block 0 (.loop (.seq (.ops [(none,.v (.bin 11 .lss false (.t 10) (.t 9)))])
(.seq (.cond 11
.skip
(.exit 0))
(.seq (.block 1 (.seq (.ops [(none,.p (.idx 12 4 (.t 8) (.t 10))),
(none,.v (.load 13 true 4 (.t 12))),
(none,.e (.alloc 5 [(.int .i64 0),(.int .i64 0),(.bool false),(.raw (.slice none 0 0))])),
(none,.e (.store 4 true (.t 5) (.t 13)))])
(.seq (.ops [(none,.v (.fld 14 0 (.t 5))),
(none,.v (.load 15 false 1 (.t 14))),
(none,.v (.fld 16 1 (.t 5))),
(none,.v (.load 17 false 1 (.t 16))),
(none,.v (.build 18 [(.int .i64 0),(.int .i64 0)] [(0,1,(.t 15)),(1,1,(.t 17))])),
(none,.e (.alloc 6 [(.int .i64 0),(.int .i64 0)])),
(none,.e (.store 2 true (.t 6) (.t 18)))])
(.seq (.seq (.ops [(none,.v (.fld 19 0 (.t 5))),
(none,.v (.load 20 false 1 (.t 19))),
(none,.v (.bin 21 .lss false (.t 20) (.c (.int .i64 0)))),
(none,.v (.mov 22 (.t 21))),
(some (22,false),.v (.fld 23 0 (.t 5))),
(some (22,false),.v (.load 24 false 1 (.t 23))),
(some (22,false),.v (.bin 25 .gtr false (.t 24) (.c (.int .i64 255)))),
(none,.v (.pick 26 (.t 22) (.c (.bool true)) (.t 25))),
(none,.v (.mov 27 (.t 26))),
(some (27,false),.v (.fld 28 1 (.t 5))),
(some (27,false),.v (.load 29 false 1 (.t 28))),
(some (27,false),.e (.call (some 30) 42 [(.t 29)])),
(some (27,false),.v (.not 31 (.t 30))),
(none,.v (.pick 32 (.t 27) (.c (.bool true)) (.t 31))),
(none,.v (.mov 33 (.t 32))),
(some (33,false),.v (.fld 34 2 (.t 5))),
(some (33,false),.v (.load 35 false 1 (.t 34))),
(some (33,false),.v (.mov 36 (.t 35))),
(some (36,true),.v (.fld 37 3 (.t 5))),
(some (36,true),.v (.load 38 false 1 (.t 37))),
(some (36,true),.p (.len 39 (.t 38))),
(some (36,true),.v (.bin 40 .gtr false (.t 39) (.c (.int .i64 0)))),
(some (33,false),.v (.pick 41 (.t 36) (.t 40) (.c (.bool false)))),
(none,.v (.pick 42 (.t 33) (.c (.bool true)) (.t 41))),
(none,.v (.mov 43 (.t 42))),
(some (43,false),.v (.mov 44 (.t 3))),
(some (43,false),.v (.load 45 true 2 (.t 6))),
(some (43,false),.p (.look 46 false (.wide [.int .i64,.int .i64]) (.bool false) (.t 44) (.t 45))),
(none,.v (.pick 47 (.t 43) (.c (.bool true)) (.t 46)))])
(.cond 47
(.seq (.ops [(none,.v (.mov 2 (.c (.bool false))))])
.ret)
.skip))
(.ops [(none,.v (.mov 48 (.t 3))),
(none,.v (.load 49 true 2 (.t 6))),
(none,.e (.mput (.wide [.int .i64,.int .i64]) (.t 48) (.t 49) (.c (.bool true))))])))))
(.ops [(none,.v (.bin 50 .add false (.t 10) (.c (.int .i64 1)))),
(none,.v (.mov 10 (.t 50)))])))))))
(.seq (.ops [(none,.v (.mov 51 (.t 0))),
(none,.p (.len 52 (.t 51))),
(none,.v (.bin 53 .geq false (.t 52) (.c (.int .i64 1)))),
(none,.v (.mov 54 (.t 53))),
(some (54,true),.v (.mov 55 (.t 0))),
(some (54,true),.p (.len 56 (.t 55))),
(some (54,true),.v (.bin 57 .leq false (.t 56) (.c (.int .i64 64)))),
(none,.v (.pick 58 (.t 54) (.t 57) (.c (.bool false)))),
(none,.v (.mov 2 (.t 58)))])
.ret))))
theorem ok41 : FnOk E 41 59 [.tmp 2] mc41 := .of func41 (by kernel_rfl) (by kernel_rfl) (by kernel_rfl) (by kernel_rfl) (by kernel_rfl)
end Go.Proofs.Try
namespace Go.Proofs.Try
open Go.Proofs.Tryz
open Go.Al
set_option linter.unusedVariables false
set_option linter.unusedSimpArgs false
set_option maxRecDepth 20000
set_option maxHeartbeats 8000000

theorem mem_setW {α : Type} {m : List ((Int × Int) × α)} {r : Int × Int} {v : α} {p : (Int × Int) × α} (h : p ∈ setW m r v) : p.1 = r ∨ p ∈ m := by
  induction m with
  | nil =>
    simp only [setW,List.mem_singleton] at h
    exact .inl (by rw [h])
  | cons q m ih =>
    rw [setW] at h
    split at h
    · rcases List.mem_cons.1 h with h | h
      · exact .inl (by rw [h])
      · exact .inr (by simp [h])
    · rcases List.mem_cons.1 h with h | h
      · exact .inr (by simp [h])
      · rcases ih h with h | h
        · exact .inl h
        · exact .inr (by simp [h])
theorem fit_setW {α : Type} {m : List ((Int × Int) × α)} {r : Int × Int} {v : α} (hm : ∀ p ∈ m, fitP p.1) (hr : fitP r) : ∀ p ∈ setW m r v, fitP p.1 := fun p hp => by
  rcases mem_setW hp with h | h
  · rw [h]; exact hr
  · exact hm p h
def spotsW (l : List Wr) : List ((Int × Int) × Bool) := l.foldl (fun m w => setW m (w.t, w.r) true) []
theorem spotsW_next {l : List Wr} {i : Nat} (h : i < l.length) : spotsW (l.take (i + 1)) = setW (spotsW (l.take i)) ((l.getD i default).t, (l.getD i default).r) true := by
  rw [take_succD h, spotsW, List.foldl_append]; rfl
theorem fit_w {w : Wr} (h : okW w = true) : fitP (w.t, w.r) := by
  simp only [okW,Bool.not_eq_true',Bool.or_eq_false_iff,decide_eq_false_iff_not,Bool.not_eq_false',numb,Bool.and_eq_true,decide_eq_true_eq] at h
  constructor
  · simp [Lit.wf, IntKind.min, IntKind.max, IntKind.signed, IntKind.bits]; omega
  · simp [Lit.wf, IntKind.min, IntKind.max, IntKind.signed, IntKind.bits]; omega
def hasSpot (l : List Wr) (k : Int × Int) : Bool := l.any fun y => decide ((y.t, y.r) = k)
theorem hasSpot_iff {l : List Wr} {k : Int × Int} : hasSpot l k = true ↔ ∃ y ∈ l, (y.t, y.r) = k := by
  simp [hasSpot]
theorem pa_kW {α : Type} {H : List AObj} {l : List Nat} {bor : Bool} {n : Nat} (m : List ((Int × Int) × α)) : (kW m).map (pa H l bor (n + 1)) = kW m := by
  unfold kW
  rw [List.map_map]
  exact List.map_congr_left fun p _ => by simp [kp, pa_agg, pa_int]
theorem pa_vB {H : List AObj} {l : List Nat} {bor : Bool} {n : Nat} (m : List ((Int × Int) × Bool)) : (vW AV.bool m).map (pa H l bor (n + 1)) = vW AV.bool m := by
  unfold vW
  rw [List.map_map]
  exact List.map_congr_left fun p _ => by simp [pa_bool]
theorem c41 (l : List Wr) : ACalls E.P 41 [.view 4 (l.map Wr.av)] [] (fun r H => r = .bool (writesOk l) ∧ H = []) := by
  have hmax := maxLen_eq
  have h27 := c42
  refine ok41.acalls hE hm (by simp) fun N hN => ?_
  unfold mc41
  simp only [lA,ptrCells,ptrAdd,isNil,readsV,readsP,isCall,wrote,srcOf,seval]
  refine LenR_i fun hl => ?_
  rw [List.length_map, hmax] at hl
  simp only [lA,ptrCells,ptrAdd,isNil,readsV,readsP,isCall,wrote,srcOf,seval,List.length_map]
  refine loop_i (fun x : Nat × List Nat × Nat => x.1 ≤ l.length ∧ (∀ y ∈ l.take x.1, okW y = true) ∧ ((l.take x.1).Pairwise fun a b => ¬ a.same b) ∧ (∀ p ∈ spotsW (l.take x.1), fitP p.1) ∧ (∀ k : Int × Int, getW (spotsW (l.take x.1)) k = if hasSpot (l.take x.1) k = true then some true else none))
    (fun x => ⟨[(3, .mp 0),(0, .view 4 (l.map Wr.av)),(8, .view 4 (l.map Wr.av)),(9, .int .i64 l.length),(10, .int .i64 x.1)], [.map (kW (spotsW (l.take x.1))) (vW AV.bool (spotsW (l.take x.1))) x.2.1 x.2.2]⟩) (fun x => l.length - x.1) (0, [], 0) (by simp [spotsW,getW,hasSpot]) (Ent.to [0] false (by simp) (by simp) rfl (by simp only [lP,seval,List.take_zero,spotsW,List.foldl_nil,kW,vW,List.map_nil] <;> (try simp) <;> (try omega)) (by simp only [lP,seval,List.take_zero,spotsW,List.foldl_nil,kW,vW,List.map_nil] <;> (try simp) <;> (try omega))) ?_
  rintro ⟨i, bs, c⟩ ⟨hi, hn, hp, hf, hg⟩
  simp only at hi hn hp hf hg ⊢
  by_cases hil : i < l.length
  · have hbad : okW (l.getD i default) = false → writesOk l = false := fun hb => by
      unfold writesOk
      rw [decide_eq_false, Bool.false_and]
      rintro ⟨q, _⟩
      rw [q _ (getD_mem hil)] at hb; cases hb
    have hgood : okW (l.getD i default) = true → ∀ x ∈ l.take (i + 1), okW x = true := fun hq => all_step hil hn hq
    have hnx := spotsW_next hil
    have hgi := hg ((l.getD i default).t, (l.getD i default).r)
    have hdup : (∃ y ∈ l.take i, (y.t, y.r) = ((l.getD i default).t, (l.getD i default).r)) → writesOk l = false := by
      rintro ⟨y, hy, e⟩
      unfold writesOk
      rw [decide_eq_false, Bool.false_and]
      rintro ⟨_, q⟩
      have q2 : (l.take (i + 1)).Pairwise fun a b => ¬ a.same b := q.sublist (List.take_sublist _ _)
      rw [take_succD hil] at q2
      have := (List.pairwise_append.1 q2).2.2 y hy (l.getD i default) (by simp)
      exact this (by simpa [Wr.same] using e)
    have hpair : (¬ ∃ y ∈ l.take i, (y.t, y.r) = ((l.getD i default).t, (l.getD i default).r)) → (l.take (i + 1)).Pairwise fun a b => ¬ a.same b := fun q => pair_snoc hil hp fun y hy hs => q ⟨y, hy, by simpa [Wr.same] using hs⟩
    have hnew : ∀ k : Int × Int, getW (spotsW (l.take (i + 1))) k = if hasSpot (l.take (i + 1)) k = true then some true else none := fun k => by
      rw [hnx, getW_set, hg, take_succD hil]
      have e : hasSpot (l.take i ++ [l.getD i default]) k = (hasSpot (l.take i) k || decide (((l.getD i default).t, (l.getD i default).r) = k)) := by
        unfold hasSpot
        rw [List.any_append]
        simp only [List.any_cons,List.any_nil,Bool.or_false]
      rw [e]
      by_cases hk : k = ((l.getD i default).t, (l.getD i default).r)
      · rw [if_pos hk, decide_eq_true hk.symm, Bool.or_true, if_pos rfl]
      · rw [if_neg hk, decide_eq_false (fun q => hk q.symm), Bool.or_false]
    by_cases hok : okW (l.getD i default) = true
    · have hfit := fit_w hok
      have hlook := look_w AV.bool (.bool false) hf hfit
      obtain ⟨bs', c', hput⟩ := put_w AV.bool hf bs c hfit true
      have hf2 := fit_setW (v := true) hf hfit
      rw [← hnx] at hput hf2
      rw [hgi] at hlook
      generalize hm' : spotsW (l.take (i + 1)) = m' at *
      generalize spotsW (l.take i) = m at *
      generalize hx : l.getD i default = x at *
      simp only [kp] at hlook hput
      by_cases hex : hasSpot (l.take i) (x.t, x.r) = true
      · rw [if_pos hex] at hlook
        repeat' (first | (with_reducible apply St.o; constructor) <;> intro _ | (with_reducible first | refine LenR_i fun _ => ?_ | refine And.intro (by omega) ?_ | (apply Sp.o; constructor) | refine mkl_own ?_ | refine frz0_i ?_) | ((with_reducible apply Sc.o true; constructor); simp only [lP,seval,IdxR_wrs,hx,Int.toNat_natCast,List.length_map,fillE,List.length_cons,List.length_nil,hlook,hput]; refine ⟨_,h27 _,?_⟩; rintro _ _ ⟨rfl,rfl⟩; simp only [lA,lP,ptrCells,ptrAdd,isNil,readsV,readsP,isCall,wrote,srcOf,seval,IdxR_wrs,hx,Int.toNat_natCast,List.length_map,fillE,List.length_cons,List.length_nil,hlook,hput]) | simp (maxSteps := 1000000) (disch := omega) only [lE,ptrCells,ptrAdd,isNil,readsV,readsP,isCall,wrote,srcOf,seval,IdxR_wrs,hx,Int.toNat_natCast,List.length_map,fillE,List.length_cons,List.length_nil,hlook,hput])
        all_goals first
          | (exfalso; omega)
          | exact keep_b (hdup (hasSpot_iff.1 hex)).symm
      · rw [if_neg hex] at hlook
        repeat' (first | (with_reducible apply St.o; constructor) <;> intro _ | (with_reducible first | refine LenR_i fun _ => ?_ | refine And.intro (by omega) ?_ | (apply Sp.o; constructor) | refine mkl_own ?_ | refine frz0_i ?_) | ((with_reducible apply Sc.o true; constructor); simp only [lP,seval,IdxR_wrs,hx,Int.toNat_natCast,List.length_map,fillE,List.length_cons,List.length_nil,hlook,hput]; refine ⟨_,h27 _,?_⟩; rintro _ _ ⟨rfl,rfl⟩; simp only [lA,lP,ptrCells,ptrAdd,isNil,readsV,readsP,isCall,wrote,srcOf,seval,IdxR_wrs,hx,Int.toNat_natCast,List.length_map,fillE,List.length_cons,List.length_nil,hlook,hput]) | simp (maxSteps := 1000000) (disch := omega) only [lE,ptrCells,ptrAdd,isNil,readsV,readsP,isCall,wrote,srcOf,seval,IdxR_wrs,hx,Int.toNat_natCast,List.length_map,fillE,List.length_cons,List.length_nil,hlook,hput])
        all_goals first
          | (exfalso; omega)
          | (exfalso; simp [okW, *] at hok; done)
          | (exfalso; have h0 : 0 < x.v.length := by omega
             simp [okW, h0, *] at hok; done)
          | exact back_i (i + 1,bs',c') ⟨by simp only; omega,hgood hok,hpair (fun q => hex (hasSpot_iff.2 q)),(by simp only [hm']; exact hf2),(by simp only [hm']; exact hnew)⟩ (by simp only; omega) (Ent.to [0] false (by simp) (by simp) rfl (by simp only [lP,seval,hm',pa_kW,pa_vB] <;> (try simp) <;> (try omega)) (by simp only [lP,seval,hm',pa_kW,pa_vB] <;> (try simp) <;> (try omega)))
    · have hokf : okW (l.getD i default) = false := by simpa using hok
      generalize hx : l.getD i default = x at *
      repeat' (first | (with_reducible apply St.o; constructor) <;> intro _ | (with_reducible first | refine LenR_i fun _ => ?_ | refine And.intro (by omega) ?_ | (apply Sp.o; constructor) | refine mkl_own ?_ | refine frz0_i ?_) | ((with_reducible apply Sc.o true; constructor); simp only [lP,seval,IdxR_wrs,hx,Int.toNat_natCast,List.length_map,fillE,List.length_cons,List.length_nil]; refine ⟨_,h27 _,?_⟩; rintro _ _ ⟨rfl,rfl⟩; simp only [lA,lP,ptrCells,ptrAdd,isNil,readsV,readsP,isCall,wrote,srcOf,seval,IdxR_wrs,hx,Int.toNat_natCast,List.length_map,fillE,List.length_cons,List.length_nil]) | simp (maxSteps := 1000000) (disch := omega) only [lE,ptrCells,ptrAdd,isNil,readsV,readsP,isCall,wrote,srcOf,seval,IdxR_wrs,hx,Int.toNat_natCast,List.length_map,fillE,List.length_cons,List.length_nil])
      all_goals first
        | (exfalso; omega)
        | exact keep_b (hbad hokf).symm
        | (exfalso; simp [okW, *] at hokf <;> omega)
  · have hie : i = l.length := by omega
    subst hie
    rw [List.take_length] at hn hp
    have hw : writesOk l = (decide (1 ≤ l.length) && decide (l.length ≤ 64)) := by
      unfold writesOk
      rw [decide_eq_true (⟨hn, hp⟩ : _ ∧ _), Bool.true_and]
    repeat' (first | (with_reducible apply St.o; constructor) <;> intro _ | (with_reducible first | refine LenR_i fun _ => ?_ | refine And.intro (by omega) ?_ | (apply Sp.o; constructor) | refine mkl_own ?_ | refine frz0_i ?_) | simp (maxSteps := 1000000) (disch := omega) only [lE,ptrCells,ptrAdd,isNil,readsV,readsP,isCall,wrote,srcOf,seval,List.length_map,Int.lt_irrefl,decide_false])
    all_goals (refine keep_b ?_; rw [hw, Bool.eq_iff_iff]; simp; try omega)
end Go.Proofs.Try

