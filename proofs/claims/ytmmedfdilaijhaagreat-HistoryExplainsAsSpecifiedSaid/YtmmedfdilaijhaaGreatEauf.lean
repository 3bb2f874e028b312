/-
  A part of the proof: see the text of the law.
-/
import Derived.Test.YtmmedfdilaijhaaGreatEauc
set_option linter.unusedSimpArgs false
set_option linter.unusedVariables false
namespace Go.Proofs.Try
open Go.Proofs.Tryz
open Go.Al
set_option linter.unusedVariables false
set_option linter.unusedSimpArgs false
set_option maxRecDepth 20000
set_option maxHeartbeats 8000000

theorem c23o (h : List Hap) (hr : rightB h = true) (order : List Int) (ho : order.length ≤ 10000) (n : Int) :
    ACalls E.P 23 [.view 5 (h.map Hap.av), .slc 0 1 order.length, .int .i64 n] [.arr 3 1 (order.map (AV.int .i64))] (fun r H => r = .view 4 ((stL h order (clampN n order.length)).map Hd.av) ∧ H = [.arr 3 1 (order.map (AV.int .i64))]) := by
  have hmax := maxLen_eq
  have h12 := c31 h
  have h400 := rightB_len hr
  have hk0 : (if (if (order.length : Int) < n then (order.length : Int) else n) > 0 then if (order.length : Int) < n then (order.length : Int) else n else 0) = (clampN n order.length : Nat) := by
    unfold clampN
    repeat' split
    all_goals omega
  have hk3 : clampN n order.length ≤ order.length := by unfold clampN; omega
  generalize clampN n order.length = k at *
  have hk4 : (order.map (AV.int .i64)).take k = (order.take k).map (AV.int .i64) := List.map_take.symm
  have hk5 : (order.take k).length = k := by rw [List.length_take]; omega
  refine ok23.acalls hE hm (by simp) fun N hN => ?_
  unfold mc23
  simp only [lA,ptrCells,ptrAdd,isNil,readsV,readsP,isCall,wrote,srcOf,seval]
  repeat' (first | (with_reducible apply St.o; constructor) <;> intro _ | (with_reducible first | refine LenR_i fun _ => ?_ | refine And.intro (by omega) ?_ | (apply Sp.o; constructor) | refine mkl_own ?_ | refine frz0_i ?_) | ((with_reducible apply Sc.o false; constructor); simp only [lP,seval,renL_kM,renL_vI,List.length_map,hk0,Int.toNat_natCast,hk4,hk5]; refine ⟨_,h12,?_⟩; rintro _ _ ⟨rfl,bs,c,rfl⟩; simp only [lA,lP,ptrCells,ptrAdd,isNil,readsV,readsP,isCall,wrote,srcOf,seval,renL_kM,renL_vI,List.length_map,hk0,Int.toNat_natCast,hk4,hk5]) | simp (maxSteps := 1000000) (disch := omega) only [lE,ptrCells,ptrAdd,isNil,readsV,readsP,isCall,wrote,srcOf,seval,renL_kM,renL_vI,List.length_map,hk0,Int.toNat_natCast,hk4,hk5])
  refine loop_i (fun x : Nat × List Nat × Nat => x.1 ≤ k ∧ WfM (stM h order x.1).length x.2.1 x.2.2 ∧ ∀ p ∈ stM h order x.1, fitP p.1)
    (fun x => ⟨[(0, .view 5 (h.map Hap.av)), (7, .mp 1), (8, .mp 2), (25, .sub 0 1 0 k), (26, .int .i64 k), (27, .int .i64 x.1)], [.arr 3 1 (order.map (AV.int .i64)), .map (kM (asksM h)) (vM (AV.int .i64) (asksM h)) bs c, .map (kW (stM h order x.1)) (vW Hd.av (stM h order x.1)) x.2.1 x.2.2]⟩) (fun x => k - x.1) (0, [], 0) ⟨by simp, ⟨rfl, .nil, by simp⟩, by simp [stM]⟩
    (Ent.to [0, 1, 2] false (by simp) (by simp) rfl (by simp only [lP,seval,pa_ints,stM,kW,vW,List.map_nil,pa_kM,pa_vI,hk5] <;> (try simp) <;> (try omega)) (by simp only [lP,seval,pa_ints,stM,kW,vW,List.map_nil,pa_kM,pa_vI,hk5] <;> (try simp) <;> (try omega))) ?_
  rintro ⟨i, b2, c2⟩ ⟨hi, hw, hf⟩
  simp only at hi hw hf ⊢
  by_cases hil : i < k
  · have hlook := look_m (AV.int .i64) (.int .i64 0) (asksM h) (order.getD i 0)
    rw [asksM_all hr] at hlook
    have hx0 : (order.map (AV.int .i64))[i]? = some (.int .i64 (order.getD i 0)) := by simp [show i < order.length by omega]
    have hst : stM h order (i + 1) = (wsOf h (order.getD i 0)).foldl (putM (i + 1)) (stM h order i) := rfl
    have hwo : ∀ w ∈ wsOf h (order.getD i 0), okW w = true := fun w hw => wsOf_ok hr hw
    generalize order.getD i 0 = tx at *
    cases hfi : h.findIdx? (isAsk tx) with
    | none =>
      rw [hfi] at hlook
      have hws : wsOf h tx = [] := by unfold wsOf; rw [hfi]
      rw [hws] at hst
      have hst2 : stM h order (i + 1) = stM h order i := hst
      repeat' (first | (with_reducible apply St.o; constructor) <;> intro _ | (with_reducible first | refine LenR_i fun _ => ?_ | refine And.intro (by omega) ?_ | (apply Sp.o; constructor) | refine mkl_own ?_ | refine frz0_i ?_) | simp (maxSteps := 1000000) (disch := omega) only [lE,ptrCells,ptrAdd,isNil,readsV,readsP,isCall,wrote,srcOf,seval,hx0,Int.toNat_natCast,List.length_map,hlook,Option.map_none])
      all_goals try (exfalso; omega)
      exact back_i (i + 1,b2,c2) ⟨by simp only; omega,by simp only [hst2]; exact hw,by simp only [hst2]; exact hf⟩ (by simp only; omega) (Ent.to [0, 1, 2] false (by simp) (by simp) rfl (by simp only [lP,seval,pa_ints,hst2,pa_kM,pa_vI,pa_kW,pa_vH] <;> (try simp) <;> (try omega)) (by simp only [lP,seval,pa_ints,hst2,pa_kM,pa_vI,pa_kW,pa_vH] <;> (try simp) <;> (try omega)))
    | some k0 =>
      rw [hfi] at hlook
      obtain ⟨hk0l, _⟩ := List.findIdx?_eq_some_iff_getElem.1 hfi
      have hws : wsOf h tx = (h.getD k0 default).ws := by unfold wsOf; rw [hfi]
      rw [hws] at hst hwo
      generalize hx : h.getD k0 default = x at *
      have hwl : x.ws.length ≤ 64 := by have := wsOf_len hr tx; rwa [hws] at this
      repeat' (first | (with_reducible apply St.o; constructor) <;> intro _ | (with_reducible first | refine LenR_i fun _ => ?_ | refine And.intro (by omega) ?_ | (apply Sp.o; constructor) | refine mkl_own ?_ | refine frz0_i ?_) | simp (maxSteps := 1000000) (disch := omega) only [lE,ptrCells,ptrAdd,isNil,readsV,readsP,isCall,wrote,srcOf,seval,hx0,IdxR_haps,hx,Int.toNat_natCast,List.length_map,hlook,Option.map_some])
      all_goals try (exfalso; omega)
      generalize hws2 : x.ws = ws at *
      refine loop_i (fun y : Nat × List Nat × Nat => y.1 ≤ ws.length ∧ WfM ((ws.take y.1).foldl (putM (i + 1)) (stM h order i)).length y.2.1 y.2.2 ∧ ∀ p ∈ (ws.take y.1).foldl (putM (i + 1)) (stM h order i), fitP p.1)
        (fun y => ⟨[(0, .view 5 (h.map Hap.av)), (7, .mp 1), (8, .mp 2), (9, .int .i64 i), (25, .sub 0 1 0 k), (26, .int .i64 k), (27, .int .i64 i), (44, .view 4 (ws.map Wr.av)), (45, .int .i64 ws.length), (46, .int .i64 y.1)], [.arr 3 1 (order.map (AV.int .i64)), .map (kM (asksM h)) (vM (AV.int .i64) (asksM h)) bs c, .map (kW ((ws.take y.1).foldl (putM (i + 1)) (stM h order i))) (vW Hd.av ((ws.take y.1).foldl (putM (i + 1)) (stM h order i))) y.2.1 y.2.2]⟩) (fun y => ws.length - y.1) (0, b2, c2) ⟨by simp, by simpa using hw, by simpa using hf⟩
        (Ent.to [0, 1, 2] false (by simp) (by simp) rfl (by simp only [lP,seval,pa_ints,List.take_zero,List.foldl_nil,pa_kM,pa_vI,pa_kW,pa_vH,List.length_map,hws2] <;> (try simp) <;> (try omega)) (by simp only [lP,seval,pa_ints,List.take_zero,List.foldl_nil,pa_kM,pa_vI,pa_kW,pa_vH,List.length_map,hws2] <;> (try simp) <;> (try omega))) ?_
      rintro ⟨j, b3, c3⟩ ⟨hj, hw3, hf3⟩
      simp only at hj hw3 hf3 ⊢
      by_cases hjl : j < ws.length
      · have hnx : (ws.take (j + 1)).foldl (putM (i + 1)) (stM h order i) = putM (i + 1) ((ws.take j).foldl (putM (i + 1)) (stM h order i)) (ws.getD j default) := by
          rw [take_succD hjl, List.foldl_append]; rfl
        have hok := hwo _ (getD_mem hjl)
        have hfit := fit_w hok
        have hfn := fit_putM (s := (i : Int) + 1) hf3 hok
        obtain ⟨b4, c1004, hput, hw4⟩ := wfW_put Hd.av hf3 hw3 hfit ((ws.getD j default).row ((i : Int) + 1))
        obtain ⟨b5, hdel, hw5⟩ := wfW_del Hd.av hf3 hw3 hfit
        generalize (ws.take j).foldl (putM (i + 1)) (stM h order i) = m at *
        generalize hm' : (ws.take (j + 1)).foldl (putM (i + 1)) (stM h order i) = m' at *
        generalize hw0 : ws.getD j default = w at *
        simp only [kp,row_av] at hput hdel
        by_cases hd : w.dead = true
        · have hnx2 : m' = delW m (w.t, w.r) := by rw [hnx, putM, if_pos hd]
          rw [← hnx2] at hdel hw5
          rw [← hnx] at hfn
          repeat' (first | (with_reducible apply St.o; constructor) <;> intro _ | (with_reducible first | refine LenR_i fun _ => ?_ | refine And.intro (by omega) ?_ | (apply Sp.o; constructor) | refine mkl_own ?_ | refine frz0_i ?_) | simp (maxSteps := 1000000) (disch := omega) only [lE,ptrCells,ptrAdd,isNil,readsV,readsP,isCall,wrote,srcOf,seval,IdxR_wrs,hw0,hd,Int.toNat_natCast,List.length_map,fillE,List.length_cons,List.length_nil,hdel])
          all_goals try (exfalso; omega)
          exact back_i (j + 1,b5,c3) ⟨by simp only; omega,by simp only [hm']; exact hw5,by simp only [hm']; exact hfn⟩ (by simp only; omega) (Ent.to [0, 1, 2] false (by simp) (by simp) rfl (by simp only [lP,seval,pa_ints,hm',pa_kM,pa_vI,pa_kW,pa_vH] <;> (try simp) <;> (try omega)) (by simp only [lP,seval,pa_ints,hm',pa_kM,pa_vI,pa_kW,pa_vH] <;> (try simp) <;> (try omega)))
        · have hd' : w.dead = false := by simpa using hd
          have hnx2 : m' = setW m (w.t, w.r) (w.row ((i : Int) + 1)) := by rw [hnx, putM, if_neg hd]
          rw [← hnx2] at hput hw4
          rw [← hnx] at hfn
          repeat' (first | (with_reducible apply St.o; constructor) <;> intro _ | (with_reducible first | refine LenR_i fun _ => ?_ | refine And.intro (by omega) ?_ | (apply Sp.o; constructor) | refine mkl_own ?_ | refine frz0_i ?_) | simp (maxSteps := 1000000) (disch := omega) only [lE,ptrCells,ptrAdd,isNil,readsV,readsP,isCall,wrote,srcOf,seval,IdxR_wrs,hw0,hd',Int.toNat_natCast,List.length_map,fillE,List.length_cons,List.length_nil,hput])
          all_goals try (exfalso; omega)
          exact back_i (j + 1,b4,c1004) ⟨by simp only; omega,by simp only [hm']; exact hw4,by simp only [hm']; exact hfn⟩ (by simp only; omega) (Ent.to [0, 1, 2] false (by simp) (by simp) rfl (by simp only [lP,seval,pa_ints,hm',pa_kM,pa_vI,pa_kW,pa_vH] <;> (try simp) <;> (try omega)) (by simp only [lP,seval,pa_ints,hm',pa_kM,pa_vI,pa_kW,pa_vH] <;> (try simp) <;> (try omega)))
      · have hje : j = ws.length := by omega
        subst hje
        rw [List.take_length] at hw3 hf3 ⊢
        rw [← hst] at hw3 hf3 ⊢
        repeat' (first | (with_reducible apply St.o; constructor) <;> intro _ | (with_reducible first | refine LenR_i fun _ => ?_ | refine And.intro (by omega) ?_ | (apply Sp.o; constructor) | refine mkl_own ?_ | refine frz0_i ?_) | simp (maxSteps := 1000000) (disch := omega) only [lE,ptrCells,ptrAdd,isNil,readsV,readsP,isCall,wrote,srcOf,seval,List.length_map,Int.lt_irrefl,decide_false])
        exact back_i (i + 1,b3,c3) ⟨by simp only; omega,hw3,hf3⟩ (by simp only; omega) (Ent.to [0, 1, 2] false (by simp) (by simp) rfl (by simp only [lP,seval,pa_ints,pa_kM,pa_vI,pa_kW,pa_vH] <;> (try simp) <;> (try omega)) (by simp only [lP,seval,pa_ints,pa_kM,pa_vI,pa_kW,pa_vH] <;> (try simp) <;> (try omega)))
  · have hie : i = k := by omega
    subst hie
    have h46 := c51 (stM h order i) b2 c2
    have h45 := c50 (stM h order i) b2 c2 hw (by have := stM_len hr order i; omega)
    have hso := sameR h order i
    repeat' (first | (with_reducible apply St.o; constructor) <;> intro _ | (with_reducible first | refine LenR_i fun _ => ?_ | refine And.intro (by omega) ?_ | (apply Sp.o; constructor) | refine mkl_own ?_ | refine frz0_i ?_) | simp (maxSteps := 1000000) (disch := omega) only [lE,ptrCells,ptrAdd,isNil,readsV,readsP,isCall,wrote,srcOf,seval,Int.lt_irrefl,decide_false])
    refine callN_i [2] false (by simp) (by simp) ?_
    simp only [lP,seval,pa_kW,pa_vH]
    refine ⟨_, h46, ?_⟩
    rintro _ _ ⟨rfl, rfl⟩
    unfold mapB at *
    simp only [lA,lP,ptrCells,ptrAdd,isNil,readsV,readsP,isCall,wrote,srcOf,seval,renL_kW,renL_vH]
    refine callN_i [2, 3] false (by simp) (by simp) ?_
    simp only [lP,seval,pa_kW,pa_vH]
    refine ⟨_, h45, ?_⟩
    rintro _ _ ⟨l, hp, hs, rfl, rfl⟩
    simp only [lA,lP,ptrCells,ptrAdd,isNil,readsV,readsP,isCall,wrote,srcOf,seval,renL_kW,renL_vH,renL_hds]
    rw [hso.sorted hp hs]
    exact keep_i [0] true rfl (by simp) rfl ⟨by simp only [lP,seval],by simp only [lP,seval,pa_ints]⟩
end Go.Proofs.Try

