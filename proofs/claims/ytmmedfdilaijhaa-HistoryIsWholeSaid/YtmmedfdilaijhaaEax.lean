/-
  A part of the proof: see the text of the law.
-/
import Derived.Test.YtmmedfdilaijhaaPae
set_option linter.unusedSimpArgs false
set_option linter.unusedVariables false
namespace Go.Proofs.Try
open Go.Al
set_option maxRecDepth 100000
/-- alum/history.State -/
def mc20 : MC :=
 (.seq (.ops [(none, (.v (.mov 6 (.c (.raw (.slice none 0 0))))))])
 (.seq (.ops [(none, (.v (.mov 16 (.t 0)))),
 (none, (.e (.call (some 17) 12 [(.t 16)]))),
 (none, (.e (.mkmap 18))),
 (none, (.v (.mov 7 (.t 17)))),
 (none, (.v (.mov 8 (.t 18))))])
 (.seq (.seq (.ops [(none, (.v (.mov 19 (.t 1)))),
 (none, (.v (.mov 20 (.t 2)))),
 (none, (.v (.mov 21 (.t 1)))),
 (none, (.p (.len 22 (.t 21)))),
 (none, (.v (.min 23 [(.t 20), (.t 22)]))),
 (none, (.v (.max 24 [(.c (.int .i64 0)), (.t 23)]))),
 (none, (.p (.pre 25 1 (.t 19) (some (.t 24))))),
 (none, (.p (.len 26 (.t 25)))),
 (none, (.v (.mov 27 (.c (.int .i64 0)))))])
 (.block 0 (.loop (.seq (.ops [(none, (.v (.bin 28 .lss false (.t 27) (.t 26))))])
 (.seq (.cond 28
 .skip
 (.exit 0))
 (.seq (.block 1 (.seq (.ops [(none, (.v (.mov 29 (.t 27)))),
 (none, (.p (.idx 30 1 (.t 25) (.t 27)))),
 (none, (.v (.load 31 false 1 (.t 30)))),
 (none, (.v (.mov 9 (.t 29)))),
 (none, (.v (.mov 10 (.t 31))))])
 (.seq (.ops [(none, (.v (.mov 33 (.t 7)))),
 (none, (.v (.mov 34 (.t 10)))),
 (none, (.p (.look 35 true (.int .i64) (.int .i64 0) (.t 33) (.t 34)))),
 (none, (.v (.mov 32 (.t 35)))),
 (none, (.v (.ext 36 0 (.t 32)))),
 (none, (.v (.ext 37 1 (.t 32)))),
 (none, (.v (.mov 11 (.t 36)))),
 (none, (.v (.mov 12 (.t 37))))])
 (.seq (.seq (.ops [(none, (.v (.mov 38 (.t 12)))),
 (none, (.v (.not 39 (.t 38))))])
 (.cond 39
 (.exit 1)
 .skip))
 (.seq (.ops [(none, (.v (.mov 40 (.t 0)))),
 (none, (.v (.mov 41 (.t 11)))),
 (none, (.p (.idx 42 5 (.t 40) (.t 41)))),
 (none, (.v (.fld 43 3 (.t 42)))),
 (none, (.v (.load 44 false 1 (.t 43)))),
 (none, (.p (.len 45 (.t 44)))),
 (none, (.v (.mov 46 (.c (.int .i64 0)))))])
 (.block 2 (.loop (.seq (.ops [(none, (.v (.bin 47 .lss false (.t 46) (.t 45))))])
 (.seq (.cond 47
 .skip
 (.exit 2))
 (.seq (.block 3 (.seq (.ops [(none, (.p (.idx 48 4 (.t 44) (.t 46)))),
 (none, (.v (.load 49 true 4 (.t 48)))),
 (none, (.e (.alloc 14 [(.int .i64 0), (.int .i64 0), (.bool false), (.raw (.slice none 0 0))]))),
 (none, (.e (.store 4 true (.t 14) (.t 49))))])
 (.seq (.ops [(none, (.v (.fld 50 0 (.t 14)))),
 (none, (.v (.load 51 false 1 (.t 50)))),
 (none, (.v (.fld 52 1 (.t 14)))),
 (none, (.v (.load 53 false 1 (.t 52)))),
 (none, (.v (.build 54 [(.int .i64 0), (.int .i64 0)] [(0, 1, (.t 51)), (1, 1, (.t 53))]))),
 (none, (.e (.alloc 15 [(.int .i64 0), (.int .i64 0)]))),
 (none, (.e (.store 2 true (.t 15) (.t 54))))])
 (.seq (.ops [(none, (.v (.fld 55 2 (.t 14)))),
 (none, (.v (.load 56 false 1 (.t 55))))])
 (.cond 56
 (.ops [(none, (.v (.mov 57 (.t 8)))),
 (none, (.v (.load 58 true 2 (.t 15)))),
 (none, (.e (.mdel none (.wide [.int .i64, .int .i64]) (.t 57) (.t 58))))])
 (.ops [(none, (.v (.mov 59 (.t 8)))),
 (none, (.v (.load 60 true 2 (.t 15)))),
 (none, (.v (.fld 61 0 (.t 14)))),
 (none, (.v (.load 62 false 1 (.t 61)))),
 (none, (.v (.fld 63 1 (.t 14)))),
 (none, (.v (.load 64 false 1 (.t 63)))),
 (none, (.v (.mov 65 (.t 9)))),
 (none, (.v (.bin 66 .add false (.t 65) (.c (.int .i64 1))))),
 (none, (.v (.fld 67 3 (.t 14)))),
 (none, (.v (.load 68 false 1 (.t 67)))),
 (none, (.v (.build 69 [(.int .i64 0), (.int .i64 0), (.int .i64 0), (.raw (.slice none 0 0))] [(0, 1, (.t 62)), (1, 1, (.t 64)), (2, 1, (.t 66)), (3, 1, (.t 68))]))),
 (none, (.e (.mput (.wide [.int .i64, .int .i64]) (.t 59) (.t 60) (.t 69))))]))))))
 (.ops [(none, (.v (.bin 70 .add false (.t 46) (.c (.int .i64 1))))),
 (none, (.v (.mov 46 (.t 70))))])))))))))))
 (.ops [(none, (.v (.bin 71 .add false (.t 27) (.c (.int .i64 1))))),
 (none, (.v (.mov 27 (.t 71))))])))))))
 (.seq (.ops [(none, (.v (.mov 72 (.t 8)))),
 (none, (.e (.call (some 73) 46 [(.t 72)]))),
 (none, (.e (.call (some 74) 45 [(.t 73), (.c (.fn (.func 31) [] []))]))),
 (none, (.v (.mov 6 (.t 74))))])
 .ret))))
theorem ok20 : FnOk E 20 75 [.tmp 6] mc20 := .of func20 (by kernel_rfl) (by kernel_rfl) (by kernel_rfl) (by kernel_rfl) (by kernel_rfl)
end Go.Proofs.Try
namespace Go.Proofs.Try
open Go.Al
set_option linter.unusedVariables false
set_option linter.unusedSimpArgs false
set_option maxRecDepth 20000
set_option maxHeartbeats 8000000

theorem setW_len {α : Type} (m : List ((Int × Int) × α)) (r : Int × Int) (v : α) : (setW m r v).length ≤ m.length + 1 := by
  have := congrArg List.length (keysW_set m r v)
  simp only [keysW, List.length_map] at this
  rw [this]
  by_cases h : r ∈ m.map (fun x => x.1) <;> simp [h]
theorem delW_len {α : Type} (m : List ((Int × Int) × α)) (r : Int × Int) : (delW m r).length ≤ m.length := by
  have := congrArg List.length (keysW_del m r)
  simp only [keysW, List.length_map] at this
  rw [this]
  exact Nat.le_trans List.length_erase_le (by simp)
theorem putM_len (s : Int) (m : List ((Int × Int) × Hd)) (w : Wr) : (putM s m w).length ≤ m.length + 1 := by
  unfold putM
  have := delW_len m (w.t, w.r)
  split
  · omega
  · exact setW_len _ _ _
theorem foldM_len (s : Int) : ∀ (ws : List Wr) (m : List ((Int × Int) × Hd)), (ws.foldl (putM s) m).length ≤ m.length + ws.length
  | [], m => by simp
  | w :: ws, m => by
    have h1 := foldM_len s ws (putM s m w)
    have h2 := putM_len s m w
    rw [List.foldl_cons]
    simp only [List.length_cons]
    omega
theorem stM_len {h : List Hap} (hr : rightB h = true) (order : List Int) : ∀ n, (stM h order n).length ≤ 64 * n
  | 0 => by simp [stM]
  | n + 1 => by
    have h1 := stM_len hr order n
    have h2 := foldM_len ((n : Int) + 1) (wsOf h (order.getD n 0)) (stM h order n)
    have h3 := wsOf_len hr (order.getD n 0)
    rw [stM]
    omega
theorem fit_putM {s : Int} {m : List ((Int × Int) × Hd)} {w : Wr} (hm : ∀ p ∈ m, fitP p.1) (hw : okW w = true) : ∀ p ∈ putM s m w, fitP p.1 := by
  unfold putM
  split
  · exact fit_delW hm
  · exact fit_setW hm (fit_w hw)
theorem row_av (w : Wr) (s : Int) : (w.row s).av = .agg [.int .i64 w.t, .int .i64 w.r, .int .i64 s, .view 3 (w.v.map VL.av)] := rfl
def clampN (n : Int) (k : Nat) : Nat := (max 0 (min n k)).toNat
theorem c20 (h : List Hap) (hr : rightB h = true) (order : List Int) (ho : order.length ≤ 10000) (n : Int) :
    ACalls E.P 20 [.view 5 (h.map Hap.av), .view 1 (order.map (AV.int .i64)), .int .i64 n] [] (fun r H => r = .view 4 ((stL h order (clampN n order.length)).map Hd.av) ∧ H = []) := by
  have hmax := maxLen_eq
  have h12 := c12 h
  have h400 := rightB_len hr
  have hk0 : (if (if (order.length : Int) < n then (order.length : Int) else n) > 0 then if (order.length : Int) < n then (order.length : Int) else n else 0) = (clampN n order.length : Nat) := by
    unfold clampN
    repeat' split
    all_goals omega
  have hk3 : clampN n order.length ≤ order.length := by unfold clampN; omega
  generalize clampN n order.length = k at *
  have hk4 : (order.map (AV.int .i64)).take k = (order.take k).map (AV.int .i64) := List.map_take.symm
  have hk5 : (order.take k).length = k := by rw [List.length_take]; omega
  refine ok20.acalls hE hm (by simp) fun N hN => ?_
  unfold mc20
  simp only [lA, ptrCells, ptrAdd, isNil, readsV, readsP, isCall, wrote, srcOf, seval]
  repeat' (first
   | (with_reducible apply St.o; constructor) <;> intro _
   | with_reducible first | refine LenR_i fun _ => ?_ | refine And.intro (by omega) ?_ | (apply Sp.o; constructor) | refine mkl_own ?_ | refine frz0_i ?_
   | ((with_reducible apply Sc.o false; constructor); simp only [lP, seval, renL_kM, renL_vI, List.length_map, hk0, Int.toNat_natCast, hk4, hk5]; refine ⟨_, h12, ?_⟩; rintro _ _ ⟨rfl, bs, c, rfl⟩; simp only [lA, lP, ptrCells, ptrAdd, isNil, readsV, readsP, isCall, wrote, srcOf, seval, renL_kM, renL_vI, List.length_map, hk0, Int.toNat_natCast, hk4, hk5])
   | simp (maxSteps := 1000000) (disch := omega) only [lE, ptrCells, ptrAdd, isNil, readsV, readsP, isCall, wrote, srcOf, seval, renL_kM, renL_vI, List.length_map, hk0, Int.toNat_natCast, hk4, hk5])
  refine loop_i (fun x : Nat × List Nat × Nat => x.1 ≤ k ∧ WfM (stM h order x.1).length x.2.1 x.2.2 ∧ ∀ p ∈ stM h order x.1, fitP p.1)
    (fun x => ⟨[(0, .view 5 (h.map Hap.av)), (7, .mp 0), (8, .mp 1), (25, .view 1 ((order.take k).map (AV.int .i64))), (26, .int .i64 k), (27, .int .i64 x.1)], [.map (kM (asksM h)) (vM (AV.int .i64) (asksM h)) bs c, .map (kW (stM h order x.1)) (vW Hd.av (stM h order x.1)) x.2.1 x.2.2]⟩) (fun x => k - x.1) (0, [], 0) ⟨by simp, ⟨rfl, .nil, by simp⟩, by simp [stM]⟩
    (Ent.to [0, 1] false (by simp) (by simp) rfl (by simp only [lP, seval, stM, kW, vW, List.map_nil, pa_kM, pa_vI, hk5] <;> (try simp) <;> (try omega)) (by simp only [lP, seval, stM, kW, vW, List.map_nil, pa_kM, pa_vI, hk5] <;> (try simp) <;> (try omega))) ?_
  rintro ⟨i, b2, c2⟩ ⟨hi, hw, hf⟩
  simp only at hi hw hf ⊢
  by_cases hil : i < k
  · have hlook := look_m (AV.int .i64) (.int .i64 0) (asksM h) (order.getD i 0)
    rw [asksM_all hr] at hlook
    have hg1 : (order.take k).getD i 0 = order.getD i 0 := by simp [hil]
    have hg2 : (order.take k).getD i default = order.getD i 0 := by simp [hil]
    have hst : stM h order (i + 1) = (wsOf h (order.getD i 0)).foldl (putM (i + 1)) (stM h order i) := rfl
    have hwo : ∀ w ∈ wsOf h (order.getD i 0), okW w = true := fun w hw => wsOf_ok hr hw
    generalize order.getD i 0 = tx at *
    cases hfi : h.findIdx? (isAsk tx) with
    | none =>
      rw [hfi] at hlook
      have hws : wsOf h tx = [] := by unfold wsOf; rw [hfi]
      rw [hws] at hst
      have hst2 : stM h order (i + 1) = stM h order i := hst
      repeat' (first
       | (with_reducible apply St.o; constructor) <;> intro _
       | with_reducible first | refine LenR_i fun _ => ?_ | refine And.intro (by omega) ?_ | (apply Sp.o; constructor) | refine mkl_own ?_ | refine frz0_i ?_
       | simp (maxSteps := 1000000) (disch := omega) only [lE, ptrCells, ptrAdd, isNil, readsV, readsP, isCall, wrote, srcOf, seval, IdxR_int, hg1, hg2, Int.toNat_natCast, List.length_map, hlook, Option.map_none])
      all_goals try (exfalso; omega)
      exact back_i (i + 1, b2, c2) ⟨by simp only; omega, by simp only [hst2]; exact hw, by simp only [hst2]; exact hf⟩ (by simp only; omega) (Ent.to [0, 1] false (by simp) (by simp) rfl (by simp only [lP, seval, hst2, pa_kM, pa_vI, pa_kW, pa_vH] <;> (try simp) <;> (try omega)) (by simp only [lP, seval, hst2, pa_kM, pa_vI, pa_kW, pa_vH] <;> (try simp) <;> (try omega)))
    | some k0 =>
      rw [hfi] at hlook
      obtain ⟨hk0l, _⟩ := List.findIdx?_eq_some_iff_getElem.1 hfi
      have hws : wsOf h tx = (h.getD k0 default).ws := by unfold wsOf; rw [hfi]
      rw [hws] at hst hwo
      generalize hx : h.getD k0 default = x at *
      have hwl : x.ws.length ≤ 64 := by have := wsOf_len hr tx; rwa [hws] at this
      repeat' (first
       | (with_reducible apply St.o; constructor) <;> intro _
       | with_reducible first | refine LenR_i fun _ => ?_ | refine And.intro (by omega) ?_ | (apply Sp.o; constructor) | refine mkl_own ?_ | refine frz0_i ?_
       | simp (maxSteps := 1000000) (disch := omega) only [lE, ptrCells, ptrAdd, isNil, readsV, readsP, isCall, wrote, srcOf, seval, IdxR_int, IdxR_haps, hx, hg1, hg2, Int.toNat_natCast, List.length_map, hlook, Option.map_some])
      all_goals try (exfalso; omega)
      generalize hws2 : x.ws = ws at *
      refine loop_i (fun y : Nat × List Nat × Nat => y.1 ≤ ws.length ∧ WfM ((ws.take y.1).foldl (putM (i + 1)) (stM h order i)).length y.2.1 y.2.2 ∧ ∀ p ∈ (ws.take y.1).foldl (putM (i + 1)) (stM h order i), fitP p.1)
        (fun y => ⟨[(0, .view 5 (h.map Hap.av)), (7, .mp 0), (8, .mp 1), (9, .int .i64 i), (25, .view 1 ((order.take k).map (AV.int .i64))), (26, .int .i64 k), (27, .int .i64 i), (44, .view 4 (ws.map Wr.av)), (45, .int .i64 ws.length), (46, .int .i64 y.1)], [.map (kM (asksM h)) (vM (AV.int .i64) (asksM h)) bs c, .map (kW ((ws.take y.1).foldl (putM (i + 1)) (stM h order i))) (vW Hd.av ((ws.take y.1).foldl (putM (i + 1)) (stM h order i))) y.2.1 y.2.2]⟩) (fun y => ws.length - y.1) (0, b2, c2) ⟨by simp, by simpa using hw, by simpa using hf⟩
        (Ent.to [0, 1] false (by simp) (by simp) rfl (by simp only [lP, seval, List.take_zero, List.foldl_nil, pa_kM, pa_vI, pa_kW, pa_vH, List.length_map, hws2] <;> (try simp) <;> (try omega)) (by simp only [lP, seval, List.take_zero, List.foldl_nil, pa_kM, pa_vI, pa_kW, pa_vH, List.length_map, hws2] <;> (try simp) <;> (try omega))) ?_
      rintro ⟨j, b3, c3⟩ ⟨hj, hw3, hf3⟩
      simp only at hj hw3 hf3 ⊢
      by_cases hjl : j < ws.length
      · have hnx : (ws.take (j + 1)).foldl (putM (i + 1)) (stM h order i) = putM (i + 1) ((ws.take j).foldl (putM (i + 1)) (stM h order i)) (ws.getD j default) := by
          rw [take_succD hjl, List.foldl_append]; rfl
        have hok := hwo _ (getD_mem hjl)
        have hfit := fit_w hok
        have hfn := fit_putM (s := (i : Int) + 1) hf3 hok
        obtain ⟨b4, c4, hput, hw4⟩ := wfW_put Hd.av hf3 hw3 hfit ((ws.getD j default).row ((i : Int) + 1))
        obtain ⟨b5, hdel, hw5⟩ := wfW_del Hd.av hf3 hw3 hfit
        generalize (ws.take j).foldl (putM (i + 1)) (stM h order i) = m at *
        generalize hm' : (ws.take (j + 1)).foldl (putM (i + 1)) (stM h order i) = m' at *
        generalize hw0 : ws.getD j default = w at *
        simp only [kp, row_av] at hput hdel
        by_cases hd : w.dead = true
        · have hnx2 : m' = delW m (w.t, w.r) := by rw [hnx, putM, if_pos hd]
          rw [← hnx2] at hdel hw5
          rw [← hnx] at hfn
          repeat' (first
           | (with_reducible apply St.o; constructor) <;> intro _
           | with_reducible first | refine LenR_i fun _ => ?_ | refine And.intro (by omega) ?_ | (apply Sp.o; constructor) | refine mkl_own ?_ | refine frz0_i ?_
           | simp (maxSteps := 1000000) (disch := omega) only [lE, ptrCells, ptrAdd, isNil, readsV, readsP, isCall, wrote, srcOf, seval, IdxR_wrs, hw0, hd, Int.toNat_natCast, List.length_map, fillE, List.length_cons, List.length_nil, hdel])
          all_goals try (exfalso; omega)
          exact back_i (j + 1, b5, c3) ⟨by simp only; omega, by simp only [hm']; exact hw5, by simp only [hm']; exact hfn⟩ (by simp only; omega) (Ent.to [0, 1] false (by simp) (by simp) rfl (by simp only [lP, seval, hm', pa_kM, pa_vI, pa_kW, pa_vH] <;> (try simp) <;> (try omega)) (by simp only [lP, seval, hm', pa_kM, pa_vI, pa_kW, pa_vH] <;> (try simp) <;> (try omega)))
        · have hd' : w.dead = false := by simpa using hd
          have hnx2 : m' = setW m (w.t, w.r) (w.row ((i : Int) + 1)) := by rw [hnx, putM, if_neg hd]
          rw [← hnx2] at hput hw4
          rw [← hnx] at hfn
          repeat' (first
           | (with_reducible apply St.o; constructor) <;> intro _
           | with_reducible first | refine LenR_i fun _ => ?_ | refine And.intro (by omega) ?_ | (apply Sp.o; constructor) | refine mkl_own ?_ | refine frz0_i ?_
           | simp (maxSteps := 1000000) (disch := omega) only [lE, ptrCells, ptrAdd, isNil, readsV, readsP, isCall, wrote, srcOf, seval, IdxR_wrs, hw0, hd', Int.toNat_natCast, List.length_map, fillE, List.length_cons, List.length_nil, hput])
          all_goals try (exfalso; omega)
          exact back_i (j + 1, b4, c4) ⟨by simp only; omega, by simp only [hm']; exact hw4, by simp only [hm']; exact hfn⟩ (by simp only; omega) (Ent.to [0, 1] false (by simp) (by simp) rfl (by simp only [lP, seval, hm', pa_kM, pa_vI, pa_kW, pa_vH] <;> (try simp) <;> (try omega)) (by simp only [lP, seval, hm', pa_kM, pa_vI, pa_kW, pa_vH] <;> (try simp) <;> (try omega)))
      · have hje : j = ws.length := by omega
        subst hje
        rw [List.take_length] at hw3 hf3 ⊢
        rw [← hst] at hw3 hf3 ⊢
        repeat' (first
         | (with_reducible apply St.o; constructor) <;> intro _
         | with_reducible first | refine LenR_i fun _ => ?_ | refine And.intro (by omega) ?_ | (apply Sp.o; constructor) | refine mkl_own ?_ | refine frz0_i ?_
         | simp (maxSteps := 1000000) (disch := omega) only [lE, ptrCells, ptrAdd, isNil, readsV, readsP, isCall, wrote, srcOf, seval, List.length_map, Int.lt_irrefl, decide_false])
        exact back_i (i + 1, b3, c3) ⟨by simp only; omega, hw3, hf3⟩ (by simp only; omega) (Ent.to [0, 1] false (by simp) (by simp) rfl (by simp only [lP, seval, pa_kM, pa_vI, pa_kW, pa_vH] <;> (try simp) <;> (try omega)) (by simp only [lP, seval, pa_kM, pa_vI, pa_kW, pa_vH] <;> (try simp) <;> (try omega)))
  · have hie : i = k := by omega
    subst hie
    have h46 := c46 (stM h order i) b2 c2
    have h45 := c45 (stM h order i) b2 c2 hw (by have := stM_len hr order i; omega)
    have hso := sameR h order i
    repeat' (first
     | (with_reducible apply St.o; constructor) <;> intro _
     | with_reducible first | refine LenR_i fun _ => ?_ | refine And.intro (by omega) ?_ | (apply Sp.o; constructor) | refine mkl_own ?_ | refine frz0_i ?_
     | simp (maxSteps := 1000000) (disch := omega) only [lE, ptrCells, ptrAdd, isNil, readsV, readsP, isCall, wrote, srcOf, seval, Int.lt_irrefl, decide_false])
    refine callN_i [1] false (by simp) (by simp) ?_
    simp only [lP, seval, pa_kW, pa_vH]
    refine ⟨_, h46, ?_⟩
    rintro _ _ ⟨rfl, rfl⟩
    unfold mapB at *
    simp only [lA, lP, ptrCells, ptrAdd, isNil, readsV, readsP, isCall, wrote, srcOf, seval, renL_kW, renL_vH]
    refine callN_i [1, 2] false (by simp) (by simp) ?_
    simp only [lP, seval, pa_kW, pa_vH]
    refine ⟨_, h45, ?_⟩
    rintro _ _ ⟨l, hp, hs, rfl, rfl⟩
    simp only [lA, lP, ptrCells, ptrAdd, isNil, readsV, readsP, isCall, wrote, srcOf, seval, renL_kW, renL_vH, renL_hds]
    rw [hso.sorted hp hs]
    exact keep_i [] true rfl (by simp) rfl ⟨by simp only [lP, seval], by simp only [lP, seval]⟩
end Go.Proofs.Try
