/-
  A part of the proof: see the text of the law.
-/
import Derived.Test.YtmmedfdilaijhaaGreatFaa
import Derived.Test.YtmmedfdilaijhaaGreatAlphaK
set_option linter.unusedSimpArgs false
set_option linter.unusedVariables false
namespace Go.Proofs.Try
open Go.Proofs.Tryz
open Go.Al
set_option maxRecDepth 100000
def mc112 : MC :=
(.seq (.ops [(none,.v (.mov 6 (.c (.raw (.slice none 0 0)))))])
(.seq (.ops [(none,.v (.mov 7 (.c (.raw (.slice none 0 0)))))])
(.seq (.seq (.ops [(none,.v (.mov 8 (.c (.int .i64 0))))])
(.block 0 (.loop (.seq (.seq (.ops [(none,.v (.mov 11 (.t 8))),
(none,.v (.mov 12 (.t 2))),
(none,.v (.bin 13 .lss false (.t 11) (.t 12))),
(none,.v (.mov 14 (.t 13))),
(some (14,true),.v (.mov 15 (.t 8))),
(some (14,true),.v (.mov 16 (.t 1))),
(some (14,true),.p (.len 17 (.t 16))),
(some (14,true),.v (.bin 18 .lss false (.t 15) (.t 17))),
(none,.v (.pick 19 (.t 14) (.t 18) (.c (.bool false))))])
(.cond 19
.skip
(.exit 0)))
(.seq (.block 1 (.seq (.ops [(none,.v (.mov 22 (.t 0))),
(none,.v (.mov 23 (.t 1))),
(none,.v (.mov 24 (.t 8))),
(none,.p (.idx 25 1 (.t 23) (.t 24))),
(none,.v (.load 26 false 1 (.t 25))),
(none,.e (.call (some 27) 65 [(.t 22),(.t 26)])),
(none,.v (.mov 9 (.t 27)))])
(.seq (.seq (.ops [(none,.v (.mov 28 (.t 9))),
(none,.v (.bin 29 .lss false (.t 28) (.c (.int .i64 0))))])
(.cond 29
(.exit 1)
.skip))
(.seq (.ops [(none,.v (.mov 10 (.c (.int .i64 0))))])
(.block 2 (.loop (.seq (.seq (.ops [(none,.v (.mov 30 (.t 10))),
(none,.v (.mov 31 (.t 0))),
(none,.v (.mov 32 (.t 9))),
(none,.p (.idx 33 5 (.t 31) (.t 32))),
(none,.v (.fld 34 3 (.t 33))),
(none,.v (.load 35 false 1 (.t 34))),
(none,.p (.len 36 (.t 35))),
(none,.v (.bin 37 .lss false (.t 30) (.t 36)))])
(.cond 37
.skip
(.exit 2)))
(.seq (.block 3 (.ops [(none,.v (.mov 40 (.t 7))),
(none,.v (.mov 41 (.t 0))),
(none,.v (.mov 42 (.t 9))),
(none,.p (.idx 43 5 (.t 41) (.t 42))),
(none,.v (.fld 44 3 (.t 43))),
(none,.v (.load 45 false 1 (.t 44))),
(none,.v (.mov 46 (.t 10))),
(none,.p (.idx 47 4 (.t 45) (.t 46))),
(none,.v (.load 48 true 4 (.t 47))),
(none,.v (.mov 49 (.t 8))),
(none,.v (.bin 50 .add false (.t 49) (.c (.int .i64 1)))),
(none,.e (.call (some 51) 118 [(.t 40),(.t 48),(.t 50)])),
(none,.v (.mov 7 (.t 51)))]))
(.ops [(none,.v (.mov 38 (.t 10))),
(none,.v (.bin 39 .add false (.t 38) (.c (.int .i64 1)))),
(none,.v (.mov 10 (.t 39)))])))))))))
(.ops [(none,.v (.mov 20 (.t 8))),
(none,.v (.bin 21 .add false (.t 20) (.c (.int .i64 1)))),
(none,.v (.mov 8 (.t 21)))]))))))
(.seq (.ops [(none,.v (.mov 52 (.t 7))),
(none,.v (.mov 6 (.t 52)))])
.ret))))
theorem ok112 : FnOk E 112 53 [.tmp 6] mc112 := .of func112 (by kernel_rfl) (by kernel_rfl) (by kernel_rfl) (by kernel_rfl) (by kernel_rfl)
end Go.Proofs.Try
namespace Go.Proofs.Try
open Go.Proofs.Tryz
open Go.Al
set_option linter.unusedVariables false
set_option linter.unusedSimpArgs false
set_option maxRecDepth 20000
set_option maxHeartbeats 8000000

theorem putL_len (s : Int) (l : List Hd) (w : Wr) (h : l.Pairwise Hd.before) : (putL s l w).length ≤ l.length + 1 := by
  unfold putL
  have : ∀ l : List Hd, (l.filter fun y => decide (y.before (w.row s))).length + (l.filter fun y => decide ((w.row s).before y)).length ≤ l.length := fun l => by
    induction l with
    | nil => simp
    | cons y l ih =>
      simp only [List.filter_cons,List.length_cons]
      by_cases h1 : y.before (w.row s)
      · have h2 := before_asymm h1
        simp only [h1,h2,decide_true,decide_false,if_true,Bool.false_eq_true,if_false,List.length_cons]
        omega
      · by_cases h2 : (w.row s).before y
        · simp only [h1,h2,decide_true,decide_false,if_true,Bool.false_eq_true,if_false,List.length_cons]
          omega
        · simp only [h1,h2,decide_true,decide_false,if_true,Bool.false_eq_true,if_false,List.length_cons]
          omega
  have h1 := this l
  simp only [List.length_append]
  split
  · simp only [List.length_nil]; omega
  · simp only [List.length_cons,List.length_nil]; omega
theorem foldL_asc (s : Int) : ∀ (ws : List Wr) (l : List Hd), l.Pairwise Hd.before → (ws.foldl (putL s) l).Pairwise Hd.before ∧ (ws.foldl (putL s) l).length ≤ l.length + ws.length
  | [], l, h => ⟨h, by simp⟩
  | w :: ws, l, h => by
    have h1 := putL_asc (s := s) (w := w) h
    have h2 := foldL_asc s ws (putL s l w) h1
    have h3 := putL_len s l w h
    rw [List.foldl_cons]
    refine ⟨h2.1, ?_⟩
    simp only [List.length_cons]
    omega
theorem stL_len {h : List Hap} (hr : rightB h = true) (order : List Int) : ∀ n, (stL h order n).length ≤ 64 * n
  | 0 => by simp [stL]
  | n + 1 => by
    have h1 := stL_len hr order n
    have h2 := (foldL_asc ((n : Int) + 1) (wsOf h (order.getD n 0)) (stL h order n) (sameR h order n).asc).2
    have h3 := wsOf_len hr (order.getD n 0)
    rw [stL]
    omega
theorem c112 (h : List Hap) (hr : rightB h = true) (order : List Int) (ho : order.length ≤ 10000) (n : Int) :
    ACalls E.P 112 [.view 5 (h.map Hap.av), .view 1 (order.map (AV.int .i64)), .int .i64 n] [] (fun r H => r = .view 4 ((stL h order (clampN n order.length)).map Hd.av) ∧ H = []) := by
  have hmax := maxLen_eq
  have h65 := c65 h
  have h118 := c118
  have hk3 : clampN n order.length ≤ order.length := by unfold clampN; omega
  have hk4 : ∀ i : Nat, i < clampN n order.length → (i : Int) < n ∧ i < order.length := fun i hi => by unfold clampN at hi; omega
  have hk5 : ¬ ((clampN n order.length : Int) < n ∧ clampN n order.length < order.length) := by unfold clampN; omega
  refine ok112.acalls hE hm (by simp) fun N hN => ?_
  unfold mc112
  simp only [lA,ptrCells,ptrAdd,isNil,readsV,readsP,isCall,wrote,srcOf,seval]
  generalize clampN n order.length = k at *
  refine loop_i (fun i : Nat => i ≤ k) (fun i => ⟨[(0, .view 5 (h.map Hap.av)), (1, .view 1 (order.map (AV.int .i64))), (2, .int .i64 n), (7, .view 4 ((stL h order i).map Hd.av)), (8, .int .i64 i)], []⟩) (fun i => k - i) 0 (by omega)
    ((Ent.weak (x := .raw (.slice none 0 0)) (y := .view 4 []) 7 rfl weak_nil).trans (Ent.to [] false (by simp) (by simp) rfl (by simp only [lP,seval,stL,List.map_nil] <;> (try simp) <;> (try omega)) (by simp only [lP,seval,stL,List.map_nil] <;> (try simp) <;> (try omega)))) ?_
  rintro i hi
  by_cases hil : i < k
  · obtain ⟨g1, g2⟩ := hk4 i hil
    have hst : stL h order (i + 1) = (wsOf h (order.getD i 0)).foldl (putL ((i : Int) + 1)) (stL h order i) := rfl
    have hg2 : order.getD i default = order.getD i 0 := rfl
    have hasc := (sameR h order i).asc
    have hlen := stL_len hr order i
    have h65t := h65 (order.getD i 0)
    have hwl := wsOf_len hr (order.getD i 0)
    generalize hg3 : order.getD i 0 = tx at *
    generalize stL h order i = S at *
    generalize hS' : stL h order (i + 1) = S' at *
    rcases asked_lt h tx with ⟨q1, q2⟩ | ⟨a, q1, q2, q3⟩
    · rw [q1] at h65t
      have hws : wsOf h tx = [] := by unfold wsOf; rw [q2]
      rw [hws] at hst
      have hst2 : S' = S := hst
      subst hst2
      repeat' (first | (with_reducible apply St.o; constructor) <;> intro _ | (with_reducible first | refine LenR_i fun _ => ?_ | refine And.intro (by omega) ?_ | (apply Sp.o; constructor) | refine mkl_own ?_ | refine frz0_i ?_) | ((with_reducible apply Sc.o true; constructor); simp only [lP,seval,IdxR_int,hg2,hg3,Int.toNat_natCast,List.length_map]; refine ⟨_,h65t,?_⟩; rintro _ _ ⟨rfl,rfl⟩; simp only [lA,lP,ptrCells,ptrAdd,isNil,readsV,readsP,isCall,wrote,srcOf,seval,IdxR_int,hg2,hg3,Int.toNat_natCast,List.length_map]) | simp (maxSteps := 1000000) (disch := omega) only [lE,ptrCells,ptrAdd,isNil,readsV,readsP,isCall,wrote,srcOf,seval,IdxR_int,hg2,hg3,Int.toNat_natCast,List.length_map])
      all_goals try (exfalso; omega)
      exact back_i (i + 1) (by omega) (by omega) (Ent.to [] false (by simp) (by simp) rfl (by simp only [lP,seval,hS'] <;> (try simp) <;> (try omega)) (by simp only [lP,seval,hS'] <;> (try simp) <;> (try omega)))
    · rw [q1] at h65t
      have hws : wsOf h tx = (h.getD a default).ws := by unfold wsOf; rw [q3]
      rw [hws] at hst hwl
      generalize hx : h.getD a default = x at *
      repeat' (first | (with_reducible apply St.o; constructor) <;> intro _ | (with_reducible first | refine LenR_i fun _ => ?_ | refine And.intro (by omega) ?_ | (apply Sp.o; constructor) | refine mkl_own ?_ | refine frz0_i ?_) | ((with_reducible apply Sc.o true; constructor); simp only [lP,seval,IdxR_int,hg2,hg3,Int.toNat_natCast,List.length_map]; refine ⟨_,h65t,?_⟩; rintro _ _ ⟨rfl,rfl⟩; simp only [lA,lP,ptrCells,ptrAdd,isNil,readsV,readsP,isCall,wrote,srcOf,seval,IdxR_int,hg2,hg3,Int.toNat_natCast,List.length_map]) | simp (maxSteps := 1000000) (disch := omega) only [lE,ptrCells,ptrAdd,isNil,readsV,readsP,isCall,wrote,srcOf,seval,IdxR_int,hg2,hg3,Int.toNat_natCast,List.length_map])
      all_goals try (exfalso; omega)
      refine loop_i (fun j : Nat => j ≤ x.ws.length) (fun j => ⟨[(0, .view 5 (h.map Hap.av)), (1, .view 1 (order.map (AV.int .i64))), (2, .int .i64 n), (7, .view 4 (((x.ws.take j).foldl (putL ((i : Int) + 1)) S).map Hd.av)), (8, .int .i64 i), (9, .int .i64 a), (10, .int .i64 j)], []⟩) (fun j => x.ws.length - j) 0 (by omega)
        (Ent.to [] false (by simp) (by simp) rfl (by simp only [lP,seval,List.take_zero,List.foldl_nil] <;> (try simp) <;> (try omega)) (by simp only [lP,seval,List.take_zero,List.foldl_nil] <;> (try simp) <;> (try omega))) ?_
      intro j hj
      by_cases hjl : j < x.ws.length
      · obtain ⟨u1, u2⟩ := foldL_asc ((i : Int) + 1) (x.ws.take j) S hasc
        rw [List.length_take] at u2
        have hnx : (x.ws.take (j + 1)).foldl (putL ((i : Int) + 1)) S = putL ((i : Int) + 1) ((x.ws.take j).foldl (putL ((i : Int) + 1)) S) (x.ws.getD j default) := by
          rw [take_succD hjl, List.foldl_append]; rfl
        have h118t := h118 ((x.ws.take j).foldl (putL ((i : Int) + 1)) S) u1 (by omega) (x.ws.getD j default) ((i : Int) + 1)
        rw [← hnx] at h118t
        simp only [wr_av] at h118t
        generalize hg : x.ws.getD j default = w at *
        generalize (x.ws.take j).foldl (putL ((i : Int) + 1)) S = M at *
        generalize hM' : (x.ws.take (j + 1)).foldl (putL ((i : Int) + 1)) S = M' at *
        repeat' (first | (with_reducible apply St.o; constructor) <;> intro _ | (with_reducible first | refine LenR_i fun _ => ?_ | refine And.intro (by omega) ?_ | (apply Sp.o; constructor) | refine mkl_own ?_ | refine frz0_i ?_) | ((with_reducible apply Sc.o false; constructor); simp only [lP,seval,IdxR_haps,IdxR_wrs,hx,hg,Int.toNat_natCast,List.length_map,renL_hds]; refine ⟨_,h118t,?_⟩; rintro _ _ ⟨rfl,rfl⟩; simp only [lA,lP,ptrCells,ptrAdd,isNil,readsV,readsP,isCall,wrote,srcOf,seval,IdxR_haps,IdxR_wrs,hx,hg,Int.toNat_natCast,List.length_map,renL_hds]) | simp (maxSteps := 1000000) (disch := omega) only [lE,ptrCells,ptrAdd,isNil,readsV,readsP,isCall,wrote,srcOf,seval,IdxR_haps,IdxR_wrs,hx,hg,Int.toNat_natCast,List.length_map,renL_hds])
        all_goals try (exfalso; omega)
        exact back_i (j + 1) (by omega) (by omega) (Ent.to [] false (by simp) (by simp) rfl (by simp only [lP,seval,hM'] <;> (try simp) <;> (try omega)) (by simp only [lP,seval,hM'] <;> (try simp) <;> (try omega)))
      · have hje : j = x.ws.length := by omega
        subst hje
        rw [List.take_length]
        rw [← hst]
        repeat' (first | (with_reducible apply St.o; constructor) <;> intro _ | (with_reducible first | refine LenR_i fun _ => ?_ | refine And.intro (by omega) ?_ | (apply Sp.o; constructor) | refine mkl_own ?_ | refine frz0_i ?_) | simp (maxSteps := 1000000) (disch := omega) only [lE,ptrCells,ptrAdd,isNil,readsV,readsP,isCall,wrote,srcOf,seval,IdxR_haps,hx,List.length_map,Int.toNat_natCast,Int.lt_irrefl,decide_false])
        all_goals try (exfalso; omega)
        exact back_i (i + 1) (by omega) (by omega) (Ent.to [] false (by simp) (by simp) rfl (by simp only [lP,seval,hS'] <;> (try simp) <;> (try omega)) (by simp only [lP,seval,hS'] <;> (try simp) <;> (try omega)))
  · have hie : i = k := by omega
    subst hie
    repeat' (first | (with_reducible apply St.o; constructor) <;> intro _ | (with_reducible first | refine LenR_i fun _ => ?_ | refine And.intro (by omega) ?_ | (apply Sp.o; constructor) | refine mkl_own ?_ | refine frz0_i ?_) | simp (maxSteps := 1000000) (disch := omega) only [lE,ptrCells,ptrAdd,isNil,readsV,readsP,isCall,wrote,srcOf,seval,List.length_map])
    all_goals try (exfalso; omega)
    all_goals exact keep_i [] false rfl (by simp) rfl ⟨by simp only [lP,seval],by simp only [lP,seval]⟩
end Go.Proofs.Try


namespace Go.Proofs.Try
open Go.Proofs.Tryz
open Go.Al
set_option maxRecDepth 100000
def mc95 : MC :=
(.seq (.ops [(none,.v (.mov 6 (.c (.bool false))))])
(.seq (.ops [(none,.v (.mov 10 (.t 1))),
(none,.v (.mov 7 (.t 10)))])
(.seq (.block 0 (.loop (.seq (.seq (.ops [(none,.v (.mov 11 (.t 7))),
(none,.v (.mov 12 (.t 0))),
(none,.p (.len 13 (.t 12))),
(none,.v (.bin 14 .lss false (.t 11) (.t 13))),
(none,.v (.mov 15 (.t 14))),
(some (15,true),.v (.mov 16 (.t 0))),
(some (15,true),.v (.mov 17 (.t 7))),
(some (15,true),.p (.idx 18 5 (.t 16) (.t 17))),
(some (15,true),.v (.fld 19 0 (.t 18))),
(some (15,true),.v (.load 20 false 1 (.t 19))),
(some (15,true),.v (.bin 21 .neq false (.t 20) (.c (.int .i64 5)))),
(none,.v (.pick 22 (.t 15) (.t 21) (.c (.bool false))))])
(.cond 22
.skip
(.exit 0)))
(.block 1 (.ops [(none,.v (.mov 23 (.t 7))),
(none,.v (.bin 24 .add false (.t 23) (.c (.int .i64 1)))),
(none,.v (.mov 7 (.t 24)))])))))
(.seq (.seq (.ops [(none,.v (.mov 25 (.t 7))),
(none,.v (.mov 26 (.t 0))),
(none,.p (.len 27 (.t 26))),
(none,.v (.bin 28 .eql false (.t 25) (.t 27)))])
(.cond 28
(.seq (.ops [(none,.v (.mov 6 (.c (.bool false))))])
.ret)
.skip))
(.seq (.ops [(none,.v (.mov 29 (.t 0))),
(none,.v (.mov 30 (.t 1))),
(none,.p (.pre 31 5 (.t 29) (some (.t 30)))),
(none,.e (.call (some 32) 110 [(.t 31)])),
(none,.v (.mov 8 (.t 32)))])
(.seq (.seq (.ops [(none,.v (.mov 9 (.c (.int .i64 0))))])
(.block 2 (.loop (.seq (.seq (.ops [(none,.v (.mov 33 (.t 9))),
(none,.v (.mov 34 (.t 8))),
(none,.p (.len 35 (.t 34))),
(none,.v (.bin 36 .lss false (.t 33) (.t 35)))])
(.cond 36
.skip
(.exit 2)))
(.seq (.block 3 (.seq (.any false (.pure0 none (.v (.mov 39 (.t 2)))
(.pure0 none (.v (.mov 40 (.t 8)))
(.pure0 none (.v (.mov 41 (.t 9)))
(.pure0 none (.p (.idx 42 1 (.t 40) (.t 41)))
(.pure0 none (.v (.load 43 false 1 (.t 42)))
(.pure0 none (.v (.mov 45 (.t 0)))
(.pure0 none (.v (.mov 46 (.t 7)))
(.pure0 none (.p (.idx 47 5 (.t 45) (.t 46)))
(.pure0 none (.v (.fld 48 2 (.t 47)))
(.pure0 none (.v (.load 49 false 1 (.t 48)))
(.alt none (.e (.call (some 44) 59 [(.t 39),(.t 43)]))
(.base (.pure0 none (.v (.bin 50 .gtr false (.t 44) (.t 49)))
.done))
.stop))))))))))))
(.cond 50
(.seq (.ops [(none,.v (.mov 6 (.c (.bool true))))])
.ret)
.skip)))
(.ops [(none,.v (.mov 37 (.t 9))),
(none,.v (.bin 38 .add false (.t 37) (.c (.int .i64 1)))),
(none,.v (.mov 9 (.t 38)))]))))))
(.seq (.ops [(none,.v (.mov 6 (.c (.bool false))))])
.ret)))))))
theorem ok95 : FnOk E 95 51 [.tmp 6] mc95 := .of func95 (by kernel_rfl) (by kernel_rfl) (by kernel_rfl) (by kernel_rfl) (by kernel_rfl)
def mc110 : MC :=
(.seq (.ops [(none,.v (.mov 2 (.c (.raw (.slice none 0 0)))))])
(.seq (.ops [(none,.v (.mov 3 (.c (.raw (.slice none 0 0)))))])
(.seq (.seq (.ops [(none,.v (.mov 4 (.c (.int .i64 0))))])
(.block 0 (.loop (.seq (.seq (.ops [(none,.v (.mov 6 (.t 4))),
(none,.v (.mov 7 (.t 0))),
(none,.p (.len 8 (.t 7))),
(none,.v (.bin 9 .lss false (.t 6) (.t 8)))])
(.cond 9
.skip
(.exit 0)))
(.seq (.block 1 (.seq (.seq (.ops [(none,.v (.mov 12 (.t 0))),
(none,.v (.mov 13 (.t 4))),
(none,.p (.idx 14 5 (.t 12) (.t 13))),
(none,.v (.fld 15 0 (.t 14))),
(none,.v (.load 16 false 1 (.t 15))),
(none,.v (.bin 17 .neq false (.t 16) (.c (.int .i64 1))))])
(.cond 17
(.exit 1)
.skip))
(.seq (.ops [(none,.v (.mov 18 (.t 0))),
(none,.v (.mov 19 (.t 0))),
(none,.v (.mov 20 (.t 4))),
(none,.p (.idx 21 5 (.t 19) (.t 20))),
(none,.v (.fld 22 1 (.t 21))),
(none,.v (.load 23 false 1 (.t 22))),
(none,.e (.call (some 24) 64 [(.t 18),(.t 23)])),
(none,.v (.mov 5 (.t 24)))])
(.seq (.ops [(none,.v (.mov 25 (.t 5)))])
(.cond 25
(.ops [(none,.v (.mov 26 (.t 3))),
(none,.v (.mov 27 (.t 0))),
(none,.v (.mov 28 (.t 4))),
(none,.p (.idx 29 5 (.t 27) (.t 28))),
(none,.v (.fld 30 1 (.t 29))),
(none,.v (.load 31 false 1 (.t 30))),
(none,.e (.mkl 32 3 1 1 (.int .i64 0) [(0,(.t 31))])),
(none,.e (.app 33 3 1 8 (.t 26) (.t 32))),
(none,.v (.mov 3 (.t 33)))])
.skip)))))
(.ops [(none,.v (.mov 10 (.t 4))),
(none,.v (.bin 11 .add false (.t 10) (.c (.int .i64 1)))),
(none,.v (.mov 4 (.t 11)))]))))))
(.seq (.ops [(none,.v (.mov 34 (.t 3))),
(none,.v (.mov 2 (.t 34)))])
.ret))))
theorem ok110 : FnOk E 110 35 [.tmp 2] mc110 := .of func110 (by kernel_rfl) (by kernel_rfl) (by kernel_rfl) (by kernel_rfl) (by kernel_rfl)
end Go.Proofs.Try
namespace Go.Proofs.Try
open Go.Proofs.Tryz
open Go.Al
set_option linter.unusedVariables false
set_option linter.unusedSimpArgs false
set_option maxRecDepth 20000
set_option maxHeartbeats 8000000

theorem mem_openL {h : List Hap} (hr : rightB h = true) (t : Int) : ∀ i, i ≤ h.length → (t ∈ openL (h.take i) ↔ isOpen (h.take i) t = true)
  | 0, _ => by simp [openL, isOpen]
  | i + 1, hi => by
    have hil : i < h.length := by omega
    have ih := mem_openL hr t i (by omega)
    have hev := right_at hr hil
    rw [openL_next hil, take_succD hil, isOpen_snoc]
    generalize h.take i = hp at *
    generalize h.getD i default = x at *
    rw [eventOk_eq, Bool.and_eq_true] at hev
    have hna : ¬ 0 ≤ asked hp t → ¬ isOpen hp t = true := fun h1 h2 => h1 (open_asked h2)
    unfold openStep
    by_cases h1 : x.k = 1
    · have h2 := hev.2
      simp only [evB,h1,if_true,Bool.and_eq_true,decide_eq_true_eq] at h2
      have hc : closes t x = false := by simp [closes, h1]
      rw [if_pos h1, List.mem_append, List.mem_singleton, ih, hc, Bool.not_false, Bool.and_true]
      split
      · rename_i ha
        have : t ≠ x.tx := fun e => by rw [e] at ha; omega
        simp [this]
      · rename_i ha
        have := hna ha
        simp only [this,false_or,isAsk,h1,decide_true,Bool.true_and,decide_eq_true_eq,Bool.false_eq_true]
        exact eq_comm
    · have hask : isAsk t x = false := by simp [isAsk, h1]
      rw [if_neg h1, hask]
      by_cases h4 : x.k = 4
      · have hc : closes t x = true := by simp [closes, h4]
        rw [if_pos h4, hc]
        simp
      · rw [if_neg h4]
        by_cases h23 : x.k = 2 ∨ x.k = 3
        · have hc : closes t x = decide (x.tx = t) := by rcases h23 with h | h <;> simp [closes, h]
          rw [if_pos h23, hc, List.mem_filter, ih]
          by_cases ha : 0 ≤ asked hp t
          · rw [if_pos ha]
            simp only [Bool.not_eq_true',decide_eq_false_iff_not,Bool.and_eq_true]
            constructor
            · rintro ⟨q1, q2⟩; exact ⟨q1, fun e => q2 e.symm⟩
            · rintro ⟨q1, q2⟩; exact ⟨q1, fun e => q2 e.symm⟩
          · have := hna ha
            rw [if_neg ha]
            simp [this]
        · have hc : closes t x = false := by
            simp only [closes,Bool.or_eq_false_iff,decide_eq_false_iff_not,Bool.and_eq_false_iff]
            exact ⟨h4, .inl (by omega)⟩
          rw [if_neg h23, ih, hc, Bool.not_false, Bool.and_true]
          by_cases ha : 0 ≤ asked hp t
          · rw [if_pos ha]
          · have := hna ha
            rw [if_neg ha]
            simp [this]
def openQ (h g : List Hap) : List Int := (g.filter fun x => decide (x.k = 1) && isOpen h x.tx).map (·.tx)
def openR (h : List Hap) : List Int := openQ h h
theorem openQ_next {h g : List Hap} {i : Nat} (hi : i < g.length) : openQ h (g.take (i + 1)) = openQ h (g.take i) ++ if (decide ((g.getD i default).k = 1) && isOpen h (g.getD i default).tx) = true then [(g.getD i default).tx] else [] := by
  rw [take_succD hi]
  unfold openQ
  rw [List.filter_append, List.map_append]
  congr 1
  simp only [List.filter_cons,List.filter_nil]
  split <;> rfl
theorem mem_openR (h : List Hap) (t : Int) : t ∈ openR h ↔ isOpen h t = true := by
  unfold openR openQ
  rw [List.mem_map]
  constructor
  · rintro ⟨x, hx, rfl⟩
    have := (List.mem_filter.1 hx).2
    rw [Bool.and_eq_true] at this
    exact this.2
  · intro ho
    have ha := open_asked ho
    rcases asked_lt h t with ⟨q, _⟩ | ⟨i, _, hi, hf⟩
    · omega
    · obtain ⟨h1, h2, _⟩ := List.findIdx?_eq_some_iff_getElem.1 hf
      simp only [isAsk,Bool.and_eq_true,decide_eq_true_eq] at h2
      refine ⟨h[i], List.mem_filter.2 ⟨List.getElem_mem h1, ?_⟩, h2.2⟩
      rw [h2.2, ho, h2.1]
      rfl
theorem any_openR {h : List Hap} (hr : rightB h = true) (p : Int → Bool) : (openR h).any p = (openL h).any p := by
  have hm : ∀ t, t ∈ openL h ↔ t ∈ openR h := fun t => by
    rw [mem_openR]
    have := mem_openL hr t h.length (Nat.le_refl _)
    rwa [List.take_length] at this
  rw [Bool.eq_iff_iff, List.any_eq_true, List.any_eq_true]
  constructor
  · rintro ⟨x, h1, h2⟩; exact ⟨x, (hm x).2 h1, h2⟩
  · rintro ⟨x, h1, h2⟩; exact ⟨x, (hm x).1 h1, h2⟩
theorem c110 (h : List Hap) (h410 : h.length ≤ 1000000) : ACalls E.P 110 [.view 5 (h.map Hap.av)] [] (fun r H => r = .view 1 ((openR h).map (AV.int .i64)) ∧ H = []) := by
  have hmax := maxLen_eq
  have h64 := c64 h
  have hmapt : ∀ (l : List Int) (t : Int), l.map (AV.int .i64) ++ [.int .i64 t] = (l ++ [t]).map (AV.int .i64) := fun l t => by simp
  refine ok110.acalls hE hm (by simp) fun N hN => ?_
  unfold mc110
  simp only [lA,ptrCells,ptrAdd,isNil,readsV,readsP,isCall,wrote,srcOf,seval]
  refine loop_i (fun i : Nat => i ≤ h.length) (fun i => ⟨[(0, .view 5 (h.map Hap.av)), (3, .slc 0 1 (openQ h (h.take i)).length), (4, .int .i64 i)], [.arr 3 1 ((openQ h (h.take i)).map (AV.int .i64))]⟩) (fun i => h.length - i) 0 (by omega)
    (Ent.ghost' 3 3 1 (by omega) rfl (Ent.to [0] false (by simp) (by simp) rfl (by simp only [lP,seval,List.take_zero,openQ,List.filter_nil,List.map_nil,List.length_nil] <;> (try simp) <;> (try omega)) (by simp only [lP,seval,List.take_zero,openQ,List.filter_nil,List.map_nil,List.length_nil] <;> (try simp) <;> (try omega)))) ?_
  rintro i hi
  by_cases hil : i < h.length
  · have hnx := openQ_next (h := h) hil
    have hOl : (openQ h (h.take i)).length ≤ i := by
      unfold openQ
      rw [List.length_map]
      have := List.length_filter_le (fun x : Hap => decide (x.k = 1) && isOpen h x.tx) (h.take i)
      rw [List.length_take] at this
      omega
    have h64t := h64 (h.getD i default).tx
    generalize hO : openQ h (h.take i) = O at *
    generalize hO' : openQ h (h.take (i + 1)) = O' at *
    generalize hx : h.getD i default = x at *
    have hll : (O.map (AV.int .i64)).length = O.length := by simp
    by_cases hk : x.k = 1
    · by_cases hop : isOpen h x.tx = true
      · rw [hop] at h64t
        rw [decide_eq_true hk, hop, Bool.and_self, if_pos rfl] at hnx
        have hl' : O'.length = O.length + 1 := by rw [hnx]; simp
        repeat' (first | (with_reducible apply St.o; constructor) <;> intro _ | (with_reducible first | refine LenR_i fun _ => ?_ | refine And.intro (by omega) ?_ | (apply Sp.o; constructor) | refine mkl_own ?_ | refine frz0_i ?_) | ((with_reducible apply Sc.o true; constructor); simp only [lP,seval,IdxR_haps,hx,hk,hll,hmapt,Int.toNat_natCast,List.length_map,fillE]; refine ⟨_,h64t,?_⟩; rintro _ _ ⟨rfl,rfl⟩; simp only [lA,lP,ptrCells,ptrAdd,isNil,readsV,readsP,isCall,wrote,srcOf,seval,IdxR_haps,hx,hk,hll,hmapt,Int.toNat_natCast,List.length_map,fillE]) | simp (maxSteps := 1000000) (disch := omega) only [lE,ptrCells,ptrAdd,isNil,readsV,readsP,isCall,wrote,srcOf,seval,IdxR_haps,hx,hk,hll,hmapt,Int.toNat_natCast,List.length_map,fillE])
        all_goals try (exfalso; omega)
        all_goals exact back_i (i + 1) (by omega) (by omega) (Ent.to [2] false (by simp) (by simp) rfl (by simp only [lP,seval,hO',hl',hnx,pa_ints] <;> (try simp) <;> (try omega)) (by simp only [lP,seval,hO',hl',hnx,pa_ints] <;> (try simp) <;> (try omega)))
      · replace hop : isOpen h x.tx = false := by simpa using hop
        rw [hop] at h64t
        rw [hop, Bool.and_false, if_neg (by simp), List.append_nil] at hnx
        repeat' (first | (with_reducible apply St.o; constructor) <;> intro _ | (with_reducible first | refine LenR_i fun _ => ?_ | refine And.intro (by omega) ?_ | (apply Sp.o; constructor) | refine mkl_own ?_ | refine frz0_i ?_) | ((with_reducible apply Sc.o true; constructor); simp only [lP,seval,IdxR_haps,hx,hk,hll,Int.toNat_natCast,List.length_map,fillE]; refine ⟨_,h64t,?_⟩; rintro _ _ ⟨rfl,rfl⟩; simp only [lA,lP,ptrCells,ptrAdd,isNil,readsV,readsP,isCall,wrote,srcOf,seval,IdxR_haps,hx,hk,hll,Int.toNat_natCast,List.length_map,fillE]) | simp (maxSteps := 1000000) (disch := omega) only [lE,ptrCells,ptrAdd,isNil,readsV,readsP,isCall,wrote,srcOf,seval,IdxR_haps,hx,hk,hll,Int.toNat_natCast,List.length_map,fillE])
        all_goals try (exfalso; omega)
        all_goals exact back_i (i + 1) (by omega) (by omega) (Ent.to [0] false (by simp) (by simp) rfl (by simp only [lP,seval,hO',hnx,pa_ints] <;> (try simp) <;> (try omega)) (by simp only [lP,seval,hO',hnx,pa_ints] <;> (try simp) <;> (try omega)))
    · rw [decide_eq_false hk, Bool.false_and, if_neg (by simp), List.append_nil] at hnx
      repeat' (first | (with_reducible apply St.o; constructor) <;> intro _ | (with_reducible first | refine LenR_i fun _ => ?_ | refine And.intro (by omega) ?_ | (apply Sp.o; constructor) | refine mkl_own ?_ | refine frz0_i ?_) | simp (maxSteps := 1000000) (disch := omega) only [lE,ptrCells,ptrAdd,isNil,readsV,readsP,isCall,wrote,srcOf,seval,IdxR_haps,hx,hk,hll,Int.toNat_natCast,List.length_map,fillE])
      all_goals try (exfalso; omega)
      all_goals exact back_i (i + 1) (by omega) (by omega) (Ent.to [0] false (by simp) (by simp) rfl (by simp only [lP,seval,hO',hnx,pa_ints] <;> (try simp) <;> (try omega)) (by simp only [lP,seval,hO',hnx,pa_ints] <;> (try simp) <;> (try omega)))
  · have hie : i = h.length := by omega
    subst hie
    rw [List.take_length]
    show R E.P 0 N _ _ _ _ _
    repeat' (first | (with_reducible apply St.o; constructor) <;> intro _ | (with_reducible first | refine LenR_i fun _ => ?_ | refine And.intro (by omega) ?_ | (apply Sp.o; constructor) | refine mkl_own ?_ | refine frz0_i ?_) | simp (maxSteps := 1000000) (disch := omega) only [lE,ptrCells,ptrAdd,isNil,readsV,readsP,isCall,wrote,srcOf,seval,List.length_map,Int.lt_irrefl,decide_false])
    exact keep_i [] true rfl (by simp) rfl ⟨by simp only [lP,seval,List.length_map]; rfl,by simp only [lP,seval]⟩
theorem plc_place {l : List Int} {t : Int} (h : t ≠ 0) : plc l t = placeH l t := by
  unfold plc placeH
  rw [if_neg h]
  cases l.findIdx? (fun u => decide (u = t)) <;> rfl
theorem open_nz {h : List Hap} (hr : rightB h = true) {t : Int} (ho : isOpen h t = true) : t ≠ 0 := by
  rintro rfl
  have h1 := open_asked ho
  rcases asked_lt h 0 with ⟨q, _⟩ | ⟨n, q, _, q3⟩
  · omega
  · rw [no_zero hr] at q3; cases q3
theorem c95 (h : List Hap) (hr : rightB h = true) (order : List Int) (ho : order.length ≤ 10000) (i : Nat) (hi : i ≤ h.length) :
    ACalls E.P 95 [.view 5 (h.map Hap.av), .int .i64 i, .view 1 (order.map (AV.int .i64))] [] (fun r H => r = .bool ((openL (h.take i)).any fun t => decide (nextS (h.drop i) < placeH order t)) ∧ H = []) := by
  have hmax := maxLen_eq
  have h4 := rightB_len hr
  have hrt := right_take hr i
  have h110 := c110 (h.take i) (by rw [List.length_take]; omega)
  have h59 := fun t => c59 order t (by omega)
  have hvt : (h.map Hap.av).take i = (h.take i).map Hap.av := List.map_take.symm
  have hany : ∀ p, (openR (h.take i)).any p = (openL (h.take i)).any p := any_openR hrt
  have hnz : ∀ t ∈ openR (h.take i), t ≠ 0 := fun t ht => open_nz hrt ((mem_openR _ _).1 ht)
  have hgoal : ((openL (h.take i)).any fun t => decide (nextS (h.drop i) < placeH order t)) = ((openR (h.take i)).any fun t => decide (nextS (h.drop i) < plc order t)) := by
    rw [← hany, Bool.eq_iff_iff, List.any_eq_true, List.any_eq_true]
    constructor
    · rintro ⟨t, h1, h2⟩
      exact ⟨t, h1, by rw [plc_place (hnz t h1)]; exact h2⟩
    · rintro ⟨t, h1, h2⟩
      exact ⟨t, h1, by rw [← plc_place (hnz t h1)]; exact h2⟩
  rw [hgoal]
  clear hgoal hany hnz
  generalize openR (h.take i) = L at *
  refine ok95.acalls hE hm (by simp) fun N hN => ?_
  unfold mc95
  simp only [lA,ptrCells,ptrAdd,isNil,readsV,readsP,isCall,wrote,srcOf,seval]
  refine loop_i (fun j : Nat => i ≤ j ∧ j ≤ h.length ∧ ∀ x ∈ (h.drop i).take (j - i),decide (x.k = 5) = false) (fun j => ⟨[(0, .view 5 (h.map Hap.av)),(1, .int .i64 i),(2, .view 1 (order.map (AV.int .i64))),(7, .int .i64 j)], []⟩) (fun j => h.length - j) i ⟨by omega,hi,by simp⟩ (Ent.to [] false (by simp) (by simp) rfl (by simp only [lP,seval] <;> (try simp) <;> (try omega)) (by simp only [lP,seval] <;> (try simp) <;> (try omega))) ?_
  rintro j ⟨hij, hj, hn⟩
  have hdl : (h.drop i).length = h.length - i := List.length_drop
  by_cases hjl : j < h.length
  · have hgd : (h.drop i).getD (j - i) default = h.getD j default := by
      rw [List.getD_eq_getElem?_getD, List.getElem?_drop, List.getD_eq_getElem?_getD]
      congr 2
      omega
    by_cases hk : (h.getD j default).k = 5
    · have hnext : nextS (h.drop i) = (h.getD j default).st := by
        unfold nextS
        rw [find_at (p := fun x : Hap => decide (x.k = 5)) (i := j - i) (by omega) (by rw [hgd]; exact decide_eq_true hk) hn]
        rw [hgd]
      rw [hnext]
      generalize hx : h.getD j default = x at *
      repeat' (first | (with_reducible apply St.o; constructor) <;> intro _ | (with_reducible first | refine LenR_i fun _ => ?_ | refine And.intro (by omega) ?_ | (apply Sp.o; constructor) | refine mkl_own ?_ | refine frz0_i ?_) | ((with_reducible apply Sc.o false; constructor); simp only [lP,seval,IdxR_haps,hx,hk,hvt,Int.toNat_natCast,List.length_map]; refine ⟨_,h110,?_⟩; rintro _ _ ⟨rfl,rfl⟩; simp only [lA,lP,ptrCells,ptrAdd,isNil,readsV,readsP,isCall,wrote,srcOf,seval,IdxR_haps,hx,hk,hvt,Int.toNat_natCast,List.length_map]) | simp (maxSteps := 1000000) (disch := omega) only [lE,ptrCells,ptrAdd,isNil,readsV,readsP,isCall,wrote,srcOf,seval,IdxR_haps,hx,hk,hvt,Int.toNat_natCast,List.length_map])
      all_goals try (exfalso; omega)
      refine loop_i (fun m : Nat => m ≤ L.length ∧ ∀ t ∈ L.take m,decide (x.st < plc order t) = false) (fun m => ⟨[(0, .view 5 (h.map Hap.av)),(2, .view 1 (order.map (AV.int .i64))),(7, .int .i64 j),(8, .view 1 (L.map (AV.int .i64))),(9, .int .i64 m)], []⟩) (fun m => L.length - m) 0 ⟨by omega,by simp⟩ (Ent.to [] false (by simp) (by simp) rfl (by simp only [lP,seval] <;> (try simp) <;> (try omega)) (by simp only [lP,seval] <;> (try simp) <;> (try omega))) ?_
      rintro m ⟨hm1, hm2⟩
      by_cases hml : m < L.length
      · have hg2 : L.getD m default = L.getD m 0 := rfl
        have hyes : x.st < plc order (L.getD m 0) → (L.any fun t => decide (x.st < plc order t)) = true := fun q => List.any_eq_true.2 ⟨_, getD_mem hml, decide_eq_true q⟩
        have hno : ¬ x.st < plc order (L.getD m 0) → ∀ t ∈ L.take (m + 1), decide (x.st < plc order t) = false := fun q => all_step hml hm2 (decide_eq_false q)
        have h59t := h59 (L.getD m 0)
        generalize hg3 : L.getD m 0 = t at *
        repeat' (first | (with_reducible apply St.o; constructor) <;> intro _ | (with_reducible first | refine LenR_i fun _ => ?_ | refine And.intro (by omega) ?_ | (apply Sp.o; constructor) | refine mkl_own ?_ | refine frz0_i ?_ | refine any_i [] ?_) | ((with_reducible apply Sc.o true; constructor); simp only [lP,seval,IdxR_haps,IdxR_int,hx,hg2,hg3,Int.toNat_natCast,List.length_map]; refine ⟨_,h59t,?_⟩; rintro _ _ ⟨rfl,rfl⟩; simp only [lA,lP,ptrCells,ptrAdd,isNil,readsV,readsP,isCall,wrote,srcOf,seval,IdxR_haps,IdxR_int,hx,hg2,hg3,Int.toNat_natCast,List.length_map]) | simp (maxSteps := 1000000) (disch := omega) only [lE,ptrCells,ptrAdd,isNil,readsV,readsP,isCall,wrote,srcOf,seval,IdxR_haps,IdxR_int,hx,hg2,hg3,Int.toNat_natCast,List.length_map])
        all_goals try (exfalso; omega)
        · rename_i q
          exact keep_b (hyes q).symm
        · rename_i q
          exact back_i (m + 1) ⟨by omega,hno q⟩ (by omega) (Ent.to [] false (by simp) (by simp) rfl (by simp only [lP,seval] <;> (try simp) <;> (try omega)) (by simp only [lP,seval] <;> (try simp) <;> (try omega)))
      · have hme : m = L.length := by omega
        subst hme
        rw [List.take_length] at hm2
        have hf : (L.any fun t => decide (x.st < plc order t)) = false := List.any_eq_false.2 fun t ht => by rw [hm2 t ht]; simp
        repeat' (first | (with_reducible apply St.o; constructor) <;> intro _ | (with_reducible first | refine LenR_i fun _ => ?_ | refine And.intro (by omega) ?_ | (apply Sp.o; constructor) | refine mkl_own ?_ | refine frz0_i ?_) | simp (maxSteps := 1000000) (disch := omega) only [lE,ptrCells,ptrAdd,isNil,readsV,readsP,isCall,wrote,srcOf,seval,List.length_map,Int.lt_irrefl,decide_false])
        exact keep_b hf.symm
    · have hno : ∀ x ∈ (h.drop i).take (j + 1 - i), decide (x.k = 5) = false := by
        rw [show j + 1 - i = (j - i) + 1 by omega]
        exact all_step (p := fun x : Hap => decide (x.k = 5) = false) (by omega) hn (by rw [hgd]; exact decide_eq_false hk)
      generalize hx : h.getD j default = x at *
      repeat' (first | (with_reducible apply St.o; constructor) <;> intro _ | (with_reducible first | refine LenR_i fun _ => ?_ | refine And.intro (by omega) ?_ | (apply Sp.o; constructor) | refine mkl_own ?_ | refine frz0_i ?_) | simp (maxSteps := 1000000) (disch := omega) only [lE,ptrCells,ptrAdd,isNil,readsV,readsP,isCall,wrote,srcOf,seval,IdxR_haps,hx,hk,Int.toNat_natCast,List.length_map])
      all_goals try (exfalso; omega)
      exact back_i (j + 1) ⟨by omega,by omega,hno⟩ (by omega) (Ent.to [] false (by simp) (by simp) rfl (by simp only [lP,seval] <;> (try simp) <;> (try omega)) (by simp only [lP,seval] <;> (try simp) <;> (try omega)))
  · have hje : j = h.length := by omega
    subst hje
    rw [List.take_of_length_le (by omega)] at hn
    have hnext : nextS (h.drop i) = 1073741825 := by
      unfold nextS
      rw [List.find?_eq_none.2 fun x hx => by simpa using hn x hx]
    have hf : (L.any fun t => decide (nextS (h.drop i) < plc order t)) = false := by
      rw [hnext, List.any_eq_false]
      intro t _
      have : plc order t ≤ order.length := by
        unfold plc
        cases hf : order.findIdx? (fun u => decide (u = t)) with
        | none => simp only; omega
        | some a =>
          obtain ⟨h1, _⟩ := List.findIdx?_eq_some_iff_getElem.1 hf
          simp only
          omega
      simp only [decide_eq_true_eq]
      omega
    repeat' (first | (with_reducible apply St.o; constructor) <;> intro _ | (with_reducible first | refine LenR_i fun _ => ?_ | refine And.intro (by omega) ?_ | (apply Sp.o; constructor) | refine mkl_own ?_ | refine frz0_i ?_) | simp (maxSteps := 1000000) (disch := omega) only [lE,ptrCells,ptrAdd,isNil,readsV,readsP,isCall,wrote,srcOf,seval,List.length_map,Int.lt_irrefl,decide_false])
    all_goals try (exfalso; omega)
    exact keep_b hf.symm
end Go.Proofs.Try


namespace Go.Proofs.Try
open Go.Proofs.Tryz
open Go.Al
set_option maxRecDepth 100000
def mc96 : MC :=
(.seq (.ops [(none,.v (.mov 6 (.c (.bool false))))])
(.seq (.ops [(none,.v (.mov 9 (.t 0))),
(none,.v (.mov 10 (.t 1))),
(none,.p (.idx 11 5 (.t 9) (.t 10))),
(none,.v (.load 12 true 5 (.t 11))),
(none,.e (.alloc 7 [(.int .i64 0),(.int .i64 0),(.int .i64 0),(.raw (.slice none 0 0)),(.raw (.slice none 0 0))])),
(none,.e (.store 5 true (.t 7) (.t 12)))])
(.seq (.seq (.any false (.pure0 none (.v (.fld 13 2 (.t 7)))
(.pure0 none (.v (.load 14 false 1 (.t 13)))
(.pure0 none (.v (.mov 15 (.t 2)))
(.pure0 none (.p (.len 16 (.t 15)))
(.pure0 none (.v (.bin 17 .gtr false (.t 14) (.t 16)))
(.pure0 none (.v (.mov 18 (.t 17)))
(.pure0 (some (18,false)) (.v (.fld 19 2 (.t 7)))
(.pure0 (some (18,false)) (.v (.load 20 false 1 (.t 19)))
(.pure0 (some (18,false)) (.v (.mov 21 (.t 0)))
(.pure0 (some (18,false)) (.v (.mov 22 (.t 1)))
(.pure0 (some (18,false)) (.p (.pre 23 5 (.t 21) (some (.t 22))))
(.alt (some (18,false)) (.e (.call (some 24) 68 [(.t 23)]))
(.base (.pure0 (some (18,false)) (.v (.bin 25 .lss false (.t 20) (.t 24)))
(.pure0 none (.v (.pick 26 (.t 18) (.c (.bool true)) (.t 25)))
.done)))
.stop)))))))))))))
(.cond 26
(.seq (.ops [(none,.v (.mov 6 (.c (.bool true))))])
.ret)
.skip))
(.seq (.seq (.ops [(none,.v (.mov 8 (.c (.int .i64 0))))])
(.block 0 (.loop (.seq (.seq (.ops [(none,.v (.mov 27 (.t 8))),
(none,.v (.fld 28 2 (.t 7))),
(none,.v (.load 29 false 1 (.t 28))),
(none,.v (.bin 30 .lss false (.t 27) (.t 29)))])
(.cond 30
.skip
(.exit 0)))
(.seq (.block 1 (.seq (.any false (.pure0 none (.v (.mov 33 (.t 2)))
(.pure0 none (.v (.mov 34 (.t 8)))
(.pure0 none (.p (.idx 35 1 (.t 33) (.t 34)))
(.pure0 none (.v (.load 36 false 1 (.t 35)))
(.pure0 none (.v (.bin 37 .neq false (.t 36) (.c (.int .i64 0))))
(.pure0 none (.v (.mov 38 (.t 37)))
(.pure0 (some (38,true)) (.v (.mov 39 (.t 0)))
(.pure0 (some (38,true)) (.v (.mov 40 (.t 1)))
(.pure0 (some (38,true)) (.p (.pre 41 5 (.t 39) (some (.t 40))))
(.pure0 (some (38,true)) (.v (.mov 42 (.t 2)))
(.pure0 (some (38,true)) (.v (.mov 43 (.t 8)))
(.pure0 (some (38,true)) (.p (.idx 44 1 (.t 42) (.t 43)))
(.pure0 (some (38,true)) (.v (.load 45 false 1 (.t 44)))
(.alt (some (38,true)) (.e (.call (some 46) 65 [(.t 41),(.t 45)]))
(.base (.pure0 (some (38,true)) (.v (.bin 47 .lss false (.t 46) (.c (.int .i64 0))))
(.pure0 none (.v (.pick 48 (.t 38) (.t 47) (.c (.bool false))))
.done)))
.stop)))))))))))))))
(.cond 48
(.seq (.ops [(none,.v (.mov 6 (.c (.bool true))))])
.ret)
.skip)))
(.ops [(none,.v (.mov 31 (.t 8))),
(none,.v (.bin 32 .add false (.t 31) (.c (.int .i64 1)))),
(none,.v (.mov 8 (.t 32)))]))))))
(.seq (.any false (.pure0 none (.v (.fld 49 4 (.t 7)))
(.pure0 none (.v (.load 50 false 1 (.t 49)))
(.pure0 none (.v (.mov 51 (.t 0)))
(.pure0 none (.v (.mov 52 (.t 2)))
(.pure0 none (.v (.fld 53 2 (.t 7)))
(.pure0 none (.v (.load 54 false 1 (.t 53)))
(.alt none (.e (.call (some 55) 112 [(.t 51),(.t 52),(.t 54)]))
(.base (.alt none (.e (.call (some 56) 111 [(.t 50),(.t 55)]))
(.base (.pure0 none (.v (.not 57 (.t 56)))
(.pure0 none (.v (.mov 6 (.t 57)))
.done)))
.stop))
.stop))))))))
.ret)))))
theorem ok96 : FnOk E 96 58 [.tmp 6] mc96 := .of func96 (by kernel_rfl) (by kernel_rfl) (by kernel_rfl) (by kernel_rfl) (by kernel_rfl)
end Go.Proofs.Try
namespace Go.Proofs.Try
open Go.Proofs.Tryz
open Go.Al
set_option linter.unusedVariables false
set_option linter.unusedSimpArgs false
set_option maxRecDepth 20000
set_option maxHeartbeats 8000000

theorem late_asked {h : List Hap} {i : Nat} (hi : i < h.length) (hk : (h.getD i default).k ≠ 1) (t : Int) : (match h.findIdx? (isAsk t) with | none => true | some k => decide ((i : Int) < (k : Int))) = decide (asked (h.take i) t < 0) := by
  rcases asked_lt (h.take i) t with ⟨q1, q2⟩ | ⟨n, q1, q2, q3⟩
  · rw [q1]
    cases hf : h.findIdx? (isAsk t) with
    | none => rfl
    | some k =>
      obtain ⟨h1, h2, _⟩ := List.findIdx?_eq_some_iff_getElem.1 hf
      have hki : ¬ k < i := fun hlt => by rw [findIdx_take hf hlt] at q2; cases q2
      have hne : k ≠ i := fun e => by
        subst e
        have hg : h.getD k default = h[k] := by rw [List.getD_eq_getElem?_getD, List.getElem?_eq_getElem h1, Option.getD_some]
        simp only [isAsk,Bool.and_eq_true,decide_eq_true_eq] at h2
        exact hk (by rw [hg]; exact h2.1)
      simp only
      rw [decide_eq_true (by omega)]
      rfl
  · obtain ⟨h1, h2⟩ := findIdx_of_take q3
    rw [h1, q1]
    simp only
    rw [decide_eq_false (by omega), decide_eq_false (by omega)]
theorem badAt5 {h : List Hap} {order : List Int} {i : Nat} (hk : (h.getD i default).k = 5) : badAt h order i = (decide ((order.length : Int) < (h.getD i default).st) || decide ((h.getD i default).st < latest (h.take i)) || (order.take (h.getD i default).st.toNat).any (lateH h i) || !decide ((h.getD i default).rs = stL h order (h.getD i default).st.toNat)) := by
  unfold badAt
  simp only
  rw [if_neg (by omega), if_neg (by omega), if_neg (by omega), if_neg (by omega), if_pos hk]
theorem c96 (h : List Hap) (hr : rightB h = true) (order : List Int) (ho : order.length ≤ 10000) (i : Nat) (hi : i < h.length) (hk : (h.getD i default).k = 5) :
    ACalls E.P 96 [.view 5 (h.map Hap.av), .int .i64 i, .view 1 (order.map (AV.int .i64))] [] (fun r H => r = .bool (badAt h order i) ∧ H = []) := by
  have hmax := maxLen_eq
  have h4 := rightB_len hr
  have hev := right_at hr hi
  rw [eventOk_eq, Bool.and_eq_true] at hev
  have h68 := c68 (h.take i)
  have h65 := fun t => c65 (h.take i) t
  have hvt : (h.map Hap.av).take i = (h.take i).map Hap.av := List.map_take.symm
  have hbad := badAt5 (order := order) hk
  have hlate := fun t => late_asked hi (show (h.getD i default).k ≠ 1 by omega) t
  have h112 := c112 h hr order ho (h.getD i default).st
  have hq := hev.2
  simp only [evB,hk,show ¬ (5 : Int) = 1 by decide,show ¬ (5 : Int) = 2 by decide,show ¬ (5 : Int) = 3 by decide,if_false,if_true,Bool.and_eq_true,decide_eq_true_eq] at hq
  obtain ⟨q1, q2, _⟩ := hq
  clear hev
  rw [hbad]
  clear hbad
  have hlt : ∀ t, lateH h i t = (!decide (t = 0) && decide (asked (h.take i) t < 0)) := fun t => by rw [← hlate]; rfl
  generalize latest (h.take i) = last at *
  generalize hx : h.getD i default = x at *
  refine ok96.acalls hE hm (by simp) fun N hN => ?_
  unfold mc96
  simp only [lA,ptrCells,ptrAdd,isNil,readsV,readsP,isCall,wrote,srcOf,seval]
  by_cases hA : (order.length : Int) < x.st
  · repeat' (first | (with_reducible apply St.o; constructor) <;> intro _ | (with_reducible first | refine LenR_i fun _ => ?_ | refine And.intro (by omega) ?_ | (apply Sp.o; constructor) | refine mkl_own ?_ | refine frz0_i ?_ | refine any_i [] ?_) | simp (maxSteps := 1000000) (disch := omega) only [lE,ptrCells,ptrAdd,isNil,readsV,readsP,isCall,wrote,srcOf,seval,IdxR_haps,hx,hA,decide_true,Int.toNat_natCast,List.length_map,fillE])
    all_goals try (exfalso; omega)
    all_goals exact keep_b (by simp [hA])
  · by_cases hB : x.st < last
    · repeat' (first | (with_reducible apply St.o; constructor) <;> intro _ | (with_reducible first | refine LenR_i fun _ => ?_ | refine And.intro (by omega) ?_ | (apply Sp.o; constructor) | refine mkl_own ?_ | refine frz0_i ?_ | refine any_i [] ?_) | ((with_reducible apply Sc.o true; constructor); simp only [lP,seval,IdxR_haps,hx,hA,hB,hvt,decide_true,decide_false,Int.toNat_natCast,List.length_map,fillE]; refine ⟨_,h68,?_⟩; rintro _ _ ⟨rfl,rfl⟩; simp only [lA,lP,ptrCells,ptrAdd,isNil,readsV,readsP,isCall,wrote,srcOf,seval,IdxR_haps,hx,hA,hB,hvt,decide_true,decide_false,Int.toNat_natCast,List.length_map,fillE]) | simp (maxSteps := 1000000) (disch := omega) only [lE,ptrCells,ptrAdd,isNil,readsV,readsP,isCall,wrote,srcOf,seval,IdxR_haps,hx,hA,hB,hvt,decide_true,decide_false,Int.toNat_natCast,List.length_map,fillE])
      all_goals try (exfalso; omega)
      all_goals exact keep_b (by simp [hA, hB])
    · have hcl : clampN x.st order.length = x.st.toNat := by unfold clampN; omega
      rw [hcl] at h112
      obtain ⟨s, hs⟩ : ∃ s : Nat, x.st = s := ⟨x.st.toNat, by omega⟩
      have hsn : x.st.toNat = s := by omega
      rw [hsn] at *
      rw [hs] at h112
      have h111 := c111 x.rs (stL h order s)
      repeat' (first | (with_reducible apply St.o; constructor) <;> intro _ | (with_reducible first | refine LenR_i fun _ => ?_ | refine And.intro (by omega) ?_ | (apply Sp.o; constructor) | refine mkl_own ?_ | refine frz0_i ?_ | refine any_i [] ?_) | ((with_reducible apply Sc.o true; constructor); simp only [lP,seval,IdxR_haps,hx,hA,hB,hvt,decide_true,decide_false,Int.toNat_natCast,List.length_map,fillE]; refine ⟨_,h68,?_⟩; rintro _ _ ⟨rfl,rfl⟩; simp only [lA,lP,ptrCells,ptrAdd,isNil,readsV,readsP,isCall,wrote,srcOf,seval,IdxR_haps,hx,hA,hB,hvt,decide_true,decide_false,Int.toNat_natCast,List.length_map,fillE]) | simp (maxSteps := 1000000) (disch := omega) only [lE,ptrCells,ptrAdd,isNil,readsV,readsP,isCall,wrote,srcOf,seval,IdxR_haps,hx,hA,hB,hvt,decide_true,decide_false,Int.toNat_natCast,List.length_map,fillE])
      all_goals try (exfalso; omega)
      refine loop_i (fun j : Nat => j ≤ s ∧ ∀ t ∈ order.take j,lateH h i t = false) (fun j => ⟨[(0, .view 5 (h.map Hap.av)),(1, .int .i64 i),(2, .view 1 (order.map (AV.int .i64))),(7, .op 0 0),(8, .int .i64 j)], [.box x.cs]⟩) (fun j => s - j) 0 ⟨by omega,by simp⟩ (Ent.to [0] false (by simp) (by simp) rfl (by simp only [lP,seval,pa_wrs,pa_hds] <;> (try simp) <;> (try omega)) (by simp only [lP,seval,pa_wrs,pa_hds] <;> (try simp) <;> (try omega))) ?_
      rintro j ⟨hj, hn⟩
      by_cases hjl : j < s
      · have hjo : j < order.length := by omega
        have hyes : lateH h i (order.getD j 0) = true → (order.take s).any (lateH h i) = true := fun q => List.any_eq_true.2 ⟨_, by
          have e : (order.take s).getD j 0 = order.getD j 0 := take_getD hjl
          rw [← e]
          exact getD_mem (by rw [List.length_take]; omega), q⟩
        have hno : lateH h i (order.getD j 0) = false → ∀ t ∈ order.take (j + 1), lateH h i t = false := fun q => all_step hjo hn q
        have hg2 : order.getD j default = order.getD j 0 := rfl
        have h65t := h65 (order.getD j 0)
        rw [hlt] at hyes hno
        generalize hg3 : order.getD j 0 = t at *
        generalize asked (h.take i) t = a at *
        repeat' (first | (with_reducible apply St.o; constructor) <;> intro _ | (with_reducible first | refine LenR_i fun _ => ?_ | refine And.intro (by omega) ?_ | (apply Sp.o; constructor) | refine mkl_own ?_ | refine frz0_i ?_ | refine any_i [] ?_) | ((with_reducible apply Sc.o true; constructor); simp only [lP,seval,IdxR_haps,IdxR_int,hx,hs,hg2,hg3,hvt,Int.toNat_natCast,List.length_map]; refine ⟨_,h65t,?_⟩; rintro _ _ ⟨rfl,rfl⟩; simp only [lA,lP,ptrCells,ptrAdd,isNil,readsV,readsP,isCall,wrote,srcOf,seval,IdxR_haps,IdxR_int,hx,hs,hg2,hg3,hvt,Int.toNat_natCast,List.length_map]) | simp (maxSteps := 1000000) (disch := omega) only [lE,ptrCells,ptrAdd,isNil,readsV,readsP,isCall,wrote,srcOf,seval,IdxR_haps,IdxR_int,hx,hs,hg2,hg3,hvt,Int.toNat_natCast,List.length_map])
        all_goals try (exfalso; omega)
        all_goals first
          | exact keep_b (by rw [hyes (by simp [*])]; simp)
          | exact back_i (j + 1) ⟨by omega,hno (by simp [*])⟩ (by omega) (Ent.to [0] false (by simp) (by simp) rfl (by simp only [lP,seval,pa_wrs,pa_hds] <;> (try simp) <;> (try omega)) (by simp only [lP,seval,pa_wrs,pa_hds] <;> (try simp) <;> (try omega)))
      · have hje : j = s := by omega
        subst hje
        have hf : (order.take j).any (lateH h i) = false := List.any_eq_false.2 fun t ht => by rw [hn t ht]; simp
        repeat' (first | (with_reducible apply St.o; constructor) <;> intro _ | (with_reducible first | refine LenR_i fun _ => ?_ | refine And.intro (by omega) ?_ | (apply Sp.o; constructor) | refine mkl_own ?_ | refine frz0_i ?_ | refine any_i [] ?_) | ((with_reducible apply Sc.o true; constructor); simp only [lP,seval,hs,renL_hds,List.length_map,Int.lt_irrefl,decide_false]; refine ⟨_,h111,?_⟩; rintro _ _ ⟨rfl,rfl⟩; simp only [lA,lP,ptrCells,ptrAdd,isNil,readsV,readsP,isCall,wrote,srcOf,seval,hs,renL_hds,List.length_map,Int.lt_irrefl,decide_false]) | ((with_reducible apply Sc.o false; constructor); simp only [lP,seval,hs,renL_hds,List.length_map,Int.lt_irrefl,decide_false]; refine ⟨_,h112,?_⟩; rintro _ _ ⟨rfl,rfl⟩; simp only [lA,lP,ptrCells,ptrAdd,isNil,readsV,readsP,isCall,wrote,srcOf,seval,hs,renL_hds,List.length_map,Int.lt_irrefl,decide_false]) | simp (maxSteps := 1000000) (disch := omega) only [lE,ptrCells,ptrAdd,isNil,readsV,readsP,isCall,wrote,srcOf,seval,hs,renL_hds,List.length_map,Int.lt_irrefl,decide_false])
        all_goals try (exfalso; omega)
        all_goals exact keep_b (by rw [hf]; simp)
end Go.Proofs.Try

