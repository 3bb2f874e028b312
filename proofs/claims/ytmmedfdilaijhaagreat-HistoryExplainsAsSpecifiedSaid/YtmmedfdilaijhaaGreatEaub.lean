/-
  A part of the proof: see the text of the law.
-/
import Derived.Test.YtmmedfdilaijhaaGreatEaua
set_option linter.unusedSimpArgs false
set_option linter.unusedVariables false
namespace Go.Proofs.Try
open Go.Proofs.Tryz
open Go.Al
set_option maxRecDepth 100000
def mc18 : MC :=
(.seq (.ops [(none,.v (.mov 2 (.c (.raw (.map none))))),
(none,.v (.mov 3 (.c (.raw (.map none)))))])
(.seq (.ops [(none,.e (.mkmap 13)),
(none,.e (.mkmap 14)),
(none,.v (.mov 4 (.t 13))),
(none,.v (.mov 5 (.t 14))),
(none,.v (.mov 6 (.c (.int .i64 0))))])
(.seq (.seq (.ops [(none,.v (.mov 15 (.t 0))),
(none,.p (.len 16 (.t 15))),
(none,.v (.mov 17 (.c (.int .i64 0))))])
(.block 0 (.loop (.seq (.ops [(none,.v (.bin 18 .lss false (.t 17) (.t 16)))])
(.seq (.cond 18
.skip
(.exit 0))
(.seq (.block 1 (.seq (.ops [(none,.v (.mov 19 (.t 17))),
(none,.p (.idx 20 5 (.t 15) (.t 17))),
(none,.v (.load 21 true 5 (.t 20))),
(none,.e (.alloc 8 [(.int .i64 0),(.int .i64 0),(.int .i64 0),(.raw (.slice none 0 0)),(.raw (.slice none 0 0))])),
(none,.v (.mov 7 (.t 19))),
(none,.e (.store 5 true (.t 8) (.t 21)))])
(.seq (.ops [(none,.v (.fld 22 0 (.t 8))),
(none,.v (.load 23 false 1 (.t 22)))])
(.block 2 (.seq (.ops [(none,.v (.bin 25 .eql false (.t 23) (.c (.int .i64 1)))),
(none,.v (.mov 24 (.t 25)))])
(.cond 24
(.ops [(none,.v (.mov 26 (.t 4))),
(none,.v (.fld 27 1 (.t 8))),
(none,.v (.load 28 false 1 (.t 27))),
(none,.v (.mov 29 (.t 6))),
(none,.v (.build 30 [(.int .i64 0),(.int .i64 0)] [(0,1,(.t 29)),(1,1,(.c (.int .i64 1073741825)))])),
(none,.e (.mput (.int .i64) (.t 26) (.t 28) (.t 30)))])
(.seq (.ops [(none,.v (.bin 32 .eql false (.t 23) (.c (.int .i64 2)))),
(none,.v (.mov 31 (.t 32)))])
(.cond 31
(.seq (.ops [(none,.v (.mov 33 (.t 5))),
(none,.v (.fld 34 2 (.t 8))),
(none,.v (.load 35 false 1 (.t 34))),
(none,.v (.fld 36 1 (.t 8))),
(none,.v (.load 37 false 1 (.t 36))),
(none,.e (.mput (.int .i64) (.t 33) (.t 35) (.t 37)))])
(.seq (.ops [(none,.v (.mov 38 (.t 6))),
(none,.v (.fld 39 2 (.t 8))),
(none,.v (.load 40 false 1 (.t 39))),
(none,.v (.max 41 [(.t 38),(.t 40)])),
(none,.v (.mov 6 (.t 41)))])
(.ops [(none,.v (.mov 42 (.t 4))),
(none,.v (.fld 43 1 (.t 8))),
(none,.v (.load 44 false 1 (.t 43))),
(none,.e (.mdel none (.int .i64) (.t 42) (.t 44)))])))
(.seq (.ops [(none,.v (.bin 46 .eql false (.t 23) (.c (.int .i64 3)))),
(none,.v (.mov 45 (.t 46)))])
(.cond 45
(.ops [(none,.v (.mov 47 (.t 4))),
(none,.v (.fld 48 1 (.t 8))),
(none,.v (.load 49 false 1 (.t 48))),
(none,.e (.mdel none (.int .i64) (.t 47) (.t 49)))])
(.seq (.ops [(none,.v (.bin 51 .eql false (.t 23) (.c (.int .i64 4)))),
(none,.v (.mov 50 (.t 51)))])
(.cond 50
(.seq (.ops [(none,.v (.mov 52 (.t 0))),
(none,.v (.mov 53 (.t 7))),
(none,.p (.pre 54 5 (.t 52) (some (.t 53)))),
(none,.e (.call (some 55) 35 [(.t 54)])),
(none,.p (.len 56 (.t 55))),
(none,.v (.mov 57 (.c (.int .i64 0))))])
(.block 3 (.loop (.seq (.ops [(none,.v (.bin 58 .lss false (.t 57) (.t 56)))])
(.seq (.cond 58
.skip
(.exit 3))
(.seq (.block 4 (.seq (.ops [(none,.p (.idx 59 1 (.t 55) (.t 57))),
(none,.v (.load 60 false 1 (.t 59))),
(none,.v (.mov 10 (.t 60)))])
(.seq (.ops [(none,.v (.mov 62 (.t 4))),
(none,.v (.mov 63 (.t 10))),
(none,.p (.look 64 true (.int .i64) (.agg [(.int .i64 0),(.int .i64 0)]) (.t 62) (.t 63))),
(none,.v (.mov 61 (.t 64))),
(none,.v (.ext 65 0 (.t 61))),
(none,.v (.ext 66 1 (.t 61))),
(none,.e (.alloc 11 [(.int .i64 0),(.int .i64 0)])),
(none,.e (.store 2 true (.t 11) (.t 65))),
(none,.v (.mov 12 (.t 66)))])
(.seq (.ops [(none,.v (.mov 67 (.t 12)))])
(.cond 67
(.any true (.pure0 none (.v (.mov 68 (.t 4)))
(.pure0 none (.v (.mov 69 (.t 10)))
(.pure0 none (.v (.fld 70 0 (.t 11)))
(.pure0 none (.v (.load 71 false 1 (.t 70)))
(.pure0 none (.v (.fld 72 1 (.t 11)))
(.pure0 none (.v (.load 73 false 1 (.t 72)))
(.pure0 none (.v (.mov 74 (.t 0)))
(.pure0 none (.v (.mov 75 (.t 7)))
(.alt none (.e (.call (some 76) 33 [(.t 74),(.t 75)]))
(.pure1 none (.v (.min 77 [(.t 73),(.t 76)]))
(.pure1 none (.v (.build 78 [(.int .i64 0),(.int .i64 0)] [(0,1,(.t 71)),(1,1,(.t 77))]))
(.alt none (.e (.mput (.int .i64) (.t 68) (.t 69) (.t 78)))
.done
.stop)))
.stop))))))))))
.skip)))))
(.ops [(none,.v (.bin 79 .add false (.t 57) (.c (.int .i64 1)))),
(none,.v (.mov 57 (.t 79)))])))))))
(.seq (.ops [(none,.v (.bin 81 .eql false (.t 23) (.c (.int .i64 5)))),
(none,.v (.mov 80 (.t 81)))])
(.cond 80
(.ops [(none,.v (.mov 82 (.t 6))),
(none,.v (.fld 83 2 (.t 8))),
(none,.v (.load 84 false 1 (.t 83))),
(none,.v (.max 85 [(.t 82),(.t 84)])),
(none,.v (.mov 6 (.t 85)))])
.skip))))))))))))))
(.ops [(none,.v (.bin 86 .add false (.t 17) (.c (.int .i64 1)))),
(none,.v (.mov 17 (.t 86)))])))))))
(.seq (.ops [(none,.v (.mov 87 (.t 4))),
(none,.v (.mov 88 (.t 5))),
(none,.v (.mov 2 (.t 87))),
(none,.v (.mov 3 (.t 88)))])
.ret))))
theorem ok18 : FnOk E 18 89 [.tmp 2, .tmp 3] mc18 := .of func18 (by kernel_rfl) (by kernel_rfl) (by kernel_rfl) (by kernel_rfl) (by kernel_rfl)
end Go.Proofs.Try
namespace Go.Proofs.Try
open Go.Proofs.Tryz
open Go.Al
set_option linter.unusedVariables false
set_option linter.unusedSimpArgs false
set_option maxRecDepth 20000
set_option maxHeartbeats 8000000

def cutSp (n : Int) (m : List (Int × (Int × Int))) (tx : Int) : List (Int × (Int × Int)) := match getM m tx with | some s => setM m tx (s.1, min s.2 n) | none => m
def spStep (h : List Hap) (i : Nat) (x : Hap) (y : List (Int × (Int × Int)) × List (Int × Int) × Int) : List (Int × (Int × Int)) × List (Int × Int) × Int :=
  if x.k = 1 then (setM y.1 x.tx (y.2.2, 1073741825), y.2.1, y.2.2)
  else if x.k = 2 then (delM y.1 x.tx, setM y.2.1 x.st x.tx, max y.2.2 x.st)
  else if x.k = 3 then (delM y.1 x.tx, y.2.1, y.2.2)
  else if x.k = 4 then ((openL (h.take i)).foldl (cutSp (nextS (h.drop i))) y.1, y.2.1, y.2.2)
  else if x.k = 5 then (y.1, y.2.1, max y.2.2 x.st) else y
def spansN (h : List Hap) : Nat → List (Int × (Int × Int)) × List (Int × Int) × Int
  | 0 => ([], [], 0)
  | i + 1 => spStep h i (h.getD i default) (spansN h i)
theorem wf_del {α : Type} (f : α → AV) {m : List (Int × α)} {bs : List Nat} {c : Nat} (hw : WfM m.length bs c) (r : Int) : ∃ (bs' : List Nat), delK (.int .i64) (kM m) (vM f m) bs c (.int .i64 r) = some (.map (kM (delM m r)) (vM f (delM m r)) bs' c) ∧ WfM (delM m r).length bs' c := by
  unfold delK kM vM
  rcases find_m (r := r) m 0 with ⟨h1, h2, _, h4⟩ | ⟨j, p, h1, h2, h3, h4, _, h6⟩
  · refine ⟨bs, ?_, by rw [h4]; exact hw⟩
    rw [h4]
    simp [keyIs, keysOk, h1]
  · obtain ⟨hj, _⟩ := List.getElem?_eq_some_iff.1 h2
    refine ⟨bs.eraseIdx j, ?_, ?_, ?_, fun b hb => hw.lt b (List.eraseIdx_subset hb)⟩
    · rw [h6]
      rw [map_erase, map_erase]
      simp [keyIs, keysOk, h1]
    · rw [h6, List.length_eraseIdx, List.length_eraseIdx, hw.len]
    · exact hw.nodup.sublist (List.eraseIdx_sublist _ _)
theorem pa_vP {H : List AObj} {l : List Nat} {bor : Bool} {n : Nat} (m : List (Int × (Int × Int))) : (vM kp m).map (pa H l bor (n + 2)) = vM kp m := by
  unfold vM
  rw [List.map_map]
  exact List.map_congr_left fun p _ => by simp [kp, pa_agg, pa_int]
theorem renL_vP {ρ : Nat → Nat} (m : List (Int × (Int × Int))) : renL ρ (vM kp m) = vM kp m := by
  have e : vM kp m = (m.map (·.2)).map kp := by unfold vM; rw [List.map_map]; rfl
  rw [e]
  exact renL_map (fun n => by simp [kp, ren, renL]) _
theorem c18 (h : List Hap) (h410 : h.length ≤ 1000000) : ACalls E.P 18 [.view 5 (h.map Hap.av)] [] (fun r H => r = .tup [.mp 0, .mp 1] ∧ ∃ bs c bs2 c2, WfM (spansN h h.length).1.length bs c ∧ H = [.map (kM (spansN h h.length).1) (vM kp (spansN h h.length).1) bs c, .map (kM (spansN h h.length).2.1) (vM (AV.int .i64) (spansN h h.length).2.1) bs2 c2]) := by
  have hmax := maxLen_eq
  refine ok18.acalls hE hm (by simp) fun N hN => ?_
  unfold mc18
  simp only [lA,ptrCells,ptrAdd,isNil,readsV,readsP,isCall,wrote,srcOf,seval]
  refine LenR_i fun hl => ?_
  simp only [lA,ptrCells,ptrAdd,isNil,readsV,readsP,isCall,wrote,srcOf,seval,List.length_map]
  refine loop_i (fun p : Nat × List Nat × Nat × List Nat × Nat => p.1 ≤ h.length ∧ WfM (spansN h p.1).1.length p.2.1 p.2.2.1)
    (fun p => ⟨[(0, .view 5 (h.map Hap.av)), (4, .mp 0), (5, .mp 1), (6, .int .i64 (spansN h p.1).2.2), (15, .view 5 (h.map Hap.av)), (16, .int .i64 h.length), (17, .int .i64 p.1)], [.map (kM (spansN h p.1).1) (vM kp (spansN h p.1).1) p.2.1 p.2.2.1, .map (kM (spansN h p.1).2.1) (vM (AV.int .i64) (spansN h p.1).2.1) p.2.2.2.1 p.2.2.2.2]⟩) (fun p => h.length - p.1) (0, [], 0, [], 0) ⟨by simp, ⟨rfl, .nil, by simp⟩⟩
    (Ent.to [0, 1] false (by simp) (by simp) rfl (by simp only [lP,seval,spansN,kM,vM,List.map_nil] <;> (try simp) <;> (try omega)) (by simp only [lP,seval,spansN,kM,vM,List.map_nil] <;> (try simp) <;> (try omega))) ?_
  rintro ⟨i, bs, c, bs2, c2⟩ ⟨hi, hw⟩
  simp only at hi hw ⊢
  by_cases hil : i < h.length
  · have hnx : spansN h (i + 1) = spStep h i (h.getD i default) (spansN h i) := rfl
    generalize hY' : spansN h (i + 1) = Y' at *
    generalize spansN h i = Y at *
    generalize hx : h.getD i default = x at *
    obtain ⟨out, known, last⟩ := Y
    obtain ⟨k, tx, st, ws, rs⟩ := x
    simp only at hw ⊢
    obtain ⟨b3, c3, hput, hw3⟩ := wf_put kp hw tx (last, 1073741825)
    obtain ⟨b4, hdel, hw4⟩ := wf_del kp hw tx
    obtain ⟨b5, c4, hput2⟩ := put_m (AV.int .i64) known bs2 c2 st tx
    simp only [kp] at hput
    have hmx : (if st > last then st else last) = max last st := by split <;> omega
    have hcase : k = 1 ∨ k = 2 ∨ k = 3 ∨ k = 4 ∨ k = 5 ∨ (¬ k = 1 ∧ ¬ k = 2 ∧ ¬ k = 3 ∧ ¬ k = 4 ∧ ¬ k = 5) := by omega
    rcases hcase with rfl | rfl | rfl | rfl | rfl | ⟨k1, k2, k3, k4, k5⟩
    · have hy : Y' = (setM out tx (last, 1073741825), known, last) := hnx
      subst hy
      repeat' (first | (with_reducible apply St.o; constructor) <;> intro _ | (with_reducible first | refine LenR_i fun _ => ?_ | refine And.intro (by omega) ?_ | (apply Sp.o; constructor) | refine mkl_own ?_ | refine frz0_i ?_) | simp (maxSteps := 1000000) (disch := omega) only [lE,ptrCells,ptrAdd,isNil,readsV,readsP,isCall,wrote,srcOf,seval,IdxR_haps,hx,Int.toNat_natCast,List.length_map,fillE,List.length_cons,List.length_nil,hput])
      all_goals try (exfalso; omega)
      exact back_i (i + 1,b3,c3,bs2,c2) ⟨by simp only; omega,by simp only [hY']; exact hw3⟩ (by simp only; omega) (Ent.to [0, 1] false (by simp) (by simp) rfl (by simp only [lP,seval,hY',pa_kM,pa_vI,pa_vP] <;> (try simp) <;> (try omega)) (by simp only [lP,seval,hY',pa_kM,pa_vI,pa_vP] <;> (try simp) <;> (try omega)))
    · have hy : Y' = (delM out tx, setM known st tx, max last st) := hnx
      subst hy
      repeat' (first | (with_reducible apply St.o; constructor) <;> intro _ | (with_reducible first | refine LenR_i fun _ => ?_ | refine And.intro (by omega) ?_ | (apply Sp.o; constructor) | refine mkl_own ?_ | refine frz0_i ?_) | simp (maxSteps := 1000000) (disch := omega) only [lE,ptrCells,ptrAdd,isNil,readsV,readsP,isCall,wrote,srcOf,seval,IdxR_haps,hx,Int.toNat_natCast,List.length_map,fillE,List.length_cons,List.length_nil,hdel,hput2,hmx])
      all_goals try (exfalso; omega)
      exact back_i (i + 1,b4,c,b5,c4) ⟨by simp only; omega,by simp only [hY']; exact hw4⟩ (by simp only; omega) (Ent.to [0, 1] false (by simp) (by simp) rfl (by simp only [lP,seval,hY',pa_kM,pa_vI,pa_vP] <;> (try simp) <;> (try omega)) (by simp only [lP,seval,hY',pa_kM,pa_vI,pa_vP] <;> (try simp) <;> (try omega)))
    · have hy : Y' = (delM out tx, known, last) := hnx
      subst hy
      repeat' (first | (with_reducible apply St.o; constructor) <;> intro _ | (with_reducible first | refine LenR_i fun _ => ?_ | refine And.intro (by omega) ?_ | (apply Sp.o; constructor) | refine mkl_own ?_ | refine frz0_i ?_) | simp (maxSteps := 1000000) (disch := omega) only [lE,ptrCells,ptrAdd,isNil,readsV,readsP,isCall,wrote,srcOf,seval,IdxR_haps,hx,Int.toNat_natCast,List.length_map,fillE,List.length_cons,List.length_nil,hdel])
      all_goals try (exfalso; omega)
      exact back_i (i + 1,b4,c,bs2,c2) ⟨by simp only; omega,by simp only [hY']; exact hw4⟩ (by simp only; omega) (Ent.to [0, 1] false (by simp) (by simp) rfl (by simp only [lP,seval,hY',pa_kM,pa_vI,pa_vP] <;> (try simp) <;> (try omega)) (by simp only [lP,seval,hY',pa_kM,pa_vI,pa_vP] <;> (try simp) <;> (try omega)))
    · have hy : Y' = ((openL (h.take i)).foldl (cutSp (nextS (h.drop i))) out, known, last) := hnx
      subst hy
      have h14 := c33 h i hi
      have h16 := c35 (h.take i) (by rw [List.length_take]; omega)
      have hvt : (h.map Hap.av).take i = (h.take i).map Hap.av := List.map_take.symm
      have hol := openL_len (h.take i)
      rw [List.length_take] at hol
      generalize openL (h.take i) = L at *
      generalize nextS (h.drop i) = nx at *
      repeat' (first | (with_reducible apply St.o; constructor) <;> intro _ | (with_reducible first | refine LenR_i fun _ => ?_ | refine And.intro (by omega) ?_ | (apply Sp.o; constructor) | refine mkl_own ?_ | refine frz0_i ?_) | ((with_reducible apply Sc.o false; constructor); simp only [lP,seval,IdxR_haps,hx,hvt,Int.toNat_natCast,List.length_map,fillE,List.length_cons,List.length_nil]; refine ⟨_,h16,?_⟩; rintro _ _ ⟨rfl,rfl⟩; simp only [lA,lP,ptrCells,ptrAdd,isNil,readsV,readsP,isCall,wrote,srcOf,seval,IdxR_haps,hx,hvt,Int.toNat_natCast,List.length_map,fillE,List.length_cons,List.length_nil]) | simp (maxSteps := 1000000) (disch := omega) only [lE,ptrCells,ptrAdd,isNil,readsV,readsP,isCall,wrote,srcOf,seval,IdxR_haps,hx,hvt,Int.toNat_natCast,List.length_map,fillE,List.length_cons,List.length_nil])
      all_goals try (exfalso; omega)
      refine loop_i (fun y : Nat × List Nat × Nat => y.1 ≤ L.length ∧ WfM ((L.take y.1).foldl (cutSp nx) out).length y.2.1 y.2.2)
        (fun y => ⟨[(0, .view 5 (h.map Hap.av)), (4, .mp 0), (5, .mp 1), (6, .int .i64 last), (7, .int .i64 i), (15, .view 5 (h.map Hap.av)), (16, .int .i64 h.length), (17, .int .i64 i), (55, .view 1 (L.map (AV.int .i64))), (56, .int .i64 L.length), (57, .int .i64 y.1)], [.map (kM ((L.take y.1).foldl (cutSp nx) out)) (vM kp ((L.take y.1).foldl (cutSp nx) out)) y.2.1 y.2.2, .map (kM known) (vM (AV.int .i64) known) bs2 c2]⟩) (fun y => L.length - y.1) (0, bs, c) ⟨by simp, by simpa using hw⟩
        (Ent.to [0, 1] false (by simp) (by simp) rfl (by simp only [lP,seval,List.take_zero,List.foldl_nil,pa_kM,pa_vI,pa_vP,List.length_map] <;> (try simp) <;> (try omega)) (by simp only [lP,seval,List.take_zero,List.foldl_nil,pa_kM,pa_vI,pa_vP,List.length_map] <;> (try simp) <;> (try omega))) ?_
      rintro ⟨j, b6, c11⟩ ⟨hj, hw6⟩
      simp only at hj hw6 ⊢
      by_cases hjl : j < L.length
      · have hnj : (L.take (j + 1)).foldl (cutSp nx) out = cutSp nx ((L.take j).foldl (cutSp nx) out) (L.getD j 0) := by
          rw [take_succD hjl, List.foldl_append]; rfl
        have hg2 : L.getD j default = L.getD j 0 := rfl
        have hlook := look_m kp (.agg [.int .i64 0, .int .i64 0]) ((L.take j).foldl (cutSp nx) out) (L.getD j 0)
        generalize hg3 : L.getD j 0 = t at *
        generalize (L.take j).foldl (cutSp nx) out = m at *
        generalize hm' : (L.take (j + 1)).foldl (cutSp nx) out = m' at *
        unfold cutSp at hnj
        cases hgt : getM m t with
        | none =>
          rw [hgt] at hlook hnj
          have hnj2 : m' = m := hnj
          subst hnj2
          repeat' (first | (with_reducible apply St.o; constructor) <;> intro _ | (with_reducible first | refine LenR_i fun _ => ?_ | refine And.intro (by omega) ?_ | (apply Sp.o; constructor) | refine mkl_own ?_ | refine frz0_i ?_) | simp (maxSteps := 1000000) (disch := omega) only [lE,ptrCells,ptrAdd,isNil,readsV,readsP,isCall,wrote,srcOf,seval,IdxR_int,hg2,hg3,Int.toNat_natCast,List.length_map,hlook])
          all_goals try (exfalso; omega)
          exact back_i (j + 1,b6,c11) ⟨by simp only; omega,by simp only [hm']; exact hw6⟩ (by simp only; omega) (Ent.to [0, 1] false (by simp) (by simp) rfl (by simp only [lP,seval,hm',pa_kM,pa_vI,pa_vP] <;> (try simp) <;> (try omega)) (by simp only [lP,seval,hm',pa_kM,pa_vI,pa_vP] <;> (try simp) <;> (try omega)))
        | some s =>
          rw [hgt] at hlook hnj
          have hnj2 : m' = setM m t (s.1, min s.2 nx) := hnj
          obtain ⟨b7, c10, hput7, hw7⟩ := wf_put kp hw6 t (s.1, min s.2 nx)
          rw [← hnj2] at hput7 hw7
          simp only [kp] at hput7 hlook
          have hmn : (if nx < s.2 then nx else s.2) = min s.2 nx := by split <;> omega
          repeat' (first | (with_reducible apply St.o; constructor) <;> intro _ | (with_reducible first | refine LenR_i fun _ => ?_ | refine And.intro (by omega) ?_ | (apply Sp.o; constructor) | refine mkl_own ?_ | refine frz0_i ?_) | ((with_reducible apply Sc.o true; constructor); simp only [lP,seval,List.mem_singleton,IdxR_int,hg2,hg3,Int.toNat_natCast,List.length_map,hlook,hmn,hput7]; refine ⟨_,h14,?_⟩; rintro _ _ ⟨rfl,rfl⟩; simp only [lA,lP,ptrCells,ptrAdd,isNil,readsV,readsP,isCall,wrote,srcOf,seval,List.mem_singleton,IdxR_int,hg2,hg3,Int.toNat_natCast,List.length_map,hlook,hmn,hput7]) | with_reducible refine any_i [0] ?_ | simp (maxSteps := 1000000) (disch := omega) only [lE,ptrCells,ptrAdd,isNil,readsV,readsP,isCall,wrote,srcOf,seval,List.mem_singleton,IdxR_int,hg2,hg3,Int.toNat_natCast,List.length_map,hlook,hmn,hput7])
          all_goals try (exfalso; omega)
          exact back_i (j + 1,b7,c10) ⟨by simp only; omega,by simp only [hm']; exact hw7⟩ (by simp only; omega) (Ent.to [0, 1] false (by simp) (by simp) rfl (by simp only [lP,seval,hm',pa_kM,pa_vI,pa_vP] <;> (try simp) <;> (try omega)) (by simp only [lP,seval,hm',pa_kM,pa_vI,pa_vP] <;> (try simp) <;> (try omega)))
      · have hje : j = L.length := by omega
        subst hje
        rw [List.take_length] at hw6 ⊢
        repeat' (first | (with_reducible apply St.o; constructor) <;> intro _ | (with_reducible first | refine LenR_i fun _ => ?_ | refine And.intro (by omega) ?_ | (apply Sp.o; constructor) | refine mkl_own ?_ | refine frz0_i ?_) | simp (maxSteps := 1000000) (disch := omega) only [lE,ptrCells,ptrAdd,isNil,readsV,readsP,isCall,wrote,srcOf,seval,List.length_map,Int.lt_irrefl,decide_false])
        exact back_i (i + 1,b6,c11,bs2,c2) ⟨by simp only; omega,by simp only [hY']; exact hw6⟩ (by simp only; omega) (Ent.to [0, 1] false (by simp) (by simp) rfl (by simp only [lP,seval,hY',pa_kM,pa_vI,pa_vP] <;> (try simp) <;> (try omega)) (by simp only [lP,seval,hY',pa_kM,pa_vI,pa_vP] <;> (try simp) <;> (try omega)))
    · have hy : Y' = (out, known, max last st) := hnx
      subst hy
      repeat' (first | (with_reducible apply St.o; constructor) <;> intro _ | (with_reducible first | refine LenR_i fun _ => ?_ | refine And.intro (by omega) ?_ | (apply Sp.o; constructor) | refine mkl_own ?_ | refine frz0_i ?_) | simp (maxSteps := 1000000) (disch := omega) only [lE,ptrCells,ptrAdd,isNil,readsV,readsP,isCall,wrote,srcOf,seval,IdxR_haps,hx,Int.toNat_natCast,List.length_map,fillE,List.length_cons,List.length_nil,hmx])
      all_goals try (exfalso; omega)
      exact back_i (i + 1,bs,c,bs2,c2) ⟨by simp only; omega,by simp only [hY']; exact hw⟩ (by simp only; omega) (Ent.to [0, 1] false (by simp) (by simp) rfl (by simp only [lP,seval,hY',pa_kM,pa_vI,pa_vP] <;> (try simp) <;> (try omega)) (by simp only [lP,seval,hY',pa_kM,pa_vI,pa_vP] <;> (try simp) <;> (try omega)))
    · have hy : Y' = (out, known, last) := by
        rw [hnx]; simp [spStep, k1, k2, k3, k4, k5]
      subst hy
      repeat' (first | (with_reducible apply St.o; constructor) <;> intro _ | (with_reducible first | refine LenR_i fun _ => ?_ | refine And.intro (by omega) ?_ | (apply Sp.o; constructor) | refine mkl_own ?_ | refine frz0_i ?_) | simp (maxSteps := 1000000) (disch := omega) only [lE,ptrCells,ptrAdd,isNil,readsV,readsP,isCall,wrote,srcOf,seval,IdxR_haps,hx,Int.toNat_natCast,List.length_map,fillE,List.length_cons,List.length_nil])
      all_goals try (exfalso; omega)
      exact back_i (i + 1,bs,c,bs2,c2) ⟨by simp only; omega,by simp only [hY']; exact hw⟩ (by simp only; omega) (Ent.to [0, 1] false (by simp) (by simp) rfl (by simp only [lP,seval,hY',pa_kM,pa_vI,pa_vP] <;> (try simp) <;> (try omega)) (by simp only [lP,seval,hY',pa_kM,pa_vI,pa_vP] <;> (try simp) <;> (try omega)))
  · have hie : i = h.length := by omega
    subst hie
    repeat' (first | (with_reducible apply St.o; constructor) <;> intro _ | (with_reducible first | refine LenR_i fun _ => ?_ | refine And.intro (by omega) ?_ | (apply Sp.o; constructor) | refine mkl_own ?_ | refine frz0_i ?_) | simp (maxSteps := 1000000) (disch := omega) only [lE,ptrCells,ptrAdd,isNil,readsV,readsP,isCall,wrote,srcOf,seval,List.length_map,Int.lt_irrefl,decide_false])
    exact keep_i [0, 1] false (by simp) (by simp) rfl ⟨by simp only [lP,seval],bs,c,bs2,c2,hw,by simp only [lP,seval,pa_kM,pa_vI,pa_vP]⟩
end Go.Proofs.Try

