/-
  A part of the proof: see the text of the law.
-/
import Derived.Test.YtmmedfdilaijhaaGreatEap
set_option linter.unusedSimpArgs false
set_option linter.unusedVariables false
namespace Go.Proofs.Try
open Go.Proofs.Tryz
open Go.Al
set_option maxRecDepth 100000
def mc17 : MC :=
(.seq (.ops [(none,.v (.mov 2 (.c (.bool false))))])
(.seq (.ops [(none,.e (.mkmap 10)),
(none,.v (.mov 3 (.t 10))),
(none,.v (.mov 4 (.c (.int .i64 0))))])
(.seq (.seq (.ops [(none,.v (.mov 11 (.t 0))),
(none,.p (.len 12 (.t 11))),
(none,.v (.mov 13 (.c (.int .i64 0))))])
(.block 0 (.loop (.seq (.ops [(none,.v (.bin 14 .lss false (.t 13) (.t 12)))])
(.seq (.cond 14
.skip
(.exit 0))
(.seq (.block 1 (.seq (.ops [(none,.p (.idx 15 5 (.t 11) (.t 13))),
(none,.v (.load 16 true 5 (.t 15))),
(none,.e (.alloc 6 [(.int .i64 0),(.int .i64 0),(.int .i64 0),(.raw (.slice none 0 0)),(.raw (.slice none 0 0))])),
(none,.e (.store 5 true (.t 6) (.t 16)))])
(.seq (.seq (.ops [(none,.v (.load 17 true 5 (.t 6))),
(none,.e (.call (some 18) 40 [(.t 17)])),
(none,.v (.not 19 (.t 18)))])
(.cond 19
(.seq (.ops [(none,.v (.mov 2 (.c (.bool false))))])
.ret)
.skip))
(.seq (.ops [(none,.v (.mov 20 (.t 3))),
(none,.v (.fld 21 1 (.t 6))),
(none,.v (.load 22 false 1 (.t 21))),
(none,.p (.look 23 false (.int .i64) (.int .i64 0) (.t 20) (.t 22))),
(none,.v (.mov 7 (.t 23)))])
(.seq (.ops [(none,.v (.fld 24 0 (.t 6))),
(none,.v (.load 25 false 1 (.t 24)))])
(.block 2 (.seq (.ops [(none,.v (.bin 27 .eql false (.t 25) (.c (.int .i64 1)))),
(none,.v (.mov 26 (.t 27)))])
(.cond 26
(.seq (.seq (.ops [(none,.v (.fld 28 1 (.t 6))),
(none,.v (.load 29 false 1 (.t 28))),
(none,.v (.bin 30 .lss false (.t 29) (.c (.int .i64 1)))),
(none,.v (.mov 31 (.t 30))),
(some (31,false),.v (.mov 32 (.t 7))),
(some (31,false),.v (.bin 33 .neq false (.t 32) (.c (.int .i64 0)))),
(none,.v (.pick 34 (.t 31) (.c (.bool true)) (.t 33))),
(none,.v (.mov 35 (.t 34))),
(some (35,false),.v (.fld 36 3 (.t 6))),
(some (35,false),.v (.load 37 false 1 (.t 36))),
(some (35,false),.e (.call (some 38) 41 [(.t 37)])),
(some (35,false),.v (.not 39 (.t 38))),
(none,.v (.pick 40 (.t 35) (.c (.bool true)) (.t 39)))])
(.cond 40
(.seq (.ops [(none,.v (.mov 2 (.c (.bool false))))])
.ret)
.skip))
(.ops [(none,.v (.mov 41 (.t 3))),
(none,.v (.fld 42 1 (.t 6))),
(none,.v (.load 43 false 1 (.t 42))),
(none,.e (.mput (.int .i64) (.t 41) (.t 43) (.c (.int .i64 1))))]))
(.seq (.ops [(none,.v (.bin 45 .eql false (.t 25) (.c (.int .i64 2)))),
(none,.v (.mov 44 (.t 45)))])
(.cond 44
(.seq (.seq (.ops [(none,.v (.mov 46 (.t 7))),
(none,.v (.bin 47 .neq false (.t 46) (.c (.int .i64 1)))),
(none,.v (.mov 48 (.t 47))),
(some (48,false),.v (.fld 49 2 (.t 6))),
(some (48,false),.v (.load 50 false 1 (.t 49))),
(some (48,false),.e (.call (some 51) 42 [(.t 50)])),
(some (48,false),.v (.not 52 (.t 51))),
(none,.v (.pick 53 (.t 48) (.c (.bool true)) (.t 52))),
(none,.v (.mov 54 (.t 53))),
(some (54,false),.v (.fld 55 2 (.t 6))),
(some (54,false),.v (.load 56 false 1 (.t 55))),
(some (54,false),.v (.mov 57 (.t 4))),
(some (54,false),.v (.bin 58 .leq false (.t 56) (.t 57))),
(none,.v (.pick 59 (.t 54) (.c (.bool true)) (.t 58)))])
(.cond 59
(.seq (.ops [(none,.v (.mov 2 (.c (.bool false))))])
.ret)
.skip))
(.any true (.pure0 none (.v (.mov 60 (.t 3)))
(.pure0 none (.v (.fld 61 1 (.t 6)))
(.pure0 none (.v (.load 62 false 1 (.t 61)))
(.pure0 none (.v (.fld 63 2 (.t 6)))
(.pure0 none (.v (.load 64 false 1 (.t 63)))
(.alt none (.e (.mput (.int .i64) (.t 60) (.t 62) (.c (.int .i64 2))))
(.pure0 none (.v (.mov 4 (.t 64)))
.done)
.stop))))))))
(.seq (.ops [(none,.v (.bin 66 .eql false (.t 25) (.c (.int .i64 3)))),
(none,.v (.mov 65 (.t 66)))])
(.cond 65
(.seq (.seq (.ops [(none,.v (.mov 67 (.t 7))),
(none,.v (.bin 68 .neq false (.t 67) (.c (.int .i64 1))))])
(.cond 68
(.seq (.ops [(none,.v (.mov 2 (.c (.bool false))))])
.ret)
.skip))
(.ops [(none,.v (.mov 69 (.t 3))),
(none,.v (.fld 70 1 (.t 6))),
(none,.v (.load 71 false 1 (.t 70))),
(none,.e (.mput (.int .i64) (.t 69) (.t 71) (.c (.int .i64 3))))]))
(.seq (.ops [(none,.v (.bin 73 .eql false (.t 25) (.c (.int .i64 4)))),
(none,.v (.mov 72 (.t 73)))])
(.cond 72
(.ops [(none,.v (.mov 74 (.t 3))),
(none,.e (.call (some 75) 43 [(.t 74)]))])
(.seq (.ops [(none,.v (.bin 77 .eql false (.t 25) (.c (.int .i64 5)))),
(none,.v (.mov 76 (.t 77)))])
(.cond 76
(.seq (.ops [(none,.v (.fn 78 (.func 44) [] [(.t 6)])),
(none,.v (.mov 8 (.t 78)))])
(.seq (.seq (.ops [(none,.v (.fld 79 2 (.t 6))),
(none,.v (.load 80 false 1 (.t 79))),
(none,.v (.bin 81 .lss false (.t 80) (.c (.int .i64 0)))),
(none,.v (.mov 82 (.t 81))),
(some (82,false),.v (.fld 83 2 (.t 6))),
(some (82,false),.v (.load 84 false 1 (.t 83))),
(some (82,false),.v (.bin 85 .gtr false (.t 84) (.c (.int .i64 1073741824)))),
(none,.v (.pick 86 (.t 82) (.c (.bool true)) (.t 85))),
(none,.v (.mov 87 (.t 86))),
(some (87,false),.v (.fld 88 4 (.t 6))),
(some (87,false),.v (.load 89 false 1 (.t 88))),
(some (87,false),.v (.mov 90 (.t 8))),
(some (87,false),.e (.call (some 91) 45 [(.t 89),(.t 90)])),
(none,.v (.pick 92 (.t 87) (.c (.bool true)) (.t 91)))])
(.cond 92
(.seq (.ops [(none,.v (.mov 2 (.c (.bool false))))])
.ret)
.skip))
(.seq (.ops [(none,.v (.mov 9 (.c (.int .i64 1))))])
(.block 3 (.loop (.seq (.seq (.ops [(none,.v (.mov 93 (.t 9))),
(none,.v (.fld 94 4 (.t 6))),
(none,.v (.load 95 false 1 (.t 94))),
(none,.p (.len 96 (.t 95))),
(none,.v (.bin 97 .lss false (.t 93) (.t 96)))])
(.cond 97
.skip
(.exit 3)))
(.seq (.block 4 (.seq (.any false (.pure0 none (.v (.fld 100 4 (.t 6)))
(.pure0 none (.v (.load 101 false 1 (.t 100)))
(.pure0 none (.v (.mov 102 (.t 9)))
(.pure0 none (.v (.bin 103 .sub false (.t 102) (.c (.int .i64 1))))
(.pure0 none (.p (.idx 104 4 (.t 101) (.t 103)))
(.pure0 none (.v (.load 105 true 4 (.t 104)))
(.pure0 none (.v (.fld 106 4 (.t 6)))
(.pure0 none (.v (.load 107 false 1 (.t 106)))
(.pure0 none (.v (.mov 108 (.t 9)))
(.pure0 none (.p (.idx 109 4 (.t 107) (.t 108)))
(.pure0 none (.v (.load 110 true 4 (.t 109)))
(.alt none (.e (.call (some 111) 46 [(.t 105),(.t 110)]))
(.base (.pure0 none (.v (.bin 112 .geq false (.t 111) (.c (.int .i64 0))))
.done))
.stop)))))))))))))
(.cond 112
(.seq (.ops [(none,.v (.mov 2 (.c (.bool false))))])
.ret)
.skip)))
(.ops [(none,.v (.mov 98 (.t 9))),
(none,.v (.bin 99 .add false (.t 98) (.c (.int .i64 1)))),
(none,.v (.mov 9 (.t 99)))]))))))))
.skip))))))))))))))))
(.ops [(none,.v (.bin 113 .add false (.t 13) (.c (.int .i64 1)))),
(none,.v (.mov 13 (.t 113)))])))))))
(.seq (.ops [(none,.v (.mov 114 (.t 0))),
(none,.p (.len 115 (.t 114))),
(none,.v (.bin 116 .leq false (.t 115) (.c (.int .i64 400)))),
(none,.v (.mov 2 (.t 116)))])
.ret))))
theorem ok17 : FnOk E 17 117 [.tmp 2] mc17 := .of func17 (by kernel_rfl) (by kernel_rfl) (by kernel_rfl) (by kernel_rfl) (by kernel_rfl)
end Go.Proofs.Try
namespace Go.Proofs.Try
open Go.Proofs.Tryz
open Go.Al
set_option linter.unusedVariables false
set_option linter.unusedSimpArgs false
set_option maxRecDepth 20000
set_option maxHeartbeats 8000000

theorem rightB_len {h : List Hap} (hr : rightB h = true) : h.length ≤ 400 := by
  unfold rightB at hr
  rw [Bool.and_eq_true, decide_eq_true_eq, decide_eq_true_eq] at hr
  exact hr.2
theorem latest_same {h : List Hap} {x : Hap} (hk : x.k ≠ 2) : latest (h ++ [x]) = latest h := by
  unfold latest
  rw [List.foldl_append]
  simp [hk]
theorem latest_rep {h : List Hap} {x : Hap} (hk : x.k = 2) (hs : latest h < x.st) : latest (h ++ [x]) = x.st := by
  unfold latest at *
  rw [List.foldl_append]
  simp [hk]
  omega
theorem cmp_before (a b : Hd) : a.cmp b < 0 ↔ a.before b := by
  unfold Hd.cmp orI orI orI sgn Hd.before
  repeat' split
  all_goals omega
theorem renL_kM {α : Type} {ρ : Nat → Nat} (m : List (Int × α)) : renL ρ (kM m) = kM m := by
  have e : kM m = (keysM m).map (AV.int .i64) := by unfold kM keysM; rw [List.map_map]; rfl
  rw [e]
  exact renL_map (fun n => by simp [ren]) _
theorem renL_vI {ρ : Nat → Nat} (m : List (Int × Int)) : renL ρ (vM (AV.int .i64) m) = vM (AV.int .i64) m := by
  have e : vM (AV.int .i64) m = (m.map (·.2)).map (AV.int .i64) := by unfold vM; rw [List.map_map]; rfl
  rw [e]
  exact renL_map (fun n => by simp [ren]) _
theorem c17 (h : List Hap) (h410 : h.length ≤ 1000000) : ACalls E.P 17 [.view 5 (h.map Hap.av)] [] (fun r H => r = .bool (rightB h) ∧ H = []) := by
  have hmax := maxLen_eq
  refine ok17.acalls hE hm (by simp) fun N hN => ?_
  unfold mc17
  simp only [lA,ptrCells,ptrAdd,isNil,readsV,readsP,isCall,wrote,srcOf,seval]
  refine LenR_i fun hl => ?_
  simp only [lA,ptrCells,ptrAdd,isNil,readsV,readsP,isCall,wrote,srcOf,seval,List.length_map]
  refine loop_i (fun p : Nat × List (Int × Int) × List Nat × Nat => p.1 ≤ h.length ∧ (∀ j, j < p.1 → eventOk (h.take j) (h.getD j default) = true) ∧ StOk (h.take p.1) p.2.1 ∧ WfM p.2.1.length p.2.2.1 p.2.2.2)
    (fun p => ⟨[(0, .view 5 (h.map Hap.av)), (3, .mp 0), (4, .int .i64 (latest (h.take p.1))), (11, .view 5 (h.map Hap.av)), (12, .int .i64 h.length), (13, .int .i64 p.1)], [.map (kM p.2.1) (vM (AV.int .i64) p.2.1) p.2.2.1 p.2.2.2]⟩) (fun p => h.length - p.1) (0, [], [], 0) ⟨by simp, fun j hj => by simp only at hj; omega, StOk.nil, ⟨rfl, .nil, by simp⟩⟩
    (Ent.to [0] false (by simp) (by simp) rfl (by simp only [lP,seval,List.take_zero,latest,List.foldl_nil,kM,vM,List.map_nil] <;> (try simp) <;> (try omega)) (by simp only [lP,seval,List.take_zero,latest,List.foldl_nil,kM,vM,List.map_nil] <;> (try simp) <;> (try omega))) ?_
  rintro ⟨i, m, bs, c⟩ ⟨hi, hn, hs, hw⟩
  simp only at hi hn hs hw ⊢
  by_cases hil : i < h.length
  · have hbad : eventOk (h.take i) (h.getD i default) = false → rightB h = false := fun hb => by
      unfold rightB
      rw [decide_eq_false, Bool.false_and]
      intro q
      rw [q i hil] at hb; cases hb
    have hgood : eventOk (h.take i) (h.getD i default) = true → ∀ j, j < i + 1 → eventOk (h.take j) (h.getD j default) = true := fun q j hj => by
      by_cases e : j = i
      · rw [e]; exact q
      · exact hn j (by omega)
    have htk := take_succD hil
    obtain ⟨is, b, hlook, hz, ho⟩ := hs.look (h.getD i default).tx
    generalize hx : h.getD i default = x at *
    generalize hhp : h.take i = hp at *
    rw [eventOk_eq] at hbad hgood
    have h25 := c40 x
    have h26 := c41 x.ws
    have h27 := c42 x.st
    have h28 := c43 m bs c hw hs.nodup
    have hpl : plainB x = false → rightB h = false := fun q => hbad (by rw [q, Bool.false_and])
    obtain ⟨k, tx, st, ws, rs⟩ := x
    simp only [hap_av] at h25
    simp only at hlook hz ho h26 h27
    have hcase : k = 1 ∨ k = 2 ∨ k = 3 ∨ k = 4 ∨ k = 5 ∨ (¬ k = 1 ∧ ¬ k = 2 ∧ ¬ k = 3 ∧ ¬ k = 4 ∧ ¬ k = 5) := by omega
    by_cases hplain : plainB ⟨k, tx, st, ws, rs⟩ = false
    · rw [hplain] at h25
      repeat' (first | (with_reducible apply St.o; constructor) <;> intro _ | (with_reducible first | refine LenR_i fun _ => ?_ | refine And.intro (by omega) ?_ | (apply Sp.o; constructor) | refine mkl_own ?_ | refine frz0_i ?_) | ((with_reducible apply Sc.o true; constructor); simp only [lP,seval,IdxR_haps,hx,Int.toNat_natCast,List.length_map,fillE,List.length_cons,List.length_nil]; refine ⟨_,h25,?_⟩; rintro _ _ ⟨rfl,rfl⟩; simp only [lA,lP,ptrCells,ptrAdd,isNil,readsV,readsP,isCall,wrote,srcOf,seval,IdxR_haps,hx,Int.toNat_natCast,List.length_map,fillE,List.length_cons,List.length_nil]) | simp (maxSteps := 1000000) (disch := omega) only [lE,ptrCells,ptrAdd,isNil,readsV,readsP,isCall,wrote,srcOf,seval,IdxR_haps,hx,Int.toNat_natCast,List.length_map,fillE,List.length_cons,List.length_nil])
      all_goals try (exfalso; omega)
      all_goals exact keep_b (hpl hplain).symm
    replace hplain : plainB ⟨k, tx, st, ws, rs⟩ = true := by simpa using hplain
    rw [hplain] at h25 hbad hgood
    rw [Bool.true_and] at hbad hgood
    have hback : evB hp ⟨k, tx, st, ws, rs⟩ = true → ∀ (m' : List (Int × Int)) (bs' : List Nat) (c' : Nat), StOk (hp ++ [⟨k, tx, st, ws, rs⟩]) m' → WfM m'.length bs' c' → (i + 1 ≤ h.length ∧ (∀ j, j < i + 1 → eventOk (h.take j) (h.getD j default) = true) ∧ StOk (h.take (i + 1)) m' ∧ WfM m'.length bs' c') := fun q m' bs' c' q1 q2 => ⟨by omega, hgood q, by rw [htk]; exact q1, q2⟩
    rcases hcase with rfl | rfl | rfl | rfl | rfl | ⟨k1, k2, k3, k4, k5⟩
    · obtain ⟨bs', c', hput, hw'⟩ := wf_put (AV.int .i64) hw tx 1
      have hlt : latest (h.take (i + 1)) = latest hp := by rw [htk]; exact latest_same (by simp)
      have hev : evB hp ⟨1, tx, st, ws, rs⟩ = (decide (1 ≤ tx) && (decide (asked hp tx < 0) && writesOk ws)) := rfl
      repeat' (first | (with_reducible apply St.o; constructor) <;> intro _ | (with_reducible first | refine LenR_i fun _ => ?_ | refine And.intro (by omega) ?_ | (apply Sp.o; constructor) | refine mkl_own ?_ | refine frz0_i ?_) | ((with_reducible apply Sc.o true; constructor); simp only [lP,seval,IdxR_haps,hx,Int.toNat_natCast,List.length_map,fillE,List.length_cons,List.length_nil,hlook,hput]; (first | refine ⟨_,h25,?_⟩ | refine ⟨_,h26,?_⟩); rintro _ _ ⟨rfl,rfl⟩; simp only [lA,lP,ptrCells,ptrAdd,isNil,readsV,readsP,isCall,wrote,srcOf,seval,IdxR_haps,hx,Int.toNat_natCast,List.length_map,fillE,List.length_cons,List.length_nil,hlook,hput]) | simp (maxSteps := 1000000) (disch := omega) only [lE,ptrCells,ptrAdd,isNil,readsV,readsP,isCall,wrote,srcOf,seval,IdxR_haps,hx,Int.toNat_natCast,List.length_map,fillE,List.length_cons,List.length_nil,hlook,hput])
      all_goals try (exfalso; omega)
      all_goals first
        | (refine keep_b (hbad ?_).symm
           rw [hev, Bool.eq_false_iff]
           simp only [ne_eq,Bool.and_eq_true,decide_eq_true_eq]
           rintro ⟨q1, q2, q3⟩
           first | omega | (simp only [q3] at *; simp at *; done))
        | (have hy : evB hp ⟨1, tx, st, ws, rs⟩ = true := by
             rw [hev]
             simp only [Bool.and_eq_true,decide_eq_true_eq]
             exact ⟨by omega, by omega, by simp_all⟩
           exact back_i (i + 1,setM m tx 1,bs',c') (hback hy _ _ _ (hs.ask rfl (by simp only; omega)) hw') (by simp only; omega) (Ent.to [0] false (by simp) (by simp) rfl (by simp only [lP,seval,hlt,pa_kM,pa_vI] <;> (try simp) <;> (try omega)) (by simp only [lP,seval,hlt,pa_kM,pa_vI] <;> (try simp) <;> (try omega))))
    · obtain ⟨bs', c', hput, hw'⟩ := wf_put (AV.int .i64) hw tx 2
      have hev : evB hp ⟨2, tx, st, ws, rs⟩ = (isOpen hp tx && (numb st && decide (latest hp < st))) := rfl
      repeat' (first | (with_reducible apply St.o; constructor) <;> intro _ | (with_reducible first | refine LenR_i fun _ => ?_ | refine And.intro (by omega) ?_ | (apply Sp.o; constructor) | refine mkl_own ?_ | refine frz0_i ?_) | ((with_reducible apply Sc.o true; constructor); simp only [lP,seval,IdxR_haps,hx,Int.toNat_natCast,List.length_map,fillE,List.length_cons,List.length_nil,hlook,hput]; (first | refine ⟨_,h25,?_⟩ | refine ⟨_,h27,?_⟩); rintro _ _ ⟨rfl,rfl⟩; simp only [lA,lP,ptrCells,ptrAdd,isNil,readsV,readsP,isCall,wrote,srcOf,seval,IdxR_haps,hx,Int.toNat_natCast,List.length_map,fillE,List.length_cons,List.length_nil,hlook,hput]) | with_reducible refine any_i [0] ?_ | simp (maxSteps := 1000000) (disch := omega) only [lE,ptrCells,ptrAdd,isNil,readsV,readsP,isCall,wrote,srcOf,seval,IdxR_haps,hx,Int.toNat_natCast,List.length_map,fillE,List.length_cons,List.length_nil,hlook,hput])
      all_goals try (exfalso; omega)
      all_goals first
        | (refine keep_b (hbad ?_).symm
           rw [hev, Bool.eq_false_iff]
           simp only [ne_eq,Bool.and_eq_true,decide_eq_true_eq]
           rintro ⟨q1, q2, q3⟩
           first | omega | (simp_all; done) | (have := ho.2 q1; omega))
        | (have hop : isOpen hp tx = true := ho.1 (by omega)
           have hgt : latest hp < st := by omega
           have hlt : latest (h.take (i + 1)) = st := by rw [htk]; exact latest_rep (x := ⟨2, tx, st, ws, rs⟩) rfl hgt
           have hy : evB hp ⟨2, tx, st, ws, rs⟩ = true := by
             rw [hev]
             simp only [Bool.and_eq_true,decide_eq_true_eq]
             exact ⟨hop, by simp_all, hgt⟩
           exact back_i (i + 1,setM m tx 2,bs',c') (hback hy _ _ _ (hs.shut (.inl rfl) hop (by decide) (by decide)) hw') (by simp only; omega) (Ent.to [0] false (by simp) (by simp) rfl (by simp only [lP,seval,hlt,pa_kM,pa_vI] <;> (try simp) <;> (try omega)) (by simp only [lP,seval,hlt,pa_kM,pa_vI] <;> (try simp) <;> (try omega))))
    · obtain ⟨bs', c', hput, hw'⟩ := wf_put (AV.int .i64) hw tx 3
      have hlt : latest (h.take (i + 1)) = latest hp := by rw [htk]; exact latest_same (by simp)
      have hev : evB hp ⟨3, tx, st, ws, rs⟩ = isOpen hp tx := rfl
      repeat' (first | (with_reducible apply St.o; constructor) <;> intro _ | (with_reducible first | refine LenR_i fun _ => ?_ | refine And.intro (by omega) ?_ | (apply Sp.o; constructor) | refine mkl_own ?_ | refine frz0_i ?_) | ((with_reducible apply Sc.o true; constructor); simp only [lP,seval,IdxR_haps,hx,Int.toNat_natCast,List.length_map,fillE,List.length_cons,List.length_nil,hlook,hput]; refine ⟨_,h25,?_⟩; rintro _ _ ⟨rfl,rfl⟩; simp only [lA,lP,ptrCells,ptrAdd,isNil,readsV,readsP,isCall,wrote,srcOf,seval,IdxR_haps,hx,Int.toNat_natCast,List.length_map,fillE,List.length_cons,List.length_nil,hlook,hput]) | simp (maxSteps := 1000000) (disch := omega) only [lE,ptrCells,ptrAdd,isNil,readsV,readsP,isCall,wrote,srcOf,seval,IdxR_haps,hx,Int.toNat_natCast,List.length_map,fillE,List.length_cons,List.length_nil,hlook,hput])
      all_goals try (exfalso; omega)
      all_goals first
        | (refine keep_b (hbad ?_).symm
           rw [hev, Bool.eq_false_iff]
           intro q
           have := ho.2 q
           omega)
        | (have hop : isOpen hp tx = true := ho.1 (by omega)
           exact back_i (i + 1,setM m tx 3,bs',c') (hback hop _ _ _ (hs.shut (.inr rfl) hop (by decide) (by decide)) hw') (by simp only; omega) (Ent.to [0] false (by simp) (by simp) rfl (by simp only [lP,seval,hlt,pa_kM,pa_vI] <;> (try simp) <;> (try omega)) (by simp only [lP,seval,hlt,pa_kM,pa_vI] <;> (try simp) <;> (try omega))))
    · have hlt : latest (h.take (i + 1)) = latest hp := by rw [htk]; exact latest_same (by simp)
      have hev : evB hp ⟨4, tx, st, ws, rs⟩ = true := rfl
      repeat' (first | (with_reducible apply St.o; constructor) <;> intro _ | (with_reducible first | refine LenR_i fun _ => ?_ | refine And.intro (by omega) ?_ | (apply Sp.o; constructor) | refine mkl_own ?_ | refine frz0_i ?_) | ((with_reducible apply Sc.o true; constructor); simp only [lP,seval,IdxR_haps,hx,Int.toNat_natCast,List.length_map,fillE,List.length_cons,List.length_nil,hlook]; refine ⟨_,h25,?_⟩; rintro _ _ ⟨rfl,rfl⟩; simp only [lA,lP,ptrCells,ptrAdd,isNil,readsV,readsP,isCall,wrote,srcOf,seval,IdxR_haps,hx,Int.toNat_natCast,List.length_map,fillE,List.length_cons,List.length_nil,hlook]) | simp (maxSteps := 1000000) (disch := omega) only [lE,ptrCells,ptrAdd,isNil,readsV,readsP,isCall,wrote,srcOf,seval,IdxR_haps,hx,Int.toNat_natCast,List.length_map,fillE,List.length_cons,List.length_nil,hlook])
      all_goals try (exfalso; omega)
      refine callN_i [0] false (by simp) (by simp) ?_
      simp only [lP,seval,pa_kM,pa_vI]
      refine ⟨_, h28, ?_⟩
      rintro _ _ ⟨rfl, rfl⟩
      have hkl : kM (lostM m) = kM m := kM_keys (keys_lost m)
      simp only [lA,lP,ptrCells,ptrAdd,isNil,readsV,readsP,isCall,wrote,srcOf,seval,renL_kM,renL_vI,wrap_i64 (show -9223372036854775808 ≤ (i : Int) + 1 by omega) (show (i : Int) + 1 ≤ 9223372036854775807 by omega)]
      exact back_i (i + 1,lostM m,bs,c) (hback hev _ _ _ (hs.lost rfl) (wf_lost hw)) (by simp only; omega) (Ent.to [0] false (by simp) (by simp) rfl (by simp only [lP,seval,hlt,hkl,pa_kM,pa_vI] <;> (try simp) <;> (try omega)) (by simp only [lP,seval,hlt,hkl,pa_kM,pa_vI] <;> (try simp) <;> (try omega)))
    · have hlt : latest (h.take (i + 1)) = latest hp := by rw [htk]; exact latest_same (by simp)
      have hev : evB hp ⟨5, tx, st, ws, rs⟩ = (decide (0 ≤ st) && (decide (st ≤ 1073741824) && rowsOk rs st)) := rfl
      have h30 := c45 rs 44 [.vp (Hap.cs ⟨5,tx,st,ws,rs⟩)] (fun r => !okH st r) (fun r _ => c44 r ⟨5,tx,st,ws,rs⟩) (fun H ids bor => by simp only [lP,seval,pa_wrs,pa_hds,List.map_cons,List.map_nil]) (fun H ids bor => by simp only [lP,seval,pa_wrs,pa_hds,List.map_cons,List.map_nil])
      repeat' (first | (with_reducible apply St.o; constructor) <;> intro _ | (with_reducible first | refine LenR_i fun _ => ?_ | refine And.intro (by omega) ?_ | (apply Sp.o; constructor) | refine mkl_own ?_ | refine frz0_i ?_) | ((with_reducible apply Sc.o true; constructor); simp only [lP,seval,IdxR_haps,hx,Int.toNat_natCast,List.length_map,fillE,List.length_cons,List.length_nil,hlook]; (first | refine ⟨_,h25,?_⟩ | refine ⟨_,h30,?_⟩); rintro _ _ ⟨rfl,rfl⟩; simp only [lA,lP,ptrCells,ptrAdd,isNil,readsV,readsP,isCall,wrote,srcOf,seval,IdxR_haps,hx,Int.toNat_natCast,List.length_map,fillE,List.length_cons,List.length_nil,hlook]) | simp (maxSteps := 1000000) (disch := omega) only [lE,ptrCells,ptrAdd,isNil,readsV,readsP,isCall,wrote,srcOf,seval,IdxR_haps,hx,Int.toNat_natCast,List.length_map,fillE,List.length_cons,List.length_nil,hlook])
      all_goals try (exfalso; omega)
      all_goals try (
        refine keep_b (hbad ?_).symm
        rw [hev, Bool.eq_false_iff]
        simp only [ne_eq,Bool.and_eq_true,decide_eq_true_eq]
        rintro ⟨q1, q2, q3⟩
        first
          | omega
          | (rename_i hany
             obtain ⟨r, hr, hr2⟩ := List.any_eq_true.1 hany
             simp only [rowsOk,decide_eq_true_eq] at q3
             rw [q3.1 r hr] at hr2
             cases hr2))
      rename_i hany
      have hall : ∀ r ∈ rs, okH st r = true := fun r hr => by
        have := List.any_eq_false.1 hany r hr
        simpa using this
      refine loop_i (fun j : Nat => 1 ≤ j ∧ (j ≤ rs.length ∨ j = 1) ∧ (rs.take j).Pairwise Hd.before)
        (fun j => ⟨[(0, .view 5 (h.map Hap.av)), (3, .mp 0), (4, .int .i64 (latest hp)), (6, .op 1 0), (9, .int .i64 j), (11, .view 5 (h.map Hap.av)), (12, .int .i64 h.length), (13, .int .i64 i)], [.map (kM m) (vM (AV.int .i64) m) bs c, .box (Hap.cs ⟨5, tx, st, ws, rs⟩)]⟩) (fun j => rs.length - j) 1 ⟨by omega, .inr rfl, by cases rs <;> simp⟩
        (Ent.to [0, 1] false (by simp) (by simp) rfl (by simp only [lP,seval,pa_kM,pa_vI,pa_wrs,pa_hds] <;> (try simp) <;> (try omega)) (by simp only [lP,seval,pa_kM,pa_vI,pa_wrs,pa_hds] <;> (try simp) <;> (try omega))) ?_
      rintro j ⟨hj1, hj2, hjp⟩
      by_cases hjl : j < rs.length
      · have h31 := c46 (rs.getD (j - 1) default) (rs.getD j default)
        have hcb := cmp_before (rs.getD (j - 1) default) (rs.getD j default)
        have hnx : (rs.getD (j - 1) default).before (rs.getD j default) → (rs.take (j + 1)).Pairwise Hd.before := fun q => before_snoc hjl hjp (by omega) q
        have hno : ¬ (rs.getD (j - 1) default).before (rs.getD j default) → ¬ rs.Pairwise Hd.before := fun q q2 => q (pair_at q2 (by omega) hjl)
        simp only [hd_av] at h31
        have ej : ((j : Int) - 1).toNat = j - 1 := by omega
        repeat' (first | (with_reducible apply St.o; constructor) <;> intro _ | (with_reducible first | refine LenR_i fun _ => ?_ | refine And.intro (by omega) ?_ | (apply Sp.o; constructor) | refine mkl_own ?_ | refine frz0_i ?_ | refine any_i [] ?_) | ((with_reducible apply Sc.o true; constructor); simp only [lP,seval,IdxR_hds,hx,Int.toNat_natCast,List.length_map,ej]; refine ⟨_,h31,?_⟩; rintro _ _ ⟨rfl,rfl⟩; simp only [lA,lP,ptrCells,ptrAdd,isNil,readsV,readsP,isCall,wrote,srcOf,seval,IdxR_hds,hx,Int.toNat_natCast,List.length_map,ej]) | simp (maxSteps := 1000000) (disch := omega) only [lE,ptrCells,ptrAdd,isNil,readsV,readsP,isCall,wrote,srcOf,seval,IdxR_hds,hx,Int.toNat_natCast,List.length_map,ej])
        all_goals try (exfalso; omega)
        · rename_i hc
          refine keep_b (hbad ?_).symm
          rw [hev, Bool.eq_false_iff]
          simp only [ne_eq,Bool.and_eq_true,decide_eq_true_eq]
          rintro ⟨q1, q2, q3⟩
          simp only [rowsOk,decide_eq_true_eq] at q3
          exact hno (fun q => by have := hcb.2 q; omega) q3.2
        · exact back_i (j + 1) ⟨by omega, .inl (by omega),hnx (hcb.1 (by omega))⟩ (by omega) (Ent.to [0, 1] false (by simp) (by simp) rfl (by simp only [lP,seval,pa_kM,pa_vI,pa_wrs,pa_hds] <;> (try simp) <;> (try omega)) (by simp only [lP,seval,pa_kM,pa_vI,pa_wrs,pa_hds] <;> (try simp) <;> (try omega)))
      · repeat' (first | (with_reducible apply St.o; constructor) <;> intro _ | (with_reducible first | refine LenR_i fun _ => ?_ | refine And.intro (by omega) ?_ | (apply Sp.o; constructor) | refine mkl_own ?_ | refine frz0_i ?_) | simp (maxSteps := 1000000) (disch := omega) only [lE,ptrCells,ptrAdd,isNil,readsV,readsP,isCall,wrote,srcOf,seval,List.length_map])
        all_goals try (exfalso; omega)
        have hy : evB hp ⟨5, tx, st, ws, rs⟩ = true := by
          rw [hev]
          simp only [rowsOk,Bool.and_eq_true,decide_eq_true_eq]
          rw [List.take_of_length_le (by omega)] at hjp
          exact ⟨by omega, by omega, hall, hjp⟩
        exact back_i (i + 1,m,bs,c) (hback hy _ _ _ (hs.see rfl) hw) (by simp only; omega) (Ent.to [0] false (by simp) (by simp) rfl (by simp only [lP,seval,hlt,pa_kM,pa_vI] <;> (try simp) <;> (try omega)) (by simp only [lP,seval,hlt,pa_kM,pa_vI] <;> (try simp) <;> (try omega)))
    · exfalso
      simp [plainB, k1, k2, k3, k4, k5] at hplain
  · have hie : i = h.length := by omega
    subst hie
    have hr : rightB h = decide (h.length ≤ 400) := by
      unfold rightB
      rw [decide_eq_true (by simpa using hn), Bool.true_and]
    repeat' (first | (with_reducible apply St.o; constructor) <;> intro _ | (with_reducible first | refine LenR_i fun _ => ?_ | refine And.intro (by omega) ?_ | (apply Sp.o; constructor) | refine mkl_own ?_ | refine frz0_i ?_) | simp (maxSteps := 1000000) (disch := omega) only [lE,ptrCells,ptrAdd,isNil,readsV,readsP,isCall,wrote,srcOf,seval,List.length_map,Int.lt_irrefl,decide_false])
    refine keep_b ?_
    rw [hr, Bool.eq_iff_iff]
    simp
    omega
end Go.Proofs.Try

