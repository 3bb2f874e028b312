/-
  A part of the proof: see the text of the law.
-/
import Derived.Test.YtmmedfdilaijhaaGreatEauh
import Derived.Test.YtmmedfdilaijhaaGreatAlphaK
set_option linter.unusedSimpArgs false
set_option linter.unusedVariables false
namespace Go.Proofs.Try
open Go.Proofs.Tryz
open Go.Al
set_option maxRecDepth 100000
def mc7 : MC :=
(.seq (.ops [(none,.e (.box 1 (.t 0))),
(none,.v (.mov 2 (.c (.raw (.slice none 0 0))))),
(none,.v (.mov 3 (.c (.bool false)))),
(none,.v (.mov 4 (.c (.int .i64 0))))])
(.seq (.seq (.ops [(none,.v (.load 15 false 1 (.t 1))),
(none,.e (.call (some 16) 17 [(.t 15)])),
(none,.v (.not 17 (.t 16)))])
(.cond 17
(.seq (.ops [(none,.v (.mov 2 (.c (.raw (.slice none 0 0))))),
(none,.v (.mov 3 (.c (.bool false)))),
(none,.v (.mov 4 (.c (.int .i64 1))))])
.ret)
.skip))
(.seq (.ops [(none,.v (.load 19 false 1 (.t 1))),
(none,.e (.call (some 20) 18 [(.t 19)])),
(none,.v (.mov 18 (.t 20))),
(none,.v (.ext 21 0 (.t 18))),
(none,.v (.ext 22 1 (.t 18))),
(none,.e (.alloc 5 [(.raw (.map none))])),
(none,.e (.alloc 6 [(.raw (.map none))])),
(none,.e (.store 1 false (.t 5) (.t 21))),
(none,.e (.store 1 false (.t 6) (.t 22)))])
(.seq (.ops [(none,.v (.load 23 false 1 (.t 1))),
(none,.e (.call (some 24) 19 [(.t 23)])),
(none,.e (.alloc 7 [(.int .i64 0)])),
(none,.e (.store 1 false (.t 7) (.t 24)))])
(.seq (.seq (.ops [(none,.v (.load 25 false 1 (.t 7))),
(none,.v (.load 26 false 1 (.t 6))),
(none,.p (.mlen 27 (.t 26))),
(none,.v (.bin 28 .sub false (.t 25) (.t 27))),
(none,.v (.bin 29 .gtr false (.t 28) (.c (.int .i64 8))))])
(.cond 29
(.seq (.ops [(none,.v (.mov 2 (.c (.raw (.slice none 0 0))))),
(none,.v (.mov 3 (.c (.bool false)))),
(none,.v (.mov 4 (.c (.int .i64 2))))])
.ret)
.skip))
(.seq (.ops [(none,.v (.load 30 false 1 (.t 5))),
(none,.e (.call (some 31) 21 [(.t 30)])),
(none,.e (.call (some 32) 20 [(.t 31)])),
(none,.e (.alloc 8 [(.raw (.slice none 0 0))])),
(none,.e (.store 1 false (.t 8) (.t 32)))])
(.seq (.ops [(none,.e (.mkmap 33)),
(none,.e (.alloc 9 [(.raw (.map none))])),
(none,.e (.store 1 false (.t 9) (.t 33)))])
(.seq (.seq (.ops [(none,.v (.load 34 false 1 (.t 1))),
(none,.p (.len 35 (.t 34))),
(none,.v (.mov 36 (.c (.int .i64 0))))])
(.block 0 (.loop (.seq (.ops [(none,.v (.bin 37 .lss false (.t 36) (.t 35)))])
(.seq (.cond 37
.skip
(.exit 0))
(.seq (.block 1 (.seq (.ops [(none,.p (.idx 38 5 (.t 34) (.t 36))),
(none,.v (.load 39 true 5 (.t 38))),
(none,.e (.alloc 11 [(.int .i64 0),(.int .i64 0),(.int .i64 0),(.raw (.slice none 0 0)),(.raw (.slice none 0 0))])),
(none,.e (.store 5 true (.t 11) (.t 39)))])
(.seq (.ops [(none,.v (.fld 40 0 (.t 11))),
(none,.v (.load 41 false 1 (.t 40))),
(none,.v (.bin 42 .eql false (.t 41) (.c (.int .i64 5))))])
(.cond 42
(.any true (.pure0 none (.v (.load 43 false 1 (.t 9)))
(.pure0 none (.v (.fld 44 2 (.t 11)))
(.pure0 none (.v (.load 45 false 1 (.t 44)))
(.pure0 none (.v (.load 46 false 1 (.t 9)))
(.pure0 none (.v (.fld 47 2 (.t 11)))
(.pure0 none (.v (.load 48 false 1 (.t 47)))
(.pure0 none (.v (.load 50 true 5 (.t 11)))
(.alt none (.p (.look 49 false (.int .i64) (.raw (.slice none 0 0)) (.t 46) (.t 48)))
(.alt none (.e (.mkl 51 37 5 1 (.agg [(.int .i64 0),(.int .i64 0),(.int .i64 0),(.raw (.slice none 0 0)),(.raw (.slice none 0 0))]) [(0,(.t 50))]))
(.alt none (.e (.app 52 37 5 72 (.t 49) (.t 51)))
(.alt none (.e (.mput (.int .i64) (.t 43) (.t 45) (.t 52)))
.done
.stop)
.stop)
.stop)
(.alt none (.e (.mkl 51 37 5 1 (.agg [(.int .i64 0),(.int .i64 0),(.int .i64 0),(.raw (.slice none 0 0)),(.raw (.slice none 0 0))]) [(0,(.t 50))]))
(.alt none (.p (.look 49 false (.int .i64) (.raw (.slice none 0 0)) (.t 46) (.t 48)))
(.alt none (.e (.app 52 37 5 72 (.t 49) (.t 51)))
(.alt none (.e (.mput (.int .i64) (.t 43) (.t 45) (.t 52)))
.done
.stop)
.stop)
.stop)
.stop))))))))))
.skip))))
(.ops [(none,.v (.bin 53 .add false (.t 36) (.c (.int .i64 1)))),
(none,.v (.mov 36 (.t 53)))])))))))
(.seq (.ops [(none,.e (.alloc 12 [(.raw .nilFunc)]))])
(.seq (.ops [(none,.v (.fn 54 (.func 22) [] [(.t 1),(.t 9),(.t 7),(.t 6),(.t 12),(.t 8),(.t 5)])),
(none,.e (.store 1 false (.t 12) (.t 54)))])
(.seq (.ops [(none,.v (.load 56 false 1 (.t 12))),
(none,.e (.callv (some 57) (.t 56) [(.c (.raw (.slice none 0 0)))])),
(none,.v (.mov 55 (.t 57))),
(none,.v (.ext 58 0 (.t 55))),
(none,.v (.ext 59 1 (.t 55))),
(none,.v (.mov 13 (.t 58))),
(none,.v (.mov 14 (.t 59)))])
(.seq (.seq (.ops [(none,.v (.mov 60 (.t 14))),
(none,.v (.not 61 (.t 60)))])
(.cond 61
(.seq (.ops [(none,.v (.mov 2 (.c (.raw (.slice none 0 0))))),
(none,.v (.mov 3 (.c (.bool false)))),
(none,.v (.mov 4 (.c (.int .i64 0))))])
.ret)
.skip))
(.seq (.ops [(none,.v (.mov 62 (.t 13))),
(none,.v (.mov 2 (.t 62))),
(none,.v (.mov 3 (.c (.bool true)))),
(none,.v (.mov 4 (.c (.int .i64 0))))])
.ret)))))))))))))
theorem ok7 : FnOk E 7 63 [.tmp 2, .tmp 3, .tmp 4] mc7 := .of func7 (by kernel_rfl) (by kernel_rfl) (by kernel_rfl) (by kernel_rfl) (by kernel_rfl)
end Go.Proofs.Try
namespace Go.Proofs.Try
open Go.Proofs.Tryz
open Go.Al
set_option linter.unusedVariables false
set_option linter.unusedSimpArgs false
set_option maxRecDepth 20000
set_option maxHeartbeats 16000000

theorem vw_vP {H : List AObj} {l : List Nat} {n : Nat} (m : List (Int × (Int × Int))) : (vM kp m).map (vw H l (n + 2)) = vM kp m := by
  unfold vM
  rw [List.map_map]
  exact List.map_congr_left fun p _ => by simp [kp, vw_agg, vw_int]
theorem ids_inj {m : List (Int × (Nat × List Hap))} (h : (m.map (·.2.1)).Nodup) {p q : Int × (Nat × List Hap)} (hp : p ∈ m) (hq : q ∈ m) (e : p.2.1 = q.2.1) : p.1 = q.1 := by
  induction m with
  | nil => simp at hp
  | cons u m ih =>
    simp only [List.map_cons,List.nodup_cons] at h
    rcases List.mem_cons.1 hp with hp' | hp' <;> rcases List.mem_cons.1 hq with hq' | hq'
    · rw [hp', hq']
    · exact (h.1 (List.mem_map.2 ⟨q, hq', by rw [← e, hp']⟩)).elim
    · exact (h.1 (List.mem_map.2 ⟨p, hp', by rw [e, hq']⟩)).elim
    · exact ih h.2 hp' hq'
theorem vw_hap1 {H : List AObj} {l : List Nat} {n : Nat} (v : Hap) : vw H l (n + 1) v.av = v.av := by simp [Hap.av, vw_agg, vw_int, vw_view]
def seenV (p : Nat × List Hap) : AV := .view 5 (p.2.map Hap.av)
theorem spine7 : ∀ fn, E.P.funcs[7]? = some fn → fn.body.map (Go.Al.spine 11) = some true := fun fn h => by
  have e := func7.symm.trans h
  injection e with e
  subst e
  rfl
theorem c7 (h : List Hap) (h410 : h.length ≤ 1000000) : ACalls E.P 7 [.view 5 (h.map Hap.av)] [] (fun r H => r = .tup [.view 1 ((explainH h).1.map (AV.int .i64)), .bool (explainH h).2.1, .int .i64 (explainH h).2.2] ∧ H = []) := by
  have hmax := maxLen_eq
  have h10 := c17 h h410
  have h47 := c18 h h410
  have h9 := c19 h
  refine ok7.acallsF hE hm (by simp) 11 spine7 fun N hN => ?_
  unfold mc7
  refine mf_i ?_
  simp only [lA,ptrCells,ptrAdd,isNil,readsV,readsP,isCall,wrote,srcOf,seval]
  repeat' (first | (with_reducible apply St.o; constructor) <;> intro _ | (with_reducible first | refine LenR_i fun _ => ?_ | refine And.intro (by omega) ?_ | (apply Sp.o; constructor) | refine mkl_own ?_ | refine frz0_i ?_) | simp (maxSteps := 1000000) (disch := omega) only [lE,ptrCells,ptrAdd,isNil,readsV,readsP,isCall,wrote,srcOf,seval])
  refine mf_go (mf_i ?_)
  repeat' (first | (with_reducible apply St.o; constructor) <;> intro _ | (with_reducible first | refine LenR_i fun _ => ?_ | refine And.intro (by omega) ?_ | (apply Sp.o; constructor) | refine mkl_own ?_ | refine frz0_i ?_) | ((with_reducible apply Sc.o true; constructor); simp only [lP,seval]; refine ⟨_,h10,?_⟩; rintro _ _ ⟨rfl,rfl⟩; simp only [lA,lP,ptrCells,ptrAdd,isNil,readsV,readsP,isCall,wrote,srcOf,seval]) | simp (maxSteps := 1000000) (disch := omega) only [lE,ptrCells,ptrAdd,isNil,readsV,readsP,isCall,wrote,srcOf,seval])
  · rename_i hr
    have hr' : rightB h = false := by simpa using hr
    have he : explainH h = ([], false, 1) := by rw [explainH, if_pos hr']
    simp only [mfQ,lA,ptrCells,ptrAdd,isNil,readsV,readsP,isCall,wrote,srcOf,seval]
    refine keepw_i [] false rfl (by simp) rfl (r' := .tup [.view 1 [], .bool false, .int .i64 1]) ?_ ⟨by rw [he]; rfl,by simp only [lP,seval]⟩
    exact WeakL.tup (.cons weak_nil (.refl _))
  rename_i hr
  replace hr : rightB h = true := by simpa using hr
  have h400 := rightB_len hr
  have hl0 := lenH_pos h
  have hl1 := lenH_max hr
  obtain ⟨hs1, hs2⟩ := spans_len h h.length
  refine mf_go (mf_i ?_)
  repeat' (first | (with_reducible apply St.o; constructor) <;> intro _ | (with_reducible first | refine LenR_i fun _ => ?_ | refine And.intro (by omega) ?_ | (apply Sp.o; constructor) | refine mkl_own ?_ | refine frz0_i ?_) | ((with_reducible apply Sc.o false; constructor); simp only [lP,seval,renL_kM,renL_vI,renL_vP]; refine ⟨_,h47,?_⟩; rintro _ _ ⟨rfl,bs,c,bs2,c2,hw,rfl⟩; simp only [lA,lP,ptrCells,ptrAdd,isNil,readsV,readsP,isCall,wrote,srcOf,seval,renL_kM,renL_vI,renL_vP]) | simp (maxSteps := 1000000) (disch := omega) only [lE,ptrCells,ptrAdd,isNil,readsV,readsP,isCall,wrote,srcOf,seval,renL_kM,renL_vI,renL_vP])
  refine mf_go (mf_i ?_)
  change WfM (spansH h).1.length bs c at hw
  change (spansH h).1.length ≤ h.length at hs1
  change (spansH h).2.1.length ≤ h.length at hs2
  have hfree : (spansN h h.length).1 = (spansH h).1 := rfl
  have hknown : (spansN h h.length).2.1 = (spansH h).2.1 := rfl
  rw [hfree, hknown]
  clear h47 hfree hknown
  generalize hfr : (spansH h).1 = free at *
  generalize hkn : (spansH h).2.1 = known at *
  have hwr : IntKind.i64.wrap (lenH h - (known.length : Int)) = lenH h - known.length := wrap_i64 (by omega) (by omega)
  have hkl : (kM known).length = known.length := by simp [kM]
  repeat' (first | (with_reducible apply St.o; constructor) <;> intro _ | (with_reducible first | refine LenR_i fun _ => ?_ | refine And.intro (by omega) ?_ | (apply Sp.o; constructor) | refine mkl_own ?_ | refine frz0_i ?_) | ((with_reducible apply Sc.o true; constructor); simp only [lP,seval]; refine ⟨_,h9,?_⟩; rintro _ _ ⟨rfl,rfl⟩; simp only [lA,lP,ptrCells,ptrAdd,isNil,readsV,readsP,isCall,wrote,srcOf,seval]) | simp (maxSteps := 1000000) (disch := omega) only [lE,ptrCells,ptrAdd,isNil,readsV,readsP,isCall,wrote,srcOf,seval])
  refine mf_go (mf_i ?_)
  repeat' (first | (with_reducible apply St.o; constructor) <;> intro _ | (with_reducible first | refine LenR_i fun _ => ?_ | refine And.intro (by omega) ?_ | (apply Sp.o; constructor) | refine mkl_own ?_ | refine frz0_i ?_) | simp (maxSteps := 1000000) (disch := omega) only [lE,ptrCells,ptrAdd,isNil,readsV,readsP,isCall,wrote,srcOf,seval,hkl,hwr])
  · rename_i h8
    have he : explainH h = ([], false, 2) := by rw [explainH, if_neg (by rw [hr]; simp), hkn, if_pos h8]
    simp only [mfQ,lA,ptrCells,ptrAdd,isNil,readsV,readsP,isCall,wrote,srcOf,seval]
    refine keepw_i [] false rfl (by simp) rfl (r' := .tup [.view 1 [], .bool false, .int .i64 2]) ?_ ⟨by rw [he]; rfl,by simp only [lP,seval]⟩
    exact WeakL.tup (.cons weak_nil (.refl _))
  rename_i h8
  have h49 := c21 free bs c
  have h48 := c20 free bs c hw (by omega)
  refine mf_go (mf_i ?_)
  repeat' (first | (with_reducible apply St.o; constructor) <;> intro _ | (with_reducible first | refine LenR_i fun _ => ?_ | refine And.intro (by omega) ?_ | (apply Sp.o; constructor) | refine mkl_own ?_ | refine frz0_i ?_) | simp (maxSteps := 1000000) (disch := omega) only [lE,ptrCells,ptrAdd,isNil,readsV,readsP,isCall,wrote,srcOf,seval])
  refine callN_i [1] false (by simp) (by simp) ?_
  simp only [lP,seval,pa_kM,pa_vP]
  refine ⟨_, h49, ?_⟩
  rintro _ _ ⟨rfl, rfl⟩
  unfold spB at *
  simp only [lA,lP,ptrCells,ptrAdd,isNil,readsV,readsP,isCall,wrote,srcOf,seval,renL_kM,renL_vP]
  refine callN_i [1, 6] false (by simp) (by simp) ?_
  simp only [lP,seval,pa_kM,pa_vP]
  refine ⟨_, h48, ?_⟩
  rintro _ _ ⟨rfl, rfl⟩
  simp only [lA,lP,ptrCells,ptrAdd,isNil,readsV,readsP,isCall,wrote,srcOf,seval,renL_kM,renL_vP,renL_ints]
  refine mf_go (mf_i ?_)
  repeat' (first | (with_reducible apply St.o; constructor) <;> intro _ | (with_reducible first | refine LenR_i fun _ => ?_ | refine And.intro (by omega) ?_ | (apply Sp.o; constructor) | refine mkl_own ?_ | refine frz0_i ?_) | simp (maxSteps := 1000000) (disch := omega) only [lE,ptrCells,ptrAdd,isNil,readsV,readsP,isCall,wrote,srcOf,seval])
  refine mf_to (fr' := [(1, .vp [.view 5 (h.map Hap.av)]),(5, .vp [.mview (kM free) (vM kp free)]),(6, .vp [.mview (kM known) (vM (AV.int .i64) known)]),(7, .vp [.int .i64 (lenH h)]),(8, .vp [.view 1 ((srt (free.map (·.1))).map (AV.int .i64))]),(9, .op 0 0)]) (H' := [.box [.mp 1], .map [] [] [] 0]) (Ent.to [9, 8] true (by simp) (by simp) rfl (by simp only [lP,seval,vw_kM,vw_vI,vw_vP] <;> (try simp) <;> (try omega)) (by simp only [lP,seval,vw_kM,vw_vI,vw_vP] <;> (try simp) <;> (try omega))) (mf_i ?_)
  repeat' (first | (with_reducible apply St.o; constructor) <;> intro _ | (with_reducible first | refine LenR_i fun _ => ?_ | refine And.intro (by omega) ?_ | (apply Sp.o; constructor) | refine mkl_own ?_ | refine frz0_i ?_) | simp (maxSteps := 1000000) (disch := omega) only [lE,ptrCells,ptrAdd,isNil,readsV,readsP,isCall,wrote,srcOf,seval])
  refine loop_i (fun p : Nat × List (Int × (Nat × List Hap)) × List Nat × Nat × List AObj => p.1 ≤ h.length ∧ SeenR (h.take p.1) p.2.1 ∧ SeenH p.2.1 p.2.2.2.2 ∧ p.2.2.2.2[1]? = some (.map (kM p.2.1) (vM slcV p.2.1) p.2.2.1 p.2.2.2.1) ∧ ∀ q ∈ p.2.1, q.2.2.length ≤ p.1)
    (fun p => ⟨[(1, .vp [.view 5 (h.map Hap.av)]), (5, .vp [.mview (kM free) (vM kp free)]), (6, .vp [.mview (kM known) (vM (AV.int .i64) known)]), (7, .vp [.int .i64 (lenH h)]), (8, .vp [.view 1 ((srt (free.map (·.1))).map (AV.int .i64))]), (9, .op 0 0), (34, .view 5 (h.map Hap.av)), (35, .int .i64 h.length), (36, .int .i64 p.1)], p.2.2.2.2⟩) (fun p => h.length - p.1) (0, [], [], 0, [.box [.mp 1], .map [] [] [] 0])
    ⟨by simp, fun k => rfl, ⟨by simp, rfl, .nil, .nil, by simp⟩, rfl, by simp⟩ (Ent.fr (by simp [FrSub, Go.Al.get])) ?_
  · rintro ⟨i, m, bs3, c3, H⟩ ⟨hi, hsr, hsh, hmp, hsl⟩
    simp only at hi hsr hsh hmp hsl ⊢
    by_cases hil : i < h.length
    · have htk := take_succD hil
      have hlook := look_m slcV (.raw (.slice none 0 0)) m (h.getD i default).st
      generalize hx : h.getD i default = x at *
      have hln := hsh.len
      have hbx := hsh.box
      by_cases hk : x.k = 5
      · have hsr2 : ∀ n l, l = seenL (h.take i) x.st → SeenR (h.take (i + 1)) (setM m x.st (n, l ++ [x])) := fun n l hl => by rw [htk]; exact hsr.see hk hl
        have hgl := hsr x.st
        have hxa : AV.agg [AV.int .i64 5, AV.int .i64 x.tx, AV.int .i64 x.st, AV.view 4 (x.ws.map Wr.av), AV.view 4 (x.rs.map Hd.av)] = x.av := by rw [← hk]; rfl
        have g0 : ∀ o, (H ++ [o])[0]? = some (.box [.mp 1]) := fun o => by rw [at_app _ _ 0 (by omega)]; exact hbx
        have g1 : ∀ o, (H ++ [o])[1]? = some (.map (kM m) (vM slcV m) bs3 c3) := fun o => by rw [at_app _ _ 1 (by omega)]; exact hmp
        rcases hgm : getM m x.st with _ | ⟨a, l⟩
        · rw [hgm] at hlook hgl
          have hgl2 : [] = seenL (h.take i) x.st := hgl
          obtain ⟨b4, c1004, hput⟩ := put_m slcV m bs3 c3 x.st (H.length + 1, [x])
          have hput2 : putK (.int .i64) (kM m) (vM slcV m) bs3 c3 (.int .i64 x.st) (.slc (H.length + 1) 5 1) = some (.map (kM (setM m x.st (H.length + 1, [x]))) (vM slcV (setM m x.st (H.length + 1, [x]))) b4 c1004) := hput
          have h0r : ∀ o, ((H ++ [o]).set 1 .dead)[0]? = some (.box [.mp 1]) := fun o => by rw [at_set _ _ 1 0 (by omega)]; exact g0 o
          have h0x : ∀ o, ((H ++ [o]).set 1 .dead)[H.length]? = some o := fun o => by rw [at_set _ _ 1 _ (by omega)]; simp
          have g11 : ∀ o o', (H ++ [o] ++ [o'])[1]? = some (.map (kM m) (vM slcV m) bs3 c3) := fun o o' => by rw [at_app _ _ 1 (by simp <;> omega)]; exact g1 o
          repeat' (first | (with_reducible apply St.o; constructor) <;> intro _ | ((with_reducible refine mkl_view ?_ ?_ ?_); (focus decide); (focus rfl)) | (with_reducible first | refine LenR_i fun _ => ?_ | refine And.intro (by omega) ?_ | (apply Sp.o; constructor) | refine mkl_own ?_ | refine frz0_i ?_) | with_reducible refine any_i [1] ?_ | simp (maxSteps := 1000000) (disch := omega) only [lE,ptrCells,ptrAdd,isNil,readsV,readsP,isCall,wrote,srcOf,seval,IdxR_haps,hx,hk,g0,g1,g11,h0r,h0x,get_last,set_last,hlook,hput2,List.mem_singleton,Int.toNat_natCast,List.length_map,fillE,setAll,List.length_cons,List.length_nil,List.length_append])
          all_goals try (exfalso; omega)
          all_goals
            refine back_i (i + 1, setM m x.st (H.length + 1, [x]), b4, c1004, _) ?_ (by simp only; omega) (Ent.fr (by simp [FrSub, Go.Al.get]))
            refine ⟨by simp only; omega, hsr2 _ _ hgl2, ?_, at_same _ _ 1 (by simp <;> omega), fun q hq => ?_⟩
            · refine hsh.put (by omega) (by simp <;> omega) (by rw [at_set _ _ 1 0 (by omega), at_app _ _ 0 (by simp <;> omega), at_app _ _ 0 (by omega)]) (fun p hp => ?_) ?_ (fun p hp _ => ?_)
              · have := (List.getElem?_eq_some_iff.1 (hsh.at' p hp).2).1
                omega
              · rw [at_set _ _ 1 _ (by omega), show H.length + 1 = (H ++ [AObj.box [AV.int .i64 5, AV.int .i64 x.tx, AV.int .i64 x.st, AV.view 4 (x.ws.map Wr.av), AV.view 4 (x.rs.map Hd.av)]]).length by simp, get_last, hxa]; rfl
              · have h1 := (hsh.at' p hp).1
                have h2 := (List.getElem?_eq_some_iff.1 (hsh.at' p hp).2).1
                rw [at_set _ _ 1 _ (by omega), at_app _ _ _ (by simp <;> omega), at_app _ _ _ (by omega)]
            · rcases mem_setM hq with rfl | hq
              · simp
              · have := hsl q hq
                simp only
                omega
        · rw [hgm] at hlook hgl
          have hgl2 : l = seenL (h.take i) x.st := hgl
          obtain ⟨ha2, ha⟩ := hsh.at' _ (getM_mem hgm)
          simp only at ha2 ha
          have hal := (List.getElem?_eq_some_iff.1 ha).1
          have hll := hsl _ (getM_mem hgm)
          simp only at hll
          obtain ⟨b4, c1004, hput⟩ := put_m slcV m bs3 c3 x.st (H.length + 1, l ++ [x])
          have hput2 : putK (.int .i64) (kM m) (vM slcV m) bs3 c3 (.int .i64 x.st) (.slc (H.length + 1) 5 (l.length + 1)) = some (.map (kM (setM m x.st (H.length + 1, l ++ [x]))) (vM slcV (setM m x.st (H.length + 1, l ++ [x]))) b4 c1004) := by
            rw [← hput]; simp [slcV]
          simp only [slcV] at hlook
          have h0r : ∀ o, (((H ++ [o]).set a .dead).set 1 .dead)[0]? = some (.box [.mp 1]) := fun o => by rw [at_set _ _ 1 0 (by omega), at_set _ _ a 0 (by omega)]; exact g0 o
          have h0x : ∀ o, (((H ++ [o]).set a .dead).set 1 .dead)[H.length]? = some o := fun o => by rw [at_set _ _ 1 _ (by omega), at_set _ _ a _ (by omega)]; simp
          have g2 : ∀ o, (H ++ [o])[a]? = some (.arr 37 5 (l.map Hap.av)) := fun o => by rw [at_app _ _ a (by omega)]; exact ha
          have g11 : ∀ o o', ((H ++ [o]).set a .dead ++ [o'])[1]? = some (.map (kM m) (vM slcV m) bs3 c3) := fun o o' => by rw [at_app _ _ 1 (by simp <;> omega), at_set _ _ a 1 (by omega)]; exact g1 o
          repeat' (first | (with_reducible apply St.o; constructor) <;> intro _ | ((with_reducible refine mkl_view ?_ ?_ ?_); (focus decide); (focus rfl)) | (with_reducible first | refine LenR_i fun _ => ?_ | refine And.intro (by omega) ?_ | (apply Sp.o; constructor) | refine mkl_own ?_ | refine frz0_i ?_) | with_reducible refine any_i [1,a] ?_ | simp (maxSteps := 1000000) (disch := omega) only [lE,ptrCells,ptrAdd,isNil,readsV,readsP,isCall,wrote,srcOf,seval,IdxR_haps,hx,hk,g0,g1,g2,g11,h0r,h0x,get_last,set_last,hlook,hput2,List.mem_cons,List.mem_singleton,List.not_mem_nil,Int.toNat_natCast,List.length_map,fillE,setAll,List.length_cons,List.length_nil,List.length_append,List.length_set])
          all_goals try (exfalso; omega)
          all_goals
            refine back_i (i + 1, setM m x.st (H.length + 1, l ++ [x]), b4, c1004, _) ?_ (by simp only; omega) (Ent.fr (by simp [FrSub, Go.Al.get]))
            refine ⟨by simp only; omega, hsr2 _ _ hgl2, ?_, at_same _ _ 1 (by simp <;> omega), fun q hq => ?_⟩
            · refine hsh.put (by omega) (by simp <;> omega) (by rw [at_set _ _ 1 0 (by omega), at_app _ _ 0 (by simp <;> omega), at_set _ _ a 0 (by omega), at_app _ _ 0 (by omega)]) (fun p hp => ?_) ?_ (fun p hp hpr => ?_)
              · have := (List.getElem?_eq_some_iff.1 (hsh.at' p hp).2).1
                omega
              · rw [at_set _ _ 1 _ (by omega), show H.length + 1 = ((H ++ [AObj.box [AV.int .i64 5, AV.int .i64 x.tx, AV.int .i64 x.st, AV.view 4 (x.ws.map Wr.av), AV.view 4 (x.rs.map Hd.av)]]).set a .dead).length by simp, get_last, hxa, List.map_append]; rfl
              · have h1 := (hsh.at' p hp).1
                have h2 := (List.getElem?_eq_some_iff.1 (hsh.at' p hp).2).1
                have hpa : a ≠ p.2.1 := fun e => hpr (ids_inj hsh.ids hp (getM_mem hgm) e.symm)
                rw [at_set _ _ 1 _ (by omega), at_app _ _ _ (by simp <;> omega), at_set _ _ a _ hpa, at_app _ _ _ (by omega)]
            · rcases mem_setM hq with rfl | hq
              · simp only [List.length_append,List.length_cons,List.length_nil]
                omega
              · have := hsl q hq
                simp only
                omega
      · repeat' (first | (with_reducible apply St.o; constructor) <;> intro _ | (with_reducible first | refine LenR_i fun _ => ?_ | refine And.intro (by omega) ?_ | (apply Sp.o; constructor) | refine mkl_own ?_ | refine frz0_i ?_) | simp (maxSteps := 1000000) (disch := omega) only [lE,ptrCells,ptrAdd,isNil,readsV,readsP,isCall,wrote,srcOf,seval,IdxR_haps,hx,hk,get_last,set_last,Int.toNat_natCast,List.length_map,fillE,List.length_cons,List.length_nil])
        all_goals try (exfalso; omega)
        refine back_i (i + 1, m, bs3, c3, _) ?_ (by simp only; omega) (Ent.fr (by simp [FrSub, Go.Al.get]))
        refine ⟨by simp only; omega, by rw [htk]; exact hsr.other hk, hsh.ext (by simp) fun j _ hj => at_app _ _ _ hj, by rw [at_app _ _ 1 (by omega)]; exact hmp, fun q hq => by
          have := hsl q hq
          simp only
          omega⟩
    · have hie : i = h.length := by omega
      subst hie
      repeat' (first | (with_reducible apply St.o; constructor) <;> intro _ | (with_reducible first | refine LenR_i fun _ => ?_ | refine And.intro (by omega) ?_ | (apply Sp.o; constructor) | refine mkl_own ?_ | refine frz0_i ?_) | simp (maxSteps := 1000000) (disch := omega) only [lE,ptrCells,ptrAdd,isNil,readsV,readsP,isCall,wrote,srcOf,seval,List.length_map,Int.lt_irrefl,decide_false])
      rw [List.take_length] at hsr
      have hln := hsh.len
      have hbx := hsh.box
      have hls : ∀ n, (vM slcV m).map (vw (H ++ [.box [.fn (.func 22) [] [.vp [.view 5 (h.map Hap.av)], .op 0 0, .vp [.int .i64 (lenH h)], .vp [.mview (kM known) (vM (AV.int .i64) known)], .op H.length 0, .vp [.view 1 ((srt (free.map (·.1))).map (AV.int .i64))], .vp [.mview (kM free) (vM kp free)]]]]) [H.length] (n + 2)) = vM seenV m := fun n => by
        unfold vM
        rw [List.map_map]
        refine List.map_congr_left fun p hp => ?_
        obtain ⟨h1, h2⟩ := hsh.at' p hp
        have h3 := (List.getElem?_eq_some_iff.1 h2).1
        have hps : pos [H.length] p.2.1 0 = none := by
          have : ¬ H.length = p.2.1 := by omega
          simp [pos, this]
        simp only [Function.comp,slcV,seenV,vw_slc,hps,at_app _ _ _ h3,h2]
        rw [vwS_arr (by simp)]
        rw [map_same (fun x => vw_hap1 x)]
      have g0 : ∀ o, (H ++ [o])[0]? = some (.box [.mp 1]) := fun o => by rw [at_app _ _ 0 (by omega)]; exact hbx
      have g1 : ∀ o, (H ++ [o])[1]? = some (.map (kM m) (vM slcV m) bs3 c3) := fun o => by rw [at_app _ _ 1 (by omega)]; exact hmp
      refine mf_go (mf_i ?_)
      simp only [lA,ptrCells,ptrAdd,isNil,readsV,readsP,isCall,wrote,srcOf,seval]
      refine mf_go (mf_i ?_)
      simp only [lA,ptrCells,ptrAdd,isNil,readsV,readsP,isCall,wrote,srcOf,seval,get_last,set_last]
      have hp0 : pos [H.length] 0 0 = none := by
        have : ¬ H.length = 0 := by omega
        simp [pos, this]
      have hp1 : pos [H.length] 1 0 = none := by
        have : ¬ H.length = 1 := by omega
        simp [pos, this]
      have hpl : pos [H.length] H.length 0 = some 0 := by simp [pos]
      obtain ⟨n, hn⟩ : ∃ n : Nat, lenH h = n := ⟨(lenH h).toNat, by omega⟩
      let C : AV → List AV := envC h (kM m) (vM seenV m) n known (srt (free.map (·.1))) free
      have hC : ∀ H n, (C (.op 0 0)).map (vw H [] n) = C (vw H [] n (.op 0 0)) := fun H n => by
        simp only [C,envC,List.map_cons,List.map_nil,vw_vp]
      have hent1 : Ent 0 N ⟨(12, .op H.length 0) :: [], H ++ [.box [.fn (.func 22) [] [.vp [.view 5 (h.map Hap.av)], .op 0 0, .vp [.int .i64 (lenH h)], .vp [.mview (kM known) (vM (AV.int .i64) known)], .op H.length 0, .vp [.view 1 ((srt (free.map (·.1))).map (AV.int .i64))], .vp [.mview (kM free) (vM kp free)]]]]⟩ ⟨[(12, .op 0 0)], [.box [.fn (.func 22) [] (C (.op 0 0))]]⟩ := by
        refine Ent.to [H.length] true (by simp) (by simp) rfl ?_ ?_
        · simp [FrLe, Go.Al.get, lP, seval, hpl]
        · simp only [lP,seval,hpl,hp0,hp1,get_last,g0,g1,vw_kM,hls,C,envC]
          rw [hn]
      have hent2 : Ent 0 N ⟨[(12, .op 0 0)], [.box [.fn (.func 22) [] (C (.op 0 0))]]⟩ ⟨[(12, vKn 22 C (n + 2))], []⟩ := by
        refine Ent.lendAt (2 * (n + 2)) ⟨?_, trivial⟩
        exact vw_knot 22 C hC (n + 2)
      refine mf_to ((Ent.fr (fr' := [(12, .op H.length 0)]) (by simp [FrSub, Go.Al.get])).trans (hent1.trans hent2)) (mf_i ?_)
      simp only [lA,ptrCells,ptrAdd,isNil,readsV,readsP,isCall,wrote,srcOf,seval,vKn]
      have hsn : SeenOk (kM m) (vM seenV m) (seenL h) := fun k => by
        have h1 := look_m seenV (.raw (.slice none 0 0)) m k
        have h2 := hsr k
        rcases hg : getM m k with _ | p
        · rw [hg] at h1 h2
          exact ⟨false, .inr ⟨h1, h2.symm⟩⟩
        · rw [hg] at h1 h2
          have h2 : p.2 = seenL h k := h2
          refine ⟨true, .inl ?_⟩
          rw [← h2]
          exact h1
      have h50 := ACalls.argGhost (H := []) 3 1 (by omega) (c22 h hr (kM m) (vM seenV m) (seenL h) hsn n (by omega) known (srt (free.map (·.1))) free (n + 1) [] (by simp) (by omega))
      rw [vK_eq] at h50
      have hex : explainH h = match srch h (seenL h) n (getM known) (srt (free.map (·.1))) (fun tx => (getM free tx).getD (0, 0)) (n + 1) [] with
          | some l => (l, true, 0)
          | none => ([], false, 0) := by
        rw [explainH, if_neg (by rw [hr]; simp), hkn, if_neg h8, hfr, hn]
        rfl
      generalize srch h (seenL h) n (getM known) (srt (free.map (·.1))) (fun tx => (getM free tx).getD (0, 0)) (n + 1) [] = S at *
      have hCd : C (AV.vp [AV.fn (Fn.func 22) [] (C (vKn 22 C n))]) = envC h (kM m) (vM seenV m) n known (srt (free.map (·.1))) free (vKn 22 (envC h (kM m) (vM seenV m) n known (srt (free.map (·.1))) free) (n + 1)) := rfl
      rw [hCd]
      have hpaC : ∀ V ids bor (H : List AObj), (∀ k, pa H ids bor (k + 1) V = V) → (envC h (kM m) (vM seenV m) n known (srt (free.map (·.1))) free V).map (pa H ids bor 8) = envC h (kM m) (vM seenV m) n known (srt (free.map (·.1))) free V := fun V ids bor H hV => by
        simp only [envC,List.map_cons,List.map_nil,pa_vp,hV]
      refine callN_i [] false (by simp) (by simp) ?_
      simp only [lP,seval]
      rw [hpaC _ _ _ _ (fun k => rfl)]
      refine ⟨_, h50, ?_⟩
      rcases S with _ | l
      · rintro _ _ ⟨rfl, rfl⟩
        simp only [lA,lP,ptrCells,ptrAdd,isNil,readsV,readsP,isCall,wrote,srcOf,seval]
        refine mf_go (mf_last ?_)
        repeat' (first | (with_reducible apply St.o; constructor) <;> intro _ | (with_reducible first | refine LenR_i fun _ => ?_ | refine And.intro (by omega) ?_ | (apply Sp.o; constructor) | refine mkl_own ?_ | refine frz0_i ?_) | simp (maxSteps := 1000000) (disch := omega) only [lE,ptrCells,ptrAdd,isNil,readsV,readsP,isCall,wrote,srcOf,seval])
        refine keepw_i [] false rfl (by simp) rfl (r' := .tup [.view 1 [], .bool false, .int .i64 0]) ?_ ⟨by rw [hex]; rfl,by simp only [lP,seval]⟩
        exact WeakL.tup (.cons weak_nil (.refl _))
      · rintro _ _ (⟨rfl, rfl, rfl⟩ | ⟨rfl, rfl⟩)
        · simp only [lA,lP,ptrCells,ptrAdd,isNil,readsV,readsP,isCall,wrote,srcOf,seval]
          refine mf_go (mf_last ?_)
          repeat' (first | (with_reducible apply St.o; constructor) <;> intro _ | (with_reducible first | refine LenR_i fun _ => ?_ | refine And.intro (by omega) ?_ | (apply Sp.o; constructor) | refine mkl_own ?_ | refine frz0_i ?_) | simp (maxSteps := 1000000) (disch := omega) only [lE,ptrCells,ptrAdd,isNil,readsV,readsP,isCall,wrote,srcOf,seval])
          exact keep_i [] true rfl (by simp) rfl ⟨by rw [hex]; rfl,by simp only [lP,seval]⟩
        · simp only [lA,lP,ptrCells,ptrAdd,isNil,readsV,readsP,isCall,wrote,srcOf,seval]
          refine mf_go (mf_last ?_)
          repeat' (first | (with_reducible apply St.o; constructor) <;> intro _ | (with_reducible first | refine LenR_i fun _ => ?_ | refine And.intro (by omega) ?_ | (apply Sp.o; constructor) | refine mkl_own ?_ | refine frz0_i ?_) | simp (maxSteps := 1000000) (disch := omega) only [lE,ptrCells,ptrAdd,isNil,readsV,readsP,isCall,wrote,srcOf,seval])
          exact keep_i [] true rfl (by simp) rfl ⟨by rw [hex]; simp only [lP,seval,renL_ints,vw_ints],by simp only [lP,seval]⟩
end Go.Proofs.Try

