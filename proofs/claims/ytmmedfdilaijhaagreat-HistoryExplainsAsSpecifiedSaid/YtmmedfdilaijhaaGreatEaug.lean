/-
  A part of the proof: see the text of the law.
-/
import Derived.Test.YtmmedfdilaijhaaGreatEauf
import Derived.Test.YtmmedfdilaijhaaGreatAlphaK
set_option linter.unusedSimpArgs false
set_option linter.unusedVariables false
namespace Go.Proofs.Try
open Go.Proofs.Tryz
open Go.Al
set_option maxRecDepth 100000
def mc22 : MC :=
(.seq (.ops [(none,.v (.mov 9 (.c (.raw (.slice none 0 0))))),
(none,.v (.mov 10 (.c (.bool false))))])
(.seq (.ops [(none,.v (.mov 20 (.t 0))),
(none,.p (.len 21 (.t 20))),
(none,.v (.mov 11 (.t 21)))])
(.seq (.ops [(none,.v (.load 22 false 1 (.t 1))),
(none,.v (.mov 23 (.t 0))),
(none,.v (.mov 24 (.t 11))),
(none,.e (.call (some 25) 23 [(.t 22),(.t 23),(.t 24)])),
(none,.e (.alloc 12 [(.raw (.slice none 0 0))])),
(none,.e (.store 1 false (.t 12) (.t 25)))])
(.seq (.seq (.ops [(none,.v (.load 26 false 1 (.t 2))),
(none,.v (.mov 27 (.t 11))),
(none,.p (.look 28 false (.int .i64) (.raw (.slice none 0 0)) (.t 26) (.t 27))),
(none,.v (.fn 29 (.func 25) [] [(.t 12)])),
(none,.e (.call (some 30) 24 [(.t 28),(.t 29)]))])
(.cond 30
(.seq (.ops [(none,.v (.mov 9 (.c (.raw (.slice none 0 0))))),
(none,.v (.mov 10 (.c (.bool false))))])
.ret)
.skip))
(.seq (.seq (.ops [(none,.v (.mov 31 (.t 11))),
(none,.v (.load 32 false 1 (.t 3))),
(none,.v (.bin 33 .eql false (.t 31) (.t 32)))])
(.cond 33
(.seq (.ops [(none,.v (.mov 34 (.t 0))),
(none,.v (.load 35 false 1 (.t 1))),
(none,.v (.mov 36 (.t 0))),
(none,.e (.call (some 37) 10 [(.t 35),(.t 36)])),
(none,.v (.bin 38 .eql false (.t 37) (.c (.int .i64 (-1))))),
(none,.v (.mov 9 (.t 34))),
(none,.v (.mov 10 (.t 38)))])
.ret)
.skip))
(.seq (.seq (.ops [(none,.v (.load 40 false 1 (.t 4))),
(none,.v (.mov 41 (.t 11))),
(none,.v (.bin 42 .add false (.t 41) (.c (.int .i64 1)))),
(none,.p (.look 43 true (.int .i64) (.int .i64 0) (.t 40) (.t 42))),
(none,.v (.mov 39 (.t 43))),
(none,.v (.ext 44 0 (.t 39))),
(none,.v (.ext 45 1 (.t 39))),
(none,.v (.mov 13 (.t 44))),
(none,.v (.mov 14 (.t 45)))])
(.seq (.ops [(none,.v (.mov 46 (.t 14)))])
(.cond 46
(.seq (.any true (.pure0 none (.v (.load 47 false 1 (.t 5)))
(.pure0 none (.v (.mov 48 (.t 0)))
(.pure0 none (.v (.mov 50 (.t 13)))
(.alt none (.e (.call (some 49) 27 [(.t 48)]))
(.alt none (.e (.mkl 51 3 1 1 (.int .i64 0) [(0,(.t 50))]))
(.alt none (.e (.app 52 3 1 8 (.t 49) (.t 51)))
(.alt none (.e (.callv (some 53) (.t 47) [(.t 52)]))
(.pure1 none (.v (.ext 54 0 (.t 53)))
(.pure1 none (.v (.ext 55 1 (.t 53)))
(.pure1 none (.v (.mov 9 (.t 54)))
(.pure1 none (.v (.mov 10 (.t 55)))
.done))))
.stop)
.stop)
.stop)
(.alt none (.e (.mkl 51 3 1 1 (.int .i64 0) [(0,(.t 50))]))
(.alt none (.e (.call (some 49) 27 [(.t 48)]))
(.alt none (.e (.app 52 3 1 8 (.t 49) (.t 51)))
(.alt none (.e (.callv (some 53) (.t 47) [(.t 52)]))
(.pure1 none (.v (.ext 54 0 (.t 53)))
(.pure1 none (.v (.ext 55 1 (.t 53)))
(.pure1 none (.v (.mov 9 (.t 54)))
(.pure1 none (.v (.mov 10 (.t 55)))
.done))))
.stop)
.stop)
.stop)
.stop))))))
.ret)
.skip)))
(.seq (.seq (.ops [(none,.v (.load 56 false 1 (.t 6))),
(none,.p (.len 57 (.t 56))),
(none,.v (.mov 58 (.c (.int .i64 0))))])
(.block 0 (.loop (.seq (.ops [(none,.v (.bin 59 .lss false (.t 58) (.t 57)))])
(.seq (.cond 59
.skip
(.exit 0))
(.seq (.block 1 (.seq (.ops [(none,.p (.idx 60 1 (.t 56) (.t 58))),
(none,.v (.load 61 false 1 (.t 60))),
(none,.v (.mov 16 (.t 61)))])
(.seq (.seq (.ops [(none,.v (.load 62 false 1 (.t 7))),
(none,.v (.mov 63 (.t 16))),
(none,.p (.look 64 false (.int .i64) (.agg [(.int .i64 0),(.int .i64 0)]) (.t 62) (.t 63))),
(none,.e (.alloc 17 [(.int .i64 0),(.int .i64 0)])),
(none,.e (.store 2 true (.t 17) (.t 64)))])
(.seq (.ops [(none,.v (.mov 65 (.t 11))),
(none,.v (.bin 66 .add false (.t 65) (.c (.int .i64 1)))),
(none,.v (.fld 67 0 (.t 17))),
(none,.v (.load 68 false 1 (.t 67))),
(none,.v (.bin 69 .lss false (.t 66) (.t 68))),
(none,.v (.mov 70 (.t 69))),
(some (70,false),.v (.mov 71 (.t 11))),
(some (70,false),.v (.bin 72 .add false (.t 71) (.c (.int .i64 1)))),
(some (70,false),.v (.fld 73 1 (.t 17))),
(some (70,false),.v (.load 74 false 1 (.t 73))),
(some (70,false),.v (.bin 75 .gtr false (.t 72) (.t 74))),
(none,.v (.pick 76 (.t 70) (.c (.bool true)) (.t 75))),
(none,.v (.mov 77 (.t 76))),
(some (77,false),.v (.mov 78 (.t 0))),
(some (77,false),.v (.mov 79 (.t 16))),
(some (77,false),.e (.call (some 80) 28 [(.t 78),(.t 79)])),
(none,.v (.pick 81 (.t 77) (.c (.bool true)) (.t 80)))])
(.cond 81
(.exit 1)
.skip)))
(.seq (.any true (.pure0 none (.v (.load 83 false 1 (.t 5)))
(.pure0 none (.v (.mov 84 (.t 0)))
(.pure0 none (.v (.mov 86 (.t 16)))
(.alt none (.e (.call (some 85) 27 [(.t 84)]))
(.alt none (.e (.mkl 87 3 1 1 (.int .i64 0) [(0,(.t 86))]))
(.alt none (.e (.app 88 3 1 8 (.t 85) (.t 87)))
(.alt none (.e (.callv (some 89) (.t 83) [(.t 88)]))
(.pure1 none (.v (.mov 82 (.t 89)))
(.pure1 none (.v (.ext 90 0 (.t 82)))
(.pure1 none (.v (.ext 91 1 (.t 82)))
(.pure1 none (.v (.mov 18 (.t 90)))
(.pure1 none (.v (.mov 19 (.t 91)))
.done)))))
.stop)
.stop)
.stop)
(.alt none (.e (.mkl 87 3 1 1 (.int .i64 0) [(0,(.t 86))]))
(.alt none (.e (.call (some 85) 27 [(.t 84)]))
(.alt none (.e (.app 88 3 1 8 (.t 85) (.t 87)))
(.alt none (.e (.callv (some 89) (.t 83) [(.t 88)]))
(.pure1 none (.v (.mov 82 (.t 89)))
(.pure1 none (.v (.ext 90 0 (.t 82)))
(.pure1 none (.v (.ext 91 1 (.t 82)))
(.pure1 none (.v (.mov 18 (.t 90)))
(.pure1 none (.v (.mov 19 (.t 91)))
.done)))))
.stop)
.stop)
.stop)
.stop))))))
(.seq (.ops [(none,.v (.mov 92 (.t 19)))])
(.cond 92
(.seq (.ops [(none,.v (.mov 93 (.t 18))),
(none,.v (.mov 9 (.t 93))),
(none,.v (.mov 10 (.c (.bool true))))])
.ret)
.skip))))))
(.ops [(none,.v (.bin 94 .add false (.t 58) (.c (.int .i64 1)))),
(none,.v (.mov 58 (.t 94)))])))))))
(.seq (.any true (.pure0 none (.v (.load 95 false 1 (.t 5)))
(.pure0 none (.v (.mov 96 (.t 0)))
(.alt none (.e (.call (some 97) 27 [(.t 96)]))
(.alt none (.e (.mkl 98 3 1 1 (.int .i64 0) [(0,(.c (.int .i64 0)))]))
(.alt none (.e (.app 99 3 1 8 (.t 97) (.t 98)))
(.alt none (.e (.callv (some 100) (.t 95) [(.t 99)]))
(.pure1 none (.v (.ext 101 0 (.t 100)))
(.pure1 none (.v (.ext 102 1 (.t 100)))
(.pure1 none (.v (.mov 9 (.t 101)))
(.pure1 none (.v (.mov 10 (.t 102)))
.done))))
.stop)
.stop)
.stop)
(.alt none (.e (.mkl 98 3 1 1 (.int .i64 0) [(0,(.c (.int .i64 0)))]))
(.alt none (.e (.call (some 97) 27 [(.t 96)]))
(.alt none (.e (.app 99 3 1 8 (.t 97) (.t 98)))
(.alt none (.e (.callv (some 100) (.t 95) [(.t 99)]))
(.pure1 none (.v (.ext 101 0 (.t 100)))
(.pure1 none (.v (.ext 102 1 (.t 100)))
(.pure1 none (.v (.mov 9 (.t 101)))
(.pure1 none (.v (.mov 10 (.t 102)))
.done))))
.stop)
.stop)
.stop)
.stop)))))
.ret))))))))
theorem ok22 : FnOk E 22 103 [.tmp 9, .tmp 10] mc22 := .of func22 (by kernel_rfl) (by kernel_rfl) (by kernel_rfl) (by kernel_rfl) (by kernel_rfl)
def mc25 : MC :=
(.seq (.ops [(none,.e (.box 2 (.t 0))),
(none,.v (.mov 3 (.c (.bool false))))])
(.seq (.ops [(none,.v (.fld 4 4 (.t 2))),
(none,.v (.load 5 false 1 (.t 4))),
(none,.v (.load 6 false 1 (.t 1))),
(none,.e (.call (some 7) 26 [(.t 5),(.t 6)])),
(none,.v (.not 8 (.t 7))),
(none,.v (.mov 3 (.t 8)))])
.ret))
theorem ok25 : FnOk E 25 9 [.tmp 3] mc25 := .of func25 (by kernel_rfl) (by kernel_rfl) (by kernel_rfl) (by kernel_rfl) (by kernel_rfl)
end Go.Proofs.Try
namespace Go.Proofs.Try
open Go.Proofs.Tryz
open Go.Al
set_option linter.unusedVariables false
set_option linter.unusedSimpArgs false
set_option maxRecDepth 20000
set_option maxHeartbeats 8000000

def srch (h : List Hap) (sn : Int → List Hap) (n : Nat) (kn : Int → Option Int) (txs : List Int) (sp : Int → Int × Int) : Nat → List Int → Option (List Int)
  | 0, _ => none
  | f + 1, o =>
    if ((sn o.length).any fun x => !decide (x.rs = stL h o o.length)) = true then none
    else if o.length = n then (if checkH h o = -1 then some o else none)
    else match kn ((o.length : Int) + 1) with
      | some tx => srch h sn n kn txs sp f (o ++ [tx])
      | none => match txs.findSome? fun tx => if ((o.length : Int) + 1 < (sp tx).1 ∨ (sp tx).2 < (o.length : Int) + 1) ∨ tx ∈ o then none else srch h sn n kn txs sp f (o ++ [tx]) with
        | some l => some l
        | none => srch h sn n kn txs sp f (o ++ [0])
theorem c25' (rows : List Hd) (x : Hap) : ACalls E.P 25 [x.av, .vp [.view 4 (rows.map Hd.av)]] [] (fun r H => r = .bool (!decide (x.rs = rows)) ∧ H = []) := by
  have h19 := c26 x.rs rows
  refine ok25.acalls hE hm (by simp) fun N hN => ?_
  unfold mc25
  simp only [lA,ptrCells,ptrAdd,isNil,readsV,readsP,isCall,wrote,srcOf,seval,hap_av]
  repeat' (first | (with_reducible apply St.o; constructor) <;> intro _ | (with_reducible first | refine LenR_i fun _ => ?_ | refine And.intro (by omega) ?_ | (apply Sp.o; constructor) | refine mkl_own ?_ | refine frz0_i ?_) | ((with_reducible apply Sc.o true; constructor); simp only [lP,seval]; refine ⟨_,h19,?_⟩; rintro _ _ ⟨rfl,rfl⟩; simp only [lA,lP,ptrCells,ptrAdd,isNil,readsV,readsP,isCall,wrote,srcOf,seval]) | simp (maxSteps := 1000000) (disch := omega) only [lE,ptrCells,ptrAdd,isNil,readsV,readsP,isCall,wrote,srcOf,seval])
  all_goals exact keep_b rfl
theorem ACalls.weakArg {P : Program} {f : FuncId} {x y : AV} {rest : List AV} {H : List AObj} {Q : AV → List AObj → Prop} (hw : Weak x y) (h : ACalls P f (y :: rest) H Q) : ACalls P f (x :: rest) H Q :=
  ⟨h.1, fun γ σ w vs hi hv => by
    obtain ⟨v, vs', rfl, hv1, hv2⟩ := repVs_cons.1 hv
    exact h.2 γ σ w _ hi (repVs_cons.2 ⟨_, _, rfl, hw _ _ _ hv1, hv2⟩)⟩
theorem weak_junk {x : AV} : Weak x .junk := fun _ _ _ _ => trivial
def envC (h : List Hap) (snK snV : List AV) (n : Int) (knM : List (Int × Int)) (txs : List Int) (frM : List (Int × (Int × Int))) (V : AV) : List AV :=
  [.vp [.view 5 (h.map Hap.av)], .vp [.mview snK snV], .vp [.int .i64 n], .vp [.mview (kM knM) (vM (AV.int .i64) knM)], V, .vp [.view 1 (txs.map (AV.int .i64))], .vp [.mview (kM frM) (vM kp frM)]]
def SeenOk (snK snV : List AV) (sn : Int → List Hap) : Prop := ∀ k : Int, ∃ b, Al.look (.int .i64) (.raw (.slice none 0 0)) snK snV (.int .i64 k) = some (.view 5 ((sn k).map Hap.av), b) ∨ (Al.look (.int .i64) (.raw (.slice none 0 0)) snK snV (.int .i64 k) = some (.raw (.slice none 0 0), b) ∧ sn k = [])
def vK (caps : AV → List AV) : Nat → AV
  | 0 => .junk
  | d + 1 => .vp [.fn (.func 22) [] (caps (vK caps d))]
def srchQ (S : Option (List Int)) (o : List Int) (r : AV) (H : List AObj) : Prop := match S with
  | none => r = .tup [.junk, .bool false] ∧ H = [.arr 3 1 (o.map (AV.int .i64))]
  | some l => (l = o ∧ r = .tup [.slc 0 1 l.length, .bool true] ∧ H = [.arr 3 1 (o.map (AV.int .i64))]) ∨ (r = .tup [.slc 1 1 l.length, .bool true] ∧ H = [.arr 3 1 (o.map (AV.int .i64)), .arr 3 1 (l.map (AV.int .i64))])
theorem c22 (h : List Hap) (hr : rightB h = true) (snK snV : List AV) (sn : Int → List Hap) (hsn : SeenOk snK snV sn) (n : Nat) (hn : n ≤ 5000) (knM : List (Int × Int)) (txs : List Int) (frM : List (Int × (Int × Int))) :
    ∀ (fuel : Nat) (o : List Int), fuel + o.length = n + 1 → 1 ≤ fuel → ACalls E.P 22 (.slc 0 1 o.length :: envC h snK snV n knM txs frM (vK (envC h snK snV n knM txs frM) fuel)) [.arr 3 1 (o.map (AV.int .i64))]
      (srchQ (srch h sn n (getM knM) txs (fun tx => (getM frM tx).getD (0, 0)) fuel o) o)
  | 0, o, _, h1 => by omega
  | fuel + 1, o, hf, _ => by
    have hmax := maxLen_eq
    have IH := fun t (hl : o.length < n) => c22 h hr snK snV sn hsn n hn knM txs frM fuel (o ++ [t]) (by simp; omega) (by omega)
    have h20 := c23o h hr o (by omega) (o.length : Int)
    have hcl : clampN (o.length : Int) o.length = o.length := by unfold clampN; omega
    rw [hcl] at h20
    have h51 := c24 (sn o.length) 25 [.vp [.view 4 ((stL h o o.length).map Hd.av)]] (fun x => !decide (x.rs = stL h o o.length)) (fun x _ => c25' _ x) (fun H ids bor => by simp only [lP,seval]) (fun H ids bor => by simp only [lP,seval])
    have h7 := c10 h hr o (by omega)
    have h53 := c27a o (by omega)
    have h54 := fun v => c28 o v
    have hpV : ∀ H ids bor, pa H ids bor 8 (vK (envC h snK snV n knM txs frM) fuel) = vK (envC h snK snV n knM txs frM) fuel := fun H ids bor => by cases fuel <;> rfl
    obtain ⟨v0, b0, hlk, hpv, h51v⟩ : ∃ v b, Al.look (.int .i64) (.raw (.slice none 0 0)) snK snV (.int .i64 (o.length : Nat)) = some (v, b) ∧ (∀ H ids bor, pa H ids bor 8 v = v) ∧
        ACalls E.P 24 [v, .fn (.func 25) [] [.vp [.view 4 ((stL h o o.length).map Hd.av)]]] [] (fun r H => r = .bool ((sn o.length).any fun x => !decide (x.rs = stL h o o.length)) ∧ H = []) := by
      obtain ⟨b, hl | ⟨hl, he⟩⟩ := hsn o.length
      · exact ⟨_,b,hl,fun H ids bor => by simp only [lP,seval],h51⟩
      · refine ⟨_,b,hl,fun H ids bor => by simp only [lP,seval],?_⟩
        rw [he] at h51 ⊢
        exact ACalls.weakArg weak_nil h51
    clear h51 hsn
    have hlkn := look_m (AV.int .i64) (.int .i64 0) knM ((o.length : Int) + 1)
    rw [vK]
    generalize hV : vK (envC h snK snV n knM txs frM) fuel = V at *
    unfold envC at *
    refine ok22.acalls hE hm (by simp) fun N hN => ?_
    unfold mc22
    simp only [lA,ptrCells,ptrAdd,isNil,readsV,readsP,isCall,wrote,srcOf,seval]
    have hsr : srch h sn n (getM knM) txs (fun tx => (getM frM tx).getD (0, 0)) (fuel + 1) o = if ((sn o.length).any fun x => !decide (x.rs = stL h o o.length)) = true then none
      else if o.length = n then (if checkH h o = -1 then some o else none)
      else match getM knM ((o.length : Int) + 1) with
        | some tx => srch h sn n (getM knM) txs (fun tx => (getM frM tx).getD (0, 0)) fuel (o ++ [tx])
        | none => match txs.findSome? fun tx => if ((o.length : Int) + 1 < ((getM frM tx).getD (0, 0)).1 ∨ ((getM frM tx).getD (0, 0)).2 < (o.length : Int) + 1) ∨ tx ∈ o then none else srch h sn n (getM knM) txs (fun tx => (getM frM tx).getD (0, 0)) fuel (o ++ [tx]) with
          | some l => some l
          | none => srch h sn n (getM knM) txs (fun tx => (getM frM tx).getD (0, 0)) fuel (o ++ [0]) := rfl
    rw [hsr]
    clear hsr
    generalize srch h sn n (getM knM) txs (fun tx => (getM frM tx).getD (0, 0)) fuel = G at *
    generalize ((sn o.length).any fun x => !decide (x.rs = stL h o o.length)) = anyB at *
    repeat' (first | (with_reducible apply St.o; constructor) <;> intro _ | (with_reducible first | refine LenR_i fun _ => ?_ | refine And.intro (by omega) ?_ | (apply Sp.o; constructor) | refine mkl_own ?_ | refine frz0_i ?_) | simp (maxSteps := 1000000) (disch := omega) only [lE,ptrCells,ptrAdd,isNil,readsV,readsP,isCall,wrote,srcOf,seval])
    refine callN_i [0] false (by simp) (by simp) ?_
    simp only [lP,seval,pa_ints]
    refine ⟨_, h20, ?_⟩
    rintro _ _ ⟨rfl, rfl⟩
    simp only [lA,lP,ptrCells,ptrAdd,isNil,readsV,readsP,isCall,wrote,srcOf,seval,renL_ints,renL_hds]
    generalize hS : (if anyB = true then none else if o.length = n then (if checkH h o = -1 then some o else none)
      else match getM knM ((o.length : Int) + 1) with
        | some tx => G (o ++ [tx])
        | none => match txs.findSome? fun tx => if ((o.length : Int) + 1 < ((getM frM tx).getD (0, 0)).1 ∨ ((getM frM tx).getD (0, 0)).2 < (o.length : Int) + 1) ∨ tx ∈ o then none else G (o ++ [tx]) with
          | some l => some l
          | none => G (o ++ [0])) = S
    cases anyB
    · rw [if_neg (by simp)] at hS
      by_cases hon : o.length = n
      · rw [if_pos hon] at hS
        repeat' (first | (with_reducible apply St.o; constructor) <;> intro _ | (with_reducible first | refine LenR_i fun _ => ?_ | refine And.intro (by omega) ?_ | (apply Sp.o; constructor) | refine mkl_own ?_ | refine frz0_i ?_) | ((with_reducible apply Sc.o true; constructor); simp only [lP,seval,hlk,hpv,hlkn,hpV,vw_hds,pa_hds]; (first | refine ⟨_,h51v,?_⟩ | refine ⟨_,h7,?_⟩); rintro _ _ ⟨rfl,rfl⟩; simp only [lA,lP,ptrCells,ptrAdd,isNil,readsV,readsP,isCall,wrote,srcOf,seval,hlk,hpv,hlkn,hpV,vw_hds,pa_hds]) | simp (maxSteps := 1000000) (disch := omega) only [lE,ptrCells,ptrAdd,isNil,readsV,readsP,isCall,wrote,srcOf,seval,hlk,hpv,hlkn,hpV,vw_hds,pa_hds])
        all_goals try (exfalso; omega)
        by_cases hck : checkH h o = -1
        · rw [if_pos hck] at hS
          subst hS
          rw [decide_eq_true hck]
          refine keep_i [0] false (by simp) (by simp) rfl (.inl ⟨rfl, ?_, ?_⟩)
          · simp only [lP,seval]
          · simp only [lP,seval,pa_ints]
        · rw [if_neg hck] at hS
          subst hS
          rw [decide_eq_false hck]
          refine keepw_i [0] false (by simp) (by simp) rfl (r' := .tup [.junk, .bool false]) ?_ ⟨rfl, ?_⟩
          · exact WeakL.tup (.cons weak_junk (.refl _))
          · simp only [lP,seval,pa_ints]
      · rw [if_neg hon] at hS
        have hol : o.length < n := by omega
        rcases hkn : getM knM ((o.length : Int) + 1) with _ | tx
        · rw [hkn] at hS hlkn
          simp only at hS hlkn
          generalize hg : (fun tx => if ((o.length : Int) + 1 < ((getM frM tx).getD (0, 0)).1 ∨ ((getM frM tx).getD (0, 0)).2 < (o.length : Int) + 1) ∨ tx ∈ o then none else G (o ++ [tx])) = g at hS
          have hgd : ∀ tx, g tx = if ((o.length : Int) + 1 < ((getM frM tx).getD (0, 0)).1 ∨ ((getM frM tx).getD (0, 0)).2 < (o.length : Int) + 1) ∨ tx ∈ o then none else G (o ++ [tx]) := fun tx => by rw [← hg]
          repeat' (first | (with_reducible apply St.o; constructor) <;> intro _ | (with_reducible first | refine LenR_i fun _ => ?_ | refine And.intro (by omega) ?_ | (apply Sp.o; constructor) | refine mkl_own ?_ | refine frz0_i ?_ | refine any_i [] ?_) | ((with_reducible apply Sc.o true; constructor); simp only [lP,seval,hlk,hpv,hlkn,hpV,vw_hds,pa_hds,List.mem_singleton,fillE,pa_ints]; refine ⟨_,h51v,?_⟩; rintro _ _ ⟨rfl,rfl⟩; simp only [lA,lP,ptrCells,ptrAdd,isNil,readsV,readsP,isCall,wrote,srcOf,seval,hlk,hpv,hlkn,hpV,vw_hds,pa_hds,List.mem_singleton,fillE,pa_ints]) | simp (maxSteps := 1000000) (disch := omega) only [lE,ptrCells,ptrAdd,isNil,readsV,readsP,isCall,wrote,srcOf,seval,hlk,hpv,hlkn,hpV,vw_hds,pa_hds,List.mem_singleton,fillE,pa_ints])
          all_goals try (exfalso; omega)
          refine loop_i (fun j : Nat => j ≤ txs.length ∧ (txs.take j).findSome? g = none)
            (fun j => ⟨[(0, .slc 0 1 o.length), (1, .vp [.view 5 (h.map Hap.av)]), (2, .vp [.mview snK snV]), (3, .vp [.int .i64 n]), (4, .vp [.mview (kM knM) (vM (AV.int .i64) knM)]), (5, .vp [.fn (.func 22) [] [.vp [.view 5 (h.map Hap.av)], .vp [.mview snK snV], .vp [.int .i64 n], .vp [.mview (kM knM) (vM (AV.int .i64) knM)], V, .vp [.view 1 (txs.map (AV.int .i64))], .vp [.mview (kM frM) (vM kp frM)]]]), (6, .vp [.view 1 (txs.map (AV.int .i64))]), (7, .vp [.mview (kM frM) (vM kp frM)]), (11, .int .i64 o.length), (56, .view 1 (txs.map (AV.int .i64))), (57, .int .i64 txs.length), (58, .int .i64 j)], [.arr 3 1 (o.map (AV.int .i64))]⟩) (fun j => txs.length - j) 0 ⟨by omega, by simp⟩
            (Ent.to [0] false (by simp) (by simp) rfl (by simp only [lP,seval,pa_ints,List.length_map] <;> (try simp) <;> (try omega)) (by simp only [lP,seval,pa_ints,List.length_map] <;> (try simp) <;> (try omega))) ?_
          rintro j ⟨hj, hfs⟩
          by_cases hjl : j < txs.length
          · have hlk2 : Al.look (.int .i64) (.agg [.int .i64 0, .int .i64 0]) (kM frM) (vM kp frM) (.int .i64 (txs.getD j 0)) = some (kp ((getM frM (txs.getD j 0)).getD (0, 0)), (getM frM (txs.getD j 0)).isSome) := by
              rw [look_m]
              cases getM frM (txs.getD j 0) <;> rfl
            simp only [kp] at hlk2
            have hno : g (txs.getD j 0) = none → (j + 1 ≤ txs.length ∧ (txs.take (j + 1)).findSome? g = none) := fun q => ⟨by omega, by
              rw [take_succD hjl, List.findSome?_append, hfs, Option.none_or, List.findSome?_cons]
              rw [show txs.getD j default = txs.getD j 0 from rfl, q]; rfl⟩
            have hyes : ∀ l, g (txs.getD j 0) = some l → S = some l := fun l q => by
              have e : txs = txs.take j ++ txs.getD j 0 :: txs.drop (j + 1) := by
                conv => lhs; rw [← List.take_append_drop j txs, List.drop_eq_getElem_cons hjl]
                rw [List.getD_eq_getElem?_getD, List.getElem?_eq_getElem hjl, Option.getD_some]
              have e2 := congrArg (List.findSome? g) e
              rw [List.findSome?_append, hfs, Option.none_or, List.findSome?_cons, q] at e2
              rw [← hS, e2]
            rw [hgd] at hno hyes
            have hg2 : txs.getD j default = txs.getD j 0 := rfl
            generalize hg3 : txs.getD j 0 = tx at *
            generalize (getM frM tx).getD (0, 0) = sp at *
            have ih := IH tx hol
            have hll : (o ++ [tx]).length = o.length + 1 := by simp
            have hmap : o.map (AV.int .i64) ++ [.int .i64 tx] = (o ++ [tx]).map (AV.int .i64) := by simp
            rw [hll] at ih
            have h54t := h54 tx
            by_cases hskip : ((o.length : Int) + 1 < sp.1 ∨ sp.2 < (o.length : Int) + 1) ∨ tx ∈ o
            · rw [if_pos hskip] at hno
              repeat' (first | (with_reducible apply St.o; constructor) <;> intro _ | (with_reducible first | refine LenR_i fun _ => ?_ | refine And.intro (by omega) ?_ | (apply Sp.o; constructor) | refine mkl_own ?_ | refine frz0_i ?_ | refine any_i [] ?_) | ((with_reducible apply Sc.o true; constructor); simp only [lP,seval,IdxR_int,hg2,hg3,hlk2,hpV,fillE,pa_ints,Int.toNat_natCast,List.length_map]; (first | refine ⟨_,h54t,?_⟩ | refine ⟨_,h53,?_⟩); rintro _ _ ⟨rfl,rfl⟩; simp only [lA,lP,ptrCells,ptrAdd,isNil,readsV,readsP,isCall,wrote,srcOf,seval,IdxR_int,hg2,hg3,hlk2,hpV,fillE,pa_ints,Int.toNat_natCast,List.length_map]) | simp (maxSteps := 1000000) (disch := omega) only [lE,ptrCells,ptrAdd,isNil,readsV,readsP,isCall,wrote,srcOf,seval,IdxR_int,hg2,hg3,hlk2,hpV,fillE,pa_ints,Int.toNat_natCast,List.length_map])
              all_goals try (exfalso; omega)
              all_goals first
                | exact back_i (j + 1) (hno rfl) (by omega) (Ent.to [0] false (by simp) (by simp) rfl (by simp only [lP,seval,pa_ints] <;> (try simp) <;> (try omega)) (by simp only [lP,seval,pa_ints] <;> (try simp) <;> (try omega)))
                | (exfalso; rcases hskip with hq | hq <;> first | omega | contradiction)
            · rw [if_neg hskip] at hno hyes
              repeat' (first | (with_reducible apply St.o; constructor) <;> intro _ | (with_reducible first | refine LenR_i fun _ => ?_ | refine And.intro (by omega) ?_ | (apply Sp.o; constructor) | refine mkl_own ?_ | refine frz0_i ?_ | refine any_i [] ?_) | ((with_reducible apply Sc.o true; constructor); simp only [lP,seval,IdxR_int,hg2,hg3,hlk2,hpV,fillE,pa_ints,Int.toNat_natCast,List.length_map]; (first | refine ⟨_,h54t,?_⟩ | refine ⟨_,h53,?_⟩); rintro _ _ ⟨rfl,rfl⟩; simp only [lA,lP,ptrCells,ptrAdd,isNil,readsV,readsP,isCall,wrote,srcOf,seval,IdxR_int,hg2,hg3,hlk2,hpV,fillE,pa_ints,Int.toNat_natCast,List.length_map]) | simp (maxSteps := 1000000) (disch := omega) only [lE,ptrCells,ptrAdd,isNil,readsV,readsP,isCall,wrote,srcOf,seval,IdxR_int,hg2,hg3,hlk2,hpV,fillE,pa_ints,Int.toNat_natCast,List.length_map])
              all_goals try (exfalso; omega)
              all_goals try (exfalso; exact hskip (.inr (by assumption)))
              all_goals
                refine acallI_i [4] false (by simp) (by simp) (by simp) ?_
                simp only [lP,seval,hpV,hmap]
                refine ⟨_, ih, ?_⟩
                rcases hGt : G (o ++ [tx]) with _ | l
                · rintro _ _ ⟨rfl, rfl⟩
                  simp only [lA,lP,ptrCells,ptrAdd,isNil,readsV,readsP,isCall,wrote,srcOf,seval]
                  repeat' (first | (with_reducible apply St.o; constructor) <;> intro _ | (with_reducible first | refine LenR_i fun _ => ?_ | refine And.intro (by omega) ?_ | (apply Sp.o; constructor) | refine mkl_own ?_ | refine frz0_i ?_) | simp (maxSteps := 1000000) (disch := omega) only [lE,ptrCells,ptrAdd,isNil,readsV,readsP,isCall,wrote,srcOf,seval])
                  exact back_i (j + 1) (hno hGt) (by omega) (Ent.to [0] false (by simp) (by simp) rfl (by simp only [lP,seval,pa_ints] <;> (try simp) <;> (try omega)) (by simp only [lP,seval,pa_ints] <;> (try simp) <;> (try omega)))
                · rw [hyes l hGt]
                  rintro _ _ (⟨rfl, rfl, rfl⟩ | ⟨rfl, rfl⟩)
                  · simp only [lA,lP,ptrCells,ptrAdd,isNil,readsV,readsP,isCall,wrote,srcOf,seval]
                    repeat' (first | (with_reducible apply St.o; constructor) <;> intro _ | (with_reducible first | refine LenR_i fun _ => ?_ | refine And.intro (by omega) ?_ | (apply Sp.o; constructor) | refine mkl_own ?_ | refine frz0_i ?_) | simp (maxSteps := 1000000) (disch := omega) only [lE,ptrCells,ptrAdd,isNil,readsV,readsP,isCall,wrote,srcOf,seval])
                    exact keep_i [0, 4] false (by simp) (by simp) rfl (.inr ⟨by simp only [lP,seval],by simp only [lP,seval,pa_ints,renL_ints]⟩)
                  · simp only [lA,lP,ptrCells,ptrAdd,isNil,readsV,readsP,isCall,wrote,srcOf,seval]
                    repeat' (first | (with_reducible apply St.o; constructor) <;> intro _ | (with_reducible first | refine LenR_i fun _ => ?_ | refine And.intro (by omega) ?_ | (apply Sp.o; constructor) | refine mkl_own ?_ | refine frz0_i ?_) | simp (maxSteps := 1000000) (disch := omega) only [lE,ptrCells,ptrAdd,isNil,readsV,readsP,isCall,wrote,srcOf,seval])
                    exact keep_i [0, 5] false (by simp) (by simp) rfl (.inr ⟨by simp only [lP,seval],by simp only [lP,seval,pa_ints,renL_ints]⟩)
          · have hje : j = txs.length := by omega
            subst hje
            rw [List.take_length] at hfs
            rw [hfs] at hS
            simp only at hS
            have ih := IH 0 hol
            have hll : (o ++ [0]).length = o.length + 1 := by simp
            have hmap : o.map (AV.int .i64) ++ [.int .i64 0] = (o ++ [0]).map (AV.int .i64) := by simp
            rw [hS, hll] at ih
            repeat' (first | (with_reducible apply St.o; constructor) <;> intro _ | (with_reducible first | refine LenR_i fun _ => ?_ | refine And.intro (by omega) ?_ | (apply Sp.o; constructor) | refine mkl_own ?_ | refine frz0_i ?_ | refine any_i [] ?_) | ((with_reducible apply Sc.o true; constructor); simp only [lP,seval,Int.lt_irrefl,decide_false,hpV,fillE,pa_ints]; refine ⟨_,h53,?_⟩; rintro _ _ ⟨rfl,rfl⟩; simp only [lA,lP,ptrCells,ptrAdd,isNil,readsV,readsP,isCall,wrote,srcOf,seval,Int.lt_irrefl,decide_false,hpV,fillE,pa_ints]) | simp (maxSteps := 1000000) (disch := omega) only [lE,ptrCells,ptrAdd,isNil,readsV,readsP,isCall,wrote,srcOf,seval,Int.lt_irrefl,decide_false,hpV,fillE,pa_ints])
            all_goals try (exfalso; omega)
            all_goals
              refine acallI_i [3] false (by simp) (by simp) (by simp) ?_
              simp only [lP,seval,hpV,hmap]
              refine ⟨_, ih, ?_⟩
              rcases S with _ | l
              · rintro _ _ ⟨rfl, rfl⟩
                simp only [lA,lP,ptrCells,ptrAdd,isNil,readsV,readsP,isCall,wrote,srcOf,seval]
                repeat' (first | (with_reducible apply St.o; constructor) <;> intro _ | (with_reducible first | refine LenR_i fun _ => ?_ | refine And.intro (by omega) ?_ | (apply Sp.o; constructor) | refine mkl_own ?_ | refine frz0_i ?_) | simp (maxSteps := 1000000) (disch := omega) only [lE,ptrCells,ptrAdd,isNil,readsV,readsP,isCall,wrote,srcOf,seval])
                exact keep_i [0] false (by simp) (by simp) rfl ⟨rfl,by simp only [lP,seval,pa_ints]⟩
              · rintro _ _ (⟨rfl, rfl, rfl⟩ | ⟨rfl, rfl⟩)
                · simp only [lA,lP,ptrCells,ptrAdd,isNil,readsV,readsP,isCall,wrote,srcOf,seval]
                  repeat' (first | (with_reducible apply St.o; constructor) <;> intro _ | (with_reducible first | refine LenR_i fun _ => ?_ | refine And.intro (by omega) ?_ | (apply Sp.o; constructor) | refine mkl_own ?_ | refine frz0_i ?_) | simp (maxSteps := 1000000) (disch := omega) only [lE,ptrCells,ptrAdd,isNil,readsV,readsP,isCall,wrote,srcOf,seval])
                  exact keep_i [0, 3] false (by simp) (by simp) rfl (.inr ⟨by simp only [lP,seval],by simp only [lP,seval,pa_ints,renL_ints]⟩)
                · simp only [lA,lP,ptrCells,ptrAdd,isNil,readsV,readsP,isCall,wrote,srcOf,seval]
                  repeat' (first | (with_reducible apply St.o; constructor) <;> intro _ | (with_reducible first | refine LenR_i fun _ => ?_ | refine And.intro (by omega) ?_ | (apply Sp.o; constructor) | refine mkl_own ?_ | refine frz0_i ?_) | simp (maxSteps := 1000000) (disch := omega) only [lE,ptrCells,ptrAdd,isNil,readsV,readsP,isCall,wrote,srcOf,seval])
                  exact keep_i [0, 4] false (by simp) (by simp) rfl (.inr ⟨by simp only [lP,seval],by simp only [lP,seval,pa_ints,renL_ints]⟩)
        · rw [hkn] at hS hlkn
          simp only at hS hlkn
          have ih := IH tx hol
          have hll : (o ++ [tx]).length = o.length + 1 := by simp
          have hmap : o.map (AV.int .i64) ++ [.int .i64 tx] = (o ++ [tx]).map (AV.int .i64) := by simp
          rw [hS, hll] at ih
          repeat' (first | (with_reducible apply St.o; constructor) <;> intro _ | (with_reducible first | refine LenR_i fun _ => ?_ | refine And.intro (by omega) ?_ | (apply Sp.o; constructor) | refine mkl_own ?_ | refine frz0_i ?_ | refine any_i [] ?_) | ((with_reducible apply Sc.o true; constructor); simp only [lP,seval,hlk,hpv,hlkn,hpV,vw_hds,pa_hds,List.mem_singleton,fillE,pa_ints]; (first | refine ⟨_,h51v,?_⟩ | refine ⟨_,h53,?_⟩); rintro _ _ ⟨rfl,rfl⟩; simp only [lA,lP,ptrCells,ptrAdd,isNil,readsV,readsP,isCall,wrote,srcOf,seval,hlk,hpv,hlkn,hpV,vw_hds,pa_hds,List.mem_singleton,fillE,pa_ints]) | simp (maxSteps := 1000000) (disch := omega) only [lE,ptrCells,ptrAdd,isNil,readsV,readsP,isCall,wrote,srcOf,seval,hlk,hpv,hlkn,hpV,vw_hds,pa_hds,List.mem_singleton,fillE,pa_ints])
          all_goals try (exfalso; omega)
          all_goals
            refine acallI_i [4] false (by simp) (by simp) (by simp) ?_
            simp only [lP,seval,hpV,hmap]
            refine ⟨_, ih, ?_⟩
            rcases S with _ | l
            · rintro _ _ ⟨rfl, rfl⟩
              simp only [lA,lP,ptrCells,ptrAdd,isNil,readsV,readsP,isCall,wrote,srcOf,seval]
              repeat' (first | (with_reducible apply St.o; constructor) <;> intro _ | (with_reducible first | refine LenR_i fun _ => ?_ | refine And.intro (by omega) ?_ | (apply Sp.o; constructor) | refine mkl_own ?_ | refine frz0_i ?_) | simp (maxSteps := 1000000) (disch := omega) only [lE,ptrCells,ptrAdd,isNil,readsV,readsP,isCall,wrote,srcOf,seval])
              exact keep_i [0] false (by simp) (by simp) rfl ⟨rfl,by simp only [lP,seval,pa_ints]⟩
            · rintro _ _ (⟨rfl, rfl, rfl⟩ | ⟨rfl, rfl⟩)
              · simp only [lA,lP,ptrCells,ptrAdd,isNil,readsV,readsP,isCall,wrote,srcOf,seval]
                repeat' (first | (with_reducible apply St.o; constructor) <;> intro _ | (with_reducible first | refine LenR_i fun _ => ?_ | refine And.intro (by omega) ?_ | (apply Sp.o; constructor) | refine mkl_own ?_ | refine frz0_i ?_) | simp (maxSteps := 1000000) (disch := omega) only [lE,ptrCells,ptrAdd,isNil,readsV,readsP,isCall,wrote,srcOf,seval])
                exact keep_i [0, 4] false (by simp) (by simp) rfl (.inr ⟨by simp only [lP,seval],by simp only [lP,seval,pa_ints,renL_ints]⟩)
              · simp only [lA,lP,ptrCells,ptrAdd,isNil,readsV,readsP,isCall,wrote,srcOf,seval]
                repeat' (first | (with_reducible apply St.o; constructor) <;> intro _ | (with_reducible first | refine LenR_i fun _ => ?_ | refine And.intro (by omega) ?_ | (apply Sp.o; constructor) | refine mkl_own ?_ | refine frz0_i ?_) | simp (maxSteps := 1000000) (disch := omega) only [lE,ptrCells,ptrAdd,isNil,readsV,readsP,isCall,wrote,srcOf,seval])
                exact keep_i [0, 5] false (by simp) (by simp) rfl (.inr ⟨by simp only [lP,seval],by simp only [lP,seval,pa_ints,renL_ints]⟩)
    · rw [if_pos rfl] at hS
      subst hS
      repeat' (first | (with_reducible apply St.o; constructor) <;> intro _ | (with_reducible first | refine LenR_i fun _ => ?_ | refine And.intro (by omega) ?_ | (apply Sp.o; constructor) | refine mkl_own ?_ | refine frz0_i ?_) | ((with_reducible apply Sc.o true; constructor); simp only [lP,seval,hlk,hpv,hlkn,hpV,vw_hds,pa_hds]; (first | refine ⟨_,h51v,?_⟩ | refine ⟨_,h7,?_⟩); rintro _ _ ⟨rfl,rfl⟩; simp only [lA,lP,ptrCells,ptrAdd,isNil,readsV,readsP,isCall,wrote,srcOf,seval,hlk,hpv,hlkn,hpV,vw_hds,pa_hds]) | simp (maxSteps := 1000000) (disch := omega) only [lE,ptrCells,ptrAdd,isNil,readsV,readsP,isCall,wrote,srcOf,seval,hlk,hpv,hlkn,hpV,vw_hds,pa_hds])
      refine keepw_i [0] false (by simp) (by simp) rfl (r' := .tup [.junk, .bool false]) ?_ ⟨rfl, ?_⟩
      · exact WeakL.tup (.cons weak_junk (.refl _))
      · simp only [lP,seval,pa_ints]
end Go.Proofs.Try

