/-
  For every history that is few and light: Explain answers as the plain search does, and Check takes the order that it finds.
-/
import Derived.Test.YtmmedfdilaijhaaGreatFaj
import Derived.Test.YtmmedfdilaijhaaGreatEaui
import Derived.Test.YtmmedfdilaijhaaGreatReads
import Derived.Test.YtmmedfdilaijhaaGreatRows
set_option linter.unusedSimpArgs false
set_option linter.unusedVariables false
namespace Go.Proofs.Try
open Go.Proofs.Tryz
open Go.Al
set_option maxRecDepth 100000
def mc3 : MC :=
(.seq (.ops [(none,.v (.mov 2 (.c (.bool false))))])
(.seq (.seq (.ops [(none,.v (.mov 7 (.t 0))),
(none,.e (.call (some 8) 4 [(.t 7)])),
(none,.v (.not 9 (.t 8))),
(none,.v (.mov 10 (.t 9))),
(some (10,false),.v (.mov 11 (.t 0))),
(some (10,false),.e (.call (some 12) 5 [(.t 11)])),
(some (10,false),.v (.not 13 (.t 12))),
(none,.v (.pick 14 (.t 10) (.c (.bool true)) (.t 13)))])
(.cond 14
(.seq (.ops [(none,.e (.call (some 15) 6 [])),
(none,.v (.mov 2 (.t 15)))])
.ret)
.skip))
(.seq (.ops [(none,.v (.mov 17 (.t 0))),
(none,.e (.call (some 18) 7 [(.t 17)])),
(none,.v (.mov 16 (.t 18))),
(none,.v (.ext 19 0 (.t 16))),
(none,.v (.ext 20 1 (.t 16))),
(none,.v (.ext 21 2 (.t 16))),
(none,.v (.mov 3 (.t 19))),
(none,.v (.mov 4 (.t 20))),
(none,.v (.mov 5 (.t 21)))])
(.seq (.ops [(none,.v (.mov 22 (.t 0))),
(none,.e (.call (some 23) 8 [(.t 22)])),
(none,.e (.alloc 6 [(.raw (.slice none 0 0)),(.bool false),(.int .i64 0)])),
(none,.e (.store 3 true (.t 6) (.t 23)))])
(.seq (.ops [(none,.e (.call (some 24) 6 [])),
(none,.v (.mov 25 (.t 24))),
(some (25,true),.v (.mov 26 (.t 4))),
(some (25,true),.v (.fld 27 1 (.t 6))),
(some (25,true),.v (.load 28 false 1 (.t 27))),
(some (25,true),.v (.bin 29 .eql true (.t 26) (.t 28))),
(none,.v (.pick 30 (.t 25) (.t 29) (.c (.bool false)))),
(none,.v (.mov 31 (.t 30))),
(some (31,true),.v (.mov 32 (.t 5))),
(some (31,true),.v (.fld 33 2 (.t 6))),
(some (31,true),.v (.load 34 false 1 (.t 33))),
(some (31,true),.v (.bin 35 .eql false (.t 32) (.t 34))),
(none,.v (.pick 36 (.t 31) (.t 35) (.c (.bool false)))),
(none,.v (.mov 37 (.t 36))),
(some (37,true),.v (.mov 38 (.t 3))),
(some (37,true),.v (.fld 39 0 (.t 6))),
(some (37,true),.v (.load 40 false 1 (.t 39))),
(some (37,true),.e (.call (some 41) 9 [(.t 38),(.t 40)])),
(none,.v (.pick 42 (.t 37) (.t 41) (.c (.bool false)))),
(none,.v (.mov 43 (.t 42))),
(some (43,true),.v (.mov 44 (.t 4))),
(some (43,true),.v (.not 45 (.t 44))),
(some (43,true),.v (.mov 46 (.t 45))),
(some (46,false),.v (.mov 47 (.t 0))),
(some (46,false),.v (.mov 48 (.t 3))),
(some (46,false),.e (.call (some 49) 10 [(.t 47),(.t 48)])),
(some (46,false),.v (.bin 50 .eql false (.t 49) (.c (.int .i64 (-1))))),
(some (43,true),.v (.pick 51 (.t 46) (.c (.bool true)) (.t 50))),
(none,.v (.pick 52 (.t 43) (.t 51) (.c (.bool false)))),
(none,.v (.mov 2 (.t 52)))])
.ret)))))
theorem ok3 : FnOk E 3 53 [.tmp 2] mc3 := .of func3 (by kernel_rfl) (by kernel_rfl) (by kernel_rfl) (by kernel_rfl) (by kernel_rfl)
end Go.Proofs.Try
namespace Go.Proofs.Try
open Go.Proofs.Tryz
open Go.Al
set_option linter.unusedVariables false
set_option linter.unusedSimpArgs false
set_option maxRecDepth 20000
set_option maxHeartbeats 8000000

theorem refE_check {h : List Hap} {l : List Int} (e : (refE h).1 = some l) : rightB h = true ∧ checkH h l = -1 ∧ l.length ≤ 10000 := by
  unfold refE at e
  by_cases hr : rightB h = true
  rotate_left
  · rw [if_pos (by simpa using hr)] at e; cases e
  rw [if_neg (by simp [hr])] at e
  split at e
  · cases e
  · rename_i h8
    have hc := (refS_spec _ _ _ e).2
    refine ⟨hr, hc, ?_⟩
    have he := (check_ok.1 hc).2
    unfold endOk at he
    rw [Bool.and_eq_true, Bool.and_eq_true, decide_eq_true_eq] at he
    have := he.1.1
    have := repN_le h
    have := rightB_len hr
    omega
theorem c3 (h : List Hap) : ACalls E.P 3 [.view 5 (h.map Hap.av)] [] (fun r H => r = .bool true ∧ H = []) := by
  have hmax := maxLen_eq
  have h4 := c4 h
  have h6 := c6
  refine ok3.acalls hE hm (by simp) fun N hN => ?_
  unfold mc3
  simp only [lA,ptrCells,ptrAdd,isNil,readsV,readsP,isCall,wrote,srcOf,seval]
  by_cases hf : fewB h = true
  rotate_left
  · replace hf : fewB h = false := by simpa using hf
    rw [hf] at h4
    repeat' (first | (with_reducible apply St.o; constructor) <;> intro _ | (with_reducible first | refine LenR_i fun _ => ?_ | refine And.intro (by omega) ?_ | (apply Sp.o; constructor) | refine mkl_own ?_ | refine frz0_i ?_) | ((with_reducible apply Sc.o true; constructor); simp only [lP,seval]; (first | refine ⟨_,h4,?_⟩ | refine ⟨_,h6,?_⟩); rintro _ _ ⟨rfl,rfl⟩; simp only [lA,lP,ptrCells,ptrAdd,isNil,readsV,readsP,isCall,wrote,srcOf,seval]) | simp (maxSteps := 1000000) (disch := omega) only [lE,ptrCells,ptrAdd,isNil,readsV,readsP,isCall,wrote,srcOf,seval])
    all_goals exact keep0_i ⟨rfl, rfl⟩
  have h410 : h.length ≤ 1000000 := by
    unfold fewB at hf
    rw [Bool.and_eq_true, decide_eq_true_eq, decide_eq_true_eq] at hf
    omega
  rw [hf] at h4
  have h5 := c5 h h410
  have h7 := c7 h h410
  have h8 := c8 h h410
  rw [explain_ref] at h7
  unfold fndV at h8
  have hck := fun l => refE_check (h := h) (l := l)
  have h9 := c9 ((refE h).1.getD []) ((refE h).1.getD [])
  rw [decide_eq_true rfl] at h9
  generalize refE h = p at *
  obtain ⟨o, e⟩ := p
  simp only at h7 h8 h9 hck
  cases o with
  | none =>
    simp only [Option.getD_none,Option.isSome_none,List.map_nil] at h7 h8 h9
    repeat' (first | (with_reducible apply St.o; constructor) <;> intro _ | (with_reducible first | refine LenR_i fun _ => ?_ | refine And.intro (by omega) ?_ | (apply Sp.o; constructor) | refine mkl_own ?_ | refine frz0_i ?_) | ((with_reducible apply Sc.o true; constructor); simp only [lP,seval,ti30,fillE,setAll]; (first | refine ⟨_,h4,?_⟩ | refine ⟨_,h6,?_⟩ | refine ⟨_,h9,?_⟩); rintro _ _ ⟨rfl,rfl⟩; simp only [lA,lP,ptrCells,ptrAdd,isNil,readsV,readsP,isCall,wrote,srcOf,seval,ti30,fillE,setAll]) | ((with_reducible apply Sc.o false; constructor); simp only [lP,seval,ti30,fillE,setAll]; (first | (refine ⟨_,h5,?_⟩; rintro _ _ ⟨⟨b,rfl⟩,rfl⟩) | (refine ⟨_,h7,?_⟩; rintro _ _ ⟨rfl,rfl⟩) | (refine ⟨_,h8,?_⟩; rintro _ _ ⟨rfl,rfl⟩)); simp only [lA,lP,ptrCells,ptrAdd,isNil,readsV,readsP,isCall,wrote,srcOf,seval,ti30,fillE,setAll]) | simp (maxSteps := 1000000) (disch := omega) only [lE,ptrCells,ptrAdd,isNil,readsV,readsP,isCall,wrote,srcOf,seval,ti30,fillE,setAll])
    all_goals exact keepw_i [] true rfl (by simp) rfl (r' := .bool true) (.refl _) ⟨rfl, rfl⟩
  | some l =>
    obtain ⟨hr, hc, hl⟩ := hck l rfl
    have h10 := c10 h hr l hl
    rw [hc] at h10
    simp only [Option.getD_some,Option.isSome_some] at h7 h8 h9
    repeat' (first | (with_reducible apply St.o; constructor) <;> intro _ | (with_reducible first | refine LenR_i fun _ => ?_ | refine And.intro (by omega) ?_ | (apply Sp.o; constructor) | refine mkl_own ?_ | refine frz0_i ?_) | ((with_reducible apply Sc.o true; constructor); simp only [lP,seval,ti30,fillE,setAll]; (first | refine ⟨_,h4,?_⟩ | refine ⟨_,h6,?_⟩ | refine ⟨_,h9,?_⟩ | refine ⟨_,h10,?_⟩); rintro _ _ ⟨rfl,rfl⟩; simp only [lA,lP,ptrCells,ptrAdd,isNil,readsV,readsP,isCall,wrote,srcOf,seval,ti30,fillE,setAll]) | ((with_reducible apply Sc.o false; constructor); simp only [lP,seval,ti30,fillE,setAll]; (first | (refine ⟨_,h5,?_⟩; rintro _ _ ⟨⟨b,rfl⟩,rfl⟩) | (refine ⟨_,h7,?_⟩; rintro _ _ ⟨rfl,rfl⟩) | (refine ⟨_,h8,?_⟩; rintro _ _ ⟨rfl,rfl⟩)); simp only [lA,lP,ptrCells,ptrAdd,isNil,readsV,readsP,isCall,wrote,srcOf,seval,ti30,fillE,setAll]) | simp (maxSteps := 1000000) (disch := omega) only [lE,ptrCells,ptrAdd,isNil,readsV,readsP,isCall,wrote,srcOf,seval,ti30,fillE,setAll])
    all_goals exact keepw_i [] true rfl (by simp) rfl (r' := .bool true) (.refl _) ⟨rfl, rfl⟩
end Go.Proofs.Try



namespace Go.Proofs.YtmmedfdilaijhaaGreat
open Go.Al Go.Proofs.Try
open Go.Proofs.Tryz
open Go.ChangeShapes Go.WideShapes Go.ChangeAt Go.RowKit
set_option linter.unusedVariables false
set_option maxRecDepth 100000 in
theorem lifted3 (os : Os) (started : os.Started) (H : Type) (enc : TypeId × Value → H) :
    ReturnsInHanded {} Tryz.checked os 3 .any (Rows.historyExplainsAsSpecifiedSpec.pre6 enc Tryz.prog Tryz.f3 Rows.historyExplainsAsSpecifiedRow.domain false) (Rows.historyExplainsAsSpecifiedSpec.post enc Tryz.prog Tryz.f3 false true false false) := by
  refine returnsInHanded_of_change (C := Tryz.checked) own started (by kernel_rfl) Tryz.func3
    (ChangeSpec.witness6 (enc := enc) (C := Tryz.checked) false ⟨#[], #[.slice none 0 0], []⟩ 8 (by kernel_rfl) (by kernel_rfl) (by kernel_rfl) (by kernel_rfl)) ?_
  intro W base args ds gs before hval hW _ _
  exact contract_of hE kids full (s := Rows.historyExplainsAsSpecifiedSpec) (tb := 4) (by rw [Tryz.params3]; decide +kernel) (by rw [Tryz.params3]; exact reads_cons rv22 (reads_nil)) (by rintro _ ⟨a, _, ha, rfl, rfl⟩; exact c3 a) rfl
    (by rw [Tryz.params3]; rintro H (_ | ⟨d0, (_ | ⟨dz, ds⟩)⟩) hl <;> simp at hl; exact ⟨rfl, rfl, rfl⟩) (by kernel_rfl) (by kernel_rfl) H enc W base args ds gs before (glob_ok _) hval hW
theorem historyExplainsAsSpecified_holds : Rows.HistoryExplainsAsSpecifiedSaid :=
  OpenClaim.holds_of_wide 3 Tryz.f3 rfl rfl rfl rfl rfl rfl rfl ⟨rfl, rfl, rfl, rfl, rfl⟩ rfl rfl rfl rfl rfl (by kernel_rfl) Tryz.func3 (by kernel_rfl)
    (of_decide_eq_true (by kernel_rfl)) (by unfold Func.isWrapper; first | (rw [if_pos (by decide +kernel)]; kernel_rfl) | (rw [if_neg (by decide +kernel)]; exact ⟨rfl, rfl⟩))
    (fun os started H enc _ => lifted3 os started H enc)
end Go.Proofs.YtmmedfdilaijhaaGreat

