/-
  A part of the proof: see the text of the law.
-/
import Derived.Test.YtmmedfdilaijhaaGreatBase
import Derived.Test.YtmmedfdilaijhaaGreatPaa
set_option linter.unusedSimpArgs false
set_option linter.unusedVariables false
namespace Go.Proofs.Try
open Go.Proofs.Tryz
open Go.Al
set_option maxRecDepth 100000
def mc42 : MC :=
(.seq (.ops [(none,.v (.mov 2 (.c (.bool false))))])
(.seq (.ops [(none,.v (.mov 3 (.t 0))),
(none,.v (.bin 4 .geq false (.t 3) (.c (.int .i64 1)))),
(none,.v (.mov 5 (.t 4))),
(some (5,true),.v (.mov 6 (.t 0))),
(some (5,true),.v (.bin 7 .leq false (.t 6) (.c (.int .i64 1073741824)))),
(none,.v (.pick 8 (.t 5) (.t 7) (.c (.bool false)))),
(none,.v (.mov 2 (.t 8)))])
.ret))
theorem ok42 : FnOk E 42 9 [.tmp 2] mc42 := .of func42 (by kernel_rfl) (by kernel_rfl) (by kernel_rfl) (by kernel_rfl) (by kernel_rfl)
def mc64 : MC :=
(.seq (.ops [(none,.v (.mov 4 (.c (.bool false))))])
(.seq (.ops [(none,.v (.mov 7 (.t 0))),
(none,.v (.mov 8 (.t 1))),
(none,.e (.call (some 9) 65 [(.t 7),(.t 8)])),
(none,.v (.mov 5 (.t 9)))])
(.seq (.seq (.ops [(none,.v (.mov 10 (.t 5))),
(none,.v (.bin 11 .lss false (.t 10) (.c (.int .i64 0))))])
(.cond 11
(.seq (.ops [(none,.v (.mov 4 (.c (.bool false))))])
.ret)
.skip))
(.seq (.seq (.ops [(none,.v (.mov 12 (.t 5))),
(none,.v (.mov 6 (.t 12)))])
(.block 0 (.loop (.seq (.seq (.ops [(none,.v (.mov 13 (.t 6))),
(none,.v (.mov 14 (.t 0))),
(none,.p (.len 15 (.t 14))),
(none,.v (.bin 16 .lss false (.t 13) (.t 15)))])
(.cond 16
.skip
(.exit 0)))
(.seq (.block 1 (.seq (.ops [(none,.v (.mov 19 (.t 0))),
(none,.v (.mov 20 (.t 6))),
(none,.p (.idx 21 5 (.t 19) (.t 20))),
(none,.v (.fld 22 0 (.t 21))),
(none,.v (.load 23 false 1 (.t 22))),
(none,.v (.bin 24 .eql false (.t 23) (.c (.int .i64 4)))),
(none,.v (.mov 25 (.t 24))),
(some (25,false),.v (.mov 26 (.t 0))),
(some (25,false),.v (.mov 27 (.t 6))),
(some (25,false),.p (.idx 28 5 (.t 26) (.t 27))),
(some (25,false),.v (.fld 29 0 (.t 28))),
(some (25,false),.v (.load 30 false 1 (.t 29))),
(some (25,false),.v (.bin 31 .eql false (.t 30) (.c (.int .i64 2)))),
(some (25,false),.v (.mov 32 (.t 31))),
(some (32,false),.v (.mov 33 (.t 0))),
(some (32,false),.v (.mov 34 (.t 6))),
(some (32,false),.p (.idx 35 5 (.t 33) (.t 34))),
(some (32,false),.v (.fld 36 0 (.t 35))),
(some (32,false),.v (.load 37 false 1 (.t 36))),
(some (32,false),.v (.bin 38 .eql false (.t 37) (.c (.int .i64 3)))),
(some (25,false),.v (.pick 39 (.t 32) (.c (.bool true)) (.t 38))),
(some (25,false),.v (.mov 40 (.t 39))),
(some (40,true),.v (.mov 41 (.t 0))),
(some (40,true),.v (.mov 42 (.t 6))),
(some (40,true),.p (.idx 43 5 (.t 41) (.t 42))),
(some (40,true),.v (.fld 44 1 (.t 43))),
(some (40,true),.v (.load 45 false 1 (.t 44))),
(some (40,true),.v (.mov 46 (.t 1))),
(some (40,true),.v (.bin 47 .eql false (.t 45) (.t 46))),
(some (25,false),.v (.pick 48 (.t 40) (.t 47) (.c (.bool false)))),
(none,.v (.pick 49 (.t 25) (.c (.bool true)) (.t 48)))])
(.cond 49
(.seq (.ops [(none,.v (.mov 4 (.c (.bool false))))])
.ret)
.skip)))
(.ops [(none,.v (.mov 17 (.t 6))),
(none,.v (.bin 18 .add false (.t 17) (.c (.int .i64 1)))),
(none,.v (.mov 6 (.t 18)))]))))))
(.seq (.ops [(none,.v (.mov 4 (.c (.bool true))))])
.ret)))))
theorem ok64 : FnOk E 64 50 [.tmp 4] mc64 := .of func64 (by kernel_rfl) (by kernel_rfl) (by kernel_rfl) (by kernel_rfl) (by kernel_rfl)
def mc65 : MC :=
(.seq (.ops [(none,.v (.mov 4 (.c (.int .i64 0))))])
(.seq (.seq (.ops [(none,.v (.mov 5 (.c (.int .i64 0))))])
(.block 0 (.loop (.seq (.seq (.ops [(none,.v (.mov 6 (.t 5))),
(none,.v (.mov 7 (.t 0))),
(none,.p (.len 8 (.t 7))),
(none,.v (.bin 9 .lss false (.t 6) (.t 8)))])
(.cond 9
.skip
(.exit 0)))
(.seq (.block 1 (.seq (.ops [(none,.v (.mov 12 (.t 0))),
(none,.v (.mov 13 (.t 5))),
(none,.p (.idx 14 5 (.t 12) (.t 13))),
(none,.v (.fld 15 0 (.t 14))),
(none,.v (.load 16 false 1 (.t 15))),
(none,.v (.bin 17 .eql false (.t 16) (.c (.int .i64 1)))),
(none,.v (.mov 18 (.t 17))),
(some (18,true),.v (.mov 19 (.t 0))),
(some (18,true),.v (.mov 20 (.t 5))),
(some (18,true),.p (.idx 21 5 (.t 19) (.t 20))),
(some (18,true),.v (.fld 22 1 (.t 21))),
(some (18,true),.v (.load 23 false 1 (.t 22))),
(some (18,true),.v (.mov 24 (.t 1))),
(some (18,true),.v (.bin 25 .eql false (.t 23) (.t 24))),
(none,.v (.pick 26 (.t 18) (.t 25) (.c (.bool false))))])
(.cond 26
(.seq (.ops [(none,.v (.mov 27 (.t 5))),
(none,.v (.mov 4 (.t 27)))])
.ret)
.skip)))
(.ops [(none,.v (.mov 10 (.t 5))),
(none,.v (.bin 11 .add false (.t 10) (.c (.int .i64 1)))),
(none,.v (.mov 5 (.t 11)))]))))))
(.seq (.ops [(none,.v (.mov 4 (.c (.int .i64 (-1)))))])
.ret)))
theorem ok65 : FnOk E 65 28 [.tmp 4] mc65 := .of func65 (by kernel_rfl) (by kernel_rfl) (by kernel_rfl) (by kernel_rfl) (by kernel_rfl)
def mc67 : MC :=
(.seq (.ops [(none,.v (.mov 2 (.c (.bool false))))])
(.seq (.ops [(none,.v (.mov 3 (.t 0))),
(none,.v (.bin 4 .geq false (.t 3) (.c (.int .i64 1)))),
(none,.v (.mov 5 (.t 4))),
(some (5,true),.v (.mov 6 (.t 0))),
(some (5,true),.v (.bin 7 .leq false (.t 6) (.c (.int .i64 1073741824)))),
(none,.v (.pick 8 (.t 5) (.t 7) (.c (.bool false)))),
(none,.v (.mov 2 (.t 8)))])
.ret))
theorem ok67 : FnOk E 67 9 [.tmp 2] mc67 := .of func67 (by kernel_rfl) (by kernel_rfl) (by kernel_rfl) (by kernel_rfl) (by kernel_rfl)
def mc68 : MC :=
(.seq (.ops [(none,.v (.mov 2 (.c (.int .i64 0))))])
(.seq (.ops [(none,.v (.mov 3 (.c (.int .i64 0))))])
(.seq (.seq (.ops [(none,.v (.mov 4 (.c (.int .i64 0))))])
(.block 0 (.loop (.seq (.seq (.ops [(none,.v (.mov 5 (.t 4))),
(none,.v (.mov 6 (.t 0))),
(none,.p (.len 7 (.t 6))),
(none,.v (.bin 8 .lss false (.t 5) (.t 7)))])
(.cond 8
.skip
(.exit 0)))
(.seq (.block 1 (.seq (.ops [(none,.v (.mov 11 (.t 0))),
(none,.v (.mov 12 (.t 4))),
(none,.p (.idx 13 5 (.t 11) (.t 12))),
(none,.v (.fld 14 0 (.t 13))),
(none,.v (.load 15 false 1 (.t 14))),
(none,.v (.bin 16 .eql false (.t 15) (.c (.int .i64 2))))])
(.cond 16
(.ops [(none,.v (.mov 17 (.t 3))),
(none,.v (.mov 18 (.t 0))),
(none,.v (.mov 19 (.t 4))),
(none,.p (.idx 20 5 (.t 18) (.t 19))),
(none,.v (.fld 21 2 (.t 20))),
(none,.v (.load 22 false 1 (.t 21))),
(none,.v (.max 23 [(.t 17),(.t 22)])),
(none,.v (.mov 3 (.t 23)))])
.skip)))
(.ops [(none,.v (.mov 9 (.t 4))),
(none,.v (.bin 10 .add false (.t 9) (.c (.int .i64 1)))),
(none,.v (.mov 4 (.t 10)))]))))))
(.seq (.ops [(none,.v (.mov 24 (.t 3))),
(none,.v (.mov 2 (.t 24)))])
.ret))))
theorem ok68 : FnOk E 68 25 [.tmp 2] mc68 := .of func68 (by kernel_rfl) (by kernel_rfl) (by kernel_rfl) (by kernel_rfl) (by kernel_rfl)
end Go.Proofs.Try
namespace Go.Proofs.Try
open Go.Proofs.Tryz
open Go.Al
set_option linter.unusedVariables false
set_option linter.unusedSimpArgs false
set_option maxRecDepth 20000
set_option maxHeartbeats 8000000

abbrev VL.cs (v : VL) : List AV := [.int .i64 v.k, .int .i64 v.n, .str v.s]
def VL.av (v : VL) : AV := .agg v.cs
theorem ren_vl {ρ : Nat → Nat} (v : VL) : ren ρ v.av = v.av := by simp [VL.av, ren, renL]
theorem vw_vl {H : List AObj} {l : List Nat} {n : Nat} (v : VL) : vw H l (n + 1) v.av = v.av := by simp [VL.av, vw_agg, vw_int, vw_str]
theorem pa_vl {H : List AObj} {l : List Nat} {bor : Bool} {n : Nat} (v : VL) : pa H l bor (n + 1) v.av = v.av := by simp [VL.av, pa_agg, pa_int, pa_str]
theorem renL_vls {ρ : Nat → Nat} {xs : List VL} : renL ρ (xs.map VL.av) = xs.map VL.av := renL_map ren_vl xs
theorem vw_vls {H : List AObj} {l : List Nat} {n : Nat} {xs : List VL} : (xs.map VL.av).map (vw H l (n + 1)) = xs.map VL.av := map_same vw_vl xs
theorem pa_vls {H : List AObj} {l : List Nat} {bor : Bool} {n : Nat} {xs : List VL} : (xs.map VL.av).map (pa H l bor (n + 1)) = xs.map VL.av := map_same pa_vl xs
theorem IdxR_vls {P : Program} {m : Nat} {N : FN} {xs : List VL} {n : Int} {d : Nat} {c : Kn} (h0 : 0 ≤ n) (h1 : n < xs.length) : IdxR P m N (xs.map VL.av) n d c = rK P m N c d (.vp (xs.getD n.toNat default).cs) :=
  IdxR_map (cs := VL.cs) (fun _ => rfl) h0 h1
abbrev Wr.cs (v : Wr) : List AV := [.int .i64 v.t, .int .i64 v.r, .bool v.dead, .view 3 (v.v.map VL.av)]
def Wr.av (v : Wr) : AV := .agg v.cs
theorem wr_av (v : Wr) : v.av = .agg v.cs := rfl
theorem ren_wr {ρ : Nat → Nat} (v : Wr) : ren ρ v.av = v.av := by simp [Wr.av, ren, renL, renL_vls]
theorem vw_wr {H : List AObj} {l : List Nat} {n : Nat} (v : Wr) : vw H l (n + 3) v.av = v.av := by simp only [Wr.av,lP,seval,vw_vls]
theorem pa_wr {H : List AObj} {l : List Nat} {bor : Bool} {n : Nat} (v : Wr) : pa H l bor (n + 3) v.av = v.av := by simp only [Wr.av,lP,seval,pa_vls]
theorem renL_wrs {ρ : Nat → Nat} {xs : List Wr} : renL ρ (xs.map Wr.av) = xs.map Wr.av := renL_map ren_wr xs
theorem vw_wrs {H : List AObj} {l : List Nat} {n : Nat} {xs : List Wr} : (xs.map Wr.av).map (vw H l (n + 3)) = xs.map Wr.av := map_same vw_wr xs
theorem pa_wrs {H : List AObj} {l : List Nat} {bor : Bool} {n : Nat} {xs : List Wr} : (xs.map Wr.av).map (pa H l bor (n + 3)) = xs.map Wr.av := map_same pa_wr xs
theorem IdxR_wrs {P : Program} {m : Nat} {N : FN} {xs : List Wr} {n : Int} {d : Nat} {c : Kn} (h0 : 0 ≤ n) (h1 : n < xs.length) : IdxR P m N (xs.map Wr.av) n d c = rK P m N c d (.vp (xs.getD n.toNat default).cs) :=
  IdxR_map (cs := Wr.cs) (fun _ => rfl) h0 h1
abbrev Hd.cs (v : Hd) : List AV := [.int .i64 v.t, .int .i64 v.r, .int .i64 v.st, .view 3 (v.v.map VL.av)]
def Hd.av (v : Hd) : AV := .agg v.cs
theorem hd_av (v : Hd) : v.av = .agg v.cs := rfl
theorem ren_hd {ρ : Nat → Nat} (v : Hd) : ren ρ v.av = v.av := by simp [Hd.av, ren, renL, renL_vls]
theorem vw_hd {H : List AObj} {l : List Nat} {n : Nat} (v : Hd) : vw H l (n + 3) v.av = v.av := by simp only [Hd.av,lP,seval,vw_vls]
theorem pa_hd {H : List AObj} {l : List Nat} {bor : Bool} {n : Nat} (v : Hd) : pa H l bor (n + 3) v.av = v.av := by simp only [Hd.av,lP,seval,pa_vls]
theorem renL_hds {ρ : Nat → Nat} {xs : List Hd} : renL ρ (xs.map Hd.av) = xs.map Hd.av := renL_map ren_hd xs
theorem vw_hds {H : List AObj} {l : List Nat} {n : Nat} {xs : List Hd} : (xs.map Hd.av).map (vw H l (n + 3)) = xs.map Hd.av := map_same vw_hd xs
theorem pa_hds {H : List AObj} {l : List Nat} {bor : Bool} {n : Nat} {xs : List Hd} : (xs.map Hd.av).map (pa H l bor (n + 3)) = xs.map Hd.av := map_same pa_hd xs
theorem IdxR_hds {P : Program} {m : Nat} {N : FN} {xs : List Hd} {n : Int} {d : Nat} {c : Kn} (h0 : 0 ≤ n) (h1 : n < xs.length) : IdxR P m N (xs.map Hd.av) n d c = rK P m N c d (.vp (xs.getD n.toNat default).cs) :=
  IdxR_map (cs := Hd.cs) (fun _ => rfl) h0 h1
abbrev Hap.cs (x : Hap) : List AV := [.int .i64 x.k, .int .i64 x.tx, .int .i64 x.st, .view 4 (x.ws.map Wr.av), .view 4 (x.rs.map Hd.av)]
def Hap.av (x : Hap) : AV := .agg x.cs
theorem hap_av (v : Hap) : v.av = .agg v.cs := rfl
theorem ren_hap {ρ : Nat → Nat} (v : Hap) : ren ρ v.av = v.av := by simp [Hap.av, ren, renL, renL_wrs, renL_hds]
theorem IdxR_haps {P : Program} {m : Nat} {N : FN} {xs : List Hap} {n : Int} {d : Nat} {c : Kn} (h0 : 0 ≤ n) (h1 : n < xs.length) : IdxR P m N (xs.map Hap.av) n d c = rK P m N c d (.vp (xs.getD n.toNat default).cs) :=
  IdxR_map (cs := Hap.cs) (fun _ => rfl) h0 h1

theorem keep_b {b b' : Bool} {H : List AObj} (h : b = b') : keepQ 0 (fun r H => r = .bool b' ∧ H = []) (.bool b) H := by
  subst h; exact keep0_i ⟨rfl, rfl⟩
theorem keep_n {b b' : Int} {H : List AObj} (h : b = b') : keepQ 0 (fun r H => r = .int .i64 b' ∧ H = []) (.int .i64 b) H := by
  subst h; exact keep0_i ⟨rfl, rfl⟩
theorem c67 (n : Int) : ACalls E.P 67 [.int .i64 n] [] (fun r H => r = .bool (numb n) ∧ H = []) := by
  refine ok67.acalls hE hm (by simp) fun N hN => ?_
  unfold mc67
  simp only [lA,ptrCells,ptrAdd,isNil,readsV,readsP,isCall,wrote,srcOf,seval]
  repeat' (first | (with_reducible apply St.o; constructor) <;> intro _ | (with_reducible first | refine LenR_i fun _ => ?_ | refine And.intro (by omega) ?_ | (apply Sp.o; constructor) | refine mkl_own ?_ | refine frz0_i ?_) | simp (maxSteps := 1000000) (disch := omega) only [lE,ptrCells,ptrAdd,isNil,readsV,readsP,isCall,wrote,srcOf,seval])
  all_goals (refine keep_b ?_; simp [numb]; try omega)
theorem c42 (n : Int) : ACalls E.P 42 [.int .i64 n] [] (fun r H => r = .bool (numb n) ∧ H = []) := by
  refine ok42.acalls hE hm (by simp) fun N hN => ?_
  unfold mc42
  simp only [lA,ptrCells,ptrAdd,isNil,readsV,readsP,isCall,wrote,srcOf,seval]
  repeat' (first | (with_reducible apply St.o; constructor) <;> intro _ | (with_reducible first | refine LenR_i fun _ => ?_ | refine And.intro (by omega) ?_ | (apply Sp.o; constructor) | refine mkl_own ?_ | refine frz0_i ?_) | simp (maxSteps := 1000000) (disch := omega) only [lE,ptrCells,ptrAdd,isNil,readsV,readsP,isCall,wrote,srcOf,seval])
  all_goals (refine keep_b ?_; simp [numb]; try omega)
theorem c65 (h : List Hap) (tx : Int) : ACalls E.P 65 [.view 5 (h.map Hap.av), .int .i64 tx] [] (fun r H => r = .int .i64 (asked h tx) ∧ H = []) := by
  have hmax := maxLen_eq
  refine ok65.acalls hE hm (by simp) fun N hN => ?_
  unfold mc65
  simp only [lA,ptrCells,ptrAdd,isNil,readsV,readsP,isCall,wrote,srcOf,seval]
  refine loop_i (fun i : Nat => i ≤ h.length ∧ ∀ x ∈ h.take i,isAsk tx x = false) (fun i => ⟨[(0, .view 5 (h.map Hap.av)),(1, .int .i64 tx),(5, .int .i64 i)], []⟩) (fun i => h.length - i) 0 ⟨by omega,by simp⟩ (Ent.to [] false (by simp) (by simp) rfl (by simp only [lP,seval] <;> (try simp) <;> (try omega)) (by simp only [lP,seval] <;> (try simp) <;> (try omega))) ?_
  rintro i ⟨hi, hn⟩
  by_cases hil : i < h.length
  · have hs : isAsk tx (h.getD i default) = true → asked h tx = i := fun hp => by
      unfold asked
      rw [first_some hil hp hn]
    have hf : ¬ isAsk tx (h.getD i default) = true → ∀ x ∈ h.take (i + 1), isAsk tx x = false := fun hp => all_step hil hn (by simpa using hp)
    generalize hx : h.getD i default = x at *
    repeat' (first | (with_reducible apply St.o; constructor) <;> intro _ | (with_reducible first | refine LenR_i fun _ => ?_ | refine And.intro (by omega) ?_ | (apply Sp.o; constructor) | refine mkl_own ?_ | refine frz0_i ?_) | simp (maxSteps := 1000000) (disch := omega) only [lE,ptrCells,ptrAdd,isNil,readsV,readsP,isCall,wrote,srcOf,seval,IdxR_haps,hx,Int.toNat_natCast,List.length_map])
    all_goals try (exfalso; omega)
    · exact keep_n (hs (by simp [isAsk, *])).symm
    all_goals exact back_i (i + 1) ⟨by omega,hf (by simp [isAsk, *])⟩ (by omega) (Ent.to [] false (by simp) (by simp) rfl (by simp only [lP,seval] <;> (try simp) <;> (try omega)) (by simp only [lP,seval] <;> (try simp) <;> (try omega)))
  · have hie : i = h.length := by omega
    subst hie
    rw [List.take_length] at hn
    have : asked h tx = -1 := by unfold asked; rw [first_none hn]
    repeat' (first | (with_reducible apply St.o; constructor) <;> intro _ | (with_reducible first | refine LenR_i fun _ => ?_ | refine And.intro (by omega) ?_ | (apply Sp.o; constructor) | refine mkl_own ?_ | refine frz0_i ?_) | simp (maxSteps := 1000000) (disch := omega) only [lE,ptrCells,ptrAdd,isNil,readsV,readsP,isCall,wrote,srcOf,seval,List.length_map,Int.lt_irrefl,decide_false])
    exact keep_n this.symm
theorem c68 (h : List Hap) : ACalls E.P 68 [.view 5 (h.map Hap.av)] [] (fun r H => r = .int .i64 (latest h) ∧ H = []) := by
  have hmax := maxLen_eq
  refine ok68.acalls hE hm (by simp) fun N hN => ?_
  unfold mc68
  simp only [lA,ptrCells,ptrAdd,isNil,readsV,readsP,isCall,wrote,srcOf,seval]
  refine loop_i (fun i : Nat => i ≤ h.length) (fun i => ⟨[(0, .view 5 (h.map Hap.av)),(3, .int .i64 (latest (h.take i))),(4, .int .i64 i)], []⟩) (fun i => h.length - i) 0 (by omega) (Ent.to [] false (by simp) (by simp) rfl (by simp only [lP,seval,List.take_zero,latest,List.foldl_nil] <;> (try simp) <;> (try omega)) (by simp only [lP,seval,List.take_zero,latest,List.foldl_nil] <;> (try simp) <;> (try omega))) ?_
  rintro i hi
  by_cases hil : i < h.length
  · have hnx := latest_next hil
    generalize latest (h.take i) = n at *
    generalize hx : h.getD i default = x at *
    repeat' (first | (with_reducible apply St.o; constructor) <;> intro _ | (with_reducible first | refine LenR_i fun _ => ?_ | refine And.intro (by omega) ?_ | (apply Sp.o; constructor) | refine mkl_own ?_ | refine frz0_i ?_) | simp (maxSteps := 1000000) (disch := omega) only [lE,ptrCells,ptrAdd,isNil,readsV,readsP,isCall,wrote,srcOf,seval,IdxR_haps,hx,Int.toNat_natCast,List.length_map])
    all_goals try (exfalso; omega)
    · rename_i hk
      rw [if_pos hk] at hnx
      have hm : max n x.st = if x.st > n then x.st else n := by split <;> omega
      rw [hm] at hnx
      exact back_i (i + 1) (by omega) (by omega) (Ent.to [] false (by simp) (by simp) rfl (by simp only [lP,seval,hnx] <;> (try simp) <;> (try omega)) (by simp only [lP,seval,hnx] <;> (try simp) <;> (try omega)))
    · rename_i hk
      rw [if_neg hk] at hnx
      exact back_i (i + 1) (by omega) (by omega) (Ent.to [] false (by simp) (by simp) rfl (by simp only [lP,seval,hnx] <;> (try simp) <;> (try omega)) (by simp only [lP,seval,hnx] <;> (try simp) <;> (try omega)))
  · have hie : i = h.length := by omega
    subst hie
    rw [List.take_length]
    repeat' (first | (with_reducible apply St.o; constructor) <;> intro _ | (with_reducible first | refine LenR_i fun _ => ?_ | refine And.intro (by omega) ?_ | (apply Sp.o; constructor) | refine mkl_own ?_ | refine frz0_i ?_) | simp (maxSteps := 1000000) (disch := omega) only [lE,ptrCells,ptrAdd,isNil,readsV,readsP,isCall,wrote,srcOf,seval,List.length_map,Int.lt_irrefl,decide_false])
    exact keep_n rfl
theorem asked_lt (h : List Hap) (tx : Int) : (asked h tx = -1 ∧ h.findIdx? (isAsk tx) = none) ∨ ∃ i : Nat, asked h tx = i ∧ i < h.length ∧ h.findIdx? (isAsk tx) = some i := by
  unfold asked
  cases hf : h.findIdx? (isAsk tx) with
  | none => exact .inl ⟨rfl, rfl⟩
  | some i =>
    obtain ⟨hi, _⟩ := List.findIdx?_eq_some_iff_getElem.1 hf
    exact .inr ⟨i, rfl, hi, rfl⟩
theorem c64 (h : List Hap) (tx : Int) : ACalls E.P 64 [.view 5 (h.map Hap.av), .int .i64 tx] [] (fun r H => r = .bool (isOpen h tx) ∧ H = []) := by
  have hmax := maxLen_eq
  have h33 := c65 h tx
  refine ok64.acalls hE hm (by simp) fun N hN => ?_
  unfold mc64
  simp only [lA,ptrCells,ptrAdd,isNil,readsV,readsP,isCall,wrote,srcOf,seval]
  rcases asked_lt h tx with ⟨h1, h2⟩ | ⟨s, h1, hs, h2⟩
  · rw [h1] at h33
    have ho : isOpen h tx = false := by unfold isOpen; rw [h2]
    repeat' (first | (with_reducible apply St.o; constructor) <;> intro _ | (with_reducible first | refine LenR_i fun _ => ?_ | refine And.intro (by omega) ?_ | (apply Sp.o; constructor) | refine mkl_own ?_ | refine frz0_i ?_) | ((with_reducible apply Sc.o true; constructor); simp only [lP,seval]; refine ⟨_,h33,?_⟩; rintro _ _ ⟨rfl,rfl⟩; simp only [lA,lP,ptrCells,ptrAdd,isNil,readsV,readsP,isCall,wrote,srcOf,seval]) | simp (maxSteps := 1000000) (disch := omega) only [lE,ptrCells,ptrAdd,isNil,readsV,readsP,isCall,wrote,srcOf,seval])
    all_goals first | exact keep_b ho.symm | (exfalso; omega)
  · rw [h1] at h33
    have ho : isOpen h tx = decide (∀ x ∈ h.drop s, closes tx x = false) := by unfold isOpen; rw [h2]
    repeat' (first | (with_reducible apply St.o; constructor) <;> intro _ | (with_reducible first | refine LenR_i fun _ => ?_ | refine And.intro (by omega) ?_ | (apply Sp.o; constructor) | refine mkl_own ?_ | refine frz0_i ?_) | ((with_reducible apply Sc.o true; constructor); simp only [lP,seval]; refine ⟨_,h33,?_⟩; rintro _ _ ⟨rfl,rfl⟩; simp only [lA,lP,ptrCells,ptrAdd,isNil,readsV,readsP,isCall,wrote,srcOf,seval]) | simp (maxSteps := 1000000) (disch := omega) only [lE,ptrCells,ptrAdd,isNil,readsV,readsP,isCall,wrote,srcOf,seval])
    all_goals try (exfalso; omega)
    refine loop_i (fun i : Nat => s ≤ i ∧ i ≤ h.length ∧ ∀ x ∈ (h.take i).drop s,closes tx x = false) (fun i => ⟨[(0, .view 5 (h.map Hap.av)),(1, .int .i64 tx),(6, .int .i64 i)], []⟩) (fun i => h.length - i) s ⟨by omega,by omega,by simp⟩ (Ent.to [] false (by simp) (by simp) rfl (by simp only [lP,seval] <;> (try simp) <;> (try omega)) (by simp only [lP,seval] <;> (try simp) <;> (try omega))) ?_
    rintro i ⟨hsi, hi, hn⟩
    by_cases hil : i < h.length
    · have hbad : closes tx (h.getD i default) = true → isOpen h tx = false := fun hp => by
        rw [ho, decide_eq_false_iff_not]
        intro hall
        have hm : h.getD i default ∈ h.drop s := by
          rw [List.mem_drop_iff_getElem]
          refine ⟨i - s, by omega, ?_⟩
          rw [List.getD_eq_getElem?_getD, List.getElem?_eq_getElem hil, Option.getD_some]
          congr 1
          omega
        rw [hall _ hm] at hp
        cases hp
      have hgood : ¬ closes tx (h.getD i default) = true → ∀ x ∈ (h.take (i + 1)).drop s, closes tx x = false := fun hp => by
        rw [take_succD hil, List.drop_append_of_le_length (by simp; omega)]
        intro x hx
        rcases List.mem_append.1 hx with hx | hx
        · exact hn x hx
        · rw [List.mem_singleton.1 hx]; simpa using hp
      generalize hx : h.getD i default = x at *
      repeat' (first | (with_reducible apply St.o; constructor) <;> intro _ | (with_reducible first | refine LenR_i fun _ => ?_ | refine And.intro (by omega) ?_ | (apply Sp.o; constructor) | refine mkl_own ?_ | refine frz0_i ?_) | simp (maxSteps := 1000000) (disch := omega) only [lE,ptrCells,ptrAdd,isNil,readsV,readsP,isCall,wrote,srcOf,seval,IdxR_haps,hx,Int.toNat_natCast,List.length_map])
      all_goals try (exfalso; omega)
      all_goals first
        | exact keep_b (hbad (by simp [closes, *])).symm
        | exact back_i (i + 1) ⟨by omega,by omega,hgood (by simp [closes, *])⟩ (by omega) (Ent.to [] false (by simp) (by simp) rfl (by simp only [lP,seval] <;> (try simp) <;> (try omega)) (by simp only [lP,seval] <;> (try simp) <;> (try omega)))
    · have hie : i = h.length := by omega
      subst hie
      rw [List.take_length] at hn
      repeat' (first | (with_reducible apply St.o; constructor) <;> intro _ | (with_reducible first | refine LenR_i fun _ => ?_ | refine And.intro (by omega) ?_ | (apply Sp.o; constructor) | refine mkl_own ?_ | refine frz0_i ?_) | simp (maxSteps := 1000000) (disch := omega) only [lE,ptrCells,ptrAdd,isNil,readsV,readsP,isCall,wrote,srcOf,seval,List.length_map,Int.lt_irrefl,decide_false])
      exact keep_b (by rw [ho, decide_eq_true hn])
end Go.Proofs.Try


namespace Go.Proofs.Try
open Go.Proofs.Tryz
open Go.Al
set_option maxRecDepth 100000
def mc66 : MC :=
(.seq (.ops [(none,.v (.mov 2 (.c (.bool false))))])
(.seq (.seq (.ops [(none,.v (.mov 3 (.c (.int .i64 0))))])
(.block 0 (.loop (.seq (.seq (.ops [(none,.v (.mov 6 (.t 3))),
(none,.v (.mov 7 (.t 0))),
(none,.p (.len 8 (.t 7))),
(none,.v (.bin 9 .lss false (.t 6) (.t 8)))])
(.cond 9
.skip
(.exit 0)))
(.seq (.block 1 (.seq (.ops [(none,.v (.mov 12 (.t 0))),
(none,.v (.mov 13 (.t 3))),
(none,.p (.idx 14 4 (.t 12) (.t 13))),
(none,.v (.load 15 true 4 (.t 14))),
(none,.e (.alloc 4 [(.int .i64 0),(.int .i64 0),(.bool false),(.raw (.slice none 0 0))])),
(none,.e (.store 4 true (.t 4) (.t 15)))])
(.seq (.seq (.ops [(none,.v (.fld 16 0 (.t 4))),
(none,.v (.load 17 false 1 (.t 16))),
(none,.v (.bin 18 .lss false (.t 17) (.c (.int .i64 0)))),
(none,.v (.mov 19 (.t 18))),
(some (19,false),.v (.fld 20 0 (.t 4))),
(some (19,false),.v (.load 21 false 1 (.t 20))),
(some (19,false),.v (.bin 22 .gtr false (.t 21) (.c (.int .i64 255)))),
(none,.v (.pick 23 (.t 19) (.c (.bool true)) (.t 22))),
(none,.v (.mov 24 (.t 23))),
(some (24,false),.v (.fld 25 1 (.t 4))),
(some (24,false),.v (.load 26 false 1 (.t 25))),
(some (24,false),.e (.call (some 27) 67 [(.t 26)])),
(some (24,false),.v (.not 28 (.t 27))),
(none,.v (.pick 29 (.t 24) (.c (.bool true)) (.t 28))),
(none,.v (.mov 30 (.t 29))),
(some (30,false),.v (.fld 31 2 (.t 4))),
(some (30,false),.v (.load 32 false 1 (.t 31))),
(some (30,false),.v (.mov 33 (.t 32))),
(some (33,true),.v (.fld 34 3 (.t 4))),
(some (33,true),.v (.load 35 false 1 (.t 34))),
(some (33,true),.p (.len 36 (.t 35))),
(some (33,true),.v (.bin 37 .gtr false (.t 36) (.c (.int .i64 0)))),
(some (30,false),.v (.pick 38 (.t 33) (.t 37) (.c (.bool false)))),
(none,.v (.pick 39 (.t 30) (.c (.bool true)) (.t 38)))])
(.cond 39
(.seq (.ops [(none,.v (.mov 2 (.c (.bool false))))])
.ret)
.skip))
(.seq (.ops [(none,.v (.mov 5 (.c (.int .i64 0))))])
(.block 2 (.loop (.seq (.seq (.ops [(none,.v (.mov 40 (.t 5))),
(none,.v (.mov 41 (.t 3))),
(none,.v (.bin 42 .lss false (.t 40) (.t 41)))])
(.cond 42
.skip
(.exit 2)))
(.seq (.block 3 (.seq (.any false (.pure0 none (.v (.mov 45 (.t 0)))
(.pure0 none (.v (.mov 46 (.t 5)))
(.pure0 none (.p (.idx 47 4 (.t 45) (.t 46)))
(.pure0 none (.v (.fld 48 0 (.t 47)))
(.pure0 none (.v (.load 49 false 1 (.t 48)))
(.pure0 none (.v (.fld 50 0 (.t 4)))
(.pure0 none (.v (.load 51 false 1 (.t 50)))
(.pure0 none (.v (.bin 52 .eql false (.t 49) (.t 51)))
(.pure0 none (.v (.mov 53 (.t 52)))
(.pure0 (some (53,true)) (.v (.mov 54 (.t 0)))
(.pure0 (some (53,true)) (.v (.mov 55 (.t 5)))
(.pure0 (some (53,true)) (.p (.idx 56 4 (.t 54) (.t 55)))
(.pure0 (some (53,true)) (.v (.fld 57 1 (.t 56)))
(.pure0 (some (53,true)) (.v (.load 58 false 1 (.t 57)))
(.pure0 (some (53,true)) (.v (.fld 59 1 (.t 4)))
(.pure0 (some (53,true)) (.v (.load 60 false 1 (.t 59)))
(.pure0 (some (53,true)) (.v (.bin 61 .eql false (.t 58) (.t 60)))
(.pure0 none (.v (.pick 62 (.t 53) (.t 61) (.c (.bool false))))
.done)))))))))))))))))))
(.cond 62
(.seq (.ops [(none,.v (.mov 2 (.c (.bool false))))])
.ret)
.skip)))
(.ops [(none,.v (.mov 43 (.t 5))),
(none,.v (.bin 44 .add false (.t 43) (.c (.int .i64 1)))),
(none,.v (.mov 5 (.t 44)))])))))))))
(.ops [(none,.v (.mov 10 (.t 3))),
(none,.v (.bin 11 .add false (.t 10) (.c (.int .i64 1)))),
(none,.v (.mov 3 (.t 11)))]))))))
(.seq (.ops [(none,.v (.mov 63 (.t 0))),
(none,.p (.len 64 (.t 63))),
(none,.v (.bin 65 .geq false (.t 64) (.c (.int .i64 1)))),
(none,.v (.mov 66 (.t 65))),
(some (66,true),.v (.mov 67 (.t 0))),
(some (66,true),.p (.len 68 (.t 67))),
(some (66,true),.v (.bin 69 .leq false (.t 68) (.c (.int .i64 64)))),
(none,.v (.pick 70 (.t 66) (.t 69) (.c (.bool false)))),
(none,.v (.mov 2 (.t 70)))])
.ret)))
theorem ok66 : FnOk E 66 71 [.tmp 2] mc66 := .of func66 (by kernel_rfl) (by kernel_rfl) (by kernel_rfl) (by kernel_rfl) (by kernel_rfl)
def mc69 : MC :=
(.seq (.ops [(none,.v (.mov 4 (.c (.bool false))))])
(.seq (.seq (.ops [(none,.v (.mov 5 (.c (.int .i64 0))))])
(.block 0 (.loop (.seq (.seq (.ops [(none,.v (.mov 7 (.t 5))),
(none,.v (.mov 8 (.t 0))),
(none,.p (.len 9 (.t 8))),
(none,.v (.bin 10 .lss false (.t 7) (.t 9)))])
(.cond 10
.skip
(.exit 0)))
(.seq (.block 1 (.seq (.ops [(none,.v (.mov 13 (.t 0))),
(none,.v (.mov 14 (.t 5))),
(none,.p (.idx 15 4 (.t 13) (.t 14))),
(none,.v (.load 16 true 4 (.t 15))),
(none,.e (.alloc 6 [(.int .i64 0),(.int .i64 0),(.int .i64 0),(.raw (.slice none 0 0))])),
(none,.e (.store 4 true (.t 6) (.t 16)))])
(.seq (.seq (.ops [(none,.v (.fld 17 0 (.t 6))),
(none,.v (.load 18 false 1 (.t 17))),
(none,.v (.bin 19 .lss false (.t 18) (.c (.int .i64 0)))),
(none,.v (.mov 20 (.t 19))),
(some (20,false),.v (.fld 21 0 (.t 6))),
(some (20,false),.v (.load 22 false 1 (.t 21))),
(some (20,false),.v (.bin 23 .gtr false (.t 22) (.c (.int .i64 255)))),
(none,.v (.pick 24 (.t 20) (.c (.bool true)) (.t 23))),
(none,.v (.mov 25 (.t 24))),
(some (25,false),.v (.fld 26 1 (.t 6))),
(some (25,false),.v (.load 27 false 1 (.t 26))),
(some (25,false),.e (.call (some 28) 67 [(.t 27)])),
(some (25,false),.v (.not 29 (.t 28))),
(none,.v (.pick 30 (.t 25) (.c (.bool true)) (.t 29))),
(none,.v (.mov 31 (.t 30))),
(some (31,false),.v (.fld 32 2 (.t 6))),
(some (31,false),.v (.load 33 false 1 (.t 32))),
(some (31,false),.v (.bin 34 .lss false (.t 33) (.c (.int .i64 1)))),
(none,.v (.pick 35 (.t 31) (.c (.bool true)) (.t 34))),
(none,.v (.mov 36 (.t 35))),
(some (36,false),.v (.fld 37 2 (.t 6))),
(some (36,false),.v (.load 38 false 1 (.t 37))),
(some (36,false),.v (.mov 39 (.t 1))),
(some (36,false),.v (.bin 40 .gtr false (.t 38) (.t 39))),
(none,.v (.pick 41 (.t 36) (.c (.bool true)) (.t 40)))])
(.cond 41
(.seq (.ops [(none,.v (.mov 4 (.c (.bool false))))])
.ret)
.skip))
(.seq (.any false (.pure0 none (.v (.mov 42 (.t 5)))
(.pure0 none (.v (.bin 43 .gtr false (.t 42) (.c (.int .i64 0))))
(.pure0 none (.v (.mov 44 (.t 43)))
(.pure0 (some (44,true)) (.v (.mov 45 (.t 0)))
(.pure0 (some (44,true)) (.v (.mov 46 (.t 5)))
(.pure0 (some (44,true)) (.v (.bin 47 .sub false (.t 46) (.c (.int .i64 1))))
(.pure0 (some (44,true)) (.p (.idx 48 4 (.t 45) (.t 47)))
(.pure0 (some (44,true)) (.v (.load 49 true 4 (.t 48)))
(.pure0 (some (44,true)) (.v (.load 50 true 4 (.t 6)))
(.alt (some (44,true)) (.e (.call (some 51) 80 [(.t 49),(.t 50)]))
(.base (.pure0 (some (44,true)) (.v (.not 52 (.t 51)))
(.pure0 none (.v (.pick 53 (.t 44) (.t 52) (.c (.bool false))))
.done)))
.stop)))))))))))
(.cond 53
(.seq (.ops [(none,.v (.mov 4 (.c (.bool false))))])
.ret)
.skip)))))
(.ops [(none,.v (.mov 11 (.t 5))),
(none,.v (.bin 12 .add false (.t 11) (.c (.int .i64 1)))),
(none,.v (.mov 5 (.t 12)))]))))))
(.seq (.ops [(none,.v (.mov 4 (.c (.bool true))))])
.ret)))
theorem ok69 : FnOk E 69 54 [.tmp 4] mc69 := .of func69 (by kernel_rfl) (by kernel_rfl) (by kernel_rfl) (by kernel_rfl) (by kernel_rfl)
def mc80 : MC :=
(.seq (.ops [(none,.e (.box 2 (.t 0))),
(none,.e (.box 3 (.t 1))),
(none,.v (.mov 4 (.c (.bool false))))])
(.seq (.ops [(none,.v (.fld 5 0 (.t 2))),
(none,.v (.load 6 false 1 (.t 5))),
(none,.v (.fld 7 0 (.t 3))),
(none,.v (.load 8 false 1 (.t 7))),
(none,.v (.bin 9 .lss false (.t 6) (.t 8))),
(none,.v (.mov 10 (.t 9))),
(some (10,false),.v (.fld 11 0 (.t 2))),
(some (10,false),.v (.load 12 false 1 (.t 11))),
(some (10,false),.v (.fld 13 0 (.t 3))),
(some (10,false),.v (.load 14 false 1 (.t 13))),
(some (10,false),.v (.bin 15 .eql false (.t 12) (.t 14))),
(some (10,false),.v (.mov 16 (.t 15))),
(some (16,true),.v (.fld 17 1 (.t 2))),
(some (16,true),.v (.load 18 false 1 (.t 17))),
(some (16,true),.v (.fld 19 1 (.t 3))),
(some (16,true),.v (.load 20 false 1 (.t 19))),
(some (16,true),.v (.bin 21 .lss false (.t 18) (.t 20))),
(some (10,false),.v (.pick 22 (.t 16) (.t 21) (.c (.bool false)))),
(none,.v (.pick 23 (.t 10) (.c (.bool true)) (.t 22))),
(none,.v (.mov 4 (.t 23)))])
.ret))
theorem ok80 : FnOk E 80 24 [.tmp 4] mc80 := .of func80 (by kernel_rfl) (by kernel_rfl) (by kernel_rfl) (by kernel_rfl) (by kernel_rfl)
end Go.Proofs.Try
namespace Go.Proofs.Try
open Go.Proofs.Tryz
open Go.Al
set_option linter.unusedVariables false
set_option linter.unusedSimpArgs false
set_option maxRecDepth 20000
set_option maxHeartbeats 8000000

theorem c66 (l : List Wr) : ACalls E.P 66 [.view 4 (l.map Wr.av)] [] (fun r H => r = .bool (writesOk l) ∧ H = []) := by
  have hmax := maxLen_eq
  have h35 := c67
  refine ok66.acalls hE hm (by simp) fun N hN => ?_
  unfold mc66
  simp only [lA,ptrCells,ptrAdd,isNil,readsV,readsP,isCall,wrote,srcOf,seval]
  refine loop_i (fun i : Nat => i ≤ l.length ∧ (∀ x ∈ l.take i,okW x = true) ∧ (l.take i).Pairwise fun a b => ¬ a.same b) (fun i => ⟨[(0, .view 4 (l.map Wr.av)),(3, .int .i64 i)], []⟩) (fun i => l.length - i) 0 ⟨by omega,by simp,by simp⟩ (Ent.to [] false (by simp) (by simp) rfl (by simp only [lP,seval] <;> (try simp) <;> (try omega)) (by simp only [lP,seval] <;> (try simp) <;> (try omega))) ?_
  rintro i ⟨hi, hn, hp⟩
  by_cases hil : i < l.length
  · have hbad : okW (l.getD i default) = false → writesOk l = false := fun hb => by
      unfold writesOk
      rw [decide_eq_false, Bool.false_and]
      rintro ⟨q, _⟩
      rw [q _ (getD_mem hil)] at hb; cases hb
    have hgood : okW (l.getD i default) = true → ∀ x ∈ l.take (i + 1), okW x = true := fun hq => all_step hil hn hq
    have hsame : ∀ k, k < i → (l.getD k default).same (l.getD i default) → writesOk l = false := fun k hk hs => by
      unfold writesOk
      rw [decide_eq_false, Bool.false_and]
      rintro ⟨_, q⟩
      exact pair_at q hk hil hs
    have hpair : (∀ x ∈ l.take i, ¬ x.same (l.getD i default)) → (l.take (i + 1)).Pairwise fun a b => ¬ a.same b := fun q => pair_snoc hil hp q
    generalize hx : l.getD i default = x at *
    repeat' (first | (with_reducible apply St.o; constructor) <;> intro _ | (with_reducible first | refine LenR_i fun _ => ?_ | refine And.intro (by omega) ?_ | (apply Sp.o; constructor) | refine mkl_own ?_ | refine frz0_i ?_) | ((with_reducible apply Sc.o true; constructor); simp only [lP,seval,IdxR_wrs,hx,Int.toNat_natCast,List.length_map]; refine ⟨_,h35 _,?_⟩; rintro _ _ ⟨rfl,rfl⟩; simp only [lA,lP,ptrCells,ptrAdd,isNil,readsV,readsP,isCall,wrote,srcOf,seval,IdxR_wrs,hx,Int.toNat_natCast,List.length_map]) | simp (maxSteps := 1000000) (disch := omega) only [lE,ptrCells,ptrAdd,isNil,readsV,readsP,isCall,wrote,srcOf,seval,IdxR_wrs,hx,Int.toNat_natCast,List.length_map])
    all_goals try (exfalso; omega)
    all_goals try (exact keep_b (hbad (by simp [okW, *] <;> omega)).symm)
    all_goals
      have hok : okW x = true := by simp_all [okW]
      refine loop_i (fun k : Nat => k ≤ i ∧ ∀ y ∈ l.take k, ¬ y.same x) (fun k => ⟨[(0, .view 4 (l.map Wr.av)),(3, .int .i64 i),(4, .op 0 0),(5, .int .i64 k)], [.box x.cs]⟩) (fun k => i - k) 0 ⟨by omega,by simp⟩ (Ent.to [0] false (by simp) (by simp) rfl (by simp only [lP,seval,pa_vls] <;> (try simp) <;> (try omega)) (by simp only [lP,seval,pa_vls] <;> (try simp) <;> (try omega))) ?_
      rintro k ⟨hk, hnk⟩
      by_cases hki : k < i
      · have hs2 := hsame k hki
        have hst : ¬ (l.getD k default).same x → ∀ y ∈ l.take (k + 1), ¬ y.same x := fun q => all_step (by omega) hnk q
        generalize hy : l.getD k default = y at *
        repeat' (first | (with_reducible apply St.o; constructor) <;> intro _ | (with_reducible first | refine LenR_i fun _ => ?_ | refine And.intro (by omega) ?_ | (apply Sp.o; constructor) | refine mkl_own ?_ | refine frz0_i ?_ | refine any_i [] ?_) | simp (maxSteps := 1000000) (disch := omega) only [lE,ptrCells,ptrAdd,isNil,readsV,readsP,isCall,wrote,srcOf,seval,IdxR_wrs,hx,hy,Int.toNat_natCast,List.length_map])
        all_goals first
          | (exfalso; omega)
          | exact keep_b (hs2 (by simp [Wr.same, *])).symm
          | exact back_i (k + 1) ⟨by omega,hst (by simp [Wr.same, *])⟩ (by omega) (Ent.to [0] false (by simp) (by simp) rfl (by simp only [lP,seval,pa_vls] <;> (try simp) <;> (try omega)) (by simp only [lP,seval,pa_vls] <;> (try simp) <;> (try omega)))
      · have hke : k = i := by omega
        subst hke
        repeat' (first | (with_reducible apply St.o; constructor) <;> intro _ | (with_reducible first | refine LenR_i fun _ => ?_ | refine And.intro (by omega) ?_ | (apply Sp.o; constructor) | refine mkl_own ?_ | refine frz0_i ?_) | simp (maxSteps := 1000000) (disch := omega) only [lE,ptrCells,ptrAdd,isNil,readsV,readsP,isCall,wrote,srcOf,seval,List.length_map,Int.lt_irrefl,decide_false])
        exact back_i (k + 1) ⟨by omega,hgood hok,hpair hnk⟩ (by omega) (Ent.to [] false (by simp) (by simp) rfl (by simp only [lP,seval] <;> (try simp) <;> (try omega)) (by simp only [lP,seval] <;> (try simp) <;> (try omega)))
  · have hie : i = l.length := by omega
    subst hie
    rw [List.take_length] at hn hp
    have hw : writesOk l = (decide (1 ≤ l.length) && decide (l.length ≤ 64)) := by
      unfold writesOk
      rw [decide_eq_true (⟨hn, hp⟩ : _ ∧ _), Bool.true_and]
    repeat' (first | (with_reducible apply St.o; constructor) <;> intro _ | (with_reducible first | refine LenR_i fun _ => ?_ | refine And.intro (by omega) ?_ | (apply Sp.o; constructor) | refine mkl_own ?_ | refine frz0_i ?_) | simp (maxSteps := 1000000) (disch := omega) only [lE,ptrCells,ptrAdd,isNil,readsV,readsP,isCall,wrote,srcOf,seval,List.length_map,Int.lt_irrefl,decide_false])
    all_goals (refine keep_b ?_; rw [hw, Bool.eq_iff_iff]; simp; try omega)
theorem c80 (a b : Hd) : ACalls E.P 80 [a.av, b.av] [] (fun r H => r = .bool (decide (a.before b)) ∧ H = []) := by
  refine ok80.acalls hE hm (by simp) fun N hN => ?_
  unfold mc80
  simp only [lA,ptrCells,ptrAdd,isNil,readsV,readsP,isCall,wrote,srcOf,seval,hd_av]
  repeat' (first | (with_reducible apply St.o; constructor) <;> intro _ | (with_reducible first | refine LenR_i fun _ => ?_ | refine And.intro (by omega) ?_ | (apply Sp.o; constructor) | refine mkl_own ?_ | refine frz0_i ?_) | simp (maxSteps := 1000000) (disch := omega) only [lE,ptrCells,ptrAdd,isNil,readsV,readsP,isCall,wrote,srcOf,seval])
  all_goals (refine keep_b ?_; rw [Bool.eq_iff_iff, decide_eq_true_eq (p := a.before b)]; unfold Hd.before; simp; try omega)
theorem c69 (l : List Hd) (st : Int) : ACalls E.P 69 [.view 4 (l.map Hd.av), .int .i64 st] [] (fun r H => r = .bool (rowsOk l st) ∧ H = []) := by
  have hmax := maxLen_eq
  have h35 := c67
  refine ok69.acalls hE hm (by simp) fun N hN => ?_
  unfold mc69
  simp only [lA,ptrCells,ptrAdd,isNil,readsV,readsP,isCall,wrote,srcOf,seval]
  refine loop_i (fun i : Nat => i ≤ l.length ∧ (∀ x ∈ l.take i,okH st x = true) ∧ (l.take i).Pairwise Hd.before) (fun i => ⟨[(0, .view 4 (l.map Hd.av)),(1, .int .i64 st),(5, .int .i64 i)], []⟩) (fun i => l.length - i) 0 ⟨by omega,by simp,by simp⟩ (Ent.to [] false (by simp) (by simp) rfl (by simp only [lP,seval] <;> (try simp) <;> (try omega)) (by simp only [lP,seval] <;> (try simp) <;> (try omega))) ?_
  rintro i ⟨hi, hn, hp⟩
  by_cases hil : i < l.length
  · have hbad : okH st (l.getD i default) = false → rowsOk l st = false := fun hb => by
      unfold rowsOk
      rw [decide_eq_false]
      rintro ⟨q, _⟩
      rw [q _ (getD_mem hil)] at hb; cases hb
    have hgood : okH st (l.getD i default) = true → ∀ x ∈ l.take (i + 1), okH st x = true := fun hq => all_step hil hn hq
    have h59 := c80 (l.getD (i - 1) default) (l.getD i default)
    have hbf : 0 < i → ¬ (l.getD (i - 1) default).before (l.getD i default) → rowsOk l st = false := fun h0 hb => by
      unfold rowsOk
      rw [decide_eq_false]
      rintro ⟨_, q⟩
      exact hb (pair_at q (by omega) hil)
    have hpair : (0 < i → (l.getD (i - 1) default).before (l.getD i default)) → (l.take (i + 1)).Pairwise Hd.before := fun q => by
      by_cases h0 : 0 < i
      · exact before_snoc hil hp h0 (q h0)
      · have : i = 0 := by omega
        subst this
        exact pair_snoc hil (by simp) (by simp)
    generalize hx : l.getD i default = x at *
    generalize hy : l.getD (i - 1) default = y at *
    have hw : 0 < i → ((i : Int) - 1).toNat = i - 1 := by omega
    simp only [hd_av] at h59
    repeat' (first | (with_reducible apply St.o; constructor) <;> intro _ | (with_reducible first | refine LenR_i fun _ => ?_ | refine And.intro (by omega) ?_ | (apply Sp.o; constructor) | refine mkl_own ?_ | refine frz0_i ?_ | refine any_i [] ?_) | ((with_reducible apply Sc.o true; constructor); simp only [lP,seval,IdxR_hds,hx,hy,hw,Int.toNat_natCast,List.length_map]; (first | refine ⟨_,h35 _,?_⟩ | refine ⟨_,h59,?_⟩); rintro _ _ ⟨rfl,rfl⟩; simp only [lA,lP,ptrCells,ptrAdd,isNil,readsV,readsP,isCall,wrote,srcOf,seval,IdxR_hds,hx,hy,hw,Int.toNat_natCast,List.length_map]) | simp (maxSteps := 1000000) (disch := omega) only [lE,ptrCells,ptrAdd,isNil,readsV,readsP,isCall,wrote,srcOf,seval,IdxR_hds,hx,hy,hw,Int.toNat_natCast,List.length_map])
    all_goals try (exfalso; omega)
    all_goals try (refine keep_b (hbf ?_ ?_).symm <;> first | omega | assumption)
    all_goals try (refine keep_b (hbad ?_).symm; simp [okH, *]; done)
    all_goals
      exact back_i (i + 1) ⟨by omega,hgood (by simp_all [okH]),hpair (by first | (intro; omega) | simp_all)⟩ (by omega) (Ent.to [] false (by simp) (by simp) rfl (by simp only [lP,seval] <;> (try simp) <;> (try omega)) (by simp only [lP,seval] <;> (try simp) <;> (try omega)))
  · have hie : i = l.length := by omega
    subst hie
    rw [List.take_length] at hn hp
    repeat' (first | (with_reducible apply St.o; constructor) <;> intro _ | (with_reducible first | refine LenR_i fun _ => ?_ | refine And.intro (by omega) ?_ | (apply Sp.o; constructor) | refine mkl_own ?_ | refine frz0_i ?_) | simp (maxSteps := 1000000) (disch := omega) only [lE,ptrCells,ptrAdd,isNil,readsV,readsP,isCall,wrote,srcOf,seval,List.length_map,Int.lt_irrefl,decide_false])
    exact keep_b (by unfold rowsOk; rw [decide_eq_true (⟨hn, hp⟩ : _ ∧ _)])
end Go.Proofs.Try

