/-
  A part of the proof: see the text of the law.
-/
import Derived.Test.YtmmedfdilaijhaaBase
import Derived.Test.YtmmedfdilaijhaaPaa
set_option linter.unusedSimpArgs false
set_option linter.unusedVariables false
namespace Go.Proofs.Try
open Go.Al
set_option maxRecDepth 100000
/-- alum/history.number -/
def mc27 : MC :=
 (.seq (.ops [(none, (.v (.mov 2 (.c (.bool false)))))])
 (.seq (.ops [(none, (.v (.mov 3 (.t 0)))),
 (none, (.v (.bin 4 .geq false (.t 3) (.c (.int .i64 1))))),
 (none, (.v (.mov 5 (.t 4)))),
 ((some (5, true)), (.v (.mov 6 (.t 0)))),
 ((some (5, true)), (.v (.bin 7 .leq false (.t 6) (.c (.int .i64 1073741824))))),
 (none, (.v (.pick 8 (.t 5) (.t 7) (.c (.bool false))))),
 (none, (.v (.mov 2 (.t 8))))])
 .ret))
theorem ok27 : FnOk E 27 9 [.tmp 2] mc27 := .of func27 (by kernel_rfl) (by kernel_rfl) (by kernel_rfl) (by kernel_rfl) (by kernel_rfl)
/-- alum/alumref30.isOpen -/
def mc32 : MC :=
 (.seq (.ops [(none, (.v (.mov 4 (.c (.bool false)))))])
 (.seq (.ops [(none, (.v (.mov 7 (.t 0)))),
 (none, (.v (.mov 8 (.t 1)))),
 (none, (.e (.call (some 9) 33 [(.t 7), (.t 8)]))),
 (none, (.v (.mov 5 (.t 9))))])
 (.seq (.seq (.ops [(none, (.v (.mov 10 (.t 5)))),
 (none, (.v (.bin 11 .lss false (.t 10) (.c (.int .i64 0)))))])
 (.cond 11
 (.seq (.ops [(none, (.v (.mov 4 (.c (.bool false)))))])
 .ret)
 .skip))
 (.seq (.seq (.ops [(none, (.v (.mov 12 (.t 5)))),
 (none, (.v (.mov 6 (.t 12))))])
 (.block 0 (.loop (.seq (.seq (.ops [(none, (.v (.mov 13 (.t 6)))),
 (none, (.v (.mov 14 (.t 0)))),
 (none, (.p (.len 15 (.t 14)))),
 (none, (.v (.bin 16 .lss false (.t 13) (.t 15))))])
 (.cond 16
 .skip
 (.exit 0)))
 (.seq (.block 1 (.seq (.ops [(none, (.v (.mov 19 (.t 0)))),
 (none, (.v (.mov 20 (.t 6)))),
 (none, (.p (.idx 21 5 (.t 19) (.t 20)))),
 (none, (.v (.fld 22 0 (.t 21)))),
 (none, (.v (.load 23 false 1 (.t 22)))),
 (none, (.v (.bin 24 .eql false (.t 23) (.c (.int .i64 4))))),
 (none, (.v (.mov 25 (.t 24)))),
 ((some (25, false)), (.v (.mov 26 (.t 0)))),
 ((some (25, false)), (.v (.mov 27 (.t 6)))),
 ((some (25, false)), (.p (.idx 28 5 (.t 26) (.t 27)))),
 ((some (25, false)), (.v (.fld 29 0 (.t 28)))),
 ((some (25, false)), (.v (.load 30 false 1 (.t 29)))),
 ((some (25, false)), (.v (.bin 31 .eql false (.t 30) (.c (.int .i64 2))))),
 ((some (25, false)), (.v (.mov 32 (.t 31)))),
 ((some (32, false)), (.v (.mov 33 (.t 0)))),
 ((some (32, false)), (.v (.mov 34 (.t 6)))),
 ((some (32, false)), (.p (.idx 35 5 (.t 33) (.t 34)))),
 ((some (32, false)), (.v (.fld 36 0 (.t 35)))),
 ((some (32, false)), (.v (.load 37 false 1 (.t 36)))),
 ((some (32, false)), (.v (.bin 38 .eql false (.t 37) (.c (.int .i64 3))))),
 ((some (25, false)), (.v (.pick 39 (.t 32) (.c (.bool true)) (.t 38)))),
 ((some (25, false)), (.v (.mov 40 (.t 39)))),
 ((some (40, true)), (.v (.mov 41 (.t 0)))),
 ((some (40, true)), (.v (.mov 42 (.t 6)))),
 ((some (40, true)), (.p (.idx 43 5 (.t 41) (.t 42)))),
 ((some (40, true)), (.v (.fld 44 1 (.t 43)))),
 ((some (40, true)), (.v (.load 45 false 1 (.t 44)))),
 ((some (40, true)), (.v (.mov 46 (.t 1)))),
 ((some (40, true)), (.v (.bin 47 .eql false (.t 45) (.t 46)))),
 ((some (25, false)), (.v (.pick 48 (.t 40) (.t 47) (.c (.bool false))))),
 (none, (.v (.pick 49 (.t 25) (.c (.bool true)) (.t 48))))])
 (.cond 49
 (.seq (.ops [(none, (.v (.mov 4 (.c (.bool false)))))])
 .ret)
 .skip)))
 (.ops [(none, (.v (.mov 17 (.t 6)))),
 (none, (.v (.bin 18 .add false (.t 17) (.c (.int .i64 1))))),
 (none, (.v (.mov 6 (.t 18))))]))))))
 (.seq (.ops [(none, (.v (.mov 4 (.c (.bool true)))))])
 .ret)))))
theorem ok32 : FnOk E 32 50 [.tmp 4] mc32 := .of func32 (by kernel_rfl) (by kernel_rfl) (by kernel_rfl) (by kernel_rfl) (by kernel_rfl)
/-- alum/alumref30.asked -/
def mc33 : MC :=
 (.seq (.ops [(none, (.v (.mov 4 (.c (.int .i64 0)))))])
 (.seq (.seq (.ops [(none, (.v (.mov 5 (.c (.int .i64 0)))))])
 (.block 0 (.loop (.seq (.seq (.ops [(none, (.v (.mov 6 (.t 5)))),
 (none, (.v (.mov 7 (.t 0)))),
 (none, (.p (.len 8 (.t 7)))),
 (none, (.v (.bin 9 .lss false (.t 6) (.t 8))))])
 (.cond 9
 .skip
 (.exit 0)))
 (.seq (.block 1 (.seq (.ops [(none, (.v (.mov 12 (.t 0)))),
 (none, (.v (.mov 13 (.t 5)))),
 (none, (.p (.idx 14 5 (.t 12) (.t 13)))),
 (none, (.v (.fld 15 0 (.t 14)))),
 (none, (.v (.load 16 false 1 (.t 15)))),
 (none, (.v (.bin 17 .eql false (.t 16) (.c (.int .i64 1))))),
 (none, (.v (.mov 18 (.t 17)))),
 ((some (18, true)), (.v (.mov 19 (.t 0)))),
 ((some (18, true)), (.v (.mov 20 (.t 5)))),
 ((some (18, true)), (.p (.idx 21 5 (.t 19) (.t 20)))),
 ((some (18, true)), (.v (.fld 22 1 (.t 21)))),
 ((some (18, true)), (.v (.load 23 false 1 (.t 22)))),
 ((some (18, true)), (.v (.mov 24 (.t 1)))),
 ((some (18, true)), (.v (.bin 25 .eql false (.t 23) (.t 24)))),
 (none, (.v (.pick 26 (.t 18) (.t 25) (.c (.bool false)))))])
 (.cond 26
 (.seq (.ops [(none, (.v (.mov 27 (.t 5)))),
 (none, (.v (.mov 4 (.t 27))))])
 .ret)
 .skip)))
 (.ops [(none, (.v (.mov 10 (.t 5)))),
 (none, (.v (.bin 11 .add false (.t 10) (.c (.int .i64 1))))),
 (none, (.v (.mov 5 (.t 11))))]))))))
 (.seq (.ops [(none, (.v (.mov 4 (.c (.int .i64 (-1))))))])
 .ret)))
theorem ok33 : FnOk E 33 28 [.tmp 4] mc33 := .of func33 (by kernel_rfl) (by kernel_rfl) (by kernel_rfl) (by kernel_rfl) (by kernel_rfl)
/-- alum/alumref30.number -/
def mc35 : MC :=
 (.seq (.ops [(none, (.v (.mov 2 (.c (.bool false)))))])
 (.seq (.ops [(none, (.v (.mov 3 (.t 0)))),
 (none, (.v (.bin 4 .geq false (.t 3) (.c (.int .i64 1))))),
 (none, (.v (.mov 5 (.t 4)))),
 ((some (5, true)), (.v (.mov 6 (.t 0)))),
 ((some (5, true)), (.v (.bin 7 .leq false (.t 6) (.c (.int .i64 1073741824))))),
 (none, (.v (.pick 8 (.t 5) (.t 7) (.c (.bool false))))),
 (none, (.v (.mov 2 (.t 8))))])
 .ret))
theorem ok35 : FnOk E 35 9 [.tmp 2] mc35 := .of func35 (by kernel_rfl) (by kernel_rfl) (by kernel_rfl) (by kernel_rfl) (by kernel_rfl)
/-- alum/alumref30.latest -/
def mc36 : MC :=
 (.seq (.ops [(none, (.v (.mov 2 (.c (.int .i64 0)))))])
 (.seq (.ops [(none, (.v (.mov 3 (.c (.int .i64 0)))))])
 (.seq (.seq (.ops [(none, (.v (.mov 4 (.c (.int .i64 0)))))])
 (.block 0 (.loop (.seq (.seq (.ops [(none, (.v (.mov 5 (.t 4)))),
 (none, (.v (.mov 6 (.t 0)))),
 (none, (.p (.len 7 (.t 6)))),
 (none, (.v (.bin 8 .lss false (.t 5) (.t 7))))])
 (.cond 8
 .skip
 (.exit 0)))
 (.seq (.block 1 (.seq (.ops [(none, (.v (.mov 11 (.t 0)))),
 (none, (.v (.mov 12 (.t 4)))),
 (none, (.p (.idx 13 5 (.t 11) (.t 12)))),
 (none, (.v (.fld 14 0 (.t 13)))),
 (none, (.v (.load 15 false 1 (.t 14)))),
 (none, (.v (.bin 16 .eql false (.t 15) (.c (.int .i64 2)))))])
 (.cond 16
 (.ops [(none, (.v (.mov 17 (.t 3)))),
 (none, (.v (.mov 18 (.t 0)))),
 (none, (.v (.mov 19 (.t 4)))),
 (none, (.p (.idx 20 5 (.t 18) (.t 19)))),
 (none, (.v (.fld 21 2 (.t 20)))),
 (none, (.v (.load 22 false 1 (.t 21)))),
 (none, (.v (.max 23 [(.t 17), (.t 22)]))),
 (none, (.v (.mov 3 (.t 23))))])
 .skip)))
 (.ops [(none, (.v (.mov 9 (.t 4)))),
 (none, (.v (.bin 10 .add false (.t 9) (.c (.int .i64 1))))),
 (none, (.v (.mov 4 (.t 10))))]))))))
 (.seq (.ops [(none, (.v (.mov 24 (.t 3)))),
 (none, (.v (.mov 2 (.t 24))))])
 .ret))))
theorem ok36 : FnOk E 36 25 [.tmp 2] mc36 := .of func36 (by kernel_rfl) (by kernel_rfl) (by kernel_rfl) (by kernel_rfl) (by kernel_rfl)
end Go.Proofs.Try
namespace Go.Proofs.Try
open Go.Al
set_option linter.unusedVariables false
set_option linter.unusedSimpArgs false
set_option maxRecDepth 20000
set_option maxHeartbeats 8000000

abbrev VL.cs (v : VL) : List AV := [.int .i64 v.k, .int .i64 v.n, .str v.s]
def VL.av (v : VL) : AV := .agg v.cs
theorem vl_av (v : VL) : v.av = .agg v.cs := rfl
theorem ren_vl {ρ : Nat → Nat} (v : VL) : ren ρ v.av = v.av := by simp [VL.av, ren, renL]
theorem vw_vl {H : List AObj} {l : List Nat} {n : Nat} (v : VL) : vw H l (n + 1) v.av = v.av := by simp [VL.av, vw_agg, vw_int, vw_str]
theorem pa_vl {H : List AObj} {l : List Nat} {bor : Bool} {n : Nat} (v : VL) : pa H l bor (n + 1) v.av = v.av := by simp [VL.av, pa_agg, pa_int, pa_str]
theorem renL_vls {ρ : Nat → Nat} {xs : List VL} : renL ρ (xs.map VL.av) = xs.map VL.av := renL_map ren_vl xs
theorem vw_vls {H : List AObj} {l : List Nat} {n : Nat} {xs : List VL} : (xs.map VL.av).map (vw H l (n + 1)) = xs.map VL.av := map_same vw_vl xs
theorem pa_vls {H : List AObj} {l : List Nat} {bor : Bool} {n : Nat} {xs : List VL} : (xs.map VL.av).map (pa H l bor (n + 1)) = xs.map VL.av := map_same pa_vl xs
theorem IdxR_vls {P : Program} {m : Nat} {N : FN} {xs : List VL} {n : Int} {d : Nat} {c : Kn} (h0 : 0 ≤ n) (h1 : n < xs.length) : IdxR P m N (xs.map VL.av) n d c = rK P m N c d (.vp (xs.getD n.toNat default).cs) :=
  IdxR_map (cs := VL.cs) (fun _ => rfl) h0 h1
abbrev Wr.cs (v : Wr) : List AV := [.int .i64 v.t, .int .i64 v.r, .bool v.dead, .view 3 (v.v.map VL.av)]
def Wr.av (v : Wr) : AV := .agg v.cs
theorem wr_av (v : Wr) : v.av = .agg v.cs := rfl
theorem ren_wr {ρ : Nat → Nat} (v : Wr) : ren ρ v.av = v.av := by simp [Wr.av, ren, renL, renL_vls]
theorem vw_wr {H : List AObj} {l : List Nat} {n : Nat} (v : Wr) : vw H l (n + 3) v.av = v.av := by simp only [Wr.av, lP, seval, vw_vls]
theorem pa_wr {H : List AObj} {l : List Nat} {bor : Bool} {n : Nat} (v : Wr) : pa H l bor (n + 3) v.av = v.av := by simp only [Wr.av, lP, seval, pa_vls]
theorem renL_wrs {ρ : Nat → Nat} {xs : List Wr} : renL ρ (xs.map Wr.av) = xs.map Wr.av := renL_map ren_wr xs
theorem vw_wrs {H : List AObj} {l : List Nat} {n : Nat} {xs : List Wr} : (xs.map Wr.av).map (vw H l (n + 3)) = xs.map Wr.av := map_same vw_wr xs
theorem pa_wrs {H : List AObj} {l : List Nat} {bor : Bool} {n : Nat} {xs : List Wr} : (xs.map Wr.av).map (pa H l bor (n + 3)) = xs.map Wr.av := map_same pa_wr xs
theorem IdxR_wrs {P : Program} {m : Nat} {N : FN} {xs : List Wr} {n : Int} {d : Nat} {c : Kn} (h0 : 0 ≤ n) (h1 : n < xs.length) : IdxR P m N (xs.map Wr.av) n d c = rK P m N c d (.vp (xs.getD n.toNat default).cs) :=
  IdxR_map (cs := Wr.cs) (fun _ => rfl) h0 h1
abbrev Hd.cs (v : Hd) : List AV := [.int .i64 v.t, .int .i64 v.r, .int .i64 v.st, .view 3 (v.v.map VL.av)]
def Hd.av (v : Hd) : AV := .agg v.cs
theorem hd_av (v : Hd) : v.av = .agg v.cs := rfl
theorem ren_hd {ρ : Nat → Nat} (v : Hd) : ren ρ v.av = v.av := by simp [Hd.av, ren, renL, renL_vls]
theorem vw_hd {H : List AObj} {l : List Nat} {n : Nat} (v : Hd) : vw H l (n + 3) v.av = v.av := by simp only [Hd.av, lP, seval, vw_vls]
theorem pa_hd {H : List AObj} {l : List Nat} {bor : Bool} {n : Nat} (v : Hd) : pa H l bor (n + 3) v.av = v.av := by simp only [Hd.av, lP, seval, pa_vls]
theorem renL_hds {ρ : Nat → Nat} {xs : List Hd} : renL ρ (xs.map Hd.av) = xs.map Hd.av := renL_map ren_hd xs
theorem vw_hds {H : List AObj} {l : List Nat} {n : Nat} {xs : List Hd} : (xs.map Hd.av).map (vw H l (n + 3)) = xs.map Hd.av := map_same vw_hd xs
theorem pa_hds {H : List AObj} {l : List Nat} {bor : Bool} {n : Nat} {xs : List Hd} : (xs.map Hd.av).map (pa H l bor (n + 3)) = xs.map Hd.av := map_same pa_hd xs
theorem IdxR_hds {P : Program} {m : Nat} {N : FN} {xs : List Hd} {n : Int} {d : Nat} {c : Kn} (h0 : 0 ≤ n) (h1 : n < xs.length) : IdxR P m N (xs.map Hd.av) n d c = rK P m N c d (.vp (xs.getD n.toNat default).cs) :=
  IdxR_map (cs := Hd.cs) (fun _ => rfl) h0 h1
abbrev Hap.cs (x : Hap) : List AV := [.int .i64 x.k, .int .i64 x.tx, .int .i64 x.st, .view 4 (x.ws.map Wr.av), .view 4 (x.rs.map Hd.av)]
def Hap.av (x : Hap) : AV := .agg x.cs
theorem hap_av (v : Hap) : v.av = .agg v.cs := rfl
theorem ren_hap {ρ : Nat → Nat} (v : Hap) : ren ρ v.av = v.av := by simp [Hap.av, ren, renL, renL_wrs, renL_hds]
theorem vw_hap {H : List AObj} {l : List Nat} {n : Nat} (v : Hap) : vw H l (n + 5) v.av = v.av := by simp only [Hap.av, lP, seval, vw_wrs, vw_hds]
theorem pa_hap {H : List AObj} {l : List Nat} {bor : Bool} {n : Nat} (v : Hap) : pa H l bor (n + 5) v.av = v.av := by simp only [Hap.av, lP, seval, pa_wrs, pa_hds]
theorem renL_haps {ρ : Nat → Nat} {xs : List Hap} : renL ρ (xs.map Hap.av) = xs.map Hap.av := renL_map ren_hap xs
theorem vw_haps {H : List AObj} {l : List Nat} {n : Nat} {xs : List Hap} : (xs.map Hap.av).map (vw H l (n + 5)) = xs.map Hap.av := map_same vw_hap xs
theorem pa_haps {H : List AObj} {l : List Nat} {bor : Bool} {n : Nat} {xs : List Hap} : (xs.map Hap.av).map (pa H l bor (n + 5)) = xs.map Hap.av := map_same pa_hap xs
theorem IdxR_haps {P : Program} {m : Nat} {N : FN} {xs : List Hap} {n : Int} {d : Nat} {c : Kn} (h0 : 0 ≤ n) (h1 : n < xs.length) : IdxR P m N (xs.map Hap.av) n d c = rK P m N c d (.vp (xs.getD n.toNat default).cs) :=
  IdxR_map (cs := Hap.cs) (fun _ => rfl) h0 h1

theorem keep_b {b b' : Bool} {H : List AObj} (h : b = b') : keepQ 0 (fun r H => r = .bool b' ∧ H = []) (.bool b) H := by
  subst h; exact keep0_i ⟨rfl, rfl⟩
theorem keep_n {b b' : Int} {H : List AObj} (h : b = b') : keepQ 0 (fun r H => r = .int .i64 b' ∧ H = []) (.int .i64 b) H := by
  subst h; exact keep0_i ⟨rfl, rfl⟩
theorem c35 (n : Int) : ACalls E.P 35 [.int .i64 n] [] (fun r H => r = .bool (numb n) ∧ H = []) := by
  refine ok35.acalls hE hm (by simp) fun N hN => ?_
  unfold mc35
  simp only [lA, ptrCells, ptrAdd, isNil, readsV, readsP, isCall, wrote, srcOf, seval]
  repeat' (first
   | (with_reducible apply St.o; constructor) <;> intro _
   | with_reducible first | refine LenR_i fun _ => ?_ | refine And.intro (by omega) ?_ | (apply Sp.o; constructor) | refine mkl_own ?_ | refine frz0_i ?_
   | simp (maxSteps := 1000000) (disch := omega) only [lE, ptrCells, ptrAdd, isNil, readsV, readsP, isCall, wrote, srcOf, seval])
  all_goals (refine keep_b ?_; simp [numb]; try omega)
theorem c27 (n : Int) : ACalls E.P 27 [.int .i64 n] [] (fun r H => r = .bool (numb n) ∧ H = []) := by
  refine ok27.acalls hE hm (by simp) fun N hN => ?_
  unfold mc27
  simp only [lA, ptrCells, ptrAdd, isNil, readsV, readsP, isCall, wrote, srcOf, seval]
  repeat' (first
   | (with_reducible apply St.o; constructor) <;> intro _
   | with_reducible first | refine LenR_i fun _ => ?_ | refine And.intro (by omega) ?_ | (apply Sp.o; constructor) | refine mkl_own ?_ | refine frz0_i ?_
   | simp (maxSteps := 1000000) (disch := omega) only [lE, ptrCells, ptrAdd, isNil, readsV, readsP, isCall, wrote, srcOf, seval])
  all_goals (refine keep_b ?_; simp [numb]; try omega)
theorem c33 (h : List Hap) (tx : Int) : ACalls E.P 33 [.view 5 (h.map Hap.av), .int .i64 tx] [] (fun r H => r = .int .i64 (asked h tx) ∧ H = []) := by
  have hmax := maxLen_eq
  refine ok33.acalls hE hm (by simp) fun N hN => ?_
  unfold mc33
  simp only [lA, ptrCells, ptrAdd, isNil, readsV, readsP, isCall, wrote, srcOf, seval]
  refine loop_i (fun i : Nat => i ≤ h.length ∧ ∀ x ∈ h.take i, isAsk tx x = false) (fun i => ⟨[(0, .view 5 (h.map Hap.av)), (1, .int .i64 tx), (5, .int .i64 i)], []⟩) (fun i => h.length - i) 0 ⟨by omega, by simp⟩ (Ent.to [] false (by simp) (by simp) rfl (by simp only [lP, seval] <;> (try simp) <;> (try omega)) (by simp only [lP, seval] <;> (try simp) <;> (try omega))) ?_
  rintro i ⟨hi, hn⟩
  by_cases hil : i < h.length
  · have hs : isAsk tx (h.getD i default) = true → asked h tx = i := fun hp => by
      unfold asked
      rw [first_some hil hp hn]
    have hf : ¬ isAsk tx (h.getD i default) = true → ∀ x ∈ h.take (i + 1), isAsk tx x = false := fun hp => all_step hil hn (by simpa using hp)
    generalize hx : h.getD i default = x at *
    repeat' (first
     | (with_reducible apply St.o; constructor) <;> intro _
     | with_reducible first | refine LenR_i fun _ => ?_ | refine And.intro (by omega) ?_ | (apply Sp.o; constructor) | refine mkl_own ?_ | refine frz0_i ?_
     | simp (maxSteps := 1000000) (disch := omega) only [lE, ptrCells, ptrAdd, isNil, readsV, readsP, isCall, wrote, srcOf, seval, IdxR_haps, hx, Int.toNat_natCast, List.length_map])
    all_goals try (exfalso; omega)
    · exact keep_n (hs (by simp [isAsk, *])).symm
    all_goals exact back_i (i + 1) ⟨by omega, hf (by simp [isAsk, *])⟩ (by omega) (Ent.to [] false (by simp) (by simp) rfl (by simp only [lP, seval] <;> (try simp) <;> (try omega)) (by simp only [lP, seval] <;> (try simp) <;> (try omega)))
  · have hie : i = h.length := by omega
    subst hie
    rw [List.take_length] at hn
    have : asked h tx = -1 := by unfold asked; rw [first_none hn]
    repeat' (first
     | (with_reducible apply St.o; constructor) <;> intro _
     | with_reducible first | refine LenR_i fun _ => ?_ | refine And.intro (by omega) ?_ | (apply Sp.o; constructor) | refine mkl_own ?_ | refine frz0_i ?_
     | simp (maxSteps := 1000000) (disch := omega) only [lE, ptrCells, ptrAdd, isNil, readsV, readsP, isCall, wrote, srcOf, seval, List.length_map, Int.lt_irrefl, decide_false])
    exact keep_n this.symm
theorem c36 (h : List Hap) : ACalls E.P 36 [.view 5 (h.map Hap.av)] [] (fun r H => r = .int .i64 (latest h) ∧ H = []) := by
  have hmax := maxLen_eq
  refine ok36.acalls hE hm (by simp) fun N hN => ?_
  unfold mc36
  simp only [lA, ptrCells, ptrAdd, isNil, readsV, readsP, isCall, wrote, srcOf, seval]
  refine loop_i (fun i : Nat => i ≤ h.length) (fun i => ⟨[(0, .view 5 (h.map Hap.av)), (3, .int .i64 (latest (h.take i))), (4, .int .i64 i)], []⟩) (fun i => h.length - i) 0 (by omega) (Ent.to [] false (by simp) (by simp) rfl (by simp only [lP, seval, List.take_zero, latest, List.foldl_nil] <;> (try simp) <;> (try omega)) (by simp only [lP, seval, List.take_zero, latest, List.foldl_nil] <;> (try simp) <;> (try omega))) ?_
  rintro i hi
  by_cases hil : i < h.length
  · have hnx := latest_next hil
    generalize latest (h.take i) = n at *
    generalize hx : h.getD i default = x at *
    repeat' (first
     | (with_reducible apply St.o; constructor) <;> intro _
     | with_reducible first | refine LenR_i fun _ => ?_ | refine And.intro (by omega) ?_ | (apply Sp.o; constructor) | refine mkl_own ?_ | refine frz0_i ?_
     | simp (maxSteps := 1000000) (disch := omega) only [lE, ptrCells, ptrAdd, isNil, readsV, readsP, isCall, wrote, srcOf, seval, IdxR_haps, hx, Int.toNat_natCast, List.length_map])
    all_goals try (exfalso; omega)
    · rename_i hk
      rw [if_pos hk] at hnx
      have hm : max n x.st = if x.st > n then x.st else n := by split <;> omega
      rw [hm] at hnx
      exact back_i (i + 1) (by omega) (by omega) (Ent.to [] false (by simp) (by simp) rfl (by simp only [lP, seval, hnx] <;> (try simp) <;> (try omega)) (by simp only [lP, seval, hnx] <;> (try simp) <;> (try omega)))
    · rename_i hk
      rw [if_neg hk] at hnx
      exact back_i (i + 1) (by omega) (by omega) (Ent.to [] false (by simp) (by simp) rfl (by simp only [lP, seval, hnx] <;> (try simp) <;> (try omega)) (by simp only [lP, seval, hnx] <;> (try simp) <;> (try omega)))
  · have hie : i = h.length := by omega
    subst hie
    rw [List.take_length]
    repeat' (first
     | (with_reducible apply St.o; constructor) <;> intro _
     | with_reducible first | refine LenR_i fun _ => ?_ | refine And.intro (by omega) ?_ | (apply Sp.o; constructor) | refine mkl_own ?_ | refine frz0_i ?_
     | simp (maxSteps := 1000000) (disch := omega) only [lE, ptrCells, ptrAdd, isNil, readsV, readsP, isCall, wrote, srcOf, seval, List.length_map, Int.lt_irrefl, decide_false])
    exact keep_n rfl
theorem asked_lt (h : List Hap) (tx : Int) : (asked h tx = -1 ∧ h.findIdx? (isAsk tx) = none) ∨ ∃ i : Nat, asked h tx = i ∧ i < h.length ∧ h.findIdx? (isAsk tx) = some i := by
  unfold asked
  cases hf : h.findIdx? (isAsk tx) with
  | none => exact .inl ⟨rfl, rfl⟩
  | some i =>
    obtain ⟨hi, _⟩ := List.findIdx?_eq_some_iff_getElem.1 hf
    exact .inr ⟨i, rfl, hi, rfl⟩
theorem c32 (h : List Hap) (tx : Int) : ACalls E.P 32 [.view 5 (h.map Hap.av), .int .i64 tx] [] (fun r H => r = .bool (isOpen h tx) ∧ H = []) := by
  have hmax := maxLen_eq
  have h33 := c33 h tx
  refine ok32.acalls hE hm (by simp) fun N hN => ?_
  unfold mc32
  simp only [lA, ptrCells, ptrAdd, isNil, readsV, readsP, isCall, wrote, srcOf, seval]
  rcases asked_lt h tx with ⟨h1, h2⟩ | ⟨s, h1, hs, h2⟩
  · rw [h1] at h33
    have ho : isOpen h tx = false := by unfold isOpen; rw [h2]
    repeat' (first
     | (with_reducible apply St.o; constructor) <;> intro _
     | with_reducible first | refine LenR_i fun _ => ?_ | refine And.intro (by omega) ?_ | (apply Sp.o; constructor) | refine mkl_own ?_ | refine frz0_i ?_
     | ((with_reducible apply Sc.o true; constructor); simp only [lP, seval]; refine ⟨_, h33, ?_⟩; rintro _ _ ⟨rfl, rfl⟩; simp only [lA, lP, ptrCells, ptrAdd, isNil, readsV, readsP, isCall, wrote, srcOf, seval])
     | simp (maxSteps := 1000000) (disch := omega) only [lE, ptrCells, ptrAdd, isNil, readsV, readsP, isCall, wrote, srcOf, seval])
    all_goals first | exact keep_b ho.symm | (exfalso; omega)
  · rw [h1] at h33
    have ho : isOpen h tx = decide (∀ x ∈ h.drop s, closes tx x = false) := by unfold isOpen; rw [h2]
    repeat' (first
     | (with_reducible apply St.o; constructor) <;> intro _
     | with_reducible first | refine LenR_i fun _ => ?_ | refine And.intro (by omega) ?_ | (apply Sp.o; constructor) | refine mkl_own ?_ | refine frz0_i ?_
     | ((with_reducible apply Sc.o true; constructor); simp only [lP, seval]; refine ⟨_, h33, ?_⟩; rintro _ _ ⟨rfl, rfl⟩; simp only [lA, lP, ptrCells, ptrAdd, isNil, readsV, readsP, isCall, wrote, srcOf, seval])
     | simp (maxSteps := 1000000) (disch := omega) only [lE, ptrCells, ptrAdd, isNil, readsV, readsP, isCall, wrote, srcOf, seval])
    all_goals try (exfalso; omega)
    refine loop_i (fun i : Nat => s ≤ i ∧ i ≤ h.length ∧ ∀ x ∈ (h.take i).drop s, closes tx x = false) (fun i => ⟨[(0, .view 5 (h.map Hap.av)), (1, .int .i64 tx), (6, .int .i64 i)], []⟩) (fun i => h.length - i) s ⟨by omega, by omega, by simp⟩ (Ent.to [] false (by simp) (by simp) rfl (by simp only [lP, seval] <;> (try simp) <;> (try omega)) (by simp only [lP, seval] <;> (try simp) <;> (try omega))) ?_
    rintro i ⟨hsi, hi, hn⟩
    by_cases hil : i < h.length
    · have hbad : closes tx (h.getD i default) = true → isOpen h tx = false := fun hp => by
        rw [ho, decide_eq_false_iff_not]
        intro hall
        have hm : h.getD i default ∈ h.drop s := by
          rw [List.mem_drop_iff_getElem]
          refine ⟨i - s, by omega, ?_⟩
          rw [List.getD_eq_getElem?_getD, List.getElem?_eq_getElem hil, Option.getD_some]
          congr 1
          omega
        rw [hall _ hm] at hp
        cases hp
      have hgood : ¬ closes tx (h.getD i default) = true → ∀ x ∈ (h.take (i + 1)).drop s, closes tx x = false := fun hp => by
        rw [take_succD hil, List.drop_append_of_le_length (by simp; omega)]
        intro x hx
        rcases List.mem_append.1 hx with hx | hx
        · exact hn x hx
        · rw [List.mem_singleton.1 hx]; simpa using hp
      generalize hx : h.getD i default = x at *
      repeat' (first
       | (with_reducible apply St.o; constructor) <;> intro _
       | with_reducible first | refine LenR_i fun _ => ?_ | refine And.intro (by omega) ?_ | (apply Sp.o; constructor) | refine mkl_own ?_ | refine frz0_i ?_
       | simp (maxSteps := 1000000) (disch := omega) only [lE, ptrCells, ptrAdd, isNil, readsV, readsP, isCall, wrote, srcOf, seval, IdxR_haps, hx, Int.toNat_natCast, List.length_map])
      all_goals try (exfalso; omega)
      all_goals first
        | exact keep_b (hbad (by simp [closes, *])).symm
        | exact back_i (i + 1) ⟨by omega, by omega, hgood (by simp [closes, *])⟩ (by omega) (Ent.to [] false (by simp) (by simp) rfl (by simp only [lP, seval] <;> (try simp) <;> (try omega)) (by simp only [lP, seval] <;> (try simp) <;> (try omega)))
    · have hie : i = h.length := by omega
      subst hie
      rw [List.take_length] at hn
      repeat' (first
       | (with_reducible apply St.o; constructor) <;> intro _
       | with_reducible first | refine LenR_i fun _ => ?_ | refine And.intro (by omega) ?_ | (apply Sp.o; constructor) | refine mkl_own ?_ | refine frz0_i ?_
       | simp (maxSteps := 1000000) (disch := omega) only [lE, ptrCells, ptrAdd, isNil, readsV, readsP, isCall, wrote, srcOf, seval, List.length_map, Int.lt_irrefl, decide_false])
      exact keep_b (by rw [ho, decide_eq_true hn])
end Go.Proofs.Try
