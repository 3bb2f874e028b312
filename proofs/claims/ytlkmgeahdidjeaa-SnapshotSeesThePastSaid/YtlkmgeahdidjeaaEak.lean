/-
  A part of the proof: see the text of the law.
-/
import Derived.Test.YtlkmgeahdidjeaaEaj
set_option linter.unusedSimpArgs false
set_option linter.unusedVariables false
namespace Go.Proofs.Try
open Go.Al
set_option maxRecDepth 100000
/-- alum/snapshot.rows$1 -/
def mc44 : MC :=
 (.seq (.ops [(none, (.v (.load 5 false 1 (.t 1)))),
 (none, (.e (.call (some 6) 42 [(.t 5)]))),
 (none, (.v (.mov 3 (.t 6))))])
 (.block 0 (.loop (.seq (.seq (.ops [(none, (.v (.mov 7 (.t 3)))),
 (none, (.p (.len 8 (.t 7)))),
 (none, (.v (.bin 9 .gtr false (.t 8) (.c (.int .i64 0)))))])
 (.cond 9
 .skip
 (.exit 0)))
 (.block 1 (.seq (.ops [(none, (.v (.mov 4 (.c (.int .i64 1)))))])
 (.seq (.block 2 (.loop (.seq (.seq (.any false (.pure0 none (.v (.mov 10 (.t 4)))
 (.pure0 none (.v (.mov 11 (.t 3)))
 (.pure0 none (.p (.len 12 (.t 11)))
 (.pure0 none (.v (.bin 13 .lss false (.t 10) (.t 12)))
 (.pure0 none (.v (.mov 14 (.t 13)))
 (.pure0 (some (14, true)) (.v (.mov 15 (.t 3)))
 (.pure0 (some (14, true)) (.v (.mov 16 (.t 4)))
 (.pure0 (some (14, true)) (.p (.idx 17 4 (.t 15) (.t 16)))
 (.pure0 (some (14, true)) (.v (.fld 18 0 (.t 17)))
 (.pure0 (some (14, true)) (.v (.load 19 false 1 (.t 18)))
 (.pure0 (some (14, true)) (.v (.mov 20 (.t 3)))
 (.pure0 (some (14, true)) (.p (.idx 21 4 (.t 20) (.c (.int .i64 0))))
 (.pure0 (some (14, true)) (.v (.fld 22 0 (.t 21)))
 (.pure0 (some (14, true)) (.v (.load 23 false 1 (.t 22)))
 (.pure0 (some (14, true)) (.v (.bin 24 .eql false (.t 19) (.t 23)))
 (.pure0 none (.v (.pick 25 (.t 14) (.t 24) (.c (.bool false))))
 .done)))))))))))))))))
 (.cond 25
 .skip
 (.exit 2)))
 (.block 3 (.ops [(none, (.v (.mov 26 (.t 4)))),
 (none, (.v (.bin 27 .add false (.t 26) (.c (.int .i64 1))))),
 (none, (.v (.mov 4 (.t 27))))])))))
 (.seq (.seq (.ops [(none, (.v (.mov 28 (.t 0)))),
 (none, (.v (.mov 29 (.t 3)))),
 (none, (.v (.mov 30 (.t 4)))),
 (none, (.p (.pre 31 4 (.t 29) (some (.t 30))))),
 (none, (.e (.callv (some 32) (.t 28) [(.t 31)]))),
 (none, (.v (.not 33 (.t 32))))])
 (.cond 33
 .ret
 .skip))
 (.ops [(none, (.v (.mov 34 (.t 3)))),
 (none, (.v (.mov 35 (.t 4)))),
 (none, (.p (.cut 36 4 (.t 34) (.t 35) none))),
 (none, (.v (.mov 3 (.t 36))))])))))))))
theorem ok44 : FnOk E 44 37 [] mc44 := .of func44 (by kernel_rfl) (by kernel_rfl) (by kernel_rfl) (by kernel_rfl) (by kernel_rfl)
end Go.Proofs.Try
namespace Go.Proofs.Try
open Go.Al
set_option linter.unusedVariables false
set_option linter.unusedSimpArgs false
set_option maxRecDepth 20000
set_option maxHeartbeats 8000000

theorem atAny {f : FuncId} {args : List AV} {r0 : AV} (ha : scL 0 args = true) (h : ACalls E.P f args [] (fun r H => r = r0 ∧ H = [])) (L : List AObj) : ACalls E.P f args L (fun r H => r = r0 ∧ H = L) :=
  (ACalls.suffix (H := []) (L := L) rfl ha h (fun r H' ⟨_, h⟩ => by rw [h])).mono fun r H ⟨H1, h1, h2, h3⟩ => ⟨h2, by rw [h1, h3]; rfl⟩
theorem runN_of {r : List Ver} {n : Nat} (h1 : 1 ≤ n) (h2 : n ≤ r.length) (h3 : ∀ k, k < n → (r.getD k default).row = (r.getD 0 default).row) (h4 : n < r.length → (r.getD n default).row ≠ (r.getD 0 default).row) : runN r = n := by
  cases r with
  | nil => simp at h2; omega
  | cons x t =>
    unfold runN
    rw [tw_len (m := n - 1) (by simp only [List.length_cons, List.tail_cons] at *; omega) (fun k hk => ?_) (fun hm => ?_)]
    · omega
    · have := h3 (k + 1) (by omega)
      simpa using this
    · have hm : n - 1 < t.length := hm
      have := h4 (by simp only [List.length_cons]; omega)
      obtain ⟨k, rfl⟩ : ∃ k, n = k + 1 := ⟨n - 1, by omega⟩
      simpa using this
section
variable {X : Type} {S : X → (Nat → Prop) → List AObj → Prop} {id : Nat}
/-- A range over the versions row by row, whose rounds all go on. -/
theorem c44g (hG : Grows S) (f : X → List Ver → X) (l : List Ver) (hd : diff l) (hc : l.length ≤ 1048576) (live : X → Nat → Prop) (hl : ∀ x g k, g ∈ groups (ordered l) → live x (k + 1) → live (f x g) k)
    (hy : ∀ x g k G H, g ∈ groups (ordered l) → live x (k + 1) → S x G H → AYield E.P id [.view 4 (g.map Ver.av)] H (fun r H' => r = .bool true ∧ Bhd S (f x g) G H H')) (x : X) (hx : live x (groups (ordered l)).length) (G : Nat → Prop) (H : List AObj) (hs : S x G H) :
    ACalls E.P 44 [.yld id, .vp [.view 4 (l.map Ver.av)]] H (fun r H' => Bhd S ((groups (ordered l)).foldl f x) G H H') := by
  have hmax := maxLen_eq
  have h42 := atAny (by simp [scL, sc]) (c42 l hd hc) H
  have hol := ordered_length l
  refine ok44.acalls0 hE hm (by simp) fun N hN => ?_
  unfold mc44
  simp only [lA, ptrCells, ptrAdd, isNil, readsV, readsP, isCall, wrote, srcOf, seval]
  refine ACalls.mono h42 ?_
  rintro _ H' ⟨rfl, hH⟩
  replace hH := hH.symm
  subst hH
  simp only [lA, ptrCells, ptrAdd, isNil, readsV, readsP, isCall, wrote, srcOf, seval]
  generalize ordered l = a at *
  have hself : Bhd S x G H H := ⟨hs, Nat.le_refl _, fun _ _ => rfl⟩
  refine loop_i (fun p : List Ver × X × List AObj => p.1.length ≤ 1048576 ∧ (∃ done, groups a = done ++ groups p.1 ∧ done.foldl f x = p.2.1) ∧ live p.2.1 (groups p.1).length ∧ Bhd S p.2.1 G H p.2.2) (fun p => ⟨[(0, .yld id), (3, .view 4 (p.1.map Ver.av))], p.2.2⟩) (fun p => p.1.length) (a, x, H) ⟨by simp only; omega, ⟨[], rfl, rfl⟩, hx, hself⟩
    (Ent.fr (by simp [FrSub, Go.Al.get])) ?_
  rintro ⟨r, y, H2⟩ ⟨hr, ⟨done, hg, hw⟩, hyl, hb2⟩
  simp only at hr hg hw hyl hb2
  simp only [lA, ptrCells, ptrAdd, isNil, readsV, readsP, isCall, wrote, srcOf, seval]
  refine LenR_i fun _ => ?_
  simp only [lA, ptrCells, ptrAdd, isNil, readsV, readsP, isCall, wrote, srcOf, seval, List.length_map]
  refine cond_i (fun h1 => ?_) (fun h1 => ?_)
  · simp only [decide_eq_true_eq] at h1
    have hne : r ≠ [] := by rintro rfl; simp at h1
    simp only [lA, ptrCells, ptrAdd, isNil, readsV, readsP, isCall, wrote, srcOf, seval]
    refine loop_i (fun n : Nat => 1 ≤ n ∧ n ≤ r.length ∧ ∀ k, k < n → (r.getD k default).row = (r.getD 0 default).row) (fun n => ⟨[(0, .yld id), (3, .view 4 (r.map Ver.av)), (4, .int .i64 n)], H2⟩) (fun n => r.length - n) 1 ⟨Nat.le_refl _, by omega, fun k hk => by rw [show k = 0 by omega]⟩
      (Ent.fr (by simp [FrSub, Go.Al.get])) ?_
    rintro n ⟨hn1, hn2, hn3⟩
    repeat' (first
     | (with_reducible apply St.o; constructor) <;> intro _
     | with_reducible first | refine LenR_i fun _ => ?_ | refine And.intro (by omega) ?_ | (apply Sp.o; constructor) | refine mkl_own ?_ | refine frz0_i ?_
     | simp (maxSteps := 1000000) (disch := omega) only [lE, ptrCells, ptrAdd, isNil, readsV, readsP, isCall, wrote, srcOf, seval, IdxR_vers, Int.toNat_natCast, List.length_map])
    · rename_i g1 g2
      exact back_i (n + 1) ⟨by omega, by omega, fun k hk => by
        by_cases hkn : k = n
        · rw [hkn]; exact g2
        · exact hn3 k (by omega)⟩ (by omega) (Ent.fr (by simp [FrSub, Go.Al.get]))
    all_goals (
      have hrn : runN r = n := runN_of hn1 hn2 hn3 (fun hlt => by first | assumption | omega)
      have hgc := groups_cons hne
      rw [hrn] at hgc
      have hyl' : live y ((groups (r.drop n)).length + 1) := by rw [hgc, List.length_cons] at hyl; exact hyl
      have hcall := hy y (r.take n) _ G H2 (by rw [hg, hgc]; simp) hyl' hb2.1
      rw [List.map_take] at hcall
      refine yld_i hcall ?_
      rintro _ H3 ⟨rfl, hb3⟩
      simp only [lA, ptrCells, ptrAdd, isNil, readsV, readsP, isCall, wrote, srcOf, seval]
      repeat' (first
       | (with_reducible apply St.o; constructor) <;> intro _
       | with_reducible first | refine LenR_i fun _ => ?_ | refine And.intro (by omega) ?_ | (apply Sp.o; constructor) | refine mkl_own ?_ | refine frz0_i ?_
       | simp (maxSteps := 1000000) (disch := omega) only [lE, ptrCells, ptrAdd, isNil, readsV, readsP, isCall, wrote, srcOf, seval, List.length_map])
      refine back_i (r.drop n, f y (r.take n), H3) ⟨by simp only [List.length_drop]; omega, ⟨done ++ [r.take n], by rw [hg, hgc]; simp, by rw [List.foldl_append, hw]; rfl⟩, hl _ _ _ (by rw [hg, hgc]; simp) hyl', hb2.trans hb3⟩ (by simp only [List.length_drop]; omega) (Ent.fr (by simp [FrSub, Go.Al.get, List.map_drop]))
      )
  · simp only [decide_eq_false_iff_not] at h1
    have hr0 : r = [] := List.eq_nil_of_length_eq_zero (by omega)
    subst hr0
    simp only [lA, ptrCells, ptrAdd, isNil, readsV, readsP, isCall, wrote, srcOf, seval]
    rw [hg, groups_nil, List.append_nil, hw]
    exact hb2
end
end Go.Proofs.Try
