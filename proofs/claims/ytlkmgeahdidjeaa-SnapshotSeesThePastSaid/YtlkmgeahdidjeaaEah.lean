/-
  A part of the proof: see the text of the law.
-/
import Derived.Test.YtlkmgeahdidjeaaEag
import Derived.Test.YtlkmgeahdidjeaaEae
import Derived.Test.YtlkmgeahdidjeaaAlphaK
set_option linter.unusedSimpArgs false
set_option linter.unusedVariables false
namespace Go.Proofs.Try
open Go.Al
set_option maxRecDepth 100000
/-- alum/snapshot.ordered -/
def mc42 : MC :=
 (.seq (.ops [(none, (.v (.mov 2 (.c (.raw (.slice none 0 0))))))])
 (.seq (.ops [(none, (.v (.mov 3 (.c (.fn (.func 50) [] [])))))])
 (.seq (.ops [(none, (.v (.mov 4 (.t 0)))),
 (none, (.e (.call (some 5) 53 [(.t 4)]))),
 (none, (.v (.mov 6 (.t 3)))),
 (none, (.e (.call (some 7) 52 [(.t 5), (.t 6)]))),
 (none, (.v (.mov 2 (.t 7))))])
 .ret)))
theorem ok42 : FnOk E 42 8 [.tmp 2] mc42 := .of func42 (by kernel_rfl) (by kernel_rfl) (by kernel_rfl) (by kernel_rfl) (by kernel_rfl)
/-- slices.SortedFunc[alum/api.Version] -/
def mc52 : MC :=
 (.seq (.ops [(none, (.v (.mov 4 (.c (.raw (.slice none 0 0))))))])
 (.seq (.ops [(none, (.v (.mov 6 (.t 0)))),
 (none, (.e (.call (some 7) 66 [(.t 6)]))),
 (none, (.v (.mov 5 (.t 7))))])
 (.seq (.ops [(none, (.v (.mov 8 (.t 5)))),
 (none, (.v (.mov 9 (.t 1)))),
 (none, (.e (.call (some 10) 67 [(.t 8), (.t 9)])))])
 (.seq (.ops [(none, (.v (.mov 11 (.t 5)))),
 (none, (.v (.mov 4 (.t 11))))])
 .ret))))
theorem ok52 : FnOk E 52 12 [.tmp 4] mc52 := .of func52 (by kernel_rfl) (by kernel_rfl) (by kernel_rfl) (by kernel_rfl) (by kernel_rfl)
/-- slices.Values[[]alum/api.Version,alum/api.Version] -/
def mc53 : MC :=
 (.seq (.ops [(none, (.e (.box 1 (.t 0)))),
 (none, (.v (.mov 2 (.c (.raw .nilFunc)))))])
 (.seq (.ops [(none, (.v (.fn 3 (.func 68) [] [(.t 1)]))),
 (none, (.v (.mov 2 (.t 3))))])
 .ret))
theorem ok53 : FnOk E 53 4 [.tmp 2] mc53 := .of func53 (by kernel_rfl) (by kernel_rfl) (by kernel_rfl) (by kernel_rfl) (by kernel_rfl)
/-- slices.Collect[alum/api.Version] -/
def mc66 : MC :=
 (.seq (.ops [(none, (.v (.mov 2 (.c (.raw (.slice none 0 0))))))])
 (.seq (.ops [(none, (.v (.mov 3 (.t 0)))),
 (none, (.e (.call (some 4) 74 [(.c (.raw (.slice none 0 0))), (.t 3)]))),
 (none, (.v (.mov 2 (.t 4))))])
 .ret))
theorem ok66 : FnOk E 66 5 [.tmp 2] mc66 := .of func66 (by kernel_rfl) (by kernel_rfl) (by kernel_rfl) (by kernel_rfl) (by kernel_rfl)
/-- slices.Values[[]alum/api.Version,alum/api.Version]$1 -/
def mc68 : MC :=
 (.seq (.ops [(none, (.v (.load 5 false 1 (.t 1)))),
 (none, (.p (.len 6 (.t 5)))),
 (none, (.v (.mov 7 (.c (.int .i64 0)))))])
 (.block 0 (.loop (.seq (.ops [(none, (.v (.bin 8 .lss false (.t 7) (.t 6))))])
 (.seq (.cond 8
 .skip
 (.exit 0))
 (.seq (.block 1 (.seq (.ops [(none, (.p (.idx 9 4 (.t 5) (.t 7)))),
 (none, (.v (.load 10 true 4 (.t 9)))),
 (none, (.e (.alloc 4 [(.int .i64 0), (.int .i64 0), (.bool false), (.raw (.slice none 0 0))]))),
 (none, (.e (.store 4 true (.t 4) (.t 10))))])
 (.seq (.ops [(none, (.v (.mov 11 (.t 0)))),
 (none, (.v (.load 12 true 4 (.t 4)))),
 (none, (.e (.callv (some 13) (.t 11) [(.t 12)]))),
 (none, (.v (.not 14 (.t 13))))])
 (.cond 14
 .ret
 .skip))))
 (.ops [(none, (.v (.bin 15 .add false (.t 7) (.c (.int .i64 1))))),
 (none, (.v (.mov 7 (.t 15))))])))))))
theorem ok68 : FnOk E 68 16 [] mc68 := .of func68 (by kernel_rfl) (by kernel_rfl) (by kernel_rfl) (by kernel_rfl) (by kernel_rfl)
/-- slices.AppendSeq[[]alum/api.Version,alum/api.Version] -/
def mc74 : MC :=
 (.seq (.ops [(none, (.e (.box 2 (.t 0)))),
 (none, (.v (.mov 4 (.c (.raw (.slice none 0 0))))))])
 (.seq (.seq (.ops [(none, (.v (.mov 6 (.t 1))))])
 (.block 0 (.rngf (.t 6) #[7] (.ops [(none, (.e (.alloc 5 [(.int .i64 0), (.int .i64 0), (.bool false), (.raw (.slice none 0 0))]))),
 (none, (.e (.store 4 true (.t 5) (.t 7))))]) (.block 1 (.ops [(none, (.v (.load 8 false 1 (.t 2)))),
 (none, (.v (.load 9 true 4 (.t 5)))),
 (none, (.e (.mkl 10 29 4 1 (.agg [(.int .i64 0), (.int .i64 0), (.bool false), (.raw (.slice none 0 0))]) [(0, (.t 9))]))),
 (none, (.e (.app 11 29 4 48 (.t 8) (.t 10)))),
 (none, (.e (.store 1 false (.t 2) (.t 11))))])))))
 (.seq (.ops [(none, (.v (.load 12 false 1 (.t 2)))),
 (none, (.v (.mov 4 (.t 12))))])
 .ret)))
theorem ok74 : FnOk E 74 13 [.tmp 4] mc74 := .of func74 (by kernel_rfl) (by kernel_rfl) (by kernel_rfl) (by kernel_rfl) (by kernel_rfl)
end Go.Proofs.Try
namespace Go.Proofs.Try
open Go.Al
set_option linter.unusedVariables false
set_option linter.unusedSimpArgs false
set_option maxRecDepth 20000
set_option maxHeartbeats 8000000

theorem ren_ver {ρ : Nat → Nat} (v : Ver) : ren ρ v.av = v.av := by simp [Ver.av, ren, renL]
theorem renL_vers {ρ : Nat → Nat} {xs : List Ver} : renL ρ (xs.map Ver.av) = xs.map Ver.av := renL_map ren_ver xs
section
variable {X : Type} {S : X → (Nat → Prop) → List AObj → Prop} {id : Nat}
/-- A range over the values of a list, whose rounds all go on. -/
theorem c68g (hG : Grows S) (f : X → Ver → X) (l : List Ver) (live : X → Nat → Prop) (hl : ∀ x v k, live x (k + 1) → live (f x v) k)
    (hy : ∀ x v k G H, live x (k + 1) → S x G H → AYield E.P id [v.av] H (fun r H' => r = .bool true ∧ Bhd S (f x v) G H H')) (x : X) (hx : live x l.length) (G : Nat → Prop) (H : List AObj) (hs : S x G H) :
    ACalls E.P 68 [.yld id, .vp [.view 4 (l.map Ver.av)]] H (fun r H' => Bhd S (l.foldl f x) G H H') := by
  have hmax := maxLen_eq
  refine ok68.acalls0 hE hm (by simp) fun N hN => ?_
  unfold mc68
  simp only [lA, ptrCells, ptrAdd, isNil, readsV, readsP, isCall, wrote, srcOf, seval]
  refine LenR_i fun hlen => ?_
  rw [List.length_map, hmax] at hlen
  simp only [lA, ptrCells, ptrAdd, isNil, readsV, readsP, isCall, wrote, srcOf, seval, List.length_map]
  have hself : Bhd S x G H H := ⟨hs, Nat.le_refl _, fun _ _ => rfl⟩
  refine loop_i (fun p : Nat × X × List AObj => p.1 ≤ l.length ∧ (l.take p.1).foldl f x = p.2.1 ∧ live p.2.1 (l.length - p.1) ∧ Bhd S p.2.1 G H p.2.2) (fun p => ⟨[(0, .yld id), (5, .view 4 (l.map Ver.av)), (6, .int .i64 l.length), (7, .int .i64 p.1)], p.2.2⟩) (fun p => l.length - p.1) (0, x, H) ⟨by simp, by simp, by simpa using hx, hself⟩
    (Ent.fr (by simp [FrSub, Go.Al.get])) ?_
  rintro ⟨j, y, H2⟩ ⟨hj, hw, hyl, hb2⟩
  simp only at hj hw hyl hb2
  simp only [lA, ptrCells, ptrAdd, isNil, readsV, readsP, isCall, wrote, srcOf, seval]
  refine cond_i (fun h1 => ?_) (fun h1 => ?_)
  · simp only [decide_eq_true_eq] at h1
    have hjl : j < l.length := by omega
    have hyl' : live y ((l.length - (j + 1)) + 1) := by rwa [show l.length - (j + 1) + 1 = l.length - j by omega]
    have hcall := fun o => hy y (l.getD j default) _ _ _ hyl' (hG.push _ _ _ o hb2.1)
    have hxx : (l.map Ver.av)[(j : Int).toNat]? = some (Ver.av (l.getD j default)) := by simp [hjl]
    have hnx : (l.take (j + 1)).foldl f x = f y (l.getD j default) := by rw [take_succD hjl, List.foldl_append, hw]; rfl
    simp only [lA, ptrCells, ptrAdd, isNil, readsV, readsP, isCall, wrote, srcOf, seval]
    rw [IdxR_vers (by omega) (by omega), Int.toNat_natCast]
    simp only [lA, ptrCells, ptrAdd, isNil, readsV, readsP, isCall, wrote, srcOf, seval, get_last, set_last, ver_av]
    simp only [ver_av] at hcall
    refine yld_i (hcall _) ?_
    rintro _ H3 ⟨rfl, hb3⟩
    obtain ⟨hb3, _⟩ := hG.own hb2.1 hb3
    simp only [lA, ptrCells, ptrAdd, isNil, readsV, readsP, isCall, wrote, srcOf, seval, wrap_i64 (show -9223372036854775808 ≤ (j : Int) + 1 by omega) (show (j : Int) + 1 ≤ 9223372036854775807 by omega)]
    exact back_i (j + 1, f y (l.getD j default), H3) ⟨by simp only; omega, hnx, hl _ _ _ hyl', hb2.trans hb3⟩ (by simp only; omega) (Ent.fr (by simp [FrSub, Go.Al.get]))
  · simp only [decide_eq_false_iff_not] at h1
    have hjl : j = l.length := by omega
    subst hjl
    rw [List.take_length] at hw
    simp only [lA, ptrCells, ptrAdd, isNil, readsV, readsP, isCall, wrote, srcOf, seval]
    rw [hw]; exact hb2
end

/-- The memory behind so many rounds of slices.AppendSeq: the box of the list, and where the list lies. -/
def apS (lp : AObj) (x : List Ver) (G : Nat → Prop) (H : List AObj) : Prop :=
  H[1]? = some lp ∧ (∀ i, G i → 2 ≤ i ∧ i < H.length) ∧ 2 ≤ H.length ∧
    ((x = [] ∧ H[0]? = some (.box [.raw (.slice none 0 0)])) ∨ ∃ a, 2 ≤ a ∧ a < H.length ∧ ¬ G a ∧ H[0]? = some (.box [.slc a 4 x.length]) ∧ H[a]? = some (.arr 29 4 (x.map Ver.av)))
theorem apS_grows (lp : AObj) : Grows (apS lp) where
  push := fun x G H o ⟨h2, hg, h3, h⟩ => by
    have ap : ∀ i, i < H.length → (H ++ [o])[i]? = H[i]? := fun i hi => List.getElem?_append_left hi
    refine ⟨by rw [ap 1 (by omega)]; exact h2, fun i hi => ?_, by simp; omega, ?_⟩
    · rcases hi with hi | rfl
      · have := hg i hi; simp; omega
      · simp; omega
    · rcases h with ⟨hx, h1⟩ | ⟨a, a1, a2, a3, a4, a5⟩
      · exact .inl ⟨hx, by rw [ap 0 (by omega)]; exact h1⟩
      · refine .inr ⟨a, a1, by simp; omega, fun hc => ?_, by rw [ap 0 (by omega)]; exact a4, by rw [ap a a2]; exact a5⟩
        rcases hc with hc | hc
        · exact a3 hc
        · omega
  weak := fun x G G' H ⟨h2, hg, h3, h⟩ hw => by
    refine ⟨h2, fun i hi => hg i (hw i hi), h3, ?_⟩
    rcases h with h | ⟨a, a1, a2, a3, a4⟩
    · exact .inl h
    · exact .inr ⟨a, a1, a2, fun hc => a3 (hw a hc), a4⟩
  lt := fun x G H i ⟨_, hg, _⟩ hi => (hg i hi).2
theorem fold_snoc (l : List Ver) : ∀ x : List Ver, l.foldl (fun x v => x ++ [v]) x = x ++ l := by
  induction l with
  | nil => simp
  | cons v l ih => intro x; rw [List.foldl_cons, ih, List.append_assoc]; rfl
theorem c74 (l : List Ver) (hc : l.length ≤ 1048576) : ACalls E.P 74 [.raw (.slice none 0 0), .fn (.func 68) [] [.vp [.view 4 (l.map Ver.av)]]] [] (fun r H => (l = [] ∧ r = .raw (.slice none 0 0) ∧ H = []) ∨ (r = .slc 0 4 l.length ∧ H = [.arr 29 4 (l.map Ver.av)])) := by
  have hmax := maxLen_eq
  refine ok74.acalls hE hm (by simp) fun N hN => ?_
  unfold mc74
  simp only [lA, ptrCells, ptrAdd, isNil, readsV, readsP, isCall, wrote, srcOf, seval]
  refine rng_i hN [(2, .op 0 0)] (by simp [FrSub, Go.Al.get]) fun fn cas bd hy => ?_
  let lp : AObj := .loop .ready none [(2, .op 0 0)] N.n fn #[7] cas bd
  have hY : ∀ (x : List Ver) (v : Ver) (k : Nat) (G : Nat → Prop) (H : List AObj), x.length + (k + 1) ≤ 1048576 → apS lp x G H → AYield E.P 1 [v.av] H (fun r H' => r = .bool true ∧ Bhd (apS lp) (x ++ [v]) G H H') := by
    rintro x v k G H hk ⟨h2, hg, h3, hx⟩
    refine hy 1 [(2, .op 0 0)] [v.av] H _ h2 rfl fun N2 hN2 => ?_
    simp only [lA, ptrCells, ptrAdd, isNil, readsV, readsP, isCall, wrote, srcOf, seval, ver_av, get_last, set_last]
    have ap : ∀ (L : List AObj) (o : AObj) (i : Nat), i < L.length → (L ++ [o])[i]? = L[i]? := fun L o i hi => List.getElem?_append_left hi
    have st : ∀ (L : List AObj) (o : AObj) (i j : Nat), i ≠ j → (L.set i o)[j]? = L[j]? := fun L o i j hi => List.getElem?_set_ne hi
    have ss : ∀ (L : List AObj) (o : AObj) (i : Nat), i < L.length → (L.set i o)[i]? = some o := fun L o i hi => by simp [hi]
    refine ⟨by rw [ap _ _ 1 (by omega)]; exact h2, ?_⟩
    have fl : ((H ++ [AObj.box v.cs]).set 1 (.loop .busy none [(2, .op 0 0)] N.n fn #[7] cas bd)).length = H.length + 1 := by simp
    have f0 : ((H ++ [AObj.box v.cs]).set 1 (.loop .busy none [(2, .op 0 0)] N.n fn #[7] cas bd))[0]? = H[0]? := by rw [st _ _ 1 0 (by omega), ap _ _ 0 (by omega)]
    have f2 : ((H ++ [AObj.box v.cs]).set 1 (.loop .busy none [(2, .op 0 0)] N.n fn #[7] cas bd))[1]? = some (.loop .busy none [(2, .op 0 0)] N.n fn #[7] cas bd) := ss _ _ 1 (by simp <;> omega)
    have f3 : ∀ i, 2 ≤ i → i < H.length → ((H ++ [AObj.box v.cs]).set 1 (.loop .busy none [(2, .op 0 0)] N.n fn #[7] cas bd))[i]? = H[i]? := fun i h1 h2 => by rw [st _ _ 1 i (by omega), ap _ _ i h2]
    have fo : ((H ++ [AObj.box v.cs]).set 1 (.loop .busy none [(2, .op 0 0)] N.n fn #[7] cas bd))[H.length]? = some (.box v.cs) := by rw [st _ _ 1 _ (by omega)]; simp
    generalize (H ++ [AObj.box v.cs]).set 1 (.loop .busy none [(2, .op 0 0)] N.n fn #[7] cas bd) = H1 at *
    rcases hx with ⟨rfl, h1⟩ | ⟨a, a1, a2, a3, a4, a5⟩
    · rw [h1] at f0
      have g1 : ∀ o o', (H1 ++ [o] ++ [o'])[0]? = some (.box [.raw (.slice none 0 0)]) := fun o o' => by rw [ap _ _ 0 (by simp <;> omega), ap _ _ 0 (by omega)]; exact f0
      repeat' (first
       | (with_reducible apply St.o; constructor) <;> intro _
       | with_reducible first | refine LenR_i fun _ => ?_ | refine And.intro (by omega) ?_ | (apply Sp.o; constructor) | refine mkl_own ?_ | refine frz0_i ?_
       | ((with_reducible refine keep0_i ?_); simp only [lP, seval])
       | simp (maxSteps := 1000000) (disch := omega) only [lE, ptrCells, ptrAdd, isNil, readsV, readsP, isCall, wrote, srcOf, seval, fo, f0, g1, get_last, fillE, setAll, List.length_cons, List.length_nil, List.length_append])
      refine round_i (o := fun st pd => .loop st pd [(2, .op 0 0)] N.n fn #[7] cas bd) (by rw [st _ _ 0 1 (by omega), ap _ _ 1 (by simp <;> omega), ap _ _ 1 (by omega)]; exact f2) ⟨rfl, ⟨ss _ _ 1 (by simp <;> omega), fun i hi => ⟨(hg i hi).1, by have := (hg i hi).2; simp <;> omega⟩, by simp <;> omega, .inr ⟨H1.length + 1, by omega, by simp, fun hG => by have := (hg _ hG).2; omega, ?_, ?_⟩⟩, by simp <;> omega, fun i hi => ?_⟩
      · rw [st _ _ 1 0 (by omega), ss _ _ 0 (by simp)]; simp
      · rw [st _ _ 1 _ (by omega), st _ _ 0 _ (by omega)]; simp [ver_av]
      · obtain ⟨g3, g4⟩ := hg i hi
        rw [st _ _ 1 i (by omega), st _ _ 0 i (by omega), ap _ _ i (by simp <;> omega), ap _ _ i (by omega), f3 i g3 g4]
    · rw [a4] at f0
      have fa := f3 a a1 a2
      rw [a5] at fa
      have g1 : ∀ o o', ((H1 ++ [o]).set a .dead ++ [o'])[0]? = some (.box [.slc a 4 x.length]) := fun o o' => by rw [ap _ _ 0 (by simp <;> omega), st _ _ a 0 (by omega), ap _ _ 0 (by omega)]; exact f0
      have g2 : ∀ o, (H1 ++ [o])[a]? = some (.arr 29 4 (x.map Ver.av)) := fun o => by rw [ap _ _ a (by omega)]; exact fa
      repeat' (first
       | (with_reducible apply St.o; constructor) <;> intro _
       | with_reducible first | refine LenR_i fun _ => ?_ | refine And.intro (by omega) ?_ | (apply Sp.o; constructor) | refine mkl_own ?_ | refine frz0_i ?_
       | ((with_reducible refine keep0_i ?_); simp only [lP, seval])
       | simp (maxSteps := 1000000) (disch := omega) only [lE, ptrCells, ptrAdd, isNil, readsV, readsP, isCall, wrote, srcOf, seval, fo, f0, g1, g2, get_last, fillE, setAll, List.length_map, List.length_cons, List.length_nil, List.length_append, List.length_set])
      refine round_i (o := fun st pd => .loop st pd [(2, .op 0 0)] N.n fn #[7] cas bd) (by rw [st _ _ 0 1 (by omega), ap _ _ 1 (by simp <;> omega), st _ _ a 1 (by omega), ap _ _ 1 (by omega)]; exact f2) ⟨rfl, ⟨ss _ _ 1 (by simp <;> omega), fun i hi => ⟨(hg i hi).1, by have := (hg i hi).2; simp <;> omega⟩, by simp <;> omega, .inr ⟨H1.length + 1, by omega, by simp, fun hG => by have := (hg _ hG).2; omega, ?_, ?_⟩⟩, by simp <;> omega, fun i hi => ?_⟩
      · rw [st _ _ 1 0 (by omega), ss _ _ 0 (by simp)]; simp
      · rw [st _ _ 1 _ (by omega), st _ _ 0 _ (by omega)]; simp [ver_av]
      · obtain ⟨g3, g4⟩ := hg i hi
        have hia : a ≠ i := fun h => a3 (h ▸ hi)
        rw [st _ _ 1 i (by omega), st _ _ 0 i (by omega), ap _ _ i (by simp <;> omega), st _ _ a i hia, ap _ _ i (by omega), f3 i g3 g4]
  have h68 := c68g (S := apS lp) (id := 1) (apS_grows lp) (fun x v => x ++ [v]) l (fun x k => x.length + k ≤ 1048576) (fun x v k h => by simp only [List.length_append, List.length_cons, List.length_nil]; omega) hY [] (by simpa using hc) (fun _ => False)
    [.box [.raw (.slice none 0 0)], lp] ⟨rfl, fun i h => h.elim, by simp, .inl ⟨rfl, rfl⟩⟩
  refine ⟨_, h68, ?_⟩
  rintro r H' ⟨⟨h2, _, h3, hx⟩, _, _⟩
  rw [fold_snoc, List.nil_append] at hx
  have st : ∀ (L : List AObj) (o : AObj) (i j : Nat), i ≠ j → (L.set i o)[j]? = L[j]? := fun L o i j hi => List.getElem?_set_ne hi
  rcases hx with ⟨hc0, h1⟩ | ⟨a, a1, a2, _, a4, a5⟩
  · subst hc0
    refine ⟨.ready, none, [(2, .op 0 0)], h2, by simp, [(2, .op 0 0)], H'.set 1 .lost, Ent.fr (by simp [FrSub, Go.Al.get]), ?_⟩
    have g1 : (H'.set 1 .lost)[0]? = some (.box [.raw (.slice none 0 0)]) := by rw [st _ _ 1 0 (by omega)]; exact h1
    generalize H'.set 1 .lost = H2 at *
    repeat' (first
     | (with_reducible apply St.o; constructor) <;> intro _
     | with_reducible first | refine LenR_i fun _ => ?_ | refine And.intro (by omega) ?_ | (apply Sp.o; constructor) | refine mkl_own ?_ | refine frz0_i ?_
     | simp (maxSteps := 1000000) (disch := omega) only [lE, ptrCells, ptrAdd, isNil, readsV, readsP, isCall, wrote, srcOf, seval, g1])
    refine keep_i [] false rfl (by simp) rfl (.inl ⟨?_, ?_⟩)
    · simp only [lP, seval]
    · simp only [lP, seval]
  · have g1 : (H'.set 1 .lost)[0]? = some (.box [.slc a 4 l.length]) := by rw [st _ _ 1 0 (by omega)]; exact a4
    have ga : (H'.set 1 .lost)[a]? = some (.arr 29 4 (l.map Ver.av)) := by rw [st _ _ 1 a (by omega)]; exact a5
    have hla : a < (H'.set 1 .lost).length := by simpa using a2
    refine ⟨.ready, none, [(2, .op 0 0)], h2, by simp, [(2, .op 0 0)], H'.set 1 .lost, Ent.fr (by simp [FrSub, Go.Al.get]), ?_⟩
    generalize H'.set 1 .lost = H2 at *
    repeat' (first
     | (with_reducible apply St.o; constructor) <;> intro _
     | with_reducible first | refine LenR_i fun _ => ?_ | refine And.intro (by omega) ?_ | (apply Sp.o; constructor) | refine mkl_own ?_ | refine frz0_i ?_
     | simp (maxSteps := 1000000) (disch := omega) only [lE, ptrCells, ptrAdd, isNil, readsV, readsP, isCall, wrote, srcOf, seval, g1])
    refine keep_i [a] false (by simp [hla]) (by simp) rfl (.inr ⟨?_, ?_⟩)
    · simp only [lP, seval, ga]
    · simp only [lP, seval, ga, pa_vers]
theorem c66 (l : List Ver) (hc : l.length ≤ 1048576) : ACalls E.P 66 [.fn (.func 68) [] [.vp [.view 4 (l.map Ver.av)]]] [] (fun r H => (l = [] ∧ r = .raw (.slice none 0 0) ∧ H = []) ∨ (r = .slc 0 4 l.length ∧ H = [.arr 29 4 (l.map Ver.av)])) := by
  have h74 := c74 l hc
  refine ok66.acalls hE hm (by simp) fun N hN => ?_
  unfold mc66
  simp only [lA, ptrCells, ptrAdd, isNil, readsV, readsP, isCall, wrote, srcOf, seval]
  refine callN_i [] false (by simp) (by simp) ?_
  simp only [lP, seval]
  refine ⟨_, h74, ?_⟩
  rintro r H (⟨rfl, rfl, rfl⟩ | ⟨rfl, rfl⟩)
  · simp only [lA, lP, ptrCells, ptrAdd, isNil, readsV, readsP, isCall, wrote, srcOf, seval]
    refine keep_i [] false rfl (by simp) rfl (.inl ⟨?_, ?_⟩)
    · simp only [lP, seval]
    · simp only [lP, seval]
  · simp only [lA, lP, ptrCells, ptrAdd, isNil, readsV, readsP, isCall, wrote, srcOf, seval]
    refine keep_i [0] false (by simp) (by simp) rfl (.inr ⟨?_, ?_⟩)
    · simp only [lP, seval]
    · simp only [lP, seval, renL_vers, pa_vers]
theorem c67nil : ACalls E.P 67 [.raw (.slice none 0 0), .fn (.func 50) [] []] [] (fun r H => r = .tup [] ∧ H = []) :=
  ⟨bodied67, fun γ σ w vs hi hv => by
    obtain ⟨u, _, rfl, hu, fv, _, rfl, hf, rfl⟩ := hv
    have hu : u = .slice none 0 0 := hu
    subst hu
    refine (AnyF.slices_SortFunc_none Try.sortV none 0 fv w).mono ?_
    rintro e w' ⟨rfl, rfl⟩
    exact ⟨_, γ, σ, .tup [], _, rfl, .refl _ _ _, hi, ⟨[], rfl, rfl⟩, rfl, rfl⟩⟩
theorem c52 (l : List Ver) (hc : l.length ≤ 1048576) : ACalls E.P 52 [.fn (.func 68) [] [.vp [.view 4 (l.map Ver.av)]], .fn (.func 50) [] []] [] (fun r H => ∃ l' : List Ver, l'.Perm l ∧ l'.Pairwise (fun a b => gtV a b = false) ∧ r = .view 4 (l'.map Ver.av) ∧ H = []) := by
  have h66 := c66 l hc
  have h67 := c67 l (by omega)
  have h67n := c67nil
  refine ok52.acalls hE hm (by simp) fun N hN => ?_
  unfold mc52
  simp only [lA, ptrCells, ptrAdd, isNil, readsV, readsP, isCall, wrote, srcOf, seval]
  refine callN_i [] false (by simp) (by simp) ?_
  simp only [lP, seval]
  refine ⟨_, h66, ?_⟩
  rintro r H (⟨rfl, rfl, rfl⟩ | ⟨rfl, rfl⟩)
  · simp only [lA, lP, ptrCells, ptrAdd, isNil, readsV, readsP, isCall, wrote, srcOf, seval]
    refine callN_i [] false (by simp) (by simp) ?_
    simp only [lP, seval]
    refine ⟨_, h67n, ?_⟩
    rintro _ _ ⟨rfl, rfl⟩
    simp only [lA, lP, ptrCells, ptrAdd, isNil, readsV, readsP, isCall, wrote, srcOf, seval]
    exact keepn_i 4 ⟨[], .refl _, .nil, rfl, rfl⟩
  · simp only [lA, lP, ptrCells, ptrAdd, isNil, readsV, readsP, isCall, wrote, srcOf, seval]
    refine callN_i [0] false (by simp) (by simp) ?_
    simp only [lP, seval, renL_vers, pa_vers]
    refine ⟨_, h67, ?_⟩
    rintro _ _ ⟨rfl, l', hp, hs, rfl⟩
    simp only [lA, lP, ptrCells, ptrAdd, isNil, readsV, readsP, isCall, wrote, srcOf, seval]
    refine keep_i [] true rfl (by simp) rfl ⟨l', hp, hs, ?_, ?_⟩
    · simp only [lP, seval, renL_vers, vw_vers, List.length_map, hp.length_eq]
    · simp only [lP, seval]
theorem c53 (l : List Ver) : ACalls E.P 53 [.view 4 (l.map Ver.av)] [] (fun r H => r = .fn (.func 68) [] [.vp [.view 4 (l.map Ver.av)]] ∧ H = []) := by
  refine ok53.acalls hE hm (by simp) fun N hN => ?_
  unfold mc53
  simp only [lA, ptrCells, ptrAdd, isNil, readsV, readsP, isCall, wrote, srcOf, seval]
  refine keep_i [] true (by simp) (by simp) rfl ?_
  simp only [lP, seval]
theorem c42' (l : List Ver) (hc : l.length ≤ 1048576) : ACalls E.P 42 [.view 4 (l.map Ver.av)] [] (fun r H => ∃ l' : List Ver, l'.Perm l ∧ l'.Pairwise (fun a b => gtV a b = false) ∧ r = .view 4 (l'.map Ver.av) ∧ H = []) := by
  have h53 := c53 l
  have h52 := c52 l hc
  refine ok42.acalls hE hm (by simp) fun N hN => ?_
  unfold mc42
  simp only [lA, ptrCells, ptrAdd, isNil, readsV, readsP, isCall, wrote, srcOf, seval]
  repeat' (first
   | (with_reducible apply St.o; constructor) <;> intro _
   | with_reducible first | refine LenR_i fun _ => ?_ | refine And.intro (by omega) ?_ | (apply Sp.o; constructor) | refine mkl_own ?_ | refine frz0_i ?_
   | ((with_reducible apply Sc.o false; constructor); simp only [lP, seval]; refine ⟨_, h53, ?_⟩; rintro _ _ ⟨rfl, rfl⟩; simp only [lA, lP, ptrCells, ptrAdd, isNil, readsV, readsP, isCall, wrote, srcOf, seval])
   | simp (maxSteps := 1000000) (disch := omega) only [lE, ptrCells, ptrAdd, isNil, readsV, readsP, isCall, wrote, srcOf, seval])
  refine callN_i [] false (by simp) (by simp) ?_
  simp only [lP, seval]
  refine ⟨_, h52, ?_⟩
  rintro _ _ ⟨l', hp, hs, rfl, rfl⟩
  simp only [lA, lP, ptrCells, ptrAdd, isNil, readsV, readsP, isCall, wrote, srcOf, seval]
  refine keep0_i ?_
  simp only [lP, seval]
  exact ⟨l', hp, hs, rfl⟩
end Go.Proofs.Try
