/-
  A part of the proof: see the text of the law.
-/
import Derived.Test.YtjiijjfpmaligaaDoorCaf
import Derived.Test.YtjiijjfpmaligaaDoorCaj
import Derived.Test.YtjiijjfpmaligaaDoorAlphaS
import Derived.Test.YtjiijjfpmaligaaDoorShelf
import Derived.Test.YtjiijjfpmaligaaDoorCbw
import Derived.Test.YtjiijjfpmaligaaDoorCar
set_option linter.unusedSimpArgs false
set_option linter.unusedVariables false
namespace Go.Proofs.Try
open Go.Al
set_option linter.unusedVariables false
set_option linter.unusedSimpArgs false
set_option maxRecDepth 20000
set_option maxHeartbeats 8000000

/-! ### visit, where the rounds bring objects of their own -/
section
variable {X : Type} {S : X → (Nat → Prop) → List AObj → Prop} {id : Nat} {f : X → EX → Bool × X} {live : X → Nat → Prop}
/-- The state behind: what it says, and what was protected. -/
def Bhd (S : X → (Nat → Prop) → List AObj → Prop) (x : X) (G : Nat → Prop) (H H' : List AObj) : Prop := S x G H' ∧ H.length ≤ H'.length ∧ ∀ i, G i → H'[i]? = H[i]?
theorem Bhd.trans {x y : X} {G : Nat → Prop} {H H1 H2 : List AObj} (h : Bhd S x G H H1) (k : Bhd S y G H1 H2) : Bhd S y G H H2 := ⟨k.1, Nat.le_trans h.2.1 k.2.1, fun i hi => (k.2.2 i hi).trans (h.2.2 i hi)⟩
structure Grows (S : X → (Nat → Prop) → List AObj → Prop) : Prop where
  push : ∀ x G H o, S x G H → S x (fun i => G i ∨ i = H.length) (H ++ [o])
  weak : ∀ x G G' H, S x G H → (∀ i, G' i → G i) → S x G' H
  lt : ∀ x G H i, S x G H → G i → i < H.length
theorem Grows.own (hG : Grows S) {x y : X} {G : Nat → Prop} {H H1 : List AObj} {o : AObj} (hs : S x G H) (h : Bhd S y (fun i => G i ∨ i = H.length) (H ++ [o]) H1) : Bhd S y G H H1 ∧ H1[H.length]? = some o := by
  obtain ⟨h1, h2, h3⟩ := h
  simp at h2
  refine ⟨⟨hG.weak _ _ _ _ h1 (fun i hi => .inl hi), by omega, fun i hi => ?_⟩, ?_⟩
  · rw [h3 i (.inl hi), List.getElem?_append_left (hG.lt _ _ _ _ hs hi)]
  · rw [h3 _ (.inr rfl)]; simp
theorem Grows.skip (hG : Grows S) {x : X} {G : Nat → Prop} {H : List AObj} {o : AObj} (hs : S x G H) : Bhd S x G H (H ++ [o]) :=
  ⟨hG.weak _ _ _ _ (hG.push _ _ _ o hs) (fun i hi => .inl hi), by simp, fun i hi => by rw [List.getElem?_append_left (hG.lt _ _ _ _ hs hi)]⟩
mutual
theorem walk_liveg (hl : ∀ x e k, live x (k + 1) → (f x e).1 = true → live (f x e).2 k) : ∀ (e : EX) (x : X) (k : Nat), live x (e.count + k) → (walk f e x).1 = true → live (walk f e x).2 k
  | .mk op n kk i s args, x, k, hx, h => by
    rw [walk] at h ⊢
    split at h
    · rename_i h1
      rw [if_pos h1]
      refine walkL_liveg hl args _ k (hl _ _ _ ?_ h1) h
      rw [EX.count] at hx
      rwa [show EX.countL args + k + 1 = 1 + EX.countL args + k by omega]
    · cases h
theorem walkL_liveg (hl : ∀ x e k, live x (k + 1) → (f x e).1 = true → live (f x e).2 k) : ∀ (es : List EX) (x : X) (k : Nat), live x (EX.countL es + k) → (walkL f es x).1 = true → live (walkL f es x).2 k
  | [], x, k, hx, _ => by rw [EX.countL, Nat.zero_add] at hx; exact hx
  | e :: es, x, k, hx, h => by
    rw [walkL] at h ⊢
    split at h
    · rename_i h1
      rw [if_pos h1]
      refine walkL_liveg hl es _ k (walk_liveg hl e x _ ?_ h1) h
      rw [EX.countL] at hx
      rwa [show e.count + (EX.countL es + k) = e.count + EX.countL es + k by omega]
    · cases h
end
theorem countL_drop {l : List EX} {j : Nat} (h : j < l.length) : EX.countL (l.drop j) = l[j].count + EX.countL (l.drop (j + 1)) := by
  rw [List.drop_eq_getElem_cons h, EX.countL]
theorem c87g (hG : Grows S) (hl : ∀ x e k, live x (k + 1) → (f x e).1 = true → live (f x e).2 k)
    (hy : ∀ x e k G H, live x (k + 1) → S x G H → AYield E.P id [e.av] H (fun r H' => r = .bool (f x e).1 ∧ Bhd S (f x e).2 G H H')) (e : EX) (x : X) (k0 : Nat) (hx : live x (e.count + k0)) (G : Nat → Prop) (H : List AObj) (hs : S x G H) :
    ACalls E.P 87 [e.av, .yld id] H (fun r H' => r = .bool (walk f e x).1 ∧ Bhd S (walk f e x).2 G H H') := by
  generalize hsz : SizeOf.sizeOf e = sz
  induction sz using Nat.strongRecOn generalizing e x k0 G H with
  | _ sz ih =>
  obtain ⟨op, n, k, i, s, args⟩ := e
  have ihL : ∀ (j : Nat) (hj : j < args.length) (x : X) (k0 : Nat) (G : Nat → Prop) (H : List AObj), live x (args[j].count + k0) → S x G H → ACalls E.P 87 [(args[j]).av, .yld id] H (fun r H' => r = .bool (walk f (args[j]) x).1 ∧ Bhd S (walk f (args[j]) x).2 G H H') := fun j hj x k0 G H hx hs =>
    ih _ (by subst hsz; have := List.sizeOf_lt_of_mem (List.getElem_mem hj); simp only [EX.mk.sizeOf_spec]; omega) _ x k0 hx G H hs rfl
  have hx : live x (EX.countL args + k0 + 1) := by rw [EX.count] at hx; rwa [show EX.countL args + k0 + 1 = 1 + EX.countL args + k0 by omega]
  refine ok87.acalls0 hE hm (by simp) fun N hN => ?_
  unfold mc87
  simp only [lA, ptrCells, ptrAdd, isNil, readsV, readsP, isCall, wrote, srcOf, seval, EX.av, get_last, set_last]
  refine yld_i (hy x (.mk op n k i s args) _ _ _ hx (hG.push _ _ _ _ hs)) ?_
  rintro _ H1 ⟨rfl, hb1⟩
  obtain ⟨hb1, hown⟩ := hG.own hs hb1
  simp only [lA, ptrCells, ptrAdd, isNil, readsV, readsP, isCall, wrote, srcOf, seval, hown]
  have hfl := hl x (.mk op n k i s args) _ hx
  generalize hfx : f x (.mk op n k i s args) = fx at *
  have hmax := maxLen_eq
  refine cond_i (fun h => ?_) (fun h => ?_)
  · simp only [lA, ptrCells, ptrAdd, isNil, readsV, readsP, isCall, wrote, srcOf, seval, hown]
    have h : fx.1 = false := by simpa using h
    have hw : walk f (.mk op n k i s args) x = (false, fx.2) := by simp only [walk, hfx, h]; simp
    rw [hw]; exact ⟨rfl, hb1⟩
  · simp only [Bool.not_eq_false'] at h
    simp only [lA, ptrCells, ptrAdd, isNil, readsV, readsP, isCall, wrote, srcOf, seval, hown]
    refine LenR_i fun hlen => ?_
    rw [avL_map] at hlen ⊢
    rw [List.length_map] at hlen
    simp only [lA, ptrCells, ptrAdd, isNil, readsV, readsP, isCall, wrote, srcOf, seval, hown, List.length_map]
    refine loop_i (fun p : Nat × X × List AObj => p.1 ≤ args.length ∧ walkL f (args.take p.1) fx.2 = (true, p.2.1) ∧ live p.2.1 (EX.countL (args.drop p.1) + k0) ∧ Bhd S p.2.1 G H p.2.2) (fun p => ⟨[(1, .yld id), (12, .view 6 (args.map EX.av)), (13, .int .i64 args.length), (14, .int .i64 p.1)], p.2.2⟩) (fun p => args.length - p.1) (0, fx.2, H1) ⟨by simp, by simp [walkL], hfl h, hb1⟩
      (Ent.fr (by simp [FrSub, Go.Al.get])) ?_
    rintro ⟨j, y, H2⟩ ⟨hj, hw, hyl, hb2⟩
    simp only at hj hw hyl hb2
    simp only [lA, ptrCells, ptrAdd, isNil, readsV, readsP, isCall, wrote, srcOf, seval]
    refine cond_i (fun h1 => ?_) (fun h1 => ?_)
    · simp only [decide_eq_true_eq] at h1
      have hjl : j < args.length := by omega
      simp only [lA, ptrCells, ptrAdd, isNil, readsV, readsP, isCall, wrote, srcOf, seval, get_last, set_last]
      have hnext : walkL f (args.take (j + 1)) fx.2 = if (walk f args[j] y).1 then (true, (walk f args[j] y).2) else (false, (walk f args[j] y).2) := by
        rw [List.take_succ_eq_append_getElem hjl, walkL_append, hw]
        simp [walkL]
      have hyl : live y (args[j].count + (EX.countL (args.drop (j + 1)) + k0)) := by rw [countL_drop hjl] at hyl; rwa [show args[j].count + (EX.countL (args.drop (j + 1)) + k0) = args[j].count + EX.countL (args.drop (j + 1)) + k0 by omega]
      have hcall := fun o => ihL j hjl y _ G (H2 ++ [o]) hyl (hG.skip hb2.1).1
      have hwl := walk_liveg hl args[j] y _ hyl
      have hx : (args.map EX.av)[(j : Int).toNat]? = some (args[j]).av := by simp [hjl]
      generalize hej : args[j] = ej at *
      obtain ⟨o2, n2, k2, i2, s2, args2⟩ := ej
      refine ⟨_, _, by omega, hx, rfl, ?_⟩
      simp only [lA, ptrCells, ptrAdd, isNil, readsV, readsP, isCall, wrote, srcOf, seval, EX.av, get_last, set_last]
      refine ACalls.mono (hcall _) ?_
      rintro _ H3 ⟨rfl, hb3⟩
      have hb3 := hb2.trans ((hG.skip hb2.1).trans hb3)
      simp only [lA, ptrCells, ptrAdd, isNil, readsV, readsP, isCall, wrote, srcOf, seval]
      generalize walk f (.mk o2 n2 k2 i2 s2 args2) y = wy at *
      refine cond_i (fun h2 => ?_) (fun h2 => ?_)
      · simp only [Bool.not_eq_true'] at h2
        simp only [lA, ptrCells, ptrAdd, isNil, readsV, readsP, isCall, wrote, srcOf, seval]
        have hww : walk f (.mk op n k i s args) x = (false, wy.2) := by
          simp only [walk, hfx, h, if_true]
          have : args = args.take (j + 1) ++ args.drop (j + 1) := by simp
          rw [this, walkL_append, hnext, h2]
          simp
        rw [hww]; exact ⟨rfl, hb3⟩
      · simp only [Bool.not_eq_false'] at h2
        simp only [lA, ptrCells, ptrAdd, isNil, readsV, readsP, isCall, wrote, srcOf, seval, wrap_i64 (show -9223372036854775808 ≤ (j : Int) + 1 by omega) (show (j : Int) + 1 ≤ 9223372036854775807 by omega)]
        refine back_i (j + 1, wy.2, H3) ⟨by omega, by rw [hnext, h2]; rfl, hwl h2, hb3⟩ (by simp only; omega) (Ent.fr (by simp [FrSub, Go.Al.get]))
    · simp only [decide_eq_false_iff_not] at h1
      have hjl : j = args.length := by omega
      subst hjl
      rw [List.take_length] at hw
      simp only [lA, ptrCells, ptrAdd, isNil, readsV, readsP, isCall, wrote, srcOf, seval]
      have hww : walk f (.mk op n k i s args) x = (true, y) := by simp only [walk, hfx, h, if_true]; exact hw
      rw [hww]; exact ⟨rfl, hb2⟩
theorem c86g (hG : Grows S) (hl : ∀ x e k, live x (k + 1) → (f x e).1 = true → live (f x e).2 k)
    (hy : ∀ x e k G H, live x (k + 1) → S x G H → AYield E.P id [e.av] H (fun r H' => r = .bool (f x e).1 ∧ Bhd S (f x e).2 G H H')) (e : EX) (x : X) (hx : live x e.count) (G : Nat → Prop) (H : List AObj) (hs : S x G H) :
    ACalls E.P 86 [.yld id, .vp e.cs] H (fun r H' => Bhd S (walk f e x).2 G H H') := by
  have hv := c87g hG hl hy e x 0 hx G H hs
  obtain ⟨op, n, k, i, s, args⟩ := e
  refine ok86.acalls0 hE hm (by simp) fun N hN => ?_
  unfold mc86
  simp only [lA, ptrCells, ptrAdd, isNil, readsV, readsP, isCall, wrote, srcOf, seval, EX.cs]
  refine ACalls.mono hv ?_
  rintro _ H1 ⟨rfl, hb⟩
  simp only [lA, ptrCells, ptrAdd, isNil, readsV, readsP, isCall, wrote, srcOf, seval]
  exact hb
end
end Go.Proofs.Try

namespace Go.Proofs.Try
open Go.Proofs.Tryd
open Go.Al
set_option maxRecDepth 100000
/-- alum/alumref19.SameInts -/
def mc41 : MC :=
 (.seq (.ops [(none, (.v (.mov 4 (.c (.bool false)))))])
 (.seq (.seq (.ops [(none, (.v (.mov 6 (.t 0)))),
 (none, (.p (.len 7 (.t 6)))),
 (none, (.v (.mov 8 (.t 1)))),
 (none, (.p (.len 9 (.t 8)))),
 (none, (.v (.bin 10 .neq false (.t 7) (.t 9))))])
 (.cond 10
 (.seq (.ops [(none, (.v (.mov 4 (.c (.bool false)))))])
 .ret)
 .skip))
 (.seq (.seq (.ops [(none, (.v (.mov 5 (.c (.int .i64 0)))))])
 (.block 0 (.loop (.seq (.seq (.ops [(none, (.v (.mov 11 (.t 5)))),
 (none, (.v (.mov 12 (.t 0)))),
 (none, (.p (.len 13 (.t 12)))),
 (none, (.v (.bin 14 .lss false (.t 11) (.t 13))))])
 (.cond 14
 .skip
 (.exit 0)))
 (.seq (.block 1 (.seq (.any false (.pure0 none (.v (.mov 17 (.t 0)))
 (.pure0 none (.v (.mov 18 (.t 5)))
 (.pure0 none (.p (.idx 19 1 (.t 17) (.t 18)))
 (.pure0 none (.v (.load 20 false 1 (.t 19)))
 (.pure0 none (.v (.mov 21 (.t 1)))
 (.pure0 none (.v (.mov 22 (.t 5)))
 (.pure0 none (.p (.idx 23 1 (.t 21) (.t 22)))
 (.pure0 none (.v (.load 24 false 1 (.t 23)))
 (.pure0 none (.v (.bin 25 .neq false (.t 20) (.t 24)))
 .done))))))))))
 (.cond 25
 (.seq (.ops [(none, (.v (.mov 4 (.c (.bool false)))))])
 .ret)
 .skip)))
 (.ops [(none, (.v (.mov 15 (.t 5)))),
 (none, (.v (.bin 16 .add false (.t 15) (.c (.int .i64 1))))),
 (none, (.v (.mov 5 (.t 16))))]))))))
 (.seq (.ops [(none, (.v (.mov 4 (.c (.bool true)))))])
 .ret))))
theorem ok41 : FnOk E 41 26 [.tmp 4] mc41 := .of func41 (by kernel_rfl) (by kernel_rfl) (by kernel_rfl) (by kernel_rfl) (by kernel_rfl)
/-- alum/alumref36.with -/
def mc79 : MC :=
 (.seq (.ops [(none, (.v (.mov 4 (.c (.raw (.slice none 0 0))))))])
 (.seq (.ops [(none, (.v (.mov 5 (.c (.raw (.slice none 0 0))))))])
 (.seq (.ops [(none, (.v (.mov 6 (.c (.bool false)))))])
 (.seq (.seq (.ops [(none, (.v (.mov 7 (.c (.int .i64 0)))))])
 (.block 0 (.loop (.seq (.seq (.ops [(none, (.v (.mov 8 (.t 7)))),
 (none, (.v (.mov 9 (.t 0)))),
 (none, (.p (.len 10 (.t 9)))),
 (none, (.v (.bin 11 .lss false (.t 8) (.t 10))))])
 (.cond 11
 .skip
 (.exit 0)))
 (.seq (.block 1 (.seq (.seq (.ops [(none, (.v (.mov 14 (.t 6)))),
 (none, (.v (.not 15 (.t 14)))),
 (none, (.v (.mov 16 (.t 15)))),
 ((some (16, true)), (.v (.mov 17 (.t 1)))),
 ((some (16, true)), (.v (.mov 18 (.t 0)))),
 ((some (16, true)), (.v (.mov 19 (.t 7)))),
 ((some (16, true)), (.p (.idx 20 1 (.t 18) (.t 19)))),
 ((some (16, true)), (.v (.load 21 false 1 (.t 20)))),
 ((some (16, true)), (.v (.bin 22 .leq false (.t 17) (.t 21)))),
 (none, (.v (.pick 23 (.t 16) (.t 22) (.c (.bool false)))))])
 (.cond 23
 (.seq (.ops [(none, (.v (.mov 24 (.t 5)))),
 (none, (.v (.mov 25 (.t 1)))),
 (none, (.e (.mkl 26 3 1 1 (.int .i64 0) [(0, (.t 25))]))),
 (none, (.e (.app 27 3 1 8 (.t 24) (.t 26)))),
 (none, (.v (.mov 5 (.t 27))))])
 (.ops [(none, (.v (.mov 6 (.c (.bool true)))))]))
 .skip))
 (.seq (.ops [(none, (.v (.mov 28 (.t 0)))),
 (none, (.v (.mov 29 (.t 7)))),
 (none, (.p (.idx 30 1 (.t 28) (.t 29)))),
 (none, (.v (.load 31 false 1 (.t 30)))),
 (none, (.v (.mov 32 (.t 1)))),
 (none, (.v (.bin 33 .neq false (.t 31) (.t 32))))])
 (.cond 33
 (.ops [(none, (.v (.mov 34 (.t 5)))),
 (none, (.v (.mov 35 (.t 0)))),
 (none, (.v (.mov 36 (.t 7)))),
 (none, (.p (.idx 37 1 (.t 35) (.t 36)))),
 (none, (.v (.load 38 false 1 (.t 37)))),
 (none, (.e (.mkl 39 3 1 1 (.int .i64 0) [(0, (.t 38))]))),
 (none, (.e (.app 40 3 1 8 (.t 34) (.t 39)))),
 (none, (.v (.mov 5 (.t 40))))])
 .skip))))
 (.ops [(none, (.v (.mov 12 (.t 7)))),
 (none, (.v (.bin 13 .add false (.t 12) (.c (.int .i64 1))))),
 (none, (.v (.mov 7 (.t 13))))]))))))
 (.seq (.seq (.ops [(none, (.v (.mov 41 (.t 6)))),
 (none, (.v (.not 42 (.t 41))))])
 (.cond 42
 (.ops [(none, (.v (.mov 43 (.t 5)))),
 (none, (.v (.mov 44 (.t 1)))),
 (none, (.e (.mkl 45 3 1 1 (.int .i64 0) [(0, (.t 44))]))),
 (none, (.e (.app 46 3 1 8 (.t 43) (.t 45)))),
 (none, (.v (.mov 5 (.t 46))))])
 .skip))
 (.seq (.ops [(none, (.v (.mov 47 (.t 5)))),
 (none, (.v (.mov 4 (.t 47))))])
 .ret))))))
theorem ok79 : FnOk E 79 48 [.tmp 4] mc79 := .of func79 (by kernel_rfl) (by kernel_rfl) (by kernel_rfl) (by kernel_rfl) (by kernel_rfl)
end Go.Proofs.Try
namespace Go.Proofs.Try
open Go.Al
set_option linter.unusedVariables false
set_option linter.unusedSimpArgs false
set_option maxRecDepth 20000
set_option maxHeartbeats 8000000

/-! ### slices.Sort and slices.Compact of integers -/
theorem bodied77 : Bodied E.P 77 := ⟨_, Tryd.func77, by kernel_rfl, by kernel_rfl⟩
theorem bodied78 : Bodied E.P 78 := ⟨_, Tryd.func78, by kernel_rfl, by kernel_rfl⟩
def srt (zs : List Int) : List Int := zs.mergeSort fun x y => decide (x ≤ y)
theorem srt_len (zs : List Int) : (srt zs).length = zs.length := by simp [srt]
theorem c77 (zs : List Int) (h : zs.length < 4611686018427387904) : ACalls E.P 77 [.slc 0 1 zs.length] [.arr 3 1 (zs.map (AV.int .i64))] (fun r H => r = .tup [] ∧ H = [.arr 3 1 ((srt zs).map (AV.int .i64))]) :=
  bridge_ints (R := none) bodied77 (srt_len zs) (fun m hm => by cases hm) (fun _ p cap w => Tryd.slices_Sort_int_none p cap w)
    (fun blk cap w _ hH hb _ _ => Tryd.slices_Sort_int blk 0 cap zs w hH hb h)
theorem compact_len (zs : List Int) : (Lib.compact zs).length ≤ zs.length := by
  unfold Lib.compact Lib.compactUpTo
  rw [List.length_map]
  exact Nat.le_trans (List.length_filter_le _ _) (by simp)
theorem c78 (zs : List Int) : ∃ ts : List Int, ACalls E.P 78 [.slc 0 1 zs.length] [.arr 3 1 (zs.map (AV.int .i64))] (fun r H => r = .slc 0 1 (Lib.compact zs).length ∧ H = [.arr 3 1 ((Lib.compact zs ++ ts).map (AV.int .i64))]) := by
  have hc := compact_len zs
  refine ⟨List.replicate (zs.length - (Lib.compact zs).length) 0, bridge_ints (R := some (Lib.compact zs).length) bodied78 (by simp; omega) (fun m hm => by cases hm; exact hc) ?_ ?_⟩
  · rintro rfl p cap w
    exact Tryd.slices_Compact_int_empty p cap w
  · intro blk cap w _ hH hb h1 h2
    have hmax := maxLen_eq
    refine (Tryd.slices_Compact_int blk 0 cap zs w hH (by omega) h1).mono ?_
    rintro e w' ⟨rfl, q, rfl⟩
    exact ⟨rfl, q, #[], by rw [Go.Sort.grow_empty]⟩
theorem nil_call {P : Program} {f : FuncId} {r : AV} {v : Value} (hb : Bodied P f) (hr : ∀ γ σ, RepV γ σ r v) (h : ∀ w, Calls P f #[.slice none 0 0] w fun e w' => e = .returned v ∧ w' = w) : ACalls P f [.raw (.slice none 0 0)] [] (fun q H => q = r ∧ H = []) :=
  ⟨hb, fun γ σ w vs hi hv => by
    obtain ⟨u, _, rfl, hu, rfl⟩ := hv
    have hu : u = .slice none 0 0 := hu
    subst hu
    refine (h w).mono ?_
    rintro e w' ⟨rfl, rfl⟩
    exact ⟨v, γ, σ, r, _, rfl, .refl _ _ _, hi, hr γ σ, rfl, rfl⟩⟩
theorem c77nil : ACalls E.P 77 [.raw (.slice none 0 0)] [] (fun q H => q = .tup [] ∧ H = []) := nil_call (v := .tuple #[]) bodied77 (fun _ _ => ⟨[], rfl, rfl⟩) (fun w => Tryd.slices_Sort_int_none none 0 w)
theorem c78nil : ACalls E.P 78 [.raw (.slice none 0 0)] [] (fun q H => q = .raw (.slice none 0 0) ∧ H = []) := nil_call (v := .slice none 0 0) bodied78 (fun _ _ => rfl) (fun w => Tryd.slices_Compact_int_empty none 0 w)

/-! ### SameInts -/
theorem ints_eq {l m : List Int} (h1 : l.length = m.length) (h2 : ∀ j, j < l.length → l.getD j 0 = m.getD j 0) : l = m := by
  apply List.ext_getElem h1
  intro i hi hi2
  have := h2 i hi
  simpa [hi, hi2] using this
theorem c41 (a b : List Int) : ACalls E.P 41 [ksV a, ksV b] [] (fun r H => r = .bool (decide (a = b)) ∧ H = []) := by
  have hmax := maxLen_eq
  refine ok41.acalls hE hm (by simp) fun N hN => ?_
  unfold mc41
  simp only [lA, ptrCells, ptrAdd, isNil, readsV, readsP, isCall, wrote, srcOf, seval]
  by_cases hl : (a.length : Int) = b.length
  · have hl' : a.length = b.length := by omega
    repeat' (first
     | (with_reducible apply St.o; constructor) <;> intro _
     | with_reducible first | refine LenR_i fun _ => ?_ | refine And.intro (by omega) ?_ | (apply Sp.o; constructor) | refine frz0_i ?_
     | ((with_reducible refine keep0_i ?_); simp only [lP, seval])
     | simp (maxSteps := 1000000) (disch := omega) only [lE, ptrCells, ptrAdd, isNil, readsV, readsP, isCall, wrote, srcOf, seval, hl, List.length_map, decide_true, Bool.not_true])
    refine loop_i (fun j : Nat => j ≤ a.length ∧ ∀ i, i < j → a.getD i 0 = b.getD i 0) (fun j => ⟨[(0, ksV a), (1, ksV b), (5, .int .i64 j)], []⟩) (fun j => a.length - j) 0 ⟨by omega, by omega⟩ (Ent.to [] false (by simp) (by simp) rfl (by simp only [lP, seval] <;> (try simp) <;> (try omega)) (by simp only [lP, seval] <;> (try simp) <;> (try omega))) ?_
    rintro j ⟨hj, hall⟩
    by_cases hin : j < a.length
    · have hlt : ((j : Int) < (a.length : Int)) := by omega
      repeat' (first
       | (with_reducible apply St.o; constructor) <;> intro _
       | with_reducible first | refine LenR_i fun _ => ?_ | refine And.intro (by omega) ?_ | (apply Sp.o; constructor) | refine frz0_i ?_
       | ((with_reducible refine keep0_i ?_); simp only [lP, seval])
       | simp (maxSteps := 1000000) (disch := omega) only [lE, ptrCells, ptrAdd, isNil, readsV, readsP, isCall, wrote, srcOf, seval, IdxR_ints, Int.toNat_natCast, List.length_map, hlt, decide_true])
      · rename_i h
        have : a ≠ b := fun h2 => by subst h2; simp at h
        simp [this]
      · rename_i h
        refine back_i (j + 1) ⟨by omega, fun i hi => ?_⟩ (by omega) (Ent.to [] false (by simp) (by simp) rfl (by simp only [lP, seval] <;> (try simp) <;> (try omega)) (by simp only [lP, seval] <;> (try simp) <;> (try omega)))
        by_cases h2 : i < j
        · exact hall i h2
        · obtain rfl : i = j := by omega
          simpa using h
    · obtain rfl : j = a.length := by omega
      have : a = b := ints_eq hl' hall
      repeat' (first
       | (with_reducible apply St.o; constructor) <;> intro _
       | with_reducible first | refine LenR_i fun _ => ?_ | refine And.intro (by omega) ?_ | (apply Sp.o; constructor) | refine frz0_i ?_
       | ((with_reducible refine keep0_i ?_); simp only [lP, seval])
       | simp (maxSteps := 1000000) (disch := omega) only [lE, ptrCells, ptrAdd, isNil, readsV, readsP, isCall, wrote, srcOf, seval, List.length_map, Int.lt_irrefl, decide_false])
      simp [this]
  · have : a ≠ b := fun h => by subst h; omega
    repeat' (first
     | (with_reducible apply St.o; constructor) <;> intro _
     | with_reducible first | refine LenR_i fun _ => ?_ | refine And.intro (by omega) ?_ | (apply Sp.o; constructor) | refine frz0_i ?_
     | ((with_reducible refine keep0_i ?_); simp only [lP, seval])
     | simp (maxSteps := 1000000) (disch := omega) only [lE, ptrCells, ptrAdd, isNil, readsV, readsP, isCall, wrote, srcOf, seval, hl, List.length_map, decide_false, Bool.not_false])
    simp [this]

/-! ### with: a number into an ascending list -/
def wStep (n : Int) (s : List Int × Bool) (x : Int) : List Int × Bool := (s.1 ++ ((if s.2 = false ∧ n ≤ x then [n] else []) ++ (if x = n then [] else [x])), s.2 || decide (n ≤ x))
def wFold (n : Int) (l : List Int) : List Int × Bool := l.foldl (wStep n) ([], false)
def withL (l : List Int) (n : Int) : List Int := (wFold n l).1 ++ (if (wFold n l).2 = true then [] else [n])
theorem wFold_len (n : Int) : ∀ (l : List Int) (s : List Int × Bool), (l.foldl (wStep n) s).1.length + (if (l.foldl (wStep n) s).2 = true then 0 else 1) ≤ s.1.length + l.length + (if s.2 = true then 0 else 1)
  | [], s => Nat.le_refl _
  | x :: l, s => by
    rw [List.foldl_cons]
    refine Nat.le_trans (wFold_len n l (wStep n s x)) ?_
    unfold wStep
    obtain ⟨a, b⟩ := s
    cases b <;> by_cases h : n ≤ x <;> by_cases h2 : x = n <;> simp [h, h2] <;> omega
theorem wFold_le (n : Int) (l : List Int) : (wFold n l).1.length ≤ l.length + 1 := by
  have := wFold_len n l ([], false)
  unfold wFold
  simp only [List.length_nil] at this
  simp at this
  omega
theorem wFold_take (n : Int) {l : List Int} {j : Nat} (h : j < l.length) : wFold n (l.take (j + 1)) = wStep n (wFold n (l.take j)) (l.getD j 0) := by
  unfold wFold
  rw [List.take_succ_eq_append_getElem h, List.foldl_append]
  simp [h]
theorem c79 (l : List Int) (n : Int) (hl : l.length ≤ 1048576) : ACalls E.P 79 [ksV l, .int .i64 n] [] (fun r H => r = .slc 0 1 (withL l n).length ∧ H = [.arr 3 1 ((withL l n).map (AV.int .i64))]) := by
  have hmax := maxLen_eq
  refine ok79.acalls hE hm (by simp) fun N hN => ?_
  unfold mc79
  simp only [lA, ptrCells, ptrAdd, isNil, readsV, readsP, isCall, wrote, srcOf, seval]
  refine loop_i (fun j : Nat => j ≤ l.length) (fun j => ⟨[(0, ksV l), (1, .int .i64 n), (5, .slc 0 1 (wFold n (l.take j)).1.length), (6, .bool (wFold n (l.take j)).2), (7, .int .i64 j)], [.arr 3 1 ((wFold n (l.take j)).1.map (AV.int .i64))]⟩) (fun j => l.length - j) 0 (by omega)
    (Ent.ghost' 5 3 1 (by omega) rfl (Ent.to [0] false (by simp) (by simp) rfl (by simp only [lP, seval, List.take_zero, wFold] <;> (try simp) <;> (try omega)) (by simp only [lP, seval, List.take_zero, wFold] <;> (try simp) <;> (try omega)))) ?_
  intro j hj
  have hw := wFold_le n (l.take j)
  have hfl2 : (l.take j).length ≤ l.length := by simp; omega
  by_cases hin : j < l.length
  · have hlt : ((j : Int) < (l.length : Int)) := by omega
    have hnx := wFold_take n hin
    generalize wFold n (l.take j) = s at *
    generalize hx : l.getD j 0 = x at *
    obtain ⟨out, put⟩ := s
    simp only at hw hnx ⊢
    repeat' (first
     | (with_reducible apply St.o; constructor) <;> intro _
     | with_reducible first | refine LenR_i fun _ => ?_ | refine And.intro (by omega) ?_ | (apply Sp.o; constructor) | refine frz0_i ?_
     | ((with_reducible refine keep0_i ?_); simp only [lP, seval])
     | simp (maxSteps := 1000000) (disch := omega) only [lE, ptrCells, ptrAdd, isNil, readsV, readsP, isCall, wrote, srcOf, seval, hx, IdxR_ints, Int.toNat_natCast, List.length_map, hlt, decide_true, fillE, setAll, List.length_append, List.length_cons, List.length_nil])
    all_goals (try (exfalso; omega))
    all_goals
      refine back_i (j + 1) (by omega) (by omega) ?_
      rw [hnx]
      simp only [wStep]
      cases put <;> simp_all
    all_goals first
      | exact (Ent.to [4] false rfl (by simp) rfl (by simp only [lP, seval, List.map_append, List.length_append] <;> (try simp [*])) (by simp only [lP, seval, List.map_append, List.length_append] <;> (try simp [*])))
      | exact (Ent.to [2] false rfl (by simp) rfl (by simp only [lP, seval, List.map_append, List.length_append] <;> (try simp [*])) (by simp only [lP, seval, List.map_append, List.length_append] <;> (try simp [*])))
      | exact (Ent.to [0] false rfl (by simp) rfl (by simp only [lP, seval, List.map_append, List.length_append] <;> (try simp [*])) (by simp only [lP, seval, List.map_append, List.length_append] <;> (try simp [*])))
  · obtain rfl : j = l.length := by omega
    rw [List.take_length] at *
    unfold withL
    generalize wFold n l = s at *
    obtain ⟨out, put⟩ := s
    simp only at hw ⊢
    repeat' (first
     | (with_reducible apply St.o; constructor) <;> intro _
     | with_reducible first | refine LenR_i fun _ => ?_ | refine And.intro (by omega) ?_ | (apply Sp.o; constructor) | refine frz0_i ?_
     | simp (maxSteps := 1000000) (disch := omega) only [lE, ptrCells, ptrAdd, isNil, readsV, readsP, isCall, wrote, srcOf, seval, List.length_map, Int.lt_irrefl, decide_false, fillE, setAll, List.length_append, List.length_cons, List.length_nil])
    · rename_i h
      have h : put = false := by simpa using h
      subst h
      refine keep_i [2] false rfl (by simp) rfl ?_
      simp only [lP, seval, List.map_append]
      try simp
    · rename_i h
      have h : put = true := by simpa using h
      subst h
      refine keep_i [0] false rfl (by simp) rfl ?_
      simp only [lP, seval]
      try simp
end Go.Proofs.Try

namespace Go.Proofs.Try
open Go.Proofs.Tryd
open Go.Al
set_option maxRecDepth 100000
/-- alum/alumref36.Columns -/
def mc43 : MC :=
 (.seq (.ops [(none, (.e (.box 1 (.t 0)))),
 (none, (.v (.mov 2 (.c (.raw (.slice none 0 0))))))])
 (.seq (.ops [(none, (.v (.mov 3 (.c (.raw (.slice none 0 0))))))])
 (.seq (.seq (.ops [(none, (.v (.fld 7 0 (.t 1)))),
 (none, (.v (.load 8 false 1 (.t 7)))),
 (none, (.v (.bin 9 .eql false (.t 8) (.c (.int .i64 1)))))])
 (.cond 9
 (.ops [(none, (.v (.mov 10 (.t 3)))),
 (none, (.v (.fld 11 1 (.t 1)))),
 (none, (.v (.load 12 false 1 (.t 11)))),
 (none, (.e (.mkl 13 3 1 1 (.int .i64 0) [(0, (.t 12))]))),
 (none, (.e (.app 14 3 1 8 (.t 10) (.t 13)))),
 (none, (.v (.mov 3 (.t 14))))])
 .skip))
 (.seq (.seq (.ops [(none, (.v (.mov 4 (.c (.int .i64 0)))))])
 (.block 0 (.loop (.seq (.seq (.ops [(none, (.v (.mov 15 (.t 4)))),
 (none, (.v (.fld 16 5 (.t 1)))),
 (none, (.v (.load 17 false 1 (.t 16)))),
 (none, (.p (.len 18 (.t 17)))),
 (none, (.v (.bin 19 .lss false (.t 15) (.t 18))))])
 (.cond 19
 .skip
 (.exit 0)))
 (.seq (.block 1 (.seq (.ops [(none, (.v (.fld 22 5 (.t 1)))),
 (none, (.v (.load 23 false 1 (.t 22)))),
 (none, (.v (.mov 24 (.t 4)))),
 (none, (.p (.idx 25 6 (.t 23) (.t 24)))),
 (none, (.v (.load 26 true 6 (.t 25)))),
 (none, (.e (.call (some 27) 43 [(.t 26)]))),
 (none, (.v (.mov 5 (.t 27))))])
 (.seq (.ops [(none, (.v (.mov 6 (.c (.int .i64 0)))))])
 (.block 2 (.loop (.seq (.seq (.ops [(none, (.v (.mov 28 (.t 6)))),
 (none, (.v (.mov 29 (.t 5)))),
 (none, (.p (.len 30 (.t 29)))),
 (none, (.v (.bin 31 .lss false (.t 28) (.t 30))))])
 (.cond 31
 .skip
 (.exit 2)))
 (.seq (.block 3 (.ops [(none, (.v (.mov 34 (.t 3)))),
 (none, (.v (.mov 35 (.t 5)))),
 (none, (.v (.mov 36 (.t 6)))),
 (none, (.p (.idx 37 1 (.t 35) (.t 36)))),
 (none, (.v (.load 38 false 1 (.t 37)))),
 (none, (.e (.call (some 39) 79 [(.t 34), (.t 38)]))),
 (none, (.v (.mov 3 (.t 39))))]))
 (.ops [(none, (.v (.mov 32 (.t 6)))),
 (none, (.v (.bin 33 .add false (.t 32) (.c (.int .i64 1))))),
 (none, (.v (.mov 6 (.t 33))))]))))))))
 (.ops [(none, (.v (.mov 20 (.t 4)))),
 (none, (.v (.bin 21 .add false (.t 20) (.c (.int .i64 1))))),
 (none, (.v (.mov 4 (.t 21))))]))))))
 (.seq (.ops [(none, (.v (.mov 40 (.t 3)))),
 (none, (.v (.mov 2 (.t 40))))])
 .ret)))))
theorem ok43 : FnOk E 43 41 [.tmp 2] mc43 := .of func43 (by kernel_rfl) (by kernel_rfl) (by kernel_rfl) (by kernel_rfl) (by kernel_rfl)
end Go.Proofs.Try
namespace Go.Proofs.Try
open Go.Al
set_option linter.unusedVariables false
set_option linter.unusedSimpArgs false
set_option maxRecDepth 20000
set_option maxHeartbeats 8000000

theorem Ent.nilv {m : Nat} {N : FN} {fr : List (Nat × AV)} {H : List AObj} {s' : AS} (t sz : Nat) (h : Go.Al.get fr t = .raw (.slice none 0 0)) (he : Ent m N ⟨(t, .view sz []) :: fr, H⟩ s') : Ent m N ⟨fr, H⟩ s' := by
  refine Ent.trans (s' := ⟨(t, .view sz []) :: fr, H⟩) (fun γ σ w a hr => ⟨γ, σ, .refl _ _ _, hr.inv, fun u => ?_, hr.defers, hr.size⟩) he
  simp only [Go.Al.get]
  split
  · rename_i e
    subst e
    have := hr.fr t
    simp only [h] at this
    exact weak_nil _ _ _ this
  · exact hr.fr u
/-! ### the specification's columns -/
mutual
def EX.colsR : EX → List Int
  | .mk op n k i s args => EX.colsRL args (if op = 1 then [n] else [])
def EX.colsRL : List EX → List Int → List Int
  | [], acc => acc
  | e :: es, acc => EX.colsRL es (e.colsR.foldl withL acc)
end
theorem colsRL_fold : ∀ (l : List EX) (acc : List Int), EX.colsRL l acc = l.foldl (fun acc e => e.colsR.foldl withL acc) acc
  | [], acc => rfl
  | e :: l, acc => by rw [EX.colsRL, colsRL_fold l, List.foldl_cons]
theorem colsR_eq (e : EX) : e.colsR = e.args.foldl (fun acc e => e.colsR.foldl withL acc) (if e.op = 1 then [e.n] else []) := by
  cases e; rw [EX.colsR, colsRL_fold]; rfl
theorem withL_len (l : List Int) (n : Int) : (withL l n).length ≤ l.length + 1 := by
  have := wFold_len n l ([], false)
  change (wFold n l).1.length + (if (wFold n l).2 = true then 0 else 1) ≤ _ at this
  unfold withL
  rw [List.length_append]
  split at this <;> simp at this <;> (rename_i h; simp [h]; omega)
theorem fold_withL_len : ∀ (l acc : List Int), (l.foldl withL acc).length ≤ acc.length + l.length
  | [], acc => by simp
  | x :: l, acc => by
    have := fold_withL_len l (withL acc x)
    have := withL_len acc x
    simp only [List.foldl_cons, List.length_cons]; omega
mutual
theorem colsR_len : ∀ e : EX, e.colsR.length ≤ e.count
  | .mk op n k i s args => by
    have := colsRL_len args (if op = 1 then [n] else [])
    rw [EX.colsR, EX.count]
    split at this <;> simp at this <;> (rename_i h; simp [h]; omega)
theorem colsRL_len : ∀ (l : List EX) (acc : List Int), (EX.colsRL l acc).length ≤ acc.length + EX.countL l
  | [], acc => by simp [EX.colsRL, EX.countL]
  | e :: l, acc => by
    have h1 := colsRL_len l (e.colsR.foldl withL acc)
    have h2 := fold_withL_len e.colsR acc
    have h3 := colsR_len e
    rw [EX.colsRL, EX.countL]; omega
end
theorem countL_tk : ∀ (l : List EX) (j : Nat), EX.countL (l.take j) ≤ EX.countL l
  | [], j => by simp
  | e :: l, 0 => by simp [EX.countL]
  | e :: l, j + 1 => by have := countL_tk l j; simp only [List.take_succ_cons, EX.countL]; omega
theorem count_getD {l : List EX} {j : Nat} (h : j < l.length) : (l.getD j default).count ≤ EX.countL l := by
  induction l generalizing j with
  | nil => simp at h
  | cons e l ih =>
    cases j with
    | zero => simp [EX.countL]
    | succ j => have := ih (j := j) (by simpa using h); simp only [List.getD_cons_succ, EX.countL]; omega
theorem c43 (e : EX) (hc : e.count ≤ 1048576) : ACalls E.P 43 [e.av] [] (fun r H => r = ksV e.colsR ∧ H = []) := by
  have hmax := maxLen_eq
  generalize hsz : SizeOf.sizeOf e = sz
  induction sz using Nat.strongRecOn generalizing e with
  | _ sz ih =>
  have hrec : ∀ j, j < e.args.length → ACalls E.P 43 [(e.args.getD j default).av] [] (fun r H => r = ksV (e.args.getD j default).colsR ∧ H = []) := fun j hj =>
    ih _ (by subst hsz; exact size_args hj) _ (by have := count_getD hj; rw [count_eq] at hc; omega) rfl
  clear ih
  rw [count_eq] at hc
  have hbase : EX.colsRL e.args (if e.op = 1 then [e.n] else []) = e.colsR := by cases e; rfl
  rw [colsR_eq]
  refine ok43.acalls hE hm (by simp) fun N hN => ?_
  unfold mc43
  simp only [lA, ptrCells, ptrAdd, isNil, readsV, readsP, isCall, wrote, srcOf, seval, av_fs]
  let acc : Nat → List Int := fun j => (e.args.take j).foldl (fun acc e => e.colsR.foldl withL acc) (if e.op = 1 then [e.n] else [])
  have hal : ∀ j, (acc j).length ≤ 1 + EX.countL (e.args.take j) := fun j => by
    have h1 := colsRL_len (e.args.take j) (if e.op = 1 then [e.n] else [])
    rw [colsRL_fold] at h1
    have h3 : (if e.op = 1 then [e.n] else []).length ≤ 1 := by split <;> simp
    show ((e.args.take j).foldl (fun acc e => e.colsR.foldl withL acc) (if e.op = 1 then [e.n] else [])).length ≤ _
    omega
  have hacc0 : acc 0 = if e.op = 1 then [e.n] else [] := rfl
  have hnx : ∀ j, j < e.args.length → acc (j + 1) = (e.args.getD j default).colsR.foldl withL (acc j) := fun j hj => by
    show (e.args.take (j + 1)).foldl _ _ = _
    rw [List.take_succ_eq_append_getElem hj, List.foldl_append]
    simp [hj, acc]
  have hfin : acc e.args.length = e.args.foldl (fun acc e => e.colsR.foldl withL acc) (if e.op = 1 then [e.n] else []) := by show (e.args.take _).foldl _ _ = _; rw [List.take_length]
  rw [← hfin]
  generalize acc = ac at *
  repeat' (first
   | (with_reducible apply St.o; constructor) <;> intro _
   | with_reducible first | refine LenR_i fun _ => ?_ | refine And.intro (by omega) ?_ | (apply Sp.o; constructor) | refine frz0_i ?_
   | ((with_reducible refine keep0_i ?_); simp only [lP, seval])
   | simp (maxSteps := 1000000) (disch := omega) only [lE, ptrCells, ptrAdd, isNil, readsV, readsP, isCall, wrote, srcOf, seval, fillE, setAll, List.length_cons, List.length_nil])
  all_goals
    refine loop_i (fun j : Nat => j ≤ e.args.length) (fun j => ⟨[(1, .op 0 0), (3, ksV (ac j)), (4, .int .i64 j)], [.box e.fs]⟩) (fun j => e.args.length - j) 0 (by omega) ?_ ?_
  · rename_i h
    rw [hacc0, if_pos h]
    exact (Ent.to [0] true (by simp) (by simp) rfl (by simp only [lP, seval, pa_exs] <;> (try simp) <;> (try omega)) (by simp only [lP, seval, pa_exs] <;> (try simp) <;> (try omega)))
  rotate_left
  · rename_i h
    rw [hacc0, if_neg h]
    exact (Ent.nilv 3 1 rfl (Ent.to [0] true (by simp) (by simp) rfl (by simp only [lP, seval, pa_exs] <;> (try simp) <;> (try omega)) (by simp only [lP, seval, pa_exs] <;> (try simp) <;> (try omega))))
  all_goals
    intro j hj
    by_cases hin : j < e.args.length
    · have hlt : ((j : Int) < (e.args.length : Int)) := by omega
      have hr := hrec j hin
      have hnj := hnx j hin
      have hj1 := hal j
      have hcl := colsR_len (e.args.getD j default)
      have hcg := countL_take hin
      have hct := countL_tk e.args (j + 1)
      simp only [av_fs] at hr
      generalize hej : e.args.getD j default = ej at *
      repeat' (first
       | (with_reducible apply St.o; constructor) <;> intro _
       | with_reducible first | refine LenR_i fun _ => ?_ | refine And.intro (by omega) ?_ | (apply Sp.o; constructor) | refine frz0_i ?_
       | ((with_reducible apply Sc.o false; constructor); simp only [lP, seval, hej, IdxR_exs, Int.toNat_natCast, List.length_map, hlt, decide_true, ti27, pa_exs, vw_exs]; refine ⟨_, hr, ?_⟩; rintro _ _ ⟨rfl, rfl⟩; simp only [lA, lP, ptrCells, ptrAdd, isNil, readsV, readsP, isCall, wrote, srcOf, seval, hej, IdxR_exs, Int.toNat_natCast, List.length_map, hlt, decide_true, ti27, pa_exs, vw_exs])
       | ((with_reducible refine keep0_i ?_); simp only [lP, seval])
       | simp (maxSteps := 1000000) (disch := omega) only [lE, ptrCells, ptrAdd, isNil, readsV, readsP, isCall, wrote, srcOf, seval, hej, IdxR_exs, Int.toNat_natCast, List.length_map, hlt, decide_true, ti27, pa_exs, vw_exs])
      refine loop_i (fun i : Nat => i ≤ ej.colsR.length) (fun i => ⟨[(1, .op 0 0), (3, ksV ((ej.colsR.take i).foldl withL (ac j))), (4, .int .i64 j), (5, ksV ej.colsR), (6, .int .i64 i)], [.box e.fs]⟩) (fun i => ej.colsR.length - i) 0 (by omega) (Ent.to [0] true (by simp) (by simp) rfl (by simp only [lP, seval, pa_exs, List.take_zero, List.foldl_nil] <;> (try simp) <;> (try omega)) (by simp only [lP, seval, pa_exs, List.take_zero, List.foldl_nil] <;> (try simp) <;> (try omega))) ?_
      intro i hi
      have hfl := fold_withL_len (ej.colsR.take i) (ac j)
      have htl : (ej.colsR.take i).length ≤ ej.colsR.length := by simp; omega
      by_cases hin2 : i < ej.colsR.length
      · have hlt2 : ((i : Int) < (ej.colsR.length : Int)) := by omega
        have hn2 : (ej.colsR.take (i + 1)).foldl withL (ac j) = withL ((ej.colsR.take i).foldl withL (ac j)) (ej.colsR.getD i 0) := by
          rw [List.take_succ_eq_append_getElem hin2, List.foldl_append]; simp [hin2]
        have h79 := c79 ((ej.colsR.take i).foldl withL (ac j)) (ej.colsR.getD i 0) (by omega)
        generalize (ej.colsR.take i).foldl withL (ac j) = a2 at *
        generalize hx : ej.colsR.getD i 0 = x at *
        repeat' (first
         | (with_reducible apply St.o; constructor) <;> intro _
         | with_reducible first | refine LenR_i fun _ => ?_ | refine And.intro (by omega) ?_ | (apply Sp.o; constructor) | refine frz0_i ?_
         | ((with_reducible apply Sc.o true; constructor); simp only [lP, seval, hx, IdxR_ints, Int.toNat_natCast, List.length_map, hlt2, decide_true]; refine ⟨_, h79, ?_⟩; rintro _ _ ⟨rfl, rfl⟩; simp only [lA, lP, ptrCells, ptrAdd, isNil, readsV, readsP, isCall, wrote, srcOf, seval, hx, IdxR_ints, Int.toNat_natCast, List.length_map, hlt2, decide_true])
         | ((with_reducible refine keep0_i ?_); simp only [lP, seval])
         | simp (maxSteps := 1000000) (disch := omega) only [lE, ptrCells, ptrAdd, isNil, readsV, readsP, isCall, wrote, srcOf, seval, hx, IdxR_ints, Int.toNat_natCast, List.length_map, hlt2, decide_true])
        refine back_i (i + 1) (by omega) (by omega) ?_
        rw [hn2]
        exact (Ent.to [0] true (by simp) (by simp) rfl (by simp only [lP, seval, pa_exs] <;> (try simp) <;> (try omega)) (by simp only [lP, seval, pa_exs] <;> (try simp) <;> (try omega)))
      · obtain rfl : i = ej.colsR.length := by omega
        rw [List.take_length] at *
        rw [← hnj]
        repeat' (first
         | (with_reducible apply St.o; constructor) <;> intro _
         | with_reducible first | refine LenR_i fun _ => ?_ | refine And.intro (by omega) ?_ | (apply Sp.o; constructor) | refine frz0_i ?_
         | ((with_reducible refine keep0_i ?_); simp only [lP, seval])
         | simp (maxSteps := 1000000) (disch := omega) only [lE, ptrCells, ptrAdd, isNil, readsV, readsP, isCall, wrote, srcOf, seval, List.length_map, Int.lt_irrefl, decide_false])
        refine back_i (j + 1) (by omega) (by omega) (Ent.to [0] true (by simp) (by simp) rfl (by simp only [lP, seval, pa_exs] <;> (try simp) <;> (try omega)) (by simp only [lP, seval, pa_exs] <;> (try simp) <;> (try omega)))
    · obtain rfl : j = e.args.length := by omega
      repeat' (first
       | (with_reducible apply St.o; constructor) <;> intro _
       | with_reducible first | refine LenR_i fun _ => ?_ | refine And.intro (by omega) ?_ | (apply Sp.o; constructor) | refine frz0_i ?_
       | ((with_reducible refine keep0_i ?_); simp only [lP, seval])
       | simp (maxSteps := 1000000) (disch := omega) only [lE, ptrCells, ptrAdd, isNil, readsV, readsP, isCall, wrote, srcOf, seval, List.length_map, Int.lt_irrefl, decide_false])
      all_goals trace_state
end Go.Proofs.Try

namespace Go.Proofs.Try
open Go.Proofs.Tryd
open Go.Al
set_option maxRecDepth 100000
/-- alum/expr.Columns -/
def mc42 : MC :=
 (.seq (.ops [(none, (.e (.box 1 (.t 0)))),
 (none, (.v (.mov 2 (.c (.raw (.slice none 0 0))))))])
 (.seq (.ops [(none, (.e (.alloc 3 [(.raw (.slice none 0 0))])))])
 (.seq (.seq (.ops [(none, (.v (.load 5 true 6 (.t 1)))),
 (none, (.e (.call (some 6) 61 [(.t 5)])))])
 (.block 0 (.rngf (.t 6) #[7] (.ops [(none, (.e (.alloc 4 [(.int .i64 0), (.int .i64 0), (.int .i64 0), (.int .i64 0), (.str ⟨#[]⟩), (.raw (.slice none 0 0))]))),
 (none, (.e (.store 6 true (.t 4) (.t 7))))]) (.block 1 (.seq (.ops [(none, (.v (.fld 8 0 (.t 4)))),
 (none, (.v (.load 9 false 1 (.t 8)))),
 (none, (.v (.bin 10 .eql false (.t 9) (.c (.int .i64 1)))))])
 (.cond 10
 (.ops [(none, (.v (.load 11 false 1 (.t 3)))),
 (none, (.v (.fld 12 1 (.t 4)))),
 (none, (.v (.load 13 false 1 (.t 12)))),
 (none, (.e (.mkl 14 3 1 1 (.int .i64 0) [(0, (.t 13))]))),
 (none, (.e (.app 15 3 1 8 (.t 11) (.t 14)))),
 (none, (.e (.store 1 false (.t 3) (.t 15))))])
 .skip))))))
 (.seq (.ops [(none, (.v (.load 16 false 1 (.t 3)))),
 (none, (.e (.call (some 17) 77 [(.t 16)])))])
 (.seq (.ops [(none, (.v (.load 18 false 1 (.t 3)))),
 (none, (.e (.call (some 19) 78 [(.t 18)]))),
 (none, (.v (.mov 2 (.t 19))))])
 .ret)))))
theorem ok42 : FnOk E 42 20 [.tmp 2] mc42 := .of func42 (by kernel_rfl) (by kernel_rfl) (by kernel_rfl) (by kernel_rfl) (by kernel_rfl)
end Go.Proofs.Try
namespace Go.Proofs.Try
open Go.Al
set_option linter.unusedVariables false
set_option linter.unusedSimpArgs false
set_option maxRecDepth 20000
set_option maxHeartbeats 8000000

/-! ### the program's columns -/
def colN (e : EX) : List Int := if e.op = 1 then [e.n] else []
def colF (x : List Int) (e : EX) : Bool × List Int := (true, x ++ colN e)
mutual
def EX.cols : EX → List Int
  | .mk op n k i s args => colN (.mk op n k i s args) ++ EX.colsL args
def EX.colsL : List EX → List Int
  | [] => []
  | e :: es => e.cols ++ EX.colsL es
end
mutual
theorem walk_cols : ∀ (e : EX) (x : List Int), walk colF e x = (true, x ++ e.cols)
  | .mk op n k i s args, x => by simp only [walk, colF, if_true, EX.cols]; rw [walkL_cols args, List.append_assoc]
theorem walkL_cols : ∀ (es : List EX) (x : List Int), walkL colF es x = (true, x ++ EX.colsL es)
  | [], x => by simp [walkL, EX.colsL]
  | e :: es, x => by simp only [walkL, walk_cols e, if_true, walkL_cols es, EX.colsL, List.append_assoc]
end
theorem colN_len (e : EX) : (colN e).length ≤ 1 := by unfold colN; split <;> simp
mutual
theorem cols_len : ∀ e : EX, e.cols.length ≤ e.count
  | .mk op n k i s args => by
    have := colN_len (.mk op n k i s args)
    have := colsL_len args
    rw [EX.cols, EX.count, List.length_append]; omega
theorem colsL_len : ∀ l : List EX, (EX.colsL l).length ≤ EX.countL l
  | [] => by simp [EX.colsL, EX.countL]
  | e :: l => by
    have := cols_len e
    have := colsL_len l
    rw [EX.colsL, EX.countL, List.length_append]; omega
end
/-- The memory behind so many rounds: the box of the list, and where the list lies. -/
def colS (b0 lp : AObj) (x : List Int) (G : Nat → Prop) (H : List AObj) : Prop :=
  H[0]? = some b0 ∧ H[2]? = some lp ∧ (∀ i, G i → 3 ≤ i ∧ i < H.length) ∧ 3 ≤ H.length ∧
    ((x = [] ∧ H[1]? = some (.box [.raw (.slice none 0 0)])) ∨ ∃ a, 3 ≤ a ∧ a < H.length ∧ ¬ G a ∧ H[1]? = some (.box [.slc a 1 x.length]) ∧ H[a]? = some (.arr 3 1 (x.map (AV.int .i64))))
theorem colS_grows (b0 lp : AObj) : Grows (colS b0 lp) where
  push := fun x G H o ⟨h0, h2, hg, h3, h⟩ => by
    have ap : ∀ i, i < H.length → (H ++ [o])[i]? = H[i]? := fun i hi => List.getElem?_append_left hi
    refine ⟨by rw [ap 0 (by omega)]; exact h0, by rw [ap 2 (by omega)]; exact h2, fun i hi => ?_, by simp; omega, ?_⟩
    · rcases hi with hi | rfl
      · have := hg i hi; simp; omega
      · simp; omega
    · rcases h with ⟨hx, h1⟩ | ⟨a, a1, a2, a3, a4, a5⟩
      · exact .inl ⟨hx, by rw [ap 1 (by omega)]; exact h1⟩
      · refine .inr ⟨a, a1, by simp; omega, fun hc => ?_, by rw [ap 1 (by omega)]; exact a4, by rw [ap a a2]; exact a5⟩
        rcases hc with hc | hc
        · exact a3 hc
        · omega
  weak := fun x G G' H ⟨h0, h2, hg, h3, h⟩ hw => by
    refine ⟨h0, h2, fun i hi => hg i (hw i hi), h3, ?_⟩
    rcases h with h | ⟨a, a1, a2, a3, a4⟩
    · exact .inl h
    · exact .inr ⟨a, a1, a2, fun hc => a3 (hw a hc), a4⟩
  lt := fun x G H i ⟨_, _, hg, _⟩ hi => (hg i hi).2
theorem c42 (e : EX) (hc : e.count ≤ 1048576) : ACalls E.P 42 [e.av] [] (fun r H => r = ksV (Lib.compact (srt e.cols)) ∧ H = []) := by
  have h61 := c61 e
  have hmax := maxLen_eq
  have hlen := cols_len e
  simp only [av_fs, cs_fs] at h61 ⊢
  refine ok42.acalls hE hm (by simp) fun N hN => ?_
  unfold mc42
  simp only [lA, ptrCells, ptrAdd, isNil, readsV, readsP, isCall, wrote, srcOf, seval]
  refine callN_i [] false (by simp) (by simp) ?_
  simp only [lP, seval]
  refine ⟨_, h61, ?_⟩
  rintro _ _ ⟨rfl, rfl⟩
  simp only [lA, lP, ptrCells, ptrAdd, isNil, readsV, readsP, isCall, wrote, srcOf, seval]
  refine rng_i hN [(1, .op 0 0), (3, .op 1 0)] (by simp [FrSub, Go.Al.get]) fun fn cas bd hy => ?_
  let lp : AObj := .loop .ready none [(1, .op 0 0), (3, .op 1 0)] N.n fn #[7] cas bd
  have hY : ∀ (x : List Int) (e2 : EX) (k : Nat) (G : Nat → Prop) (H : List AObj), x.length + (k + 1) ≤ 1048576 → colS (.box e.fs) lp x G H → AYield E.P 2 [e2.av] H (fun r H' => r = .bool (colF x e2).1 ∧ Bhd (colS (.box e.fs) lp) (colF x e2).2 G H H') := by
    rintro x e2 k G H hk ⟨h0, h2, hg, h3, hx⟩
    refine hy 2 [(1, .op 0 0), (3, .op 1 0)] [e2.av] H _ h2 rfl fun N2 hN2 => ?_
    simp only [lA, ptrCells, ptrAdd, isNil, readsV, readsP, isCall, wrote, srcOf, seval, av_fs, get_last, set_last]
    have ap : ∀ (L : List AObj) (o : AObj) (i : Nat), i < L.length → (L ++ [o])[i]? = L[i]? := fun L o i hi => List.getElem?_append_left hi
    have st : ∀ (L : List AObj) (o : AObj) (i j : Nat), i ≠ j → (L.set i o)[j]? = L[j]? := fun L o i j hi => List.getElem?_set_ne hi
    have ss : ∀ (L : List AObj) (o : AObj) (i : Nat), i < L.length → (L.set i o)[i]? = some o := fun L o i hi => by simp [hi]
    refine ⟨by rw [ap _ _ 2 (by omega)]; exact h2, ?_⟩
    have fl : ((H ++ [AObj.box e2.fs]).set 2 (.loop .busy none [(1, .op 0 0), (3, .op 1 0)] N.n fn #[7] cas bd)).length = H.length + 1 := by simp
    have f0 : ((H ++ [AObj.box e2.fs]).set 2 (.loop .busy none [(1, .op 0 0), (3, .op 1 0)] N.n fn #[7] cas bd))[0]? = H[0]? := by rw [st _ _ 2 0 (by omega), ap _ _ 0 (by omega)]
    have f1 : ((H ++ [AObj.box e2.fs]).set 2 (.loop .busy none [(1, .op 0 0), (3, .op 1 0)] N.n fn #[7] cas bd))[1]? = H[1]? := by rw [st _ _ 2 1 (by omega), ap _ _ 1 (by omega)]
    have f2 : ((H ++ [AObj.box e2.fs]).set 2 (.loop .busy none [(1, .op 0 0), (3, .op 1 0)] N.n fn #[7] cas bd))[2]? = some (.loop .busy none [(1, .op 0 0), (3, .op 1 0)] N.n fn #[7] cas bd) := ss _ _ 2 (by simp; omega)
    have f3 : ∀ i, 3 ≤ i → i < H.length → ((H ++ [AObj.box e2.fs]).set 2 (.loop .busy none [(1, .op 0 0), (3, .op 1 0)] N.n fn #[7] cas bd))[i]? = H[i]? := fun i h1 h2 => by rw [st _ _ 2 i (by omega), ap _ _ i h2]
    have fo : ((H ++ [AObj.box e2.fs]).set 2 (.loop .busy none [(1, .op 0 0), (3, .op 1 0)] N.n fn #[7] cas bd))[H.length]? = some (.box e2.fs) := by rw [st _ _ 2 _ (by omega)]; simp
    generalize (H ++ [AObj.box e2.fs]).set 2 (.loop .busy none [(1, .op 0 0), (3, .op 1 0)] N.n fn #[7] cas bd) = H1 at *
    simp only [lA, ptrCells, ptrAdd, isNil, readsV, readsP, isCall, wrote, srcOf, seval, fo]
    refine cond_d (fun hop => ?_) (fun hop => ?_)
    · have hcn : colN e2 = [e2.n] := if_pos hop
      rcases hx with ⟨rfl, h1⟩ | ⟨a, a1, a2, a3, a4, a5⟩
      · rw [h1] at f1
        have g1 : ∀ o o', (H1 ++ [o] ++ [o'])[1]? = some (.box [.raw (.slice none 0 0)]) := fun o o' => by rw [ap _ _ 1 (by simp; omega), ap _ _ 1 (by omega)]; exact f1
        repeat' (first
         | (with_reducible apply St.o; constructor) <;> intro _
         | with_reducible first | refine LenR_i fun _ => ?_ | refine And.intro (by omega) ?_ | (apply Sp.o; constructor) | refine frz0_i ?_
         | ((with_reducible refine keep0_i ?_); simp only [lP, seval])
         | simp (maxSteps := 1000000) (disch := omega) only [lE, ptrCells, ptrAdd, isNil, readsV, readsP, isCall, wrote, srcOf, seval, fo, f1, g1, get_last, fillE, setAll, List.length_cons, List.length_nil, List.length_append])
        have e0 : ∀ o o' b l, ((((H1 ++ [o] ++ [o']).set 1 b).set 2 l))[0]? = some (.box e.fs) := fun o o' b l => by rw [st _ _ 2 0 (by omega), st _ _ 1 0 (by omega), ap _ _ 0 (by simp), ap _ _ 0 (by omega), f0]; exact h0
        refine round_i (o := fun st pd => .loop st pd [(1, .op 0 0), (3, .op 1 0)] N.n fn #[7] cas bd) (by rw [st _ _ 1 2 (by omega), ap _ _ 2 (by simp; omega), ap _ _ 2 (by omega)]; exact f2) ⟨rfl, ⟨e0 _ _ _ _, ss _ _ 2 (by simp; omega), fun i hi => ⟨(hg i hi).1, by have := (hg i hi).2; simp; omega⟩, by simp; omega, .inr ⟨H1.length + 1, by omega, by simp, fun hG => by have := (hg _ hG).2; omega, ?_, ?_⟩⟩, by simp; omega, fun i hi => ?_⟩
        · rw [st _ _ 2 1 (by omega), ss _ _ 1 (by simp)]; simp [colF, hcn]
        · rw [st _ _ 2 _ (by omega), st _ _ 1 _ (by omega)]; simp [colF, hcn]
        · obtain ⟨g3, g4⟩ := hg i hi
          rw [st _ _ 2 i (by omega), st _ _ 1 i (by omega), ap _ _ i (by simp; omega), ap _ _ i (by omega), f3 i g3 g4]
      · rw [a4] at f1
        have fa := f3 a a1 a2
        rw [a5] at fa
        have g1 : ∀ o o', ((H1 ++ [o]).set a .dead ++ [o'])[1]? = some (.box [.slc a 1 x.length]) := fun o o' => by rw [ap _ _ 1 (by simp; omega), st _ _ a 1 (by omega), ap _ _ 1 (by omega)]; exact f1
        have g2 : ∀ o, (H1 ++ [o])[a]? = some (.arr 3 1 (x.map (AV.int .i64))) := fun o => by rw [ap _ _ a (by omega)]; exact fa
        repeat' (first
         | (with_reducible apply St.o; constructor) <;> intro _
         | with_reducible first | refine LenR_i fun _ => ?_ | refine And.intro (by omega) ?_ | (apply Sp.o; constructor) | refine frz0_i ?_
         | ((with_reducible refine keep0_i ?_); simp only [lP, seval])
         | simp (maxSteps := 1000000) (disch := omega) only [lE, ptrCells, ptrAdd, isNil, readsV, readsP, isCall, wrote, srcOf, seval, fo, f1, g1, g2, get_last, fillE, setAll, List.length_cons, List.length_nil, List.length_append, List.length_set])
        have e0 : ∀ o o' b l, (((((H1 ++ [o]).set a .dead ++ [o']).set 1 b).set 2 l))[0]? = some (.box e.fs) := fun o o' b l => by rw [st _ _ 2 0 (by omega), st _ _ 1 0 (by omega), ap _ _ 0 (by simp), st _ _ a 0 (by omega), ap _ _ 0 (by omega), f0]; exact h0
        refine round_i (o := fun st pd => .loop st pd [(1, .op 0 0), (3, .op 1 0)] N.n fn #[7] cas bd) (by rw [st _ _ 1 2 (by omega), ap _ _ 2 (by simp; omega), st _ _ a 2 (by omega), ap _ _ 2 (by omega)]; exact f2) ⟨rfl, ⟨e0 _ _ _ _, ss _ _ 2 (by simp; omega), fun i hi => ⟨(hg i hi).1, by have := (hg i hi).2; simp; omega⟩, by simp; omega, .inr ⟨H1.length + 1, by omega, by simp, fun hG => by have := (hg _ hG).2; omega, ?_, ?_⟩⟩, by simp; omega, fun i hi => ?_⟩
        · rw [st _ _ 2 1 (by omega), ss _ _ 1 (by simp)]; simp [colF, hcn]
        · rw [st _ _ 2 _ (by omega), st _ _ 1 _ (by omega)]; simp [colF, hcn]
        · obtain ⟨g3, g4⟩ := hg i hi
          have hia : a ≠ i := fun h => a3 (h ▸ hi)
          rw [st _ _ 2 i (by omega), st _ _ 1 i (by omega), ap _ _ i (by simp; omega), st _ _ a i hia, ap _ _ i (by omega), f3 i g3 g4]
    · have hcn : colN e2 = [] := if_neg hop
      simp only [lA, ptrCells, ptrAdd, isNil, readsV, readsP, isCall, wrote, srcOf, seval]
      have hx' : (colF x e2).2 = x := by simp [colF, hcn]
      refine round_i (o := fun st pd => .loop st pd [(1, .op 0 0), (3, .op 1 0)] N.n fn #[7] cas bd) f2 ⟨rfl, ?_⟩
      rw [hx']
      refine ⟨⟨by rw [st _ _ 2 0 (by omega), f0]; exact h0, ss _ _ 2 (by omega), fun i hi => ⟨(hg i hi).1, by have := (hg i hi).2; simp; omega⟩, by simp; omega, ?_⟩, by simp; omega, fun i hi => ?_⟩
      · rcases hx with ⟨h4, h5⟩ | ⟨a, a1, a2, a3, a4, a5⟩
        · exact .inl ⟨h4, by rw [st _ _ 2 1 (by omega), f1]; exact h5⟩
        · exact .inr ⟨a, a1, by simp; omega, a3, by rw [st _ _ 2 1 (by omega), f1]; exact a4, by rw [st _ _ 2 a (by omega), f3 a a1 a2]; exact a5⟩
      · obtain ⟨g3, g4⟩ := hg i hi
        rw [st _ _ 2 i (by omega), f3 i g3 g4]
  have hl : ∀ (x : List Int) (e2 : EX) (k : Nat), x.length + (k + 1) ≤ 1048576 → (colF x e2).1 = true → (colF x e2).2.length + k ≤ 1048576 := fun x e2 k h _ => by
    have := colN_len e2
    simp only [colF, List.length_append]; omega
  have h86 := c86g (S := colS (.box e.fs) lp) (id := 2) (f := colF) (live := fun x k => x.length + k ≤ 1048576) (colS_grows _ _) hl hY e [] (by simpa using hc) (fun _ => False)
    [.box e.fs, .box [.raw (.slice none 0 0)], lp] ⟨rfl, rfl, fun i h => h.elim, by simp, .inl ⟨rfl, rfl⟩⟩
  rw [cs_fs] at h86
  refine ⟨_, h86, ?_⟩
  rintro r H' ⟨⟨h0, h2, _, h3, hx⟩, _, _⟩
  rw [walk_cols] at hx
  simp only [List.nil_append] at hx
  generalize hcl : e.cols = cl at *
  have st : ∀ (L : List AObj) (o : AObj) (i j : Nat), i ≠ j → (L.set i o)[j]? = L[j]? := fun L o i j hi => List.getElem?_set_ne hi
  rcases hx with ⟨hc0, h1⟩ | ⟨a, a1, a2, _, a4, a5⟩
  · refine ⟨.ready, none, [(1, .op 0 0), (3, .op 1 0)], h2, by simp, [(3, .op 1 0)], H'.set 2 .lost, Ent.fr (by simp [FrSub, Go.Al.get]), ?_⟩
    have g1 : (H'.set 2 .lost)[1]? = some (.box [.raw (.slice none 0 0)]) := by rw [st _ _ 2 1 (by omega)]; exact h1
    generalize H'.set 2 .lost = H2 at *
    have h77 := c77nil
    have h78 := c78nil
    subst hc0
    repeat' (first
     | (with_reducible apply St.o; constructor) <;> intro _
     | with_reducible first | refine LenR_i fun _ => ?_ | refine And.intro (by omega) ?_ | (apply Sp.o; constructor) | refine frz0_i ?_
     | ((with_reducible apply Sc.o false; constructor); simp only [lP, seval, g1]; (first | refine ⟨_, h77, ?_⟩ | refine ⟨_, h78, ?_⟩); rintro _ _ ⟨rfl, rfl⟩; simp only [lA, lP, ptrCells, ptrAdd, isNil, readsV, readsP, isCall, wrote, srcOf, seval, g1])
     | simp (maxSteps := 1000000) (disch := omega) only [lE, ptrCells, ptrAdd, isNil, readsV, readsP, isCall, wrote, srcOf, seval, g1])
    refine keepn_i 1 ⟨by simp [ksV, srt, Lib.compact, Lib.compactUpTo], rfl⟩
  · have g1 : (H'.set 2 .lost)[1]? = some (.box [.slc a 1 cl.length]) := by rw [st _ _ 2 1 (by omega)]; exact a4
    have ga : (H'.set 2 .lost)[a]? = some (.arr 3 1 (cl.map (AV.int .i64))) := by rw [st _ _ 2 a (by omega)]; exact a5
    have hla : a < (H'.set 2 .lost).length := by simpa using a2
    have hl1 : 1 < (H'.set 2 .lost).length := by omega
    refine ⟨.ready, none, [(1, .op 0 0), (3, .op 1 0)], h2, by simp, [(3, .op 0 0)], [.box [.slc 1 1 cl.length], .arr 3 1 (cl.map (AV.int .i64))], ?_, ?_⟩
    · generalize H'.set 2 .lost = H2 at *
      have n1 : ¬ (1 = a) := by omega
      refine Ent.to [1, a] false (by simp [hla, hl1]) (by simp; omega) rfl (by simp only [lP, seval] <;> (try simp)) ?_
      simp only [lP, seval, g1, ga, n1, if_false, if_true]
    · have h77 := c77 cl (by omega)
      obtain ⟨ts, h78⟩ := c78 (srt cl)
      have hc2 := compact_len (srt cl)
      rw [srt_len] at h78 hc2
      simp only [lA, ptrCells, ptrAdd, isNil, readsV, readsP, isCall, wrote, srcOf, seval]
      refine callN_i [1] false (by simp) (by simp) ?_
      simp only [lP, seval]
      refine ⟨_, h77, ?_⟩
      rintro _ _ ⟨rfl, rfl⟩
      simp only [lA, lP, ptrCells, ptrAdd, isNil, readsV, readsP, isCall, wrote, srcOf, seval]
      refine callN_i [1] false (by simp) (by simp) ?_
      simp only [lP, seval]
      refine ⟨_, h78, ?_⟩
      rintro _ _ ⟨rfl, rfl⟩
      simp only [lA, lP, ptrCells, ptrAdd, isNil, readsV, readsP, isCall, wrote, srcOf, seval]
      refine keep_i [] true rfl (by simp) rfl ?_
      simp only [lP, seval]
      unfold vwS
      simp only [List.length_map, List.length_append]
      rw [if_pos ⟨trivial, by omega⟩, List.map_append, List.take_left' (by simp)]
      simp only [lP, seval]
end Go.Proofs.Try

namespace Go.Proofs.Try
open Go.Al
set_option linter.unusedVariables false
set_option linter.unusedSimpArgs false
set_option maxRecDepth 20000
set_option maxHeartbeats 8000000

/-! ### ascending lists: one for each set -/
def Asc (l : List Int) : Prop := l.Pairwise (· < ·)
theorem asc_ext : ∀ {l m : List Int}, Asc l → Asc m → (∀ x, x ∈ l ↔ x ∈ m) → l = m
  | [], [], _, _, _ => rfl
  | [], y :: m, _, _, h => absurd ((h y).2 (by simp)) (by simp)
  | x :: l, [], _, _, h => absurd ((h x).1 (by simp)) (by simp)
  | x :: l, y :: m, hl, hm, h => by
    have hl' := List.pairwise_cons.1 hl
    have hm' := List.pairwise_cons.1 hm
    have hxy : x = y := by
      rcases List.mem_cons.1 ((h x).1 (by simp)) with e | e
      · exact e
      · rcases List.mem_cons.1 ((h y).2 (by simp)) with e2 | e2
        · exact e2.symm
        · have := hl'.1 y e2; have := hm'.1 x e; omega
    subst hxy
    rw [asc_ext hl'.2 hm'.2 fun z => ?_]
    constructor
    · intro hz
      rcases List.mem_cons.1 ((h z).1 (by simp [hz])) with e | e
      · have := hl'.1 z hz; omega
      · exact e
    · intro hz
      rcases List.mem_cons.1 ((h z).2 (by simp [hz])) with e | e
      · have := hm'.1 z hz; omega
      · exact e
/-- with: the number is in, the list stays ascending. -/
theorem wFold_ok (n : Int) : ∀ (l : List Int) (a : List Int) (b : Bool), Asc (a ++ l) → (b = false → ∀ x ∈ a, x < n) → (b = true → n ∈ a) →
    Asc ((l.foldl (wStep n) (a, b)).1 ++ (if (l.foldl (wStep n) (a, b)).2 = true then [] else [n])) ∧ ∀ x, x ∈ (l.foldl (wStep n) (a, b)).1 ++ (if (l.foldl (wStep n) (a, b)).2 = true then [] else [n]) ↔ x ∈ a ∨ x ∈ l ∨ x = n
  | [], a, b, ha, h1, h2 => by
    rw [List.append_nil] at ha
    cases b with
    | true =>
      refine ⟨by simpa using ha, fun x => ?_⟩
      simp
      rintro rfl; exact h2 rfl
    | false =>
      refine ⟨?_, fun x => by simp⟩
      simp only [List.foldl_nil, Bool.false_eq_true, if_false]
      exact List.pairwise_append.2 ⟨ha, by simp, fun x hx y hy => by simp at hy; subst hy; exact h1 rfl x hx⟩
  | x :: l, a, b, ha, h1, h2 => by
    have hap := List.pairwise_append.1 ha
    have hxl := List.pairwise_cons.1 hap.2.1
    have hax : ∀ y ∈ a, y < x := fun y hy => hap.2.2 y hy x (by simp)
    have hal : ∀ y ∈ a, ∀ z ∈ l, y < z := fun y hy z hz => hap.2.2 y hy z (by simp [hz])
    rw [List.foldl_cons]
    have key : ∀ a' b', wStep n (a, b) x = (a', b') → Asc (a' ++ l) → (b' = false → ∀ x ∈ a', x < n) → (b' = true → n ∈ a') → (∀ y, y ∈ a' ∨ y ∈ l ∨ y = n ↔ y ∈ a ∨ y ∈ x :: l ∨ y = n) →
        Asc ((l.foldl (wStep n) (wStep n (a, b) x)).1 ++ (if (l.foldl (wStep n) (wStep n (a, b) x)).2 = true then [] else [n])) ∧ ∀ y, y ∈ (l.foldl (wStep n) (wStep n (a, b) x)).1 ++ (if (l.foldl (wStep n) (wStep n (a, b) x)).2 = true then [] else [n]) ↔ y ∈ a ∨ y ∈ x :: l ∨ y = n := fun a' b' he k1 k2 k3 k4 => by
      rw [he]
      obtain ⟨r1, r2⟩ := wFold_ok n l a' b' k1 k2 k3
      exact ⟨r1, fun y => (r2 y).trans (k4 y)⟩
    cases b with
    | true =>
      have hn := h2 rfl
      have hnx := hax n hn
      refine key (a ++ [x]) true (by simp [wStep]; omega) (by simpa using ha) (fun h => by cases h) (fun _ => by simp [hn]) (fun y => by simp [or_assoc])
    | false =>
      have h1 := h1 rfl
      by_cases hnx : n ≤ x
      · by_cases he : x = n
        · subst he
          refine key (a ++ [x]) true (by simp [wStep]) (by simpa using ha) (fun h => by cases h) (fun _ => by simp) (fun y => by simp [or_assoc])
        · refine key (a ++ [n, x]) true (by simp [wStep, hnx, he]) ?_ (fun h => by cases h) (fun _ => by simp) (fun y => by simp only [List.mem_append, List.mem_cons, List.not_mem_nil, or_false]; grind)
          rw [List.append_assoc]
          refine List.pairwise_append.2 ⟨hap.1, ?_, fun y hy z hz => ?_⟩
          · refine List.pairwise_cons.2 ⟨fun z hz => ?_, List.pairwise_cons.2 ⟨hxl.1, hxl.2⟩⟩
            rcases List.mem_cons.1 hz with rfl | hz
            · omega
            · have := hxl.1 z hz; omega
          · simp at hz
            rcases hz with rfl | rfl | hz
            · exact h1 y hy
            · exact hax y hy
            · exact hal y hy z hz
      · refine key (a ++ [x]) false (by simp [wStep, hnx]; omega) (by simpa using ha) (fun _ y hy => ?_) (fun h => by cases h) (fun y => by simp [or_assoc])
        rcases List.mem_append.1 hy with hy | hy
        · exact h1 y hy
        · simp at hy; omega
theorem withL_ok {l : List Int} (h : Asc l) (n : Int) : Asc (withL l n) ∧ ∀ x, x ∈ withL l n ↔ x ∈ l ∨ x = n := by
  have := wFold_ok n l [] false (by simpa using h) (by simp) (by simp)
  refine ⟨this.1, fun x => ?_⟩
  have h2 := this.2 x
  simp only [List.not_mem_nil, false_or] at h2
  exact h2
theorem fold_withL_ok : ∀ (l acc : List Int), Asc acc → Asc (l.foldl withL acc) ∧ ∀ x, x ∈ l.foldl withL acc ↔ x ∈ acc ∨ x ∈ l
  | [], acc, h => ⟨h, by simp⟩
  | n :: l, acc, h => by
    obtain ⟨h1, h2⟩ := withL_ok h n
    obtain ⟨h3, h4⟩ := fold_withL_ok l _ h1
    refine ⟨h3, fun x => ?_⟩
    rw [List.foldl_cons, h4, h2]
    simp [or_assoc]
theorem colN_asc (e : EX) : Asc (colN e) := by unfold colN Asc; split <;> simp
mutual
theorem colsR_ok : ∀ e : EX, Asc e.colsR ∧ ∀ x, x ∈ e.colsR ↔ x ∈ e.cols
  | .mk op n k i s args => by
    obtain ⟨h1, h2⟩ := colsRL_ok args (colN (.mk op n k i s args)) (colN_asc _)
    have : (EX.mk op n k i s args).colsR = EX.colsRL args (colN (.mk op n k i s args)) := by rw [EX.colsR]; rfl
    rw [this]
    exact ⟨h1, fun x => by rw [h2, EX.cols, List.mem_append]⟩
theorem colsRL_ok : ∀ (l : List EX) (acc : List Int), Asc acc → Asc (EX.colsRL l acc) ∧ ∀ x, x ∈ EX.colsRL l acc ↔ x ∈ acc ∨ x ∈ EX.colsL l
  | [], acc, h => ⟨h, by simp [EX.colsRL, EX.colsL]⟩
  | e :: l, acc, h => by
    obtain ⟨k1, k2⟩ := colsR_ok e
    obtain ⟨h1, h2⟩ := fold_withL_ok e.colsR acc h
    obtain ⟨h3, h4⟩ := colsRL_ok l _ h1
    refine ⟨h3, fun x => ?_⟩
    rw [EX.colsRL, h4, h2, k2, EX.colsL, List.mem_append, or_assoc]
end

/-! ### Compact of an ascending list -/
theorem compactUpTo_ok (d : Array Int) (hs : ∀ i j, i < j → j < d.size → d[i]! ≤ d[j]!) : ∀ m, m ≤ d.size → Asc (Lib.compactUpTo d m) ∧ (∀ x, x ∈ Lib.compactUpTo d m ↔ ∃ i, i < m ∧ d[i]! = x)
  | 0, _ => ⟨by simp [Lib.compactUpTo, Asc], by simp [Lib.compactUpTo]⟩
  | m + 1, hm => by
    obtain ⟨h1, h2⟩ := compactUpTo_ok d hs m (by omega)
    rw [Lib.compactUpTo_succ]
    by_cases hk : Lib.keeps d m = true
    · rw [if_pos hk]
      have hlt : ∀ i, i < m → d[i]! < d[m]! := fun i hi => by
        simp only [Lib.keeps, decide_eq_true_eq] at hk
        rcases hk with hk | hk
        · omega
        · have a1 := hs (m - 1) m (by omega) (by omega)
          have a2 : d[i]! ≤ d[m - 1]! := by
            by_cases hi2 : i = m - 1
            · subst hi2; exact Int.le_refl _
            · exact hs i (m - 1) (by omega) (by omega)
          omega
      refine ⟨List.pairwise_append.2 ⟨h1, by simp, fun x hx y hy => ?_⟩, fun x => ?_⟩
      · simp at hy; subst hy
        obtain ⟨i, hi, rfl⟩ := (h2 x).1 hx
        exact hlt i hi
      · rw [List.mem_append, h2]
        constructor
        · rintro (⟨i, hi, rfl⟩ | hx)
          · exact ⟨i, by omega, rfl⟩
          · simp at hx; exact ⟨m, by omega, hx.symm⟩
        · rintro ⟨i, hi, rfl⟩
          by_cases him : i = m
          · subst him; right; simp
          · left; exact ⟨i, by omega, rfl⟩
    · have hk' : Lib.keeps d m = false := by simpa using hk
      rw [if_neg hk, List.append_nil]
      refine ⟨h1, fun x => ?_⟩
      rw [h2]
      constructor
      · rintro ⟨i, hi, rfl⟩; exact ⟨i, by omega, rfl⟩
      · rintro ⟨i, hi, rfl⟩
        by_cases him : i = m
        · subst him
          simp only [Lib.keeps, decide_eq_false_iff_not, not_or, Classical.not_not] at hk'
          exact ⟨i - 1, by omega, hk'.2.symm⟩
        · exact ⟨i, by omega, rfl⟩
theorem srt_sorted (l : List Int) : (srt l).Pairwise (· ≤ ·) := by
  have := List.pairwise_mergeSort (le := fun x y : Int => decide (x ≤ y)) (fun a b c h1 h2 => by simp at *; omega) (fun a b => by simp; omega) l
  unfold srt
  exact this.imp (fun h => by simpa using h)
theorem compact_srt (l : List Int) : Asc (Lib.compact (srt l)) ∧ ∀ x, x ∈ Lib.compact (srt l) ↔ x ∈ l := by
  have hs := srt_sorted l
  obtain ⟨h1, h2⟩ := compactUpTo_ok (srt l).toArray (fun i j hij hj => by
    have hj' : j < (srt l).length := by simpa using hj
    have := List.pairwise_iff_getElem.1 hs i j (by omega) hj' hij
    simpa [hj', show i < (srt l).length by omega] using this) (srt l).length (by simp)
  refine ⟨h1, fun x => ?_⟩
  rw [Lib.compact, h2]
  have hm : x ∈ l ↔ x ∈ srt l := by unfold srt; rw [List.mem_mergeSort]
  rw [hm, List.mem_iff_getElem]
  constructor
  · rintro ⟨i, hi, rfl⟩
    exact ⟨i, hi, by simp [hi]⟩
  · rintro ⟨i, hi, rfl⟩
    exact ⟨i, hi, by simp [hi]⟩
theorem cols_eq (e : EX) : Lib.compact (srt e.cols) = e.colsR := by
  obtain ⟨h1, h2⟩ := compact_srt e.cols
  obtain ⟨h3, h4⟩ := colsR_ok e
  exact asc_ext h1 h3 fun x => by rw [h2, h4]
end Go.Proofs.Try

namespace Go.Proofs.Try
open Go.Proofs.Tryd
open Go.Al
set_option maxRecDepth 100000
/-- alum/alumlaw36.ExprChecksAsSpecified -/
def mc10 : MC :=
 (.seq (.ops [(none, (.e (.box 4 (.t 1)))),
 (none, (.e (.box 5 (.t 2)))),
 (none, (.v (.mov 6 (.c (.bool false)))))])
 (.seq (.seq (.ops [(none, (.v (.mov 11 (.t 0)))),
 (none, (.p (.len 12 (.t 11)))),
 (none, (.v (.bin 13 .gtr false (.t 12) (.c (.int .i64 20))))),
 (none, (.v (.mov 14 (.t 13)))),
 ((some (14, false)), (.v (.load 15 true 6 (.t 4)))),
 ((some (14, false)), (.e (.call (some 16) 19 [(.t 15)]))),
 ((some (14, false)), (.v (.bin 17 .gtr false (.t 16) (.c (.int .i64 300))))),
 (none, (.v (.pick 18 (.t 14) (.c (.bool true)) (.t 17)))),
 (none, (.v (.mov 19 (.t 18)))),
 ((some (19, false)), (.v (.load 20 true 6 (.t 5)))),
 ((some (19, false)), (.e (.call (some 21) 19 [(.t 20)]))),
 ((some (19, false)), (.v (.bin 22 .gtr false (.t 21) (.c (.int .i64 300))))),
 (none, (.v (.pick 23 (.t 19) (.c (.bool true)) (.t 22))))])
 (.cond 23
 (.seq (.ops [(none, (.e (.call (some 24) 13 []))),
 (none, (.v (.mov 6 (.t 24))))])
 .ret)
 .skip))
 (.seq (.ops [(none, (.v (.mov 26 (.t 0)))),
 (none, (.v (.load 27 true 6 (.t 4)))),
 (none, (.e (.call (some 28) 16 [(.t 26), (.t 27)]))),
 (none, (.v (.mov 25 (.t 28)))),
 (none, (.v (.ext 29 0 (.t 25)))),
 (none, (.v (.ext 30 1 (.t 25)))),
 (none, (.v (.mov 7 (.t 29)))),
 (none, (.v (.mov 8 (.t 30))))])
 (.seq (.ops [(none, (.v (.mov 32 (.t 0)))),
 (none, (.v (.load 33 true 6 (.t 4)))),
 (none, (.e (.call (some 34) 38 [(.t 32), (.t 33)]))),
 (none, (.v (.mov 31 (.t 34)))),
 (none, (.v (.ext 35 0 (.t 31)))),
 (none, (.v (.ext 36 1 (.t 31)))),
 (none, (.v (.mov 9 (.t 35)))),
 (none, (.v (.mov 10 (.t 36))))])
 (.seq (.any false (.alt none (.e (.call (some 37) 13 []))
 (.base (.pure0 none (.v (.mov 38 (.t 37)))
 (.pure0 (some (38, true)) (.v (.load 39 true 6 (.t 4)))
 (.pure0 (some (38, true)) (.v (.load 41 true 6 (.t 4)))
 (.alt (some (38, true)) (.e (.call (some 40) 36 [(.t 39)]))
 (.base (.alt (some (38, true)) (.e (.call (some 42) 19 [(.t 41)]))
 (.base (.pure0 (some (38, true)) (.v (.bin 43 .eql false (.t 40) (.t 42)))
 (.pure0 none (.v (.pick 44 (.t 38) (.t 43) (.c (.bool false))))
 (.pure0 none (.v (.mov 45 (.t 44)))
 (.pure0 (some (45, true)) (.v (.load 46 true 6 (.t 4)))
 (.pure0 (some (45, true)) (.v (.load 48 true 6 (.t 4)))
 (.alt (some (45, true)) (.e (.call (some 47) 42 [(.t 46)]))
 (.base (.alt (some (45, true)) (.e (.call (some 49) 43 [(.t 48)]))
 (.base (.alt (some (45, true)) (.e (.call (some 50) 41 [(.t 47), (.t 49)]))
 (.base (.pure0 none (.v (.pick 51 (.t 45) (.t 50) (.c (.bool false))))
 (.pure0 none (.v (.mov 52 (.t 51)))
 (.pure0 (some (52, true)) (.v (.load 53 true 6 (.t 4)))
 (.pure0 (some (52, true)) (.v (.load 54 true 6 (.t 5)))
 (.pure0 (some (52, true)) (.v (.load 56 true 6 (.t 4)))
 (.pure0 (some (52, true)) (.v (.load 57 true 6 (.t 5)))
 (.alt (some (52, true)) (.e (.call (some 55) 37 [(.t 53), (.t 54)]))
 (.base (.alt (some (52, true)) (.e (.call (some 58) 30 [(.t 56), (.t 57)]))
 (.base (.pure0 (some (52, true)) (.v (.bin 59 .eql true (.t 55) (.t 58)))
 (.pure0 none (.v (.pick 60 (.t 52) (.t 59) (.c (.bool false))))
 (.pure0 none (.v (.mov 61 (.t 60)))
 (.pure0 (some (61, true)) (.v (.mov 62 (.t 7)))
 (.pure0 (some (61, true)) (.v (.mov 63 (.t 9)))
 (.pure0 (some (61, true)) (.v (.bin 64 .eql false (.t 62) (.t 63)))
 (.pure0 none (.v (.pick 65 (.t 61) (.t 64) (.c (.bool false))))
 (.pure0 none (.v (.mov 66 (.t 65)))
 (.pure0 (some (66, true)) (.v (.mov 67 (.t 8)))
 (.pure0 (some (66, true)) (.v (.mov 68 (.t 10)))
 (.pure0 (some (66, true)) (.v (.bin 69 .eql false (.t 67) (.t 68)))
 (.pure0 none (.v (.pick 70 (.t 66) (.t 69) (.c (.bool false))))
 (.pure0 none (.v (.mov 6 (.t 70)))
 .done))))))))))))))
 .stop))
 .stop))))))))
 .stop))
 .stop))
 .stop)))))))
 .stop))
 .stop)))))
 .stop))
 .ret)))))
theorem ok10 : FnOk E 10 71 [.tmp 6] mc10 := .of func10 (by kernel_rfl) (by kernel_rfl) (by kernel_rfl) (by kernel_rfl) (by kernel_rfl)
end Go.Proofs.Try
namespace Go.Proofs.Try
open Go.Al
set_option linter.unusedVariables false
set_option linter.unusedSimpArgs false
set_option maxRecDepth 20000
set_option maxHeartbeats 16000000

theorem c10 (h13 : Sane) (ks : List Int) (e o : EX) (hI : e.okI) (hs : e.count ≤ 1048576) (hs2 : o.count ≤ 1048576) : ACalls E.P 10 [ksV ks, e.av, o.av] [] (fun r H => r = .bool true ∧ H = []) := by
  have hmax := maxLen_eq
  have h19 := c19 e
  have h19o := c19 o
  have h16 := c16 ks e hI
  have h38 := c38 ks e
  have h36 := c36 e
  have h42 := c42 e hs
  have h43 := c43 e hs
  rw [cols_eq] at h42
  have h41 := c41 e.colsR e.colsR
  rw [decide_eq_true (rfl : e.colsR = e.colsR)] at h41
  have h37 := c37 e o
  have h30 := c30 e o
  rw [wrap_small hs] at h19 h36
  rw [wrap_small hs2] at h19o
  simp only [av_fs] at h19 h19o h16 h38 h36 h42 h43 h37 h30
  generalize e.colsR = cl at *
  generalize chk ks e = q at *
  refine ok10.acalls hE hm (by simp) fun N hN => ?_
  unfold mc10
  simp only [lA, ptrCells, ptrAdd, isNil, readsV, readsP, isCall, wrote, srcOf, seval, av_fs]
  by_cases h20 : (20 : Int) < ks.length
  · repeat' (first
     | (with_reducible apply St.o; constructor) <;> intro _
     | with_reducible first | refine LenR_i fun _ => ?_ | refine And.intro (by omega) ?_ | (apply Sp.o; constructor) | refine frz0_i ?_
     | ((with_reducible apply Sc.o true; constructor); simp only [lP, seval, h20, decide_true, List.length_map]; refine ⟨_, h13, ?_⟩; rintro _ _ ⟨rfl, rfl⟩; simp only [lA, lP, ptrCells, ptrAdd, isNil, readsV, readsP, isCall, wrote, srcOf, seval, h20, decide_true, List.length_map])
     | ((with_reducible refine keep0_i ?_); simp only [lP, seval])
     | simp (maxSteps := 1000000) (disch := omega) only [lE, ptrCells, ptrAdd, isNil, readsV, readsP, isCall, wrote, srcOf, seval, h20, decide_true, List.length_map])
  by_cases he : ((300 : Int) < (e.count : Int))
  · repeat' (first
     | (with_reducible apply St.o; constructor) <;> intro _
     | with_reducible first | refine LenR_i fun _ => ?_ | refine And.intro (by omega) ?_ | (apply Sp.o; constructor) | refine frz0_i ?_
     | ((with_reducible apply Sc.o true; constructor); simp only [lP, seval, h20, he, decide_true, decide_false, List.length_map]; (first | refine ⟨_, h19, ?_⟩ | refine ⟨_, h13, ?_⟩); rintro _ _ ⟨rfl, rfl⟩; simp only [lA, lP, ptrCells, ptrAdd, isNil, readsV, readsP, isCall, wrote, srcOf, seval, h20, he, decide_true, decide_false, List.length_map])
     | ((with_reducible refine keep0_i ?_); simp only [lP, seval])
     | simp (maxSteps := 1000000) (disch := omega) only [lE, ptrCells, ptrAdd, isNil, readsV, readsP, isCall, wrote, srcOf, seval, h20, he, decide_true, decide_false, List.length_map])
  by_cases hoo : ((300 : Int) < (o.count : Int))
  · repeat' (first
     | (with_reducible apply St.o; constructor) <;> intro _
     | with_reducible first | refine LenR_i fun _ => ?_ | refine And.intro (by omega) ?_ | (apply Sp.o; constructor) | refine frz0_i ?_
     | ((with_reducible apply Sc.o true; constructor); simp only [lP, seval, h20, he, hoo, decide_true, decide_false, List.length_map]; (first | refine ⟨_, h19, ?_⟩ | refine ⟨_, h19o, ?_⟩ | refine ⟨_, h13, ?_⟩); rintro _ _ ⟨rfl, rfl⟩; simp only [lA, lP, ptrCells, ptrAdd, isNil, readsV, readsP, isCall, wrote, srcOf, seval, h20, he, hoo, decide_true, decide_false, List.length_map])
     | ((with_reducible refine keep0_i ?_); simp only [lP, seval])
     | simp (maxSteps := 1000000) (disch := omega) only [lE, ptrCells, ptrAdd, isNil, readsV, readsP, isCall, wrote, srcOf, seval, h20, he, hoo, decide_true, decide_false, List.length_map])
  repeat' (first
   | (with_reducible apply St.o; constructor) <;> intro _
   | with_reducible first | refine LenR_i fun _ => ?_ | refine And.intro (by omega) ?_ | (apply Sp.o; constructor) | refine frz0_i ?_
   | ((with_reducible apply Sc.o true; constructor); simp only [lP, seval, h20, he, hoo, decide_true, decide_false, List.length_map, ti27, pa_exs, vw_exs]; (first | refine ⟨_, h19, ?_⟩ | refine ⟨_, h19o, ?_⟩ | refine ⟨_, h16, ?_⟩ | refine ⟨_, h38, ?_⟩ | refine ⟨_, h36, ?_⟩ | refine ⟨_, h41, ?_⟩ | refine ⟨_, h37, ?_⟩ | refine ⟨_, h30, ?_⟩ | refine ⟨_, h13, ?_⟩); rintro _ _ ⟨rfl, rfl⟩; simp only [lA, lP, ptrCells, ptrAdd, isNil, readsV, readsP, isCall, wrote, srcOf, seval, h20, he, hoo, decide_true, decide_false, List.length_map, ti27, pa_exs, vw_exs])
   | ((with_reducible apply Sc.o false; constructor); simp only [lP, seval, h20, he, hoo, decide_true, decide_false, List.length_map, ti27, pa_exs, vw_exs]; (first | refine ⟨_, h42, ?_⟩ | refine ⟨_, h43, ?_⟩); rintro _ _ ⟨rfl, rfl⟩; simp only [lA, lP, ptrCells, ptrAdd, isNil, readsV, readsP, isCall, wrote, srcOf, seval, h20, he, hoo, decide_true, decide_false, List.length_map, ti27, pa_exs, vw_exs])
   | ((with_reducible refine keep0_i ?_); simp only [lP, seval])
   | simp (maxSteps := 1000000) (disch := omega) only [lE, ptrCells, ptrAdd, isNil, readsV, readsP, isCall, wrote, srcOf, seval, h20, he, hoo, decide_true, decide_false, List.length_map, ti27, pa_exs, vw_exs])
  all_goals trace_state
end Go.Proofs.Try
