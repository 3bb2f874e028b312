/-
  A part of the proof: see the text of the law.
-/
import Derived.Test.YtjiijjfpmaligaaDoorBase
import Derived.Lib.Bytealg
set_option linter.unusedSimpArgs false
set_option linter.unusedVariables false
namespace Go.Proofs.Try
open Go.Al
set_option linter.unusedVariables false
set_option linter.unusedSimpArgs false

/-- Expressions: operator, number, value (kind, number, text), arguments. -/
inductive EX where
  | mk (op n k i : Int) (s : ByteArray) (args : List EX)

mutual
def EX.av : EX → AV
  | .mk op n k i s args => .agg [.int .i64 op, .int .i64 n, .int .i64 k, .int .i64 i, .str s, .view 6 (EX.avL args)]
def EX.avL : List EX → List AV
  | [] => []
  | e :: es => e.av :: EX.avL es
end
theorem avL_map : ∀ (l : List EX), EX.avL l = l.map EX.av
  | [] => rfl
  | e :: es => by rw [EX.avL, avL_map es]; rfl

mutual
/-- The nodes, one after the other, each before its arguments. -/
def walk {X : Type} (f : X → EX → Bool × X) : EX → X → Bool × X
  | .mk op n k i s args, x => if (f x (.mk op n k i s args)).1 then walkL f args (f x (.mk op n k i s args)).2 else (false, (f x (.mk op n k i s args)).2)
def walkL {X : Type} (f : X → EX → Bool × X) : List EX → X → Bool × X
  | [], x => (true, x)
  | e :: es, x => if (walk f e x).1 then walkL f es (walk f e x).2 else (false, (walk f e x).2)
end

instance : Inhabited EX := ⟨.mk 0 0 0 0 ByteArray.empty []⟩

theorem walkL_append {X : Type} (f : X → EX → Bool × X) : ∀ (l m : List EX) (x : X), walkL f (l ++ m) x = if (walkL f l x).1 then walkL f m (walkL f l x).2 else (false, (walkL f l x).2)
  | [], m, x => by simp [walkL]
  | e :: l, m, x => by
    simp only [List.cons_append, walkL]
    split
    · exact walkL_append f l m _
    · simp

theorem set_last {α : Type} (l : List α) (a b : α) : (l ++ [a]).set l.length b = l ++ [b] := by simp
theorem get_last {α : Type} (l : List α) (a : α) : (l ++ [a])[l.length]? = some a := by simp

section
variable {X : Type} {st : X → List AObj} {K id : Nat} {f : X → EX → Bool × X} {live : X → Prop}
mutual
theorem walk_live (hl : ∀ x e, live x → (f x e).1 = true → live (f x e).2) : ∀ (e : EX) (x : X), live x → (walk f e x).1 = true → live (walk f e x).2
  | .mk op n k i s args, x, hx, h => by
    rw [walk] at h ⊢
    split at h
    · rename_i h1
      rw [if_pos h1]
      exact walkL_live hl args _ (hl _ _ hx h1) h
    · cases h
theorem walkL_live (hl : ∀ x e, live x → (f x e).1 = true → live (f x e).2) : ∀ (es : List EX) (x : X), live x → (walkL f es x).1 = true → live (walkL f es x).2
  | [], x, hx, _ => hx
  | e :: es, x, hx, h => by
    rw [walkL] at h ⊢
    split at h
    · rename_i h1
      rw [if_pos h1]
      exact walkL_live hl es _ (walk_live hl e x hx h1) h
    · cases h
end

theorem c87 (hK : ∀ x, (st x).length = K) (hid : id < K) (hsc : ∀ x, (st x).all (scO K) = true) (hl : ∀ x e, live x → (f x e).1 = true → live (f x e).2) (hy : ∀ x e, live x → AYield E.P id [e.av] (st x) (fun r H' => r = .bool (f x e).1 ∧ H' = st (f x e).2)) (e : EX) (x : X) (hx : live x) :
    ACalls E.P 87 [e.av, .yld id] (st x) (fun r H' => r = .bool (walk f e x).1 ∧ H' = st (walk f e x).2) := by
  have hg : ∀ x a, (st x ++ [a])[K]? = some a := fun x a => by rw [← hK x]; simp
  have hs : ∀ x a b, (st x ++ [a]).set K b = st x ++ [b] := fun x a b => by rw [← hK x]; simp
  have hy' : ∀ x e L, live x → AYield E.P id [e.av] (st x ++ L) (fun r H' => ∃ H1, H' = H1 ++ L ∧ r = .bool (f x e).1 ∧ H1 = st (f x e).2) := fun x e L hx =>
    AYield.suffix (by rw [hK]; exact hid) (by rw [hK]; exact hsc x) (by cases e; simp [scL, sc, EX.av]) (hy x e hx) (by rintro _ _ ⟨_, rfl⟩; rw [hK, hK])
  generalize hsz : SizeOf.sizeOf e = sz
  induction sz using Nat.strongRecOn generalizing e x with
  | _ sz ih =>
  obtain ⟨op, n, k, i, s, args⟩ := e
  have ihL : ∀ (j : Nat) (hj : j < args.length) (x : X), live x → ACalls E.P 87 [(args[j]).av, .yld id] (st x) (fun r H' => r = .bool (walk f (args[j]) x).1 ∧ H' = st (walk f (args[j]) x).2) := fun j hj x hx =>
    ih _ (by subst hsz; have := List.sizeOf_lt_of_mem (List.getElem_mem hj); simp only [EX.mk.sizeOf_spec]; omega) _ x hx rfl
  have ihS : ∀ (j : Nat) (hj : j < args.length) (x : X) (L : List AObj), live x → ACalls E.P 87 [(args[j]).av, .yld id] (st x ++ L) (fun r H' => ∃ H1, H' = H1 ++ L ∧ r = .bool (walk f (args[j]) x).1 ∧ H1 = st (walk f (args[j]) x).2) := fun j hj x L hx =>
    ACalls.suffix (by rw [hK]; exact hsc x) (by generalize args[j] = e; cases e; simp [scL, sc, EX.av, hK, hid]) (ihL j hj x hx) (by rintro _ _ ⟨_, rfl⟩; rw [hK, hK])
  have fin : ∀ (b : Bool) (y : X) (L : List AObj), walk f (.mk op n k i s args) x = (b, y) → ∃ H1 L', st y ++ L = H1 ++ L' ∧ K ≤ H1.length ∧ sc H1.length (.bool b) = true ∧ H1.all (scO H1.length) = true ∧ AV.bool b = .bool (walk f (.mk op n k i s args) x).1 ∧ H1 = st (walk f (.mk op n k i s args) x).2 := fun b y L h =>
    ⟨st y, L, rfl, by rw [hK]; exact Nat.le_refl _, rfl, by rw [hK]; exact hsc y, by rw [h], by rw [h]⟩
  refine ACalls.drop (ok87.acalls0 hE hm (by simp) fun N hN => ?_)
  unfold mc87
  simp only [lA, ptrCells, ptrAdd, isNil, readsV, readsP, isCall, wrote, srcOf, seval, EX.av, hK, hg, hs]
  refine yld_i (hy' x (.mk op n k i s args) _ hx) ?_
  rintro _ _ ⟨_, rfl, rfl, rfl⟩
  simp only [lA, ptrCells, ptrAdd, isNil, readsV, readsP, isCall, wrote, srcOf, seval, hK, hg, hs]
  have hfl := hl x (.mk op n k i s args) hx
  generalize hfx : f x (.mk op n k i s args) = fx at *
  have hmax := maxLen_eq
  refine cond_i (fun h => ?_) (fun h => ?_)
  · simp only [lA, ptrCells, ptrAdd, isNil, readsV, readsP, isCall, wrote, srcOf, seval, hK, hg, hs]
    exact fin false fx.2 _ (by simp only [walk, hfx]; simp at h; simp [h])
  · simp only [Bool.not_eq_false'] at h
    simp only [lA, ptrCells, ptrAdd, isNil, readsV, readsP, isCall, wrote, srcOf, seval, hK, hg, hs]
    refine LenR_i fun hlen => ?_
    rw [avL_map] at hlen ⊢
    rw [List.length_map] at hlen
    simp only [lA, ptrCells, ptrAdd, isNil, readsV, readsP, isCall, wrote, srcOf, seval, hK, hg, hs, List.length_map]
    refine loop_i (fun p : Nat × X => p.1 ≤ args.length ∧ walkL f (args.take p.1) fx.2 = (true, p.2) ∧ live p.2) (fun p => ⟨[(1, .yld id), (12, .view 6 (args.map EX.av)), (13, .int .i64 args.length), (14, .int .i64 p.1)], st p.2⟩) (fun p => args.length - p.1) (0, fx.2) ⟨by simp, by simp [walkL], hfl h⟩
      (Ent.drop (by rw [hK]; exact Nat.le_refl _) (by rw [hK]; exact hsc _) (by simp [FrSc, Go.Al.get, sc, hK, hid])) ?_
    rintro ⟨j, y⟩ ⟨hj, hw, hyl⟩
    simp only at hj hw hyl
    simp only [lA, ptrCells, ptrAdd, isNil, readsV, readsP, isCall, wrote, srcOf, seval, hK, hg, hs]
    refine cond_i (fun h1 => ?_) (fun h1 => ?_)
    · simp only [decide_eq_true_eq] at h1
      have hjl : j < args.length := by omega
      simp only [lA, ptrCells, ptrAdd, isNil, readsV, readsP, isCall, wrote, srcOf, seval, hK, hg, hs]
      have hnext : walkL f (args.take (j + 1)) fx.2 = if (walk f args[j] y).1 then (true, (walk f args[j] y).2) else (false, (walk f args[j] y).2) := by
        rw [List.take_succ_eq_append_getElem hjl, walkL_append, hw]
        simp [walkL]
      have hcall := fun L => ihS j hjl y L hyl
      have hwl := walk_live hl args[j] y hyl
      have hx : (args.map EX.av)[(j : Int).toNat]? = some (args[j]).av := by simp [hjl]
      generalize hej : args[j] = ej at *
      obtain ⟨o2, n2, k2, i2, s2, args2⟩ := ej
      refine ⟨_, _, by omega, hx, rfl, ?_⟩
      simp only [lA, ptrCells, ptrAdd, isNil, readsV, readsP, isCall, wrote, srcOf, seval, EX.av, hK, hg, hs]
      refine ACalls.mono (hcall _) ?_
      rintro _ _ ⟨_, rfl, rfl, rfl⟩
      simp only [lA, ptrCells, ptrAdd, isNil, readsV, readsP, isCall, wrote, srcOf, seval, hK, hg, hs]
      generalize walk f (.mk o2 n2 k2 i2 s2 args2) y = wy at *
      refine cond_i (fun h2 => ?_) (fun h2 => ?_)
      · simp only [Bool.not_eq_true'] at h2
        simp only [lA, ptrCells, ptrAdd, isNil, readsV, readsP, isCall, wrote, srcOf, seval, hK, hg, hs]
        refine fin false wy.2 _ ?_
        simp only [walk, hfx, h, if_true]
        have : args = args.take (j + 1) ++ args.drop (j + 1) := by simp
        rw [this, walkL_append, hnext, h2]
        simp
      · simp only [Bool.not_eq_false'] at h2
        simp only [lA, ptrCells, ptrAdd, isNil, readsV, readsP, isCall, wrote, srcOf, seval, hK, hg, hs, wrap_i64 (show -9223372036854775808 ≤ (j : Int) + 1 by omega) (show (j : Int) + 1 ≤ 9223372036854775807 by omega)]
        refine back_i (j + 1, wy.2) ⟨by omega, by rw [hnext, h2]; rfl, hwl h2⟩ (by simp only; omega) (Ent.drop (by rw [hK]; exact Nat.le_refl _) (by rw [hK]; exact hsc _) (by simp [FrSc, Go.Al.get, sc, hK, hid]))
    · simp only [decide_eq_false_iff_not] at h1
      have hjl : j = args.length := by omega
      subst hjl
      rw [List.take_length] at hw
      simp only [lA, ptrCells, ptrAdd, isNil, readsV, readsP, isCall, wrote, srcOf, seval, hK, hg, hs]
      have := fin true y [] (by simp only [walk, hfx, h, if_true]; exact hw)
      simpa using this
end
end Go.Proofs.Try

namespace Go.Proofs.Try
open Go.Al
set_option linter.unusedVariables false
set_option linter.unusedSimpArgs false

def EX.cs : EX → List AV
  | .mk op n k i s args => [.int .i64 op, .int .i64 n, .int .i64 k, .int .i64 i, .str s, .view 6 (EX.avL args)]
theorem av_cs (e : EX) : e.av = .agg e.cs := by cases e; rfl

theorem c61 (e : EX) : ACalls E.P 61 [e.av] [] (fun r H => r = .fn (.func 86) [] [.vp e.cs] ∧ H = []) := by
  obtain ⟨op, n, k, i, s, args⟩ := e
  refine ok61.acalls hE hm (by simp) fun N hN => ?_
  unfold mc61
  simp only [lA, ptrCells, ptrAdd, isNil, readsV, readsP, isCall, wrote, srcOf, seval, EX.av]
  refine keep_i [] true (by simp) (by simp) rfl ?_
  simp only [lP, seval]
  rfl

section
variable {X : Type} {st : X → List AObj} {K id : Nat} {f : X → EX → Bool × X} {live : X → Prop}
theorem c86 (hK : ∀ x, (st x).length = K) (hid : id < K) (hsc : ∀ x, (st x).all (scO K) = true) (hl : ∀ x e, live x → (f x e).1 = true → live (f x e).2) (hy : ∀ x e, live x → AYield E.P id [e.av] (st x) (fun r H' => r = .bool (f x e).1 ∧ H' = st (f x e).2)) (e : EX) (x : X) (hx : live x) :
    ACalls E.P 86 [.yld id, .vp e.cs] (st x) (fun r H' => H' = st (walk f e x).2) := by
  have hv := c87 hK hid hsc hl hy e x hx
  obtain ⟨op, n, k, i, s, args⟩ := e
  refine ok86.acalls0 hE hm (by simp) fun N hN => ?_
  unfold mc86
  simp only [lA, ptrCells, ptrAdd, isNil, readsV, readsP, isCall, wrote, srcOf, seval, EX.cs, hK]
  refine ACalls.mono hv ?_
  rintro _ _ ⟨rfl, rfl⟩
  simp only [lA, ptrCells, ptrAdd, isNil, readsV, readsP, isCall, wrote, srcOf, seval]
end

mutual
def EX.count : EX → Nat
  | .mk _ _ _ _ _ args => 1 + EX.countL args
def EX.countL : List EX → Nat
  | [] => 0
  | e :: es => e.count + EX.countL es
end
mutual
theorem walk_count : ∀ (e : EX) (c : Nat), walk (fun c _ => (true, c + 1)) e c = (true, c + e.count)
  | .mk _ _ _ _ _ args, c => by simp only [walk, if_true, walkL_count args, EX.count]; congr 1; omega
theorem walkL_count : ∀ (es : List EX) (c : Nat), walkL (fun c _ => (true, c + 1)) es c = (true, c + EX.countL es)
  | [], c => rfl
  | e :: es, c => by simp only [walkL, walk_count e, if_true, walkL_count es, EX.countL]; congr 1; omega
end

theorem wrap_add1 (a b : Int) : IntKind.i64.wrap (IntKind.i64.wrap a + b) = IntKind.i64.wrap (a + b) := by
  rw [IntKind.wrap_i64, IntKind.wrap_i64, IntKind.wrap_i64]; omega

theorem c36 (e : EX) : ACalls E.P 36 [e.av] [] (fun r H => r = .int .i64 (IntKind.i64.wrap e.count) ∧ H = []) := by
  have h61 := c61 e
  obtain ⟨op, n, k, i, s, args⟩ := e
  refine ok36.acalls hE hm (by simp) fun N hN => ?_
  unfold mc36
  simp only [lA, ptrCells, ptrAdd, isNil, readsV, readsP, isCall, wrote, srcOf, seval, EX.av]
  refine callN_i [] false (by simp) (by simp) ?_
  simp only [lP, seval]
  refine ⟨_, h61, ?_⟩
  rintro _ _ ⟨rfl, rfl⟩
  simp only [lA, lP, ptrCells, ptrAdd, isNil, readsV, readsP, isCall, wrote, srcOf, seval]
  refine rng_i hN [(3, .op 1 0)] (by simp [FrSub, Go.Al.get]) fun fn cas bd hy => ?_
  let st : Nat → List AObj := fun c => [.box (EX.mk op n k i s args).cs, .box [.int .i64 (IntKind.i64.wrap c)], .loop .ready none [(3, .op 1 0)] N.n fn #[6] cas bd]
  have hY : ∀ (c : Nat) (e : EX), AYield E.P 2 [e.av] (st c) (fun r H' => r = .bool true ∧ H' = st (c + 1)) := by
    intro c e
    refine hy 2 [(3, .op 1 0)] [e.av] (st c) _ rfl rfl fun N2 hN2 => ?_
    simp only [lA, ptrCells, ptrAdd, isNil, readsV, readsP, isCall, wrote, srcOf, seval, st]
    refine round_i (o := fun st pd => .loop st pd [(3, .op 1 0)] N.n fn #[6] cas bd) (by rfl) ⟨rfl, ?_⟩
    simp only [wrap_add1]
    rfl
  refine ⟨_, c86 (st := st) (K := 3) (id := 2) (f := fun c _ => (true, c + 1)) (fun _ => rfl) (by omega) (fun _ => by simp [st, scO, sc, scL, EX.cs]) (live := fun _ => True) (fun _ _ _ _ => trivial) (fun c e _ => hY c e) (.mk op n k i s args) 0 trivial, ?_⟩
  rintro r _ rfl
  rw [walk_count]
  refine ⟨.ready, none, [(3, .op 1 0)], rfl, by simp, [(3, .op 1 0)], st (0 + (EX.mk op n k i s args).count) |>.set 2 .lost, Ent.fr (by simp [FrSub, Go.Al.get]), ?_⟩
  simp only [lA, ptrCells, ptrAdd, isNil, readsV, readsP, isCall, wrote, srcOf, seval, st]
  refine keep0_i ?_
  simp only [lP, seval]
  try simp
end Go.Proofs.Try

namespace Go.Proofs.Try
open Go.Al Go.Proofs.Tryd
set_option maxRecDepth 100000
set_option maxHeartbeats 1000000

/-- CompareString: the one call of the row. -/
theorem call111 (a b : ByteArray) (w : World) : Calls Tryd.prog 111 #[.string a, .string b] w fun e w' => e = .returned (.int .i64 (Lib.compareBytes a.data.toList b.data.toList)) ∧ w' = w := by
  have hm := hm
  go_enter func111, (by kernel_rfl : f111.ntmps = 8)
  go_wp2
  rw [run_callFunc_extern func125 (by kernel_rfl) (by kernel_rfl) (by kernel_rfl) (e := Extern.BytealgCompare.compare) (by kernel_rfl), Lib.run_compareString]
  simp only [Result.andThen]
  rw [Oper.upon_value]
  go_wp2
  go_ret
  exact ⟨rfl, rfl⟩

theorem c111 (a b : ByteArray) : ACalls E.P 111 [.str a, .str b] [] (fun r H => r = .int .i64 (Lib.compareBytes a.data.toList b.data.toList) ∧ H = []) := by
  refine ⟨⟨f111, func111, by kernel_rfl, by kernel_rfl⟩, fun γ σ w vs hi hv => ?_⟩
  obtain ⟨v1, vs1, rfl, h1, h2⟩ := repVs_cons.1 hv
  obtain ⟨v2, vs2, rfl, h3, h4⟩ := repVs_cons.1 h2
  rw [repVs_nil] at h4
  simp only [RepV] at h1 h3
  subst h1 h3 h4
  refine (call111 a b w).mono ?_
  rintro e w' ⟨rfl, rfl⟩
  exact ⟨_, γ, σ, .int .i64 (Lib.compareBytes a.data.toList b.data.toList), [], rfl, Step.refl _ _ _, hi, by simp [RepV], rfl, rfl⟩
end Go.Proofs.Try

namespace Go.Proofs.Try
open Go.Al
set_option linter.unusedVariables false
set_option linter.unusedSimpArgs false
set_option maxRecDepth 20000

theorem c96 (a b : ByteArray) : ACalls E.P 96 [.str a, .str b] [] (fun r H => r = .int .i64 (Lib.compareBytes a.data.toList b.data.toList) ∧ H = []) := by
  refine ok96.acalls hE hm (by simp) fun N hN => ?_
  unfold mc96
  simp only [lA, ptrCells, ptrAdd, isNil, readsV, readsP, isCall, wrote, srcOf, seval]
  repeat' (first
   | (with_reducible apply St.o; constructor) <;> intro _
   | with_reducible first | refine LenR_i fun _ => ?_ | refine And.intro (by omega) ?_ | (apply Sp.o; constructor) | refine frz0_i ?_
   | ((with_reducible apply Sc.o true; constructor); simp only [lP, seval]; refine ⟨_, c111 a b, ?_⟩; rintro _ _ ⟨rfl, rfl⟩; simp only [lA, lP, ptrCells, ptrAdd, isNil, readsV, readsP, isCall, wrote, srcOf, seval])
   | ((with_reducible refine keep0_i ?_); simp only [lP, seval])
   | simp (maxSteps := 1000000) (disch := omega) only [lE, ptrCells, ptrAdd, isNil, readsV, readsP, isCall, wrote, srcOf, seval])
theorem c110 (a : Int) : ACalls E.P 110 [.int .i64 a] [] (fun r H => r = .bool false ∧ H = []) := by
  refine ok110.acalls hE hm (by simp) fun N hN => ?_
  unfold mc110
  simp only [lA, ptrCells, ptrAdd, isNil, readsV, readsP, isCall, wrote, srcOf, seval]
  repeat' (first
   | (with_reducible apply St.o; constructor) <;> intro _
   | with_reducible first | refine LenR_i fun _ => ?_ | refine And.intro (by omega) ?_ | (apply Sp.o; constructor) | refine frz0_i ?_
   | ((with_reducible refine keep0_i ?_); simp only [lP, seval])
   | simp (maxSteps := 1000000) (disch := omega) only [lE, ptrCells, ptrAdd, isNil, readsV, readsP, isCall, wrote, srcOf, seval])
  all_goals simp
/-- The order of integers. -/
def sgn (a b : Int) : Int := if a < b then -1 else if a > b then 1 else 0
theorem c108 (a b : Int) : ACalls E.P 108 [.int .i64 a, .int .i64 b] [] (fun r H => r = .int .i64 (sgn a b) ∧ H = []) := by
  refine ok108.acalls hE hm (by simp) fun N hN => ?_
  unfold mc108
  simp only [lA, ptrCells, ptrAdd, isNil, readsV, readsP, isCall, wrote, srcOf, seval]
  repeat' (first
   | (with_reducible apply St.o; constructor) <;> intro _
   | with_reducible first | refine LenR_i fun _ => ?_ | refine And.intro (by omega) ?_ | (apply Sp.o; constructor) | refine frz0_i ?_
   | ((with_reducible refine keep0_i ?_); simp only [lP, seval])
   | simp (maxSteps := 1000000) (disch := omega) only [lE, ptrCells, ptrAdd, isNil, readsV, readsP, isCall, wrote, srcOf, seval])
  all_goals (simp only [sgn, AV.int.injEq, true_and]; (repeat' split) <;> omega)
theorem c95 (a b : Int) : ACalls E.P 95 [.int .i64 a, .int .i64 b] [] (fun r H => r = .int .i64 (sgn a b) ∧ H = []) := by
  refine ok95.acalls hE hm (by simp) fun N hN => ?_
  unfold mc95
  simp only [lA, ptrCells, ptrAdd, isNil, readsV, readsP, isCall, wrote, srcOf, seval]
  repeat' (first
   | (with_reducible apply St.o; constructor) <;> intro _
   | with_reducible first | refine LenR_i fun _ => ?_ | refine And.intro (by omega) ?_ | (apply Sp.o; constructor) | refine frz0_i ?_
   | ((with_reducible apply Sc.o true; constructor); simp only [lP, seval]; (first | refine ⟨_, c110 a, ?_⟩ | refine ⟨_, c110 b, ?_⟩); rintro _ _ ⟨rfl, rfl⟩; simp only [lA, lP, ptrCells, ptrAdd, isNil, readsV, readsP, isCall, wrote, srcOf, seval])
   | ((with_reducible refine keep0_i ?_); simp only [lP, seval])
   | simp (maxSteps := 1000000) (disch := omega) only [lE, ptrCells, ptrAdd, isNil, readsV, readsP, isCall, wrote, srcOf, seval])
  all_goals (simp only [sgn, AV.int.injEq, true_and]; (repeat' split) <;> omega)

/-- The first that is not 0. -/
def orI : List Int → Int
  | [] => 0
  | x :: l => if x = 0 then orI l else x
theorem orI_drop {l : List Int} {i : Nat} (h : i < l.length) : orI (l.drop i) = if l.getD i 0 = 0 then orI (l.drop (i + 1)) else l.getD i 0 := by
  rw [List.drop_eq_getElem_cons h]
  simp [orI, h]
theorem c94 (l : List Int) : ACalls E.P 94 [.view 1 (l.map (AV.int .i64))] [] (fun r H => r = .int .i64 (orI l) ∧ H = []) := by
  have hmax := maxLen_eq
  refine ok94.acalls hE hm (by simp) fun N hN => ?_
  unfold mc94
  simp only [lA, ptrCells, ptrAdd, isNil, readsV, readsP, isCall, wrote, srcOf, seval]
  refine LenR_i fun hl => ?_
  rw [List.length_map, hmax] at hl
  simp only [lA, ptrCells, ptrAdd, isNil, readsV, readsP, isCall, wrote, srcOf, seval, List.length_map]
  refine loop_i (fun i : Nat => i ≤ l.length ∧ orI l = orI (l.drop i)) (fun i => ⟨[(3, .int .i64 0), (6, .view 1 (l.map (AV.int .i64))), (7, .int .i64 l.length), (8, .int .i64 i)], []⟩) (fun i => l.length - i) 0 ⟨by omega, by simp⟩ (Ent.to [] false (by simp) (by simp) rfl (by simp only [lP, seval, List.length_map] <;> (try simp) <;> (try omega)) (by simp only [lP, seval, List.length_map] <;> (try simp) <;> (try omega))) ?_
  rintro i ⟨hi, ho⟩
  repeat' (first
   | (with_reducible apply St.o; constructor) <;> intro _
   | with_reducible first | refine LenR_i fun _ => ?_ | refine And.intro (by omega) ?_ | (apply Sp.o; constructor) | refine frz0_i ?_
   | ((with_reducible refine keep0_i ?_); simp only [lP, seval])
   | simp (maxSteps := 1000000) (disch := omega) only [lE, ptrCells, ptrAdd, isNil, readsV, readsP, isCall, wrote, srcOf, seval])
  · rename_i h1 h2
    rw [ho, orI_drop (by omega), if_neg h2]
  · rename_i h1 h2
    exact back_i (i + 1) ⟨by omega, by rw [ho, orI_drop (by omega), if_pos h2]⟩ (by omega) (Ent.to [] false (by simp) (by simp) rfl (by simp only [lP, seval] <;> (try simp) <;> (try omega)) (by simp only [lP, seval] <;> (try simp) <;> (try omega)))
  · rw [ho, List.drop_eq_nil_of_le (by omega)]; rfl

/-- Values: kind, number, text. -/
structure VL where
  k : Int
  n : Int
  s : ByteArray
def VL.av (v : VL) : AV := .agg [.int .i64 v.k, .int .i64 v.n, .str v.s]
def VL.cmp (a b : VL) : Int := orI [sgn a.k b.k, sgn a.n b.n, Lib.compareBytes a.s.data.toList b.s.data.toList]
theorem c66 (a b : VL) : ACalls E.P 66 [a.av, b.av] [] (fun r H => r = .int .i64 (a.cmp b) ∧ H = []) := by
  obtain ⟨ka, na, sa⟩ := a
  obtain ⟨kb, nb, sb⟩ := b
  have h94 := c94 [sgn ka kb, sgn na nb, Lib.compareBytes sa.data.toList sb.data.toList]
  refine ok66.acalls hE hm (by simp) fun N hN => ?_
  unfold mc66
  simp only [lA, ptrCells, ptrAdd, isNil, readsV, readsP, isCall, wrote, srcOf, seval, VL.av]
  repeat' (first
   | (with_reducible apply St.o; constructor) <;> intro _
   | with_reducible first | refine LenR_i fun _ => ?_ | refine And.intro (by omega) ?_ | (apply Sp.o; constructor) | refine frz0_i ?_
   | ((with_reducible apply Sc.o true; constructor); simp only [lP, seval, VL.cmp]; (first | refine ⟨_, c95 ka kb, ?_⟩ | refine ⟨_, c95 na nb, ?_⟩ | refine ⟨_, c96 sa sb, ?_⟩ | refine ⟨_, h94, ?_⟩); rintro _ _ ⟨rfl, rfl⟩; simp only [lA, lP, ptrCells, ptrAdd, isNil, readsV, readsP, isCall, wrote, srcOf, seval, VL.cmp])
   | ((with_reducible refine keep0_i ?_); simp only [lP, seval])
   | simp (maxSteps := 1000000) (disch := omega) only [lE, ptrCells, ptrAdd, isNil, readsV, readsP, isCall, wrote, srcOf, seval, VL.cmp])
def VL.cmp19 (a b : VL) : Int :=
  if a.k ≠ b.k then sgn a.k b.k else if Op.bytesLess a.s.toList b.s.toList = true then -1 else if (!(Op.bytesLess a.s.toList b.s.toList || decide (a.s = b.s))) = true then 1 else sgn a.n b.n
theorem c84 (a b : VL) : ACalls E.P 84 [a.av, b.av] [] (fun r H => r = .int .i64 (a.cmp19 b) ∧ H = []) := by
  obtain ⟨ka, na, sa⟩ := a
  obtain ⟨kb, nb, sb⟩ := b
  refine ok84.acalls hE hm (by simp) fun N hN => ?_
  unfold mc84
  simp only [lA, ptrCells, ptrAdd, isNil, readsV, readsP, isCall, wrote, srcOf, seval, VL.av]
  repeat' (first
   | (with_reducible apply St.o; constructor) <;> intro _
   | with_reducible first | refine LenR_i fun _ => ?_ | refine And.intro (by omega) ?_ | (apply Sp.o; constructor) | refine frz0_i ?_
   | ((with_reducible apply Sc.o true; constructor); simp only [lP, seval, strA]; (first | refine ⟨_, c108 ka kb, ?_⟩ | refine ⟨_, c108 na nb, ?_⟩); rintro _ _ ⟨rfl, rfl⟩; simp only [lA, lP, ptrCells, ptrAdd, isNil, readsV, readsP, isCall, wrote, srcOf, seval, strA])
   | ((with_reducible refine keep0_i ?_); simp only [lP, seval])
   | simp (maxSteps := 1000000) (disch := omega) only [lE, ptrCells, ptrAdd, isNil, readsV, readsP, isCall, wrote, srcOf, seval, strA])
  all_goals (simp only [VL.cmp19]; simp_all)
end Go.Proofs.Try

namespace Go.Proofs.Try
open Go.Al
set_option linter.unusedVariables false
set_option linter.unusedSimpArgs false
set_option maxRecDepth 20000

theorem ti24 : E.TI 24 = some ⟨.struct [(0, 3), (1, 3), (2, 9)], 3, 32, [.int .i64 0, .int .i64 0, .string ByteArray.empty], true, true⟩ := rfl
def VL.ofB (b : Bool) : VL := ⟨3, if b then 1 else 0, ⟨#[]⟩⟩
theorem c82 (b : Bool) : ACalls E.P 82 [.bool b] [] (fun r H => r = (VL.ofB b).av ∧ H = []) := by
  refine ok82.acalls hE hm (by simp) fun N hN => ?_
  unfold mc82
  simp only [lA, ptrCells, ptrAdd, isNil, readsV, readsP, isCall, wrote, srcOf, seval, ti24]
  repeat' (first
   | (with_reducible apply St.o; constructor) <;> intro _
   | with_reducible first | refine LenR_i fun _ => ?_ | refine And.intro (by omega) ?_ | (apply Sp.o; constructor) | refine frz0_i ?_
   | ((with_reducible refine keep0_i ?_); simp only [lP, seval])
   | simp (maxSteps := 1000000) (disch := omega) only [lE, ptrCells, ptrAdd, isNil, readsV, readsP, isCall, wrote, srcOf, seval, ti24])
  all_goals simp_all [VL.ofB, VL.av]
theorem c44 (b : Bool) : ACalls E.P 44 [.bool b] [] (fun r H => r = (VL.ofB b).av ∧ H = []) := by
  refine ok44.acalls hE hm (by simp) fun N hN => ?_
  unfold mc44
  simp only [lA, ptrCells, ptrAdd, isNil, readsV, readsP, isCall, wrote, srcOf, seval, ti24]
  repeat' (first
   | (with_reducible apply St.o; constructor) <;> intro _
   | with_reducible first | refine LenR_i fun _ => ?_ | refine And.intro (by omega) ?_ | (apply Sp.o; constructor) | refine frz0_i ?_
   | ((with_reducible refine keep0_i ?_); simp only [lP, seval])
   | simp (maxSteps := 1000000) (disch := omega) only [lE, ptrCells, ptrAdd, isNil, readsV, readsP, isCall, wrote, srcOf, seval, ti24])
  all_goals simp_all [VL.ofB, VL.av]
theorem c52 (b : Bool) : ACalls E.P 52 [.bool b] [] (fun r H => r = (VL.ofB b).av ∧ H = []) := by
  refine ok52.acalls hE hm (by simp) fun N hN => ?_
  unfold mc52
  simp only [lA, ptrCells, ptrAdd, isNil, readsV, readsP, isCall, wrote, srcOf, seval, ti24]
  repeat' (first
   | (with_reducible apply St.o; constructor) <;> intro _
   | with_reducible first | refine LenR_i fun _ => ?_ | refine And.intro (by omega) ?_ | (apply Sp.o; constructor) | refine frz0_i ?_
   | ((with_reducible refine keep0_i ?_); simp only [lP, seval])
   | simp (maxSteps := 1000000) (disch := omega) only [lE, ptrCells, ptrAdd, isNil, readsV, readsP, isCall, wrote, srcOf, seval, ti24])
  all_goals simp_all [VL.ofB, VL.av]
def cmpB (op : Int) : Bool := decide (6 ≤ op ∧ op ≤ 11)
def ariB (op : Int) : Bool := decide (3 ≤ op ∧ op ≤ 5)
theorem c53 (op : Int) : ACalls E.P 53 [.int .i64 op] [] (fun r H => r = .bool (cmpB op) ∧ H = []) := by
  refine ok53.acalls hE hm (by simp) fun N hN => ?_
  unfold mc53
  simp only [lA, ptrCells, ptrAdd, isNil, readsV, readsP, isCall, wrote, srcOf, seval]
  repeat' (first
   | (with_reducible apply St.o; constructor) <;> intro _
   | with_reducible first | refine LenR_i fun _ => ?_ | refine And.intro (by omega) ?_ | (apply Sp.o; constructor) | refine frz0_i ?_
   | ((with_reducible refine keep0_i ?_); simp only [lP, seval])
   | simp (maxSteps := 1000000) (disch := omega) only [lE, ptrCells, ptrAdd, isNil, readsV, readsP, isCall, wrote, srcOf, seval])
  all_goals (simp only [cmpB, AV.bool.injEq]; simp; try omega)
theorem c58 (op : Int) : ACalls E.P 58 [.int .i64 op] [] (fun r H => r = .bool (cmpB op) ∧ H = []) := by
  refine ok58.acalls hE hm (by simp) fun N hN => ?_
  unfold mc58
  simp only [lA, ptrCells, ptrAdd, isNil, readsV, readsP, isCall, wrote, srcOf, seval]
  repeat' (first
   | (with_reducible apply St.o; constructor) <;> intro _
   | with_reducible first | refine LenR_i fun _ => ?_ | refine And.intro (by omega) ?_ | (apply Sp.o; constructor) | refine frz0_i ?_
   | ((with_reducible refine keep0_i ?_); simp only [lP, seval])
   | simp (maxSteps := 1000000) (disch := omega) only [lE, ptrCells, ptrAdd, isNil, readsV, readsP, isCall, wrote, srcOf, seval])
  all_goals (simp only [cmpB, AV.bool.injEq]; simp; try omega)
theorem c93 (op : Int) : ACalls E.P 93 [.int .i64 op] [] (fun r H => r = .bool (ariB op) ∧ H = []) := by
  refine ok93.acalls hE hm (by simp) fun N hN => ?_
  unfold mc93
  simp only [lA, ptrCells, ptrAdd, isNil, readsV, readsP, isCall, wrote, srcOf, seval]
  repeat' (first
   | (with_reducible apply St.o; constructor) <;> intro _
   | with_reducible first | refine LenR_i fun _ => ?_ | refine And.intro (by omega) ?_ | (apply Sp.o; constructor) | refine frz0_i ?_
   | ((with_reducible refine keep0_i ?_); simp only [lP, seval])
   | simp (maxSteps := 1000000) (disch := omega) only [lE, ptrCells, ptrAdd, isNil, readsV, readsP, isCall, wrote, srcOf, seval])
  all_goals (simp only [ariB, AV.bool.injEq]; simp; try omega)
theorem c64 (op : Int) : ACalls E.P 64 [.int .i64 op] [] (fun r H => r = .bool (ariB op) ∧ H = []) := by
  refine ok64.acalls hE hm (by simp) fun N hN => ?_
  unfold mc64
  simp only [lA, ptrCells, ptrAdd, isNil, readsV, readsP, isCall, wrote, srcOf, seval]
  repeat' (first
   | (with_reducible apply St.o; constructor) <;> intro _
   | with_reducible first | refine LenR_i fun _ => ?_ | refine And.intro (by omega) ?_ | (apply Sp.o; constructor) | refine frz0_i ?_
   | ((with_reducible refine keep0_i ?_); simp only [lP, seval])
   | simp (maxSteps := 1000000) (disch := omega) only [lE, ptrCells, ptrAdd, isNil, readsV, readsP, isCall, wrote, srcOf, seval])
  all_goals (simp only [ariB, AV.bool.injEq]; simp; try omega)
end Go.Proofs.Try

namespace Go.Proofs.Try
open Go.Al
set_option linter.unusedVariables false
set_option linter.unusedSimpArgs false
set_option maxRecDepth 20000

def VL.Right (v : VL) : Prop := (v.k = 0 ∧ v.n = 0 ∧ v.s = ⟨#[]⟩) ∨ (v.k = 1 ∧ -549755813888 ≤ v.n ∧ v.n ≤ 549755813887 ∧ v.s = ⟨#[]⟩) ∨ (v.k = 2 ∧ v.n = 0 ∧ v.s.size ≤ 40) ∨ (v.k = 3 ∧ (v.n = 0 ∨ v.n = 1) ∧ v.s = ⟨#[]⟩)
instance (v : VL) : Decidable v.Right := by unfold VL.Right; infer_instance

theorem land_even (m : Nat) (h : m < 2 ^ 64) : m &&& 18446744073709551614 = 2 * (m / 2) := by
  apply Nat.eq_of_testBit_eq
  intro i
  rw [Nat.testBit_and]
  cases i with
  | zero => simp
  | succ i =>
    rw [Nat.testBit_succ, Nat.testBit_succ, Nat.testBit_succ, show (18446744073709551614 : Nat) / 2 = 2 ^ 63 - 1 by decide, Nat.testBit_two_pow_sub_one, show 2 * (m / 2) / 2 = m / 2 by omega]
    by_cases hi : i < 63
    · simp [hi]
    · simp only [hi, decide_false, Bool.and_false]
      exact (Nat.testBit_lt_two_pow (Nat.lt_of_lt_of_le (show m / 2 < 2 ^ 63 by omega) (Nat.pow_le_pow_right (by omega) (by omega)))).symm

def inI (n : Int) : Prop := -9223372036854775808 ≤ n ∧ n ≤ 9223372036854775807
theorem andNot1 {n : Int} (h : inI n) : (IntKind.i64.wrap ↑((n % 2 ^ IntKind.i64.bits).toNat &&& 2 ^ IntKind.i64.bits - 1 - 1 % 2 ^ IntKind.i64.bits) = 0) ↔ (n = 0 ∨ n = 1) := by
  obtain ⟨h1, h2⟩ := h
  rw [show IntKind.i64.bits = 64 from rfl, show (2 ^ 64 - 1 - 1 % 2 ^ 64 : Nat) = 18446744073709551614 by decide, land_even _ (by omega), IntKind.wrap_i64]
  omega

theorem c21 (v : VL) : ACalls E.P 21 [v.av] [] (fun r H => r = .bool (decide v.Right) ∧ H = []) := by
  obtain ⟨k, n, s⟩ := v
  refine ok21.acalls hE hm (by simp) fun N hN => ?_
  unfold mc21
  simp only [lA, ptrCells, ptrAdd, isNil, readsV, readsP, isCall, wrote, srcOf, seval, VL.av]
  repeat' (first
   | (with_reducible apply St.o; constructor) <;> intro _
   | with_reducible first | refine LenR_i fun _ => ?_ | refine And.intro (by omega) ?_ | (apply Sp.o; constructor) | refine frz0_i ?_
   | ((with_reducible refine keep0_i ?_); simp only [lP, seval])
   | simp (maxSteps := 1000000) (disch := omega) only [lE, ptrCells, ptrAdd, isNil, readsV, readsP, isCall, wrote, srcOf, seval, strA])
  all_goals (simp only [AV.bool.injEq, VL.Right]; try simp_all)
  all_goals first | omega | (intros; omega)
theorem c92 (v : VL) (hv : inI v.n) : ACalls E.P 92 [v.av] [] (fun r H => r = .bool (decide v.Right) ∧ H = []) := by
  obtain ⟨k, n, s⟩ := v
  refine ok92.acalls hE hm (by simp) fun N hN => ?_
  unfold mc92
  simp only [lA, ptrCells, ptrAdd, isNil, readsV, readsP, isCall, wrote, srcOf, seval, VL.av]
  repeat' (first
   | (with_reducible apply St.o; constructor) <;> intro _
   | with_reducible first | refine LenR_i fun _ => ?_ | refine And.intro (by omega) ?_ | (apply Sp.o; constructor) | refine frz0_i ?_
   | ((with_reducible refine keep0_i ?_); simp only [lP, seval])
   | simp (maxSteps := 1000000) (disch := omega) only [lE, ptrCells, ptrAdd, isNil, readsV, readsP, isCall, wrote, srcOf, seval, strA])
  all_goals (simp only [AV.bool.injEq, VL.Right]; try simp_all)
  all_goals first | omega | (intros; omega) | (simp only [andNot1 hv] at *; simp_all)
end Go.Proofs.Try

namespace Go.Proofs.Try
open Go.Al
set_option linter.unusedVariables false
set_option linter.unusedSimpArgs false
set_option maxRecDepth 20000

def VL.logical (v : VL) : Bool := decide (v.k = 0 ∨ v.k = 3)
theorem c83 (v : VL) : ACalls E.P 83 [v.av] [] (fun r H => r = .bool v.logical ∧ H = []) := by
  obtain ⟨k, n, s⟩ := v
  refine ok83.acalls hE hm (by simp) fun N hN => ?_
  unfold mc83
  simp only [lA, ptrCells, ptrAdd, isNil, readsV, readsP, isCall, wrote, srcOf, seval, VL.av]
  repeat' (first
   | (with_reducible apply St.o; constructor) <;> intro _
   | with_reducible first | refine LenR_i fun _ => ?_ | refine And.intro (by omega) ?_ | (apply Sp.o; constructor) | refine frz0_i ?_
   | ((with_reducible refine keep0_i ?_); simp only [lP, seval])
   | simp (maxSteps := 1000000) (disch := omega) only [lE, ptrCells, ptrAdd, isNil, readsV, readsP, isCall, wrote, srcOf, seval])
  all_goals (simp only [AV.bool.injEq, VL.logical]; simp_all)
theorem c107 (v : VL) : ACalls E.P 107 [v.av] [] (fun r H => r = .bool (!v.logical) ∧ H = []) := by
  obtain ⟨k, n, s⟩ := v
  refine ok107.acalls hE hm (by simp) fun N hN => ?_
  unfold mc107
  simp only [lA, ptrCells, ptrAdd, isNil, readsV, readsP, isCall, wrote, srcOf, seval, VL.av]
  repeat' (first
   | (with_reducible apply St.o; constructor) <;> intro _
   | with_reducible first | refine LenR_i fun _ => ?_ | refine And.intro (by omega) ?_ | (apply Sp.o; constructor) | refine frz0_i ?_
   | ((with_reducible refine keep0_i ?_); simp only [lP, seval])
   | simp (maxSteps := 1000000) (disch := omega) only [lE, ptrCells, ptrAdd, isNil, readsV, readsP, isCall, wrote, srcOf, seval])
  all_goals (simp only [AV.bool.injEq, VL.logical]; simp_all)
end Go.Proofs.Try

namespace Go.Proofs.Try
open Go.Al
set_option linter.unusedVariables false
set_option linter.unusedSimpArgs false
set_option maxRecDepth 20000

def VL.null : VL := ⟨0, 0, ⟨#[]⟩⟩
def VL.is (a : VL) (b : Bool) : Bool := decide (a.k = 3 ∧ a.n = (if b then 1 else 0) ∧ a.s = ⟨#[]⟩)
/-- Three-valued logic: strong, if one is; else null, if one is; else the opposite. -/
def VL.dec (strong : Bool) (a b : VL) : VL × Int :=
  if (!a.logical || !b.logical) = true then (VL.null, 7) else if (a.is strong || b.is strong) = true then (VL.ofB strong, 0) else if a.k = 0 ∨ b.k = 0 then (VL.null, 0) else (VL.ofB (!strong), 0)
theorem c55 (a b : VL) : ACalls E.P 55 [a.av, b.av] [] (fun r H => r = .tup [(VL.dec false a b).1.av, .int .i64 (VL.dec false a b).2] ∧ H = []) := by
  have h1 := c83 a
  have h2 := c83 b
  have h3 : ACalls E.P 44 [.bool false] [] (fun r H => r = .agg [.int .i64 3, .int .i64 0, .str ⟨#[]⟩] ∧ H = []) := c44 false
  have h4 : ACalls E.P 44 [.bool true] [] (fun r H => r = .agg [.int .i64 3, .int .i64 1, .str ⟨#[]⟩] ∧ H = []) := c44 true
  obtain ⟨ka, na, sa⟩ := a
  obtain ⟨kb, nb, sb⟩ := b
  refine ok55.acalls hE hm (by simp) fun N hN => ?_
  unfold mc55
  simp only [lA, ptrCells, ptrAdd, isNil, readsV, readsP, isCall, wrote, srcOf, seval, VL.av]
  repeat' (first
   | (with_reducible apply St.o; constructor) <;> intro _
   | with_reducible first | refine LenR_i fun _ => ?_ | refine And.intro (by omega) ?_ | (apply Sp.o; constructor) | refine frz0_i ?_
   | ((with_reducible apply Sc.o true; constructor); simp only [lP, seval, ti24, strA, VL.ofB, flatEq]; (first | refine ⟨_, h1, ?_⟩ | refine ⟨_, h2, ?_⟩ | refine ⟨_, h3, ?_⟩ | refine ⟨_, h4, ?_⟩); rintro _ _ ⟨rfl, rfl⟩; simp only [lA, lP, ptrCells, ptrAdd, isNil, readsV, readsP, isCall, wrote, srcOf, seval, ti24, strA, VL.ofB, flatEq])
   | ((with_reducible refine keep0_i ?_); simp only [lP, seval])
   | simp (maxSteps := 1000000) (disch := omega) only [lE, ptrCells, ptrAdd, isNil, readsV, readsP, isCall, wrote, srcOf, seval, ti24, strA, VL.ofB, flatEq])
  all_goals clear h1 h2 h3 h4
  all_goals (simp only [VL.dec, VL.is, VL.null, VL.ofB] at *; simp_all)
  all_goals (split <;> simp_all)
  all_goals (rename_i h1 h2 _ _ h; rcases h with ⟨a, b, c⟩ | ⟨a, b, c⟩ <;> simp_all)
end Go.Proofs.Try

namespace Go.Proofs.Try
open Go.Al
set_option linter.unusedVariables false
set_option linter.unusedSimpArgs false
set_option maxRecDepth 20000

theorem c56 (a b : VL) : ACalls E.P 56 [a.av, b.av] [] (fun r H => r = .tup [(VL.dec true a b).1.av, .int .i64 (VL.dec true a b).2] ∧ H = []) := by
  have h1 := c83 a
  have h2 := c83 b
  have h3 : ACalls E.P 44 [.bool false] [] (fun r H => r = .agg [.int .i64 3, .int .i64 0, .str ⟨#[]⟩] ∧ H = []) := c44 false
  have h4 : ACalls E.P 44 [.bool true] [] (fun r H => r = .agg [.int .i64 3, .int .i64 1, .str ⟨#[]⟩] ∧ H = []) := c44 true
  obtain ⟨ka, na, sa⟩ := a
  obtain ⟨kb, nb, sb⟩ := b
  refine ok56.acalls hE hm (by simp) fun N hN => ?_
  unfold mc56
  simp only [lA, ptrCells, ptrAdd, isNil, readsV, readsP, isCall, wrote, srcOf, seval, VL.av]
  repeat' (first
   | (with_reducible apply St.o; constructor) <;> intro _
   | with_reducible first | refine LenR_i fun _ => ?_ | refine And.intro (by omega) ?_ | (apply Sp.o; constructor) | refine frz0_i ?_
   | ((with_reducible apply Sc.o true; constructor); simp only [lP, seval, ti24, strA, VL.ofB, flatEq]; (first | refine ⟨_, h1, ?_⟩ | refine ⟨_, h2, ?_⟩ | refine ⟨_, h3, ?_⟩ | refine ⟨_, h4, ?_⟩); rintro _ _ ⟨rfl, rfl⟩; simp only [lA, lP, ptrCells, ptrAdd, isNil, readsV, readsP, isCall, wrote, srcOf, seval, ti24, strA, VL.ofB, flatEq])
   | ((with_reducible refine keep0_i ?_); simp only [lP, seval])
   | simp (maxSteps := 1000000) (disch := omega) only [lE, ptrCells, ptrAdd, isNil, readsV, readsP, isCall, wrote, srcOf, seval, ti24, strA, VL.ofB, flatEq])
  all_goals clear h1 h2 h3 h4
  all_goals (simp only [VL.dec, VL.is, VL.null, VL.ofB] at *; simp_all)
  all_goals (split <;> simp_all)
  all_goals (rename_i h1 h2 _ _ h; rcases h with ⟨a, b, c⟩ | ⟨a, b, c⟩ <;> simp_all)
end Go.Proofs.Try

namespace Go.Proofs.Try
open Go.Al
set_option linter.unusedVariables false
set_option linter.unusedSimpArgs false
set_option maxRecDepth 20000

/-- Negation, as the specification has it. -/
def VL.not19 (a : VL) : VL × Int := if a.logical = false then (VL.null, 7) else if a.k = 0 then (a, 0) else (VL.ofB (decide (a.n = 0)), 0)
theorem c57 (a : VL) : ACalls E.P 57 [a.av] [] (fun r H => r = .tup [a.not19.1.av, .int .i64 a.not19.2] ∧ H = []) := by
  have h1 := c83 a
  have h3 : ∀ b : Bool, ACalls E.P 44 [.bool b] [] (fun r H => r = .agg [.int .i64 3, .int .i64 (if b then 1 else 0), .str ⟨#[]⟩] ∧ H = []) := c44
  obtain ⟨ka, na, sa⟩ := a
  refine ok57.acalls hE hm (by simp) fun N hN => ?_
  unfold mc57
  simp only [lA, ptrCells, ptrAdd, isNil, readsV, readsP, isCall, wrote, srcOf, seval, VL.av]
  repeat' (first
   | (with_reducible apply St.o; constructor) <;> intro _
   | with_reducible first | refine LenR_i fun _ => ?_ | refine And.intro (by omega) ?_ | (apply Sp.o; constructor) | refine frz0_i ?_
   | ((with_reducible apply Sc.o true; constructor); simp only [lP, seval, ti24, strA, VL.ofB, flatEq]; (first | refine ⟨_, h1, ?_⟩ | refine ⟨_, h3 _, ?_⟩); rintro _ _ ⟨rfl, rfl⟩; simp only [lA, lP, ptrCells, ptrAdd, isNil, readsV, readsP, isCall, wrote, srcOf, seval, ti24, strA, VL.ofB, flatEq])
   | ((with_reducible refine keep0_i ?_); simp only [lP, seval])
   | simp (maxSteps := 1000000) (disch := omega) only [lE, ptrCells, ptrAdd, isNil, readsV, readsP, isCall, wrote, srcOf, seval, ti24, strA, VL.ofB, flatEq])
  all_goals clear h1 h3
  all_goals (simp only [VL.not19, VL.null, VL.ofB] at *; simp_all)
end Go.Proofs.Try

namespace Go.Proofs.Try
open Go.Al
set_option linter.unusedVariables false
set_option linter.unusedSimpArgs false
set_option maxRecDepth 20000

def tst (op c : Int) : Bool := if op = 6 then decide (c = 0) else if op = 7 then !decide (c = 0) else if op = 8 then decide (c < 0) else if op = 9 then decide (c ≤ 0) else if op = 10 then decide (0 < c) else decide (0 ≤ c)
def VL.test (cmp : VL → VL → Int) (op : Int) (a b : VL) : VL × Int := if op < 6 ∨ 11 < op then (VL.null, 1) else if a.k = 0 ∨ b.k = 0 then (VL.null, 0) else if a.k ≠ b.k then (VL.null, 7) else (VL.ofB (tst op (cmp a b)), 0)
theorem c59 (op : Int) (a b : VL) : ACalls E.P 59 [.int .i64 op, a.av, b.av] [] (fun r H => r = .tup [(VL.test VL.cmp19 op a b).1.av, .int .i64 (VL.test VL.cmp19 op a b).2] ∧ H = []) := by
  have h1 := c84 a b
  have h3 : ∀ b : Bool, ACalls E.P 44 [.bool b] [] (fun r H => r = .agg [.int .i64 3, .int .i64 (if b then 1 else 0), .str ⟨#[]⟩] ∧ H = []) := c44
  generalize hc : a.cmp19 b = c at h1
  obtain ⟨ka, na, sa⟩ := a
  obtain ⟨kb, nb, sb⟩ := b
  refine ok59.acalls hE hm (by simp) fun N hN => ?_
  unfold mc59
  simp only [lA, ptrCells, ptrAdd, isNil, readsV, readsP, isCall, wrote, srcOf, seval, VL.av]
  repeat' (first
   | (with_reducible apply St.o; constructor) <;> intro _
   | with_reducible first | refine LenR_i fun _ => ?_ | refine And.intro (by omega) ?_ | (apply Sp.o; constructor) | refine frz0_i ?_
   | ((with_reducible apply Sc.o true; constructor); simp only [lP, seval, ti24, strA, VL.ofB, flatEq]; (first | refine ⟨_, h1, ?_⟩ | refine ⟨_, h3 _, ?_⟩); rintro _ _ ⟨rfl, rfl⟩; simp only [lA, lP, ptrCells, ptrAdd, isNil, readsV, readsP, isCall, wrote, srcOf, seval, ti24, strA, VL.ofB, flatEq])
   | ((with_reducible refine keep0_i ?_); simp only [lP, seval])
   | simp (maxSteps := 1000000) (disch := omega) only [lE, ptrCells, ptrAdd, isNil, readsV, readsP, isCall, wrote, srcOf, seval, ti24, strA, VL.ofB, flatEq])
  all_goals clear h1 h3
  all_goals (simp only [VL.test, VL.null, VL.ofB, tst] at *; simp_all)
  all_goals (rw [if_neg (by omega)]; (try simp); (try (split <;> omega)); try omega)
end Go.Proofs.Try
