/-
  A part of the proof: see the text of the law.
-/
import Derived.Test.YtjiijjfpmaligaaDoorCai
set_option linter.unusedSimpArgs false
set_option linter.unusedVariables false
namespace Go.Proofs.Try
open Go.Al
set_option linter.unusedVariables false
set_option linter.unusedSimpArgs false
set_option maxRecDepth 20000
set_option maxHeartbeats 8000000

/-! ### Size, Check -/
theorem countL_take {l : List EX} {i : Nat} (h : i < l.length) : EX.countL (l.take (i + 1)) = EX.countL (l.take i) + (l.getD i default).count := by
  rw [List.take_succ_eq_append_getElem h]
  have : ∀ a b : List EX, EX.countL (a ++ b) = EX.countL a + EX.countL b := fun a b => by
    induction a with
    | nil => simp [EX.countL]
    | cons x a ih => simp [EX.countL, ih]; omega
  rw [this]
  simp [EX.countL, h]
theorem wrap_wrap (a b : Int) : IntKind.i64.wrap (IntKind.i64.wrap a + IntKind.i64.wrap b) = IntKind.i64.wrap (a + b) := by
  rw [IntKind.wrap_i64, IntKind.wrap_i64, IntKind.wrap_i64, IntKind.wrap_i64]; omega
theorem count_eq (e : EX) : e.count = 1 + EX.countL e.args := by cases e; rfl
theorem wrap1 : IntKind.i64.wrap 1 = 1 := rfl
theorem wrap1n : IntKind.i64.wrap ((1 : Nat) : Int) = 1 := rfl
theorem ti3 : E.TI 3 = some ⟨.int .i64, 1, 8, [.int .i64 0], false, false⟩ := rfl
theorem ti33 : E.TI 33 = some ⟨.int .i64, 1, 8, [.int .i64 0], false, false⟩ := rfl
theorem c19 (e : EX) : ACalls E.P 19 [e.av] [] (fun r H => r = .int .i64 (IntKind.i64.wrap e.count) ∧ H = []) := by
  have hmax := maxLen_eq
  generalize hsz : SizeOf.sizeOf e = sz
  induction sz using Nat.strongRecOn generalizing e with
  | _ sz ih =>
  refine ok19.acalls hE hm (by simp) fun N hN => ?_
  unfold mc19
  simp only [lA, ptrCells, ptrAdd, isNil, readsV, readsP, isCall, wrote, srcOf, seval, av_fs]
  refine loop_i (fun i : Nat => i ≤ e.args.length) (fun i => ⟨[(1, .op 0 0), (3, .int .i64 (IntKind.i64.wrap (1 + EX.countL (e.args.take i) : Nat))), (4, .int .i64 i)], [.box e.fs]⟩) (fun i => e.args.length - i) 0 (by omega) (Ent.to [0] false (by simp) (by simp) rfl (by simp only [lP, seval, List.take_zero, EX.countL, wrap1, wrap1n, Nat.add_zero] <;> (try simp) <;> (try omega)) (by simp only [lP, seval, List.take_zero, EX.countL, wrap1, wrap1n, Nat.add_zero] <;> (try simp) <;> (try omega))) ?_
  intro i hi
  by_cases hin : i < e.args.length
  · have hrec := ih _ (by subst hsz; exact size_args hin) (e.args.getD i default) rfl
    simp only [av_fs] at hrec
    have hlt : ((i : Int) < (e.args.length : Int)) := by omega
    repeat' (first
     | (with_reducible apply St.o; constructor) <;> intro _
     | with_reducible first | refine LenR_i fun _ => ?_ | refine And.intro (by omega) ?_ | (apply Sp.o; constructor) | refine frz0_i ?_
     | ((with_reducible apply Sc.o true; constructor); simp only [lP, seval, IdxR_exs, Int.toNat_natCast, List.length_map, hlt, decide_true]; refine ⟨_, hrec, ?_⟩; rintro _ _ ⟨rfl, rfl⟩; simp only [lA, lP, ptrCells, ptrAdd, isNil, readsV, readsP, isCall, wrote, srcOf, seval, IdxR_exs, Int.toNat_natCast, List.length_map, hlt, decide_true])
     | ((with_reducible refine keep0_i ?_); simp only [lP, seval])
     | simp (maxSteps := 1000000) (disch := omega) only [lE, ptrCells, ptrAdd, isNil, readsV, readsP, isCall, wrote, srcOf, seval, IdxR_exs, Int.toNat_natCast, List.length_map, hlt, decide_true])
    refine back_i (i + 1) (by omega) (by omega) ?_
    have e1 : IntKind.i64.wrap (IntKind.i64.wrap ((1 + EX.countL (e.args.take i) : Nat) : Int) + IntKind.i64.wrap ((e.args.getD i default).count : Int)) = IntKind.i64.wrap ((1 + EX.countL (e.args.take (i + 1)) : Nat) : Int) := by
      rw [wrap_wrap, countL_take hin]; congr 1; omega
    exact (Ent.to [0] false (by simp) (by simp) rfl (by simp only [lP, seval, e1] <;> (try simp) <;> (try omega)) (by simp only [lP, seval]))
  · obtain rfl : i = e.args.length := by omega
    repeat' (first
     | (with_reducible apply St.o; constructor) <;> intro _
     | with_reducible first | refine LenR_i fun _ => ?_ | refine And.intro (by omega) ?_ | (apply Sp.o; constructor) | refine frz0_i ?_
     | ((with_reducible refine keep0_i ?_); simp only [lP, seval])
     | simp (maxSteps := 1000000) (disch := omega) only [lE, ptrCells, ptrAdd, isNil, readsV, readsP, isCall, wrote, srcOf, seval, List.length_map, Int.lt_irrefl, decide_false, List.take_length])
    all_goals simp [count_eq]
/-- What Check returns. -/
def chk (ks : List Int) (e : EX) : Int × Int := if 200 < IntKind.i64.wrap e.count then (0, 2) else if e.formed = true then e.tr.kind ks else (0, 3)
theorem c38 (ks : List Int) (e : EX) : ACalls E.P 38 [ksV ks, e.av] [] (fun r H => r = .tup [.int .i64 (chk ks e).1, .int .i64 (chk ks e).2] ∧ H = []) := by
  have h1 := c19 e
  have h2 := c75 e
  have h3 : e.formed = true → ACalls E.P 76 [ksV ks, e.av] [] (fun r H => r = .tup [.int .i64 (e.tr.kind ks).1, .int .i64 (e.tr.kind ks).2] ∧ H = []) := fun h => by
    obtain ⟨h1, h2, _⟩ := ex_tr e h
    have := c76 ks e.tr h2
    rwa [h1] at this
  simp only [av_fs] at h1 h2 h3
  generalize hc : IntKind.i64.wrap (e.count : Int) = c at h1
  refine ok38.acalls hE hm (by simp) fun N hN => ?_
  unfold mc38
  simp only [lA, ptrCells, ptrAdd, isNil, readsV, readsP, isCall, wrote, srcOf, seval, av_fs]
  repeat' (first
   | (with_reducible apply St.o; constructor) <;> intro _
   | with_reducible first | refine LenR_i fun _ => ?_ | refine And.intro (by omega) ?_ | (apply Sp.o; constructor) | refine frz0_i ?_
   | ((with_reducible apply Sc.o true; constructor); simp only [lP, seval]; (first | refine ⟨_, h1, ?_⟩ | refine ⟨_, h2, ?_⟩); rintro _ _ ⟨rfl, rfl⟩; simp only [lA, lP, ptrCells, ptrAdd, isNil, readsV, readsP, isCall, wrote, srcOf, seval])
   | ((with_reducible refine keep0_i ?_); simp only [lP, seval])
   | simp (maxSteps := 1000000) (disch := omega) only [lE, ptrCells, ptrAdd, isNil, readsV, readsP, isCall, wrote, srcOf, seval])
  · rename_i h
    simp only [chk, hc, if_pos h]
  · rename_i h h'
    have h' : e.formed = false := by simpa using h'
    simp [chk, hc, if_neg h, h']
  · rename_i h h'
    have h' : e.formed = true := by simpa using h'
    have h4 := h3 h'
    repeat' (first
     | (with_reducible apply St.o; constructor) <;> intro _
     | with_reducible first | refine LenR_i fun _ => ?_ | refine And.intro (by omega) ?_ | (apply Sp.o; constructor) | refine frz0_i ?_
     | ((with_reducible apply Sc.o true; constructor); simp only [lP, seval]; refine ⟨_, h4, ?_⟩; rintro _ _ ⟨rfl, rfl⟩; simp only [lA, lP, ptrCells, ptrAdd, isNil, readsV, readsP, isCall, wrote, srcOf, seval])
     | ((with_reducible refine keep0_i ?_); simp only [lP, seval])
     | simp (maxSteps := 1000000) (disch := omega) only [lE, ptrCells, ptrAdd, isNil, readsV, readsP, isCall, wrote, srcOf, seval])
    simp [chk, hc, if_neg h, h']
section
variable {m : Nat} {N : FN} {id : Nat} {o : LoopState → Option Code → AObj} {Q : AV → List AObj → Prop} {fr : List (Nat × AV)} {H : List AObj}
theorem ent_take (k : Nat) (hm : m ≤ (H.take k).length) (hs : (H.take k).all (scO (H.take k).length) = true) : Ent m N ⟨fr, H⟩ ⟨[], H.take k⟩ := by
  have := Ent.drop (N := N) (fr := fr) (fr' := []) (L := H.drop k) hm hs trivial
  rwa [List.take_append_drop] at this
theorem round_take (k : Nat) (hm : m ≤ (H.take k).length) (hs : (H.take k).all (scO (H.take k).length) = true) (h1 : (H.take k)[id]? = some (o .busy none)) (h2 : Q (.bool true) ((H.take k).set id (o .ready none))) : roundQ m N id o Q .normal ⟨fr, H⟩ :=
  ⟨H.take k, ent_take k hm hs, h1, h2⟩
theorem ret_take (k : Nat) (hm : m ≤ (H.take k).length) (hs : (H.take k).all (scO (H.take k).length) = true) (h1 : (H.take k)[id]? = some (o .busy none)) (h2 : Q (.bool false) ((H.take k).set id (o .done (some .ret)))) : roundQ m N id o Q .ret ⟨fr, H⟩ :=
  ⟨H.take k, ent_take k hm hs, h1, h2⟩
end
mutual
theorem walk_all (p : EX → Bool) (q : EX → Bool) (ql : List EX → Bool) (h1 : ∀ e, q e = (p e && ql e.args)) (h2 : ql [] = true) (h3 : ∀ e l, ql (e :: l) = (q e && ql l)) : ∀ e : EX, walk (fun _ x => (p x, !p x)) e false = (q e, !q e)
  | .mk op n k i s args => by
    rw [walk, h1]
    simp only [EX.args]
    cases hp : p (.mk op n k i s args) with
    | false => simp
    | true => simp [walkL_all p q ql h1 h2 h3 args]
theorem walkL_all (p : EX → Bool) (q : EX → Bool) (ql : List EX → Bool) (h1 : ∀ e, q e = (p e && ql e.args)) (h2 : ql [] = true) (h3 : ∀ e l, ql (e :: l) = (q e && ql l)) : ∀ l : List EX, walkL (fun _ x => (p x, !p x)) l false = (ql l, !ql l)
  | [] => by simp [walkL, h2]
  | e :: l => by
    rw [walkL, h3, walk_all p q ql h1 h2 h3 e]
    cases q e with
    | false => simp
    | true => simp [walkL_all p q ql h1 h2 h3 l]
end
theorem walk_formed (e : EX) : walk (fun _ x => (x.fm, !x.fm)) e false = (e.formed, !e.formed) :=
  walk_all EX.fm EX.formed EX.formedL (fun e => by rw [formed_eq, formedL_all]) rfl (fun _ _ => rfl) e
theorem c16 (ks : List Int) (e : EX) (hI : e.okI) : ACalls E.P 16 [ksV ks, e.av] [] (fun r H => r = .tup [.int .i64 (chk ks e).1, .int .i64 (chk ks e).2] ∧ H = []) := by
  have h1 := c36 e
  have h61 := c61 e
  have h3 : e.formed = true → ACalls E.P 63 [ksV ks, e.av] [] (fun r H => r = .tup [.int .i64 (e.tr.kind ks).1, .int .i64 (e.tr.kind ks).2] ∧ H = []) := fun h => by
    obtain ⟨h1, h2, h4⟩ := ex_tr e h
    have := c63 ks e.tr h2 (h4 hI)
    rwa [h1] at this
  simp only [av_fs, cs_fs] at h1 h3 h61
  generalize hc : IntKind.i64.wrap (e.count : Int) = c at h1
  refine ok16.acalls hE hm (by simp) fun N hN => ?_
  unfold mc16
  simp only [lA, ptrCells, ptrAdd, isNil, readsV, readsP, isCall, wrote, srcOf, seval, av_fs]
  repeat' (first
   | (with_reducible apply St.o; constructor) <;> intro _
   | with_reducible first | refine LenR_i fun _ => ?_ | refine And.intro (by omega) ?_ | (apply Sp.o; constructor) | refine frz0_i ?_
   | ((with_reducible apply Sc.o true; constructor); simp only [lP, seval, ti3, ti33]; refine ⟨_, h1, ?_⟩; rintro _ _ ⟨rfl, rfl⟩; simp only [lA, lP, ptrCells, ptrAdd, isNil, readsV, readsP, isCall, wrote, srcOf, seval, ti3, ti33])
   | ((with_reducible apply Sc.o false; constructor); simp only [lP, seval, ti3, ti33]; refine ⟨_, h61, ?_⟩; rintro _ _ ⟨rfl, rfl⟩; simp only [lA, lP, ptrCells, ptrAdd, isNil, readsV, readsP, isCall, wrote, srcOf, seval, ti3, ti33])
   | ((with_reducible refine keep0_i ?_); simp only [lP, seval])
   | simp (maxSteps := 1000000) (disch := omega) only [lE, ptrCells, ptrAdd, isNil, readsV, readsP, isCall, wrote, srcOf, seval, ti3, ti33])
  · rename_i h
    simp only [chk, hc, if_pos h]
  rename_i h
  refine rng_i hN [(4, .op 1 0), (5, .op 2 0)] (by simp [FrSub, Go.Al.get]) fun fn cas bd hy => ?_
  let st : Bool → List AObj := fun b => [.box e.fs, .box [.int .i64 0], .box [.int .i64 (if b then 3 else 0)], .loop (if b then .done else .ready) (if b then some .ret else none) [(4, .op 1 0), (5, .op 2 0)] N.n fn #[12] cas bd]
  have hY : ∀ (x : EX), AYield E.P 3 [x.av] (st false) (fun r H' => r = .bool x.fm ∧ H' = st (!x.fm)) := by
    intro x
    have h62 := c62 x
    simp only [av_fs] at h62
    refine hy 3 [(4, .op 1 0), (5, .op 2 0)] [x.av] (st false) _ rfl rfl fun N2 hN2 => ?_
    simp only [lA, ptrCells, ptrAdd, isNil, readsV, readsP, isCall, wrote, srcOf, seval, st, av_fs]
    repeat' (first
     | (with_reducible apply St.o; constructor) <;> intro _
     | with_reducible first | refine LenR_i fun _ => ?_ | refine And.intro (by omega) ?_ | (apply Sp.o; constructor) | refine frz0_i ?_
     | ((with_reducible apply Sc.o true; constructor); simp only [lP, seval]; refine ⟨_, h62, ?_⟩; rintro _ _ ⟨rfl, rfl⟩; simp only [lA, lP, ptrCells, ptrAdd, isNil, readsV, readsP, isCall, wrote, srcOf, seval])
     | ((with_reducible refine keep0_i ?_); simp only [lP, seval])
     | simp (maxSteps := 1000000) (disch := omega) only [lE, ptrCells, ptrAdd, isNil, readsV, readsP, isCall, wrote, srcOf, seval])
    · rename_i h
      have hx : x.fm = false := by simpa using h
      rw [hx]
      exact ret_take (o := fun st pd => .loop st pd [(4, .op 1 0), (5, .op 2 0)] N.n fn #[12] cas bd) 4 (by simp) (by simp [scO, scL, sc]) rfl ⟨rfl, rfl⟩
    · rename_i h
      have hx : x.fm = true := by simpa using h
      rw [hx]
      exact round_take (o := fun st pd => .loop st pd [(4, .op 1 0), (5, .op 2 0)] N.n fn #[12] cas bd) 4 (by simp) (by simp [scO, scL, sc]) rfl ⟨rfl, rfl⟩
  have h86 := c86 (st := st) (K := 4) (id := 3) (f := fun _ x => (x.fm, !x.fm)) (live := fun b => b = false) (fun _ => rfl) (by omega) (fun b => by cases b <;> simp [st, scO, sc, scL]) (fun b x hb hx => by simpa using hx)
    (fun b x hb => by subst hb; exact hY x) e false rfl
  rw [walk_formed, cs_fs] at h86
  refine ⟨_, h86, ?_⟩
  rintro r _ rfl
  cases hf : e.formed with
  | false =>
    refine ⟨.done, some .ret, [(4, .op 1 0), (5, .op 2 0)], rfl, by simp, [(4, .op 1 0), (5, .op 2 0)], (st true).set 3 .lost, Ent.fr (by simp [FrSub, Go.Al.get]), ?_⟩
    simp only [lA, ptrCells, ptrAdd, isNil, readsV, readsP, isCall, wrote, srcOf, seval, st, ti3, ti33]
    refine keep0_i ?_
    simp only [lP, seval]
    simp [chk, hc, if_neg h, hf]
  | true =>
    have h4 := h3 hf
    refine ⟨.ready, none, [(4, .op 1 0), (5, .op 2 0)], rfl, by simp, [(0, ksV ks), (3, .op 0 0), (4, .op 1 0), (5, .op 2 0)], (st false).set 3 .lost, Ent.fr (by simp [FrSub, Go.Al.get]), ?_⟩
    simp only [lA, ptrCells, ptrAdd, isNil, readsV, readsP, isCall, wrote, srcOf, seval, st, ti3, ti33]
    repeat' (first
     | (with_reducible apply St.o; constructor) <;> intro _
     | with_reducible first | refine LenR_i fun _ => ?_ | refine And.intro (by omega) ?_ | (apply Sp.o; constructor) | refine frz0_i ?_
     | ((with_reducible apply Sc.o true; constructor); simp only [lP, seval, ti3, ti33]; refine ⟨_, h4, ?_⟩; rintro _ _ ⟨rfl, rfl⟩; simp only [lA, lP, ptrCells, ptrAdd, isNil, readsV, readsP, isCall, wrote, srcOf, seval, ti3, ti33])
     | ((with_reducible refine keep0_i ?_); simp only [lP, seval])
     | simp (maxSteps := 1000000) (disch := omega) only [lE, ptrCells, ptrAdd, isNil, readsV, readsP, isCall, wrote, srcOf, seval, ti3, ti33])
    simp [chk, hc, if_neg h, hf]
theorem c12 (ks : List Int) (e : EX) : ACalls E.P 12 [ksV ks, e.av] [] (fun r H => r = .bool (decide ((chk ks e).2 = 0)) ∧ H = []) := by
  have h1 := c38 ks e
  simp only [av_fs] at h1
  refine ok12.acalls hE hm (by simp) fun N hN => ?_
  unfold mc12
  simp only [lA, ptrCells, ptrAdd, isNil, readsV, readsP, isCall, wrote, srcOf, seval, av_fs]
  repeat' (first
   | (with_reducible apply St.o; constructor) <;> intro _
   | with_reducible first | refine LenR_i fun _ => ?_ | refine And.intro (by omega) ?_ | (apply Sp.o; constructor) | refine frz0_i ?_
   | ((with_reducible apply Sc.o true; constructor); simp only [lP, seval]; refine ⟨_, h1, ?_⟩; rintro _ _ ⟨rfl, rfl⟩; simp only [lA, lP, ptrCells, ptrAdd, isNil, readsV, readsP, isCall, wrote, srcOf, seval])
   | ((with_reducible refine keep0_i ?_); simp only [lP, seval])
   | simp (maxSteps := 1000000) (disch := omega) only [lE, ptrCells, ptrAdd, isNil, readsV, readsP, isCall, wrote, srcOf, seval])
end Go.Proofs.Try
