/-
  A part of the proof: see the text of the law.
-/
import Derived.Test.YtjiijjfpmaligaaDoorFirst
set_option linter.unusedSimpArgs false
set_option linter.unusedVariables false
namespace Go.Proofs.Try
open Go.Al
set_option linter.unusedVariables false
set_option linter.unusedSimpArgs false
set_option maxRecDepth 20000

instance : Inhabited VL := ⟨⟨0, 0, ⟨#[]⟩⟩⟩
abbrev VL.cs (v : VL) : List AV := [.int .i64 v.k, .int .i64 v.n, .str v.s]
theorem vl_cells (v : VL) : cellsO v.av = some v.cs := rfl
theorem vl_av (v : VL) : v.av = .agg v.cs := rfl
theorem vw_vl {H : List AObj} {l : List Nat} {n : Nat} (v : VL) : vw H l (n + 1) v.av = v.av := by simp [VL.av, vw_agg, vw_int, vw_str]
theorem pa_vl {H : List AObj} {l : List Nat} {bor : Bool} {n : Nat} (v : VL) : pa H l bor (n + 1) v.av = v.av := by simp [VL.av, pa_agg, pa_int, pa_str]
theorem vw_vls {H : List AObj} {l : List Nat} {n : Nat} {xs : List VL} : (xs.map VL.av).map (vw H l (n + 1)) = xs.map VL.av := map_same vw_vl xs
theorem pa_vls {H : List AObj} {l : List Nat} {bor : Bool} {n : Nat} {xs : List VL} : (xs.map VL.av).map (pa H l bor (n + 1)) = xs.map VL.av := map_same pa_vl xs
theorem IdxR_vls {P : Program} {m : Nat} {N : FN} {xs : List VL} {n : Int} {d : Nat} {c : Kn} (h0 : 0 ≤ n) (h1 : n < xs.length) : IdxR P m N (xs.map VL.av) n d c = rK P m N c d (.vp (xs.getD n.toNat default).cs) :=
  IdxR_map (cs := VL.cs) (fun _ => rfl) h0 h1

theorem any_take {α : Type} {p : α → Bool} {l : List α} {i : Nat} (h : i < l.length) (d : α) (h1 : (l.take i).any p = false) (h2 : p (l.getD i d) = false) : (l.take (i + 1)).any p = false := by
  rw [List.take_succ_eq_append_getElem h, List.any_append, h1]
  simpa [h] using h2
theorem any_at {α : Type} {p : α → Bool} {l : List α} {i : Nat} (h : i < l.length) (d : α) (h2 : p (l.getD i d) = true) : l.any p = true := by
  rw [List.any_eq_true]
  exact ⟨l[i], by simp, by simpa [h] using h2⟩

/-- An index: not negative, if there is one. -/
theorem c124 (l : List VL) (f : FuncId) (p : VL → Bool) (hp : ∀ v : VL, ACalls E.P f [v.av] [] (fun r H => r = .bool (p v) ∧ H = [])) :
    ACalls E.P 124 [.view 3 (l.map VL.av), .fn (.func f) [] []] [] (fun r H => (∃ n : Int, r = .int .i64 n ∧ (0 ≤ n ↔ l.any p = true)) ∧ H = []) := by
  have hmax := maxLen_eq
  refine ok124.acalls hE hm (by simp) fun N hN => ?_
  unfold mc124
  simp only [lA, ptrCells, ptrAdd, isNil, readsV, readsP, isCall, wrote, srcOf, seval]
  refine LenR_i fun hl => ?_
  rw [List.length_map, hmax] at hl
  simp only [lA, ptrCells, ptrAdd, isNil, readsV, readsP, isCall, wrote, srcOf, seval, List.length_map]
  refine loop_i (fun i : Nat => i ≤ l.length ∧ (l.take i).any p = false) (fun i => ⟨[(0, .view 3 (l.map VL.av)), (1, .fn (.func f) [] []), (7, .int .i64 l.length), (8, .int .i64 i)], []⟩) (fun i => l.length - i) 0 ⟨by omega, by simp⟩ (Ent.to [] false (by simp) (by simp) rfl (by simp only [lP, seval] <;> (try simp) <;> (try omega)) (by simp only [lP, seval] <;> (try simp) <;> (try omega))) ?_
  rintro i ⟨hi, ha⟩
  have hpi := hp (l.getD i default)
  simp only [vl_av] at hpi
  repeat' (first
   | (with_reducible apply St.o; constructor) <;> intro _
   | with_reducible first | refine LenR_i fun _ => ?_ | refine And.intro (by omega) ?_ | (apply Sp.o; constructor) | refine frz0_i ?_
   | ((with_reducible apply Sc.o true; constructor); simp only [lP, seval, IdxR_vls, Int.toNat_natCast]; refine ⟨_, hpi, ?_⟩; rintro _ _ ⟨rfl, rfl⟩; simp only [lA, lP, ptrCells, ptrAdd, isNil, readsV, readsP, isCall, wrote, srcOf, seval, IdxR_vls, Int.toNat_natCast])
   | ((with_reducible refine keep0_i ?_); simp only [lP, seval])
   | simp (maxSteps := 1000000) (disch := omega) only [lE, ptrCells, ptrAdd, isNil, readsV, readsP, isCall, wrote, srcOf, seval, IdxR_vls, Int.toNat_natCast])
  · rename_i h1 h2
    exact ⟨i, rfl, by have := any_at (p := p) (l := l) (i := i) (by omega) default h2; simp only [this, iff_true]; omega⟩
  · rename_i h1 h2
    exact back_i (i + 1) ⟨by omega, any_take (by omega) default ha (by simpa using h2)⟩ (by omega) (Ent.to [] false (by simp) (by simp) rfl (by simp only [lP, seval] <;> (try simp) <;> (try omega)) (by simp only [lP, seval] <;> (try simp) <;> (try omega)))
  · rename_i h1
    refine ⟨-1, rfl, ?_⟩
    rw [List.take_of_length_le (by omega)] at ha
    simp [ha]
theorem c106 (l : List VL) (f : FuncId) (p : VL → Bool) (hp : ∀ v : VL, ACalls E.P f [v.av] [] (fun r H => r = .bool (p v) ∧ H = [])) :
    ACalls E.P 106 [.view 3 (l.map VL.av), .fn (.func f) [] []] [] (fun r H => r = .bool (l.any p) ∧ H = []) := by
  have h124 := c124 l f p hp
  refine ok106.acalls hE hm (by simp) fun N hN => ?_
  unfold mc106
  simp only [lA, ptrCells, ptrAdd, isNil, readsV, readsP, isCall, wrote, srcOf, seval]
  repeat' (first
   | (with_reducible apply St.o; constructor) <;> intro _
   | with_reducible first | refine LenR_i fun _ => ?_ | refine And.intro (by omega) ?_ | (apply Sp.o; constructor) | refine frz0_i ?_
   | ((with_reducible apply Sc.o true; constructor); simp only [lP, seval]; refine ⟨_, h124, ?_⟩; rintro _ _ ⟨⟨n, rfl, hn⟩, rfl⟩; simp only [lA, lP, ptrCells, ptrAdd, isNil, readsV, readsP, isCall, wrote, srcOf, seval])
   | ((with_reducible refine keep0_i ?_); simp only [lP, seval])
   | simp (maxSteps := 1000000) (disch := omega) only [lE, ptrCells, ptrAdd, isNil, readsV, readsP, isCall, wrote, srcOf, seval])
  simp only [ge_iff_le, hn, Bool.decide_eq_true]
theorem c81 (l : List VL) : ACalls E.P 81 [.view 3 (l.map VL.av)] [] (fun r H => r = .bool (l.all VL.logical) ∧ H = []) := by
  have h106 := c106 l 107 (fun v => !v.logical) c107
  refine ok81.acalls hE hm (by simp) fun N hN => ?_
  unfold mc81
  simp only [lA, ptrCells, ptrAdd, isNil, readsV, readsP, isCall, wrote, srcOf, seval]
  repeat' (first
   | (with_reducible apply St.o; constructor) <;> intro _
   | with_reducible first | refine LenR_i fun _ => ?_ | refine And.intro (by omega) ?_ | (apply Sp.o; constructor) | refine frz0_i ?_
   | ((with_reducible apply Sc.o true; constructor); simp only [lP, seval]; refine ⟨_, h106, ?_⟩; rintro _ _ ⟨rfl, rfl⟩; simp only [lA, lP, ptrCells, ptrAdd, isNil, readsV, readsP, isCall, wrote, srcOf, seval])
   | ((with_reducible refine keep0_i ?_); simp only [lP, seval])
   | simp (maxSteps := 1000000) (disch := omega) only [lE, ptrCells, ptrAdd, isNil, readsV, readsP, isCall, wrote, srcOf, seval])
  simp [List.any_eq_not_all_not]

def VL.same (a b : VL) : Bool := decide (a.k = b.k ∧ a.n = b.n ∧ a.s = b.s)
theorem VL.same_iff {a b : VL} : a.same b = true ↔ a = b := by
  obtain ⟨_, _, _⟩ := a; obtain ⟨_, _, _⟩ := b
  simp [VL.same]
theorem c123 (l : List VL) (x : VL) : ACalls E.P 123 [.view 3 (l.map VL.av), x.av] [] (fun r H => (∃ n : Int, r = .int .i64 n ∧ (0 ≤ n ↔ l.any x.same = true)) ∧ H = []) := by
  have hmax := maxLen_eq
  obtain ⟨kx, nx, sx⟩ := x
  refine ok123.acalls hE hm (by simp) fun N hN => ?_
  unfold mc123
  simp only [lA, ptrCells, ptrAdd, isNil, readsV, readsP, isCall, wrote, srcOf, seval, VL.av]
  refine LenR_i fun hl => ?_
  rw [List.length_map, hmax] at hl
  simp only [lA, ptrCells, ptrAdd, isNil, readsV, readsP, isCall, wrote, srcOf, seval, List.length_map]
  refine loop_i (fun i : Nat => i ≤ l.length ∧ (l.take i).any (VL.same ⟨kx, nx, sx⟩) = false) (fun i => ⟨[(0, .view 3 (l.map VL.av)), (3, .op 0 0), (7, .int .i64 l.length), (8, .int .i64 i)], [.box [.int .i64 kx, .int .i64 nx, .str sx]]⟩) (fun i => l.length - i) 0 ⟨by omega, by simp⟩ (Ent.to [0] false (by simp) (by simp) rfl (by simp only [lP, seval] <;> (try simp) <;> (try omega)) (by simp only [lP, seval] <;> (try simp) <;> (try omega))) ?_
  rintro i ⟨hi, ha⟩
  simp only [← VL.av.eq_1] at *
  repeat' (first
   | (with_reducible apply St.o; constructor) <;> intro _
   | with_reducible first | refine LenR_i fun _ => ?_ | refine And.intro (by omega) ?_ | (apply Sp.o; constructor) | refine frz0_i ?_
   | ((with_reducible refine keep0_i ?_); simp only [lP, seval])
   | simp (maxSteps := 1000000) (disch := omega) only [lE, ptrCells, ptrAdd, isNil, readsV, readsP, isCall, wrote, srcOf, seval, IdxR_vls, Int.toNat_natCast, strA, flatEq])
  · rename_i h1 h2
    refine ⟨i, rfl, ?_⟩
    have := any_at (p := VL.same ⟨kx, nx, sx⟩) (l := l) (i := i) (by omega) default (by simpa [VL.same] using h2)
    simp [this]
  · rename_i h1 h2
    exact back_i (i + 1) ⟨by omega, any_take (by omega) default ha (by simpa [VL.same] using h2)⟩ (by omega) (Ent.to [0] false (by simp) (by simp) rfl (by simp only [lP, seval] <;> (try simp) <;> (try omega)) (by simp only [lP, seval] <;> (try simp) <;> (try omega)))
  · rename_i h1
    refine ⟨-1, rfl, ?_⟩
    rw [List.take_of_length_le (by omega)] at ha
    simp [ha]
end Go.Proofs.Try

namespace Go.Proofs.Try
open Go.Al
set_option linter.unusedVariables false
set_option linter.unusedSimpArgs false
set_option maxRecDepth 20000

theorem c105 (l : List VL) (x : VL) : ACalls E.P 105 [.view 3 (l.map VL.av), x.av] [] (fun r H => r = .bool (l.any x.same) ∧ H = []) := by
  have h := c123 l x
  obtain ⟨kx, nx, sx⟩ := x
  refine ok105.acalls hE hm (by simp) fun N hN => ?_
  unfold mc105
  simp only [lA, ptrCells, ptrAdd, isNil, readsV, readsP, isCall, wrote, srcOf, seval, VL.av]
  simp only [VL.av] at h
  repeat' (first
   | (with_reducible apply St.o; constructor) <;> intro _
   | with_reducible first | refine LenR_i fun _ => ?_ | refine And.intro (by omega) ?_ | (apply Sp.o; constructor) | refine frz0_i ?_
   | ((with_reducible apply Sc.o true; constructor); simp only [lP, seval]; refine ⟨_, h, ?_⟩; rintro _ _ ⟨⟨n, rfl, hn⟩, rfl⟩; simp only [lA, lP, ptrCells, ptrAdd, isNil, readsV, readsP, isCall, wrote, srcOf, seval])
   | ((with_reducible refine keep0_i ?_); simp only [lP, seval])
   | simp (maxSteps := 1000000) (disch := omega) only [lE, ptrCells, ptrAdd, isNil, readsV, readsP, isCall, wrote, srcOf, seval])
  simp only [ge_iff_le, hn, Bool.decide_eq_true]
def VL.decP (strong : Bool) (l : List VL) : VL × Int :=
  if (!l.all VL.logical) = true then (VL.null, 7) else if l.any (VL.ofB strong).same = true then (VL.ofB strong, 0) else if l.any VL.null.same = true then (VL.null, 0) else (VL.ofB (!strong), 0)
theorem c80 (strong : Bool) (l : List VL) : ACalls E.P 80 [.bool strong, .view 3 (l.map VL.av)] [] (fun r H => r = .tup [(VL.decP strong l).1.av, .int .i64 (VL.decP strong l).2] ∧ H = []) := by
  have h1 := c81 l
  have h2 := c105 l (VL.ofB strong)
  have h3 := c105 l VL.null
  rw [show VL.null.av = .agg [.int .i64 0, .int .i64 0, .str ⟨#[]⟩] from rfl] at h3
  have h4 := c82 strong
  have h5 := c82 (!strong)
  have hx : ∀ b, (VL.ofB b).av = .agg (VL.ofB b).cs := fun _ => rfl
  simp only [hx] at h2 h4 h5
  simp only [VL.decP]
  generalize l.all VL.logical = p1 at *
  generalize l.any (VL.ofB strong).same = p2 at *
  generalize l.any VL.null.same = p3 at *
  simp only [VL.null] at h3 ⊢
  refine ok80.acalls hE hm (by simp) fun N hN => ?_
  unfold mc80
  simp only [lA, ptrCells, ptrAdd, isNil, readsV, readsP, isCall, wrote, srcOf, seval, ti24]
  repeat' (first
   | (with_reducible apply St.o; constructor) <;> intro _
   | with_reducible first | refine LenR_i fun _ => ?_ | refine And.intro (by omega) ?_ | (apply Sp.o; constructor) | refine frz0_i ?_
   | ((with_reducible apply Sc.o true; constructor); simp only [lP, seval, ti24]; (first | refine ⟨_, h1, ?_⟩ | refine ⟨_, h2, ?_⟩ | refine ⟨_, h3, ?_⟩ | refine ⟨_, h4, ?_⟩ | refine ⟨_, h5, ?_⟩); rintro _ _ ⟨rfl, rfl⟩; simp only [lA, lP, ptrCells, ptrAdd, isNil, readsV, readsP, isCall, wrote, srcOf, seval, ti24])
   | ((with_reducible refine keep0_i ?_); simp only [lP, seval])
   | simp (maxSteps := 1000000) (disch := omega) only [lE, ptrCells, ptrAdd, isNil, readsV, readsP, isCall, wrote, srcOf, seval, ti24])
  all_goals clear h1 h2 h3 h4 h5
  all_goals (simp_all; rfl)
theorem c49' (a b : VL) : ACalls E.P 49 [a.av, b.av] [] (fun r H => r = .tup [(VL.decP false [a, b]).1.av, .int .i64 (VL.decP false [a, b]).2] ∧ H = []) := by
  have h1 := c80 false [a, b]
  have hx : ∀ b, VL.av b = .agg b.cs := fun _ => rfl
  generalize VL.decP false [a, b] = r at *
  obtain ⟨r1, r2⟩ := r
  simp only [List.map_cons, List.map_nil, hx] at h1 ⊢
  refine ok49.acalls hE hm (by simp) fun N hN => ?_
  unfold mc49
  simp only [lA, ptrCells, ptrAdd, isNil, readsV, readsP, isCall, wrote, srcOf, seval]
  repeat' (first
   | (with_reducible apply St.o; constructor) <;> intro _
   | with_reducible first | refine LenR_i fun _ => ?_ | refine And.intro (by omega) ?_ | (apply Sp.o; constructor) | refine frz0_i ?_
   | ((with_reducible apply Sc.o true; constructor); simp only [lP, seval, ti24]; refine ⟨_, h1, ?_⟩; rintro _ _ ⟨rfl, rfl⟩; simp only [lA, lP, ptrCells, ptrAdd, isNil, readsV, readsP, isCall, wrote, srcOf, seval, ti24])
   | ((with_reducible refine keep0_i ?_); simp only [lP, seval])
   | simp (maxSteps := 1000000) (disch := omega) only [lE, ptrCells, ptrAdd, isNil, readsV, readsP, isCall, wrote, srcOf, seval, ti24])
theorem c50' (a b : VL) : ACalls E.P 50 [a.av, b.av] [] (fun r H => r = .tup [(VL.decP true [a, b]).1.av, .int .i64 (VL.decP true [a, b]).2] ∧ H = []) := by
  have h1 := c80 true [a, b]
  have hx : ∀ b, VL.av b = .agg b.cs := fun _ => rfl
  generalize VL.decP true [a, b] = r at *
  obtain ⟨r1, r2⟩ := r
  simp only [List.map_cons, List.map_nil, hx] at h1 ⊢
  refine ok50.acalls hE hm (by simp) fun N hN => ?_
  unfold mc50
  simp only [lA, ptrCells, ptrAdd, isNil, readsV, readsP, isCall, wrote, srcOf, seval]
  repeat' (first
   | (with_reducible apply St.o; constructor) <;> intro _
   | with_reducible first | refine LenR_i fun _ => ?_ | refine And.intro (by omega) ?_ | (apply Sp.o; constructor) | refine frz0_i ?_
   | ((with_reducible apply Sc.o true; constructor); simp only [lP, seval, ti24]; refine ⟨_, h1, ?_⟩; rintro _ _ ⟨rfl, rfl⟩; simp only [lA, lP, ptrCells, ptrAdd, isNil, readsV, readsP, isCall, wrote, srcOf, seval, ti24])
   | ((with_reducible refine keep0_i ?_); simp only [lP, seval])
   | simp (maxSteps := 1000000) (disch := omega) only [lE, ptrCells, ptrAdd, isNil, readsV, readsP, isCall, wrote, srcOf, seval, ti24])
theorem right_null {a : VL} (h : a.Right) : a.k = 0 ↔ VL.null.same a = true := by
  rw [VL.same_iff]
  obtain ⟨k, n, s⟩ := a
  simp only [VL.Right, VL.null, VL.mk.injEq] at *
  constructor
  · intro hk
    rcases h with ⟨_, h1, h2⟩ | ⟨h, _⟩ | ⟨h, _⟩ | ⟨h, _⟩
    · simp [hk, h1, h2]
    all_goals omega
  · rintro ⟨rfl, _, _⟩; rfl
theorem dec_eq {strong : Bool} {a b : VL} (ha : a.Right) (hb : b.Right) : VL.decP strong [a, b] = VL.dec strong a b := by
  have e1 := right_null ha
  have e2 := right_null hb
  have e3 : ∀ v : VL, (VL.ofB strong).same v = v.is strong := fun v => by
    simp only [VL.same, VL.is, VL.ofB]; congr 1; apply propext; constructor <;> rintro ⟨h1, h2, h3⟩ <;> exact ⟨h1.symm, h2.symm, h3.symm⟩
  unfold VL.decP VL.dec
  simp only [List.all_cons, List.all_nil, Bool.and_true, List.any_cons, List.any_nil, Bool.or_false, e3, Bool.not_and, e1, e2, Bool.or_eq_true]
theorem c49 {a b : VL} (ha : a.Right) (hb : b.Right) : ACalls E.P 49 [a.av, b.av] [] (fun r H => r = .tup [(VL.dec false a b).1.av, .int .i64 (VL.dec false a b).2] ∧ H = []) := by
  rw [← dec_eq ha hb]; exact c49' a b
theorem c50 {a b : VL} (ha : a.Right) (hb : b.Right) : ACalls E.P 50 [a.av, b.av] [] (fun r H => r = .tup [(VL.dec true a b).1.av, .int .i64 (VL.dec true a b).2] ∧ H = []) := by
  rw [← dec_eq ha hb]; exact c50' a b
theorem c51 {a : VL} (ha : a.Right) : ACalls E.P 51 [a.av] [] (fun r H => r = .tup [a.not19.1.av, .int .i64 a.not19.2] ∧ H = []) := by
  have h1 := c81 [a]
  have hx : ∀ b, VL.av b = .agg b.cs := fun _ => rfl
  simp only [List.map_cons, List.map_nil, hx] at h1 ⊢
  obtain ⟨k, n, s⟩ := a
  refine ok51.acalls hE hm (by simp) fun N hN => ?_
  unfold mc51
  simp only [lA, ptrCells, ptrAdd, isNil, readsV, readsP, isCall, wrote, srcOf, seval]
  repeat' (first
   | (with_reducible apply St.o; constructor) <;> intro _
   | with_reducible first | refine LenR_i fun _ => ?_ | refine And.intro (by omega) ?_ | (apply Sp.o; constructor) | refine frz0_i ?_
   | ((with_reducible apply Sc.o true; constructor); simp only [lP, seval, ti24]; refine ⟨_, h1, ?_⟩; rintro _ _ ⟨rfl, rfl⟩; simp only [lA, lP, ptrCells, ptrAdd, isNil, readsV, readsP, isCall, wrote, srcOf, seval, ti24])
   | ((with_reducible refine keep0_i ?_); simp only [lP, seval])
   | simp (maxSteps := 1000000) (disch := omega) only [lE, ptrCells, ptrAdd, isNil, readsV, readsP, isCall, wrote, srcOf, seval, ti24])
  all_goals clear h1
  all_goals (simp only [VL.not19, VL.null, VL.ofB, VL.Right, VL.logical] at *; simp_all)
  rcases ha with ⟨h, _⟩ | ⟨h, _⟩ | ha | ⟨h1, h2, h3⟩ <;> rfl
theorem c54 (op : Int) (a b : VL) : ACalls E.P 54 [.int .i64 op, a.av, b.av] [] (fun r H => r = .tup [(VL.test VL.cmp op a b).1.av, .int .i64 (VL.test VL.cmp op a b).2] ∧ H = []) := by
  have h1 := c66 a b
  have h3 : ∀ b : Bool, ACalls E.P 82 [.bool b] [] (fun r H => r = .agg [.int .i64 3, .int .i64 (if b then 1 else 0), .str ⟨#[]⟩] ∧ H = []) := c82
  generalize hc : a.cmp b = c at h1
  obtain ⟨ka, na, sa⟩ := a
  obtain ⟨kb, nb, sb⟩ := b
  refine ok54.acalls hE hm (by simp) fun N hN => ?_
  unfold mc54
  simp only [lA, ptrCells, ptrAdd, isNil, readsV, readsP, isCall, wrote, srcOf, seval, VL.av]
  repeat' (first
   | (with_reducible apply St.o; constructor) <;> intro _
   | with_reducible first | refine LenR_i fun _ => ?_ | refine And.intro (by omega) ?_ | (apply Sp.o; constructor) | refine frz0_i ?_
   | ((with_reducible apply Sc.o true; constructor); simp only [lP, seval, ti24, strA, VL.ofB, flatEq]; (first | refine ⟨_, h1, ?_⟩ | refine ⟨_, h3 _, ?_⟩); rintro _ _ ⟨rfl, rfl⟩; simp only [lA, lP, ptrCells, ptrAdd, isNil, readsV, readsP, isCall, wrote, srcOf, seval, ti24, strA, VL.ofB, flatEq])
   | ((with_reducible refine keep0_i ?_); simp only [lP, seval])
   | simp (maxSteps := 1000000) (disch := omega) only [lE, ptrCells, ptrAdd, isNil, readsV, readsP, isCall, wrote, srcOf, seval, ti24, strA, VL.ofB, flatEq])
  all_goals clear h1 h3
  all_goals (simp only [VL.test, VL.null, VL.ofB, tst] at *; simp_all)
  all_goals (try rw [if_neg (by omega)])
  all_goals (try simp)
  all_goals (obtain rfl : op = 10 := by omega)
  all_goals simp
end Go.Proofs.Try
