/-
  A part of the proof: see the text of the law.
-/
import Derived.Test.YtjiijjfpmaligaaDoorCai
set_option linter.unusedSimpArgs false
set_option linter.unusedVariables false
namespace Go.Proofs.Try
open Go.Al
set_option linter.unusedVariables false
set_option linter.unusedSimpArgs false
set_option maxRecDepth 20000
set_option maxHeartbeats 8000000

abbrev rowV (r : List VL) : AV := .view 3 (r.map VL.av)
def prV (x : VL × Int) : AV := x.1.av
theorem vw_prV {H : List AObj} {l : List Nat} {n : Nat} {xs : List (VL × Int)} : (xs.map prV).map (vw H l (n + 1)) = xs.map prV := map_same (fun x => vw_vl x.1) xs
theorem pa_prV {H : List AObj} {l : List Nat} {bor : Bool} {n : Nat} {xs : List (VL × Int)} : (xs.map prV).map (pa H l bor (n + 1)) = xs.map prV := map_same (fun x => pa_vl x.1) xs

theorem cmpBytes : ∀ a b : List UInt8, Lib.compareBytes a b = if Op.bytesLess a b = true then -1 else if a = b then 0 else 1
  | [], [] => by simp [Lib.compareBytes, Op.bytesLess]
  | [], _ :: _ => by simp [Lib.compareBytes, Op.bytesLess]
  | _ :: _, [] => by simp [Lib.compareBytes, Op.bytesLess]
  | a :: x, b :: y => by
    rw [Lib.compareBytes, cmpBytes x y]
    simp only [Op.bytesLess, Bool.or_eq_true, decide_eq_true_eq, Bool.and_eq_true, beq_iff_eq, List.cons.injEq]
    by_cases h1 : a < b
    · simp [h1]
    · by_cases h2 : b < a
      · have h3 : a ≠ b := fun h => by subst h; exact h1 h2
        simp [h1, h2, h3]
      · have h3 : a = b := UInt8.le_antisymm (UInt8.not_lt.1 h2) (UInt8.not_lt.1 h1)
        subst h3
        simp
theorem toL (s : ByteArray) : s.toList = s.data.toList := ByteArray.toList_eq s
theorem VL.cmp_eq {a b : VL} (ha : a.Right) (hb : b.Right) (hk : a.k = b.k) : a.cmp b = a.cmp19 b := by
  obtain ⟨ka, na, sa⟩ := a
  obtain ⟨kb, nb, sb⟩ := b
  simp only at hk
  subst hk
  have hs : (sa.data.toList = sb.data.toList) ↔ sa = sb := by
    obtain ⟨⟨la⟩⟩ := sa; obtain ⟨⟨lb⟩⟩ := sb; simp
  simp only [VL.cmp, VL.cmp19, orI, cmpBytes, toL, ne_eq, not_true_eq_false, if_false]
  simp only [VL.Right] at ha hb
  have h0 : sgn ka ka = 0 := by simp [sgn]
  have h1 : sgn na nb = 0 ∨ sa = sb := by
    rcases ha with ⟨_, h1, h2⟩ | ⟨_, _, _, h2⟩ | ⟨_, h1, _⟩ | ⟨_, _, h2⟩ <;> rcases hb with ⟨_, h3, h4⟩ | ⟨_, _, _, h4⟩ | ⟨_, h3, _⟩ | ⟨_, _, h4⟩ <;> first | omega | (right; rw [h2, h4]) | (left; rw [h1, h3]; simp [sgn])
  rw [h0]
  simp only [if_true, hs]
  rcases h1 with h1 | h1
  · rw [h1]
    simp only [if_true]
    by_cases h2 : Op.bytesLess sa.data.toList sb.data.toList = true <;> by_cases h3 : sa = sb <;> simp [h2, h3]
  · subst h1
    have h2 : Op.bytesLess sa.data.toList sa.data.toList = false := by
      have : ∀ l : List UInt8, Op.bytesLess l l = false := fun l => by
        induction l with
        | nil => rfl
        | cons x l ih => simp [Op.bytesLess, ih]
      exact this _
    simp only [h2, decide_true, Bool.or_true, Bool.not_true, Bool.false_eq_true, if_false, if_true]
    split <;> simp_all
theorem test_eq {op : Int} {a b : VL} (ha : a.Right) (hb : b.Right) : VL.test VL.cmp op a b = VL.test VL.cmp19 op a b := by
  unfold VL.test
  by_cases h : a.k = b.k
  · rw [VL.cmp_eq ha hb h]
  · simp [h]

/-- The value of a node, from those of its arguments. -/
def eN (r : List VL) (op n : Int) (v : VL) (l : List VL) : VL × Int :=
  if op = 1 then (r.getD n.toNat default, 0) else if op = 2 then (v, 0)
  else if op = 12 then VL.dec false (l.getD 0 default) (l.getD 1 default)
  else if op = 13 then VL.dec true (l.getD 0 default) (l.getD 1 default)
  else if op = 14 then (l.getD 0 default).not19
  else if op = 15 then (VL.ofB (decide ((l.getD 0 default).k = 0)), 0)
  else if cmpB op = true then VL.test VL.cmp19 op (l.getD 0 default) (l.getD 1 default)
  else if (l.getD 0 default).k = 0 ∨ (l.getD 1 default).k = 0 then (VL.null, 0)
  else if (ariR op (l.getD 0 default).n (l.getD 1 default).n).2 = 0 then (⟨1, (ariR op (l.getD 0 default).n (l.getD 1 default).n).1, ⟨#[]⟩⟩, 0)
  else (VL.null, 360)
def enode (r : List VL) (e : EX) (rs : List (VL × Int)) : VL × Int := if ferr rs = 0 then eN r e.op e.n e.val (rs.map (·.1)) else (VL.null, ferr rs)
theorem right_small {v : VL} (h : v.Right) : small v.n := by
  simp only [VL.Right, small] at *; omega

abbrev opK : List AV := [.int .i64 3, .int .i64 4, .int .i64 5]
abbrev opF : List AV := [.fn (.func 147) [] [], .fn (.func 149) [] [], .fn (.func 150) [] []]
theorem look3 : Al.look (.int .i64) (.raw .nilFunc) opK opF (.int .i64 3) = some (.fn (.func 147) [] [], true) := rfl
theorem look4 : Al.look (.int .i64) (.raw .nilFunc) opK opF (.int .i64 4) = some (.fn (.func 149) [] [], true) := rfl
theorem look5 : Al.look (.int .i64) (.raw .nilFunc) opK opF (.int .i64 5) = some (.fn (.func 150) [] [], true) := rfl
theorem c14n (r : List VL) (e : EX) (rs : List (VL × Int)) (hlen : rs.length = e.args.length) (har : (e.args.length : Int) = ar e.op) (hcol : e.op = 1 → 0 ≤ e.n ∧ e.n < r.length) (hR : ∀ x ∈ rs, x.1.Right)
    (hrec : ∀ j, j < e.args.length → ACalls E.P 14 [(e.args.getD j default).av, rowV r] [] (fun q H => q = .tup [(rs.getD j default).1.av, .int .i64 (rs.getD j default).2] ∧ H = [])) :
    ACalls E.P 14 [e.av, rowV r] [] (fun q H => q = .tup [(enode r e rs).1.av, .int .i64 (enode r e rs).2] ∧ H = []) := by
  have hmax := maxLen_eq
  have hsh := ar_cases har
  refine ok14.acalls hE hm (by simp) fun N hN => ?_
  unfold mc14
  simp only [lA, ptrCells, ptrAdd, isNil, readsV, readsP, isCall, wrote, srcOf, seval, av_fs]
  refine LenR_i fun hll => ?_
  rw [List.length_map, hmax] at hll
  simp only [lA, ptrCells, ptrAdd, isNil, readsV, readsP, isCall, wrote, srcOf, seval, List.length_map]
  refine loop_i (fun i : Nat => i ≤ e.args.length ∧ ∀ j, j < i → (rs.getD j default).2 = 0) (fun i => ⟨[(1, rowV r), (2, .op 0 0), (4, .op 1 0), (6, .slc 2 3 i), (13, .view 6 (e.args.map EX.av)), (14, .int .i64 e.args.length), (15, .int .i64 i)], [.box e.fs, .box [.int .i64 0, .int .i64 0, .str ⟨#[]⟩], .arr 24 3 ((rs.take i).map prV)]⟩) (fun i => e.args.length - i) 0 ⟨by omega, by omega⟩
    (Ent.ghost' 6 24 3 (by omega) rfl (Ent.to [0,1,2] false (by simp) (by simp) rfl (by simp only [lP, seval, pa_prV] <;> (try simp) <;> (try omega)) (by simp only [lP, seval, pa_prV] <;> (try simp) <;> (try omega)))) ?_
  rintro i ⟨hi, ha⟩
  by_cases hin : i < e.args.length
  · have hrec := hrec i hin
    simp only [av_fs, vl_av] at hrec
    have hlt : ((i : Int) < (e.args.length : Int)) := by omega
    have hl : (rs.take i).length = i := by simp; omega
    repeat' (first
     | (with_reducible apply St.o; constructor) <;> intro _
     | with_reducible first | refine LenR_i fun _ => ?_ | refine And.intro (by omega) ?_ | (apply Sp.o; constructor) | refine frz0_i ?_
     | ((with_reducible apply Sc.o true; constructor); simp only [lP, seval, IdxR_exs, Int.toNat_natCast, List.length_map, pa_prV, vw_prV, hlt, decide_true, ti24]; refine ⟨_, hrec, ?_⟩; rintro _ _ ⟨rfl, rfl⟩; simp only [lA, lP, ptrCells, ptrAdd, isNil, readsV, readsP, isCall, wrote, srcOf, seval, IdxR_exs, Int.toNat_natCast, List.length_map, pa_prV, vw_prV, hlt, decide_true, ti24])
     | ((with_reducible refine keep0_i ?_); simp only [lP, seval])
     | simp (maxSteps := 1000000) (disch := omega) only [lE, ptrCells, ptrAdd, isNil, readsV, readsP, isCall, wrote, srcOf, seval, IdxR_exs, Int.toNat_natCast, List.length_map, pa_prV, vw_prV, hlt, decide_true, ti24])
    · rename_i h2
      have := ferr_at (l := rs) ha (by omega) h2
      simp only [enode, this, if_neg h2]
      rfl
    · rename_i h2
      refine back_i (i + 1) ⟨by omega, fun j hj => ?_⟩ (by omega) ?_
      · by_cases hji : j < i
        · exact ha j hji
        · obtain rfl : j = i := by omega
          exact h2
      · have ht : (rs.take (i + 1)).map prV = (rs.take i).map prV ++ [(rs.getD i default).1.av] := by
          rw [List.take_succ_eq_append_getElem (show i < rs.length by omega), List.map_append]
          simp [prV, show i < rs.length by omega]
        rw [ht, vl_av]
        exact (Ent.to [0,1,6] false (by simp) (by simp) rfl (by simp only [lP, seval, pa_prV, hl, List.map_append] <;> (try simp) <;> (try omega)) (by simp only [lP, seval, pa_prV, hl, List.map_append] <;> (try simp) <;> (try omega)))
  · have hie : i = rs.length := by omega
    subst hie
    have hf : ferr rs = 0 := ferr_none ha
    have hk : enode r e rs = eN r e.op e.n e.val (rs.map (·.1)) := by rw [enode, if_pos hf]
    rw [hk]
    simp only [List.take_length]
    clear hrec hk hf ha
    have hl0 : e.args.length = rs.length := hlen.symm
    rcases hsh with ⟨h0, hop⟩ | ⟨h0, hop⟩ | ⟨h0, hop⟩
    · obtain rfl : rs = [] := List.eq_nil_of_length_eq_zero (by omega)
      rcases hop with hop | hop
      · obtain ⟨hc1, hc2⟩ := hcol hop
        repeat' (first
         | (with_reducible apply St.o; constructor) <;> intro _
         | with_reducible first | refine LenR_i fun _ => ?_ | refine And.intro (by omega) ?_ | (apply Sp.o; constructor) | refine frz0_i ?_
         | ((with_reducible refine keep0_i ?_); simp only [lP, seval])
         | simp (maxSteps := 1000000) (disch := omega) only [lE, ptrCells, ptrAdd, isNil, readsV, readsP, isCall, wrote, srcOf, seval, IdxR_vls, List.length_map, hop, hl0, ti24, Int.lt_irrefl, List.length_nil, List.length_cons, Int.ofNat_zero, decide_false, decide_true])
        all_goals simp [eN, vl_av]
      · repeat' (first
         | (with_reducible apply St.o; constructor) <;> intro _
         | with_reducible first | refine LenR_i fun _ => ?_ | refine And.intro (by omega) ?_ | (apply Sp.o; constructor) | refine frz0_i ?_
         | ((with_reducible refine keep0_i ?_); simp only [lP, seval])
         | simp (maxSteps := 1000000) (disch := omega) only [lE, ptrCells, ptrAdd, isNil, readsV, readsP, isCall, wrote, srcOf, seval, List.length_map, hop, hl0, ti24, Int.lt_irrefl, List.length_nil, List.length_cons, Int.ofNat_zero, decide_false, decide_true])
        all_goals simp [eN, vl_av]
    · obtain ⟨x, rfl⟩ : ∃ x, rs = [x] := by
        rcases rs with _ | ⟨x, _ | ⟨z, t⟩⟩
        · rw [h0] at hl0; simp at hl0
        · exact ⟨x, rfl⟩
        · rw [h0] at hl0; simp at hl0
      obtain ⟨x, x2⟩ := x
      have hx : x.Right := hR (x, x2) (by simp)
      have h51 := c51 hx
      have h52 : ∀ b : Bool, ACalls E.P 52 [.bool b] [] (fun r H => r = .agg [.int .i64 3, .int .i64 (if b then 1 else 0), .str ⟨#[]⟩] ∧ H = []) := c52
      simp only [vl_av] at h51
      simp only [List.length_cons, List.length_nil, List.map_cons, List.map_nil, prV, vl_av]
      rcases hop with hop | hop
      · repeat' (first
         | (with_reducible apply St.o; constructor) <;> intro _
         | with_reducible first | refine LenR_i fun _ => ?_ | refine And.intro (by omega) ?_ | (apply Sp.o; constructor) | refine frz0_i ?_
         | ((with_reducible apply Sc.o true; constructor); simp only [lP, seval, epR_cons, List.length_map, hop, hl0, ti24, Int.lt_irrefl, List.length_nil, List.length_cons, Int.ofNat_zero, decide_false, decide_true]; (first | refine ⟨_, h51, ?_⟩ | refine ⟨_, h52 _, ?_⟩); rintro _ _ ⟨rfl, rfl⟩; simp only [lA, lP, ptrCells, ptrAdd, isNil, readsV, readsP, isCall, wrote, srcOf, seval, epR_cons, List.length_map, hop, hl0, ti24, Int.lt_irrefl, List.length_nil, List.length_cons, Int.ofNat_zero, decide_false, decide_true])
         | ((with_reducible refine keep0_i ?_); simp only [lP, seval])
         | simp (maxSteps := 1000000) (disch := omega) only [lE, ptrCells, ptrAdd, isNil, readsV, readsP, isCall, wrote, srcOf, seval, epR_cons, List.length_map, hop, hl0, ti24, Int.lt_irrefl, List.length_nil, List.length_cons, Int.ofNat_zero, decide_false, decide_true])
        all_goals simp [eN]
      · repeat' (first
         | (with_reducible apply St.o; constructor) <;> intro _
         | with_reducible first | refine LenR_i fun _ => ?_ | refine And.intro (by omega) ?_ | (apply Sp.o; constructor) | refine frz0_i ?_
         | ((with_reducible apply Sc.o true; constructor); simp only [lP, seval, epR_cons, List.length_map, hop, hl0, ti24, Int.lt_irrefl, List.length_nil, List.length_cons, Int.ofNat_zero, decide_false, decide_true]; (first | refine ⟨_, h51, ?_⟩ | refine ⟨_, h52 _, ?_⟩); rintro _ _ ⟨rfl, rfl⟩; simp only [lA, lP, ptrCells, ptrAdd, isNil, readsV, readsP, isCall, wrote, srcOf, seval, epR_cons, List.length_map, hop, hl0, ti24, Int.lt_irrefl, List.length_nil, List.length_cons, Int.ofNat_zero, decide_false, decide_true])
         | ((with_reducible refine keep0_i ?_); simp only [lP, seval])
         | simp (maxSteps := 1000000) (disch := omega) only [lE, ptrCells, ptrAdd, isNil, readsV, readsP, isCall, wrote, srcOf, seval, epR_cons, List.length_map, hop, hl0, ti24, Int.lt_irrefl, List.length_nil, List.length_cons, Int.ofNat_zero, decide_false, decide_true])
        all_goals simp [eN, VL.ofB]
    · obtain ⟨x, y, rfl⟩ : ∃ x y, rs = [x, y] := by
        rcases rs with _ | ⟨x, _ | ⟨y, _ | ⟨z, t⟩⟩⟩
        · rw [h0] at hl0; simp at hl0
        · rw [h0] at hl0; simp at hl0
        · exact ⟨x, y, rfl⟩
        · rw [h0] at hl0; simp at hl0
      obtain ⟨x, x2⟩ := x
      obtain ⟨y, y2⟩ := y
      have hx : x.Right := hR (x, x2) (by simp)
      have hy : y.Right := hR (y, y2) (by simp)
      have sx := right_small hx
      have sy := right_small hy
      have h49 := c49 hx hy
      have h50 := c50 hx hy
      have h53 := c53 e.op
      have h54 := c54 e.op x y
      have h147 := c147 x.n y.n
      have h149 := c149 x.n y.n
      have h150 := c150 x.n y.n sx sy
      simp only [vl_av] at h49 h50 h54
      simp only [List.length_cons, List.length_nil, List.map_cons, List.map_nil, prV, vl_av]
      have hops : e.op = 12 ∨ e.op = 13 ∨ (cmpB e.op = true ∧ e.op ≠ 1 ∧ e.op ≠ 2 ∧ e.op ≠ 12 ∧ e.op ≠ 13 ∧ e.op ≠ 14 ∧ e.op ≠ 15) ∨ e.op = 3 ∨ e.op = 4 ∨ e.op = 5 := by
        simp only [cmpB, decide_eq_true_eq]; omega
      rcases hops with hop | hop | ⟨hop, ho1, ho2, ho3, ho4, ho5, ho6⟩ | hop | hop | hop
      · repeat' (first
         | (with_reducible apply St.o; constructor) <;> intro _
         | with_reducible first | refine LenR_i fun _ => ?_ | refine And.intro (by omega) ?_ | (apply Sp.o; constructor) | refine frz0_i ?_
         | ((with_reducible apply Sc.o true; constructor); simp only [lP, seval, epR_cons, List.length_map, hop, hl0, ti24, Int.lt_irrefl, List.length_nil, List.length_cons, Int.ofNat_zero, decide_false, decide_true]; refine ⟨_, h49, ?_⟩; rintro _ _ ⟨rfl, rfl⟩; simp only [lA, lP, ptrCells, ptrAdd, isNil, readsV, readsP, isCall, wrote, srcOf, seval, epR_cons, List.length_map, hop, hl0, ti24, Int.lt_irrefl, List.length_nil, List.length_cons, Int.ofNat_zero, decide_false, decide_true])
         | ((with_reducible refine keep0_i ?_); simp only [lP, seval])
         | simp (maxSteps := 1000000) (disch := omega) only [lE, ptrCells, ptrAdd, isNil, readsV, readsP, isCall, wrote, srcOf, seval, epR_cons, List.length_map, hop, hl0, ti24, Int.lt_irrefl, List.length_nil, List.length_cons, Int.ofNat_zero, decide_false, decide_true])
        refine any_i [1] ?_
        repeat' (first
         | (with_reducible apply St.o; constructor) <;> intro _
         | with_reducible first | refine LenR_i fun _ => ?_ | refine And.intro (by omega) ?_ | (apply Sp.o; constructor) | refine frz0_i ?_
         | ((with_reducible apply Sc.o true; constructor); simp only [lP, seval, epR_cons, List.length_map, hop, hl0, ti24, Int.lt_irrefl, List.length_nil, List.length_cons, Int.ofNat_zero, decide_false, decide_true]; refine ⟨_, h49, ?_⟩; rintro _ _ ⟨rfl, rfl⟩; simp only [lA, lP, ptrCells, ptrAdd, isNil, readsV, readsP, isCall, wrote, srcOf, seval, epR_cons, List.length_map, hop, hl0, ti24, Int.lt_irrefl, List.length_nil, List.length_cons, Int.ofNat_zero, decide_false, decide_true])
         | ((with_reducible refine keep0_i ?_); simp only [lP, seval])
         | simp (maxSteps := 1000000) (disch := omega) only [lE, ptrCells, ptrAdd, isNil, readsV, readsP, isCall, wrote, srcOf, seval, epR_cons, List.length_map, hop, hl0, ti24, Int.lt_irrefl, List.length_nil, List.length_cons, Int.ofNat_zero, decide_false, decide_true])
        all_goals simp [eN]
      · repeat' (first
         | (with_reducible apply St.o; constructor) <;> intro _
         | with_reducible first | refine LenR_i fun _ => ?_ | refine And.intro (by omega) ?_ | (apply Sp.o; constructor) | refine frz0_i ?_
         | ((with_reducible apply Sc.o true; constructor); simp only [lP, seval, epR_cons, List.length_map, hop, hl0, ti24, Int.lt_irrefl, List.length_nil, List.length_cons, Int.ofNat_zero, decide_false, decide_true]; refine ⟨_, h50, ?_⟩; rintro _ _ ⟨rfl, rfl⟩; simp only [lA, lP, ptrCells, ptrAdd, isNil, readsV, readsP, isCall, wrote, srcOf, seval, epR_cons, List.length_map, hop, hl0, ti24, Int.lt_irrefl, List.length_nil, List.length_cons, Int.ofNat_zero, decide_false, decide_true])
         | ((with_reducible refine keep0_i ?_); simp only [lP, seval])
         | simp (maxSteps := 1000000) (disch := omega) only [lE, ptrCells, ptrAdd, isNil, readsV, readsP, isCall, wrote, srcOf, seval, epR_cons, List.length_map, hop, hl0, ti24, Int.lt_irrefl, List.length_nil, List.length_cons, Int.ofNat_zero, decide_false, decide_true])
        refine any_i [1] ?_
        repeat' (first
         | (with_reducible apply St.o; constructor) <;> intro _
         | with_reducible first | refine LenR_i fun _ => ?_ | refine And.intro (by omega) ?_ | (apply Sp.o; constructor) | refine frz0_i ?_
         | ((with_reducible apply Sc.o true; constructor); simp only [lP, seval, epR_cons, List.length_map, hop, hl0, ti24, Int.lt_irrefl, List.length_nil, List.length_cons, Int.ofNat_zero, decide_false, decide_true]; refine ⟨_, h50, ?_⟩; rintro _ _ ⟨rfl, rfl⟩; simp only [lA, lP, ptrCells, ptrAdd, isNil, readsV, readsP, isCall, wrote, srcOf, seval, epR_cons, List.length_map, hop, hl0, ti24, Int.lt_irrefl, List.length_nil, List.length_cons, Int.ofNat_zero, decide_false, decide_true])
         | ((with_reducible refine keep0_i ?_); simp only [lP, seval])
         | simp (maxSteps := 1000000) (disch := omega) only [lE, ptrCells, ptrAdd, isNil, readsV, readsP, isCall, wrote, srcOf, seval, epR_cons, List.length_map, hop, hl0, ti24, Int.lt_irrefl, List.length_nil, List.length_cons, Int.ofNat_zero, decide_false, decide_true])
        all_goals simp [eN]
      · repeat' (first
         | (with_reducible apply St.o; constructor) <;> intro _
         | with_reducible first | refine LenR_i fun _ => ?_ | refine And.intro (by omega) ?_ | (apply Sp.o; constructor) | refine frz0_i ?_
         | ((with_reducible apply Sc.o true; constructor); simp only [lP, seval, epR_cons, List.length_map, hop, ho1, ho2, ho3, ho4, ho5, ho6, hl0, ti24, Int.lt_irrefl, List.length_nil, List.length_cons, Int.ofNat_zero, decide_false, decide_true]; (first | refine ⟨_, h53, ?_⟩ | refine ⟨_, h54, ?_⟩); rintro _ _ ⟨rfl, rfl⟩; simp only [lA, lP, ptrCells, ptrAdd, isNil, readsV, readsP, isCall, wrote, srcOf, seval, epR_cons, List.length_map, hop, ho1, ho2, ho3, ho4, ho5, ho6, hl0, ti24, Int.lt_irrefl, List.length_nil, List.length_cons, Int.ofNat_zero, decide_false, decide_true])
         | ((with_reducible refine keep0_i ?_); simp only [lP, seval])
         | simp (maxSteps := 1000000) (disch := omega) only [lE, ptrCells, ptrAdd, isNil, readsV, readsP, isCall, wrote, srcOf, seval, epR_cons, List.length_map, hop, ho1, ho2, ho3, ho4, ho5, ho6, hl0, ti24, Int.lt_irrefl, List.length_nil, List.length_cons, Int.ofNat_zero, decide_false, decide_true])
        refine any_i [1] ?_
        repeat' (first
         | (with_reducible apply St.o; constructor) <;> intro _
         | with_reducible first | refine LenR_i fun _ => ?_ | refine And.intro (by omega) ?_ | (apply Sp.o; constructor) | refine frz0_i ?_
         | ((with_reducible apply Sc.o true; constructor); simp only [lP, seval, epR_cons, List.length_map, hop, ho1, ho2, ho3, ho4, ho5, ho6, hl0, ti24, Int.lt_irrefl, List.length_nil, List.length_cons, Int.ofNat_zero, decide_false, decide_true]; (first | refine ⟨_, h53, ?_⟩ | refine ⟨_, h54, ?_⟩); rintro _ _ ⟨rfl, rfl⟩; simp only [lA, lP, ptrCells, ptrAdd, isNil, readsV, readsP, isCall, wrote, srcOf, seval, epR_cons, List.length_map, hop, ho1, ho2, ho3, ho4, ho5, ho6, hl0, ti24, Int.lt_irrefl, List.length_nil, List.length_cons, Int.ofNat_zero, decide_false, decide_true])
         | ((with_reducible refine keep0_i ?_); simp only [lP, seval])
         | simp (maxSteps := 1000000) (disch := omega) only [lE, ptrCells, ptrAdd, isNil, readsV, readsP, isCall, wrote, srcOf, seval, epR_cons, List.length_map, hop, ho1, ho2, ho3, ho4, ho5, ho6, hl0, ti24, Int.lt_irrefl, List.length_nil, List.length_cons, Int.ofNat_zero, decide_false, decide_true])
        all_goals simp [eN, ho1, ho2, ho3, ho4, ho5, ho6, hop, test_eq hx hy]
      · have hc : cmpB e.op = false := by rw [hop]; rfl
        rw [hop] at h53 hc
        have hw : IntKind.i64.wrap (x.n + y.n) = x.n + y.n := wrap_i64 (by obtain ⟨_, _⟩ := sx; obtain ⟨_, _⟩ := sy; omega) (by obtain ⟨_, _⟩ := sx; obtain ⟨_, _⟩ := sy; omega)
        repeat' (first
         | (with_reducible apply St.o; constructor) <;> intro _
         | with_reducible first | refine LenR_i fun _ => ?_ | refine And.intro (by omega) ?_ | (apply Sp.o; constructor) | refine frz0_i ?_
         | ((with_reducible apply Sc.o true; constructor); simp only [lP, seval, glob, Option.map_some, look3, hw, epR_cons, List.length_map, hop, hc, hl0, ti24, Int.lt_irrefl, List.length_nil, List.length_cons, Int.ofNat_zero, decide_false, decide_true]; (first | refine ⟨_, h53, ?_⟩ | refine ⟨_, h147, ?_⟩); rintro _ _ ⟨rfl, rfl⟩; simp only [lA, lP, ptrCells, ptrAdd, isNil, readsV, readsP, isCall, wrote, srcOf, seval, glob, Option.map_some, look3, hw, epR_cons, List.length_map, hop, hc, hl0, ti24, Int.lt_irrefl, List.length_nil, List.length_cons, Int.ofNat_zero, decide_false, decide_true])
         | ((with_reducible refine keep0_i ?_); simp only [lP, seval])
         | simp (maxSteps := 1000000) (disch := omega) only [lE, ptrCells, ptrAdd, isNil, readsV, readsP, isCall, wrote, srcOf, seval, glob, Option.map_some, look3, hw, epR_cons, List.length_map, hop, hc, hl0, ti24, Int.lt_irrefl, List.length_nil, List.length_cons, Int.ofNat_zero, decide_false, decide_true])
        all_goals clear h49 h50 h53 h54 h147 h149 h150
        all_goals simp [eN, hc, ariR, ari, *]
        all_goals (try exact ⟨rfl, rfl, rfl⟩)
        all_goals trace_state
      · have hc : cmpB e.op = false := by rw [hop]; rfl
        rw [hop] at h53 hc
        have hw : IntKind.i64.wrap (x.n - y.n) = x.n - y.n := wrap_i64 (by obtain ⟨_, _⟩ := sx; obtain ⟨_, _⟩ := sy; omega) (by obtain ⟨_, _⟩ := sx; obtain ⟨_, _⟩ := sy; omega)
        repeat' (first
         | (with_reducible apply St.o; constructor) <;> intro _
         | with_reducible first | refine LenR_i fun _ => ?_ | refine And.intro (by omega) ?_ | (apply Sp.o; constructor) | refine frz0_i ?_
         | ((with_reducible apply Sc.o true; constructor); simp only [lP, seval, glob, Option.map_some, look4, hw, epR_cons, List.length_map, hop, hc, hl0, ti24, Int.lt_irrefl, List.length_nil, List.length_cons, Int.ofNat_zero, decide_false, decide_true]; (first | refine ⟨_, h53, ?_⟩ | refine ⟨_, h149, ?_⟩); rintro _ _ ⟨rfl, rfl⟩; simp only [lA, lP, ptrCells, ptrAdd, isNil, readsV, readsP, isCall, wrote, srcOf, seval, glob, Option.map_some, look4, hw, epR_cons, List.length_map, hop, hc, hl0, ti24, Int.lt_irrefl, List.length_nil, List.length_cons, Int.ofNat_zero, decide_false, decide_true])
         | ((with_reducible refine keep0_i ?_); simp only [lP, seval])
         | simp (maxSteps := 1000000) (disch := omega) only [lE, ptrCells, ptrAdd, isNil, readsV, readsP, isCall, wrote, srcOf, seval, glob, Option.map_some, look4, hw, epR_cons, List.length_map, hop, hc, hl0, ti24, Int.lt_irrefl, List.length_nil, List.length_cons, Int.ofNat_zero, decide_false, decide_true])
        all_goals clear h49 h50 h53 h54 h147 h149 h150
        all_goals simp [eN, hc, ariR, ari, *]
        all_goals (try exact ⟨rfl, rfl, rfl⟩)
        all_goals trace_state
      · have hc : cmpB e.op = false := by rw [hop]; rfl
        rw [hop] at h53 hc
        repeat' (first
         | (with_reducible apply St.o; constructor) <;> intro _
         | with_reducible first | refine LenR_i fun _ => ?_ | refine And.intro (by omega) ?_ | (apply Sp.o; constructor) | refine frz0_i ?_
         | ((with_reducible apply Sc.o true; constructor); simp only [lP, seval, glob, Option.map_some, look5, epR_cons, List.length_map, hop, hc, hl0, ti24, Int.lt_irrefl, List.length_nil, List.length_cons, Int.ofNat_zero, decide_false, decide_true]; (first | (refine ⟨_, h53, ?_⟩; rintro _ _ ⟨rfl, rfl⟩) | (refine ⟨_, h150, ?_⟩; rintro _ _ ⟨⟨n, rfl, hn1, hn2⟩, rfl⟩)); simp only [lA, lP, ptrCells, ptrAdd, isNil, readsV, readsP, isCall, wrote, srcOf, seval, glob, Option.map_some, look5, epR_cons, List.length_map, hop, hc, hl0, ti24, Int.lt_irrefl, List.length_nil, List.length_cons, Int.ofNat_zero, decide_false, decide_true])
         | ((with_reducible refine keep0_i ?_); simp only [lP, seval])
         | simp (maxSteps := 1000000) (disch := omega) only [lE, ptrCells, ptrAdd, isNil, readsV, readsP, isCall, wrote, srcOf, seval, glob, Option.map_some, look5, epR_cons, List.length_map, hop, hc, hl0, ti24, Int.lt_irrefl, List.length_nil, List.length_cons, Int.ofNat_zero, decide_false, decide_true])
        all_goals clear h49 h50 h53 h54 h147 h149 h150
        all_goals first
          | (have h : n = x.n * y.n := hn1 (by omega)
             subst h
             have h' : ¬ (x.n * y.n < -549755813888 ∨ 549755813887 < x.n * y.n) := by omega
             simp [eN, hc, ariR, ari, if_neg h', *]; done)
          | (have h : x.n * y.n < -549755813888 ∨ 549755813887 < x.n * y.n := by omega
             simp only [eN, ariR, ari, if_pos h]
             simp [hc, *]
             exact ⟨rfl, rfl, rfl⟩)
          | (simp [eN, hc, *]; exact ⟨rfl, rfl, rfl⟩)
          | trace_state
end Go.Proofs.Try

namespace Go.Proofs.Try
open Go.Al
set_option linter.unusedVariables false
set_option linter.unusedSimpArgs false
set_option maxRecDepth 20000
set_option maxHeartbeats 8000000

theorem ariR_err (op a b : Int) : (ariR op a b).2 ≠ 0 → (ariR op a b).2 = 360 := by
  unfold ariR; split <;> simp
theorem c15n (r : List VL) (e : EX) (rs : List (VL × Int)) (hlen : rs.length = e.args.length) (har : (e.args.length : Int) = ar e.op) (hcol : e.op = 1 → 0 ≤ e.n ∧ e.n < r.length) (hR : ∀ x ∈ rs, x.1.Right)
    (hrec : ∀ j, j < e.args.length → ACalls E.P 15 [(e.args.getD j default).av, rowV r] [] (fun q H => q = .tup [(rs.getD j default).1.av, .int .i64 (rs.getD j default).2] ∧ H = [])) :
    ACalls E.P 15 [e.av, rowV r] [] (fun q H => q = .tup [(enode r e rs).1.av, .int .i64 (enode r e rs).2] ∧ H = []) := by
  have hmax := maxLen_eq
  have hsh := ar_cases har
  refine ok15.acalls hE hm (by simp) fun N hN => ?_
  unfold mc15
  simp only [lA, ptrCells, ptrAdd, isNil, readsV, readsP, isCall, wrote, srcOf, seval, av_fs]
  refine loop_i (fun i : Nat => i ≤ e.args.length ∧ ∀ j, j < i → (rs.getD j default).2 = 0) (fun i => ⟨[(1, rowV r), (2, .op 0 0), (4, .op 1 0), (6, .slc 2 3 i), (7, .int .i64 i)], [.box e.fs, .box [.int .i64 0, .int .i64 0, .str ⟨#[]⟩], .arr 24 3 ((rs.take i).map prV)]⟩) (fun i => e.args.length - i) 0 ⟨by omega, by omega⟩
    (Ent.ghost' 6 24 3 (by omega) rfl (Ent.to [0,1,2] false (by simp) (by simp) rfl (by simp only [lP, seval, pa_prV] <;> (try simp) <;> (try omega)) (by simp only [lP, seval, pa_prV] <;> (try simp) <;> (try omega)))) ?_
  rintro i ⟨hi, ha⟩
  by_cases hin : i < e.args.length
  · have hrec := hrec i hin
    simp only [av_fs, vl_av] at hrec
    have hlt : ((i : Int) < (e.args.length : Int)) := by omega
    have hl : (rs.take i).length = i := by simp; omega
    repeat' (first
     | (with_reducible apply St.o; constructor) <;> intro _
     | with_reducible first | refine LenR_i fun _ => ?_ | refine And.intro (by omega) ?_ | (apply Sp.o; constructor) | refine frz0_i ?_
     | ((with_reducible apply Sc.o true; constructor); simp only [lP, seval, IdxR_exs, Int.toNat_natCast, List.length_map, pa_prV, vw_prV, hlt, decide_true, ti24]; refine ⟨_, hrec, ?_⟩; rintro _ _ ⟨rfl, rfl⟩; simp only [lA, lP, ptrCells, ptrAdd, isNil, readsV, readsP, isCall, wrote, srcOf, seval, IdxR_exs, Int.toNat_natCast, List.length_map, pa_prV, vw_prV, hlt, decide_true, ti24])
     | ((with_reducible refine keep0_i ?_); simp only [lP, seval])
     | simp (maxSteps := 1000000) (disch := omega) only [lE, ptrCells, ptrAdd, isNil, readsV, readsP, isCall, wrote, srcOf, seval, IdxR_exs, Int.toNat_natCast, List.length_map, pa_prV, vw_prV, hlt, decide_true, ti24])
    · rename_i h2
      have := ferr_at (l := rs) ha (by omega) h2
      simp only [enode, this, if_neg h2]
      rfl
    · rename_i h2
      refine back_i (i + 1) ⟨by omega, fun j hj => ?_⟩ (by omega) ?_
      · by_cases hji : j < i
        · exact ha j hji
        · obtain rfl : j = i := by omega
          exact h2
      · have ht : (rs.take (i + 1)).map prV = (rs.take i).map prV ++ [(rs.getD i default).1.av] := by
          rw [List.take_succ_eq_append_getElem (show i < rs.length by omega), List.map_append]
          simp [prV, show i < rs.length by omega]
        rw [ht, vl_av]
        exact (Ent.to [0,1,5] false (by simp) (by simp) rfl (by simp only [lP, seval, pa_prV, hl, List.map_append] <;> (try simp) <;> (try omega)) (by simp only [lP, seval, pa_prV, hl, List.map_append] <;> (try simp) <;> (try omega)))
  · have hie : i = rs.length := by omega
    subst hie
    have hf : ferr rs = 0 := ferr_none ha
    have hk : enode r e rs = eN r e.op e.n e.val (rs.map (·.1)) := by rw [enode, if_pos hf]
    rw [hk]
    simp only [List.take_length]
    clear hrec hk hf ha
    have hl0 : e.args.length = rs.length := hlen.symm
    rcases hsh with ⟨h0, hop⟩ | ⟨h0, hop⟩ | ⟨h0, hop⟩
    · obtain rfl : rs = [] := List.eq_nil_of_length_eq_zero (by omega)
      rcases hop with hop | hop
      · obtain ⟨hc1, hc2⟩ := hcol hop
        repeat' (first
         | (with_reducible apply St.o; constructor) <;> intro _
         | with_reducible first | refine LenR_i fun _ => ?_ | refine And.intro (by omega) ?_ | (apply Sp.o; constructor) | refine frz0_i ?_
         | ((with_reducible refine keep0_i ?_); simp only [lP, seval])
         | simp (maxSteps := 1000000) (disch := omega) only [lE, ptrCells, ptrAdd, isNil, readsV, readsP, isCall, wrote, srcOf, seval, IdxR_vls, List.length_map, hop, hl0, ti24, Int.lt_irrefl, List.length_nil, List.length_cons, Int.ofNat_zero, decide_false, decide_true])
        all_goals simp [eN, vl_av]
      · repeat' (first
         | (with_reducible apply St.o; constructor) <;> intro _
         | with_reducible first | refine LenR_i fun _ => ?_ | refine And.intro (by omega) ?_ | (apply Sp.o; constructor) | refine frz0_i ?_
         | ((with_reducible refine keep0_i ?_); simp only [lP, seval])
         | simp (maxSteps := 1000000) (disch := omega) only [lE, ptrCells, ptrAdd, isNil, readsV, readsP, isCall, wrote, srcOf, seval, List.length_map, hop, hl0, ti24, Int.lt_irrefl, List.length_nil, List.length_cons, Int.ofNat_zero, decide_false, decide_true])
        all_goals simp [eN, vl_av]
    · obtain ⟨x, rfl⟩ : ∃ x, rs = [x] := by
        rcases rs with _ | ⟨x, _ | ⟨z, t⟩⟩
        · rw [h0] at hl0; simp at hl0
        · exact ⟨x, rfl⟩
        · rw [h0] at hl0; simp at hl0
      obtain ⟨x, x2⟩ := x
      have hx : x.Right := hR (x, x2) (by simp)
      have h57 := c57 x
      have h44 : ∀ b : Bool, ACalls E.P 44 [.bool b] [] (fun r H => r = .agg [.int .i64 3, .int .i64 (if b then 1 else 0), .str ⟨#[]⟩] ∧ H = []) := c44
      simp only [vl_av] at h57
      simp only [List.length_cons, List.length_nil, List.map_cons, List.map_nil, prV, vl_av]
      rcases hop with hop | hop
      · repeat' (first
         | (with_reducible apply St.o; constructor) <;> intro _
         | with_reducible first | refine LenR_i fun _ => ?_ | refine And.intro (by omega) ?_ | (apply Sp.o; constructor) | refine frz0_i ?_
         | ((with_reducible apply Sc.o true; constructor); simp only [lP, seval, epR_cons, List.length_map, hop, hl0, ti24, Int.lt_irrefl, List.length_nil, List.length_cons, Int.ofNat_zero, decide_false, decide_true]; (first | refine ⟨_, h57, ?_⟩ | refine ⟨_, h44 _, ?_⟩); rintro _ _ ⟨rfl, rfl⟩; simp only [lA, lP, ptrCells, ptrAdd, isNil, readsV, readsP, isCall, wrote, srcOf, seval, epR_cons, List.length_map, hop, hl0, ti24, Int.lt_irrefl, List.length_nil, List.length_cons, Int.ofNat_zero, decide_false, decide_true])
         | ((with_reducible refine keep0_i ?_); simp only [lP, seval])
         | simp (maxSteps := 1000000) (disch := omega) only [lE, ptrCells, ptrAdd, isNil, readsV, readsP, isCall, wrote, srcOf, seval, epR_cons, List.length_map, hop, hl0, ti24, Int.lt_irrefl, List.length_nil, List.length_cons, Int.ofNat_zero, decide_false, decide_true])
        all_goals simp [eN]
      · repeat' (first
         | (with_reducible apply St.o; constructor) <;> intro _
         | with_reducible first | refine LenR_i fun _ => ?_ | refine And.intro (by omega) ?_ | (apply Sp.o; constructor) | refine frz0_i ?_
         | ((with_reducible apply Sc.o true; constructor); simp only [lP, seval, epR_cons, List.length_map, hop, hl0, ti24, Int.lt_irrefl, List.length_nil, List.length_cons, Int.ofNat_zero, decide_false, decide_true]; (first | refine ⟨_, h57, ?_⟩ | refine ⟨_, h44 _, ?_⟩); rintro _ _ ⟨rfl, rfl⟩; simp only [lA, lP, ptrCells, ptrAdd, isNil, readsV, readsP, isCall, wrote, srcOf, seval, epR_cons, List.length_map, hop, hl0, ti24, Int.lt_irrefl, List.length_nil, List.length_cons, Int.ofNat_zero, decide_false, decide_true])
         | ((with_reducible refine keep0_i ?_); simp only [lP, seval])
         | simp (maxSteps := 1000000) (disch := omega) only [lE, ptrCells, ptrAdd, isNil, readsV, readsP, isCall, wrote, srcOf, seval, epR_cons, List.length_map, hop, hl0, ti24, Int.lt_irrefl, List.length_nil, List.length_cons, Int.ofNat_zero, decide_false, decide_true])
        all_goals simp [eN, VL.ofB]
    · obtain ⟨x, y, rfl⟩ : ∃ x y, rs = [x, y] := by
        rcases rs with _ | ⟨x, _ | ⟨y, _ | ⟨z, t⟩⟩⟩
        · rw [h0] at hl0; simp at hl0
        · rw [h0] at hl0; simp at hl0
        · exact ⟨x, y, rfl⟩
        · rw [h0] at hl0; simp at hl0
      obtain ⟨x, x2⟩ := x
      obtain ⟨y, y2⟩ := y
      have hx : x.Right := hR (x, x2) (by simp)
      have hy : y.Right := hR (y, y2) (by simp)
      have sx := right_small hx
      have sy := right_small hy
      have h55 := c55 x y
      have h56 := c56 x y
      have h58 := c58 e.op
      have h59 := c59 e.op x y
      simp only [vl_av] at h55 h56 h59
      simp only [List.length_cons, List.length_nil, List.map_cons, List.map_nil, prV, vl_av]
      have hops : e.op = 12 ∨ e.op = 13 ∨ (cmpB e.op = true ∧ e.op ≠ 1 ∧ e.op ≠ 2 ∧ e.op ≠ 12 ∧ e.op ≠ 13 ∧ e.op ≠ 14 ∧ e.op ≠ 15) ∨ e.op = 3 ∨ e.op = 4 ∨ e.op = 5 := by
        simp only [cmpB, decide_eq_true_eq]; omega
      rcases hops with hop | hop | ⟨hop, ho1, ho2, ho3, ho4, ho5, ho6⟩ | hop | hop | hop
      · repeat' (first
         | (with_reducible apply St.o; constructor) <;> intro _
         | with_reducible first | refine LenR_i fun _ => ?_ | refine And.intro (by omega) ?_ | (apply Sp.o; constructor) | refine frz0_i ?_
         | ((with_reducible apply Sc.o true; constructor); simp only [lP, seval, epR_cons, List.length_map, hop, hl0, ti24, Int.lt_irrefl, List.length_nil, List.length_cons, Int.ofNat_zero, decide_false, decide_true]; refine ⟨_, h55, ?_⟩; rintro _ _ ⟨rfl, rfl⟩; simp only [lA, lP, ptrCells, ptrAdd, isNil, readsV, readsP, isCall, wrote, srcOf, seval, epR_cons, List.length_map, hop, hl0, ti24, Int.lt_irrefl, List.length_nil, List.length_cons, Int.ofNat_zero, decide_false, decide_true])
         | ((with_reducible refine keep0_i ?_); simp only [lP, seval])
         | simp (maxSteps := 1000000) (disch := omega) only [lE, ptrCells, ptrAdd, isNil, readsV, readsP, isCall, wrote, srcOf, seval, epR_cons, List.length_map, hop, hl0, ti24, Int.lt_irrefl, List.length_nil, List.length_cons, Int.ofNat_zero, decide_false, decide_true])
        refine any_i [1] ?_
        repeat' (first
         | (with_reducible apply St.o; constructor) <;> intro _
         | with_reducible first | refine LenR_i fun _ => ?_ | refine And.intro (by omega) ?_ | (apply Sp.o; constructor) | refine frz0_i ?_
         | ((with_reducible apply Sc.o true; constructor); simp only [lP, seval, epR_cons, List.length_map, hop, hl0, ti24, Int.lt_irrefl, List.length_nil, List.length_cons, Int.ofNat_zero, decide_false, decide_true]; refine ⟨_, h55, ?_⟩; rintro _ _ ⟨rfl, rfl⟩; simp only [lA, lP, ptrCells, ptrAdd, isNil, readsV, readsP, isCall, wrote, srcOf, seval, epR_cons, List.length_map, hop, hl0, ti24, Int.lt_irrefl, List.length_nil, List.length_cons, Int.ofNat_zero, decide_false, decide_true])
         | ((with_reducible refine keep0_i ?_); simp only [lP, seval])
         | simp (maxSteps := 1000000) (disch := omega) only [lE, ptrCells, ptrAdd, isNil, readsV, readsP, isCall, wrote, srcOf, seval, epR_cons, List.length_map, hop, hl0, ti24, Int.lt_irrefl, List.length_nil, List.length_cons, Int.ofNat_zero, decide_false, decide_true])
        all_goals simp [eN]
      · repeat' (first
         | (with_reducible apply St.o; constructor) <;> intro _
         | with_reducible first | refine LenR_i fun _ => ?_ | refine And.intro (by omega) ?_ | (apply Sp.o; constructor) | refine frz0_i ?_
         | ((with_reducible apply Sc.o true; constructor); simp only [lP, seval, epR_cons, List.length_map, hop, hl0, ti24, Int.lt_irrefl, List.length_nil, List.length_cons, Int.ofNat_zero, decide_false, decide_true]; refine ⟨_, h56, ?_⟩; rintro _ _ ⟨rfl, rfl⟩; simp only [lA, lP, ptrCells, ptrAdd, isNil, readsV, readsP, isCall, wrote, srcOf, seval, epR_cons, List.length_map, hop, hl0, ti24, Int.lt_irrefl, List.length_nil, List.length_cons, Int.ofNat_zero, decide_false, decide_true])
         | ((with_reducible refine keep0_i ?_); simp only [lP, seval])
         | simp (maxSteps := 1000000) (disch := omega) only [lE, ptrCells, ptrAdd, isNil, readsV, readsP, isCall, wrote, srcOf, seval, epR_cons, List.length_map, hop, hl0, ti24, Int.lt_irrefl, List.length_nil, List.length_cons, Int.ofNat_zero, decide_false, decide_true])
        refine any_i [1] ?_
        repeat' (first
         | (with_reducible apply St.o; constructor) <;> intro _
         | with_reducible first | refine LenR_i fun _ => ?_ | refine And.intro (by omega) ?_ | (apply Sp.o; constructor) | refine frz0_i ?_
         | ((with_reducible apply Sc.o true; constructor); simp only [lP, seval, epR_cons, List.length_map, hop, hl0, ti24, Int.lt_irrefl, List.length_nil, List.length_cons, Int.ofNat_zero, decide_false, decide_true]; refine ⟨_, h56, ?_⟩; rintro _ _ ⟨rfl, rfl⟩; simp only [lA, lP, ptrCells, ptrAdd, isNil, readsV, readsP, isCall, wrote, srcOf, seval, epR_cons, List.length_map, hop, hl0, ti24, Int.lt_irrefl, List.length_nil, List.length_cons, Int.ofNat_zero, decide_false, decide_true])
         | ((with_reducible refine keep0_i ?_); simp only [lP, seval])
         | simp (maxSteps := 1000000) (disch := omega) only [lE, ptrCells, ptrAdd, isNil, readsV, readsP, isCall, wrote, srcOf, seval, epR_cons, List.length_map, hop, hl0, ti24, Int.lt_irrefl, List.length_nil, List.length_cons, Int.ofNat_zero, decide_false, decide_true])
        all_goals simp [eN]
      · repeat' (first
         | (with_reducible apply St.o; constructor) <;> intro _
         | with_reducible first | refine LenR_i fun _ => ?_ | refine And.intro (by omega) ?_ | (apply Sp.o; constructor) | refine frz0_i ?_
         | ((with_reducible apply Sc.o true; constructor); simp only [lP, seval, epR_cons, List.length_map, hop, ho1, ho2, ho3, ho4, ho5, ho6, hl0, ti24, Int.lt_irrefl, List.length_nil, List.length_cons, Int.ofNat_zero, decide_false, decide_true]; (first | refine ⟨_, h58, ?_⟩ | refine ⟨_, h59, ?_⟩); rintro _ _ ⟨rfl, rfl⟩; simp only [lA, lP, ptrCells, ptrAdd, isNil, readsV, readsP, isCall, wrote, srcOf, seval, epR_cons, List.length_map, hop, ho1, ho2, ho3, ho4, ho5, ho6, hl0, ti24, Int.lt_irrefl, List.length_nil, List.length_cons, Int.ofNat_zero, decide_false, decide_true])
         | ((with_reducible refine keep0_i ?_); simp only [lP, seval])
         | simp (maxSteps := 1000000) (disch := omega) only [lE, ptrCells, ptrAdd, isNil, readsV, readsP, isCall, wrote, srcOf, seval, epR_cons, List.length_map, hop, ho1, ho2, ho3, ho4, ho5, ho6, hl0, ti24, Int.lt_irrefl, List.length_nil, List.length_cons, Int.ofNat_zero, decide_false, decide_true])
        refine any_i [1] ?_
        repeat' (first
         | (with_reducible apply St.o; constructor) <;> intro _
         | with_reducible first | refine LenR_i fun _ => ?_ | refine And.intro (by omega) ?_ | (apply Sp.o; constructor) | refine frz0_i ?_
         | ((with_reducible apply Sc.o true; constructor); simp only [lP, seval, epR_cons, List.length_map, hop, ho1, ho2, ho3, ho4, ho5, ho6, hl0, ti24, Int.lt_irrefl, List.length_nil, List.length_cons, Int.ofNat_zero, decide_false, decide_true]; (first | refine ⟨_, h58, ?_⟩ | refine ⟨_, h59, ?_⟩); rintro _ _ ⟨rfl, rfl⟩; simp only [lA, lP, ptrCells, ptrAdd, isNil, readsV, readsP, isCall, wrote, srcOf, seval, epR_cons, List.length_map, hop, ho1, ho2, ho3, ho4, ho5, ho6, hl0, ti24, Int.lt_irrefl, List.length_nil, List.length_cons, Int.ofNat_zero, decide_false, decide_true])
         | ((with_reducible refine keep0_i ?_); simp only [lP, seval])
         | simp (maxSteps := 1000000) (disch := omega) only [lE, ptrCells, ptrAdd, isNil, readsV, readsP, isCall, wrote, srcOf, seval, epR_cons, List.length_map, hop, ho1, ho2, ho3, ho4, ho5, ho6, hl0, ti24, Int.lt_irrefl, List.length_nil, List.length_cons, Int.ofNat_zero, decide_false, decide_true])
        all_goals simp [eN, ho1, ho2, ho3, ho4, ho5, ho6, hop]
      all_goals
        have hc : cmpB e.op = false := by rw [hop]; rfl
        have h60 := c60 e.op x.n y.n (by omega) sx sy
        rw [hop] at h58 hc h60
        repeat' (first
         | (with_reducible apply St.o; constructor) <;> intro _
         | with_reducible first | refine LenR_i fun _ => ?_ | refine And.intro (by omega) ?_ | (apply Sp.o; constructor) | refine frz0_i ?_
         | ((with_reducible apply Sc.o true; constructor); simp only [lP, seval, epR_cons, List.length_map, hop, hc, hl0, ti24, Int.lt_irrefl, List.length_nil, List.length_cons, Int.ofNat_zero, decide_false, decide_true]; (first | refine ⟨_, h58, ?_⟩ | refine ⟨_, h60, ?_⟩); rintro _ _ ⟨rfl, rfl⟩; simp only [lA, lP, ptrCells, ptrAdd, isNil, readsV, readsP, isCall, wrote, srcOf, seval, epR_cons, List.length_map, hop, hc, hl0, ti24, Int.lt_irrefl, List.length_nil, List.length_cons, Int.ofNat_zero, decide_false, decide_true])
         | ((with_reducible refine keep0_i ?_); simp only [lP, seval])
         | simp (maxSteps := 1000000) (disch := omega) only [lE, ptrCells, ptrAdd, isNil, readsV, readsP, isCall, wrote, srcOf, seval, epR_cons, List.length_map, hop, hc, hl0, ti24, Int.lt_irrefl, List.length_nil, List.length_cons, Int.ofNat_zero, decide_false, decide_true])
        all_goals clear h55 h56 h58 h59 h60
        all_goals first
          | (rename_i h1 h2 h3
             have h4 := ariR_err _ _ _ h3
             simp [eN, hc, h1, h2, h4]; exact ⟨rfl, rfl, rfl⟩)
          | (simp [eN, hc, *]; done)
          | (simp [eN, hc, *]; exact ⟨rfl, rfl, rfl⟩)
end Go.Proofs.Try
