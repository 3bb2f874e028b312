/-
  A part of the proof: see the text of the law.
-/
import Derived.Test.YtjiijjfpmaligaaDoorCan
set_option linter.unusedSimpArgs false
set_option linter.unusedVariables false
namespace Go.Proofs.Try
open Go.Al
set_option linter.unusedVariables false
set_option linter.unusedSimpArgs false
set_option maxRecDepth 20000
set_option maxHeartbeats 8000000

/-! ### simplification of trees -/
def T.isVal : T → Bool
  | .val _ => true
  | _ => false
def T.isC (t : T) (v : VL) : Bool := match t with
  | .val w => w.same v
  | _ => false
theorem op2_ex : ∀ {t : T}, t.wf → decide (t.ex.op = 2) = t.isVal
  | .col _, _ => rfl
  | .val _, _ => rfl
  | .un op a, h => by have := h.1; show decide (op = 2) = false; rw [decide_eq_false_iff_not]; omega
  | .bin op a b, h => by have := h.1; show decide (op = 2) = false; rw [decide_eq_false_iff_not]; omega
theorem isV_ex {t : T} (h : t.wf) (v : VL) : isV t.ex v = t.isC v := by
  have := op2_ex h
  unfold isV
  rw [this]
  cases t <;> simp [T.isVal, T.isC, T.ex, EX.val]
def negT (op : Int) (a : T) : T := match a with
  | .un o x => if o = 14 then x else .un op a
  | .bin o x y => if cmpB o = true then .bin (opp o) x y else .un op a
  | _ => .un op a
def simpU (op : Int) (a : T) : T :=
  if a.isVal = true ∧ ((T.un op a).eval []).2 = 0 then .val ((T.un op a).eval []).1
  else if op = 14 then negT op a else .un op a
def zeroV : VL := ⟨1, 0, ⟨#[]⟩⟩
def oneV : VL := ⟨1, 1, ⟨#[]⟩⟩
def restB (op : Int) (a b : T) : T :=
  if op = 12 ∨ op = 13 then
    if a.isC (VL.ofB (decide (op = 12))) = true then b
    else if b.isC (VL.ofB (decide (op = 12))) = true then a
    else if a.isC (VL.ofB (decide (op = 13))) = true ∧ b.fails = false then a
    else if b.isC (VL.ofB (decide (op = 13))) = true ∧ a.fails = false then b
    else .bin op a b
  else if cmpB op = true ∧ a.isVal = true then .bin (trn op) b a
  else if ((op = 3 ∨ op = 4) ∧ b.isC zeroV = true) ∨ (op = 5 ∧ b.isC oneV = true) then a
  else if (op = 3 ∧ a.isC zeroV = true) ∨ (op = 5 ∧ a.isC oneV = true) then b
  else .bin op a b
/-- As the program has it. -/
def simpB (op : Int) (a b : T) : T :=
  if a.isVal = true ∧ b.isVal = true then (if ((T.bin op a b).eval []).2 = 0 then .val ((T.bin op a b).eval []).1 else .bin op a b) else restB op a b
/-- As the specification has it. -/
def simpR (op : Int) (a b : T) : T :=
  if (a.isVal = true ∧ b.isVal = true) ∧ ((T.bin op a b).eval []).2 = 0 then .val ((T.bin op a b).eval []).1 else restB op a b
def T.simp : T → T
  | .col n => .col n
  | .val v => .val v
  | .un op a => simpU op a.simp
  | .bin op a b => simpB op a.simp b.simp
def T.simR : T → T
  | .col n => .col n
  | .val v => .val v
  | .un op a => simpU op a.simR
  | .bin op a b => simpR op a.simR b.simR

theorem fits_val {t : T} (h : t.isVal = true) (n : Nat) : t.fits n := by cases t <;> simp [T.isVal] at h; trivial
theorem tv_fs (t : T) : t.ex.av = .agg t.ex.fs := av_fs t.ex
theorem nil_arg2 {P : Program} {f : FuncId} {sz : Nat} {x : AV} {xs : List AV} {H : List AObj} {Q : AV → List AObj → Prop} (h : ACalls P f (x :: .view sz [] :: xs) H Q) : ACalls P f (x :: .raw (.slice none 0 0) :: xs) H Q :=
  ⟨h.1, fun γ σ w vs hi hv => by
    obtain ⟨u, vs, rfl, h0, v, vs', rfl, h1, h2⟩ := hv
    exact h.2 γ σ w _ hi ⟨u, _, rfl, h0, v, vs', rfl, weak_nil γ σ v h1, h2⟩⟩
theorem c15nil {t : T} (hw : t.wf) (hf : t.fits 0) (hv : t.vals VL.Right) : ACalls E.P 15 [t.ex.av, .raw (.slice none 0 0)] [] (fun q H => q = .tup [(t.eval []).1.av, .int .i64 (t.eval []).2] ∧ H = []) :=
  nil_arg2 (c15 (r := []) (by simp) t hw hf hv)
theorem c14nil {t : T} (hw : t.wf) (hf : t.fits 0) (hv : t.vals VL.Right) : ACalls E.P 14 [t.ex.av, .raw (.slice none 0 0)] [] (fun q H => q = .tup [(t.eval []).1.av, .int .i64 (t.eval []).2] ∧ H = []) :=
  nil_arg2 (c14 (r := []) (by simp) t hw hf hv)
theorem IdxR_0 {P : Program} {m : Nat} {N : FN} {cs : List AV} {xs : List AV} {d : Nat} {c : Kn} : IdxR P m N (.agg cs :: xs) 0 d c = rK P m N c d (.vp cs) :=
  propext ⟨fun ⟨y, cs', _, h2, h3, h4⟩ => by cases h2; cases h3; exact h4, fun h => ⟨_, _, by omega, rfl, rfl, h⟩⟩
theorem IdxR_1 {P : Program} {m : Nat} {N : FN} {cs : List AV} {x : AV} {xs : List AV} {d : Nat} {c : Kn} : IdxR P m N (x :: .agg cs :: xs) 1 d c = rK P m N c d (.vp cs) :=
  propext ⟨fun ⟨y, cs', _, h2, h3, h4⟩ => by cases h2; cases h3; exact h4, fun h => ⟨_, _, by omega, rfl, rfl, h⟩⟩
abbrev T.avs (l : List T) : List AV := (l.map T.ex).map EX.av
theorem fs_un (op : Int) (a : T) : (T.un op a).ex.av = .agg [.int .i64 op, .int .i64 0, .int .i64 0, .int .i64 0, .str ⟨#[]⟩, .view 6 [.agg a.ex.fs]] := by rw [← tv_fs]; rfl
theorem fs_bin (op : Int) (a b : T) : (T.bin op a b).ex.av = .agg [.int .i64 op, .int .i64 0, .int .i64 0, .int .i64 0, .str ⟨#[]⟩, .view 6 [.agg a.ex.fs, .agg b.ex.fs]] := by rw [← tv_fs, ← tv_fs]; rfl
theorem fs_val (v : VL) : (T.val v).ex.av = .agg [.int .i64 2, .int .i64 0, .int .i64 v.k, .int .i64 v.n, .str v.s, .view 6 []] := rfl

theorem fsL_un (op : Int) (a : T) : (T.un op a).ex.fs = [.int .i64 op, .int .i64 0, .int .i64 0, .int .i64 0, .str ⟨#[]⟩, .view 6 [.agg a.ex.fs]] := by rw [← tv_fs]; rfl
theorem fsL_bin (op : Int) (a b : T) : (T.bin op a b).ex.fs = [.int .i64 op, .int .i64 0, .int .i64 0, .int .i64 0, .str ⟨#[]⟩, .view 6 [.agg a.ex.fs, .agg b.ex.fs]] := by rw [← tv_fs, ← tv_fs]; rfl
theorem fsL_val (v : VL) : (T.val v).ex.fs = [.int .i64 2, .int .i64 0, .int .i64 v.k, .int .i64 v.n, .str v.s, .view 6 []] := rfl
theorem fsL_col (n : Int) : (T.col n).ex.fs = [.int .i64 1, .int .i64 n, .int .i64 0, .int .i64 0, .str ⟨#[]⟩, .view 6 []] := rfl
theorem agg_snoc {l : List AV} {x y : AV} (h : Weak x y) : Weak (.agg (l ++ [x])) (.agg (l ++ [y])) := fun γ σ v hr => by
  obtain ⟨vs, h1, h2, h3⟩ := hr
  refine ⟨vs, h1, ?_, h3⟩
  clear h1 h3
  induction l generalizing vs with
  | nil =>
    obtain ⟨u, us, rfl, h4, h5⟩ := h2
    exact ⟨u, us, rfl, h γ σ u h4, h5⟩
  | cons a l ih =>
    obtain ⟨u, us, rfl, h4, h5⟩ := h2
    exact ⟨u, us, rfl, h4, ih us h5⟩
theorem keep_exnil {Q : AV → List AObj → Prop} {H : List AObj} {op n k i : Int} {s : ByteArray} (h : Q (.agg [.int .i64 op, .int .i64 n, .int .i64 k, .int .i64 i, .str s, .view 6 []]) (pH H [] false 8)) : keepQ 0 Q (.agg [.int .i64 op, .int .i64 n, .int .i64 k, .int .i64 i, .str s, .raw (.slice none 0 0)]) H :=
  keepw_i [] false rfl (by simp) rfl (by simp only [lP, seval]; exact agg_snoc (l := [_, _, _, _, _]) weak_nil) h
abbrev out0 : List AV := [.int .i64 0, .int .i64 0, .int .i64 0, .int .i64 0, .str ⟨#[]⟩, .raw (.slice none 0 0)]
theorem keepT_i {Q : AV → List AObj → Prop} {r : AV} {H : List AObj} (h : Q (pa H [] true 8 r) (pH H [] true 8)) : keepQ 0 Q r H := keep_i [] true rfl (by simp) rfl h
theorem c73u (op : Int) (a : T) (hop : op = 14 ∨ op = 15) (hw : a.wf) (hv : a.vals VL.Right) : ACalls E.P 73 [(T.un op a).ex.av] [] (fun r H => r = (simpU op a).ex.av ∧ H = []) := by
  have hmax := maxLen_eq
  have hev : a.isVal = true → ACalls E.P 15 [(T.un op a).ex.av, .raw (.slice none 0 0)] [] (fun q H => q = .tup [((T.un op a).eval []).1.av, .int .i64 ((T.un op a).eval []).2] ∧ H = []) := fun h => c15nil (t := .un op a) ⟨hop, hw⟩ (fits_val h 0) hv
  have hop2 := op2_ex hw
  have hx := vl_av
  rw [fs_un] at hev ⊢
  simp only [vl_av] at hev
  refine ok73.acalls hE hm (by simp) fun N hN => ?_
  unfold mc73
  simp only [lA, ptrCells, ptrAdd, isNil, readsV, readsP, isCall, wrote, srcOf, seval]
  refine loop_i (fun i : Nat => i ≤ 1) (fun i => ⟨[(1, .op 0 0), (2, .op 1 0), (3, .bool (decide (i = 0) || a.isVal)), (4, .int .i64 i)], [.box [.int .i64 op, .int .i64 0, .int .i64 0, .int .i64 0, .str ⟨#[]⟩, .view 6 [.agg a.ex.fs]], .box [.int .i64 0, .int .i64 0, .int .i64 0, .int .i64 0, .str ⟨#[]⟩, .raw (.slice none 0 0)]]⟩) (fun i => 1 - i) 0 (by omega) (Ent.to [0,1] false (by simp) (by simp) rfl (by simp only [lP, seval] <;> (try simp) <;> (try omega)) (by simp only [lP, seval] <;> (try simp) <;> (try omega))) ?_
  intro i hi
  have hi2 : i = 0 ∨ i = 1 := by omega
  rcases hi2 with rfl | rfl
  · repeat' (first
     | (with_reducible apply St.o; constructor) <;> intro _
     | with_reducible first | refine LenR_i fun _ => ?_ | refine And.intro (by omega) ?_ | (apply Sp.o; constructor) | refine frz0_i ?_
     | ((with_reducible refine keep0_i ?_); simp only [lP, seval])
     | simp (maxSteps := 1000000) (disch := omega) only [lE, ptrCells, ptrAdd, isNil, readsV, readsP, isCall, wrote, srcOf, seval, Int.ofNat_zero, List.length_cons, List.length_nil, IdxR_0, ti27, hop2, Bool.true_or, Bool.false_or])
    all_goals
      refine back_i 1 (by omega) (by omega) ?_
      exact (Ent.to [0, 1] false (by simp) (by simp) rfl (by simp only [lP, seval, Bool.false_or] <;> (try simp) <;> (try omega)) (by simp only [lP, seval]))
  · have h58 : ∀ o, ACalls E.P 58 [.int .i64 o] [] (fun r H => r = .bool (cmpB o) ∧ H = []) := c58
    have c1 : cmpB 1 = false := rfl
    have c2 : cmpB 2 = false := rfl
    cases a with
    | col n =>
      simp only [T.isVal, fsL_col] at *
      repeat' (first
       | (with_reducible apply St.o; constructor) <;> intro _
       | with_reducible first | refine LenR_i fun _ => ?_ | refine And.intro (by omega) ?_ | (apply Sp.o; constructor) | refine frz0_i ?_
       | ((with_reducible apply Sc.o true; constructor); simp only [lP, seval, Int.natCast_one, Int.lt_irrefl, List.length_cons, List.length_nil, IdxR_0, ti27, Bool.true_or, Bool.false_or, c1, c2, decide_false, fsL_col]; refine ⟨_, h58 _, ?_⟩; rintro _ _ ⟨rfl, rfl⟩; simp only [lA, lP, ptrCells, ptrAdd, isNil, readsV, readsP, isCall, wrote, srcOf, seval, Int.natCast_one, Int.lt_irrefl, List.length_cons, List.length_nil, IdxR_0, ti27, Bool.true_or, Bool.false_or, c1, c2, decide_false, fsL_col])
       | ((with_reducible refine keep0_i ?_); simp only [lP, seval])
       | simp (maxSteps := 1000000) (disch := omega) only [lE, ptrCells, ptrAdd, isNil, readsV, readsP, isCall, wrote, srcOf, seval, Int.natCast_one, Int.lt_irrefl, List.length_cons, List.length_nil, IdxR_0, ti27, Bool.true_or, Bool.false_or, c1, c2, decide_false, fsL_col])
      all_goals clear h58 hev
      all_goals simp [simpU, T.isVal, negT, fs_un, fsL_col]
    | val v =>
      have hev2 := hev rfl
      clear hev
      simp only [T.isVal, fsL_val] at *
      repeat' (first
       | (with_reducible apply St.o; constructor) <;> intro _
       | with_reducible first | refine LenR_i fun _ => ?_ | refine And.intro (by omega) ?_ | (apply Sp.o; constructor) | refine frz0_i ?_
       | ((with_reducible apply Sc.o true; constructor); simp only [lP, seval, Int.natCast_one, Int.lt_irrefl, List.length_cons, List.length_nil, IdxR_0, ti27, Bool.true_or, Bool.false_or, c1, c2, decide_false, fsL_val]; (first | refine ⟨_, h58 _, ?_⟩ | refine ⟨_, hev2, ?_⟩); rintro _ _ ⟨rfl, rfl⟩; simp only [lA, lP, ptrCells, ptrAdd, isNil, readsV, readsP, isCall, wrote, srcOf, seval, Int.natCast_one, Int.lt_irrefl, List.length_cons, List.length_nil, IdxR_0, ti27, Bool.true_or, Bool.false_or, c1, c2, decide_false, fsL_val])
       | with_reducible refine keep_exnil ?_
       | ((with_reducible refine keep0_i ?_); simp only [lP, seval])
       | simp (maxSteps := 1000000) (disch := omega) only [lE, ptrCells, ptrAdd, isNil, readsV, readsP, isCall, wrote, srcOf, seval, Int.natCast_one, Int.lt_irrefl, List.length_cons, List.length_nil, IdxR_0, ti27, Bool.true_or, Bool.false_or, c1, c2, decide_false, fsL_val])
      all_goals clear h58 hev2
      all_goals (try simp only [lP, seval])
      · rename_i h
        simp [simpU, T.isVal, h, fs_val]
      · rename_i h h2 h3
        subst h2
        simp [simpU, T.isVal, h, fs_un, negT, fsL_val]
      · rename_i h h2
        simp [simpU, T.isVal, h, h2, fs_un, fsL_val]
      all_goals trace_state
    | un o x =>
      simp only [T.isVal, fsL_un] at *
      have c3 : cmpB o = false := by have := hw.1; simp only [cmpB, decide_eq_false_iff_not]; omega
      repeat' (first
       | (with_reducible apply St.o; constructor) <;> intro _
       | with_reducible first | refine LenR_i fun _ => ?_ | refine And.intro (by omega) ?_ | (apply Sp.o; constructor) | refine frz0_i ?_
       | ((with_reducible apply Sc.o true; constructor); simp only [lP, seval, Int.natCast_one, Int.lt_irrefl, List.length_cons, List.length_nil, IdxR_0, ti27, Bool.true_or, Bool.false_or, c1, c2, c3, decide_false, fsL_val]; refine ⟨_, h58 _, ?_⟩; rintro _ _ ⟨rfl, rfl⟩; simp only [lA, lP, ptrCells, ptrAdd, isNil, readsV, readsP, isCall, wrote, srcOf, seval, Int.natCast_one, Int.lt_irrefl, List.length_cons, List.length_nil, IdxR_0, ti27, Bool.true_or, Bool.false_or, c1, c2, c3, decide_false, fsL_val])
       | ((with_reducible refine keep0_i ?_); simp only [lP, seval])
       | simp (maxSteps := 1000000) (disch := omega) only [lE, ptrCells, ptrAdd, isNil, readsV, readsP, isCall, wrote, srcOf, seval, Int.natCast_one, Int.lt_irrefl, List.length_cons, List.length_nil, IdxR_0, ti27, Bool.true_or, Bool.false_or, c1, c2, c3, decide_false, fsL_val])
      all_goals clear h58 hev
      all_goals (simp only [simpU, T.isVal, negT, *]; simp [fs_un, fsL_un, tv_fs, *])
      all_goals trace_state
    | bin o x y =>
      simp only [T.isVal, fsL_bin] at *
      have ho : o ≠ 14 := by have := hw.1; omega
      repeat' (first
       | (with_reducible apply St.o; constructor) <;> intro _
       | with_reducible first | refine LenR_i fun _ => ?_ | refine And.intro (by omega) ?_ | (apply Sp.o; constructor) | refine frz0_i ?_
       | ((with_reducible apply Sc.o true; constructor); simp only [lP, seval, Int.natCast_one, Int.lt_irrefl, List.length_cons, List.length_nil, IdxR_0, ti27, Bool.true_or, Bool.false_or, c1, c2, ho, decide_false, fsL_val]; (first | refine ⟨_, h58 _, ?_⟩ | refine ⟨_, c99 o (by assumption), ?_⟩); rintro _ _ ⟨rfl, rfl⟩; simp only [lA, lP, ptrCells, ptrAdd, isNil, readsV, readsP, isCall, wrote, srcOf, seval, Int.natCast_one, Int.lt_irrefl, List.length_cons, List.length_nil, IdxR_0, ti27, Bool.true_or, Bool.false_or, c1, c2, ho, decide_false, fsL_val])
       | with_reducible refine any_i [1] ?_
       | ((with_reducible refine keep0_i ?_); simp only [lP, seval])
       | simp (maxSteps := 1000000) (disch := omega) only [lE, ptrCells, ptrAdd, isNil, readsV, readsP, isCall, wrote, srcOf, seval, Int.natCast_one, Int.lt_irrefl, List.length_cons, List.length_nil, IdxR_0, ti27, Bool.true_or, Bool.false_or, c1, c2, ho, decide_false, fsL_val])
      all_goals clear h58 hev
      all_goals (simp only [simpU, T.isVal, negT, *]; simp [fs_un, fs_bin, fsL_bin, *])
      all_goals trace_state
end Go.Proofs.Try
