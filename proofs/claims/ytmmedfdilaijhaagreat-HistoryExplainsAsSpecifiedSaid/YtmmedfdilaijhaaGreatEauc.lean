/-
  A part of the proof: see the text of the law.
-/
import Derived.Test.YtmmedfdilaijhaaGreatEaub
import Derived.Test.YtmmedfdilaijhaaGreatAlphaS
import Derived.Sort.OwnSortedInts
set_option linter.unusedSimpArgs false
set_option linter.unusedVariables false
namespace Go.Proofs.Try
open Go.Proofs.Tryz
open Go.Al
set_option maxRecDepth 100000
def mc49 : MC :=
(.seq (.ops [(none,.v (.load 4 false 1 (.t 1))),
(none,.e (.rng 5 (.t 4)))])
(.block 0 (.loop (.seq (.ops [(none,.e (.nxt 6 (.t 5))),
(none,.v (.ext 7 0 (.t 6)))])
(.seq (.cond 7
.skip
(.exit 0))
(.block 1 (.seq (.ops [(none,.p (.ent 8 (.t 5))),
(none,.v (.ext 9 0 (.t 8))),
(none,.v (.mov 3 (.t 9)))])
(.seq (.ops [(none,.v (.mov 10 (.t 0))),
(none,.v (.mov 11 (.t 3))),
(none,.e (.callv (some 12) (.t 10) [(.t 11)])),
(none,.v (.not 13 (.t 12)))])
(.cond 13
.ret
.skip)))))))))
theorem ok49 : FnOk E 49 14 [] mc49 := .of func49 (by kernel_rfl) (by kernel_rfl) (by kernel_rfl) (by kernel_rfl) (by kernel_rfl)
end Go.Proofs.Try
namespace Go.Proofs.Try
open Go.Proofs.Tryz
open Go.Al
set_option linter.unusedVariables false
set_option linter.unusedSimpArgs false
set_option maxRecDepth 20000
set_option maxHeartbeats 8000000

section
variable {X : Type} {S : X → (Nat → Prop) → List AObj → Prop} {id : Nat}
theorem c49g (hG : Grows S) (hP : ∀ x G H i o, S x G H → G i → S x G (H.set i o)) (f : X → Int → X) (m : List (Int × (Int × Int))) (bs : List Nat) (c : Nat) (hw : WfM m.length bs c) (b mid : Nat)
    (hb : ∀ x G H, S x G H → H[b]? = some (.box [.mp mid]) ∧ H[mid]? = some (.map (kM m) (vM kp m) bs c))
    (live : X → Nat → Prop) (hl : ∀ x v k, live x (k + 1) → live (f x v) k)
    (hy : ∀ x v k G H, v ∈ m.map (·.1) → live x (k + 1) → S x G H → AYield E.P id [.int .i64 v] H (fun r H' => r = .bool true ∧ Bhd S (f x v) G H H')) (x : X) (hx : live x m.length) (G : Nat → Prop) (H : List AObj) (hs : S x G H) :
    ACalls E.P 49 [.yld id, .op b 0] H (fun r H' => ∃ l : List Int, l.Perm (m.map (·.1)) ∧ Bhd S (l.foldl f x) G H H') := by
  have hmax := maxLen_eq
  refine ok49.acalls0 hE hm (by simp) fun N hN => ?_
  unfold mc49
  obtain ⟨f1, f2⟩ := hb _ _ _ hs
  simp only [lA,ptrCells,ptrAdd,isNil,readsV,readsP,isCall,wrote,srcOf,seval,f1,f2]
  refine loop_i (fun p : List Nat × List AObj => p.1.Nodup ∧ (∀ i ∈ p.1, i < m.length) ∧ live ((p.1.map fun i => (m.getD i default).1).foldl f x) (m.length - p.1.length) ∧ Bhd S ((p.1.map fun i => (m.getD i default).1).foldl f x) G H p.2 ∧
      S ((p.1.map fun i => (m.getD i default).1).foldl f x) (fun i => G i ∨ i = H.length) p.2 ∧ p.2[H.length]? = some (.mit (some mid) c (p.1.map fun i => bs.getD i 0) c))
    (fun p => ⟨[(0, .yld id), (5, .itr H.length)], p.2⟩) (fun p => m.length - p.1.length) ([], H ++ [.mit (some mid) c [] c])
    ⟨.nil, by simp, by simpa using hx, hG.skip hs, hG.push _ _ _ _ hs, by simp⟩ (Ent.fr (by simp [FrSub, Go.Al.get])) ?_
  rintro ⟨is, H2⟩ ⟨hn, hlt, hlv, hbd, hS, hit⟩
  simp only at hn hlt hlv hbd hS hit ⊢
  obtain ⟨f3, f4⟩ := hb _ _ _ hS
  repeat' (first | (with_reducible apply St.o; constructor) <;> intro _ | (with_reducible first | refine LenR_i fun _ => ?_ | refine And.intro (by omega) ?_ | (apply Sp.o; constructor) | refine mkl_own ?_ | refine frz0_i ?_) | simp (maxSteps := 1000000) (disch := omega) only [lE,ptrCells,ptrAdd,isNil,readsV,readsP,isCall,wrote,srcOf,seval,hit,f4])
  have hin : ∀ i j, i < m.length → j < m.length → bs.getD i 0 = bs.getD j 0 → i = j := fun i j hi hj e => by
    rw [← hw.len] at hi hj
    rw [List.getD_eq_getElem?_getD, List.getD_eq_getElem?_getD, List.getElem?_eq_getElem hi, List.getElem?_eq_getElem hj] at e
    exact nodup_inj hw.nodup e
  refine nxt_i hw.lt (Nat.le_refl _) (fun hall => ?_) (fun i b' kx vx hb' hns hkx hvx => ?_)
  · simp only [lA,ptrCells,ptrAdd,isNil,readsV,readsP,isCall,wrote,srcOf,seval]
    repeat' (first | (with_reducible apply St.o; constructor) <;> intro _ | (with_reducible first | refine LenR_i fun _ => ?_ | refine And.intro (by omega) ?_ | (apply Sp.o; constructor) | refine mkl_own ?_ | refine frz0_i ?_) | simp (maxSteps := 1000000) (disch := omega) only [lE,ptrCells,ptrAdd,isNil,readsV,readsP,isCall,wrote,srcOf,seval])
    refine ⟨_, perm_all hn hlt (fun i hi => ?_), hbd⟩
    have hib : bs.getD i 0 ∈ bs := by
      rw [List.getD_eq_getElem?_getD, List.getElem?_eq_getElem (by rw [hw.len]; exact hi), Option.getD_some]
      exact List.getElem_mem _
    obtain ⟨j, hj, e⟩ := List.mem_map.1 (hall _ hib)
    rw [hin j i (hlt j hj) hi e] at hj
    exact hj
  · obtain ⟨hi, e0⟩ := List.getElem?_eq_some_iff.1 hb'
    rw [hw.len] at hi
    have hbi : bs.getD i 0 = b' := by rw [List.getD_eq_getElem?_getD, hb']; rfl
    have hni : i ∉ is := fun h => hns (by rw [← hbi]; exact List.mem_map.2 ⟨i, h, rfl⟩)
    have hmi : m[i]? = some (m.getD i default) := by rw [List.getElem?_eq_getElem hi, List.getD_eq_getElem?_getD, List.getElem?_eq_getElem hi, Option.getD_some]
    have hvm : (m.getD i default).1 ∈ m.map (·.1) := List.mem_map.2 ⟨_, List.mem_of_getElem? hmi, rfl⟩
    have hkx2 : kx = .int .i64 (m.getD i default).1 := by
      rw [kM, List.getElem?_map, hmi] at hkx
      cases hkx; rfl
    subst hkx2
    have hHl : H.length < H2.length := (List.getElem?_eq_some_iff.1 hit).1
    have hS3 := hP _ _ _ H.length (.mit (some mid) c (is.map (fun i => bs.getD i 0) ++ [b']) c) hS (.inr rfl)
    have hit3 : (H2.set H.length (.mit (some mid) c (is.map (fun i => bs.getD i 0) ++ [b']) c))[H.length]? = some (.mit (some mid) c (is.map (fun i => bs.getD i 0) ++ [b']) c) := at_same _ _ _ hHl
    have hbd3 : ∀ i, G i → (H2.set H.length (.mit (some mid) c (is.map (fun i => bs.getD i 0) ++ [b']) c))[i]? = H[i]? := fun i hi => by
      have := hG.lt _ _ _ _ hs hi
      rw [at_set _ _ H.length i (by omega)]
      exact hbd.2.2 i hi
    have hlen3 : (H2.set H.length (.mit (some mid) c (is.map (fun i => bs.getD i 0) ++ [b']) c)).length = H2.length := by simp
    generalize H2.set H.length (.mit (some mid) c (is.map (fun i => bs.getD i 0) ++ [b']) c) = H3 at *
    obtain ⟨f5, f6⟩ := hb _ _ _ hS3
    have hn2 : (is ++ [i]).Nodup := List.nodup_append.2 ⟨hn, by simp, fun a ha b hb e => by
      rw [List.mem_singleton.1 hb] at e
      exact hni (e ▸ ha)⟩
    have hlt2 : ∀ j ∈ is ++ [i], j < m.length := fun j hj => by
      rcases List.mem_append.1 hj with hj | hj
      · exact hlt j hj
      · rw [List.mem_singleton.1 hj]; exact hi
    have hle : (is ++ [i]).length ≤ m.length := by
      have := nodup_len (B := List.range m.length) hn2 fun j hj => List.mem_range.2 (hlt2 j hj)
      rwa [List.length_range] at this
    simp only [List.length_append,List.length_cons,List.length_nil] at hle
    have hfold : ((is ++ [i]).map fun i => (m.getD i default).1).foldl f x = f ((is.map fun i => (m.getD i default).1).foldl f x) (m.getD i default).1 := by
      rw [List.map_append, List.foldl_append]; rfl
    have hlv2 : live ((is.map fun i => (m.getD i default).1).foldl f x) ((m.length - (is.length + 1)) + 1) := by rwa [show m.length - (is.length + 1) + 1 = m.length - is.length by omega]
    generalize hv : (m.getD i default).1 = v at *
    have hyl := hy _ v _ _ _ hvm hlv2 hS3
    simp only [lA,ptrCells,ptrAdd,isNil,readsV,readsP,isCall,wrote,srcOf,seval,hit3]
    rw [f6]
    refine ent_i i b' rfl hb' hkx hvx ?_
    simp only [lA,ptrCells,ptrAdd,isNil,readsV,readsP,isCall,wrote,srcOf,seval]
    refine yld_i hyl ?_
    rintro _ H4 ⟨rfl, hb5⟩
    simp only [lA,ptrCells,ptrAdd,isNil,readsV,readsP,isCall,wrote,srcOf,seval]
    refine back_i (is ++ [i],H4) ⟨hn2,hlt2,?_,?_,?_,?_⟩ (by simp only [List.length_append,List.length_cons,List.length_nil]; omega) (Ent.fr (by simp [FrSub,Go.Al.get]))
    · rw [hfold]
      simp only [List.length_append,List.length_cons,List.length_nil]
      exact hl _ _ _ hlv2
    · rw [hfold]
      refine ⟨hG.weak _ _ _ _ hb5.1 fun i hi => .inl hi, ?_, fun i hi => ?_⟩
      · have := hb5.2.1
        have := hbd.2.1
        simp only
        omega
      · rw [hb5.2.2 i (.inl hi)]
        exact hbd3 i hi
    · rw [hfold]
      exact hb5.1
    · rw [hb5.2.2 _ (.inr rfl), hit3, List.map_append]
      simp only [List.map_cons,List.map_nil,hbi]
end
end Go.Proofs.Try


namespace Go.Proofs.Try
open Go.Proofs.Tryz
open Go.Al
set_option maxRecDepth 100000
def mc20 : MC :=
(.seq (.ops [(none,.v (.mov 2 (.c (.raw (.slice none 0 0)))))])
(.seq (.ops [(none,.v (.mov 4 (.t 0))),
(none,.e (.call (some 5) 47 [(.t 4)])),
(none,.v (.mov 3 (.t 5)))])
(.seq (.ops [(none,.v (.mov 6 (.t 3))),
(none,.e (.call (some 7) 48 [(.t 6)]))])
(.seq (.ops [(none,.v (.mov 8 (.t 3))),
(none,.v (.mov 2 (.t 8)))])
.ret))))
theorem ok20 : FnOk E 20 9 [.tmp 2] mc20 := .of func20 (by kernel_rfl) (by kernel_rfl) (by kernel_rfl) (by kernel_rfl) (by kernel_rfl)
def mc21 : MC :=
(.seq (.ops [(none,.e (.box 1 (.t 0))),
(none,.v (.mov 2 (.c (.raw .nilFunc))))])
(.seq (.ops [(none,.v (.fn 3 (.func 49) [] [(.t 1)])),
(none,.v (.mov 2 (.t 3)))])
.ret))
theorem ok21 : FnOk E 21 4 [.tmp 2] mc21 := .of func21 (by kernel_rfl) (by kernel_rfl) (by kernel_rfl) (by kernel_rfl) (by kernel_rfl)
def mc47 : MC :=
(.seq (.ops [(none,.v (.mov 2 (.c (.raw (.slice none 0 0)))))])
(.seq (.ops [(none,.v (.mov 3 (.t 0))),
(none,.e (.call (some 4) 73 [(.c (.raw (.slice none 0 0))),(.t 3)])),
(none,.v (.mov 2 (.t 4)))])
.ret))
theorem ok47 : FnOk E 47 5 [.tmp 2] mc47 := .of func47 (by kernel_rfl) (by kernel_rfl) (by kernel_rfl) (by kernel_rfl) (by kernel_rfl)
def mc73 : MC :=
(.seq (.ops [(none,.e (.box 2 (.t 0))),
(none,.v (.mov 4 (.c (.raw (.slice none 0 0)))))])
(.seq (.seq (.ops [(none,.v (.mov 6 (.t 1)))])
(.block 0 (.rngf (.t 6) #[7] (.ops [(none,.v (.mov 5 (.t 7)))]) (.block 1 (.ops [(none,.v (.load 8 false 1 (.t 2))),
(none,.v (.mov 9 (.t 5))),
(none,.e (.mkl 10 3 1 1 (.int .i64 0) [(0,(.t 9))])),
(none,.e (.app 11 3 1 8 (.t 8) (.t 10))),
(none,.e (.store 1 false (.t 2) (.t 11)))])))))
(.seq (.ops [(none,.v (.load 12 false 1 (.t 2))),
(none,.v (.mov 4 (.t 12)))])
.ret)))
theorem ok73 : FnOk E 73 13 [.tmp 4] mc73 := .of func73 (by kernel_rfl) (by kernel_rfl) (by kernel_rfl) (by kernel_rfl) (by kernel_rfl)
end Go.Proofs.Try
namespace Go.Proofs.Try
open Go.Proofs.Tryz
open Go.Al
set_option linter.unusedVariables false
set_option linter.unusedSimpArgs false
set_option maxRecDepth 20000
set_option maxHeartbeats 8000000

def spB (m : List (Int × (Int × Int))) (bs : List Nat) (c : Nat) : List AObj := [.map (kM m) (vM kp m) bs c, .box [.mp 0]]
theorem c73 (m : List (Int × (Int × Int))) (bs : List Nat) (c : Nat) (hw : WfM m.length bs c) (hc : m.length ≤ 1048576) :
    ACalls E.P 73 [.raw (.slice none 0 0), .fn (.func 49) [] [.op 1 0]] (spB m bs c) (fun r H => ∃ l : List Int, l.Perm (m.map (·.1)) ∧ ((l = [] ∧ r = .raw (.slice none 0 0) ∧ H = spB m bs c) ∨ (r = .slc 2 1 l.length ∧ H = spB m bs c ++ [.arr 3 1 (l.map (AV.int .i64))]))) := by
  have hmax := maxLen_eq
  refine ok73.acalls hE hm (by simp) fun N hN => ?_
  unfold mc73 spB
  simp only [lA,ptrCells,ptrAdd,isNil,readsV,readsP,isCall,wrote,srcOf,seval]
  refine rng_i hN [(2, .op 2 0)] (by simp [FrSub, Go.Al.get]) fun fn cas bd hy => ?_
  let lo : LoopState → AObj := fun st => .loop st none [(2, .op 2 0)] N.n fn #[7] cas bd
  let F : List AObj := [.map (kM m) (vM kp m) bs c, .box [.mp 0], .dead, lo .ready]
  have hG : Grows (colW (AV.int .i64) 3 1 F 2) := colW_grows F 2
  have hY : ∀ (x : List Int) (v : Int) (k : Nat) (G : Nat → Prop) (H : List AObj), v ∈ m.map (·.1) → x.length + (k + 1) ≤ 1048576 → colW (AV.int .i64) 3 1 F 2 x G H → AYield E.P 3 [.int .i64 v] H (fun r H' => r = .bool true ∧ Bhd (colW (AV.int .i64) 3 1 F 2) (x ++ [v]) G H H') := by
    rintro x v k G H _ hk hS
    have h3 : H[3]? = some (lo .ready) := hS.1 3 (by simp [F]) (by omega)
    have hlen := hS.2.2.2.1
    refine hy 3 [(2, .op 2 0)] [.int .i64 v] H _ h3 rfl fun N2 hN2 => ?_
    have hlen4 : 4 ≤ H.length := hlen
    simp only [lA,ptrCells,ptrAdd,isNil,readsV,readsP,isCall,wrote,srcOf,seval,get_last,set_last]
    refine ⟨h3, ?_⟩
    obtain ⟨H1, hH1⟩ : ∃ H1, H1 = H.set 3 (.loop .busy none [(2, .op 2 0)] N.n fn #[7] cas bd) := ⟨_, rfl⟩
    have hf31 : H1[3]? = some (lo .busy) := by rw [hH1]; exact at_same _ _ 3 (by omega)
    have hlen1 : H1.length = H.length := by rw [hH1]; simp
    have hSb : colW (AV.int .i64) 3 1 (F.set 3 (lo .busy)) 2 x G H1 := by rw [hH1]; exact colW_put (lo .busy) hS (n := 3) (by simp [F]) (by omega)
    have hback : ∀ x' H', Bhd (colW (AV.int .i64) 3 1 (F.set 3 (lo .busy)) 2) x' G H1 H' → Bhd (colW (AV.int .i64) 3 1 F 2) x' G H (H'.set 3 (lo .ready)) := fun x' H' h =>
      colW_back (lo .ready) (lo .busy) ⟨x, hS⟩ (by rw [hH1] at h; exact h) (by simp [F]) (by omega) rfl
    rw [← hH1]
    clear hH1
    have hq := hSb.2.2.2.2
    rcases hq with ⟨rfl, h1⟩ | ⟨a, a1, a2, a3, a4, a5⟩
    · have g1 : ∀ o o', (H1 ++ [o] ++ [o'])[2]? = some (.box [.raw (.slice none 0 0)]) := fun o o' => by rw [at_app _ _ 2 (by simp <;> omega), at_app _ _ 2 (by omega)]; exact h1
      repeat' (first | (with_reducible apply St.o; constructor) <;> intro _ | (with_reducible first | refine LenR_i fun _ => ?_ | refine And.intro (by omega) ?_ | (apply Sp.o; constructor) | refine mkl_own ?_ | refine frz0_i ?_) | ((with_reducible refine keep0_i ?_); simp only [lP,seval]) | simp (maxSteps := 1000000) (disch := omega) only [lE,ptrCells,ptrAdd,isNil,readsV,readsP,isCall,wrote,srcOf,seval,h1,g1,get_last,fillE,setAll,List.length_cons,List.length_nil,List.length_append])
      refine round_i (o := fun st pd => .loop st pd [(2, .op 2 0)] N.n fn #[7] cas bd) (by rw [at_set _ _ 2 3 (by omega), at_app _ _ 3 (by simp <;> omega), at_app _ _ 3 (by omega)]; exact hf31) ⟨rfl, ?_⟩
      exact hback _ _ (colW_one v _ hSb)
    · have g1 : ∀ o o', ((H1 ++ [o]).set a .dead ++ [o'])[2]? = some (.box [.slc a 1 x.length]) := fun o o' => by rw [at_app _ _ 2 (by simp <;> omega), at_set _ _ a 2 (by simp [F] at a1; omega), at_app _ _ 2 (by omega)]; exact a4
      have g2 : ∀ o, (H1 ++ [o])[a]? = some (.arr 3 1 (x.map (AV.int .i64))) := fun o => by rw [at_app _ _ a (by omega)]; exact a5
      repeat' (first | (with_reducible apply St.o; constructor) <;> intro _ | (with_reducible first | refine LenR_i fun _ => ?_ | refine And.intro (by omega) ?_ | (apply Sp.o; constructor) | refine mkl_own ?_ | refine frz0_i ?_) | ((with_reducible refine keep0_i ?_); simp only [lP,seval]) | simp (maxSteps := 1000000) (disch := omega) only [lE,ptrCells,ptrAdd,isNil,readsV,readsP,isCall,wrote,srcOf,seval,a4,g1,g2,get_last,fillE,setAll,List.length_map,List.length_cons,List.length_nil,List.length_append,List.length_set])
      refine round_i (o := fun st pd => .loop st pd [(2, .op 2 0)] N.n fn #[7] cas bd) (by rw [at_set _ _ 2 3 (by omega), at_app _ _ 3 (by simp <;> omega), at_set _ _ a 3 (by simp [F] at a1; omega), at_app _ _ 3 (by omega)]; exact hf31) ⟨rfl, ?_⟩
      have := colW_snoc v (.arr 3 1 [.int .i64 v]) hSb a1 a2 a3
      exact hback _ _ this
  have h65 := c49g (S := colW (AV.int .i64) 3 1 F 2) (id := 3) hG (fun x G H i o h hi => colW_at i o h hi) (fun x v => x ++ [v]) m bs c hw 1 0 (fun x G H h => ⟨h.1 1 (by simp [F]) (by omega), h.1 0 (by simp [F]) (by omega)⟩)
    (fun x k => x.length + k ≤ 1048576) (fun x v k h => by simp only [List.length_append,List.length_cons,List.length_nil]; omega) hY [] (by simpa using hc) (fun _ => False)
    [.map (kM m) (vM kp m) bs c, .box [.mp 0], .box [.raw (.slice none 0 0)], lo .ready] ⟨fun i h1 h2 => by
      have h4 : i < 4 := h1
      have : i = 0 ∨ i = 1 ∨ i = 3 := by omega
      rcases this with rfl | rfl | rfl <;> rfl, fun i h => h.elim, by simp [F], by simp [F], .inl ⟨rfl, rfl⟩⟩
  refine ⟨_, h65, ?_⟩
  rintro r H' ⟨l, hp, ⟨h0, _, _, h3, hx⟩, _, _⟩
  rw [fold_snocH, List.nil_append] at hx
  have e0 : H'[0]? = some (.map (kM m) (vM kp m) bs c) := h0 0 (by simp [F]) (by omega)
  have e1 : H'[1]? = some (.box [.mp 0]) := h0 1 (by simp [F]) (by omega)
  have e3 : H'[3]? = some (lo .ready) := h0 3 (by simp [F]) (by omega)
  have h34 : 4 ≤ H'.length := h3
  have g0 : (H'.set 3 .lost)[0]? = some (.map (kM m) (vM kp m) bs c) := by rw [at_set _ _ 3 0 (by omega)]; exact e0
  have g1 : (H'.set 3 .lost)[1]? = some (.box [.mp 0]) := by rw [at_set _ _ 3 1 (by omega)]; exact e1
  have hl2 : (H'.set 3 .lost).length = H'.length := by simp
  refine ⟨.ready, none, [(2, .op 2 0)], e3, by simp, [(2, .op 2 0)], H'.set 3 .lost, Ent.fr (by simp [FrSub, Go.Al.get]), ?_⟩
  rcases hx with ⟨rfl, h1⟩ | ⟨a, a1, a2, _, a4, a5⟩
  · have g2 : (H'.set 3 .lost)[2]? = some (.box [.raw (.slice none 0 0)]) := by rw [at_set _ _ 3 2 (by omega)]; exact h1
    generalize H'.set 3 .lost = H2 at *
    repeat' (first | (with_reducible apply St.o; constructor) <;> intro _ | (with_reducible first | refine LenR_i fun _ => ?_ | refine And.intro (by omega) ?_ | (apply Sp.o; constructor) | refine mkl_own ?_ | refine frz0_i ?_) | simp (maxSteps := 1000000) (disch := omega) only [lE,ptrCells,ptrAdd,isNil,readsV,readsP,isCall,wrote,srcOf,seval,g2])
    refine keep_i [0, 1] false (by simp; omega) (by simp) rfl ⟨[], hp, .inl ⟨rfl, ?_, ?_⟩⟩
    · simp only [lP,seval]
    · simp only [lP,seval,g0,g1,pa_kM,pa_vP]
  · have ha4 : 4 ≤ a := a1
    have g2 : (H'.set 3 .lost)[2]? = some (.box [.slc a 1 l.length]) := by rw [at_set _ _ 3 2 (by omega)]; exact a4
    have ga : (H'.set 3 .lost)[a]? = some (.arr 3 1 (l.map (AV.int .i64))) := by rw [at_set _ _ 3 a (by omega)]; exact a5
    generalize H'.set 3 .lost = H2 at *
    repeat' (first | (with_reducible apply St.o; constructor) <;> intro _ | (with_reducible first | refine LenR_i fun _ => ?_ | refine And.intro (by omega) ?_ | (apply Sp.o; constructor) | refine mkl_own ?_ | refine frz0_i ?_) | simp (maxSteps := 1000000) (disch := omega) only [lE,ptrCells,ptrAdd,isNil,readsV,readsP,isCall,wrote,srcOf,seval,g2])
    have hpos : pos [0, 1, a] a 0 = some 2 := by
      have z1 : ¬ 0 = a := by omega
      have z2 : ¬ 1 = a := by omega
      simp [pos, z1, z2]
    refine keep_i [0, 1, a] false (by simp; omega) (by simp; omega) rfl ⟨l, hp, .inr ⟨?_, ?_⟩⟩
    · simp only [lP,seval,hpos]
    · simp only [lP,seval,g0,g1,ga,pa_kM,pa_vP,pa_ints]
theorem c47 (m : List (Int × (Int × Int))) (bs : List Nat) (c : Nat) (hw : WfM m.length bs c) (hc : m.length ≤ 1048576) :
    ACalls E.P 47 [.fn (.func 49) [] [.op 1 0]] (spB m bs c) (fun r H => ∃ l : List Int, l.Perm (m.map (·.1)) ∧ ((l = [] ∧ r = .raw (.slice none 0 0) ∧ H = spB m bs c) ∨ (r = .slc 2 1 l.length ∧ H = spB m bs c ++ [.arr 3 1 (l.map (AV.int .i64))]))) := by
  have h72 := c73 m bs c hw hc
  refine ok47.acalls hE hm (by simp) fun N hN => ?_
  unfold mc47
  unfold spB at *
  simp only [lA,ptrCells,ptrAdd,isNil,readsV,readsP,isCall,wrote,srcOf,seval]
  refine callN_i [0, 1] false (by simp) (by simp) ?_
  simp only [lP,seval,pa_kM,pa_vP]
  refine ⟨_, h72, ?_⟩
  rintro r H ⟨l, hp, ⟨rfl, rfl, rfl⟩ | ⟨rfl, rfl⟩⟩
  · simp only [lA,lP,ptrCells,ptrAdd,isNil,readsV,readsP,isCall,wrote,srcOf,seval,renL_kM,renL_vP]
    refine keep_i [0, 1] false rfl (by simp) rfl ⟨[], hp, .inl ⟨rfl, ?_, ?_⟩⟩
    · simp only [lP,seval]
    · simp only [lP,seval,pa_kM,pa_vP]
  · simp only [lA,lP,ptrCells,ptrAdd,isNil,readsV,readsP,isCall,wrote,srcOf,seval,renL_kM,renL_vP]
    refine keep_i [0, 1, 2] false (by simp) (by simp) rfl ⟨l, hp, .inr ⟨?_, ?_⟩⟩
    · simp only [lP,seval]
    · simp only [lP,seval,pa_kM,pa_vP,pa_ints,renL_ints]
def srt (zs : List Int) : List Int := zs.mergeSort fun x y => decide (x ≤ y)
theorem srt_len (zs : List Int) : (srt zs).length = zs.length := by simp [srt]
theorem srt_perm (zs : List Int) : (srt zs).Perm zs := List.mergeSort_perm _ _
theorem srt_asc (zs : List Int) : (srt zs).Pairwise fun x y => x ≤ y := by
  have := List.pairwise_mergeSort (le := fun x y : Int => decide (x ≤ y)) (by intro a b c h1 h2; simp only [decide_eq_true_eq] at *; omega) (by intro a b; simp only [Bool.or_eq_true,decide_eq_true_eq]; omega) zs
  exact this.imp fun {a b} h => by simpa using h
theorem srt_congr {l l' : List Int} (h : l.Perm l') : srt l = srt l' :=
  (((srt_perm l).trans h).trans (srt_perm l').symm).eq_of_pairwise (fun a b _ _ h1 h2 => by omega) (srt_asc l) (srt_asc l')
theorem bodied48 : Bodied E.P 48 := ⟨_, Tryz.func48, by kernel_rfl, by kernel_rfl⟩
theorem c48 (zs : List Int) (h : zs.length < 4611686018427387904) : ACalls E.P 48 [.slc 0 1 zs.length] [.arr 3 1 (zs.map (AV.int .i64))] (fun r H => r = .tup [] ∧ H = [.arr 3 1 ((srt zs).map (AV.int .i64))]) :=
  bridge_ints (R := none) bodied48 (srt_len zs) (fun m hm => by cases hm) (fun _ p cap w => Tryz.slices_Sort_int_none p cap w)
    (fun blk cap w _ hH hb _ _ => Tryz.slices_Sort_int blk 0 cap zs w hH hb h)
theorem nil_call {P : Program} {f : FuncId} {r : AV} {v : Value} (hb : Bodied P f) (hr : ∀ γ σ, RepV γ σ r v) (h : ∀ w, Calls P f #[.slice none 0 0] w fun e w' => e = .returned v ∧ w' = w) : ACalls P f [.raw (.slice none 0 0)] [] (fun q H => q = r ∧ H = []) :=
  ⟨hb, fun γ σ w vs hi hv => by
    obtain ⟨u, _, rfl, hu, rfl⟩ := hv
    have hu : u = .slice none 0 0 := hu
    subst hu
    refine (h w).mono ?_
    rintro e w' ⟨rfl, rfl⟩
    exact ⟨_, γ, σ, _, _, rfl, .refl _ _ _, hi, hr γ σ, rfl, rfl⟩⟩
theorem c48nil : ACalls E.P 48 [.raw (.slice none 0 0)] [] (fun q H => q = .tup [] ∧ H = []) := nil_call (v := .tuple #[]) bodied48 (fun _ _ => ⟨[], rfl, rfl⟩) (fun w => Tryz.slices_Sort_int_none none 0 w)
theorem c20 (m : List (Int × (Int × Int))) (bs : List Nat) (c : Nat) (hw : WfM m.length bs c) (hc : m.length ≤ 1048576) :
    ACalls E.P 20 [.fn (.func 49) [] [.op 1 0]] (spB m bs c) (fun r H => r = .view 1 ((srt (m.map (·.1))).map (AV.int .i64)) ∧ H = spB m bs c) := by
  have h63 := c47 m bs c hw hc
  have h64n := c48nil
  refine ok20.acalls hE hm (by simp) fun N hN => ?_
  unfold mc20
  unfold spB at *
  simp only [lA,ptrCells,ptrAdd,isNil,readsV,readsP,isCall,wrote,srcOf,seval]
  refine callN_i [0, 1] false (by simp) (by simp) ?_
  simp only [lP,seval,pa_kM,pa_vP]
  refine ⟨_, h63, ?_⟩
  rintro r H ⟨l, hp, ⟨rfl, rfl, rfl⟩ | ⟨rfl, rfl⟩⟩
  · have he : srt (m.map (·.1)) = [] := by rw [← srt_congr hp]; simp [srt]
    simp only [lA,lP,ptrCells,ptrAdd,isNil,readsV,readsP,isCall,wrote,srcOf,seval,renL_kM,renL_vP]
    refine callN_i [] false (by simp) (by simp) ?_
    simp only [lP,seval]
    refine ⟨_, h64n, ?_⟩
    rintro _ _ ⟨rfl, rfl⟩
    simp only [lA,lP,ptrCells,ptrAdd,isNil,readsV,readsP,isCall,wrote,srcOf,seval]
    exact keepw_i [0, 1] false rfl (by simp) rfl weak_nil ⟨by rw [he]; rfl,by simp only [lP,seval,pa_kM,pa_vP]⟩
  · have h64 := c48 l (by rw [hp.length_eq, List.length_map]; omega)
    have hsl := srt_len l
    simp only [lA,lP,ptrCells,ptrAdd,isNil,readsV,readsP,isCall,wrote,srcOf,seval,renL_kM,renL_vP]
    refine callN_i [2] false (by simp) (by simp) ?_
    simp only [lP,seval,pa_ints,renL_ints]
    refine ⟨_, h64, ?_⟩
    rintro _ _ ⟨rfl, rfl⟩
    simp only [lA,lP,ptrCells,ptrAdd,isNil,readsV,readsP,isCall,wrote,srcOf,seval]
    rw [srt_congr hp] at *
    refine keep_i [0, 1] true (by simp) (by simp) rfl ⟨?_, ?_⟩
    · simp only [lP,seval,renL_ints,vw_ints,List.length_map,hsl]
    · simp only [lP,seval,pa_kM,pa_vP]
theorem c21 (m : List (Int × (Int × Int))) (bs : List Nat) (c : Nat) : ACalls E.P 21 [.mp 0] [.map (kM m) (vM kp m) bs c] (fun r H => r = .fn (.func 49) [] [.op 1 0] ∧ H = spB m bs c) := by
  refine ok21.acalls hE hm (by simp) fun N hN => ?_
  unfold mc21 spB
  simp only [lA,ptrCells,ptrAdd,isNil,readsV,readsP,isCall,wrote,srcOf,seval]
  repeat' (first | (with_reducible apply St.o; constructor) <;> intro _ | (with_reducible first | refine LenR_i fun _ => ?_ | refine And.intro (by omega) ?_ | (apply Sp.o; constructor) | refine mkl_own ?_ | refine frz0_i ?_) | simp (maxSteps := 1000000) (disch := omega) only [lE,ptrCells,ptrAdd,isNil,readsV,readsP,isCall,wrote,srcOf,seval])
  all_goals exact keep_i [0, 1] false (by simp) (by simp) rfl ⟨by simp only [lP,seval],by simp only [lP,seval,pa_kM,pa_vP]⟩
end Go.Proofs.Try

