/-
  A part of the proof: see the text of the law.
-/
import Derived.Test.YtmmedfdilaijhaaGreatEas
import Derived.Test.YtmmedfdilaijhaaGreatAlphaK
set_option linter.unusedSimpArgs false
set_option linter.unusedVariables false
namespace Go.Proofs.Try
open Go.Proofs.Tryz
open Go.Al
set_option maxRecDepth 100000
def mc78 : MC :=
(.seq (.ops [(none,.v (.load 5 false 1 (.t 1))),
(none,.e (.rng 6 (.t 5)))])
(.block 0 (.loop (.seq (.ops [(none,.e (.nxt 7 (.t 6))),
(none,.v (.ext 8 0 (.t 7)))])
(.seq (.cond 8
.skip
(.exit 0))
(.block 1 (.seq (.ops [(none,.p (.ent 9 (.t 6))),
(none,.v (.ext 10 1 (.t 9))),
(none,.e (.alloc 4 [(.int .i64 0),(.int .i64 0),(.int .i64 0),(.raw (.slice none 0 0))])),
(none,.e (.store 4 true (.t 4) (.t 10)))])
(.seq (.ops [(none,.v (.mov 11 (.t 0))),
(none,.v (.load 12 true 4 (.t 4))),
(none,.e (.callv (some 13) (.t 11) [(.t 12)])),
(none,.v (.not 14 (.t 13)))])
(.cond 14
.ret
.skip)))))))))
theorem ok78 : FnOk E 78 15 [] mc78 := .of func78 (by kernel_rfl) (by kernel_rfl) (by kernel_rfl) (by kernel_rfl) (by kernel_rfl)
end Go.Proofs.Try
namespace Go.Proofs.Try
open Go.Proofs.Tryz
open Go.Al
set_option linter.unusedVariables false
set_option linter.unusedSimpArgs false
set_option maxRecDepth 20000
set_option maxHeartbeats 8000000

theorem perm_range {is : List Nat} {n : Nat} (h1 : is.Nodup) (h2 : ∀ i ∈ is, i < n) (h3 : ∀ i, i < n → i ∈ is) : is.Perm (List.range n) := by
  refine (List.perm_ext_iff_of_nodup h1 List.nodup_range).2 fun a => ?_
  rw [List.mem_range]
  exact ⟨h2 a, h3 a⟩
theorem range_map {α β : Type} [Inhabited α] (g : α → β) (l : List α) : (List.range l.length).map (fun i => g (l.getD i default)) = l.map g := by
  apply List.ext_getElem
  · simp
  · intro i h1 h2
    simp at h1
    simp [h1]
theorem perm_all {α β : Type} [Inhabited α] {g : α → β} {l : List α} {is : List Nat} (h1 : is.Nodup) (h2 : ∀ i ∈ is, i < l.length) (h3 : ∀ i, i < l.length → i ∈ is) : (is.map fun i => g (l.getD i default)).Perm (l.map g) := by
  rw [← range_map g l]
  exact (perm_range h1 h2 h3).map _
theorem colW_at {α : Type} {av : α → AV} {E : TypeId} {sz : Nat} {F : List AObj} {q : Nat} {x : List α} {G : Nat → Prop} {H : List AObj} (i : Nat) (o : AObj) (h : colW av E sz F q x G H) (hi : G i) : colW av E sz F q x G (H.set i o) := by
  obtain ⟨h0, hg, hq, h3, h⟩ := h
  obtain ⟨g1, g2⟩ := hg i hi
  refine ⟨fun j hj hne => by rw [at_set _ _ i j (by omega)]; exact h0 j hj hne, fun j hj => by simpa using hg j hj, hq, by simpa using h3, ?_⟩
  rcases h with ⟨hx, h1⟩ | ⟨a, a1, a2, a3, a4, a5⟩
  · exact .inl ⟨hx, by rw [at_set _ _ i q (by omega)]; exact h1⟩
  · have hia : i ≠ a := fun e => a3 (e ▸ hi)
    exact .inr ⟨a, a1, by simpa using a2, a3, by rw [at_set _ _ i q (by omega)]; exact a4, by rw [at_set _ _ i a hia]; exact a5⟩
section
variable {X : Type} {S : X → (Nat → Prop) → List AObj → Prop} {id : Nat}
theorem c78g (hG : Grows S) (hP : ∀ x G H i o, S x G H → G i → S x G (H.set i o)) (f : X → Hd → X) (m : List ((Int × Int) × Hd)) (bs : List Nat) (c : Nat) (hw : WfM m.length bs c) (b mid : Nat)
    (hb : ∀ x G H, S x G H → H[b]? = some (.box [.mp mid]) ∧ H[mid]? = some (.map (kW m) (vW Hd.av m) bs c))
    (live : X → Nat → Prop) (hl : ∀ x v k, live x (k + 1) → live (f x v) k)
    (hy : ∀ x v k G H, v ∈ m.map (·.2) → live x (k + 1) → S x G H → AYield E.P id [v.av] H (fun r H' => r = .bool true ∧ Bhd S (f x v) G H H')) (x : X) (hx : live x m.length) (G : Nat → Prop) (H : List AObj) (hs : S x G H) :
    ACalls E.P 78 [.yld id, .op b 0] H (fun r H' => ∃ l : List Hd, l.Perm (m.map (·.2)) ∧ Bhd S (l.foldl f x) G H H') := by
  have hmax := maxLen_eq
  refine ok78.acalls0 hE hm (by simp) fun N hN => ?_
  unfold mc78
  obtain ⟨f1, f2⟩ := hb _ _ _ hs
  simp only [lA,ptrCells,ptrAdd,isNil,readsV,readsP,isCall,wrote,srcOf,seval,f1,f2]
  refine loop_i (fun p : List Nat × List AObj => p.1.Nodup ∧ (∀ i ∈ p.1, i < m.length) ∧ live ((p.1.map fun i => (m.getD i default).2).foldl f x) (m.length - p.1.length) ∧ Bhd S ((p.1.map fun i => (m.getD i default).2).foldl f x) G H p.2 ∧
      S ((p.1.map fun i => (m.getD i default).2).foldl f x) (fun i => G i ∨ i = H.length) p.2 ∧ p.2[H.length]? = some (.mit (some mid) c (p.1.map fun i => bs.getD i 0) c))
    (fun p => ⟨[(0, .yld id), (6, .itr H.length)], p.2⟩) (fun p => m.length - p.1.length) ([], H ++ [.mit (some mid) c [] c])
    ⟨.nil, by simp, by simpa using hx, hG.skip hs, hG.push _ _ _ _ hs, by simp⟩ (Ent.fr (by simp [FrSub, Go.Al.get])) ?_
  rintro ⟨is, H2⟩ ⟨hn, hlt, hlv, hbd, hS, hit⟩
  simp only at hn hlt hlv hbd hS hit ⊢
  obtain ⟨f3, f4⟩ := hb _ _ _ hS
  repeat' (first | (with_reducible apply St.o; constructor) <;> intro _ | (with_reducible first | refine LenR_i fun _ => ?_ | refine And.intro (by omega) ?_ | (apply Sp.o; constructor) | refine mkl_own ?_ | refine frz0_i ?_) | simp (maxSteps := 1000000) (disch := omega) only [lE,ptrCells,ptrAdd,isNil,readsV,readsP,isCall,wrote,srcOf,seval,hit,f4])
  have hin : ∀ i j, i < m.length → j < m.length → bs.getD i 0 = bs.getD j 0 → i = j := fun i j hi hj e => by
    rw [← hw.len] at hi hj
    rw [List.getD_eq_getElem?_getD, List.getD_eq_getElem?_getD, List.getElem?_eq_getElem hi, List.getElem?_eq_getElem hj] at e
    exact nodup_inj hw.nodup e
  refine nxt_i hw.lt (Nat.le_refl _) (fun hall => ?_) (fun i b' kx vx hb' hns hkx hvx => ?_)
  · simp only [lA,ptrCells,ptrAdd,isNil,readsV,readsP,isCall,wrote,srcOf,seval]
    repeat' (first | (with_reducible apply St.o; constructor) <;> intro _ | (with_reducible first | refine LenR_i fun _ => ?_ | refine And.intro (by omega) ?_ | (apply Sp.o; constructor) | refine mkl_own ?_ | refine frz0_i ?_) | simp (maxSteps := 1000000) (disch := omega) only [lE,ptrCells,ptrAdd,isNil,readsV,readsP,isCall,wrote,srcOf,seval])
    refine ⟨_, perm_all hn hlt (fun i hi => ?_), hbd⟩
    have hib : bs.getD i 0 ∈ bs := by
      rw [List.getD_eq_getElem?_getD, List.getElem?_eq_getElem (by rw [hw.len]; exact hi), Option.getD_some]
      exact List.getElem_mem _
    obtain ⟨j, hj, e⟩ := List.mem_map.1 (hall _ hib)
    rw [hin j i (hlt j hj) hi e] at hj
    exact hj
  · obtain ⟨hi, e0⟩ := List.getElem?_eq_some_iff.1 hb'
    rw [hw.len] at hi
    have hbi : bs.getD i 0 = b' := by rw [List.getD_eq_getElem?_getD, hb']; rfl
    have hni : i ∉ is := fun h => hns (by rw [← hbi]; exact List.mem_map.2 ⟨i, h, rfl⟩)
    have hmi : m[i]? = some (m.getD i default) := by rw [List.getElem?_eq_getElem hi, List.getD_eq_getElem?_getD, List.getElem?_eq_getElem hi, Option.getD_some]
    have hvm : (m.getD i default).2 ∈ m.map (·.2) := List.mem_map.2 ⟨_, List.mem_of_getElem? hmi, rfl⟩
    have hvx2 : vx = (m.getD i default).2.av := by
      rw [vW, List.getElem?_map, hmi] at hvx
      cases hvx; rfl
    subst hvx2
    have hHl : H.length < H2.length := (List.getElem?_eq_some_iff.1 hit).1
    have hS3 := hP _ _ _ H.length (.mit (some mid) c (is.map (fun i => bs.getD i 0) ++ [b']) c) hS (.inr rfl)
    have hit3 : (H2.set H.length (.mit (some mid) c (is.map (fun i => bs.getD i 0) ++ [b']) c))[H.length]? = some (.mit (some mid) c (is.map (fun i => bs.getD i 0) ++ [b']) c) := at_same _ _ _ hHl
    have hbd3 : ∀ i, G i → (H2.set H.length (.mit (some mid) c (is.map (fun i => bs.getD i 0) ++ [b']) c))[i]? = H[i]? := fun i hi => by
      have := hG.lt _ _ _ _ hs hi
      rw [at_set _ _ H.length i (by omega)]
      exact hbd.2.2 i hi
    have hlen3 : (H2.set H.length (.mit (some mid) c (is.map (fun i => bs.getD i 0) ++ [b']) c)).length = H2.length := by simp
    generalize H2.set H.length (.mit (some mid) c (is.map (fun i => bs.getD i 0) ++ [b']) c) = H3 at *
    obtain ⟨f5, f6⟩ := hb _ _ _ hS3
    have hn2 : (is ++ [i]).Nodup := List.nodup_append.2 ⟨hn, by simp, fun a ha b hb e => by
      rw [List.mem_singleton.1 hb] at e
      exact hni (e ▸ ha)⟩
    have hlt2 : ∀ j ∈ is ++ [i], j < m.length := fun j hj => by
      rcases List.mem_append.1 hj with hj | hj
      · exact hlt j hj
      · rw [List.mem_singleton.1 hj]; exact hi
    have hle : (is ++ [i]).length ≤ m.length := by
      have := nodup_len (B := List.range m.length) hn2 fun j hj => List.mem_range.2 (hlt2 j hj)
      rwa [List.length_range] at this
    simp only [List.length_append,List.length_cons,List.length_nil] at hle
    have hfold : ((is ++ [i]).map fun i => (m.getD i default).2).foldl f x = f ((is.map fun i => (m.getD i default).2).foldl f x) (m.getD i default).2 := by
      rw [List.map_append, List.foldl_append]; rfl
    have hlv2 : live ((is.map fun i => (m.getD i default).2).foldl f x) ((m.length - (is.length + 1)) + 1) := by rwa [show m.length - (is.length + 1) + 1 = m.length - is.length by omega]
    generalize hv : (m.getD i default).2 = v at *
    have hyl := fun o => hy _ v _ _ _ hvm hlv2 (hG.push _ _ _ o hS3)
    simp only [hd_av] at hyl
    simp only [lA,ptrCells,ptrAdd,isNil,readsV,readsP,isCall,wrote,srcOf,seval,hit3]
    rw [f6]
    refine ent_i i b' rfl hb' hkx hvx ?_
    simp only [lA,ptrCells,ptrAdd,isNil,readsV,readsP,isCall,wrote,srcOf,seval,get_last,set_last,hd_av]
    refine yld_i (hyl _) ?_
    rintro _ H4 ⟨rfl, hb4⟩
    obtain ⟨hb5, _⟩ := hG.own hS3 hb4
    simp only [lA,ptrCells,ptrAdd,isNil,readsV,readsP,isCall,wrote,srcOf,seval]
    refine back_i (is ++ [i],H4) ⟨hn2,hlt2,?_,?_,?_,?_⟩ (by simp only [List.length_append,List.length_cons,List.length_nil]; omega) (Ent.fr (by simp [FrSub,Go.Al.get]))
    · rw [hfold]
      simp only [List.length_append,List.length_cons,List.length_nil]
      exact hl _ _ _ hlv2
    · rw [hfold]
      refine ⟨hG.weak _ _ _ _ hb5.1 fun i hi => .inl hi, ?_, fun i hi => ?_⟩
      · have := hb5.2.1
        have := hbd.2.1
        simp only
        omega
      · rw [hb5.2.2 i (.inl hi)]
        exact hbd3 i hi
    · rw [hfold]
      exact hb5.1
    · rw [hb5.2.2 _ (.inr rfl), hit3, List.map_append]
      simp only [List.map_cons,List.map_nil,hbi]
end
end Go.Proofs.Try


namespace Go.Proofs.Try
open Go.Proofs.Tryz
open Go.Al
set_option maxRecDepth 100000
def mc93 : MC :=
(.seq (.ops [(none,.e (.box 2 (.t 0))),
(none,.v (.mov 4 (.c (.raw (.slice none 0 0)))))])
(.seq (.seq (.ops [(none,.v (.mov 6 (.t 1)))])
(.block 0 (.rngf (.t 6) #[7] (.ops [(none,.e (.alloc 5 [(.int .i64 0),(.int .i64 0),(.int .i64 0),(.raw (.slice none 0 0))])),
(none,.e (.store 4 true (.t 5) (.t 7)))]) (.block 1 (.ops [(none,.v (.load 8 false 1 (.t 2))),
(none,.v (.load 9 true 4 (.t 5))),
(none,.e (.mkl 10 77 4 1 (.agg [(.int .i64 0),(.int .i64 0),(.int .i64 0),(.raw (.slice none 0 0))]) [(0,(.t 9))])),
(none,.e (.app 11 77 4 48 (.t 8) (.t 10))),
(none,.e (.store 1 false (.t 2) (.t 11)))])))))
(.seq (.ops [(none,.v (.load 12 false 1 (.t 2))),
(none,.v (.mov 4 (.t 12)))])
.ret)))
theorem ok93 : FnOk E 93 13 [.tmp 4] mc93 := .of func93 (by kernel_rfl) (by kernel_rfl) (by kernel_rfl) (by kernel_rfl) (by kernel_rfl)
end Go.Proofs.Try
namespace Go.Proofs.Try
open Go.Proofs.Tryz
open Go.Al
set_option linter.unusedVariables false
set_option linter.unusedSimpArgs false
set_option maxRecDepth 20000
set_option maxHeartbeats 8000000

theorem fold_snocH {α : Type} (l : List α) : ∀ x : List α, l.foldl (fun x v => x ++ [v]) x = x ++ l := by
  induction l with
  | nil => simp
  | cons v l ih => intro x; rw [List.foldl_cons, ih, List.append_assoc]; rfl
def mapB (m : List ((Int × Int) × Hd)) (bs : List Nat) (c : Nat) : List AObj := [.map (kW m) (vW Hd.av m) bs c, .box [.mp 0]]
theorem pa_vH {H : List AObj} {l : List Nat} {bor : Bool} {n : Nat} (m : List ((Int × Int) × Hd)) : (vW Hd.av m).map (pa H l bor (n + 3)) = vW Hd.av m := by
  unfold vW
  rw [List.map_map]
  exact List.map_congr_left fun p _ => by simp [pa_hd]
theorem c93 (m : List ((Int × Int) × Hd)) (bs : List Nat) (c : Nat) (hw : WfM m.length bs c) (hc : m.length ≤ 1048576) :
    ACalls E.P 93 [.raw (.slice none 0 0), .fn (.func 78) [] [.op 1 0]] (mapB m bs c) (fun r H => ∃ l : List Hd, l.Perm (m.map (·.2)) ∧ ((l = [] ∧ r = .raw (.slice none 0 0) ∧ H = mapB m bs c) ∨ (r = .slc 2 4 l.length ∧ H = mapB m bs c ++ [.arr 77 4 (l.map Hd.av)]))) := by
  have hmax := maxLen_eq
  refine ok93.acalls hE hm (by simp) fun N hN => ?_
  unfold mc93 mapB
  simp only [lA,ptrCells,ptrAdd,isNil,readsV,readsP,isCall,wrote,srcOf,seval]
  refine rng_i hN [(2, .op 2 0)] (by simp [FrSub, Go.Al.get]) fun fn cas bd hy => ?_
  let lo : LoopState → AObj := fun st => .loop st none [(2, .op 2 0)] N.n fn #[7] cas bd
  let F : List AObj := [.map (kW m) (vW Hd.av m) bs c, .box [.mp 0], .dead, lo .ready]
  have hG : Grows (colW Hd.av 77 4 F 2) := colW_grows F 2
  have hY : ∀ (x : List Hd) (v : Hd) (k : Nat) (G : Nat → Prop) (H : List AObj), v ∈ m.map (·.2) → x.length + (k + 1) ≤ 1048576 → colW Hd.av 77 4 F 2 x G H → AYield E.P 3 [v.av] H (fun r H' => r = .bool true ∧ Bhd (colW Hd.av 77 4 F 2) (x ++ [v]) G H H') := by
    rintro x v k G H _ hk hS
    have h3 : H[3]? = some (lo .ready) := hS.1 3 (by simp [F]) (by omega)
    have hlen := hS.2.2.2.1
    refine hy 3 [(2, .op 2 0)] [v.av] H _ h3 rfl fun N2 hN2 => ?_
    have hlen4 : 4 ≤ H.length := hlen
    simp only [lA,ptrCells,ptrAdd,isNil,readsV,readsP,isCall,wrote,srcOf,seval,hd_av,get_last,set_last]
    refine ⟨by rw [at_app _ _ 3 (by omega)]; exact h3, ?_⟩
    have hSk := hG.push _ _ _ (.box v.cs) hS
    have hSk2 := hG.skip (o := .box v.cs) hS
    have hHl : (H ++ [AObj.box v.cs]).length = H.length + 1 := by simp
    have hfo : (H ++ [AObj.box v.cs])[H.length]? = some (.box v.cs) := by simp
    generalize H ++ [AObj.box v.cs] = Hx at *
    obtain ⟨H1, hH1⟩ : ∃ H1, H1 = Hx.set 3 (.loop .busy none [(2, .op 2 0)] N.n fn #[7] cas bd) := ⟨_, rfl⟩
    have hfo1 : H1[H.length]? = some (.box v.cs) := by rw [hH1, at_set _ _ 3 _ (by omega)]; exact hfo
    have hf31 : H1[3]? = some (lo .busy) := by rw [hH1]; exact at_same _ _ 3 (by omega)
    have hlen1 : H1.length = H.length + 1 := by rw [hH1]; simpa using hHl
    have hSb : colW Hd.av 77 4 (F.set 3 (lo .busy)) 2 x (fun i => G i ∨ i = H.length) H1 := by rw [hH1]; exact colW_put (lo .busy) hSk (n := 3) (by simp [F]) (by omega)
    have hback : ∀ x' H', Bhd (colW Hd.av 77 4 (F.set 3 (lo .busy)) 2) x' (fun i => G i ∨ i = H.length) H1 H' → Bhd (colW Hd.av 77 4 F 2) x' G H (H'.set 3 (lo .ready)) := fun x' H' h => by
      have h1 := colW_back (lo .ready) (lo .busy) ⟨x, hSk⟩ (by rw [hH1] at h; exact h) (by simp [F]) (by omega) rfl
      exact hSk2.trans ⟨hG.weak _ _ _ _ h1.1 fun i hi => .inl hi, h1.2.1, fun i hi => h1.2.2 i (.inl hi)⟩
    rw [← hH1]
    clear hH1 hSk2 hSk
    have hq := hSb.2.2.2.2
    rcases hq with ⟨rfl, h1⟩ | ⟨a, a1, a2, a3, a4, a5⟩
    · have g1 : ∀ o o', (H1 ++ [o] ++ [o'])[2]? = some (.box [.raw (.slice none 0 0)]) := fun o o' => by rw [at_app _ _ 2 (by simp <;> omega), at_app _ _ 2 (by omega)]; exact h1
      repeat' (first | (with_reducible apply St.o; constructor) <;> intro _ | (with_reducible first | refine LenR_i fun _ => ?_ | refine And.intro (by omega) ?_ | (apply Sp.o; constructor) | refine mkl_own ?_ | refine frz0_i ?_) | ((with_reducible refine keep0_i ?_); simp only [lP,seval]) | simp (maxSteps := 1000000) (disch := omega) only [lE,ptrCells,ptrAdd,isNil,readsV,readsP,isCall,wrote,srcOf,seval,hfo1,h1,g1,get_last,fillE,setAll,List.length_cons,List.length_nil,List.length_append])
      refine round_i (o := fun st pd => .loop st pd [(2, .op 2 0)] N.n fn #[7] cas bd) (by rw [at_set _ _ 2 3 (by omega), at_app _ _ 3 (by simp <;> omega), at_app _ _ 3 (by omega)]; exact hf31) ⟨rfl, ?_⟩
      exact hback _ _ (colW_one v _ hSb)
    · have g1 : ∀ o o', ((H1 ++ [o]).set a .dead ++ [o'])[2]? = some (.box [.slc a 4 x.length]) := fun o o' => by rw [at_app _ _ 2 (by simp <;> omega), at_set _ _ a 2 (by simp [F] at a1; omega), at_app _ _ 2 (by omega)]; exact a4
      have g2 : ∀ o, (H1 ++ [o])[a]? = some (.arr 77 4 (x.map Hd.av)) := fun o => by rw [at_app _ _ a (by omega)]; exact a5
      repeat' (first | (with_reducible apply St.o; constructor) <;> intro _ | (with_reducible first | refine LenR_i fun _ => ?_ | refine And.intro (by omega) ?_ | (apply Sp.o; constructor) | refine mkl_own ?_ | refine frz0_i ?_) | ((with_reducible refine keep0_i ?_); simp only [lP,seval]) | simp (maxSteps := 1000000) (disch := omega) only [lE,ptrCells,ptrAdd,isNil,readsV,readsP,isCall,wrote,srcOf,seval,hfo1,a4,g1,g2,get_last,fillE,setAll,List.length_map,List.length_cons,List.length_nil,List.length_append,List.length_set])
      refine round_i (o := fun st pd => .loop st pd [(2, .op 2 0)] N.n fn #[7] cas bd) (by rw [at_set _ _ 2 3 (by omega), at_app _ _ 3 (by simp <;> omega), at_set _ _ a 3 (by simp [F] at a1; omega), at_app _ _ 3 (by omega)]; exact hf31) ⟨rfl, ?_⟩
      have := colW_snoc v (.arr 77 4 [v.av]) hSb a1 a2 a3
      exact hback _ _ this
  have h62 := c78g (S := colW Hd.av 77 4 F 2) (id := 3) hG (fun x G H i o h hi => colW_at i o h hi) (fun x v => x ++ [v]) m bs c hw 1 0 (fun x G H h => ⟨h.1 1 (by simp [F]) (by omega), h.1 0 (by simp [F]) (by omega)⟩)
    (fun x k => x.length + k ≤ 1048576) (fun x v k h => by simp only [List.length_append,List.length_cons,List.length_nil]; omega) hY [] (by simpa using hc) (fun _ => False)
    [.map (kW m) (vW Hd.av m) bs c, .box [.mp 0], .box [.raw (.slice none 0 0)], lo .ready] ⟨fun i h1 h2 => by
      have h4 : i < 4 := h1
      have : i = 0 ∨ i = 1 ∨ i = 3 := by omega
      rcases this with rfl | rfl | rfl <;> rfl, fun i h => h.elim, by simp [F], by simp [F], .inl ⟨rfl, rfl⟩⟩
  refine ⟨_, h62, ?_⟩
  rintro r H' ⟨l, hp, ⟨h0, _, _, h3, hx⟩, _, _⟩
  rw [fold_snocH, List.nil_append] at hx
  have e0 : H'[0]? = some (.map (kW m) (vW Hd.av m) bs c) := h0 0 (by simp [F]) (by omega)
  have e1 : H'[1]? = some (.box [.mp 0]) := h0 1 (by simp [F]) (by omega)
  have e3 : H'[3]? = some (lo .ready) := h0 3 (by simp [F]) (by omega)
  have h34 : 4 ≤ H'.length := h3
  have g0 : (H'.set 3 .lost)[0]? = some (.map (kW m) (vW Hd.av m) bs c) := by rw [at_set _ _ 3 0 (by omega)]; exact e0
  have g1 : (H'.set 3 .lost)[1]? = some (.box [.mp 0]) := by rw [at_set _ _ 3 1 (by omega)]; exact e1
  have hl2 : (H'.set 3 .lost).length = H'.length := by simp
  refine ⟨.ready, none, [(2, .op 2 0)], e3, by simp, [(2, .op 2 0)], H'.set 3 .lost, Ent.fr (by simp [FrSub, Go.Al.get]), ?_⟩
  rcases hx with ⟨rfl, h1⟩ | ⟨a, a1, a2, _, a4, a5⟩
  · have g2 : (H'.set 3 .lost)[2]? = some (.box [.raw (.slice none 0 0)]) := by rw [at_set _ _ 3 2 (by omega)]; exact h1
    generalize H'.set 3 .lost = H2 at *
    repeat' (first | (with_reducible apply St.o; constructor) <;> intro _ | (with_reducible first | refine LenR_i fun _ => ?_ | refine And.intro (by omega) ?_ | (apply Sp.o; constructor) | refine mkl_own ?_ | refine frz0_i ?_) | simp (maxSteps := 1000000) (disch := omega) only [lE,ptrCells,ptrAdd,isNil,readsV,readsP,isCall,wrote,srcOf,seval,g2])
    refine keep_i [0, 1] false (by simp; omega) (by simp) rfl ⟨[], hp, .inl ⟨rfl, ?_, ?_⟩⟩
    · simp only [lP,seval]
    · simp only [lP,seval,g0,g1,pa_kW,pa_vH]
  · have ha4 : 4 ≤ a := a1
    have g2 : (H'.set 3 .lost)[2]? = some (.box [.slc a 4 l.length]) := by rw [at_set _ _ 3 2 (by omega)]; exact a4
    have ga : (H'.set 3 .lost)[a]? = some (.arr 77 4 (l.map Hd.av)) := by rw [at_set _ _ 3 a (by omega)]; exact a5
    generalize H'.set 3 .lost = H2 at *
    repeat' (first | (with_reducible apply St.o; constructor) <;> intro _ | (with_reducible first | refine LenR_i fun _ => ?_ | refine And.intro (by omega) ?_ | (apply Sp.o; constructor) | refine mkl_own ?_ | refine frz0_i ?_) | simp (maxSteps := 1000000) (disch := omega) only [lE,ptrCells,ptrAdd,isNil,readsV,readsP,isCall,wrote,srcOf,seval,g2])
    have hpos : pos [0, 1, a] a 0 = some 2 := by
      have z1 : ¬ 0 = a := by omega
      have z2 : ¬ 1 = a := by omega
      simp [pos, z1, z2]
    refine keep_i [0, 1, a] false (by simp; omega) (by simp; omega) rfl ⟨l, hp, .inr ⟨?_, ?_⟩⟩
    · simp only [lP,seval,hpos]
    · simp only [lP,seval,g0,g1,ga,pa_kW,pa_vH,pa_hds]
end Go.Proofs.Try

