/-
  A part of the proof: see the text of the law.
-/
import Derived.Test.YtmmedfdilaijhaaGreatEau
import Derived.Test.YtmmedfdilaijhaaGreatAlphaS
import Derived.Test.YtmmedfdilaijhaaGreatShelf
set_option linter.unusedSimpArgs false
set_option linter.unusedVariables false
namespace Go.Proofs.Try
open Go.Proofs.Tryz
open Go.Al
set_option maxRecDepth 100000
def mc50 : MC :=
(.seq (.ops [(none,.v (.mov 4 (.c (.raw (.slice none 0 0)))))])
(.seq (.ops [(none,.v (.mov 6 (.t 0))),
(none,.e (.call (some 7) 76 [(.t 6)])),
(none,.v (.mov 5 (.t 7)))])
(.seq (.ops [(none,.v (.mov 8 (.t 5))),
(none,.v (.mov 9 (.t 1))),
(none,.e (.call (some 10) 77 [(.t 8),(.t 9)]))])
(.seq (.ops [(none,.v (.mov 11 (.t 5))),
(none,.v (.mov 4 (.t 11)))])
.ret))))
theorem ok50 : FnOk E 50 12 [.tmp 4] mc50 := .of func50 (by kernel_rfl) (by kernel_rfl) (by kernel_rfl) (by kernel_rfl) (by kernel_rfl)
def mc51 : MC :=
(.seq (.ops [(none,.e (.box 1 (.t 0))),
(none,.v (.mov 2 (.c (.raw .nilFunc))))])
(.seq (.ops [(none,.v (.fn 3 (.func 78) [] [(.t 1)])),
(none,.v (.mov 2 (.t 3)))])
.ret))
theorem ok51 : FnOk E 51 4 [.tmp 2] mc51 := .of func51 (by kernel_rfl) (by kernel_rfl) (by kernel_rfl) (by kernel_rfl) (by kernel_rfl)
def mc76 : MC :=
(.seq (.ops [(none,.v (.mov 2 (.c (.raw (.slice none 0 0)))))])
(.seq (.ops [(none,.v (.mov 3 (.t 0))),
(none,.e (.call (some 4) 93 [(.c (.raw (.slice none 0 0))),(.t 3)])),
(none,.v (.mov 2 (.t 4)))])
.ret))
theorem ok76 : FnOk E 76 5 [.tmp 2] mc76 := .of func76 (by kernel_rfl) (by kernel_rfl) (by kernel_rfl) (by kernel_rfl) (by kernel_rfl)
end Go.Proofs.Try
namespace Go.Proofs.Try
open Go.Proofs.Tryz
open Go.Al
set_option linter.unusedVariables false
set_option linter.unusedSimpArgs false
set_option maxRecDepth 20000
set_option maxHeartbeats 8000000

theorem lt_hd (a b : Hd) : ltOf Hd.cmp a b = decide (a.before b) := by
  rw [Bool.eq_iff_iff]
  simp only [ltOf,decide_eq_true_eq]
  exact cmp_before a b
theorem swoH : Go.Sort.SWO (ltOf Hd.cmp) where
  irrefl x := by rw [lt_hd]; simp [Hd.before]
  trans x y z h1 h2 := by
    rw [lt_hd, decide_eq_true_eq] at *
    exact before_trans h1 h2
  ntrans x y z h1 h2 := by
    rw [lt_hd, decide_eq_false_iff_not] at *
    unfold Hd.before at *
    omega
theorem bodied77 : Bodied E.P 77 := ⟨_, Tryz.func77, by kernel_rfl, by kernel_rfl⟩
theorem c77 (l : List Hd) (h : l.length < 4611686018427387904) : ACalls E.P 77 [.slc 0 4 l.length, .fn (.func 46) [] []] [.arr 77 4 (l.map Hd.av)] (fun r H => r = .tup [] ∧ ∃ l' : List Hd, l'.Perm l ∧ l'.Pairwise (fun a b => ¬ b.before a) ∧ H = [.arr 77 4 (l'.map Hd.av)]) := by
  refine (bridge_sort bodied77 swoH (fun a _ b _ => c46 a b) (fun a _ => by simp [Hd.av, sc, scL]) (fun a _ => ⟨_, rfl⟩) h (fun p cap fv w => AnyF.slices_SortFunc_none Tryz.sortV p cap fv w) ?_).mono ?_
  · intro α _ enc hk h1 cf' hO blk cap d w hc hH hb hs
    exact AnyQ.slices_SortFunc Tryz.sortV 4 (fun w => Tryz.isAgg77 w) (fun w => Tryz.sizeOf77 w) enc hk h1 cf' hO 46 #[] blk 0 cap d w (enters_of Tryz.func46 (by kernel_rfl) rfl) hc hH hb hs
  · rintro r H ⟨rfl, l', h1, h2, rfl⟩
    exact ⟨rfl, l', h1, h2.imp fun h => by rw [lt_hd, decide_eq_false_iff_not] at h; exact h, rfl⟩
theorem c77nil : ACalls E.P 77 [.raw (.slice none 0 0), .fn (.func 46) [] []] [] (fun r H => r = .tup [] ∧ H = []) :=
  ⟨bodied77, fun γ σ w vs hi hv => by
    obtain ⟨u, _, rfl, hu, fv, _, rfl, hf, rfl⟩ := hv
    have hu : u = .slice none 0 0 := hu
    subst hu
    refine (AnyF.slices_SortFunc_none Tryz.sortV none 0 fv w).mono ?_
    rintro e w' ⟨rfl, rfl⟩
    exact ⟨_, γ, σ, .tup [], _, rfl, .refl _ _ _, hi, ⟨[], rfl, rfl⟩, rfl, rfl⟩⟩
theorem renL_kW {α : Type} {ρ : Nat → Nat} (m : List ((Int × Int) × α)) : renL ρ (kW m) = kW m := renL_map (fun p => by simp [kp, ren, renL]) _
theorem renL_vH {ρ : Nat → Nat} (m : List ((Int × Int) × Hd)) : renL ρ (vW Hd.av m) = vW Hd.av m := by
  have e : vW Hd.av m = (m.map (·.2)).map Hd.av := by unfold vW; rw [List.map_map]; rfl
  rw [e]; exact renL_hds
theorem c76 (m : List ((Int × Int) × Hd)) (bs : List Nat) (c : Nat) (hw : WfM m.length bs c) (hc : m.length ≤ 1048576) :
    ACalls E.P 76 [.fn (.func 78) [] [.op 1 0]] (mapB m bs c) (fun r H => ∃ l : List Hd, l.Perm (m.map (·.2)) ∧ ((l = [] ∧ r = .raw (.slice none 0 0) ∧ H = mapB m bs c) ∨ (r = .slc 2 4 l.length ∧ H = mapB m bs c ++ [.arr 77 4 (l.map Hd.av)]))) := by
  have h69 := c93 m bs c hw hc
  refine ok76.acalls hE hm (by simp) fun N hN => ?_
  unfold mc76
  unfold mapB at *
  simp only [lA,ptrCells,ptrAdd,isNil,readsV,readsP,isCall,wrote,srcOf,seval]
  refine callN_i [0, 1] false (by simp) (by simp) ?_
  simp only [lP,seval,pa_kW,pa_vH]
  refine ⟨_, h69, ?_⟩
  rintro r H ⟨l, hp, ⟨rfl, rfl, rfl⟩ | ⟨rfl, rfl⟩⟩
  · simp only [lA,lP,ptrCells,ptrAdd,isNil,readsV,readsP,isCall,wrote,srcOf,seval,renL_kW,renL_vH]
    refine keep_i [0, 1] false rfl (by simp) rfl ⟨[], hp, .inl ⟨rfl, ?_, ?_⟩⟩
    · simp only [lP,seval]
    · simp only [lP,seval,pa_kW,pa_vH]
  · simp only [lA,lP,ptrCells,ptrAdd,isNil,readsV,readsP,isCall,wrote,srcOf,seval,renL_kW,renL_vH]
    refine keep_i [0, 1, 2] false (by simp) (by simp) rfl ⟨l, hp, .inr ⟨?_, ?_⟩⟩
    · simp only [lP,seval]
    · simp only [lP,seval,pa_kW,pa_vH,pa_hds,renL_hds]
theorem c50 (m : List ((Int × Int) × Hd)) (bs : List Nat) (c : Nat) (hw : WfM m.length bs c) (hc : m.length ≤ 1048576) :
    ACalls E.P 50 [.fn (.func 78) [] [.op 1 0], .fn (.func 46) [] []] (mapB m bs c) (fun r H => ∃ l : List Hd, l.Perm (m.map (·.2)) ∧ l.Pairwise (fun a b => ¬ b.before a) ∧ r = .view 4 (l.map Hd.av) ∧ H = mapB m bs c) := by
  have h60 := c76 m bs c hw hc
  have h61n := c77nil
  refine ok50.acalls hE hm (by simp) fun N hN => ?_
  unfold mc50
  unfold mapB at *
  simp only [lA,ptrCells,ptrAdd,isNil,readsV,readsP,isCall,wrote,srcOf,seval]
  refine callN_i [0, 1] false (by simp) (by simp) ?_
  simp only [lP,seval,pa_kW,pa_vH]
  refine ⟨_, h60, ?_⟩
  rintro r H ⟨l, hp, ⟨rfl, rfl, rfl⟩ | ⟨rfl, rfl⟩⟩
  · simp only [lA,lP,ptrCells,ptrAdd,isNil,readsV,readsP,isCall,wrote,srcOf,seval,renL_kW,renL_vH]
    refine callN_i [] false (by simp) (by simp) ?_
    simp only [lP,seval]
    refine ⟨_, h61n, ?_⟩
    rintro _ _ ⟨rfl, rfl⟩
    simp only [lA,lP,ptrCells,ptrAdd,isNil,readsV,readsP,isCall,wrote,srcOf,seval]
    exact keepw_i [0, 1] false rfl (by simp) rfl weak_nil ⟨[],hp, .nil,rfl,by simp only [lP,seval,pa_kW,pa_vH]⟩
  · have h61 := c77 l (by rw [hp.length_eq, List.length_map]; omega)
    simp only [lA,lP,ptrCells,ptrAdd,isNil,readsV,readsP,isCall,wrote,srcOf,seval,renL_kW,renL_vH]
    refine callN_i [2] false (by simp) (by simp) ?_
    simp only [lP,seval,pa_hds,renL_hds]
    refine ⟨_, h61, ?_⟩
    rintro _ _ ⟨rfl, l', hp', hs, rfl⟩
    simp only [lA,lP,ptrCells,ptrAdd,isNil,readsV,readsP,isCall,wrote,srcOf,seval]
    refine keep_i [0, 1] true (by simp) (by simp) rfl ⟨l', hp'.trans hp, hs, ?_, ?_⟩
    · simp only [lP,seval,renL_hds,vw_hds,List.length_map,hp'.length_eq]
    · simp only [lP,seval,pa_kW,pa_vH]
theorem c51 (m : List ((Int × Int) × Hd)) (bs : List Nat) (c : Nat) : ACalls E.P 51 [.mp 0] [.map (kW m) (vW Hd.av m) bs c] (fun r H => r = .fn (.func 78) [] [.op 1 0] ∧ H = mapB m bs c) := by
  refine ok51.acalls hE hm (by simp) fun N hN => ?_
  unfold mc51 mapB
  simp only [lA,ptrCells,ptrAdd,isNil,readsV,readsP,isCall,wrote,srcOf,seval]
  repeat' (first | (with_reducible apply St.o; constructor) <;> intro _ | (with_reducible first | refine LenR_i fun _ => ?_ | refine And.intro (by omega) ?_ | (apply Sp.o; constructor) | refine mkl_own ?_ | refine frz0_i ?_) | simp (maxSteps := 1000000) (disch := omega) only [lE,ptrCells,ptrAdd,isNil,readsV,readsP,isCall,wrote,srcOf,seval])
  all_goals exact keep_i [0, 1] false (by simp) (by simp) rfl ⟨by simp only [lP,seval],by simp only [lP,seval,pa_kW,pa_vH]⟩
end Go.Proofs.Try


namespace Go.Proofs.Try
open Go.Al
set_option linter.unusedVariables false
set_option linter.unusedSimpArgs false

def wsOf (h : List Hap) (tx : Int) : List Wr := match h.findIdx? (isAsk tx) with | some i => (h.getD i default).ws | none => []
def Wr.row (w : Wr) (s : Int) : Hd := ⟨w.t, w.r, s, w.v⟩
def putM (s : Int) (m : List ((Int × Int) × Hd)) (w : Wr) : List ((Int × Int) × Hd) := if w.dead = true then delW m (w.t, w.r) else setW m (w.t, w.r) (w.row s)
def putL (s : Int) (l : List Hd) (w : Wr) : List Hd := l.filter (fun y => decide (y.before (w.row s))) ++ (if w.dead = true then [] else [w.row s]) ++ l.filter (fun y => decide ((w.row s).before y))
def stM (h : List Hap) (order : List Int) : Nat → List ((Int × Int) × Hd)
  | 0 => []
  | i + 1 => (wsOf h (order.getD i 0)).foldl (putM (i + 1)) (stM h order i)
def stL (h : List Hap) (order : List Int) : Nat → List Hd
  | 0 => []
  | i + 1 => (wsOf h (order.getD i 0)).foldl (putL (i + 1)) (stL h order i)
theorem keysW_del {α : Type} (m : List ((Int × Int) × α)) (r : Int × Int) : keysW (delW m r) = (keysW m).erase r := by
  induction m with
  | nil => rfl
  | cons p m ih =>
    rw [delW]
    simp only [keysW,List.map_cons] at ih ⊢
    by_cases hp : p.1 = r
    · rw [if_pos hp, hp, List.erase_cons_head]
    · rw [if_neg hp, List.map_cons, ih, List.erase_cons_tail (by simpa using hp)]
theorem getW_del {α : Type} {m : List ((Int × Int) × α)} (h : (keysW m).Nodup) (r s : Int × Int) : getW (delW m r) s = if s = r then none else getW m s := by
  induction m with
  | nil => simp [delW, getW]
  | cons p m ih =>
    simp only [keysW,List.map_cons,List.nodup_cons] at h
    rw [delW]
    by_cases hp : p.1 = r
    · rw [if_pos hp]
      by_cases hs : s = r
      · rw [if_pos hs, getW_none, hs, ← hp]; exact h.1
      · have : ¬ p.1 = s := fun e => hs (e.symm.trans hp)
        rw [if_neg hs, getW_cons, if_neg this]
    · rw [if_neg hp, getW_cons, getW_cons, ih h.2]
      by_cases hs : s = r
      · have : ¬ p.1 = s := fun e => hp (e.trans hs)
        rw [if_neg this, if_pos hs, if_pos hs]
      · rw [if_neg hs, if_neg hs]
theorem mem_delW {α : Type} {m : List ((Int × Int) × α)} {r : Int × Int} {p : (Int × Int) × α} (h : p ∈ delW m r) : p ∈ m := by
  induction m with
  | nil => simp [delW] at h
  | cons q m ih =>
    rw [delW] at h
    split at h
    · exact List.mem_cons_of_mem _ h
    · rcases List.mem_cons.1 h with h | h
      · rw [h]; exact List.mem_cons_self
      · exact List.mem_cons_of_mem _ (ih h)
theorem mem_setW2 {α : Type} {m : List ((Int × Int) × α)} {r : Int × Int} {v : α} {p : (Int × Int) × α} (h : p ∈ setW m r v) : p = (r, v) ∨ p ∈ m := by
  induction m with
  | nil => exact .inl (List.mem_singleton.1 h)
  | cons q m ih =>
    rw [setW] at h
    split at h
    · rcases List.mem_cons.1 h with h | h
      · exact .inl h
      · exact .inr (List.mem_cons_of_mem _ h)
    · rcases List.mem_cons.1 h with h | h
      · rw [h]; exact .inr List.mem_cons_self
      · rcases ih h with h | h
        · exact .inl h
        · exact .inr (List.mem_cons_of_mem _ h)
theorem keysW_set_nodup {α : Type} {m : List ((Int × Int) × α)} {r : Int × Int} {v : α} (h : (keysW m).Nodup) : (keysW (setW m r v)).Nodup := by
  rw [keysW_set]
  split
  · exact h
  · rename_i hn
    exact List.nodup_append.2 ⟨h, by simp, fun a ha b hb e => by
      rw [List.mem_singleton.1 hb] at e
      exact hn (e ▸ ha)⟩
theorem getW_mem {α : Type} {m : List ((Int × Int) × α)} {r : Int × Int} {v : α} (h : getW m r = some v) : (r, v) ∈ m := by
  induction m with
  | nil => simp [getW] at h
  | cons p m ih =>
    rw [getW_cons] at h
    split at h
    · rename_i hp
      cases h
      rw [← hp]; exact List.mem_cons_self
    · exact List.mem_cons_of_mem _ (ih h)
theorem mem_getW {α : Type} {m : List ((Int × Int) × α)} (hn : (keysW m).Nodup) {p : (Int × Int) × α} (h : p ∈ m) : getW m p.1 = some p.2 := by
  induction m with
  | nil => simp at h
  | cons q m ih =>
    simp only [keysW,List.map_cons,List.nodup_cons] at hn
    rw [getW_cons]
    rcases List.mem_cons.1 h with h | h
    · rw [h, if_pos rfl]
    · have : ¬ q.1 = p.1 := fun e => hn.1 (e ▸ List.mem_map.2 ⟨p, h, rfl⟩)
      rw [if_neg this]; exact ih hn.2 h
theorem before_irrefl (a : Hd) : ¬ a.before a := by unfold Hd.before; omega
theorem before_asymm {a b : Hd} (h : a.before b) : ¬ b.before a := by unfold Hd.before at *; omega
structure SameR (m : List ((Int × Int) × Hd)) (l : List Hd) : Prop where
  nodup : (keysW m).Nodup
  key : ∀ p ∈ m, p.1 = (p.2.t, p.2.r)
  asc : l.Pairwise Hd.before
  mem : ∀ y, y ∈ l ↔ getW m (y.t, y.r) = some y
theorem SameR.nil : SameR [] [] := ⟨.nil, by simp, .nil, fun y => by simp [getW]⟩
theorem putL_asc {s : Int} {l : List Hd} {w : Wr} (h : l.Pairwise Hd.before) : (putL s l w).Pairwise Hd.before := by
  unfold putL
  generalize hx : w.row s = x
  refine List.pairwise_append.2 ⟨List.pairwise_append.2 ⟨h.sublist List.filter_sublist, by split <;> simp, fun a ha b hb => ?_⟩, h.sublist List.filter_sublist, fun a ha b hb => ?_⟩
  · split at hb
    · simp at hb
    · rw [List.mem_singleton.1 hb]
      simpa using (List.mem_filter.1 ha).2
  · have hb2 : x.before b := by simpa using (List.mem_filter.1 hb).2
    rcases List.mem_append.1 ha with ha | ha
    · have ha2 : a.before x := by simpa using (List.mem_filter.1 ha).2
      exact before_trans ha2 hb2
    · split at ha
      · simp at ha
      · rw [List.mem_singleton.1 ha]; exact hb2
theorem mem_putL {s : Int} {l : List Hd} {w : Wr} {y : Hd} : y ∈ putL s l w ↔ (y ∈ l ∧ (y.t, y.r) ≠ (w.t, w.r)) ∨ (w.dead = false ∧ y = w.row s) := by
  unfold putL
  rw [List.mem_append, List.mem_append, List.mem_filter, List.mem_filter, decide_eq_true_eq, decide_eq_true_eq]
  have hk : (y.before (w.row s) ∨ (w.row s).before y) ↔ (y.t, y.r) ≠ (w.t, w.r) := by
    simp only [ne_eq,Prod.mk.injEq,Hd.before,Wr.row]
    omega
  rw [← hk]
  cases w.dead
  · simp only [Bool.false_eq_true,if_false,List.mem_singleton,true_and]
    constructor
    · rintro ((⟨h1, h2⟩ | h) | ⟨h1, h2⟩)
      · exact .inl ⟨h1, .inl h2⟩
      · exact .inr h
      · exact .inl ⟨h1, .inr h2⟩
    · rintro (⟨h1, h2 | h2⟩ | h)
      · exact .inl (.inl ⟨h1, h2⟩)
      · exact .inr ⟨h1, h2⟩
      · exact .inl (.inr h)
  · simp only [if_true,List.not_mem_nil,or_false,reduceCtorEq,false_and]
    constructor
    · rintro (⟨h1, h2⟩ | ⟨h1, h2⟩)
      · exact ⟨h1, .inl h2⟩
      · exact ⟨h1, .inr h2⟩
    · rintro ⟨h1, h2 | h2⟩
      · exact .inl ⟨h1, h2⟩
      · exact .inr ⟨h1, h2⟩
theorem SameR.put {m : List ((Int × Int) × Hd)} {l : List Hd} (h : SameR m l) (s : Int) (w : Wr) : SameR (putM s m w) (putL s l w) := by
  refine ⟨?_, fun p hp => ?_, putL_asc h.asc, fun y => ?_⟩
  · unfold putM
    split
    · rw [keysW_del]; exact h.nodup.erase _
    · exact keysW_set_nodup h.nodup
  · unfold putM at hp
    split at hp
    · exact h.key p (mem_delW hp)
    · rcases mem_setW2 hp with rfl | hp
      · rfl
      · exact h.key p hp
  · rw [mem_putL, h.mem]
    have hg : getW (putM s m w) (y.t, y.r) = if (y.t, y.r) = (w.t, w.r) then (if w.dead = true then none else some (w.row s)) else getW m (y.t, y.r) := by
      unfold putM
      split
      · rename_i hd
        rw [getW_del h.nodup]
      · rename_i hd
        rw [getW_set]
    rw [hg]
    by_cases hk : (y.t, y.r) = (w.t, w.r)
    · rw [if_pos hk]
      cases w.dead
      · simp only [hk,ne_eq,not_true_eq_false,and_false,false_or,true_and,Bool.false_eq_true,if_false,Option.some.injEq]
        exact eq_comm
      · simp [hk]
    · rw [if_neg hk]
      constructor
      · rintro (⟨h1, _⟩ | ⟨_, h1⟩)
        · exact h1
        · exfalso; apply hk; rw [h1]; rfl
      · intro h1
        exact .inl ⟨h1, hk⟩
theorem SameR.fold {s : Int} : ∀ (ws : List Wr) {m : List ((Int × Int) × Hd)} {l : List Hd}, SameR m l → SameR (ws.foldl (putM s) m) (ws.foldl (putL s) l)
  | [], _, _, h => h
  | w :: ws, _, _, h => SameR.fold ws (h.put s w)
theorem sameR (h : List Hap) (order : List Int) : ∀ n, SameR (stM h order n) (stL h order n)
  | 0 => .nil
  | n + 1 => (sameR h order n).fold _
theorem SameR.sorted {m : List ((Int × Int) × Hd)} {l l' : List Hd} (h : SameR m l) (hp : l'.Perm (m.map (·.2))) (hs : l'.Pairwise fun a b => ¬ b.before a) : l' = l := by
  have hkeys : (m.map (·.2)).map (fun y : Hd => (y.t, y.r)) = keysW m := by
    unfold keysW
    rw [List.map_map]
    refine List.map_congr_left fun p hp => ?_
    exact (h.key p hp).symm
  have hkn : (l'.map (fun y : Hd => (y.t, y.r))).Nodup := by
    have := (hp.map (fun y : Hd => (y.t, y.r)))
    rw [hkeys] at this
    exact this.nodup_iff.2 h.nodup
  have hks : l'.Pairwise fun a b => (a.t, a.r) ≠ (b.t, b.r) := List.pairwise_map.1 hkn
  have hasc : l'.Pairwise Hd.before := (hs.and hks).imp fun {a b} hab => by
    obtain ⟨h1, h2⟩ := hab
    simp only [ne_eq,Prod.mk.injEq,Hd.before] at *
    omega
  have hne : ∀ a b : Hd, a.before b → a ≠ b := fun a b hab e => before_irrefl a (by rw [← e] at hab; exact hab)
  have hnd : ∀ {l : List Hd}, l.Pairwise Hd.before → l.Nodup := fun {l} hl => List.nodup_iff_pairwise_ne.2 (List.Pairwise.imp (R := Hd.before) (fun {a b} hab => hne a b hab) hl)
  have hperm : l'.Perm l := (List.perm_ext_iff_of_nodup (hnd hasc) (hnd h.asc)).2 fun y => by
    rw [hp.mem_iff, h.mem]
    constructor
    · intro hy
      obtain ⟨p, hp1, rfl⟩ := List.mem_map.1 hy
      have := mem_getW h.nodup hp1
      rwa [h.key p hp1] at this
    · intro hy
      exact List.mem_map.2 ⟨_, getW_mem hy, rfl⟩
  exact hperm.eq_of_pairwise (fun a b _ _ h1 h2 => absurd h2 (before_asymm h1)) hasc h.asc
theorem asksM_right {h : List Hap} (hr : rightB h = true) (tx : Int) : ∀ i, i ≤ h.length → getM (asksM (h.take i)) tx = ((h.take i).findIdx? (isAsk tx)).map fun n : Nat => (n : Int)
  | 0, _ => by simp [asksM, getM]
  | i + 1, hi => by
    have hil : i < h.length := by omega
    have ih := asksM_right hr tx i (by omega)
    have hev : eventOk (h.take i) (h.getD i default) = true := by
      unfold rightB at hr
      rw [Bool.and_eq_true, decide_eq_true_eq] at hr
      exact hr.1 i hil
    have hlt : (h.take i).length = i := by rw [List.length_take]; omega
    rw [asksM_next hil, take_succD hil, List.findIdx?_append, hlt]
    generalize h.getD i default = x at *
    rw [eventOk_eq, Bool.and_eq_true] at hev
    by_cases hk : x.k = 1
    · rw [if_pos hk, getM_set]
      by_cases ht : tx = x.tx
      · have ha : asked (h.take i) tx < 0 := by
          have := hev.2
          rw [evB, if_pos hk] at this
          simp only [Bool.and_eq_true,decide_eq_true_eq] at this
          rw [ht]; exact this.2.1
        have hn : (h.take i).findIdx? (isAsk tx) = none := by
          rcases asked_lt (h.take i) tx with ⟨_, q⟩ | ⟨n, q, _⟩
          · exact q
          · omega
        have hp : isAsk tx x = true := by simp [isAsk, hk, ht]
        rw [if_pos ht, hn]
        simp [List.findIdx?_cons, hp]
      · have ht' : ¬ x.tx = tx := fun e => ht e.symm
        have hp : isAsk tx x = false := by simp [isAsk, ht']
        rw [if_neg ht, ih]
        simp [List.findIdx?_cons, hp]
    · have hp : isAsk tx x = false := by simp [isAsk, hk]
      rw [if_neg hk, ih]
      simp [List.findIdx?_cons, hp]
theorem asksM_all {h : List Hap} (hr : rightB h = true) (tx : Int) : getM (asksM h) tx = (h.findIdx? (isAsk tx)).map fun n : Nat => (n : Int) := by
  have := asksM_right hr tx h.length (Nat.le_refl _)
  rwa [List.take_length] at this
theorem right_at {h : List Hap} (hr : rightB h = true) {i : Nat} (hi : i < h.length) : eventOk (h.take i) (h.getD i default) = true := by
  unfold rightB at hr
  rw [Bool.and_eq_true, decide_eq_true_eq] at hr
  exact hr.1 i hi
theorem right_ws {h : List Hap} (hr : rightB h = true) {i : Nat} (hi : i < h.length) (hk : (h.getD i default).k = 1) : writesOk (h.getD i default).ws = true := by
  have := right_at hr hi
  rw [eventOk_eq, Bool.and_eq_true, evB, if_pos hk] at this
  simp only [Bool.and_eq_true] at this
  exact this.2.2.2
theorem wsOf_ok {h : List Hap} (hr : rightB h = true) {tx : Int} {w : Wr} (hw : w ∈ wsOf h tx) : okW w = true := by
  unfold wsOf at hw
  split at hw
  · rename_i i hf
    obtain ⟨hi, hp, _⟩ := List.findIdx?_eq_some_iff_getElem.1 hf
    have hg : h.getD i default = h[i] := by rw [List.getD_eq_getElem?_getD, List.getElem?_eq_getElem hi, Option.getD_some]
    have hk : (h.getD i default).k = 1 := by
      rw [hg]
      simp only [isAsk,Bool.and_eq_true,decide_eq_true_eq] at hp
      exact hp.1
    have := right_ws hr hi hk
    unfold writesOk at this
    rw [Bool.and_eq_true, decide_eq_true_eq] at this
    exact this.1.1 w hw
  · simp at hw
theorem wsOf_len {h : List Hap} (hr : rightB h = true) (tx : Int) : (wsOf h tx).length ≤ 64 := by
  unfold wsOf
  split
  · rename_i i hf
    obtain ⟨hi, hp, _⟩ := List.findIdx?_eq_some_iff_getElem.1 hf
    have hg : h.getD i default = h[i] := by rw [List.getD_eq_getElem?_getD, List.getElem?_eq_getElem hi, Option.getD_some]
    have hk : (h.getD i default).k = 1 := by
      rw [hg]
      simp only [isAsk,Bool.and_eq_true,decide_eq_true_eq] at hp
      exact hp.1
    have := right_ws hr hi hk
    unfold writesOk at this
    simp only [Bool.and_eq_true,decide_eq_true_eq] at this
    exact this.2.2
  · simp
theorem wfW_put {α : Type} (f : α → AV) {m : List ((Int × Int) × α)} (hf : ∀ p ∈ m, fitP p.1) {bs : List Nat} {c : Nat} (hw : WfM m.length bs c) {r : Int × Int} (hr : fitP r) (v : α) : ∃ (bs' : List Nat) (c' : Nat), putK WK (kW m) (vW f m) bs c (kp r) (f v) = some (.map (kW (setW m r v)) (vW f (setW m r v)) bs' c') ∧ WfM (setW m r v).length bs' c' := by
  unfold putK kW vW
  rw [keyIs_p hr, keys_w hf]
  rcases find_w hr m 0 hf with ⟨h1, h2, h3, _⟩ | ⟨j, p, h1, h2, h3, h4, h5, _⟩
  · refine ⟨bs ++ [c], c + 1, ?_, ?_⟩
    · rw [h3]
      simp [h1]
    · rw [h3, List.length_append]; exact hw.snoc
  · refine ⟨bs, c, ?_, ?_⟩
    · have e1 : (m.map fun p => kp p.1) = (m.set j (r, v)).map fun p => kp p.1 := by
        apply List.ext_getElem?
        intro n
        simp only [List.getElem?_map,List.getElem?_set]
        by_cases hn : j = n
        · subst hn
          obtain ⟨hj, _⟩ := List.getElem?_eq_some_iff.1 h2
          rw [h2]
          simp [hj, h3]
        · simp [hn]
      rw [h5, ← e1, List.map_set]
      simp [h1]
    · rw [h5, List.length_set]; exact hw
theorem wfW_del {α : Type} (f : α → AV) {m : List ((Int × Int) × α)} (hf : ∀ p ∈ m, fitP p.1) {bs : List Nat} {c : Nat} (hw : WfM m.length bs c) {r : Int × Int} (hr : fitP r) : ∃ (bs' : List Nat), delK WK (kW m) (vW f m) bs c (kp r) = some (.map (kW (delW m r)) (vW f (delW m r)) bs' c) ∧ WfM (delW m r).length bs' c := by
  unfold delK kW vW
  rw [keyIs_p hr, keys_w hf]
  rcases find_w hr m 0 hf with ⟨h1, h2, _, h4⟩ | ⟨j, p, h1, h2, h3, h4, _, h6⟩
  · refine ⟨bs, ?_, by rw [h4]; exact hw⟩
    rw [h4]
    simp [h1]
  · obtain ⟨hj, _⟩ := List.getElem?_eq_some_iff.1 h2
    refine ⟨bs.eraseIdx j, ?_, ?_, ?_, fun b hb => hw.lt b (List.eraseIdx_subset hb)⟩
    · rw [h6]
      rw [map_eraseW, map_eraseW]
      simp [h1]
    · rw [h6, List.length_eraseIdx, List.length_eraseIdx, hw.len]
    · exact hw.nodup.sublist (List.eraseIdx_sublist _ _)
theorem fit_delW {α : Type} {m : List ((Int × Int) × α)} {r : Int × Int} (hm : ∀ p ∈ m, fitP p.1) : ∀ p ∈ delW m r, fitP p.1 := fun p hp => hm p (mem_delW hp)
end Go.Proofs.Try


namespace Go.Proofs.Try
open Go.Proofs.Tryz
open Go.Al
set_option maxRecDepth 100000
def mc23 : MC :=
(.seq (.ops [(none,.v (.mov 6 (.c (.raw (.slice none 0 0)))))])
(.seq (.ops [(none,.v (.mov 16 (.t 0))),
(none,.e (.call (some 17) 31 [(.t 16)])),
(none,.e (.mkmap 18)),
(none,.v (.mov 7 (.t 17))),
(none,.v (.mov 8 (.t 18)))])
(.seq (.seq (.ops [(none,.v (.mov 19 (.t 1))),
(none,.v (.mov 20 (.t 2))),
(none,.v (.mov 21 (.t 1))),
(none,.p (.len 22 (.t 21))),
(none,.v (.min 23 [(.t 20),(.t 22)])),
(none,.v (.max 24 [(.c (.int .i64 0)),(.t 23)])),
(none,.p (.pre 25 1 (.t 19) (some (.t 24)))),
(none,.p (.len 26 (.t 25))),
(none,.v (.mov 27 (.c (.int .i64 0))))])
(.block 0 (.loop (.seq (.ops [(none,.v (.bin 28 .lss false (.t 27) (.t 26)))])
(.seq (.cond 28
.skip
(.exit 0))
(.seq (.block 1 (.seq (.ops [(none,.v (.mov 29 (.t 27))),
(none,.p (.idx 30 1 (.t 25) (.t 27))),
(none,.v (.load 31 false 1 (.t 30))),
(none,.v (.mov 9 (.t 29))),
(none,.v (.mov 10 (.t 31)))])
(.seq (.ops [(none,.v (.mov 33 (.t 7))),
(none,.v (.mov 34 (.t 10))),
(none,.p (.look 35 true (.int .i64) (.int .i64 0) (.t 33) (.t 34))),
(none,.v (.mov 32 (.t 35))),
(none,.v (.ext 36 0 (.t 32))),
(none,.v (.ext 37 1 (.t 32))),
(none,.v (.mov 11 (.t 36))),
(none,.v (.mov 12 (.t 37)))])
(.seq (.seq (.ops [(none,.v (.mov 38 (.t 12))),
(none,.v (.not 39 (.t 38)))])
(.cond 39
(.exit 1)
.skip))
(.seq (.ops [(none,.v (.mov 40 (.t 0))),
(none,.v (.mov 41 (.t 11))),
(none,.p (.idx 42 5 (.t 40) (.t 41))),
(none,.v (.fld 43 3 (.t 42))),
(none,.v (.load 44 false 1 (.t 43))),
(none,.p (.len 45 (.t 44))),
(none,.v (.mov 46 (.c (.int .i64 0))))])
(.block 2 (.loop (.seq (.ops [(none,.v (.bin 47 .lss false (.t 46) (.t 45)))])
(.seq (.cond 47
.skip
(.exit 2))
(.seq (.block 3 (.seq (.ops [(none,.p (.idx 48 4 (.t 44) (.t 46))),
(none,.v (.load 49 true 4 (.t 48))),
(none,.e (.alloc 14 [(.int .i64 0),(.int .i64 0),(.bool false),(.raw (.slice none 0 0))])),
(none,.e (.store 4 true (.t 14) (.t 49)))])
(.seq (.ops [(none,.v (.fld 50 0 (.t 14))),
(none,.v (.load 51 false 1 (.t 50))),
(none,.v (.fld 52 1 (.t 14))),
(none,.v (.load 53 false 1 (.t 52))),
(none,.v (.build 54 [(.int .i64 0),(.int .i64 0)] [(0,1,(.t 51)),(1,1,(.t 53))])),
(none,.e (.alloc 15 [(.int .i64 0),(.int .i64 0)])),
(none,.e (.store 2 true (.t 15) (.t 54)))])
(.seq (.ops [(none,.v (.fld 55 2 (.t 14))),
(none,.v (.load 56 false 1 (.t 55)))])
(.cond 56
(.ops [(none,.v (.mov 57 (.t 8))),
(none,.v (.load 58 true 2 (.t 15))),
(none,.e (.mdel none (.wide [.int .i64,.int .i64]) (.t 57) (.t 58)))])
(.ops [(none,.v (.mov 59 (.t 8))),
(none,.v (.load 60 true 2 (.t 15))),
(none,.v (.fld 61 0 (.t 14))),
(none,.v (.load 62 false 1 (.t 61))),
(none,.v (.fld 63 1 (.t 14))),
(none,.v (.load 64 false 1 (.t 63))),
(none,.v (.mov 65 (.t 9))),
(none,.v (.bin 66 .add false (.t 65) (.c (.int .i64 1)))),
(none,.v (.fld 67 3 (.t 14))),
(none,.v (.load 68 false 1 (.t 67))),
(none,.v (.build 69 [(.int .i64 0),(.int .i64 0),(.int .i64 0),(.raw (.slice none 0 0))] [(0,1,(.t 62)),(1,1,(.t 64)),(2,1,(.t 66)),(3,1,(.t 68))])),
(none,.e (.mput (.wide [.int .i64,.int .i64]) (.t 59) (.t 60) (.t 69)))]))))))
(.ops [(none,.v (.bin 70 .add false (.t 46) (.c (.int .i64 1)))),
(none,.v (.mov 46 (.t 70)))])))))))))))
(.ops [(none,.v (.bin 71 .add false (.t 27) (.c (.int .i64 1)))),
(none,.v (.mov 27 (.t 71)))])))))))
(.seq (.ops [(none,.v (.mov 72 (.t 8))),
(none,.e (.call (some 73) 51 [(.t 72)])),
(none,.e (.call (some 74) 50 [(.t 73),(.c (.fn (.func 46) [] []))])),
(none,.v (.mov 6 (.t 74)))])
.ret))))
theorem ok23 : FnOk E 23 75 [.tmp 6] mc23 := .of func23 (by kernel_rfl) (by kernel_rfl) (by kernel_rfl) (by kernel_rfl) (by kernel_rfl)
end Go.Proofs.Try
namespace Go.Proofs.Try
open Go.Proofs.Tryz
open Go.Al
set_option linter.unusedVariables false
set_option linter.unusedSimpArgs false
set_option maxRecDepth 20000
set_option maxHeartbeats 8000000

theorem setW_len {α : Type} (m : List ((Int × Int) × α)) (r : Int × Int) (v : α) : (setW m r v).length ≤ m.length + 1 := by
  have := congrArg List.length (keysW_set m r v)
  simp only [keysW,List.length_map] at this
  rw [this]
  by_cases h : r ∈ m.map (fun x => x.1) <;> simp [h]
theorem delW_len {α : Type} (m : List ((Int × Int) × α)) (r : Int × Int) : (delW m r).length ≤ m.length := by
  have := congrArg List.length (keysW_del m r)
  simp only [keysW,List.length_map] at this
  rw [this]
  exact Nat.le_trans List.length_erase_le (by simp)
theorem putM_len (s : Int) (m : List ((Int × Int) × Hd)) (w : Wr) : (putM s m w).length ≤ m.length + 1 := by
  unfold putM
  have := delW_len m (w.t, w.r)
  split
  · omega
  · exact setW_len _ _ _
theorem foldM_len (s : Int) : ∀ (ws : List Wr) (m : List ((Int × Int) × Hd)), (ws.foldl (putM s) m).length ≤ m.length + ws.length
  | [], m => by simp
  | w :: ws, m => by
    have h1 := foldM_len s ws (putM s m w)
    have h2 := putM_len s m w
    rw [List.foldl_cons]
    simp only [List.length_cons]
    omega
theorem stM_len {h : List Hap} (hr : rightB h = true) (order : List Int) : ∀ n, (stM h order n).length ≤ 64 * n
  | 0 => by simp [stM]
  | n + 1 => by
    have h1 := stM_len hr order n
    have h2 := foldM_len ((n : Int) + 1) (wsOf h (order.getD n 0)) (stM h order n)
    have h3 := wsOf_len hr (order.getD n 0)
    rw [stM]
    omega
theorem fit_putM {s : Int} {m : List ((Int × Int) × Hd)} {w : Wr} (hm : ∀ p ∈ m, fitP p.1) (hw : okW w = true) : ∀ p ∈ putM s m w, fitP p.1 := by
  unfold putM
  split
  · exact fit_delW hm
  · exact fit_setW hm (fit_w hw)
theorem row_av (w : Wr) (s : Int) : (w.row s).av = .agg [.int .i64 w.t, .int .i64 w.r, .int .i64 s, .view 3 (w.v.map VL.av)] := rfl
def clampN (n : Int) (k : Nat) : Nat := (max 0 (min n k)).toNat
theorem c23 (h : List Hap) (hr : rightB h = true) (order : List Int) (ho : order.length ≤ 10000) (n : Int) :
    ACalls E.P 23 [.view 5 (h.map Hap.av), .view 1 (order.map (AV.int .i64)), .int .i64 n] [] (fun r H => r = .view 4 ((stL h order (clampN n order.length)).map Hd.av) ∧ H = []) := by
  have hmax := maxLen_eq
  have h12 := c31 h
  have h400 := rightB_len hr
  have hk0 : (if (if (order.length : Int) < n then (order.length : Int) else n) > 0 then if (order.length : Int) < n then (order.length : Int) else n else 0) = (clampN n order.length : Nat) := by
    unfold clampN
    repeat' split
    all_goals omega
  have hk3 : clampN n order.length ≤ order.length := by unfold clampN; omega
  generalize clampN n order.length = k at *
  have hk4 : (order.map (AV.int .i64)).take k = (order.take k).map (AV.int .i64) := List.map_take.symm
  have hk5 : (order.take k).length = k := by rw [List.length_take]; omega
  refine ok23.acalls hE hm (by simp) fun N hN => ?_
  unfold mc23
  simp only [lA,ptrCells,ptrAdd,isNil,readsV,readsP,isCall,wrote,srcOf,seval]
  repeat' (first | (with_reducible apply St.o; constructor) <;> intro _ | (with_reducible first | refine LenR_i fun _ => ?_ | refine And.intro (by omega) ?_ | (apply Sp.o; constructor) | refine mkl_own ?_ | refine frz0_i ?_) | ((with_reducible apply Sc.o false; constructor); simp only [lP,seval,renL_kM,renL_vI,List.length_map,hk0,Int.toNat_natCast,hk4,hk5]; refine ⟨_,h12,?_⟩; rintro _ _ ⟨rfl,bs,c,rfl⟩; simp only [lA,lP,ptrCells,ptrAdd,isNil,readsV,readsP,isCall,wrote,srcOf,seval,renL_kM,renL_vI,List.length_map,hk0,Int.toNat_natCast,hk4,hk5]) | simp (maxSteps := 1000000) (disch := omega) only [lE,ptrCells,ptrAdd,isNil,readsV,readsP,isCall,wrote,srcOf,seval,renL_kM,renL_vI,List.length_map,hk0,Int.toNat_natCast,hk4,hk5])
  refine loop_i (fun x : Nat × List Nat × Nat => x.1 ≤ k ∧ WfM (stM h order x.1).length x.2.1 x.2.2 ∧ ∀ p ∈ stM h order x.1, fitP p.1)
    (fun x => ⟨[(0, .view 5 (h.map Hap.av)), (7, .mp 0), (8, .mp 1), (25, .view 1 ((order.take k).map (AV.int .i64))), (26, .int .i64 k), (27, .int .i64 x.1)], [.map (kM (asksM h)) (vM (AV.int .i64) (asksM h)) bs c, .map (kW (stM h order x.1)) (vW Hd.av (stM h order x.1)) x.2.1 x.2.2]⟩) (fun x => k - x.1) (0, [], 0) ⟨by simp, ⟨rfl, .nil, by simp⟩, by simp [stM]⟩
    (Ent.to [0, 1] false (by simp) (by simp) rfl (by simp only [lP,seval,stM,kW,vW,List.map_nil,pa_kM,pa_vI,hk5] <;> (try simp) <;> (try omega)) (by simp only [lP,seval,stM,kW,vW,List.map_nil,pa_kM,pa_vI,hk5] <;> (try simp) <;> (try omega))) ?_
  rintro ⟨i, b2, c2⟩ ⟨hi, hw, hf⟩
  simp only at hi hw hf ⊢
  by_cases hil : i < k
  · have hlook := look_m (AV.int .i64) (.int .i64 0) (asksM h) (order.getD i 0)
    rw [asksM_all hr] at hlook
    have hg1 : (order.take k).getD i 0 = order.getD i 0 := by simp [hil]
    have hg2 : (order.take k).getD i default = order.getD i 0 := by simp [hil]
    have hst : stM h order (i + 1) = (wsOf h (order.getD i 0)).foldl (putM (i + 1)) (stM h order i) := rfl
    have hwo : ∀ w ∈ wsOf h (order.getD i 0), okW w = true := fun w hw => wsOf_ok hr hw
    generalize order.getD i 0 = tx at *
    cases hfi : h.findIdx? (isAsk tx) with
    | none =>
      rw [hfi] at hlook
      have hws : wsOf h tx = [] := by unfold wsOf; rw [hfi]
      rw [hws] at hst
      have hst2 : stM h order (i + 1) = stM h order i := hst
      repeat' (first | (with_reducible apply St.o; constructor) <;> intro _ | (with_reducible first | refine LenR_i fun _ => ?_ | refine And.intro (by omega) ?_ | (apply Sp.o; constructor) | refine mkl_own ?_ | refine frz0_i ?_) | simp (maxSteps := 1000000) (disch := omega) only [lE,ptrCells,ptrAdd,isNil,readsV,readsP,isCall,wrote,srcOf,seval,IdxR_int,hg1,hg2,Int.toNat_natCast,List.length_map,hlook,Option.map_none])
      all_goals try (exfalso; omega)
      exact back_i (i + 1,b2,c2) ⟨by simp only; omega,by simp only [hst2]; exact hw,by simp only [hst2]; exact hf⟩ (by simp only; omega) (Ent.to [0, 1] false (by simp) (by simp) rfl (by simp only [lP,seval,hst2,pa_kM,pa_vI,pa_kW,pa_vH] <;> (try simp) <;> (try omega)) (by simp only [lP,seval,hst2,pa_kM,pa_vI,pa_kW,pa_vH] <;> (try simp) <;> (try omega)))
    | some k0 =>
      rw [hfi] at hlook
      obtain ⟨hk0l, _⟩ := List.findIdx?_eq_some_iff_getElem.1 hfi
      have hws : wsOf h tx = (h.getD k0 default).ws := by unfold wsOf; rw [hfi]
      rw [hws] at hst hwo
      generalize hx : h.getD k0 default = x at *
      have hwl : x.ws.length ≤ 64 := by have := wsOf_len hr tx; rwa [hws] at this
      repeat' (first | (with_reducible apply St.o; constructor) <;> intro _ | (with_reducible first | refine LenR_i fun _ => ?_ | refine And.intro (by omega) ?_ | (apply Sp.o; constructor) | refine mkl_own ?_ | refine frz0_i ?_) | simp (maxSteps := 1000000) (disch := omega) only [lE,ptrCells,ptrAdd,isNil,readsV,readsP,isCall,wrote,srcOf,seval,IdxR_int,IdxR_haps,hx,hg1,hg2,Int.toNat_natCast,List.length_map,hlook,Option.map_some])
      all_goals try (exfalso; omega)
      generalize hws2 : x.ws = ws at *
      refine loop_i (fun y : Nat × List Nat × Nat => y.1 ≤ ws.length ∧ WfM ((ws.take y.1).foldl (putM (i + 1)) (stM h order i)).length y.2.1 y.2.2 ∧ ∀ p ∈ (ws.take y.1).foldl (putM (i + 1)) (stM h order i), fitP p.1)
        (fun y => ⟨[(0, .view 5 (h.map Hap.av)), (7, .mp 0), (8, .mp 1), (9, .int .i64 i), (25, .view 1 ((order.take k).map (AV.int .i64))), (26, .int .i64 k), (27, .int .i64 i), (44, .view 4 (ws.map Wr.av)), (45, .int .i64 ws.length), (46, .int .i64 y.1)], [.map (kM (asksM h)) (vM (AV.int .i64) (asksM h)) bs c, .map (kW ((ws.take y.1).foldl (putM (i + 1)) (stM h order i))) (vW Hd.av ((ws.take y.1).foldl (putM (i + 1)) (stM h order i))) y.2.1 y.2.2]⟩) (fun y => ws.length - y.1) (0, b2, c2) ⟨by simp, by simpa using hw, by simpa using hf⟩
        (Ent.to [0, 1] false (by simp) (by simp) rfl (by simp only [lP,seval,List.take_zero,List.foldl_nil,pa_kM,pa_vI,pa_kW,pa_vH,List.length_map,hws2] <;> (try simp) <;> (try omega)) (by simp only [lP,seval,List.take_zero,List.foldl_nil,pa_kM,pa_vI,pa_kW,pa_vH,List.length_map,hws2] <;> (try simp) <;> (try omega))) ?_
      rintro ⟨j, b3, c3⟩ ⟨hj, hw3, hf3⟩
      simp only at hj hw3 hf3 ⊢
      by_cases hjl : j < ws.length
      · have hnx : (ws.take (j + 1)).foldl (putM (i + 1)) (stM h order i) = putM (i + 1) ((ws.take j).foldl (putM (i + 1)) (stM h order i)) (ws.getD j default) := by
          rw [take_succD hjl, List.foldl_append]; rfl
        have hok := hwo _ (getD_mem hjl)
        have hfit := fit_w hok
        have hfn := fit_putM (s := (i : Int) + 1) hf3 hok
        obtain ⟨b4, c1004, hput, hw4⟩ := wfW_put Hd.av hf3 hw3 hfit ((ws.getD j default).row ((i : Int) + 1))
        obtain ⟨b5, hdel, hw5⟩ := wfW_del Hd.av hf3 hw3 hfit
        generalize (ws.take j).foldl (putM (i + 1)) (stM h order i) = m at *
        generalize hm' : (ws.take (j + 1)).foldl (putM (i + 1)) (stM h order i) = m' at *
        generalize hw0 : ws.getD j default = w at *
        simp only [kp,row_av] at hput hdel
        by_cases hd : w.dead = true
        · have hnx2 : m' = delW m (w.t, w.r) := by rw [hnx, putM, if_pos hd]
          rw [← hnx2] at hdel hw5
          rw [← hnx] at hfn
          repeat' (first | (with_reducible apply St.o; constructor) <;> intro _ | (with_reducible first | refine LenR_i fun _ => ?_ | refine And.intro (by omega) ?_ | (apply Sp.o; constructor) | refine mkl_own ?_ | refine frz0_i ?_) | simp (maxSteps := 1000000) (disch := omega) only [lE,ptrCells,ptrAdd,isNil,readsV,readsP,isCall,wrote,srcOf,seval,IdxR_wrs,hw0,hd,Int.toNat_natCast,List.length_map,fillE,List.length_cons,List.length_nil,hdel])
          all_goals try (exfalso; omega)
          exact back_i (j + 1,b5,c3) ⟨by simp only; omega,by simp only [hm']; exact hw5,by simp only [hm']; exact hfn⟩ (by simp only; omega) (Ent.to [0, 1] false (by simp) (by simp) rfl (by simp only [lP,seval,hm',pa_kM,pa_vI,pa_kW,pa_vH] <;> (try simp) <;> (try omega)) (by simp only [lP,seval,hm',pa_kM,pa_vI,pa_kW,pa_vH] <;> (try simp) <;> (try omega)))
        · have hd' : w.dead = false := by simpa using hd
          have hnx2 : m' = setW m (w.t, w.r) (w.row ((i : Int) + 1)) := by rw [hnx, putM, if_neg hd]
          rw [← hnx2] at hput hw4
          rw [← hnx] at hfn
          repeat' (first | (with_reducible apply St.o; constructor) <;> intro _ | (with_reducible first | refine LenR_i fun _ => ?_ | refine And.intro (by omega) ?_ | (apply Sp.o; constructor) | refine mkl_own ?_ | refine frz0_i ?_) | simp (maxSteps := 1000000) (disch := omega) only [lE,ptrCells,ptrAdd,isNil,readsV,readsP,isCall,wrote,srcOf,seval,IdxR_wrs,hw0,hd',Int.toNat_natCast,List.length_map,fillE,List.length_cons,List.length_nil,hput])
          all_goals try (exfalso; omega)
          exact back_i (j + 1,b4,c1004) ⟨by simp only; omega,by simp only [hm']; exact hw4,by simp only [hm']; exact hfn⟩ (by simp only; omega) (Ent.to [0, 1] false (by simp) (by simp) rfl (by simp only [lP,seval,hm',pa_kM,pa_vI,pa_kW,pa_vH] <;> (try simp) <;> (try omega)) (by simp only [lP,seval,hm',pa_kM,pa_vI,pa_kW,pa_vH] <;> (try simp) <;> (try omega)))
      · have hje : j = ws.length := by omega
        subst hje
        rw [List.take_length] at hw3 hf3 ⊢
        rw [← hst] at hw3 hf3 ⊢
        repeat' (first | (with_reducible apply St.o; constructor) <;> intro _ | (with_reducible first | refine LenR_i fun _ => ?_ | refine And.intro (by omega) ?_ | (apply Sp.o; constructor) | refine mkl_own ?_ | refine frz0_i ?_) | simp (maxSteps := 1000000) (disch := omega) only [lE,ptrCells,ptrAdd,isNil,readsV,readsP,isCall,wrote,srcOf,seval,List.length_map,Int.lt_irrefl,decide_false])
        exact back_i (i + 1,b3,c3) ⟨by simp only; omega,hw3,hf3⟩ (by simp only; omega) (Ent.to [0, 1] false (by simp) (by simp) rfl (by simp only [lP,seval,pa_kM,pa_vI,pa_kW,pa_vH] <;> (try simp) <;> (try omega)) (by simp only [lP,seval,pa_kM,pa_vI,pa_kW,pa_vH] <;> (try simp) <;> (try omega)))
  · have hie : i = k := by omega
    subst hie
    have h46 := c51 (stM h order i) b2 c2
    have h45 := c50 (stM h order i) b2 c2 hw (by have := stM_len hr order i; omega)
    have hso := sameR h order i
    repeat' (first | (with_reducible apply St.o; constructor) <;> intro _ | (with_reducible first | refine LenR_i fun _ => ?_ | refine And.intro (by omega) ?_ | (apply Sp.o; constructor) | refine mkl_own ?_ | refine frz0_i ?_) | simp (maxSteps := 1000000) (disch := omega) only [lE,ptrCells,ptrAdd,isNil,readsV,readsP,isCall,wrote,srcOf,seval,Int.lt_irrefl,decide_false])
    refine callN_i [1] false (by simp) (by simp) ?_
    simp only [lP,seval,pa_kW,pa_vH]
    refine ⟨_, h46, ?_⟩
    rintro _ _ ⟨rfl, rfl⟩
    unfold mapB at *
    simp only [lA,lP,ptrCells,ptrAdd,isNil,readsV,readsP,isCall,wrote,srcOf,seval,renL_kW,renL_vH]
    refine callN_i [1, 2] false (by simp) (by simp) ?_
    simp only [lP,seval,pa_kW,pa_vH]
    refine ⟨_, h45, ?_⟩
    rintro _ _ ⟨l, hp, hs, rfl, rfl⟩
    simp only [lA,lP,ptrCells,ptrAdd,isNil,readsV,readsP,isCall,wrote,srcOf,seval,renL_kW,renL_vH,renL_hds]
    rw [hso.sorted hp hs]
    exact keep_i [] true rfl (by simp) rfl ⟨by simp only [lP,seval],by simp only [lP,seval]⟩
end Go.Proofs.Try

