/-
  A part of the proof: see the text of the law.
-/
import Derived.Test.YthbajphbhoiceaaAlphaE
import Derived.Scope
set_option linter.unusedSimpArgs false
set_option linter.unusedVariables false
/-
  What code comes to; functions.
-/
namespace Go.Al
set_option linter.unusedVariables false

section
variable {E : Env} {X : Act → World → Prop} {m N : Nat} {γ : Gm} {σ : Sg} {w : World} {a : Act} {s : AS} {K : AS → Prop} {next : Act → World → Prop} {Q : Exit → Act → World → Prop} {o : Oper}

def dstsBelow (N : Nat) : Code → Bool
  | .region _ ops _ => ops.all fun o => match o.dst with | some d => decide (d < N) | none => true
  | .seq a b | .cond _ a b => dstsBelow N a && dstsBelow N b
  | .block _ c | .loop c | .scope c => dstsBelow N c
  | .rangeFunc _ _ a b => dstsBelow N a && dstsBelow N b
  | _ => true

/-- **What code comes to.** -/
theorem MW_sound (hE : E.ok) (hm : E.P.follows .mixedOrders = true) : ∀ (c : Code) (mc : MC) (Q : Exit → AS → Prop) (s : AS), cC E c = some mc → dstsBelow N c = true → MW E.P m N mc Q s → ACode E.P m N c Q s
  | .skip, mc, Q, s, hc, _, h => by simp only [cC, Option.some.injEq] at hc; subst hc; exact acode_skip h
  | .label _, mc, Q, s, hc, _, h => by simp only [cC, Option.some.injEq] at hc; subst hc; exact acode_label h
  | .ret, mc, Q, s, hc, _, h => by simp only [cC, Option.some.injEq] at hc; subst hc; exact acode_ret h
  | .exit id, mc, Q, s, hc, _, h => by simp only [cC, Option.some.injEq] at hc; subst hc; exact acode_exit h
  | .seq x y, mc, Q, s, hc, hd, h => by
    simp only [dstsBelow, Bool.and_eq_true] at hd
    simp only [cC] at hc
    split at hc
    · rename_i mx my hx hy
      cases hc
      refine acode_seq ((MW_sound hE hm x mx _ s hx hd.1 h).mono fun e s' he => ?_)
      cases e with
      | normal => exact MW_sound hE hm y my Q s' hy hd.2 he
      | _ => exact he
    · cases hc
  | .cond (.tmp t) x y, mc, Q, s, hc, hd, h => by
    simp only [dstsBelow, Bool.and_eq_true] at hd
    simp only [cC] at hc
    split at hc
    · rename_i mx my hx hy
      cases hc
      simp only [MW] at h
      split at h
      · rename_i b hb
        have hent : ∀ b', b = b' → Ent m N s ⟨(t, .bool b') :: s.fr, s.H⟩ := fun b' hbb γ σ w a hr => ⟨γ, σ, .refl _ _ _, hr.inv, repF_set hr.fr hb (fun v hv => by rw [← hbb]; exact hv), hr.defers, hr.size⟩
        exact acode_cond (c := .tmp t) hb (fun hb' => (MW_sound hE hm x mx Q _ hx hd.1 (h.1 hb')).ent (hent _ hb')) (fun hb' => (MW_sound hE hm y my Q _ hy hd.2 (h.2 hb')).ent (hent _ hb'))
      · exact h.elim
    · cases hc
  | .cond (.const _) _ _, _, _, _, hc, _, _ => by simp [cC] at hc
  | .cond (.global _) _ _, _, _, _, hc, _, _ => by simp [cC] at hc
  | .cond (.func _) _ _, _, _, _, hc, _, _ => by simp [cC] at hc
  | .block id c, mc, Q, s, hc, hd, h => by
    simp only [cC] at hc
    obtain ⟨mx, hx, he⟩ := Option.map_eq_some_iff.1 hc; cases he
    exact acode_block (MW_sound hE hm c mx _ s hx hd h)
  | .loop c, mc, Q, s, hc, hd, h => by
    simp only [cC] at hc
    obtain ⟨mx, hx, he⟩ := Option.map_eq_some_iff.1 hc; cases he
    exact acode_loop (Loop.mono h fun Q' s' h' => MW_sound hE hm c mx Q' s' hx hd h')
  | .region id ops false, mc, Q, s, hc, hd, h => by
    simp only [cC] at hc
    obtain ⟨ml, hml, he⟩ := Option.map_eq_some_iff.1 hc; cases he
    intro γ σ w a hr
    refine wp_region_list (mops_sound (m := m) hE ops.toList ml hml (fun o ho d hod => ?_) hr (fun γ' σ' w' a' s' _ h1 h2 h3 => ⟨γ', σ', s', h1, h2, h3⟩) h)
    simp only [dstsBelow, Array.all_eq_true'] at hd
    have := hd o (by simpa using ho)
    simpa [hod] using this
  | .region id ops true, mc, Q, s, hc, hd, h => by
    simp only [cC] at hc
    split at hc
    · rename_i hs
      obtain ⟨t, ht, he⟩ := Option.map_eq_some_iff.1 hc; cases he
      intro γ σ w a hr
      have h : ∃ L, anyW E.P L (fun fr H => ∃ s', Ent m N ⟨fr, H⟩ s' ∧ Q .normal s') t s.H s.fr s.fr s.H := by
        revert h
        cases writes t <;> intro h
        · exact ⟨[], anyW_mono (fun fr H h => ⟨⟨fr, H⟩, fun γ σ w a hr => ⟨γ, σ, .refl _ _ _, hr⟩, h⟩) t _ _ _ _ h⟩
        · exact h
      obtain ⟨L, h⟩ := h
      have hr' : Rep N γ σ w.drew a s := ⟨hr.inv.drew, hr.fr, hr.defers, hr.size⟩
      refine wp_region_held (S := ExtL σ L w.drew) hm ?_
      refine any_sound (m := m) (K := fun fr H => ∃ s', Ent m N ⟨fr, H⟩ s' ∧ Q .normal s') hE hs (fun o ho d hod => ?_) hr'.inv (fun γ' σ' w' a' fr H h1 h2 ⟨s', he, hq⟩ => let ⟨γ2, σ2, hst, hrep⟩ := he γ' σ' w' a' h2; ⟨γ2, σ2, s', (Step.drew _ _ _).trans (h1.trans hst), hrep, hq⟩) (fun c a w h => h) _ ops.size _ [] t ht γ σ w.drew a s.fr s.fr s.H ⟨.refl _ _ _, Sg.le_refl _, hr', hr'.fr, ExtL.refl _ _ _, fun _ _ _ => rfl, Nat.le_refl _⟩ h
      simp only [dstsBelow, Array.all_eq_true'] at hd
      have := hd o (by simpa using ho)
      simpa [hod] using this
    · cases hc
  | .scope c, mc, Q, s, hc, hd, h => by
    simp only [cC] at hc
    have := MW_sound hE hm c mc Q s hc hd h
    intro γ σ w a hr
    refine wp_scope_straight (wp_mono (this γ σ w a hr) fun e a' w' hl => ?_)
    cases e <;> simp only [lift, Exit.noGoto] at * <;> exact hl
  | .goto _, _, _, _, hc, _, _ => by simp [cC] at hc
  | .refuse _, _, _, _, hc, _, _ => by simp [cC] at hc
  | .rangeFunc .., _, _, _, hc, _, _ => by simp [cC] at hc
end

section
variable {E : Env} {m N : Nat}
theorem acalls_of_MW (hE : E.ok) (hm : E.P.follows .mixedOrders = true) {f : FuncId} {fn : Func} {c : Code} {mc : MC} {args : List AV} {H : List AObj} {Q : AV → List AObj → Prop} (hf : E.P.funcs[f]? = some fn) (hb : fn.body = some c) (hn : (fn.name == "runtime.NumGoroutine") = false)
    (hargs : args.length ≤ fn.ntmps) (hd : dstsBelow fn.ntmps c = true) (hc : cC E c = some mc) (h : MW E.P H.length fn.ntmps mc (endQ E fn.results.toList Q) ⟨frOf 0 args, H⟩) : ACalls E.P f args H Q := by
  refine ⟨⟨fn, hf, hn, by simp [hb]⟩, fun γ σ w vs hi hv => ?_⟩
  have hlen := hv.length
  refine calls_of_wp hf hb ?_
  have hrep : Rep fn.ntmps γ σ w { tmps := vs.toArray ++ Array.replicate (fn.ntmps - vs.toArray.size) undef, defers := [] } ⟨frOf 0 args, H⟩ := by
    refine ⟨hi, fun t => ?_, rfl, by simp; omega⟩
    simp only [get_frOf, Nat.zero_le, if_true, Nat.sub_zero]
    cases hx : args[t]? with
    | none => simp [RepV]
    | some x =>
      obtain ⟨v, h1, h2⟩ := hv.get t x hx
      have := (List.getElem?_eq_some_iff.1 h1).1
      simp only [Option.getD_some, Array.getD_eq_getD_getElem?]
      rw [Array.getElem?_append_left (by simpa using this)]
      simpa [h1] using h2
  refine wp_mono (MW_sound hE hm c mc _ _ hc hd h γ σ w _ hrep) fun e a' w' hl => ?_
  have fin : (∃ γ' σ' s', Step H.length γ σ w γ' σ' w' ∧ Rep fn.ntmps γ' σ' w' a' s' ∧ endQ.optR (resA E s' fn.results.toList) fun xs => Q (tupA xs) s'.H) →
      a'.defers = [] ∧ ∃ v, (results fn a'.tmps).run E.P w' = .ok v w' ∧ ∃ v' γ' σ' r H', Ending.returned v = .returned v' ∧ Step H.length γ σ w γ' σ' w' ∧ Inv γ' σ' w' H' ∧ RepV γ' σ' r v' ∧ Q r H' := by
    rintro ⟨γ', σ', s', hst, hr, hq⟩
    unfold endQ.optR at hq
    split at hq
    · rename_i xs hxs
      obtain ⟨us, h1, h2⟩ := resA_run hE hr.inv hr.fr _ _ hxs
      refine ⟨hr.defers, if h : us.toArray.size = 1 then us.toArray[0] else .tuple us.toArray, ?_, _, γ', σ', tupA xs, s'.H, rfl, hst, hr.inv, ?_, hq⟩
      · rw [results_eq, Array.mapM_eq_mapM_toList]
        simp only [Sem.run_bind, Sem.run_map, h2, Result.andThen_ok, Sem.run_pure]
      · have hul := h1.length
        cases xs with
        | nil => simp at hul; subst hul; exact ⟨[], rfl, h1⟩
        | cons x xs =>
          cases xs with
          | nil =>
            obtain ⟨u, us', rfl, h3, h4⟩ := repVs_cons.1 h1
            rw [repVs_nil] at h4; subst h4
            simpa [tupA] using h3
          | cons y ys =>
            rw [dif_neg (by simp [hul])]
            exact ⟨us, rfl, h1⟩
    · exact hq.elim
  cases e <;> simp only [lift, bodyPost] at hl ⊢
  · exact fin hl
  · obtain ⟨_, _, _, _, _, hq⟩ := hl; exact hq.elim
  · exact fin hl
end
end Go.Al
