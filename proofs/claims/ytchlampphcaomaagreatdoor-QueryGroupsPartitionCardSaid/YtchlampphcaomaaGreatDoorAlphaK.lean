/-
 A part of the proof: see the text of the law.
-/
import Derived.Test.YtchlampphcaomaaGreatDoorAlphaH
import Derived.Test.YtchlampphcaomaaGreatDoorAlphaI
import Derived.Test.YtchlampphcaomaaGreatDoorAlphaJ
import Derived.Test.YtchlampphcaomaaGreatDoorAlphaA
set_option linter.unusedSimpArgs false
set_option linter.unusedVariables false
namespace Go.Al
section
variable {E:Env} {m:Nat} {N:FN}
theorem acalls_of_code (hE : E.ok) (hm : E.P.follows .mixedOrders = true) {f : FuncId} {fn : Func} {c : Code} {args : List AV} {H : List AObj} {Q : AV → List AObj → Prop} (hf : E.P.funcs[f]? = some fn) (hb : fn.body = some c) (hn : (fn.name == "runtime.NumGoroutine") = false)
 (hargs:args.length≤fn.ntmps) (h:∀ N:FN,N.n=fn.ntmps→N.ro=none→ACode E.P H.length N c (endQ E fn.results.toList Q) ⟨frOf 0 args,H⟩):ACalls E.P f args H Q:=by
 refine ⟨⟨fn,hf,hn,by simp [hb]⟩,fun γ σ w vs hi hv=>?_⟩
 have hlen:=hv.length
 refine callsIn_wide.1 (F_wide ▸ callsIn_of_wp_marks (F:=FW none) (n:=0) hf hb trivial ?_)
 have hrep:Rep { n:=fn.ntmps,base:=w.heap.size } γ σ w { tmps:=vs.toArray++Array.replicate (fn.ntmps - vs.toArray.size) undef,defers:=[] } ⟨frOf 0 args,H⟩:=by
  refine ⟨hi,fun t=>?_,Nat.le_refl _,by simp;omega⟩
  simp only [get_frOf,Nat.zero_le,if_true,Nat.sub_zero]
  cases hx:args[t]? with
  | none=>simp [RepV]
  | some x =>
    obtain ⟨v,h1,h2⟩:=hv.get t x hx
    have:=(List.getElem?_eq_some_iff.1 h1).1
    simp only [Option.getD_some,Array.getD_eq_getD_getElem?]
    rw [Array.getElem?_append_left (by simpa using this)]
    simpa [h1] using h2
 refine wpIn_mono (h { n:=fn.ntmps,base:=w.heap.size } rfl rfl γ σ w _ hrep) fun e a' w' hl=>?_
 have fin:(∃ γ' σ' s',Step H.length γ σ w γ' σ' w'∧Rep { n:=fn.ntmps,base:=w.heap.size } γ' σ' w' a' s'∧endQ.optR (resA E s' fn.results.toList) fun xs=>Q (tupA xs) s'.H) →
  LeavesInM (FW none) 0 E.P fn a'.tmps (fun e w'=>∃ v γ' σ' r H',e=.returned v∧Step H.length γ σ w γ' σ' w'∧Inv γ' σ' w' H'∧RepV γ' σ' r v∧Q r H') a'.defers .returning w':=by
  rintro ⟨γ',σ',s',hst,hr,hq⟩
  unfold endQ.optR at hq
  split at hq
  · rename_i xs hxs
    refine leaves_marks a'.defers w' hr.inv hst hr.defers fun w2 hi2 hst2=>?_
    obtain ⟨us,h1,h2⟩:=resA_run hE hi2 hr.fr _ _ hxs
    refine ⟨if h:us.toArray.size=1 then us.toArray[0] else .tuple us.toArray,?_,_,γ',σ',tupA xs,s'.H,rfl,hst2,hi2,?_,hq⟩
    · rw [results_eq,Array.mapM_eq_mapM_toList]
      simp only [Sem.run_bind,Sem.run_map,h2,Result.andThen_ok,Sem.run_pure]
    · have hul:=h1.length
      cases xs with
      | nil=>simp at hul;subst hul;exact ⟨[],rfl,h1⟩
      | cons x xs =>
        cases xs with
        | nil =>
          obtain ⟨u,us',rfl,h3,h4⟩:=repVs_cons.1 h1
          rw [repVs_nil] at h4;subst h4
          simpa [tupA] using h3
        | cons y ys =>
          rw [dif_neg (by simp [hul])]
          exact ⟨us,rfl,h1⟩
  · exact hq.elim
 cases e <;> simp only [lift,bodyPostM] at hl ⊢
 · exact fin hl
 · obtain ⟨_,_,_,_,_,hq⟩:=hl;exact hq.elim
 · exact fin hl
end
def MF (P:Program) (m:Nat) (N:FN):Nat→MC→(Exit→AS→Prop)→AS→Prop
 | d+1,.seq a b,Q,s=>MW P m N a (seqQ (fun s=>∃ s',Ent m N s s'∧MF P m N d b Q s') Q) s
 | _,x,Q,s=>MW P m N x Q s
def spine:Nat→Code→Bool
 | 0,_=>true
 | d+1,.seq _ y=>spine d y
 | _+1,_=>false
theorem MF_sound {E:Env} (hE:E.ok) (hm:E.P.follows .mixedOrders=true) {m:Nat} {N:FN} {Q:Exit→AS→Prop}:∀ (d:Nat) (c:Code) (mc:MC) (s:AS),spine d c=true→cC E c=some mc→dstsBelow N.n c=true→MF E.P m N d mc Q s→ACode E.P m N c Q s
 | 0,c,mc,s,_,hc,hd,h=>MW_sound hE hm _ _ _ _ _ _ hc hd (by cases mc <;> exact h)
 | d+1,c,mc,s,hs,hc,hd,h=>by
   cases c with
   | seq x y =>
     simp only [dstsBelow,Bool.and_eq_true] at hd
     simp only [cC] at hc
     split at hc
     · rename_i a b ha hb
       simp only [Option.some.injEq] at hc
       subst hc
       refine acode_seq ((MW_sound hE hm _ _ _ _ _ _ ha hd.1 h).mono fun e s' hq=>?_)
       cases e <;> first | exact hq | skip
       obtain ⟨s'',he,hq⟩:=hq
       exact ACode.ent he (MF_sound hE hm d y b s'' hs hb hd.2 hq)
     · cases hc
   | _=>cases hs
def mfQ (P:Program) (m:Nat) (N:FN) (d:Nat) (b:MC) (Q:Exit→AS→Prop) (e:Exit) (s:AS):Prop:=match e with
 | .normal=>∃ s',Ent m N s s'∧MF P m N d b Q s'
 | e=>Q e s
section
variable {P:Program} {m:Nat} {N:FN} {d:Nat} {a b:MC} {Q:Exit→AS→Prop} {fr fr':List (Nat × AV)} {H H':List AObj}
theorem mf_i (h:R P m N [.c a] (mfQ P m N d b Q) .normal fr H):MF P m N (d+1) (.seq a b) Q ⟨fr,H⟩:=by
 have e:(seqQ (fun s=>∃ s',Ent m N s s'∧MF P m N d b Q s') Q)=mfQ P m N d b Q:=by
  funext e s
  cases e <;> rfl
 unfold MF
 rw [e]
 exact h
theorem mf_go (h:MF P m N d b Q ⟨fr,H⟩):mfQ P m N d b Q .normal ⟨fr,H⟩:=⟨_,Ent.refl _ _ _,h⟩
theorem mf_to (he:Ent m N ⟨fr,H⟩ ⟨fr',H'⟩) (h:MF P m N d b Q ⟨fr',H'⟩):mfQ P m N d b Q .normal ⟨fr,H⟩:=⟨_,he,h⟩
theorem mf_last (h:R P m N [.c b] Q .normal fr H):MF P m N 0 b Q ⟨fr,H⟩:=by
 cases b <;> exact h
end
theorem FnOk.acallsF {E:Env} (hE:E.ok) (hm:E.P.follows .mixedOrders=true) {f:FuncId} {n:Nat} {rs:List ResultVar} {mc:MC} (hf:FnOk E f n rs mc) {args:List AV} {H:List AObj} {Q:AV→List AObj→Prop} (hargs:args.length≤n) (d:Nat) (hs:∀ fn,E.P.funcs[f]?=some fn→fn.body.map (spine d)=some true)
 (h:∀ N:FN,N.ro=none→MF E.P H.length N d mc (endQ E rs (keepQ H.length Q)) ⟨frOf 0 args,H⟩):ACalls E.P f args H Q:=by
 refine ACalls.keep ?_
 obtain ⟨fn,c,h1,h2,h3,h4,h5,h6,h7⟩:=hf.ex
 subst h4 h5
 exact acalls_of_code hE hm h1 h2 h3 hargs fun N hn hN=>MF_sound hE hm d c mc _ (by have:=hs fn h1;rw [h2] at this;simpa using this) h7 (hn ▸ h6) (h N hN)
def WeakL (xs ys:List AV):Prop:=∀ γ σ vs,RepVs γ σ xs vs→RepVs γ σ ys vs
theorem WeakL.refl (xs:List AV):WeakL xs xs:=fun _ _ _ h=>h
theorem WeakL.cons {x y:AV} {xs ys:List AV} (h:Weak x y) (k:WeakL xs ys):WeakL (x::xs) (y::ys):=fun γ σ vs hr=>by
 obtain ⟨v,vs',rfl,h1,h2⟩:=repVs_cons.1 hr
 exact repVs_cons.2 ⟨v,vs',rfl,h _ _ _ h1,k _ _ _ h2⟩
theorem WeakL.agg {xs ys:List AV} (h:WeakL xs ys):Weak (.agg xs) (.agg ys):=fun γ σ v hr=>by
 obtain ⟨vs,h1,h2,h3⟩:=hr
 exact ⟨vs,h1,h _ _ _ h2,h3⟩
theorem WeakL.tup {xs ys:List AV} (h:WeakL xs ys):Weak (.tup xs) (.tup ys):=fun γ σ v hr=>by
 obtain ⟨vs,h1,h2⟩:=hr
 exact ⟨vs,h1,h _ _ _ h2⟩
theorem WeakL.view {sz:Nat} {xs ys:List AV} (h:WeakL xs ys):Weak (.view sz xs) (.view sz ys):=fun γ σ v hr=>by
 obtain ⟨a,n,c,vs,h1,h2,h3⟩:=hr
 exact ⟨a,n,c,vs,h1,h _ _ _ h2,h3⟩
theorem Ent.weak {m:Nat} {N:FN} {fr:List (Nat × AV)} {H:List AObj} (t:Nat) {x y:AV} (hx:get fr t=x) (hw:Weak x y):Ent m N ⟨fr,H⟩ ⟨(t,y)::fr,H⟩:=fun γ σ w a hr =>
 ⟨γ,σ,.refl _ _ _,hr.inv,repF_set hr.fr hx fun v hv=>hw γ σ v hv,hr.defers,hr.size⟩
end Go.Al
namespace Go.Al
theorem RepVs.setx {γ:Gm} {σ:Sg} {y:AV}:∀ {xs:List AV} {vs:List Value} (n:Nat),RepVs γ σ xs vs→(∀ u,vs[n]?=some u→RepV γ σ y u)→RepVs γ σ (xs.set n y) vs
 | [],vs,n,h,_=>by simpa using h
 | x::xs,vs,0,h,hy=>by
   obtain ⟨v,vs',rfl,h1,h2⟩:=repVs_cons.1 h
   exact repVs_cons.2 ⟨v,vs',rfl,hy v rfl,h2⟩
 | x::xs,vs,n+1,h,hy=>by
   obtain ⟨v,vs',rfl,h1,h2⟩:=repVs_cons.1 h
   exact repVs_cons.2 ⟨v,vs',rfl,h1,RepVs.setx n h2 fun u hu=>hy u hu⟩
theorem Ent.ghostB {m:Nat} {N:FN} {fr:List (Nat × AV)} {H:List AObj} (b0 k:Nat) (E:TypeId) (sz:Nat) (h0:0<sz) {cs:List AV} (hb:H[b0]?=some (.box cs)) (hk:cs[k]?=some (.raw (.slice none 0 0))) :
 Ent m N ⟨fr,H⟩ ⟨fr,H.set b0 (.box (cs.set k (.slc H.length sz 0)))++[.arr E sz []]⟩:=by
 intro γ σ w a hr
 have hi:=hr.inv
 have hnew:∀ (i:Nat) e,(σ++[some (none,0)])[i]?=some e→σ[i]?=some e∨(i=σ.length∧e=some (none,0)):=by
  intro i e hi
  rw [List.getElem?_append] at hi
  split at hi
  · exact .inl hi
  · have:i - σ.length=0:=by
     rcases Nat.eq_zero_or_pos (i - σ.length) with h0 | h0
     · exact h0
     · rw [List.getElem?_eq_none (by simp;omega)] at hi;cases hi
    rw [this] at hi
    simp at hi
    exact .inr ⟨by omega,hi.symm⟩
 have hst:Step m γ σ w γ (σ++[some (none,0)]) w:=by
  refine ⟨fun _ _ h=>h,Nat.le_refl _,fun _ _ _=>⟨rfl,rfl⟩,?_,rfl,rfl,rfl,Nat.le_refl _,fun i e _ h=>Sg.le_append _ _ i e h⟩
  rintro b ⟨i,c,hs⟩
  rcases hnew i _ hs with h1 | ⟨_,h1⟩
  · exact .inl ⟨i,c,h1⟩
  · cases h1
 refine ⟨γ,σ++[some (none,0)],hst,⟨⟨hi.mem,?_,?_,by simp [hi.len],?_,hi.glob⟩,repF_mono hr.fr (fun _ _ h=>h) (Sg.le_append _ _),hr.defers.step hst,hr.size⟩⟩
 · intro i b c hs
   rcases hnew i _ hs with h1 | ⟨_,h1⟩
   · exact hi.own i b c h1
   · cases h1
 · intro i j b c c' h1 h2
   rcases hnew i _ h1 with h1 | ⟨_,h1⟩
   · rcases hnew j _ h2 with h2 | ⟨_,h2⟩
     · exact hi.inj i j b c c' h1 h2
     · cases h2
   · cases h1
 · intro i o e ho he
   rcases hnew i _ he with h1 | ⟨rfl,rfl⟩
   · have hlt:i<H.length:=by rw [← hi.len];exact (List.getElem?_eq_some_iff.1 h1).1
     rw [List.getElem?_append_left (by simpa using hlt)] at ho
     by_cases hib:b0=i
     · subst hib
       rw [List.getElem?_set_self hlt] at ho
       cases ho
       have hold:=(hi.obj b0 _ e hb h1).mono (γ':=γ) (w':=w) (fun _ _ h=>h) (Sg.le_append σ [some (none,0)]) fun _ _ _=>rfl
       match e,hold with
       | some (some b,c),hold =>
         obtain ⟨vs,E',h2,h3,h4⟩:=hold
         refine ⟨vs,E',h2,RepVs.setx k h3 fun u hu=>?_,h4⟩
         obtain ⟨u',h5,h6⟩:=h3.get k _ hk
         rw [hu] at h5
         cases h5
         simp only [RepV] at h6
         subst h6
         exact ⟨some (none,0),by rw [← hi.len];simp,rfl,fun blk cap he=>by cases he;simp⟩
       | some (none,c),hold=>exact hold.elim
       | none,hold=>exact hold.elim
     · rw [List.getElem?_set_ne hib] at ho
       exact (hi.obj i o e ho h1).mono (fun _ _ h=>h) (Sg.le_append _ _) fun _ _ _=>rfl
   · rw [List.getElem?_append_right (by rw [List.length_set,hi.len];exact Nat.le_refl _)] at ho
     rw [hi.len,List.length_set,Nat.sub_self] at ho
     simp at ho
     subst ho
     exact ⟨[],by simp [RepVs],by simp,h0,by simp,by simp [flat],.inl ⟨rfl,by simp [flat]⟩⟩
end Go.Al
namespace Go.Al
open Classical in
theorem ACalls.passZ {P:Program} {f:FuncId} {args:List AV} {H:List AObj} {Q Q':AV→List AObj→Prop} (l:List Nat) (n:Nat) (hlt:∀ i ∈ l,i<H.length) (hnd:l.Nodup)
 (hc:ACalls P f (args.map (pa H l true n)) (pH H l true n) Q')
 (hq:∀ r H',Q' r H'→Q (ren (rho l H.length) r) (merge (fun o=>o) (H.map fun _=>AObj.dead) l (H'.map (renO (rho l H.length))))):ACalls P f args H Q:=by
 refine ⟨hc.1,fun γ σ w vs hi hv=>?_⟩
 have hlt':∀ i ∈ l,i<σ.length:=fun i h=>by rw [hi.len];exact hlt i h
 refine (hc.2 _ _ w vs (inv_pass hi hlt hnd n) (RepVs.of_map (fun x _ v hx=>pa_spec hi hlt n x v hx) hv)).mono ?_
 rintro e w1 ⟨v,γ1,σ1,r,H',rfl,hst,hi1,hr,hq'⟩
 have hQ:=hq r H' hq'
 have hlen:l.length=(pH H l true n).length:=by simp [pH]
 have hsl:l.length≤σ1.length:=by
  rcases Nat.eq_zero_or_pos l.length with h0 | h0
  · omega
  · have hj:(sl σ l)[l.length - 1]?=some ((sl σ l)[l.length - 1]'(by simp [sl];omega)):=List.getElem?_eq_getElem _
    rcases hst.low (l.length - 1) _ (by omega) hj with h | h <;> have:=(List.getElem?_eq_some_iff.1 h).1 <;> omega
 let ρ:=rho l H.length
 let σ0:Sg:=σ.map fun _=>none
 let H0:List AObj:=H.map fun _=>AObj.dead
 have hl0:σ0.length=σ.length:=by simp [σ0]
 have hlH:H0.length=H.length:=by simp [H0]
 let σ2:=merge (fun o=>o) σ0 l σ1
 have hρ:ρ=rho l σ0.length:=by simp only [ρ,hl0,hi.len]
 have s1:∀ j,σ2[ρ j]?=σ1[j]?:=fun j=>by
  rw [hρ]
  have:=merge_rho (fun o=>o) (xs:=σ0) (ys:=σ1) hnd (fun i h=>by rw [hl0];exact hlt' i h) hsl j
  simpa using this
 have s2:∀ i,i<σ.length→i ∉ l→σ2[i]?=some none:=fun i h1 h2=>by
  rw [show σ2[i]?=σ0[i]? from merge_other _ (by rw [hl0];exact h1) h2]
  simp [σ0,h1]
 have s3:∀ i,i<σ2.length→(i<σ.length∧i ∉ l)∨∃ j,j<σ1.length∧i=ρ j:=fun i h=>by
  rw [hρ,← hl0];exact merge_cases _ hsl h
 have blkl:∀ b,Blks (sl σ l) b→∃ (i:Nat) (c:Nat),i ∈ l∧σ[i]?=some (some (some b,c)):=by
  rintro b ⟨j,c,hj⟩
  simp only [sl,List.getElem?_map,Option.map_eq_some_iff] at hj
  obtain ⟨i,h1,h2⟩:=hj
  have:=hlt' i (List.mem_of_getElem? h1)
  rw [List.getElem?_eq_getElem this] at h2
  exact ⟨i,c,List.mem_of_getElem? h1,by rw [List.getElem?_eq_getElem this];simpa using h2⟩
 refine ⟨v,γ1,σ2,ren ρ r,merge (fun o=>o) H0 l (H'.map (renO ρ)),rfl,⟨fun b o hb=>hst.le b o (gb_le hi b o hb),hst.size,fun b hb hnb=>?_,fun b hb=>?_,hst.os,hst.tape,hst.output,hst.drawn,fun i en _ hen=>?_⟩,⟨hi1.mem,fun i b c hs=>?_,fun i j b c c' h1 h2=>?_,?_,fun i o en ho he=>?_,hi1.glob⟩,RepV.ren (fun i e he=>by rw [s1];exact he) r v hr,hQ⟩
 · have hnb':¬ Blks (sl σ l) b:=fun h=>by
    obtain ⟨i,c,_,h2⟩:=blkl b h
    exact hnb ⟨i,c,h2⟩
   obtain ⟨h1,h2⟩:=hst.keep b hb hnb'
   refine ⟨h1,?_⟩
   rw [h2]
   unfold gb
   rw [if_neg]
   rintro ⟨_,i,c,_,hs⟩
   exact hnb ⟨i,c,hs⟩
 · obtain ⟨i,c,hs⟩:=hb
   rcases s3 i (List.getElem?_eq_some_iff.1 hs).1 with ⟨h1,h2⟩ | ⟨j,_,rfl⟩
   · rw [s2 i h1 h2] at hs;cases hs
   · rw [s1] at hs
     rcases hst.own b ⟨j,c,hs⟩ with h | h
     · obtain ⟨i',c',_,h4⟩:=blkl b h
       exact .inl ⟨i',c',h4⟩
     · exact .inr h
 · by_cases hil:i ∈ l
   · obtain ⟨j,hj,hji⟩:=List.getElem_of_mem hil
     have hj':l[j]?=some i:=by rw [List.getElem?_eq_getElem hj,hji]
     have hρj:ρ j=i:=by simp only [ρ,rho,hj']
     rw [← hρj,s1 j]
     refine hst.low j en (by omega) ?_
     rw [sl_get hj' (hlt' i hil)];exact hen
   · exact .inr (s2 i (List.getElem?_eq_some_iff.1 hen).1 hil)
 · rcases s3 i (List.getElem?_eq_some_iff.1 hs).1 with ⟨h1,h2⟩ | ⟨j,_,rfl⟩
   · rw [s2 i h1 h2] at hs;cases hs
   · rw [s1] at hs
     exact hi1.own j b c hs
 · rcases s3 i (List.getElem?_eq_some_iff.1 h1).1 with ⟨h3,h4⟩ | ⟨j1,_,rfl⟩
   · rw [s2 i h3 h4] at h1;cases h1
   rcases s3 j (List.getElem?_eq_some_iff.1 h2).1 with ⟨h5,h6⟩ | ⟨j2,_,rfl⟩
   · rw [s2 j h5 h6] at h2;cases h2
   rw [s1] at h1 h2
   rw [hi1.inj j1 j2 b c c' h1 h2]
 · simp only [σ2,merge_length,List.length_map,hl0,hlH,hi.len,hi1.len]
 · rcases s3 i (List.getElem?_eq_some_iff.1 he).1 with ⟨h1,h2⟩ | ⟨j,hj,rfl⟩
   · rw [s2 i h1 h2] at he
     rw [merge_other _ (by rw [hlH,← hi.len];exact h1) h2] at ho
     have hoo:o=.dead:=by
      have h3:i<H.length:=by rw [← hi.len];exact h1
      simp [H0,h3] at ho
      exact ho.symm
     subst hoo
     cases he
     exact trivial
   · rw [s1] at he
     have hρ':ρ=rho l H0.length:=by simp only [ρ,hlH]
     rw [hρ',merge_rho _ hnd (fun i h=>by rw [hlH];exact hlt i h) (by rw [List.length_map,← hi1.len];exact hsl)] at ho
     simp only [List.getElem?_map,Option.map_map] at ho
     obtain ⟨o',ho',rfl⟩:=Option.map_eq_some_iff.1 ho
     exact (hi1.obj j o' en ho' he).ren (ρ:=rho l H0.length) fun i e he=>by rw [← hρ',s1];exact he
def callZ (P:Program) (m:Nat) (N:FN) (d:Option Nat) (f:FuncId) (args:List AV) (H':List AObj) (ids:List Nat) (fr:List (Nat × AV)) (H:List AObj) (q:Ke):Prop :=
 ∃ Q',ACalls P f args H' Q'∧∀ r H'',Q' r H''→rE P m N q (putO fr d (ren (rho ids H.length) r)) (merge (fun o=>o) (H.map fun _=>AObj.dead) ids (H''.map (renO (rho ids H.length))))
theorem callZ_i {P:Program} {m:Nat} {N:FN} {d:Option Nat} {f:FuncId} {args:List AV} {fr:List (Nat × AV)} {H:List AObj} {q:Ke} (ids:List Nat) (hlt:ids.all (· < H.length)=true) (hnd:ids.Nodup)
 (h:callZ P m N d f (args.map (pa H ids true 8)) (pH H ids true 8) ids fr H q):callR P m N d f args fr H q:=by
 obtain ⟨Q',hc,hq⟩:=h
 exact ACalls.passZ ids 8 (by simpa using hlt) hnd hc hq
theorem ACalls.ghost {P:Program} {f:FuncId} {args:List AV} {H:List AObj} {Q:AV→List AObj→Prop} (E:TypeId) (sz:Nat) (h0:0<sz)
 (h:ACalls P f args H fun r H'=>(r=.raw (.slice none 0 0)∧Q (.slc H'.length sz 0) (H'++[.arr E sz []]))∨Q r H'):ACalls P f args H Q:=by
 refine ⟨h.1,fun γ σ w vs hi hv=>(h.2 γ σ w vs hi hv).mono ?_⟩
 rintro e w' ⟨v,γ',σ',r,H',he,hst,hi,hr,⟨rfl,hq⟩ | hq⟩
 · have hnew:∀ (i:Nat) e,(σ'++[some (none,0)])[i]?=some e→σ'[i]?=some e∨(i=σ'.length∧e=some (none,0)):=by
    intro i e hi
    rw [List.getElem?_append] at hi
    split at hi
    · exact .inl hi
    · have:i - σ'.length=0:=by
       rcases Nat.eq_zero_or_pos (i - σ'.length) with h0 | h0
       · exact h0
       · rw [List.getElem?_eq_none (by simp;omega)] at hi;cases hi
      rw [this] at hi
      simp at hi
      exact .inr ⟨by omega,hi.symm⟩
   have hst2:Step H.length γ' σ' w' γ' (σ'++[some (none,0)]) w':=by
    refine ⟨fun _ _ h=>h,Nat.le_refl _,fun _ _ _=>⟨rfl,rfl⟩,?_,rfl,rfl,rfl,Nat.le_refl _,fun i e _ h=>Sg.le_append _ _ i e h⟩
    rintro b ⟨i,c,hs⟩
    rcases hnew i _ hs with h1 | ⟨_,h1⟩
    · exact .inl ⟨i,c,h1⟩
    · cases h1
   refine ⟨v,γ',σ'++[some (none,0)],_,_,he,hst.trans hst2,⟨hi.mem,?_,?_,by simp [hi.len],?_,hi.glob⟩,?_,hq⟩
   · intro i b c hs
     rcases hnew i _ hs with h1 | ⟨_,h1⟩
     · exact hi.own i b c h1
     · cases h1
   · intro i j b c c' h1 h2
     rcases hnew i _ h1 with h1 | ⟨_,h1⟩
     · rcases hnew j _ h2 with h2 | ⟨_,h2⟩
       · exact hi.inj i j b c c' h1 h2
       · cases h2
     · cases h1
   · intro i o e ho he
     rcases hnew i _ he with h1 | ⟨rfl,rfl⟩
     · have hlt:i<H'.length:=by rw [← hi.len];exact (List.getElem?_eq_some_iff.1 h1).1
       rw [List.getElem?_append_left hlt] at ho
       exact (hi.obj i o e ho h1).mono (fun _ _ h=>h) (Sg.le_append _ _) fun _ _ _=>rfl
     · rw [List.getElem?_append_right (by rw [hi.len];exact Nat.le_refl _)] at ho
       rw [hi.len,Nat.sub_self] at ho
       simp at ho
       subst ho
       exact ⟨[],by simp [RepVs],by simp,h0,by simp,by simp [flat],.inl ⟨rfl,by simp [flat]⟩⟩
   · simp only [RepV] at hr
     subst hr
     exact ⟨some (none,0),by rw [← hi.len];simp,rfl,fun blk cap he=>by cases he;simp⟩
 · exact ⟨v,γ',σ',r,H',he,hst,hi,hr,hq⟩
end Go.Al
namespace Go.Al
theorem ACalls.view0 {P:Program} {f:FuncId} {sz:Nat} {rest:List AV} {H:List AObj} {Q:AV→List AObj→Prop} (h:∀ a c,ACalls P f (.raw (.slice a 0 c)::rest) H Q):ACalls P f (.view sz []::rest) H Q :=
 ⟨(h none 0).1,fun γ σ w vs hi hv=>by
   obtain ⟨v,vs',rfl,hv1,hv2⟩:=repVs_cons.1 hv
   obtain ⟨a,n,c,us,rfl,h1,h2,_⟩:=hv1
   rw [repVs_nil] at h1
   subst h1
   have hn:n=0:=by simpa using h2.symm
   subst hn
   exact (h a c).2 γ σ w _ hi (repVs_cons.2 ⟨_,_,rfl,rfl,hv2⟩)⟩
end Go.Al
namespace Go.Al
end Go.Al
namespace Go.Al
theorem Ent.move {m:Nat} {N:FN} {fr:List (Nat × AV)} {H:List AObj} (t id:Nat) {E:TypeId} {sz n:Nat} {xs:List AV} (hH:H[id]?=some (.arr E sz xs)) (h:get fr t=.slc id sz n):Ent m N ⟨fr,H⟩ ⟨(t,.slc H.length sz n)::fr,H.set id .dead++[.arr E sz xs]⟩:=by
 intro γ σ w a hr
 have hi:=hr.inv
 have hidlt:id<σ.length:=by rw [hi.len];exact (List.getElem?_eq_some_iff.1 hH).1
 obtain ⟨e,he⟩:∃ e,σ[id]?=some e:=⟨_,List.getElem?_eq_getElem hidlt⟩
 have hob:=hi.obj id _ e hH he
 cases e with
 | none=>exact absurd hob (by simp [RepO])
 | some bc =>
   obtain ⟨blk,cap⟩:=bc
   have hle:=Sg.le_kill σ [some (blk,cap)] id
   have hob':RepO γ (σ.set id none++[some (blk,cap)]) w (some (blk,cap)) (.arr E sz xs):=hob.mono (fun _ _ h=>h) hle fun _ _ _=>rfl
   obtain ⟨hi',hst⟩:=hi.move (m:=m) he (Nat.le_refl _) (fun _ _ _=>rfl) rfl rfl rfl (fun b hb=>by subst hb;exact ⟨.inl rfl,(hi.own id b cap he).2⟩) hob'
   refine ⟨γ,_,hst,⟨hi',fun t'=>?_,hr.defers.step hst,hr.size⟩⟩
   by_cases ht:t=t'
   · subst ht
     have hv:=hr.fr t
     rw [h] at hv
     obtain ⟨e,he1,h1,h2⟩:=hv
     rw [he] at he1
     cases he1
     have:get ((t,AV.slc H.length sz n)::fr) t=AV.slc H.length sz n:=by simp [get]
     rw [this]
     exact ⟨some (blk,cap),by rw [← hi.len];simp,h1,fun b c hb=>by cases hb;exact h2 _ _ rfl⟩
   · have:get ((t,AV.slc H.length sz n)::fr) t'=get fr t':=by simp [get,ht]
     rw [this]
     exact RepV.mono (fun _ _ h=>h) _ _ _ _ hle (hr.fr t')
end Go.Al
namespace Go.Al
theorem mf_cut {P:Program} {m:Nat} {N:FN} {d:Nat} {a b:MC} {Q:Exit→AS→Prop} {fr:List (Nat × AV)} {H:List AObj} (fr':List (Nat × AV)) (H':List AObj)
 (h1:R P m N [.c a] (fun e s=>e=.normal∧Ent m N s ⟨fr',H'⟩) .normal fr H) (h2:MF P m N d b Q ⟨fr',H'⟩):MF P m N (d+1) (.seq a b) Q ⟨fr,H⟩:=by
 refine mf_i ?_
 simp only [R] at h1 ⊢
 refine MW_mono a (fun e s h=>?_) _ h1
 obtain ⟨rfl,he⟩:=h
 exact ⟨_,he,h2⟩
end Go.Al
namespace Go.Al
end Go.Al
namespace Go.Al
theorem get_last {L:List AObj} {o:AObj}:(L++[o])[L.length]?=some o:=by simp
theorem set_last {L:List AObj} {o o':AObj}:(L++[o]).set L.length o'=L++[o']:=by simp
theorem at_app (L:List AObj) (o:AObj) (i:Nat) (hi:i<L.length):(L++[o])[i]?=L[i]?:=List.getElem?_append_left hi
theorem at_set (L:List AObj) (o:AObj) (i j:Nat) (hi:i≠j):(L.set i o)[j]?=L[j]?:=List.getElem?_set_ne hi
theorem at_same (L:List AObj) (o:AObj) (i:Nat) (hi:i<L.length):(L.set i o)[i]?=some o:=by simp [hi]
def Bhd {X:Type} (S:X→(Nat→Prop)→List AObj→Prop) (x:X) (G:Nat→Prop) (H H':List AObj):Prop:=S x G H'∧H.length≤H'.length∧∀ i,G i→H'[i]?=H[i]?
theorem Bhd.trans {X:Type} {S:X→(Nat→Prop)→List AObj→Prop} {x y:X} {G:Nat→Prop} {H H1 H2:List AObj} (h:Bhd S x G H H1) (k:Bhd S y G H1 H2):Bhd S y G H H2:=⟨k.1,Nat.le_trans h.2.1 k.2.1,fun i hi=>(k.2.2 i hi).trans (h.2.2 i hi)⟩
theorem Bhd.self {X:Type} {S:X→(Nat→Prop)→List AObj→Prop} {x:X} {G:Nat→Prop} {H:List AObj} (h:S x G H):Bhd S x G H H:=⟨h,Nat.le_refl _,fun _ _=>rfl⟩
structure Grows {X:Type} (S:X→(Nat→Prop)→List AObj→Prop):Prop where
 push:∀ x G H o,S x G H→S x (fun i=>G i∨i=H.length) (H++[o])
 weak:∀ x G G' H,S x G H→(∀ i,G' i→G i)→S x G' H
 lt:∀ x G H i,S x G H→G i→i<H.length
section
variable {X:Type} {S:X→(Nat→Prop)→List AObj→Prop} {id:Nat}
theorem Grows.own (hG:Grows S) {x y:X} {G:Nat→Prop} {H H1:List AObj} {o:AObj} (hs:S x G H) (h:Bhd S y (fun i=>G i∨i=H.length) (H++[o]) H1):Bhd S y G H H1∧H1[H.length]?=some o:=by
 obtain ⟨h1,h2,h3⟩:=h
 simp at h2
 refine ⟨⟨hG.weak _ _ _ _ h1 (fun i hi=>.inl hi),by omega,fun i hi=>?_⟩,?_⟩
 · rw [h3 i (.inl hi),List.getElem?_append_left (hG.lt _ _ _ _ hs hi)]
 · rw [h3 _ (.inr rfl)];simp
theorem Grows.skip (hG:Grows S) {x:X} {G:Nat→Prop} {H:List AObj} {o:AObj} (hs:S x G H):Bhd S x G H (H++[o]) :=
 ⟨hG.weak _ _ _ _ (hG.push _ _ _ o hs) (fun i hi=>.inl hi),by simp,fun i hi=>by rw [List.getElem?_append_left (hG.lt _ _ _ _ hs hi)]⟩
end
section
variable {α:Type} (av:α→AV) (E:TypeId) (sz:Nat)
def colW (F:List AObj) (q:Nat) (x:List α) (G:Nat→Prop) (H:List AObj):Prop :=
 (∀ i,i<F.length→i≠q→H[i]?=F[i]?)∧(∀ i,G i→F.length≤i∧i<H.length)∧q<F.length∧F.length≤H.length ∧
   ((x=[]∧H[q]?=some (.box [.raw (.slice none 0 0)]))∨∃ a,F.length≤a∧a<H.length∧¬ G a∧H[q]?=some (.box [.slc a sz x.length])∧H[a]?=some (.arr E sz (x.map av)))
variable {av} {E} {sz}
theorem colW_grows (F:List AObj) (q:Nat):Grows (colW av E sz F q) where
 push:=fun x G H o ⟨h0,hg,hq,h3,h⟩=>by
  refine ⟨fun i hi hne=>by rw [at_app _ _ i (by omega)];exact h0 i hi hne,fun i hi=>?_,hq,by simp <;> omega,?_⟩
  · rcases hi with hi | rfl
    · have:=hg i hi;simp;omega
    · simp;omega
  · rcases h with ⟨hx,h1⟩ | ⟨a,a1,a2,a3,a4,a5⟩
    · exact .inl ⟨hx,by rw [at_app _ _ q (by omega)];exact h1⟩
    · refine .inr ⟨a,a1,by simp;omega,fun hc=>?_,by rw [at_app _ _ q (by omega)];exact a4,by rw [at_app _ _ a a2];exact a5⟩
      rcases hc with hc | hc
      · exact a3 hc
      · omega
 weak:=fun x G G' H ⟨h0,hg,hq,h3,h⟩ hw=>by
  refine ⟨h0,fun i hi=>hg i (hw i hi),hq,h3,?_⟩
  rcases h with h | ⟨a,a1,a2,a3,a4⟩
  · exact .inl h
  · exact .inr ⟨a,a1,a2,fun hc=>a3 (hw a hc),a4⟩
 lt:=fun x G H i ⟨_,hg,_⟩ hi=>(hg i hi).2
theorem colW_one {F:List AObj} {q:Nat} {x:List α} {G:Nat→Prop} {H:List AObj} (v:α) (o1:AObj) (h:colW av E sz F q x G H) :
 Bhd (colW av E sz F q) [v] G H ((H++[o1]++[AObj.arr E sz [av v]]).set q (.box [.slc (H.length+1) sz 1])):=by
 obtain ⟨h0,hg,hq,h3,_⟩:=h
 refine ⟨⟨fun i hi hne=>by rw [at_set _ _ q i (by omega),at_app _ _ i (by simp;omega),at_app _ _ i (by omega)];exact h0 i hi hne,fun i hi=>⟨(hg i hi).1,by have:=(hg i hi).2;simp;omega⟩,hq,by simp <;> omega,.inr ⟨H.length+1,by omega,by simp,fun hG=>by have:=(hg _ hG).2;omega,?_,?_⟩⟩,by simp <;> omega,fun i hi=>?_⟩
 · rw [at_same _ _ q (by simp;omega)];simp
 · rw [at_set _ _ q _ (by omega)];simp
 · obtain ⟨g3,g4⟩:=hg i hi
   rw [at_set _ _ q i (by omega),at_app _ _ i (by simp;omega),at_app _ _ i (by omega)]
theorem colW_snoc {F:List AObj} {q a:Nat} {x:List α} {G:Nat→Prop} {H:List AObj} (v:α) (o1:AObj) (h:colW av E sz F q x G H) (ha:F.length≤a) (hl:a<H.length) (hn:¬ G a) :
 Bhd (colW av E sz F q) (x++[v]) G H (((H++[o1]).set a .dead++[AObj.arr E sz (x.map av++[av v])]).set q (.box [.slc (H.length+1) sz (x.length+1)])):=by
 obtain ⟨h0,hg,hq,h3,_⟩:=h
 refine ⟨⟨fun i hi hne=>by rw [at_set _ _ q i (by omega),at_app _ _ i (by simp;omega),at_set _ _ a i (by omega),at_app _ _ i (by omega)];exact h0 i hi hne,fun i hi=>⟨(hg i hi).1,by have:=(hg i hi).2;simp;omega⟩,hq,by simp;omega,.inr ⟨H.length+1,by omega,by simp,fun hG=>by have:=(hg _ hG).2;omega,?_,?_⟩⟩,by simp;omega,fun i hi=>?_⟩
 · rw [at_same _ _ q (by simp;omega)];simp
 · rw [at_set _ _ q _ (by omega)];simp
 · obtain ⟨g3,g4⟩:=hg i hi
   have hia:a≠i:=fun h=>hn (h ▸ hi)
   rw [at_set _ _ q i (by omega),at_app _ _ i (by simp;omega),at_set _ _ a i hia,at_app _ _ i (by omega)]
theorem colW_put {F:List AObj} {q n:Nat} {x:List α} {G:Nat→Prop} {H:List AObj} (o:AObj) (h:colW av E sz F q x G H) (hn:n<F.length) (hq:n≠q):colW av E sz (F.set n o) q x G (H.set n o):=by
 obtain ⟨h0,hg,hq',h3,h⟩:=h
 refine ⟨fun i hi hne=>?_,fun i hi=>?_,by simpa using hq',by simpa using h3,?_⟩
 · by_cases hin:n=i
   · subst hin
     rw [at_same _ _ n (by omega),at_same _ _ n (by omega)]
   · rw [at_set _ _ n i hin,at_set _ _ n i hin]
     exact h0 i (by simpa using hi) hne
 · simpa using hg i hi
 · rcases h with ⟨hx,h1⟩ | ⟨a,a1,a2,a3,a4,a5⟩
   · exact .inl ⟨hx,by rw [at_set _ _ n q hq];exact h1⟩
   · exact .inr ⟨a,by simpa using a1,by simpa using a2,a3,by rw [at_set _ _ n q hq];exact a4,by rw [at_set _ _ n a (by omega)];exact a5⟩
theorem colW_back {F:List AObj} {q n:Nat} {x:List α} {G:Nat→Prop} {H H':List AObj} (o o':AObj) (hs:∃ y,colW av E sz F q y G H) (h:Bhd (colW av E sz (F.set n o') q) x G (H.set n o') H') (hn:n<F.length) (hq:n≠q) (ho:F[n]?=some o):Bhd (colW av E sz F q) x G H (H'.set n o):=by
 obtain ⟨h1,h2,h3⟩:=h
 obtain ⟨y,_,hg,_⟩:=hs
 have e:(F.set n o').set n o=F:=by
  rw [List.set_set]
  refine List.ext_getElem? fun i=>?_
  by_cases hin:n=i
  · subst hin;rw [at_same _ _ n (by omega),ho]
  · rw [at_set _ _ n i hin]
 have:=colW_put o h1 (by simpa using hn) hq
 rw [e] at this
 refine ⟨this,by simpa using h2,fun i hi=>?_⟩
 have:=(hg i hi).1
 rw [at_set _ _ n i (by omega),h3 i hi,at_set _ _ n i (by omega)]
end
end Go.Al
