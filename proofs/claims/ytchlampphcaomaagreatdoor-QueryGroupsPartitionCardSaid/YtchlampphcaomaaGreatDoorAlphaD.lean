/-
 A part of the proof: see the text of the law.
-/
import Derived.Test.YtchlampphcaomaaGreatDoorAlphaC
import Derived.OrdersHeld
set_option linter.unusedSimpArgs false
set_option linter.unusedVariables false
namespace Go.Al
theorem Step.weaken {m m':Nat} {γ γ':Gm} {σ σ':Sg} {w w':World} (h:Step m' γ σ w γ' σ' w') (hm:m≤m'):Step m γ σ w γ' σ' w' :=
 ⟨h.le,h.size,h.keep,h.own,h.os,h.tape,h.output,h.drawn,fun i e hi he=>h.low i e (by omega) he⟩
theorem Step.sg {m:Nat} {γ γ':Gm} {σ σ':Sg} {w w':World} (h:Step (max m σ.length) γ σ w γ' σ' w'):Sg.le σ σ':=fun i e he=>h.low i e (by have:=(List.getElem?_eq_some_iff.1 he).1;omega) he
theorem Sg.le_trans {σ σ' σ'':Sg} (h:Sg.le σ σ') (k:Sg.le σ' σ''):Sg.le σ σ'':=fun i e he=>by
 rcases h i e he with h1 | h1
 · exact k i e h1
 · rcases k i none h1 with h2 | h2 <;> exact .inr h2
theorem eiW_keep {P:Program} {fr:List (Nat × AV)} {H:List AObj} {k:List (Nat × AV)→List AObj→Prop} {i:EI} (hi:isCall i=false) (h:eiW P fr H k i) :
 eiW P fr H (fun fr' H'=>(∀ id,id ∉ wrote fr i→id<H.length→H'[id]?=H[id]?)∧H.length≤H'.length∧k fr' H') i:=by
 cases i
 case call=>simp [isCall] at hi
 case callv=>simp [isCall] at hi
 case alloc=>exact ⟨fun id _ hl=>List.getElem?_append_left hl,by simp,h⟩
 case mkmap=>exact ⟨fun id _ hl=>List.getElem?_append_left hl,by simp,h⟩
 case box =>
  simp only [eiW] at h ⊢
  split at h
  · exact ⟨fun id _ hl=>List.getElem?_append_left hl,by simp,h⟩
  · exact h
 case store size agg p x =>
  simp only [eiW,wrote] at h ⊢
  split at h
  · rename_i cs id off h1 h2
    simp only [h2]
    split at h
    · refine ⟨h.1,h.2.1,fun id' hne _=>?_,by simp,h.2.2⟩
      simp only [List.mem_singleton] at hne
      rw [List.getElem?_set_ne (by omega)]
    · exact h
  · rename_i cs id sz n off h1 h2
    simp only [h2]
    have key:∀ o:AObj,(∀ id',id' ∉ [id]→id'<H.length→(H.set id o)[id']?=H[id']?)∧H.length≤(H.set id o).length:=fun o=>⟨fun id' hne _=>by
     simp only [List.mem_singleton] at hne
     rw [List.getElem?_set_ne (by omega)],by simp⟩
    split at h
    · split at h
      · exact ⟨h.1,h.2.1,h.2.2.1,(key _).1,(key _).2,h.2.2.2⟩
      · exact ⟨h.1,h.2.1,h.2.2.1,h.2.2.2.1,h.2.2.2.2.1,(key _).1,(key _).2,h.2.2.2.2.2⟩
      · exact h
    · exact h
  · exact h
 case mk =>
  simp only [eiW] at h ⊢
  split at h
  · exact ⟨h.1,h.2.1,h.2.2.1,h.2.2.2.1,h.2.2.2.2.1,fun id _ hl=>List.getElem?_append_left hl,by simp,h.2.2.2.2.2⟩
  · exact h
 case app d e sz bytes x y =>
  simp only [eiW,wrote] at h ⊢
  split at h
  · rename_i id sz' n ys h1 h2
    simp only [h1]
    split at h
    · refine ⟨h.1,h.2.1,h.2.2.1,h.2.2.2.1,h.2.2.2.2.1,h.2.2.2.2.2.1,h.2.2.2.2.2.2.1,fun id' hne hl=>?_,by simp,h.2.2.2.2.2.2.2⟩
      simp only [List.mem_singleton] at hne
      rw [List.getElem?_append_left (by simpa using hl),List.getElem?_set_ne (by omega)]
    · exact h
  · rename_i id sz' off n ys h1 h2
    simp only [h1]
    split at h
    · refine ⟨h.1,h.2.1,h.2.2.1,h.2.2.2.1,h.2.2.2.2.1,h.2.2.2.2.2.1,h.2.2.2.2.2.2.1,h.2.2.2.2.2.2.2.1,?_⟩
      rcases h.2.2.2.2.2.2.2.2 with h3 | ⟨hf,h3⟩
      · refine .inl ⟨fun id' hne hl=>?_,by simp,h3⟩
        simp only [List.mem_singleton] at hne
        rw [List.getElem?_append_left (by simpa using hl),List.getElem?_set_ne (by omega)]
      · refine .inr ⟨hf,fun id' hne hl=>?_,by simp,h3⟩
        simp only [List.mem_singleton] at hne
        rw [List.getElem?_set_ne (by omega)]
    · exact h
  · exact ⟨h.1,h.2.1,h.2.2.1,h.2.2.2.1,fun id _ hl=>List.getElem?_append_left hl,by simp,h.2.2.2.2⟩
  · exact ⟨h.1,h.2.1,h.2.2.1,h.2.2.2.1,h.2.2.2.2.1,fun _ _ _=>trivial,Nat.le_refl _,h.2.2.2.2.2⟩
  · exact h
 case mkl =>
  simp only [eiW] at h ⊢
  split at h
  · obtain ⟨h0,h1,h | ⟨hn,hs,h⟩⟩:=h
    · exact ⟨h0,h1,.inl ⟨fun id _ hl=>List.getElem?_append_left hl,by simp,h⟩⟩
    · exact ⟨h0,h1,.inr ⟨hn,hs,fun id _ hl=>trivial,Nat.le_refl _,h⟩⟩
  · exact h
 case mput kd mm x v =>
  simp only [eiW,wrote] at h ⊢
  split at h
  · rename_i id h2
    simp only [h2]
    split at h
    · split at h
      · refine ⟨fun id' hne _=>?_,by simp,h⟩
        simp only [List.mem_singleton] at hne
        rw [List.getElem?_set_ne (by omega)]
      · exact h
    · exact h
  · exact h
 case mdel d kd mm x =>
  simp only [eiW,wrote] at h ⊢
  split at h
  · rename_i id h2
    simp only [h2]
    split at h
    · split at h
      · refine ⟨fun id' hne _=>?_,by simp,h⟩
        simp only [List.mem_singleton] at hne
        rw [List.getElem?_set_ne (by omega)]
      · exact h
    · exact h
  · exact h
 case die=>exact h.elim
 case clr d sz z x =>
  simp only [eiW,wrote] at h ⊢
  split at h
  · rename_i id sz' n h2
    simp only [h2]
    split at h
    · refine ⟨h.1,h.2.1,h.2.2.1,fun id' hne _=>?_,by simp,h.2.2.2⟩
      simp only [List.mem_singleton] at hne
      rw [List.getElem?_set_ne (by omega)]
    · exact h
  · rename_i id sz' off n h2
    simp only [h2]
    split at h
    · refine ⟨h.1,h.2.1,h.2.2.1,fun id' hne _=>?_,by simp,h.2.2.2⟩
      simp only [List.mem_singleton] at hne
      rw [List.getElem?_set_ne (by omega)]
    · exact h
  · exact h
 case rng =>
  simp only [eiW] at h ⊢
  split at h
  · split at h
    · exact ⟨fun id _ hl=>List.getElem?_append_left hl,by simp,h⟩
    · exact h
  · exact ⟨fun id _ hl=>List.getElem?_append_left hl,by simp,h⟩
  · exact h
 case nxt d it =>
  simp only [eiW,wrote] at h ⊢
  split at h
  · rename_i id h2
    simp only [h2]
    split at h
    · exact ⟨fun _ _ _=>by trivial,Nat.le_refl _,h⟩
    · split at h
      · refine ⟨h.1,h.2.1,fun hb=>⟨fun _ _ _=>by trivial,Nat.le_refl _,h.2.2.1 hb⟩,fun i b kx vx h1 h2 h3 h4=>⟨fun id' hne _=>?_,by simp,h.2.2.2 i b kx vx h1 h2 h3 h4⟩⟩
        simp only [List.mem_singleton] at hne
        rw [List.getElem?_set_ne (by omega)]
      · exact h
    · exact h
  · exact h
theorem eiW_mono' {P:Program} {fr:List (Nat × AV)} {H:List AObj} {k k':List (Nat × AV)→List AObj→Prop} (hk:∀ fr H,k fr H→k' fr H) {i:EI} (h:eiW P fr H k i):eiW P fr H k' i:=by
 cases i
 case alloc=>exact hk _ _ h
 case box =>
  simp only [eiW] at h ⊢
  split at h
  · exact hk _ _ h
  · exact h
 case store =>
  simp only [eiW] at h ⊢
  split at h
  · split at h
    · exact ⟨h.1,h.2.1,hk _ _ h.2.2⟩
    · exact h
  · split at h
    · split at h
      · exact ⟨h.1,h.2.1,h.2.2.1,hk _ _ h.2.2.2⟩
      · exact ⟨h.1,h.2.1,h.2.2.1,h.2.2.2.1,h.2.2.2.2.1,hk _ _ h.2.2.2.2.2⟩
      · exact h
    · exact h
  · exact h
 case mkmap=>exact hk _ _ h
 case mk =>
  simp only [eiW] at h ⊢
  split at h
  · exact ⟨h.1,h.2.1,h.2.2.1,h.2.2.2.1,h.2.2.2.2.1,hk _ _ h.2.2.2.2.2⟩
  · exact h
 case app =>
  simp only [eiW] at h ⊢
  split at h
  · split at h
    · exact ⟨h.1,h.2.1,h.2.2.1,h.2.2.2.1,h.2.2.2.2.1,h.2.2.2.2.2.1,h.2.2.2.2.2.2.1,hk _ _ h.2.2.2.2.2.2.2⟩
    · exact h
  · split at h
    · exact ⟨h.1,h.2.1,h.2.2.1,h.2.2.2.1,h.2.2.2.2.1,h.2.2.2.2.2.1,h.2.2.2.2.2.2.1,h.2.2.2.2.2.2.2.1,h.2.2.2.2.2.2.2.2.imp (hk _ _) fun h=>⟨h.1,hk _ _ h.2⟩⟩
    · exact h
  · exact ⟨h.1,h.2.1,h.2.2.1,h.2.2.2.1,hk _ _ h.2.2.2.2⟩
  · exact ⟨h.1,h.2.1,h.2.2.1,h.2.2.2.1,h.2.2.2.2.1,hk _ _ h.2.2.2.2.2⟩
  · exact h
 case call=>exact ACalls.mono h fun r H h=>hk _ _ h
 case callv =>
  simp only [eiW] at h ⊢
  split at h
  · exact ACalls.mono h fun r H h=>hk _ _ h
  · exact h.mono fun r H' h=>hk _ _ h
  · exact h
 case mkl =>
  simp only [eiW] at h ⊢
  split at h
  · exact ⟨h.1,h.2.1,h.2.2.imp (hk _ _) fun h=>⟨h.1,h.2.1,hk _ _ h.2.2⟩⟩
  · exact h
 case mput =>
  simp only [eiW] at h ⊢
  split at h
  · split at h
    · split at h
      · exact hk _ _ h
      · exact h
    · exact h
  · exact h
 case mdel =>
  simp only [eiW] at h ⊢
  split at h
  · split at h
    · split at h
      · exact hk _ _ h
      · exact h
    · exact h
  · exact h
 case die=>exact h.elim
 case clr =>
  simp only [eiW] at h ⊢
  split at h
  · split at h
    · exact ⟨h.1,h.2.1,h.2.2.1,hk _ _ h.2.2.2⟩
    · exact h
  · split at h
    · exact ⟨h.1,h.2.1,h.2.2.1,hk _ _ h.2.2.2⟩
    · exact h
  · exact h
 case rng =>
  simp only [eiW] at h ⊢
  split at h
  · split at h
    · exact hk _ _ h
    · exact h
  · exact hk _ _ h
  · exact h
 case nxt =>
  simp only [eiW] at h ⊢
  split at h
  · split at h
    · exact hk _ _ h
    · split at h
      · exact ⟨h.1,h.2.1,fun hb=>hk _ _ (h.2.2.1 hb),fun i b kx vx h1 h2 h3 h4=>hk _ _ (h.2.2.2 i b kx vx h1 h2 h3 h4)⟩
      · exact h
    · exact h
  · exact h
section
variable {E:Env} {m:Nat} {N:FN}
theorem s_call_gen {γ:Gm} {σ:Sg} {w:World} {a:Act} {fr:List (Nat × AV)} {next:Act→World→Prop} {Q:Exit→Act→World→Prop} {o:Oper} (hf:RepF γ σ fr a.tmps)
 {f:Operand} {args:Array Operand} {ats:Array TypeId} {g:FuncId} {first caps:List AV} (ho:o.op=.call { callee:=.value f,args,argTypes:=ats }) (hfv:ev fr f=.fn (.func g) first caps) (hb:Bodied E.P g)
 (h:∀ vs,RepVs γ σ (first++args.toList.map (ev fr)++caps) vs→Calls E.P g vs.toArray w fun e w'=>∃ v,e=.returned v∧next (a.put o.dst v) w'):o.wp E.P a w next Q:=by
 have hv:=repV_ev hf f
 rw [hfv] at hv
 obtain ⟨fv,cv,hv,h1,h2⟩:=hv
 have hargs:=RepVs.append (RepVs.append h1 (repVs_evs hf args.toList)) h2
 obtain ⟨fn,hfn,hn,hb⟩:=hb
 have hrun:(execOp a.eval o).run E.P w=.ok (.enter g (fv++args.toList.map a.eval++cv).toArray) w:=by
  simp only [execOp,ho,resolve,hv,Deferred.ofValue,Sem.run_bind,Sem.run_pure,Result.andThen_ok,invoke,callFunc,run_program,hfn,hn,hb,Bool.false_eq_true,if_false]
  simp
 unfold Oper.wp
 rw [hrun,Oper.upon_enter]
 refine (h _ hargs).mono ?_
 rintro e w' ⟨v,rfl,hk⟩
 exact hk
theorem cOp_call {o:Oper} {d:Option Nat} {f:FuncId} {args:List MV} (hc:cOp E o=some (.e (.call d f args))):o.dst=d∧∃ (xs:Array Operand) (ats:Array TypeId),o.op=.call { callee:=.value (.func f),args:=xs,argTypes:=ats }∧cVs xs.toList=some args:=by
 unfold cOp at hc
 split at hc
 case h_29 _ _ f args ats ho =>
  obtain ⟨l,hl,heq⟩:=Option.map_eq_some_iff.1 hc;cases heq
  exact ⟨rfl,_,_,ho,hl⟩
 all_goals (repeat' split at hc) <;> first | (cases hc;done) | (obtain ⟨y,hy,he⟩:=Option.map_eq_some_iff.1 hc;cases he;done)
theorem repF_putO {γ:Gm} {σ:Sg} {fr:List (Nat × AV)} {a:Act} (h:RepF γ σ fr a.tmps) {dst:Option Nat} (hd:∀ d,dst=some d→d<a.tmps.size) {x:AV} {v:Value} (hx:RepV γ σ x v):RepF γ σ (putO fr dst x) (a.put dst v).tmps:=by
 cases dst with
 | none=>exact h
 | some d=>exact repF_put h (hd d rfl) hx
structure Along (m:Nat) (N:FN) (γ0:Gm) (σ0:Sg) (w0:World) (H0:List AObj) (L:List Nat) (fr0:List (Nat × AV)) (γ:Gm) (σ:Sg) (w:World) (a:Act) (s:AS):Prop where
 step:Step m γ0 σ0 w0 γ σ w
 sg:Sg.le σ0 σ
 rep:Rep N γ σ w a s
 fr0:RepF γ0 σ0 fr0 a.tmps
 ext:ExtL σ0 L w0 w
 objs:∀ i,i<H0.length→i ∉ L→s.H[i]?=H0[i]?
 len:H0.length≤s.H.length
variable {γ0:Gm} {σ0:Sg} {w0:World} {H0:List AObj} {L:List Nat}
theorem Along.keep (hi0:Inv γ0 σ0 w0 H0) {fr0:List (Nat × AV)} {γ:Gm} {σ:Sg} {w:World} {a:Act} {s:AS} (h:Along m N γ0 σ0 w0 H0 L fr0 γ σ w a s) {W:List Nat} (hW:∀ id ∈ W,id ∈ L∨H0.length≤id) {w':World} (hx:ExtL σ W w w'):ExtL σ0 L w0 w':=by
 intro b o hb hfar
 refine hx b o (h.ext b o hb hfar) ?_
 intro id hid c hs
 have same:∀ (i:Nat) c',i<H0.length→σ0[i]?=some (some (some b,c'))→i ∉ L→σ[i]?=some (some (some b,c')):=by
  intro i c' hlt h1 hnl
  rcases h.sg i _ h1 with h2 | h2
  · exact h2
  · exfalso
    have h3:s.H[i]?=some H0[i]:=by rw [h.objs i hlt hnl];exact List.getElem?_eq_getElem hlt
    have h4:=h.rep.inv.obj i _ none h3 h2
    have h5:=hi0.obj i H0[i] _ (List.getElem?_eq_getElem hlt) h1
    generalize H0[i]=x at h4 h5
    cases x <;> simp [RepO] at h4 h5
 have back:∀ c',(∃ i,i<H0.length∧σ0[i]?=some (some (some b,c'))∧i ∉ L)→id<H0.length∧id ∉ L:=by
  rintro c' ⟨i,hlt,h1,hnl⟩
  have:=h.rep.inv.inj id i b c c' hs (same i c' hlt h1 hnl)
  subst this
  exact ⟨hlt,hnl⟩
 have hlt0:∀ (i:Nat) e,σ0[i]?=some e→i<H0.length:=fun i e he=>by rw [← hi0.len];exact (List.getElem?_eq_some_iff.1 he).1
 rcases h.step.own b ⟨id,c,hs⟩ with ⟨i,c',hi⟩ | hge
 · by_cases hil:i ∈ L
   · exact hfar i hil c' hi
   · obtain ⟨h1,h2⟩:=back c' ⟨i,hlt0 i _ hi,hi,hil⟩
     rcases hW id hid with h3 | h3
     · exact h2 h3
     · omega
 · have:=lt_of_block hb
   omega
theorem guard_wp (hE:E.ok) {ops:Array Oper} {o:Oper} {mi:MI} {g:Option (Nat × Bool)} (hg:cGuard ops o=some g) (hc:cOp E o=some mi) {fr0 fr:List (Nat × AV)} {yes no:List (Nat × AV)→List (Nat × AV)→Prop} {γ:Gm} {σ:Sg} {w:World} {a:Act} {H:List AObj} (hr:Rep N γ σ w a ⟨fr,H⟩) (hf0:RepF γ0 σ0 fr0 a.tmps) (hdo:∀ d,o.dst=some d→d<N.n)
 (h:guardW g mi fr0 fr yes no):(Region.wanted o (yielded ops a.tmps)=true∧∃ fr0' fr',Rep N γ σ w a ⟨fr',H⟩∧RepF γ0 σ0 fr0' a.tmps∧yes fr0' fr')∨(Region.wanted o (yielded ops a.tmps)=false∧∃ fr0' fr',Rep N γ σ w (a.put o.dst undef) ⟨fr',H⟩∧RepF γ0 σ0 fr0' (a.put o.dst undef).tmps∧no fr0' fr'):=by
 unfold cGuard at hg
 split at hg
 · rename_i hgo
   cases hg
   exact .inl ⟨by simp [Region.wanted,hgo],fr0,fr,hr,hf0,h⟩
 · rename_i j want hgo
   obtain ⟨t,hj,he⟩:=Option.map_eq_some_iff.1 hg
   cases he
   simp only [guardW] at h
   split at h
   · rename_i b hb
     have hy:=yielded_get hr.fr hj hb
     have hval:a.tmps.getD t undef=.bool b:=by
      have:=hr.fr t
      simp only [hb,RepV] at this
      exact this
     have hf0':RepF γ0 σ0 ((t,.bool b)::fr0) a.tmps:=fun u=>by
      simp only [get]
      split
      · rename_i htu;subst htu;exact hval
      · exact hf0 u
     by_cases hbw:b=want
     · refine .inl ⟨by simp [Region.wanted,hgo,hy,hbw],(t,.bool want)::fr0,(t,.bool want)::fr,⟨hr.inv,repF_set hr.fr hb (fun v hv=>by rw [hbw] at hv;exact hv),hr.defers,hr.size⟩,by rw [hbw] at hf0';exact hf0',h.1 hbw⟩
     · have hbw':b = !want:=by cases b <;> cases want <;> simp_all
       have hr':Rep N γ σ w a ⟨(t,.bool (!want))::fr,H⟩:=⟨hr.inv,repF_set hr.fr hb (fun v hv=>by rw [hbw'] at hv;exact hv),hr.defers,hr.size⟩
       refine .inr ⟨by simp [Region.wanted,hgo,hy,hbw],_,_,?_,?_,h.2 hbw'⟩
       · rw [cOp_dst hc]
         have:=rep_put hr' (Step.refl (m:=0) _ _ _) (Sg.le_refl _) hr'.inv hdo (x:=.tup []) (v:=undef) (by simp [RepV,RepVs,undef])
         cases hdst:o.dst <;> simpa [AS.put,putO,hdst] using this
       · rw [cOp_dst hc]
         exact repF_putO (by rw [hbw'] at hf0';exact hf0') (fun d hd=>by rw [hr.size];exact hdo d hd) (by simp [RepV,RepVs,undef])
   · rename_i hb
     have hy:=yielded_undef hr.fr hj hb
     refine .inr ⟨by simp [Region.wanted,hgo,hy],_,_,?_,?_,h⟩
     · rw [cOp_dst hc]
       have:=rep_put hr (Step.refl (m:=0) _ _ _) (Sg.le_refl _) hr.inv hdo (x:=.tup []) (v:=undef) (by simp [RepV,RepVs,undef])
       cases hdst:o.dst <;> simpa [AS.put,putO,hdst] using this
     · rw [cOp_dst hc]
       exact repF_putO hf0 (fun d hd=>by rw [hr.size];exact hdo d hd) (by simp [RepV,RepVs,undef])
   · exact h.elim
theorem pure_yields (hE:E.ok) {fr:List (Nat × AV)} {γ:Gm} {σ:Sg} {w:World} {a:Act} {H:List AObj} {R:World→Prop} {L:List Nat} (hi:Inv γ σ w H) (hf:RepF γ σ fr a.tmps) {o:Oper} {mi:MI} (hc:cOp E o=some mi) {k:Nat→AV→Prop}
 (hR:readsI mi=true→∀ w',R w'→ExtL σ L w w') (h:pureW L fr H k mi):∃ d x u,o.dst=some d∧k d x∧RepV γ σ x u∧∀ w',R w'→(execOp a.eval o).run E.P w'=.ok (.value u) w':=by
 cases mi with
 | e i=>exact h.elim
 | p i =>
   obtain ⟨h1,h2⟩:=h
   obtain ⟨d,h3,x,u,h4,h5,h6⟩:=cOp_p (R:=R) (k:=k) hE hi hf (fun hr w' hw=>by have:=hR hr w' hw;rwa [h1 hr] at this) hc h2
   exact ⟨d,x,u,h3,h5,h4,h6⟩
 | v i =>
   simp only [pureW] at h
   split at h
   · rename_i d x hv
     cases hr:readsV i with
     | false =>
       rw [hr] at hv
       simp only [Bool.false_eq_true,if_false] at hv
       obtain ⟨h3,y,u,h4,h5,h6⟩:=cOp_v (R:=R) hE hi hf (fun h=>by rw [hr] at h;cases h) hc hv
       subst h5
       exact ⟨d,y,u,h3,h,h4,h6⟩
     | true =>
       rw [hr] at hv
       simp only [if_true] at hv
       cases i <;> simp only [readsV,Bool.false_eq_true] at hr
       · obtain ⟨h3,y,u,h4,h5,h6⟩:=cOp_load (R:=R) hE hi hf (hR rfl) hc hv
         subst h5
         exact ⟨d,y,u,h3,h,h4,h6⟩
       · obtain ⟨h3,y,u,h4,h5,h6⟩:=cOp_gld (R:=R) hE hi (hR rfl) hc hv
         subst h5
         exact ⟨d,y,u,h3,h,h4,h6⟩
   · exact h.elim
theorem alts_spec {ops:Array Oper} {K:List (Nat × AV)→List AObj→Prop} {next:Nat→Oper→Option AT} {fr0 fr:List (Nat × AV)} {H:List AObj}:∀ (rs:List Nat) (t:AT),
 rs.foldr (fun i rest=>match ops[i]? with
  | some o=>match cOp E o,cGuard ops o,next i o,rest with
    | some mi,some g,some next,some rest=>some (AT.alt g mi next rest)
    | _,_,_,_=>none
  | none=>none) (some .stop)=some t→anyW E.P L K t H0 fr0 fr H →
 ∀ i ∈ rs,∃ o mi g nx,ops[i]?=some o∧cOp E o=some mi∧cGuard ops o=some g∧next i o=some nx ∧
   guardW g mi fr0 fr (fun fr0 fr=>altW E.P H0.length L fr H (fun fr' H'=>anyW E.P L K nx H0 (putO fr0 (dstOfI mi) .junk) fr' H') mi) (fun fr0 fr=>anyW E.P L K nx H0 fr0 fr H)
 | [],_,_,_,_,h=>by cases h
 | r::rs,t,hc,hw,i,hi=>by
   simp only [List.foldr_cons] at hc
   split at hc
   · rename_i o ho
     split at hc
     · rename_i mi g nx rest h1 h2 h3 h4
       cases hc
       simp only [anyW] at hw
       rcases List.mem_cons.1 hi with rfl | hi
       · exact ⟨o,mi,g,nx,ho,h1,h2,h3,hw.1⟩
       · exact alts_spec rs rest h4 hw.2 i hi
     · cases hc
   · cases hc
theorem wpAnyH_mono {ops:Array Oper} {Q:Exit→Act→World→Prop} {S S':World→Prop} (hS:∀ w,S' w→S w):∀ (fuel:Nat) (listed:Array Bool) (a:Act) (w:World),wpAnyH E.P .any ops Q S' fuel listed a w→wpAnyH E.P .any ops Q S fuel listed a w
 | 0,listed,a,w,h=>h
 | fuel+1,_,_,_,h=>⟨h.1,fun i hi=>wpOp_mono (fun a' w' h'=>⟨hS w' h'.1,wpAnyH_mono hS fuel _ a' w' h'.2⟩) (h.2 i hi)⟩
theorem any_sound (hE:E.ok) {ops:Array Oper} (hs:Region.noSelect ops=true) (hd:∀ o ∈ ops.toList,∀ d,o.dst=some d→d<N.n) {γ0:Gm} {σ0:Sg} {w0:World} {H0:List AObj} {L:List Nat} (hi0:Inv γ0 σ0 w0 H0) {K:List (Nat × AV)→List AObj→Prop} {Q:Exit→Act→World→Prop}
 (hK:∀ γ σ w a fr H,Step m γ0 σ0 w0 γ σ w→Rep N γ σ w a ⟨fr,H⟩→K fr H→Q .normal a w) (hP:∀ c a w,¬ Q (.panic c) a w) (nw:Bool):∀ (n:Nat) (listed:Array Bool) (tt:List Nat) (t:AT),cAny E ops nw n listed tt=some t→∀ (γ:Gm) (σ:Sg) (w:World) (a:Act) (fr0 fr:List (Nat × AV)) (H:List AObj),
 Along m N γ0 σ0 w0 H0 L fr0 γ σ w a ⟨fr,H⟩→anyW E.P L K t H0 fr0 fr H→wpAnyH E.P .any ops Q (ExtL σ0 L w0) n listed a w
 | 0,listed,tt,t,hc,γ,σ,w,a,fr0,fr,H,hal,h=>by
   simp only [cAny] at hc
   split at hc
   · rename_i he
     cases hc
     exact ⟨by simpa using he,hK _ _ _ _ _ _ hal.step hal.rep h⟩
   · cases hc
 | n+1,listed,tt,t,hc,γ,σ,w,a,fr0,fr,H,hal,h=>by
   simp only [cAny] at hc
   split at hc
   · rename_i he
     cases hc
     exact wpAnyH_done he (hK _ _ _ _ _ _ hal.step hal.rep h) _
   · rename_i r rs he
     split at hc
     · rename_i i hfind
       have hcan:=List.find?_some hfind
       have hmem:=List.mem_of_find?_eq_some hfind
       split at hc
       · rename_i o ho
         have hom:o ∈ ops.toList:=by simpa using Array.mem_of_getElem? ho
         have hdo:=hd o hom
         split at hc
         · rename_i mi g hmi hg
           simp only [canTake,ho,hmi,Bool.and_eq_true] at hcan
           obtain ⟨⟨⟨hpure,hfree⟩,hnt⟩,_⟩:=hcan
           have hready:(Region.ready .any ops listed).contains i=true:=by rw [he];simpa using hmem
           have hput:∀ (d:Nat),o.dst=some d→d<a.tmps.size:=fun d hd=>by rw [hal.rep.size];exact hdo d hd
           split at hc
           · obtain ⟨nx,hnx,heq⟩:=Option.map_eq_some_iff.1 hc
             cases heq
             simp only [anyW] at h
             rcases guard_wp hE hg hmi hal.rep hal.fr0 hdo h with ⟨hw,fr0',fr',hr',hf0',h1,h2⟩ | ⟨hw,fr0',fr',hr',hf0',h1⟩
             · obtain ⟨d,x,u,h3,h4,h5,h6⟩:=pure_yields (R:=fun _=>True) hE hr'.inv hr'.fr hmi (fun h=>by rw [h1] at h;cases h) h2
               refine wpAnyH_take (v:=u) ho hs hfree hready (fun c a w h=>(hP _ _ _ h).elim) (.inl ⟨hw,fun w' _=>h6 w' trivial⟩) hal.ext ?_
               rw [h3]
               refine any_sound hE hs hd hi0 hK hP nw n _ _ nx hnx γ σ w _ ((d,.junk)::fr0') ((d,x)::fr') H ⟨hal.step,hal.sg,?_,?_,hal.ext,hal.objs,hal.len⟩ h4
               · exact rep_put hr' (Step.refl (m:=0) _ _ _) (Sg.le_refl _) hr'.inv (dst:=some d) (fun d' h=>by cases h;exact hdo d h3) h5
               · exact repF_put hf0' (hput d h3) (by simp [RepV])
             · refine wpAnyH_take (v:=undef) ho hs hfree hready (fun c a w h=>(hP _ _ _ h).elim) (.inr ⟨hw,rfl⟩) hal.ext ?_
               exact any_sound hE hs hd hi0 hK hP nw n _ _ nx hnx γ σ w _ _ _ H ⟨hal.step,hal.sg,hr',hf0',hal.ext,hal.objs,hal.len⟩ h1
           · obtain ⟨nx,hnx,heq⟩:=Option.map_eq_some_iff.1 hc
             cases heq
             simp only [anyW] at h
             rcases guard_wp hE hg hmi hal.rep hal.fr0 hdo h with ⟨hw,fr0',fr',hr',hf0',h2⟩ | ⟨hw,fr0',fr',hr',hf0',h1⟩
             · obtain ⟨d,x,u,h3,h4,h5,h6⟩:=pure_yields (R:=ExtL σ0 L w0) hE hi0 hf0' hmi (fun _ w' h=>h) h2
               refine wpAnyH_take (v:=u) ho hs hfree hready (fun c a w h=>(hP _ _ _ h).elim) (.inl ⟨hw,h6⟩) hal.ext ?_
               rw [h3]
               refine any_sound hE hs hd hi0 hK hP nw n _ _ nx hnx γ σ w _ ((d,x)::fr0') ((d,x)::fr') H ⟨hal.step,hal.sg,?_,?_,hal.ext,hal.objs,hal.len⟩ h4
               · exact rep_put hr' (Step.refl (m:=0) _ _ _) (Sg.le_refl _) hr'.inv (dst:=some d) (fun d' h=>by cases h;exact hdo d h3) (RepV.mono hal.step.le _ _ _ _ hal.sg h5)
               · exact repF_put hf0' (hput d h3) h5
             · refine wpAnyH_take (v:=undef) ho hs hfree hready (fun c a w h=>(hP _ _ _ h).elim) (.inr ⟨hw,rfl⟩) hal.ext ?_
               exact any_sound hE hs hd hi0 hK hP nw n _ _ nx hnx γ σ w _ _ _ H ⟨hal.step,hal.sg,hr',hf0',hal.ext,hal.objs,hal.len⟩ h1
         · cases hc
       · cases hc
     · refine wpAnyH_all he (by simp) fun i hi=>?_
       obtain ⟨o,mi,g,nx,ho,hmi,hg,hnx,hgw⟩:=alts_spec (next:=fun i o=>(cAny E ops nw n (listed.setIfInBounds i true) (if nw then [] else taint tt o)).map (based nw)) (r::rs) t hc h i hi
       have hom:o ∈ ops.toList:=by simpa using Array.mem_of_getElem? ho
       have hdo:=hd o hom
       have hput:∀ (d:Nat),o.dst=some d→d<a.tmps.size:=fun d hd=>by rw [hal.rep.size];exact hdo d hd
       obtain ⟨n1,hn1,rfl⟩:=Option.map_eq_some_iff.1 hnx
       have cont:∀ (γ':Gm) (σ':Sg) (w':World) (a':Act) (fr0' fr':List (Nat × AV)) (H':List AObj),Along m N γ0 σ0 w0 H0 L fr0' γ' σ' w' a' ⟨fr',H'⟩→anyW E.P L K (based nw n1) H0 fr0' fr' H'→wpAnyH E.P .any ops Q (ExtL σ0 L w0) n (listed.setIfInBounds i true) a' w':=by
        intro γ' σ' w' a' fr0' fr' H' hal' h'
        cases nw with
        | false=>exact any_sound hE hs hd hi0 hK hP false n _ _ n1 hn1 γ' σ' w' a' fr0' fr' H' hal' h'
        | true =>
          obtain ⟨L',hL',h'⟩:=h'
          refine wpAnyH_mono (S':=ExtL σ' L' w') (fun w2 hx=>hal'.keep hi0 (W:=L') hL' hx) _ _ _ _ ?_
          exact any_sound (γ0:=γ') (σ0:=σ') (w0:=w') (H0:=H') (L:=L') hE hs hd hal'.rep.inv (fun γ σ w a fr H h1 h2 h3=>hK γ σ w a fr H (hal'.step.trans h1) h2 h3) hP true n _ _ n1 hn1 γ' σ' w' a' fr' fr' H' ⟨.refl _ _ _,Sg.le_refl _,hal'.rep,hal'.rep.fr,ExtL.refl _ _ _,fun _ _ _=>rfl,Nat.le_refl _⟩ h'
       generalize based nw n1=nx at *
       unfold wpOp
       simp only [ho]
       rcases guard_wp hE hg hmi hal.rep hal.fr0 hdo hgw with ⟨hw,fr0',fr',hr',hf0',h2⟩ | ⟨hw,fr0',fr',hr',hf0',h1⟩
       · rw [if_pos hw]
         refine .inl ?_
         -- what follows
         have go:∀ (γ':Gm) (σ':Sg) (w':World) (v:Value) (fr2:List (Nat × AV)) (H2:List AObj),ExtL σ0 L w0 w'→Step (max m σ.length) γ σ w γ' σ' w'→Rep N γ' σ' w' (a.put o.dst v) ⟨fr2,H2⟩ →
          (∀ i,i<H0.length→i ∉ L→H2[i]?=H0[i]?)→H0.length≤H2.length→anyW E.P L K nx H0 (putO fr0' (dstOfI mi) .junk) fr2 H2 →
          ExtL σ0 L w0 w'∧wpAnyH E.P .any ops Q (ExtL σ0 L w0) n (listed.setIfInBounds i true) (a.put o.dst v) w':=by
          intro γ' σ' w' v fr2 H2 h1 h2 h3 h4 h5 h6
          refine ⟨h1,cont γ' σ' w' _ _ _ H2 ⟨hal.step.trans (h2.weaken (Nat.le_max_left _ _)),Sg.le_trans hal.sg h2.sg,h3,?_,h1,h4,h5⟩ h6⟩
          rw [cOp_dst hmi]
          exact repF_putO hf0' hput (by simp [RepV])
         have hk:Cont (fun a' w'=>∃ v,a'=a.put o.dst v∧ExtL σ0 L w0 w') (max m σ.length) N γ σ w
          (fun s=>(∀ i,i<H0.length→i ∉ L→s.H[i]?=H0[i]?)∧H0.length≤s.H.length∧anyW E.P L K nx H0 (putO fr0' (dstOfI mi) .junk) s.fr s.H)
          (fun a' w'=>ExtL σ0 L w0 w'∧wpAnyH E.P .any ops Q (ExtL σ0 L w0) n (listed.setIfInBounds i true) a' w'):=by
          rintro γ' σ' w' a' s' ⟨v,rfl,hx⟩ hst hr2 ⟨h3,h4,h5⟩
          exact go γ' σ' w' v s'.fr s'.H hx hst hr2 h3 h4 h5
         have call:∀ (g:FuncId) (f:Operand) (xs:Array Operand) (ats:Array TypeId) (first caps args:List AV) (ids:List Nat) (bor:Bool) (Q':AV→List AObj→Prop),o.op=.call { callee:=.value f,args:=xs,argTypes:=ats }→ev fr' f=.fn (.func g) first caps →
          first++xs.toList.map (ev fr')++caps=args→callOk H0.length L H ids→ACalls E.P g (args.map (pa H ids bor 8)) (pH H ids bor 8) Q' →
          (∀ r H',Q' r H'→(bor=true→nov r=true∧H'.all novO=true)∧anyW E.P L K nx H0 (putO fr0' (dstOfI mi) .junk) (putO fr' o.dst (ren (rho ids H.length) r)) (merge (fun o=>o) H ids (H'.map (renO (rho ids H.length))))) →
          o.wp E.P a w (fun a' w'=>ExtL σ0 L w0 w'∧wpAnyH E.P .any ops Q (ExtL σ0 L w0) n (listed.setIfInBounds i true) a' w') Q:=by
          intro g f xs ats first caps args ids bor Q' hop hf hargs hok hcl hq
          obtain ⟨hok1,hok2,hok3⟩:=hok
          refine s_call_gen hr'.fr hop hf hcl.1 fun vs hvs=>?_
          rw [hargs] at hvs
          refine (ACalls.pass_calls (Q:=fun r H2=>∃ H',H2=merge (fun o=>o) H ids H'∧anyW E.P L K nx H0 (putO fr0' (dstOfI mi) .junk) (putO fr' o.dst r) H2) ids bor 8 hok2 hok3 hcl (fun r H' h=>?_) hr'.inv hvs).mono ?_
          · obtain ⟨h1,h2⟩:=hq r H' h
            exact ⟨h1,H'.map (renO (rho ids H.length)),rfl,h2⟩
          · rintro e w' ⟨v,γ',σ',r,H2,rfl,hst,hi2,hrv,⟨H',rfl,h2⟩,hkeep⟩
            refine ⟨v,rfl,go γ' σ' w' v (putO fr' o.dst r) (merge (fun o=>o) H ids H') (hal.keep hi0 (W:=ids) hok1 fun b x hb hfar=>?_) ⟨hst.le,hst.size,hst.keep,hst.own,hst.os,hst.tape,hst.output,hst.drawn,fun i e _ he=>hst.low i e ?_ he⟩ ?_ (fun i hi hil=>?_) ?_ h2⟩
            · rw [hkeep b (lt_of_block hb) ?_]
              · exact hb
              · rintro ⟨j,c,h⟩
                simp only [sl,List.getElem?_map,Option.map_eq_some_iff] at h
                obtain ⟨id,h3,h4⟩:=h
                have h5:=List.mem_of_getElem? h3
                have h6:id<σ.length:=by have:=hok2 id h5;have h7:=hr'.inv.len;simp only [] at h7;omega
                rw [List.getElem?_eq_getElem h6] at h4
                exact hfar id h5 c (by rw [List.getElem?_eq_getElem h6];simpa using h4)
            · have:=(List.getElem?_eq_some_iff.1 he).1
              have:=hr'.inv.len
              simp only [] at this
              omega
            · have hsg:Sg.le σ σ':=fun i e he=>hst.low i e (by have h1:=(List.getElem?_eq_some_iff.1 he).1;have h2:=hr'.inv.len;simp only [] at h2;omega) he
              have:=rep_put hr' hst hsg hi2 hdo hrv
              cases hdst:o.dst <;> simpa [AS.put,putO,hdst] using this
            · have hl:=hal.len
              simp only [] at hl
              have hni:i ∉ ids:=fun h=>by
               rcases hok1 i h with h | h
               · exact hil h
               · omega
              rw [merge_other _ (by omega) hni]
              exact hal.objs i hi hil
            · have hl:=hal.len
              simp only [] at hl
              rw [merge_length];omega
         cases mi with
         | v i =>
           simp only [altW,miW] at h2
           split at h2
           · rename_i d x hv
             obtain ⟨h3,y,u,h4,h5,h6⟩:=cOp_v (R:=fun v=>v=w) hE hr'.inv hr'.fr (fun _ w' h=>by subst h;exact ExtL.refl _ _ _) hmi hv
             subst h5
             exact done_value hr' hdo hk (h6 w rfl) ⟨u,rfl,hal.ext⟩ ⟨hr'.inv,.refl _ _ _⟩ (Sg.le_refl _) h4 (by rw [h3];exact ⟨hal.objs,hal.len,h2⟩)
           · exact h2.elim
         | p i =>
           simp only [altW,miW] at h2
           obtain ⟨d,h3,y,u,h4,h5,h6⟩:=cOp_p (R:=fun v=>v=w) (k:=fun d x=>anyW E.P L K nx H0 (putO fr0' (dstOfI (.p i)) .junk) ((d,x)::fr') H) hE hr'.inv hr'.fr (fun _ w' h=>by subst h;exact ExtL.refl _ _ _) hmi h2
           exact done_value hr' hdo hk (h6 w rfl) ⟨u,rfl,hal.ext⟩ ⟨hr'.inv,.refl _ _ _⟩ (Sg.le_refl _) h4 (by rw [h3];exact ⟨hal.objs,hal.len,h5⟩)
         | e ei =>
           have other:isCall ei=false→((∀ id ∈ wrote fr' ei,id ∈ L∨H0.length≤id)∧eiW E.P fr' H (fun fr' H'=>anyW E.P L K nx H0 (putO fr0' (dstOfI (.e ei)) .junk) fr' H') ei) →
            o.wp E.P a w (fun a' w'=>ExtL σ0 L w0 w'∧wpAnyH E.P .any ops Q (ExtL σ0 L w0) n (listed.setIfInBounds i true) a' w') Q:=by
            rintro hnc ⟨hW,h3⟩
            have h4:=eiW_keep hnc h3
            refine cOp_e (k:=fun fr2 H2=>(∀ i,i<H0.length→i ∉ L→H2[i]?=H0[i]?)∧H0.length≤H2.length∧anyW E.P L K nx H0 (putO fr0' (dstOfI (.e ei)) .junk) fr2 H2) hE hr' hdo (fun w' v h=>⟨v,rfl,hal.keep hi0 hW (h.resolve_left (by rw [hnc];simp))⟩) hmi (fun d f args he=>by subst he;cases hnc) hk (eiW_mono' ?_ h4)
            rintro fr2 H2 ⟨h5,h6,h7⟩
            have hl:=hal.len
            simp only [] at hl
            refine ⟨fun j hi hil=>?_,by omega,h7⟩
            rw [h5 j (fun hw=>?_) (by omega)]
            · exact hal.objs j hi hil
            · rcases hW j hw with h | h
              · exact hil h
              · omega
           cases ei
           case call d f args =>
            obtain ⟨hdst,xs,ats,hop,hxs⟩:=cOp_call hmi
            simp only [altW] at h2
            obtain ⟨ids,bor,Q',h0,h3,h4⟩:=h2
            exact call f (.func f) xs ats [] [] _ ids bor Q' hop rfl (by rw [cVs_ev hxs];simp) h0 h3 (by rw [hdst];exact h4)
           case callv d f args =>
            obtain ⟨hdst,t,xs,ats,rfl,hop,hxs⟩:=cOp_callv hmi
            simp only [altW,mv] at h2
            split at h2
            · rename_i g first caps hf
              obtain ⟨ids,bor,Q',h0,h3,h4⟩:=h2
              exact call g (.tmp t) xs ats first caps _ ids bor Q' hop hf (by rw [cVs_ev hxs]) h0 h3 (by rw [hdst];exact h4)
            · exact h2.elim
           all_goals exact other rfl h2
       · rw [if_neg (by simp [hw])]
         exact ⟨hal.ext,cont γ σ w _ _ _ H ⟨hal.step,hal.sg,hr',hf0',hal.ext,hal.objs,hal.len⟩ h1⟩
end
end Go.Al
