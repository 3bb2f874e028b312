/-
 A part of the proof: see the text of the law.
-/
import Derived.Test.YtchlampphcaomaaGreatDoorAlphaE
import Derived.OrdersIn
import Derived.Scope
set_option linter.unusedSimpArgs false
set_option linter.unusedVariables false
namespace Go.Al
section
variable {F:Fence} {n:Nat} {P:Program} {Q:Exit→Act→World→Prop} {a:Act} {w:World}
theorem wpIn_scope_straight {c:Code} (h:c.wpIn F n P (Exit.noGoto Q) a w):(Code.scope c).wpIn F n P Q a w:=by
 intro b k cs hro hb hr
 have h0:(lone (b.atR a (.code (.scope c)::k)) cs w).fenced P F:=fenced_calm hb hr rfl
 have hs:step P (lone (b.atR a (.code (.scope c)::k)) cs w)=.next (lone (b.atR a (.code c :: .inScope c::k)) cs w):=step_lone_go (by simp [stepG,stepG.exec,Frame.atR])
 obtain ⟨e,a₁,w₁,hq,harr⟩:=h b (.inScope c::k) cs hro hb hr
 cases e with
 | normal=>exact ⟨.normal,a₁,w₁,hq,.head h0 hs (StepsIn.trans harr (.one (fenced_calm (fr:=b.atR a₁ (.inScope c::k)) hb hr rfl) (step_lone_go (by simp [stepG,stepG.exec,Frame.atR]))))⟩
 | exit id=>exact ⟨.exit id,a₁,w₁,hq,fun k' hk=>.head h0 hs (harr.1 k' (by simp [exitTo,hk])),fun hr' hk=>let ⟨k₁,h1,h2⟩:=harr.2 hr' (by simp [exitTo,hk]);⟨k₁,h1,.head h0 hs h2⟩⟩
 | goto l=>exact hq.elim
 | ret=>exact ⟨_,a₁,w₁,hq,.of_steps (.one h0 hs) harr⟩
 | panic ch=>exact ⟨_,a₁,w₁,hq,.of_steps (.one h0 hs) harr⟩
 | outgrown=>exact ⟨_,a₁,w₁,hq,.of_steps (.one h0 hs) harr⟩
end
section
variable {P:Program} {Q:Exit→Act→World→Prop} {md:Region.Mode} {ops:Array Oper}
theorem wpAny_in {ro:Option Nat} (hQ:¬ LetsOut Q) (hnd:noDefer ops=true):∀ (fuel:Nat) (listed:Array Bool) (a:Act) (w:World),wpAny P md ops Q fuel listed a w→wpAnyIn (FW ro) 0 P md ops Q fuel listed a w
 | 0,_,_,_,h=>h
 | fuel+1,listed,a,w,h=>by
   refine ⟨h.1,fun i hi=>?_⟩
   refine wpOpIn_mono (fun a w=>wpAny_in hQ hnd fuel _ a w) ?_
   have h2:=h.2 i hi
   unfold wpOp at h2
   unfold wpOpIn
   cases ho:ops[i]? with
   | none=>simpa only [ho] using h2
   | some o =>
     simp only [ho] at h2 ⊢
     split
     · rename_i hw
       rw [if_pos hw] at h2
       rcases h2 with h2 | ⟨_,h2⟩
       · refine wp_in (fun c hc=>?_) h2
         unfold noDefer at hnd
         rw [List.all_eq_true] at hnd
         have:=hnd o (by simpa using Array.mem_of_getElem? ho)
         rw [hc] at this
         cases this
       · exact absurd h2 hQ
     · rename_i hw
       rw [if_neg hw] at h2
       exact ⟨fun _ _=>trivial,h2⟩
end
theorem Inv.alloc0 {m:Nat} {γ:Gm} {σ:Sg} {w:World} {H:List AObj} (h:Inv γ σ w H) (o:Obj):Inv γ σ (w.alloc o) H∧Step m γ σ w γ σ (w.alloc o):=by
 refine ⟨⟨fun b x hb=>?_,fun i b c hs=>?_,h.inj,h.len,fun i ob e ho he=>?_,h.glob⟩,⟨fun _ _ h=>h,by simp,fun b hb _=>⟨heap_alloc_lt _ _ hb,rfl⟩,fun b hb=>.inl hb,rfl,rfl,rfl,Nat.le_refl _,fun i e _ h=>.inl h⟩⟩
 · rw [heap_alloc_lt _ _ (h.gm_lt hb)];exact h.mem b x hb
 · have:=h.own i b c hs;exact ⟨this.1,by simp;omega⟩
 · refine (h.obj i ob e ho he).mono (fun _ _ h=>h) (Sg.le_refl _) fun b c hb=>?_
   subst hb
   exact heap_alloc_lt _ _ (h.own i b c he).2
theorem Inv.turn {γ:Gm} {σ:Sg} {w:World} {H:List AObj} (h:Inv γ σ w H) {D:Nat} (hD:¬ Blks σ D) (hg:γ D=none) (o:Obj):Inv γ σ (w.putObj D o) H:=by
 refine ⟨fun b x hb=>?_,fun i b c hs=>?_,h.inj,h.len,fun i ob e ho he=>?_,h.glob⟩
 · rw [World.putObj_heap_other (fun e=>by subst e;rw [hg] at hb;cases hb)];exact h.mem b x hb
 · have:=h.own i b c hs;exact ⟨this.1,by simpa using this.2⟩
 · refine (h.obj i ob e ho he).mono (fun _ _ h=>h) (Sg.le_refl _) fun b c hb=>?_
   subst hb
   exact World.putObj_heap_other (fun e=>hD (by subst e;exact ⟨i,c,he⟩))
theorem Step.turn {m:Nat} {γ γ':Gm} {σ σ':Sg} {w w':World} (h:Step m γ σ w γ' σ' w') {D:Nat} (hD:w.heap.size≤D) (o:Obj):Step m γ σ w γ' σ' (w'.putObj D o) :=
 ⟨h.le,by simpa using h.size,fun b hb hn=>⟨by rw [World.putObj_heap_other (by omega)];exact (h.keep b hb hn).1,(h.keep b hb hn).2⟩,h.own,h.os,h.tape,h.output,h.drawn,h.low⟩
theorem leaves_marks {P:Program} {fn:Func} {tmps:Array Value} {R:Ending→World→Prop} {m:Nat} {γ0 γ:Gm} {σ0 σ:Sg} {w0:World} {H:List AObj} {F:Fence} {n:Nat}:∀ (ds:List Deferred) (w:World),Inv γ σ w H→Step m γ0 σ0 w0 γ σ w→DefOk w0.heap.size γ σ w ds →
 (∀ w',Inv γ σ w' H→Step m γ0 σ0 w0 γ σ w'→∃ v,(results fn tmps).run P w'=.ok v w'∧R (.returned v) w')→LeavesInM F n P fn tmps R ds .returning w
 | [],w,hi,hs,_,h=>h w hi hs
 | d::ds,w,hi,hs,⟨⟨D,hd,h1,h2,h3,h4,h5⟩,hr⟩,h=>by
   subst hd
   refine ⟨by simp,.inl ⟨D,w.putObj D (.deferred none),rfl,run_takeDeferred h4,?_⟩⟩
   refine leaves_marks ds _ (hi.turn h2 h3 _) (hs.turn h1 _) ?_ h
   clear h
   have:∀ {ds:List Deferred},(∀ d' ∈ ds,d'≠{ target:=.collected D,args:=#[] })→DefOk w0.heap.size γ σ w ds→DefOk w0.heap.size γ σ (w.putObj D (.deferred none)) ds:=by
    intro ds
    induction ds with
    | nil=>intro _ h;simpa [DefOk] using h
    | cons d ds ih =>
      rintro hne ⟨⟨D2,rfl,k1,k2,k3,k4,k5⟩,kr⟩
      have:D2≠D:=fun e=>hne { target:=.collected D2,args:=#[] } (by simp) (by rw [e])
      exact ⟨⟨D2,rfl,k1,k2,k3,by rw [World.putObj_heap_other this];exact k4,k5⟩,ih (fun d hd=>hne d (by simp [hd])) kr⟩
   exact this h5 hr
section
variable {E:Env}
theorem repF_zip {γ:Gm} {σ:Sg}:∀ (ps:List Tmp) (xs:List AV) (vs:List Value) (fr:List (Nat × AV)) (tmps:Array Value),RepF γ σ fr tmps→RepVs γ σ xs vs→(∀ p ∈ ps,p<tmps.size) →
 RepF γ σ (zipPut ps xs fr) ((ps.zip vs).foldl (fun tmps (x:Tmp × Value)=>tmps.setIfInBounds x.1 x.2) tmps)∧((ps.zip vs).foldl (fun tmps (x:Tmp × Value)=>tmps.setIfInBounds x.1 x.2) tmps).size=tmps.size
 | [],xs,vs,fr,tmps,h,_,_=>by simp [zipPut,h]
 | p::ps,[],vs,fr,tmps,h,hv,_=>by rw [repVs_nil] at hv;subst hv;simp [zipPut,h]
 | p::ps,x::xs,vs,fr,tmps,h,hv,hp=>by
   obtain ⟨v,vs',rfl,h1,h2⟩:=repVs_cons.1 hv
   simp only [zipPut,List.zip_cons_cons,List.foldl_cons]
   have:=repF_zip ps xs vs' ((p,x)::fr) (tmps.setIfInBounds p v) (repF_put h (hp p (by simp)) h1) h2 (fun q hq=>by simpa using hp q (by simp [hq]))
   exact ⟨this.1,by simpa using this.2⟩
theorem loop_entry {γ:Gm} {σ:Sg} {w:World} {H:List AObj} (hi:Inv γ σ w H) {id:Nat} {st:LoopState} {pd:Option Code} {fr:List (Nat × AV)} {n:Nat} {fn:FuncId} {ps:Array Tmp} {as bd:Code} (h:H[id]?=some (.loop st pd fr n fn ps as bd)) :
 ∃ b c tmps D,σ[id]?=some (some (some b,c))∧w.heap[b]?=some (.loop { state:=st,pending:=pd,fn:=fn,tmps:=tmps,params:=ps,assign:=as,body:=bd,defers:=D })∧RepF γ σ fr tmps∧tmps.size=n:=by
 obtain ⟨e,he,ho⟩:=inv_entry hi h
 unfold RepO at ho
 split at ho
 all_goals first | (rename_i heq;cases heq;done) | exact ho.elim | skip
 rename_i heq
 cases heq
 obtain ⟨tmps,D,h1,h2,h3⟩:=ho
 exact ⟨_,_,tmps,D,he,h1,h2,h3⟩
theorem Inv.loopTo {m:Nat} {γ:Gm} {σ:Sg} {w:World} {H:List AObj} (hi:Inv γ σ w H) {id b c:Nat} (hid:σ[id]?=some (some (some b,c))) {st:LoopState} {pd:Option Code} {fr:List (Nat × AV)} {fn:FuncId} {ps:Array Tmp} {as bd:Code} {tmps:Array Value} {D:Nat} (hf:RepF γ σ fr tmps) :
 Inv γ σ (w.putObj b (.loop { state:=st,pending:=pd,fn:=fn,tmps:=tmps,params:=ps,assign:=as,body:=bd,defers:=D })) (H.set id (.loop st pd fr tmps.size fn ps as bd)) ∧
 Step m γ σ w γ σ (w.putObj b (.loop { state:=st,pending:=pd,fn:=fn,tmps:=tmps,params:=ps,assign:=as,body:=bd,defers:=D })):=by
 have hlt:=(hi.own id b c hid).2
 refine hi.touch hid (by simp) (fun b' hb'=>World.putObj_heap_other hb') rfl rfl rfl ?_
 exact ⟨tmps,D,World.putObj_heap_same hlt,hf,rfl⟩
theorem round_sound {n:Nat} {ps:Array Tmp} {as bd:Code} {x y:MC} (hps:∀ p ∈ ps,p<n) (has:∀ (m:Nat) (N:FN) (Q:Exit→AS→Prop) (s:AS),N.n=n→MW E.P m N x Q s→ACode E.P m N as Q s)
 (hbd:∀ (m:Nat) (N:FN) (Q:Exit→AS→Prop) (s:AS),N.n=n→MW E.P m N y Q s→ACode E.P m N bd Q s) {fn:FuncId} {id:Nat} {fr2:List (Nat × AV)} {args:List AV} {H:List AObj} {Q2:AV→List AObj→Prop}
 (hH:H[id]?=some (.loop .ready none fr2 n fn ps as bd)) (hl:args.length=ps.size)
 (h:∀ N2:FN,N2.n=n→MW E.P H.length N2 x (fun e s=>match e with
     | .normal=>s.H[id]?=some (.loop .ready none fr2 n fn ps as bd)∧MW E.P H.length N2 y (roundQ H.length N2 id (fun st pd=>.loop st pd fr2 n fn ps as bd) Q2) ⟨s.fr,s.H.set id (.loop .busy none fr2 n fn ps as bd)⟩
     | _=>False) ⟨zipPut ps.toList args fr2,H⟩):AYield E.P id args H Q2:=by
 intro γ σ w vs hi hv
 obtain ⟨b,c,tmps,D,hid,hb,hf,hsz⟩:=loop_entry hi hH
 have hvl:=hv.length
 obtain ⟨hz,hzs⟩:=repF_zip ps.toList args vs fr2 tmps hf hv (fun p hp=>by rw [hsz];exact hps p (by simpa using hp))
 have hidl:id<H.length:=(List.getElem?_eq_some_iff.1 hH).1
 have hy:=run_yield (P:=E.P) (args:=vs.toArray) hb (by simp;omega)
 refine ⟨b,c,_,_,_,_,hid,hy,?_⟩
 refine roundIn_of_wpIn (F:=FW none) trivial ?_
 have hfold:((ps.zip vs.toArray).foldl (fun tmps (x:Tmp × Value)=>tmps.setIfInBounds x.1 x.2) tmps)=((ps.toList.zip vs).foldl (fun tmps (x:Tmp × Value)=>tmps.setIfInBounds x.1 x.2) tmps):=by
  rw [← Array.foldl_toList];simp
 have hN:({ n:=n,base:=w.heap.size,ro:=some b }:FN).n=n:=rfl
 have hrep:Rep { n:=n,base:=w.heap.size,ro:=some b } γ σ w { tmps:=(ps.zip vs.toArray).foldl (fun tmps (x:Tmp × Value)=>tmps.setIfInBounds x.1 x.2) tmps,defers:=[] } ⟨zipPut ps.toList args fr2,H⟩:=by
  rw [hfold]
  exact ⟨hi,hz,Nat.le_refl _,by rw [hzs,hsz]⟩
 refine wpIn_mono (has _ _ _ _ hN (h _ hN) γ σ w _ hrep) fun e a1 w1 hl1=>?_
 cases e <;> simp only [lift,Exit.then] at hl1 ⊢ <;> try (first | exact hl1 | (obtain ⟨_,_,_,_,_,hq⟩:=hl1;exact hq))
 obtain ⟨γ1,σ1,s1,st1,r1,hH1,hmw⟩:=hl1
 obtain ⟨b1,c1,tmps1,D1,hid1,hb1,hf1,hsz1⟩:=loop_entry r1.inv hH1
 have hbb:b1=b∧c1=c:=by
  rcases st1.low id _ hidl hid with e | e <;> rw [hid1] at e <;> cases e
  exact ⟨rfl,rfl⟩
 obtain ⟨rfl,rfl⟩:=hbb
 refine ⟨_,run_beginRound hb1 rfl,?_⟩
 obtain ⟨hi2,st2⟩:=r1.inv.loopTo (m:=H.length) hid1 (st:=.busy) (pd:=none) (fn:=fn) (ps:=ps) (as:=as) (bd:=bd) (D:=D1) hf1
 rw [hsz1] at hi2
 refine wpIn_mono (hbd _ _ _ _ hN hmw γ1 σ1 _ a1 ⟨hi2,r1.fr,r1.defers.step st2,r1.size⟩) fun e a3 w3 hl3=>?_
 have fin:∀ (jump:Option Code),(∃ γ' σ' s',Step H.length γ1 σ1 (w1.putObj b1 (.loop { state:=.busy,pending:=none,fn:=fn,tmps:=tmps1,params:=ps,assign:=as,body:=bd,defers:=D1 })) γ' σ' w3∧Rep { n:=n,base:=w.heap.size,ro:=some b1 } γ' σ' w3 a3 s' ∧
  ∃ H',Ent H.length { n:=n,base:=w.heap.size,ro:=some b1 } s' ⟨[],H'⟩∧H'[id]?=some (.loop .busy none fr2 n fn ps as bd)∧Q2 (.bool jump.isNone) (H'.set id (.loop (if jump.isNone then .ready else .done) jump fr2 n fn ps as bd))) →
  ∃ v w',(Instr.endRound b1 jump).run E.P w3=.ok v w'∧∃ v' γ' σ' r H',Ending.returned v=.returned v'∧Step H.length γ σ w γ' σ' w'∧Inv γ' σ' w' H'∧RepV γ' σ' r v'∧Q2 r H':=by
  rintro jump ⟨γ',σ',s',st3,r3,H',hent,hH3,hq⟩
  obtain ⟨γ4,σ4,st4,r4⟩:=hent γ' σ' w3 a3 r3
  obtain ⟨b5,c5,tmps5,D5,hid5,hb5,hf5,hsz5⟩:=loop_entry r4.inv hH3
  have hbb:b5=b1∧c5=c1:=by
   rcases (((st1.trans st2).trans st3).trans st4).low id _ hidl hid with e | e <;> rw [hid5] at e <;> cases e
   exact ⟨rfl,rfl⟩
  obtain ⟨rfl,rfl⟩:=hbb
  obtain ⟨hi6,st6⟩:=r4.inv.loopTo (m:=H.length) hid5 (st:=if jump.isNone then .ready else .done) (pd:=jump) (fn:=fn) (ps:=ps) (as:=as) (bd:=bd) (D:=D5) hf5
  rw [hsz5] at hi6
  exact ⟨_,_,run_endRound jump hb5,_,γ4,σ4,.bool jump.isNone,_,rfl,(((st1.trans st2).trans st3).trans st4).trans st6,hi6,rfl,hq⟩
 cases e <;> simp only [lift,roundPost,roundQ] at hl3 ⊢
 · exact fin none (by simpa using hl3)
 · rename_i j;exact fin (some (.exit j)) (by simpa using hl3)
 · exact fin (some .ret) (by simpa using hl3)
end
end Go.Al
namespace Go.Al
section
variable {E:Env} {X:Act→World→Prop} {m:Nat} {N:FN} {γ:Gm} {σ:Sg} {w:World} {a:Act} {s:AS} {K:AS→Prop} {next:Act→World→Prop} {Q:Exit→Act→World→Prop} {o:Oper}
def dstsBelow (N:Nat):Code→Bool
 | .region _ ops _=>ops.all fun o=>match o.dst with | some d=>decide (d<N) | none=>true
 | .seq a b | .cond _ a b=>dstsBelow N a && dstsBelow N b
 | .block _ c | .loop c | .scope c=>dstsBelow N c
 | .rangeFunc _ ps a b=>ps.all (· < N) && dstsBelow N a && dstsBelow N b
 | _=>true
theorem MW_sound (hE:E.ok) (hm:E.P.follows .mixedOrders=true):∀ (c:Code) (m:Nat) (N:FN) (mc:MC) (Q:Exit→AS→Prop) (s:AS),cC E c=some mc→dstsBelow N.n c=true→MW E.P m N mc Q s→ACode E.P m N c Q s
 | .skip,m,N,mc,Q,s,hc,_,h=>by simp only [cC,Option.some.injEq] at hc;subst hc;exact acode_skip h
 | .label _,m,N,mc,Q,s,hc,_,h=>by simp only [cC,Option.some.injEq] at hc;subst hc;exact acode_label h
 | .ret,m,N,mc,Q,s,hc,_,h=>by simp only [cC,Option.some.injEq] at hc;subst hc;exact acode_ret h
 | .exit id,m,N,mc,Q,s,hc,_,h=>by simp only [cC,Option.some.injEq] at hc;subst hc;exact acode_exit h
 | .seq x y,m,N,mc,Q,s,hc,hd,h=>by
   simp only [dstsBelow,Bool.and_eq_true] at hd
   simp only [cC] at hc
   split at hc
   · rename_i mx my hx hy
     cases hc
     refine acode_seq ((MW_sound hE hm x m N mx _ s hx hd.1 h).mono fun e s' he=>?_)
     cases e with
     | normal=>exact MW_sound hE hm y m N my Q s' hy hd.2 he
     | _=>exact he
   · cases hc
 | .cond (.tmp t) x y,m,N,mc,Q,s,hc,hd,h=>by
   simp only [dstsBelow,Bool.and_eq_true] at hd
   simp only [cC] at hc
   split at hc
   · rename_i mx my hx hy
     cases hc
     simp only [MW] at h
     split at h
     · rename_i b hb
       have hent:∀ b',b=b'→Ent m N s ⟨(t,.bool b')::s.fr,s.H⟩:=fun b' hbb γ σ w a hr=>⟨γ,σ,.refl _ _ _,hr.inv,repF_set hr.fr hb (fun v hv=>by rw [← hbb];exact hv),hr.defers,hr.size⟩
       exact acode_cond (c:=.tmp t) hb (fun hb'=>(MW_sound hE hm x m N mx Q _ hx hd.1 (h.1 hb')).ent (hent _ hb')) (fun hb'=>(MW_sound hE hm y m N my Q _ hy hd.2 (h.2 hb')).ent (hent _ hb'))
     · exact h.elim
   · cases hc
 | .cond (.const v) x y,m,N,mc,Q,s,hc,hd,h=>by
   simp only [dstsBelow,Bool.and_eq_true] at hd
   cases v <;> simp only [cC] at hc <;> try (cases hc;done)
   rename_i b
   intro γ σ w a hr
   refine wpIn_cond_split (t:=b) rfl (fun hb=>?_) (fun hb=>?_) <;> subst hb
   · exact MW_sound hE hm x m N mc Q s (by simpa using hc) hd.1 h γ σ w a hr
   · exact MW_sound hE hm y m N mc Q s (by simpa using hc) hd.2 h γ σ w a hr
 | .cond (.global _) _ _,_,_,_,_,_,hc,_,_=>by simp [cC] at hc
 | .cond (.func _) _ _,_,_,_,_,_,hc,_,_=>by simp [cC] at hc
 | .block id c,m,N,mc,Q,s,hc,hd,h=>by
   simp only [cC] at hc
   obtain ⟨mx,hx,he⟩:=Option.map_eq_some_iff.1 hc;cases he
   exact acode_block (MW_sound hE hm c m N mx _ s hx hd h)
 | .loop c,m,N,mc,Q,s,hc,hd,h=>by
   simp only [cC] at hc
   obtain ⟨mx,hx,he⟩:=Option.map_eq_some_iff.1 hc;cases he
   exact acode_loop (Loop.mono h fun Q' s' h'=>MW_sound hE hm c m N mx Q' s' hx hd h')
 | .region id ops false,m,N,mc,Q,s,hc,hd,h=>by
   simp only [cC] at hc
   obtain ⟨ml,hml,he⟩:=Option.map_eq_some_iff.1 hc;cases he
   intro γ σ w a hr
   refine wpIn_region_list (mops_sound (m:=m) hE ops.toList ml hml (fun o ho d hod=>?_) hr (fun γ' σ' w' a' s' _ h1 h2 h3=>⟨γ',σ',s',h1,h2,h3⟩) h)
   simp only [dstsBelow,Array.all_eq_true'] at hd
   have:=hd o (by simpa using ho)
   simpa [hod] using this
 | .region id ops true,m,N,mc,Q,s,hc,hd,h=>by
   simp only [cC] at hc
   split at hc
   · rename_i hs
     rw [Bool.and_eq_true] at hs
     obtain ⟨t,ht,he⟩:=Option.map_eq_some_iff.1 hc;cases he
     intro γ σ w a hr
     have h:∃ L,anyW E.P L (fun fr H=>∃ s',Ent m N ⟨fr,H⟩ s'∧Q .normal s') t s.H s.fr s.fr s.H:=by
      revert h
      cases writes t <;> intro h
      · obtain ⟨L,h⟩:=h
        exact ⟨L,anyW_mono (fun fr H h=>⟨⟨fr,H⟩,fun γ σ w a hr=>⟨γ,σ,.refl _ _ _,hr⟩,h⟩) t _ _ _ _ h⟩
      · exact h
     obtain ⟨L,h⟩:=h
     have hr':Rep N γ σ w.drew a s:=⟨hr.inv.drew,hr.fr,hr.defers.step (Step.drew (m:=m) _ _ _),hr.size⟩
     refine wpIn_region_any hm (wpAny_in (fun ⟨_,_,h⟩=>h) hs.2 _ _ _ _ (wpAny_of_held (S:=ExtL σ L w.drew) _ _ _ _ ?_))
     refine any_sound (m:=m) (K:=fun fr H=>∃ s',Ent m N ⟨fr,H⟩ s'∧Q .normal s') hE hs.1 (fun o ho d hod=>?_) hr'.inv (fun γ' σ' w' a' fr H h1 h2 ⟨s',he,hq⟩=>let ⟨γ2,σ2,hst,hrep⟩:=he γ' σ' w' a' h2;⟨γ2,σ2,s',(Step.drew _ _ _).trans (h1.trans hst),hrep,hq⟩) (fun c a w h=>h) _ ops.size _ [] t ht γ σ w.drew a s.fr s.fr s.H ⟨.refl _ _ _,Sg.le_refl _,hr',hr'.fr,ExtL.refl _ _ _,fun _ _ _=>rfl,Nat.le_refl _⟩ h
     simp only [dstsBelow,Array.all_eq_true'] at hd
     have:=hd o (by simpa using ho)
     simpa [hod] using this
   · cases hc
 | .scope c,m,N,mc,Q,s,hc,hd,h=>by
   simp only [cC] at hc
   have:=MW_sound hE hm c m N mc Q s hc hd h
   intro γ σ w a hr
   refine wpIn_scope_straight (wpIn_mono (this γ σ w a hr) fun e a' w' hl=>?_)
   cases e <;> simp only [lift,Exit.noGoto] at * <;> exact hl
 | .goto _,_,_,_,_,_,hc,_,_=>by simp [cC] at hc
 | .refuse _,_,_,_,_,_,hc,_,_=>by simp [cC] at hc
 | .rangeFunc f ps x y,m,N,mc,Q,s,hc,hd,h=>by
   simp only [dstsBelow,Bool.and_eq_true] at hd
   simp only [cC] at hc
   split at hc
   · rename_i mf mx my hf hx hy
     cases hc
     obtain ⟨hro,fr',hfr,h⟩:=h
     intro γ σ w a hr
     refine wpIn_rangeFunc fun fn _=>?_
     have h1:=h fn x y fun id fr2 args H Q2 hH hl hr2=>round_sound (E:=E) (x:=mx) (y:=my) (n:=N.n) (fun p hp=>by
      have:=hd.1.1;rw [Array.all_eq_true'] at this;simpa using this p hp)
      (fun m2 N2 Q s hN hh=>MW_sound hE hm x m2 N2 mx Q s hx (by rw [hN];exact hd.1.2) hh) (fun m2 N2 Q s hN hh=>MW_sound hE hm y m2 N2 my Q s hy (by rw [hN];exact hd.2) hh) hH hl hr2
     clear h
     have hv:=repV_ev hr.fr f
     rw [cV_ev hf] at hv
     revert h1
     split
     case h_2=>intro h;exact h.elim
     rename_i g first caps hmf
     intro h1
     rw [hmf] at hv
     obtain ⟨fv,cv,hv,hv1,hv2⟩:=hv
     have hro2:(FW N.ro).round=none:=hro
     rw [hro2,run_enterLoop_outer]
     obtain ⟨hia,sta⟩:=hr.inv.alloc0 (m:=m) (.deferred (some []))
     have hDn:γ w.heap.size=none:=by
      cases hg:γ w.heap.size with
      | none=>rfl
      | some o=>have:=hr.inv.gm_lt hg;omega
     have hDb:¬ Blks σ w.heap.size:=fun ⟨i,c,hs⟩=>by have:=(hr.inv.own i _ c hs).2;omega
     obtain ⟨hib,stb⟩:=hia.alloc (m:=m) (.loop { state:=.ready,pending:=none,fn:=fn,tmps:=a.tmps,params:=ps,assign:=x,body:=y,defers:=w.heap.size }) (.loop .ready none fr' N.n fn ps x y) 0
      ⟨a.tmps,w.heap.size,heap_alloc_at _ _,fun t=>by
        rcases hfr t with e | e <;> rw [e]
        · simp [RepV]
        · exact RepV.mono (fun _ _ h=>h) _ _ _ _ (Sg.le_append _ _) (hr.fr t),hr.size⟩
     have hbase:N.base≤w.heap.size:=hr.defers.base
     have hds:DefOk N.base γ (σ++[some (some (w.alloc (.deferred (some []))).heap.size,0)]) ((w.alloc (.deferred (some []))).alloc (.loop { state:=.ready,pending:=none,fn:=fn,tmps:=a.tmps,params:=ps,assign:=x,body:=y,defers:=w.heap.size }))
      ([{ target:=.collected w.heap.size,args:=#[] }]++a.defers):=by
      refine DefOk.step stb ⟨⟨w.heap.size,rfl,hbase,hDb,hDn,heap_alloc_at _ _,?_⟩,hr.defers.step sta⟩
      intro d' hd' e
      subst e
      have:=hr.defers.lt hd'
      omega
     have hargs:RepVs γ (σ++[some (some (w.alloc (.deferred (some []))).heap.size,0)]) (first++[.yld s.H.length]++caps) (fv++[.func (.yield (w.heap.size+1)) #[] #[]]++cv):=by
      refine RepVs.append (RepVs.append (RepVs.mono (fun _ _ h=>h) _ _ _ _ (Sg.le_append _ _) hv1) ?_) (RepVs.mono (fun _ _ h=>h) _ _ _ _ (Sg.le_append _ _) hv2)
      refine repVs_cons.2 ⟨_,[],rfl,⟨some (some (w.alloc (.deferred (some []))).heap.size,0),by rw [← hr.inv.len];simp,rfl,fun b c e=>by cases e;simp⟩,by simp [RepVs]⟩
     obtain ⟨⟨gfn,hg1,hg2,hg3⟩,hcall⟩:=h1
     refine ⟨w.heap.size+1,_,((w.alloc (.deferred (some []))).alloc (.loop { state:=.ready,pending:=none,fn:=fn,tmps:=a.tmps,params:=ps,assign:=x,body:=y,defers:=w.heap.size })),{ target:=.fn (.func g) cv.toArray,args:=fv.toArray ++ #[Value.func (.yield (w.heap.size+1)) #[] #[]] },((w.alloc (.deferred (some []))).alloc (.loop { state:=.ready,pending:=none,fn:=fn,tmps:=a.tmps,params:=ps,assign:=x,body:=y,defers:=w.heap.size })),g,(fv++[Value.func (.yield (w.heap.size+1)) #[] #[]]++cv).toArray,((w.alloc (.deferred (some []))).alloc (.loop { state:=.ready,pending:=none,fn:=fn,tmps:=a.tmps,params:=ps,assign:=x,body:=y,defers:=w.heap.size })),rfl,?_,fun _ _=>trivial,?_,fun h=>(by cases h),?_⟩
     · simp only [resolve,hv]
       simp [go_sem]
     · simp only [invoke,callFunc,run_program,hg1,hg2,hg3,Bool.false_eq_true,if_false,Sem.run_bind,Result.andThen_ok]
       simp
     · refine callsIn_FW ((hcall γ _ _ _ hib hargs).mono ?_)
       rintro e w3 ⟨v,γ3,σ3,r,H3,rfl,st3,hi3,_,st,pd,fr2,hH3,hst,s',hent,hq⟩
       obtain ⟨b3,c3,tmps3,D3,hid3,hb3,hf3,hsz3⟩:=loop_entry hi3 hH3
       have hbb:b3=w.heap.size+1:=by
        have hnew:(σ++[some (some (w.alloc (.deferred (some []))).heap.size,0)])[s.H.length]?=some (some (some (w.heap.size+1),0)):=by rw [← hr.inv.len];simp
        rcases st3.low s.H.length _ (by simp) hnew with e | e <;> rw [hid3] at e <;> cases e
        rfl
       subst hbb
       refine ⟨pd,_,run_endLoop hb3 hst,?_⟩
       obtain ⟨hi4,st4⟩:=hi3.touch (m:=m) hid3 (w':=w3.putObj (w.heap.size+1) (.loop { state:=.exhausted,pending:=pd,fn:=fn,tmps:=tmps3,params:=ps,assign:=x,body:=y,defers:=D3 })) (by simp) (fun b' hb'=>World.putObj_heap_other hb') rfl rfl rfl (o':=.lost) (repO_lost _)
       have st3':Step m γ (σ++[some (some (w.alloc (.deferred (some []))).heap.size,0)]) _ γ3 σ3 w3:=⟨st3.le,st3.size,st3.keep,st3.own,st3.os,st3.tape,st3.output,st3.drawn,fun i en _ hen=>st3.low i en (by have:=(List.getElem?_eq_some_iff.1 hen).1;rw [hib.len] at this;exact this) hen⟩
       have hall:=((sta.trans stb).trans st3').trans st4
       have hle:Sg.le σ σ3:=fun i en hen=>by
        have h5:(σ++[some (some (w.alloc (.deferred (some []))).heap.size,0)])[i]?=some en:=by rw [List.getElem?_append_left (List.getElem?_eq_some_iff.1 hen).1];exact hen
        exact st3.low i en (by have:=(List.getElem?_eq_some_iff.1 h5).1;rw [hib.len] at this;exact this) h5
       obtain ⟨γ5,σ5,st5,r5⟩:=hent γ3 σ3 _ { a with defers:=[{ target:=.collected w.heap.size,args:=#[] }]++a.defers } ⟨hi4,repF_mono hr.fr (sta.trans (stb.trans st3')).le hle,hds.step (st3'.trans st4),hr.size⟩
       cases pd with
       | none=>exact ⟨γ5,σ5,s',hall.trans st5,r5,hq⟩
       | some c=>cases c <;> first | exact hq.elim | exact wpIn_ret ⟨γ5,σ5,s',hall.trans st5,r5,hq⟩ | exact wpIn_exit ⟨γ5,σ5,s',hall.trans st5,r5,hq⟩
   · cases hc
end
theorem F_wide:FW none=Fence.wide:=rfl
section
variable {E:Env} {m:Nat} {N:FN}
theorem acalls_of_MW (hE : E.ok) (hm : E.P.follows .mixedOrders = true) {f : FuncId} {fn : Func} {c : Code} {mc : MC} {args : List AV} {H : List AObj} {Q : AV → List AObj → Prop} (hf : E.P.funcs[f]? = some fn) (hb : fn.body = some c) (hn : (fn.name == "runtime.NumGoroutine") = false)
 (hargs:args.length≤fn.ntmps) (hd:dstsBelow fn.ntmps c=true) (hc:cC E c=some mc) (h:∀ N:FN,N.n=fn.ntmps→N.ro=none→MW E.P H.length N mc (endQ E fn.results.toList Q) ⟨frOf 0 args,H⟩):ACalls E.P f args H Q:=by
 refine ⟨⟨fn,hf,hn,by simp [hb]⟩,fun γ σ w vs hi hv=>?_⟩
 have hlen:=hv.length
 refine callsIn_wide.1 (F_wide ▸ callsIn_of_wp_marks (F:=FW none) (n:=0) hf hb trivial ?_)
 have hrep:Rep { n:=fn.ntmps,base:=w.heap.size } γ σ w { tmps:=vs.toArray++Array.replicate (fn.ntmps - vs.toArray.size) undef,defers:=[] } ⟨frOf 0 args,H⟩:=by
  refine ⟨hi,fun t=>?_,Nat.le_refl _,by simp;omega⟩
  simp only [get_frOf,Nat.zero_le,if_true,Nat.sub_zero]
  cases hx:args[t]? with
  | none=>simp [RepV]
  | some x =>
    obtain ⟨v,h1,h2⟩:=hv.get t x hx
    have:=(List.getElem?_eq_some_iff.1 h1).1
    simp only [Option.getD_some,Array.getD_eq_getD_getElem?]
    rw [Array.getElem?_append_left (by simpa using this)]
    simpa [h1] using h2
 refine wpIn_mono (MW_sound hE hm c _ { n:=fn.ntmps,base:=w.heap.size } mc _ _ hc hd (h _ rfl rfl) γ σ w _ hrep) fun e a' w' hl=>?_
 have fin:(∃ γ' σ' s',Step H.length γ σ w γ' σ' w'∧Rep { n:=fn.ntmps,base:=w.heap.size } γ' σ' w' a' s'∧endQ.optR (resA E s' fn.results.toList) fun xs=>Q (tupA xs) s'.H) →
  LeavesInM (FW none) 0 E.P fn a'.tmps (fun e w'=>∃ v γ' σ' r H',e=.returned v∧Step H.length γ σ w γ' σ' w'∧Inv γ' σ' w' H'∧RepV γ' σ' r v∧Q r H') a'.defers .returning w':=by
  rintro ⟨γ',σ',s',hst,hr,hq⟩
  unfold endQ.optR at hq
  split at hq
  · rename_i xs hxs
    refine leaves_marks a'.defers w' hr.inv hst hr.defers fun w2 hi2 hst2=>?_
    obtain ⟨us,h1,h2⟩:=resA_run hE hi2 hr.fr _ _ hxs
    refine ⟨if h:us.toArray.size=1 then us.toArray[0] else .tuple us.toArray,?_,_,γ',σ',tupA xs,s'.H,rfl,hst2,hi2,?_,hq⟩
    · rw [results_eq,Array.mapM_eq_mapM_toList]
      simp only [Sem.run_bind,Sem.run_map,h2,Result.andThen_ok,Sem.run_pure]
    · have hul:=h1.length
      cases xs with
      | nil=>simp at hul;subst hul;exact ⟨[],rfl,h1⟩
      | cons x xs =>
        cases xs with
        | nil =>
          obtain ⟨u,us',rfl,h3,h4⟩:=repVs_cons.1 h1
          rw [repVs_nil] at h4;subst h4
          simpa [tupA] using h3
        | cons y ys =>
          rw [dif_neg (by simp [hul])]
          exact ⟨us,rfl,h1⟩
  · exact hq.elim
 cases e <;> simp only [lift,bodyPostM] at hl ⊢
 · exact fin hl
 · obtain ⟨_,_,_,_,_,hq⟩:=hl;exact hq.elim
 · exact fin hl
end
end Go.Al
