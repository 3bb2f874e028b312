/-
 A part of the proof: see the text of the law.
-/
import Derived.Test.YtchlampphcaomaaGreatDoorAlphaB
import Derived.TacticsIn
set_option linter.unusedSimpArgs false
set_option linter.unusedVariables false
namespace Go.Al
section
variable {E:Env} {X:Act→World→Prop} {m:Nat} {N:FN} {γ:Gm} {σ:Sg} {w:World} {a:Act} {s:AS} {K:AS→Prop} {next:Act→World→Prop} {Q:Exit→Act→World→Prop} {o:Oper}
theorem s_store_ep {T:TypeId} {p x:Operand} {i:TInfo} {cs xs:List AV} {id sz n off:Nat} {E':TypeId} {y y':AV} (ho:o.op=.store T p x) (hE:E.ok) (hT:E.TI T=some i) (hc:cellsO (ev s.fr x)=some cs) (hl:cs.length=i.size)
 (hp:ev s.fr p=.ep id sz n off) (hH:s.H[id]?=some (.arr E' sz xs)) (hy:xs[n]?=some y) (hfit:off+i.size≤sz)
 (hy':∀ u ns,RepV γ σ y u→okEl sz u→RepVs γ σ cs ns→(∀ z ∈ ns,onec z)→(a.eval x).cells.toList=ns→∃ u',RepV γ σ y' u'∧okEl sz u'∧u'.cells.toList=u.cells.toList.take off++ns++u.cells.toList.drop (off+ns.length))
 (hr:Rep N γ σ w a s) (hd:∀ d,o.dst=some d→d<N.n) (hX:∀ w' v,ExtL σ [id] w w'→X (a.put o.dst v) w') (hk:Cont X m N γ σ w K next)
 (hK:K (AS.put ⟨s.fr,s.H.set id (.arr E' sz (xs.set n y'))⟩ o.dst .junk)):o.wp E.P a w next Q:=by
 obtain ⟨h1,h2⟩:=cellsO_spec (repV_ev hr.fr x) hc
 have hv:=repV_ev hr.fr p
 rw [hp] at hv
 obtain ⟨en,hen,_,h4⟩:=hv
 obtain ⟨blk,cap,vs,hen',hvs,hok,h0,hcap,hown⟩:=arr_entry hr.inv hH
 rw [hen] at hen';cases hen'
 obtain ⟨u,hu,hyu⟩:=hvs.get n y hy
 have hlen:(a.eval x).cells.toList.length=i.size:=by rw [h1.length];exact hl
 obtain ⟨u',hu1,hu2,hu3⟩:=hy' u _ hyu (hok u (List.mem_of_getElem? hu)) h1 h2 rfl
 have hnlt:=(List.getElem?_eq_some_iff.1 hy).1
 have hvl:=hvs.length
 have hne:flat vs≠[]:=by
  intro hz
  have hfl:=flat_length hok
  rw [hz,hvl] at hfl
  simp only [List.length_nil] at hfl
  have:0<xs.length * sz:=Nat.mul_pos (by omega) h0
  omega
 obtain ⟨hfl,hrow⟩:=hown
 rcases hrow with ⟨hz,hz2⟩ | ⟨g,cap',cur,hv,_,hg,hnc,hcm,hcs,htake⟩
 · omega
 · cases blk with
   | none=>simp at hv
   | some b =>
     simp only [Option.map_some,Value.slice.injEq,Option.some.injEq,Addr.mk.injEq] at hv
     obtain ⟨⟨rfl,_⟩,_,rfl⟩:=hv
     have hpv:=h4 b cap rfl
     have hin:n * sz+off+i.size≤xs.length * sz:=by
      have:(n+1) * sz≤xs.length * sz:=Nat.mul_le_mul_right _ (by omega)
      rw [Nat.add_mul,Nat.one_mul] at this
      omega
     have hin2:xs.length * sz≤cur.size:=by rw [hcs];exact Nat.mul_le_mul_right _ hnc
     have hst:=store_run (off:=n * sz+off) (hE T i hT) hg h2 hlen (by omega)
     refine done_skip hr hd hk (w':=w.setRow b (cur.toList.take (n * sz+off)++(a.eval x).cells.toList++cur.toList.drop (n * sz+off+(a.eval x).cells.toList.length)).toArray) ?_ (hX _ _ fun b' o' hb' hne=>by rw [setRow_other _ _ _ _ (fun e=>hne id (by simp) cap (by rw [e];exact hen))];exact hb') (hr.inv.touch hen (by simp) (fun b' hb'=>setRow_other _ _ _ _ hb') rfl rfl rfl (o':=.arr E' sz (xs.set n y')) (repO_arr.2 ?_)) (Sg.le_refl _) hK
     · simp only [execOp,ho,Sem.run_bind,hpv,hst,Result.andThen_ok,Sem.run_pure]
     · refine ⟨vs.set n u',RepVs.set hu1 n hvs,fun z hz=>?_,h0,by simpa using hcap,?_⟩
       · rcases List.mem_or_eq_of_mem_set hz with h | h
         · exact hok z h
         · rw [h];exact hu2
       · have hsp:=flat_splice hok hu hu3 (by omega)
         simp only [List.length_set]
         refine ⟨?_,.inr ⟨b,cap,_,rfl,Nat.zero_le _,setRow_eq _ _ _ _ _ hg,hnc,hcm,?_,?_⟩⟩
         · rw [flat_length (sz:=sz) fun z hz=>by
            rcases List.mem_or_eq_of_mem_set hz with h | h
            · exact hok z h
            · rw [h];exact hu2]
           simp [hvl]
         · have hlen':(a.eval x).cells.size=i.size:=by simpa using hlen
           simp only [List.size_toArray,List.length_append,List.length_take,List.length_drop,Array.length_toList]
           omega
         · rw [hsp,← htake]
           exact take_splice _ _ _ _ (by omega) (by simpa using hin2)
theorem s_mkl {T e:TypeId} {n:Nat} {parts:Array (Nat × Operand)} {ti ei:TInfo} {ps:List (Nat × MV)} {xs:List AV} (ho:o.op=.buildSlice T n parts) (hE:E.ok) (hT:E.TI T=some ti) (hds:ti.desc=.slice e) (he:E.TI e=some ei) (hps:cParts1 parts.toList=some ps)
 (hxs:fillE ei.size (List.replicate n (ofCells ei.agg (ei.zero.map ofV))) (ps.map fun p=>(p.1,mv s.fr p.2))=some xs) (h0:0<ei.size) (h1:n * ei.size≤16777216)
 (hr:Rep N γ σ w a s) (hd:∀ d,o.dst=some d→d<N.n) (hX:∀ w' v,ExtL σ [] w w'→X (a.put o.dst v) w') (hk:Cont X m N γ σ w K next)
 (hK:K (AS.put ⟨s.fr,s.H++[.arr e ei.size xs]⟩ o.dst (.slc s.H.length ei.size n))):o.wp E.P a w next Q:=by
 obtain ⟨inf,z,hi1,hi2,hi3,hi4,hzs,hz⟩:=repV_zero (E:=E) (hE e ei he)
 have hun:=(hE T ti hT).slice hds
 have hzz:RepVs γ σ (List.replicate n (ofCells ei.agg (ei.zero.map ofV))) (List.replicate n z):=by
  have:=RepVs.map (γ:=γ) (σ:=σ) (f:=fun _:Nat=>ofCells ei.agg (ei.zero.map ofV)) (g:=fun _=>z) (l:=List.range n) (fun _ _=>hz _ _)
  simpa [List.map_const'] using this
 have hzok:∀ u ∈ List.replicate n z,okEl ei.size u:=fun u hu=>by rw [(List.mem_replicate.1 hu).2];exact hzs
 have hcells:((Array.range (n * ei.size)).map (z.cells[· % z.cells.size]!)).toList=flat (List.replicate n z):=by
  apply List.ext_getElem?
  intro j
  have hfl:=flat_length hzok
  simp only [List.length_replicate] at hfl
  by_cases hj:j<n * ei.size
  · rw [flat_replicate_get hzs h0 hj]
    have hzsz:z.cells.size=ei.size:=hzs.1
    have hlt:j % ei.size<z.cells.size:=by rw [hzsz];exact Nat.mod_lt _ h0
    simp [hj,hzsz]
    have:j % ei.size<z.cells.size:=hlt
    simp [this]
  · rw [List.getElem?_eq_none (by simp;omega),List.getElem?_eq_none (by omega)]
 obtain ⟨us,r,e1,e2,e3,e4,e5⟩:=fillE_spec (a:=a) hr.fr parts.toList ps _ _ _ xs hps hzz hzok hcells hxs
 simp only [List.length_replicate] at e5
 have hul:=e2.length
 by_cases hn:n=0
 · subst hn
   have hx0:xs=[]:=List.eq_nil_of_length_eq_zero e5
   subst hx0
   have hu0:us=[]:=List.eq_nil_of_length_eq_zero (by simpa using hul)
   subst hu0
   have hr0:r = #[]:=by apply Array.ext';simpa [flat] using e4
   subst hr0
   refine done_value (u:=.slice (some ⟨w.heap.size,0,none⟩) 0 0) hr hd hk (w':=w.alloc (.cells #[] e)) ?_ (hX _ _ (extL_alloc _ _ _)) (hr.inv.alloc _ (.arr e ei.size []) 0 (repO_arr.2 ⟨[],by simp [RepVs],by simp,h0,by simp,by simp [flat],.inr ⟨w.heap.size,0,#[],by simp,by omega,heap_alloc_at _ _,by simp,by simp [maxLen],by simp,by simp [flat]⟩⟩)) (Sg.le_append _ _) ?_ hK
   · have e1':Instr.fill (fun i=>some (i * ei.size,ei.size)) #[] (parts.map fun p=>(p.1,a.eval p.2)).toList=some #[]:=by
      have he:(Array.range (0 * ei.size)).map (z.cells[· % z.cells.size]!) = #[]:=by simp
      rw [he] at e1
      simpa using e1
     have hrun:(Instr.buildSlice T 0 (parts.map fun p=>(p.1,a.eval p.2))).run E.P w=.ok (.slice (some ⟨w.heap.size,0,none⟩) 0 0) (w.alloc (.cells #[] e)):=by
      simp [Instr.buildSlice,run_underlying hun,sizeOf,typeInfo,zeroValue,hi1,hi2,hi4,newRow]
      rw [Array.toList_map] at e1'
      rw [show (Array.range 0).map (fun _=>(default:Value)) = #[] from by simp,e1']
      rfl
     simp only [execOp,ho,Sem.run_bind,hrun,Result.andThen_ok,Sem.run_pure]
   · rw [← hr.inv.len]
     exact slc_new σ γ (some w.heap.size) _ _ _ (by omega) (by simp [maxLen])
 · have hrun:=run_buildSlice (P:=E.P) w T e n (parts.map fun p=>(p.1,a.eval p.2)) r inf z hun hi1 hi4 (by rw [hi2];omega) (by rw [hi2];have:=Nat.mul_pos (Nat.pos_of_ne_zero hn) h0;omega) (by rw [hi2];simpa using e1)
   have hnm:n≤maxLen:=by
    have:n * 1≤n * ei.size:=Nat.mul_le_mul_left _ h0
    simp only [maxLen];omega
   have hrs:r.size=n * ei.size:=by
    have:=flat_length e3
    rw [← e4] at this
    simp only [Array.length_toList] at this
    rw [this,hul,e5]
   refine done_value (u:=.slice (some ⟨w.heap.size,0,none⟩) n n) hr hd hk (w':=w.alloc (.cells r e)) ?_ (hX _ _ (extL_alloc _ _ _)) (hr.inv.alloc _ (.arr e ei.size xs) n (repO_arr.2 ⟨us,RepVs.mono (fun _ _ h=>h) _ _ _ _ (Sg.le_append _ _) e2,e3,h0,by omega,?_⟩)) (Sg.le_append _ _) ?_ hK
   · simp only [execOp,ho,Sem.run_bind,hrun,Result.andThen_ok,Sem.run_pure]
   · rw [e5]
     refine ⟨by rw [← e4];simp [hrs],.inr ⟨w.heap.size,n,r,by simp,by omega,heap_alloc_at _ _,Nat.le_refl _,hnm,hrs,?_⟩⟩
     rw [List.take_of_length_le (by simp [hrs]),e4]
   · rw [← hr.inv.len]
     exact slc_new σ γ (some w.heap.size) _ _ _ (by omega) hnm
theorem Inv.frozen {m:Nat} {γ:Gm} {σ:Sg} {w:World} {H:List AObj} (hi:Inv γ σ w H) (o:Obj):∃ γ':Gm,γ.le γ'∧γ' w.heap.size=some o∧Inv γ' σ (w.alloc o) H∧Step m γ σ w γ' σ (w.alloc o):=by
 refine ⟨fun b=>if b=w.heap.size then some o else γ b,?_,if_pos rfl,?_,?_⟩
 · intro b o' hb
   show (if b=w.heap.size then some o else γ b)=some o'
   rw [if_neg (fun h=>by have h1:=hi.mem b o' hb;have h2:=lt_of_block h1;omega)]
   exact hb
 · have hg:γ.le (fun b=>if b=w.heap.size then some o else γ b):=by
    intro b o' hb
    show (if b=w.heap.size then some o else γ b)=some o'
    rw [if_neg (fun h=>by have h1:=hi.mem b o' hb;have h2:=lt_of_block h1;omega)]
    exact hb
   refine ⟨fun b o' hb=>?_,fun i b c hs=>?_,hi.inj,hi.len,fun i o' en ho he=>?_,hi.glob.mono hg⟩
   · have hb':(if b=w.heap.size then some o else γ b)=some o':=hb
     by_cases h:b=w.heap.size
     · rw [if_pos h] at hb'
       rw [h,heap_alloc_at];exact hb'
     · rw [if_neg h] at hb'
       have h1:=hi.mem b o' hb'
       rw [heap_alloc_lt _ _ (lt_of_block h1)];exact h1
   · obtain ⟨h1,h2⟩:=hi.own i b c hs
     refine ⟨?_,by show b<(w.heap.push _).size;simp;omega⟩
     show (if b=w.heap.size then some o else γ b)=none
     rw [if_neg (by omega)];exact h1
   · refine (hi.obj i o' en ho he).mono hg (Sg.le_refl _) fun b c hb=>?_
     subst hb
     exact heap_alloc_lt _ _ (hi.own i b c he).2
 · refine ⟨?_,by show w.heap.size≤(w.heap.push _).size;simp,fun b hb hnb=>⟨heap_alloc_lt _ _ hb,?_⟩,fun b h=>.inl h,rfl,rfl,rfl,Nat.le_refl _,fun i en _ h=>.inl h⟩
   · intro b o' hb
     show (if b=w.heap.size then some o else γ b)=some o'
     rw [if_neg (fun h=>by have h1:=hi.mem b o' hb;have h2:=lt_of_block h1;omega)]
     exact hb
   · show (if b=w.heap.size then some o else γ b)=γ b
     rw [if_neg (by omega)]
theorem s_append_full {args:Array Operand} {ats:Array TypeId} {t e:TypeId} {x y:Operand} {ti ei:TInfo} {xs ys:List AV} (ho:o.op=.call { callee:=.builtin .append,args,argTypes:=ats })
 (hts:ats.toList=[t,t]) (has:args.toList=[x,y]) (hE:E.ok) (hT:E.TI t=some ti) (hdd:ti.desc=.slice e) (he:E.TI e=some ei) (hx:ev s.fr x=.full ei.size xs) (hys:srcOf s.H ei.size (ev s.fr y)=some ys) (hsc:scL 0 ys=true)
 (h0:0<ei.size) (h63:xs.length+ys.length≤maxLen) (hb:(xs.length+ys.length) * ei.bytes≤140737488355328)
 (hr:Rep N γ σ w a s) (hd:∀ d,o.dst=some d→d<N.n) (hX:∀ w' v,ExtL σ [] w w'→X (a.put o.dst v) w') (hk:Cont X m N γ σ w K next)
 (hK:K (AS.put ⟨s.fr,s.H⟩ o.dst (.view ei.size (xs++ys)))):o.wp E.P a w next Q:=by
 have hvx:=repV_ev hr.fr x
 rw [hx] at hvx
 obtain ⟨ad1,n,vs,hvx,hvs,hvl,hnm,hvok,hvc⟩:=hvx
 obtain ⟨ad,k,c,us,hvy,hkl,hus,huok,hcell⟩:=srcOf_spec hr.inv hys (repV_ev hr.fr y)
 obtain ⟨inf,z,hi1,hi2,hi3,hi4,hzs,_⟩:=repV_zero (E:=E) (hE e ei he)
 have hun:=(hE t ti hT).slice hdd
 have hul:=hus.length
 have hxl:=hvs.length
 have hus0:RepVs γ [] ys us:=RepVs.sc (σ':=[]) (fun i hi=>by omega) _ _ hsc hus
 have hsmall:n+k≤9223372036854775807:=by simp only [maxLen] at h63;omega
 have hargs:∀ v w',(Builtin.append_ #[t,t] o.type #[.slice ad1 n n,.slice ad k c]).run E.P w=.ok v w'→(execOp a.eval o).run E.P w=.ok (.value v) w':=fun v w' h=>by
  rw [execOp_call_builtin _ _ _ _ _ ho,builtin,evArgs has,show ats = #[t,t] from Array.ext' (by simpa using hts),hvx,hvy]
  simp only [Sem.run_bind,h,Result.andThen_ok,Sem.run_pure]
 by_cases hk0:k=0
 · subst hk0
   have hy0:ys=[]:=List.eq_nil_of_length_eq_zero (by omega)
   subst hy0
   have hu0:us=[]:=List.eq_nil_of_length_eq_zero (by simpa using hul)
   subst hu0
   refine done_value (x:=.view ei.size (xs++[])) (u:=.slice ad1 n n) hr hd hk (w':=w) (hargs _ _ ?_) (hX _ _ (ExtL.refl _ _ _)) ⟨hr.inv,.refl _ _ _⟩ (Sg.le_refl _) ⟨ad1,n,n,vs,rfl,by simpa using hvs,hvl,Nat.le_refl _,hnm,hvok,hvc⟩ hK
   cases ad1 <;> cases ad <;> simp [Builtin.append_,run_underlying hun,sizeOf,typeInfo,hi1,Builtin.lenOf,Builtin.firstCells,loadCells,loadCellsFrom,storeCells]
 · obtain ⟨b2,rfl,hb2⟩:=hcell hk0
   have hnl:(flat us).length=k * inf.size:=by rw [flat_length huok,hul,hkl,hi2]
   have hge:=grownCap_ge w (n+k) n e
   have hcm:grownCap w (n+k) n e≤maxLen:=grownCap_le_maxLen w (n+k) n e (by omega)
   have hrun:∃ Z:Array Value,(Builtin.append_ #[t,t] o.type #[.slice ad1 n n,.slice (some b2) k c]).run E.P w=.ok (.slice (some ⟨w.heap.size,0,none⟩) (n+k) (grownCap w (n+k) n e)) (w.drew.alloc (.cells ((flat vs).toArray++(flat us).toArray++Z) e)):=by
    cases ad1 with
    | none =>
      have hn0:n=0:=by
       rcases Nat.eq_zero_or_pos n with h | h
       · exact h
       · obtain ⟨_,_,h1,_⟩:=hvc (by omega);cases h1
      subst hn0
      have hv0:vs=[]:=List.eq_nil_of_length_eq_zero hvl
      subst hv0
      have hr:=run_append_nil (P:=E.P) w t o.type e inf z hun hi1 hi4 b2 k c (flat us) hnl hb2 (by omega) (by omega) (by have h1:xs.length=0:=(by simpa using hxl.symm);rw [h1,Nat.zero_add] at hb;rw [hkl,hi3];exact Nat.le_trans hb (by decide))
      simp only [Nat.zero_add]
      exact ⟨Builtin.zeroCells z.cells (grownCap w k 0 e - k),by rw [hr];simp [flat]⟩
    | some b1 =>
      have holds:∀ (j:Nat) u,(flat vs)[j]?=some u→w.cell? (b1.add j)=some u:=by
       intro j u hj
       have hn0:n≠0:=by
        rintro rfl
        have hv0:vs=[]:=List.eq_nil_of_length_eq_zero hvl
        subst hv0
        simp [flat] at hj
       obtain ⟨b,off,h1,hc⟩:=hvc hn0
       cases h1
       rw [addr_add]
       exact cellsAt_cell (hc.mono (hr.inv.mem b)) j u hj
      exact ⟨_,run_append_grow (P:=E.P) w t o.type e inf z hun hi1 hi4 b1 n n (flat vs) (by rw [flat_length hvok,hvl,hi2]) holds b2 k c (flat us) hnl hb2 (by omega) (by omega) (growslice_fits (by omega) (by rw [hi3,← hvl,hxl,hkl];exact hb))⟩
   obtain ⟨Z,hrun⟩:=hrun
   obtain ⟨γ',hg,hat,hi2',hst⟩:=hr.inv.drew.frozen (m:=m) (.cells ((flat vs).toArray++(flat us).toArray++Z) e)
   have hst':Step m γ σ w γ' σ (w.drew.alloc (.cells ((flat vs).toArray++(flat us).toArray++Z) e)):=(Step.drew γ σ w).trans hst
   refine done_value (γ':=γ') (σ':=σ) (x:=.view ei.size (xs++ys)) hr hd hk (w':=w.drew.alloc (.cells ((flat vs).toArray++(flat us).toArray++Z) e)) (hargs _ _ hrun) (hX _ _ fun b o hb hne=>?_) ⟨hi2',hst'⟩ (Sg.le_refl _) ⟨_,n+k,_,vs++us,rfl,RepVs.append (RepVs.mono hg _ _ _ _ (Sg.le_refl _) hvs) (RepVs.mono hg _ _ _ _ (Sg.le_refl _) hus0),by simp [hvl,hul,hkl],hge,hcm,fun u hu=>?_,fun _=>⟨w.heap.size,0,rfl,_,e,(0,0),hat,fun j u hj=>?_⟩⟩ hK
   · rw [heap_alloc_lt w.drew _ (lt_of_block hb)];exact hb
   · rcases List.mem_append.1 hu with hu | hu
     · exact hvok u hu
     · exact huok u hu
   · rw [flat_append] at hj
     have hlt:=(List.getElem?_eq_some_iff.1 hj).1
     rw [Nat.zero_add,← Array.getElem?_toList]
     simp only [Array.toList_append]
     rw [List.getElem?_append_left hlt]
     exact hj
theorem flat_drop {sz:Nat}:∀ {vs:List Value} {n:Nat},(∀ u ∈ vs,okEl sz u)→flat (vs.drop n)=(flat vs).drop (n * sz)
 | [],n,_=>by simp [flat]
 | v::vs,0,_=>by simp
 | v::vs,n+1,h=>by
   have hv:v.cells.toList.length=sz:=by rw [Array.length_toList];exact (h v (by simp)).1
   have ih:=flat_drop (vs:=vs) (n:=n) (fun u hu=>h u (by simp [hu]))
   have e1:flat (v::vs)=v.cells.toList++flat vs:=rfl
   have e2:v.cells.toList.drop ((n+1) * sz)=[]:=List.drop_eq_nil_of_le (by rw [hv,Nat.add_mul];omega)
   rw [List.drop_succ_cons,ih,e1,List.drop_append,e2,hv,Nat.add_mul,Nat.one_mul,Nat.add_sub_cancel,List.nil_append]
theorem zero_flat {sz n:Nat} {z:Value} (hz:okEl sz z) (h0:0<sz):(Builtin.zeroCells z.cells n).toList=flat (List.replicate n z):=by
 have hzok:∀ u ∈ List.replicate n z,okEl sz u:=fun u hu=>by rw [(List.mem_replicate.1 hu).2];exact hz
 have hfl:=flat_length hzok
 simp only [List.length_replicate] at hfl
 have hzsz:z.cells.size=sz:=hz.1
 apply List.ext_getElem?
 intro j
 by_cases hj:j<n * sz
 · rw [flat_replicate_get hz h0 hj]
   have hlt:j % sz<z.cells.size:=by rw [hzsz];exact Nat.mod_lt _ h0
   simp [Builtin.zeroCells,hzsz,hj]
   rw [getElem!_pos z.cells (j % sz) hlt]
   simp [hlt]
 · rw [List.getElem?_eq_none (by simp [Builtin.zeroCells,hzsz];omega),List.getElem?_eq_none (by omega)]
theorem s_clr {args:Array Operand} {ats:Array TypeId} {T e:TypeId} {x:Operand} {ti ei:TInfo} {id n off:Nat} {E':TypeId} {xs:List AV} (ho:o.op=.call { callee:=.builtin .clear,args,argTypes:=ats })
 (hts:ats.toList=[T]) (has:args.toList=[x]) (hE:E.ok) (hT:E.TI T=some ti) (hdd:ti.desc=.slice e) (he:E.TI e=some ei)
 (hvx:RepV γ σ (.sub id ei.size off n) (a.eval x)) (hH:s.H[id]?=some (.arr E' ei.size xs)) (hfit:off+n≤xs.length)
 (hr:Rep N γ σ w a s) (hd:∀ d,o.dst=some d→d<N.n) (hX:∀ w' v,ExtL σ [id] w w'→X (a.put o.dst v) w') (hk:Cont X m N γ σ w K next)
 (hK:K (AS.put ⟨s.fr,s.H.set id (.arr E' ei.size (setAt xs off (List.replicate n (ofCells ei.agg (ei.zero.map ofV)))))⟩ o.dst (.tup []))):o.wp E.P a w next Q:=by
 obtain ⟨blk,cap,ad,hs,hv,hmc,hcm,hadr,_,hob⟩:=sub_value hr.inv hH hvx
 obtain ⟨vs,hvs,hok,h0,hcap,hown⟩:=repO_arr.1 hob
 have hun:=(hE T ti hT).slice hdd
 have hvl:=hvs.length
 obtain ⟨inf,z,hi1,hi2,hi3,hi4,hzs,hz⟩:=repV_zero (E:=E) (hE e ei he)
 have hzz:∀ γ σ,RepVs γ σ (List.replicate n (ofCells ei.agg (ei.zero.map ofV))) (List.replicate n z):=fun γ σ=>by
  have:=RepVs.map (γ:=γ) (σ:=σ) (f:=fun _:Nat=>ofCells ei.agg (ei.zero.map ofV)) (g:=fun _=>z) (l:=List.range n) (fun _ _=>hz _ _)
  simpa [List.map_const'] using this
 have hzok:∀ u ∈ List.replicate n z,okEl ei.size u:=fun u hu=>by rw [(List.mem_replicate.1 hu).2];exact hzs
 have hargs:∀ w',(Builtin.clear_ #[T] o.type #[.slice ad n (cap - off)]).run E.P w=.ok (.tuple #[]) w'→(execOp a.eval o).run E.P w=.ok (.value (.tuple #[])) w':=fun w' h=>by
  have hae:args.map a.eval = #[.slice ad n (cap - off)]:=by apply Array.ext';simp [has,hv]
  rw [execOp_call_builtin _ _ _ _ _ ho,builtin,hae,show ats = #[T] from Array.ext' (by simpa using hts)]
  simp only [Sem.run_bind,h,Result.andThen_ok,Sem.run_pure]
 have htup:RepV γ σ (.tup []) (.tuple #[]):=⟨[],rfl,by simp [RepVs]⟩
 rcases Nat.eq_zero_or_pos n with hn | hn
 · subst hn
   have e1:setAt xs off (List.replicate 0 (ofCells ei.agg (ei.zero.map ofV)))=xs:=by simp [setAt]
   rw [e1] at hK
   have e2:s.H.set id (.arr E' ei.size xs)=s.H:=by
    refine List.ext_getElem? fun i=>?_
    by_cases h:id=i
    · subst h
      rw [List.getElem?_set_self (List.getElem?_eq_some_iff.1 hH).1,hH]
    · rw [List.getElem?_set_ne h]
   rw [e2] at hK
   refine done_value (x:=.tup []) (u:=.tuple #[]) hr hd hk (w':=w) (hargs _ ?_) (hX _ _ (ExtL.refl _ _ _)) ⟨hr.inv,.refl _ _ _⟩ (Sg.le_refl _) htup hK
   cases ad <;> simp [Builtin.clear_,run_underlying hun]
 · obtain ⟨b,rfl,rfl⟩:=hadr (by omega)
   obtain ⟨hfl,hrow⟩:=hown
   rcases hrow with ⟨hz1,_⟩ | ⟨g,cap',cur,hv',_,hg,hnc,hcm',hcs,htake⟩
   · cases hz1
   · simp only [Option.map_some,Value.slice.injEq,Option.some.injEq,Addr.mk.injEq] at hv'
     obtain ⟨⟨rfl,_⟩,_,rfl⟩:=hv'
     have hfz:(flat (List.replicate n z)).length=n * ei.size:=by rw [flat_length hzok];simp
     have hin:off * ei.size+n * ei.size≤xs.length * ei.size:=by rw [← Nat.add_mul];exact Nat.mul_le_mul_right _ hfit
     have hin2:xs.length * ei.size≤cur.size:=by rw [hcs];exact Nat.mul_le_mul_right _ hnc
     have hst:=run_storeCells_at E.P b (off * ei.size) E' (flat (List.replicate n z)) 0 cur w hg (by omega) (flat_onec hzok)
     simp only [Nat.add_zero] at hst
     refine done_value (x:=.tup []) (u:=.tuple #[]) hr hd hk (w':=w.setRow b (cur.toList.take (off * ei.size)++flat (List.replicate n z)++cur.toList.drop (off * ei.size+(flat (List.replicate n z)).length)).toArray) (hargs _ ?_) (hX _ _ fun b' o' hb' hne=>by rw [setRow_other _ _ _ _ (fun e=>hne id (by simp) cap (by rw [e];exact hs))];exact hb') (hr.inv.touch hs (by simp) (fun b' hb'=>setRow_other _ _ _ _ hb') rfl rfl rfl (o':=.arr E' ei.size (setAt xs off (List.replicate n (ofCells ei.agg (ei.zero.map ofV))))) (repO_arr.2 ?_)) (Sg.le_refl _) htup hK
     · obtain ⟨q,rfl⟩:∃ q,n=q+1:=⟨n - 1,by omega⟩
       simp [Builtin.clear_,run_underlying hun,zeroValue,typeInfo,hi1,hi4,zero_flat hzs h0,hst]
     · have hvok:∀ u ∈ vs.take off++List.replicate n z++vs.drop (off+n),okEl ei.size u:=fun u hu=>by
        simp only [List.mem_append] at hu
        rcases hu with (hu | hu) | hu
        · exact hok u (List.mem_of_mem_take hu)
        · exact hzok u hu
        · exact hok u (List.mem_of_mem_drop hu)
       have hrs:=repVs_setAt hvs (hzz γ σ) off
       rw [List.length_replicate] at hrs
       have hsl:(setAt xs off (List.replicate n (ofCells ei.agg (ei.zero.map ofV)))).length=xs.length:=by simp [setAt];omega
       refine ⟨_,hrs,hvok,h0,by rw [hsl];exact hcap,?_⟩
       rw [hsl]
       refine ⟨?_,.inr ⟨b,cap,_,rfl,Nat.zero_le _,setRow_eq _ _ _ _ _ hg,hnc,hcm',?_,?_⟩⟩
       · rw [flat_length hvok,hrs.length,hsl]
       · simp only [List.size_toArray,List.length_append,List.length_take,List.length_drop,Array.length_toList]
         omega
       · rw [flat_append,flat_append,flat_take hok,flat_drop hok,Nat.add_mul,← htake]
         have:=take_splice cur.toList (flat (List.replicate n z)) (off * ei.size) (xs.length * ei.size) (by omega) (by simpa using hin2)
         rw [hfz] at this
         simp only [hfz]
         exact this
theorem s_append_in {args:Array Operand} {ats:Array TypeId} {t e:TypeId} {x y:Operand} {ti ei:TInfo} {id n:Nat} {xs ys:List AV} (ho:o.op=.call { callee:=.builtin .append,args,argTypes:=ats })
 (hts:ats.toList=[t,t]) (has:args.toList=[x,y]) (hE:E.ok) (hT:E.TI t=some ti) (hdd:ti.desc=.slice e) (he:E.TI e=some ei) (hx:ev s.fr x=.sub id ei.size 0 n) (hys:srcOf s.H ei.size (ev s.fr y)=some ys)
 (hH:s.H[id]?=some (.arr e ei.size xs)) (hfit:n+ys.length≤xs.length)
 (hr:Rep N γ σ w a s) (hd:∀ d,o.dst=some d→d<N.n) (hX:∀ w' v,ExtL σ [id] w w'→X (a.put o.dst v) w') (hk:Cont X m N γ σ w K next)
 (hK:K (AS.put ⟨s.fr,s.H.set id (.arr e ei.size (setAt xs n ys))⟩ o.dst (.sub id ei.size 0 (n+ys.length)))):o.wp E.P a w next Q:=by
 have hvx:=repV_ev hr.fr x
 rw [hx] at hvx
 obtain ⟨blk,cap,ad0,hs,hv,hmc,hcm,hadr,hz0,hob⟩:=sub_value hr.inv hH hvx
 rw [hz0 rfl,Nat.sub_zero] at hv
 obtain ⟨vs,hvs,hok,h0,hcap,hown⟩:=repO_arr.1 hob
 obtain ⟨ad,k,c,us,hvy,hkl,hus,huok,hcell⟩:=srcOf_spec hr.inv hys (repV_ev hr.fr y)
 obtain ⟨inf,z,hi1,hi2,hi3,hi4,hzs,_⟩:=repV_zero (E:=E) (hE e ei he)
 have hun:=(hE t ti hT).slice hdd
 have hul:=hus.length
 have hvl:=hvs.length
 have hargs:∀ w' v,(Builtin.append_ #[t,t] o.type #[.slice (blk.map (⟨·,0,none⟩)) n cap,.slice ad k c]).run E.P w=.ok v w'→(execOp a.eval o).run E.P w=.ok (.value v) w':=fun w' v h=>by
  rw [execOp_call_builtin _ _ _ _ _ ho,builtin,evArgs has,show ats = #[t,t] from Array.ext' (by simpa using hts),hv,hvy]
  simp only [Sem.run_bind,h,Result.andThen_ok,Sem.run_pure]
 have hsub:∀ γ,RepV γ σ (.sub id ei.size 0 (n+k)) (.slice (blk.map (⟨·,0,none⟩)) (n+k) cap):=fun γ=>by
  refine ⟨some (blk,cap),hs,rfl,fun b q hb=>?_⟩
  cases hb
  refine ⟨_,rfl,by omega,hcm,fun hc=>?_,fun _=>rfl⟩
  cases blk with
  | none =>
    obtain ⟨hfl,hrow⟩:=hown
    rcases hrow with ⟨hz1,hz2⟩ | ⟨g,cap',cur,hv',_⟩
    · simp only [Option.map_none,Value.slice.injEq] at hz1
      omega
    · simp at hv'
  | some b=>exact ⟨b,rfl,by simp⟩
 rcases Nat.eq_zero_or_pos k with hn | hn
 · subst hn
   have hy0:ys=[]:=List.eq_nil_of_length_eq_zero hkl.symm
   subst hy0
   have e1:setAt xs n ([]:List AV)=xs:=by simp [setAt]
   rw [e1] at hK
   have e2:s.H.set id (.arr e ei.size xs)=s.H:=by
    refine List.ext_getElem? fun i=>?_
    by_cases h:id=i
    · subst h
      rw [List.getElem?_set_self (List.getElem?_eq_some_iff.1 hH).1,hH]
    · rw [List.getElem?_set_ne h]
   rw [e2] at hK
   refine done_value (x:=.sub id ei.size 0 (n+0)) (u:=.slice (blk.map (⟨·,0,none⟩)) (n+0) cap) hr hd hk (w':=w) (hargs _ _ ?_) (hX _ _ (ExtL.refl _ _ _)) ⟨hr.inv,.refl _ _ _⟩ (Sg.le_refl _) (hsub γ) hK
   have hnc:n≤cap:=by omega
   cases blk <;> cases ad <;> simp [Builtin.append_,run_underlying hun,sizeOf,typeInfo,hi1,Builtin.lenOf,Builtin.firstCells,loadCells,loadCellsFrom,storeCells,hnc]
 · obtain ⟨b0,rfl,hb⟩:=hcell (by omega)
   obtain ⟨hfl,hrow⟩:=hown
   rcases hrow with ⟨hz1,hz2⟩ | ⟨g,cap',cur,hv',_,hg,hnc,hcm',hcs,htake⟩
   · cases blk with
     | none =>
       simp only [Option.map_none,Value.slice.injEq] at hz1
       omega
     | some b=>simp at hz1
   · cases blk with
     | none=>simp at hv'
     | some b =>
     simp only [Option.map_some,Value.slice.injEq,Option.some.injEq,Addr.mk.injEq] at hv'
     obtain ⟨⟨rfl,_⟩,_,rfl⟩:=hv'
     have hfz:(flat us).length=k * ei.size:=by rw [flat_length huok,hul,hkl]
     have hin:n * ei.size+k * ei.size≤xs.length * ei.size:=by rw [← Nat.add_mul,hkl];exact Nat.mul_le_mul_right _ hfit
     have hin2:xs.length * ei.size≤cur.size:=by rw [hcs];exact Nat.mul_le_mul_right _ hnc
     have hsz:inf.size=ei.size:=hi2
     have hrun:=run_append_room (P:=E.P) w t o.type e inf hun hi1 b n cap cur hg b0 k c (flat us) (by rw [hsz];exact hfz) hb (flat_onec huok) (by omega) (by rw [hsz,hfz];omega)
     rw [hsz] at hrun
     refine done_value (x:=.sub id ei.size 0 (n+ys.length)) (u:=.slice (some ⟨b,0,none⟩) (n+k) cap) hr hd hk (hargs _ _ hrun) (hX _ _ fun b' o' hb' hne=>by rw [setRow_other _ _ _ _ (fun e=>hne id (by simp) cap (by rw [e];exact hs))];exact hb') (hr.inv.touch hs (by simp) (fun b' hb'=>setRow_other _ _ _ _ hb') rfl rfl rfl (o':=.arr e ei.size (setAt xs n ys)) (repO_arr.2 ?_)) (Sg.le_refl _) (by rw [← hkl];exact hsub _) hK
     have hvok:∀ u ∈ vs.take n++us++vs.drop (n+us.length),okEl ei.size u:=fun u hu=>by
      simp only [List.mem_append] at hu
      rcases hu with (hu | hu) | hu
      · exact hok u (List.mem_of_mem_take hu)
      · exact huok u hu
      · exact hok u (List.mem_of_mem_drop hu)
     have hrs:=repVs_setAt hvs hus n
     have hsl:(setAt xs n ys).length=xs.length:=by simp [setAt];omega
     refine ⟨_,hrs,hvok,h0,by rw [hsl];exact hcap,?_⟩
     rw [hsl]
     refine ⟨?_,.inr ⟨b,cap,_,rfl,Nat.zero_le _,setRow_eq _ _ _ _ _ hg,hnc,hcm',?_,?_⟩⟩
     · rw [flat_length hvok,hrs.length,hsl]
     · simp only [List.size_toArray,List.length_append,List.length_take,List.length_drop,Array.length_toList]
       omega
     · rw [flat_append,flat_append,flat_take hok,flat_drop hok,Nat.add_mul,← htake]
       have:=take_splice cur.toList (flat us) (n * ei.size) (xs.length * ei.size) (by omega) (by simpa using hin2)
       rw [hfz] at this
       have hul2:us.length=k:=by omega
       simp only [hfz,hul2]
       exact this
theorem s_mklv {T e:TypeId} {n:Nat} {parts:Array (Nat × Operand)} {ti ei:TInfo} {ps:List (Nat × MV)} {xs:List AV} (ho:o.op=.buildSlice T n parts) (hE:E.ok) (hT:E.TI T=some ti) (hds:ti.desc=.slice e) (he:E.TI e=some ei) (hps:cParts1 parts.toList=some ps)
 (hxs:fillE ei.size (List.replicate n (ofCells ei.agg (ei.zero.map ofV))) (ps.map fun p=>(p.1,mv s.fr p.2))=some xs) (h0:0<ei.size) (h1:n * ei.size≤16777216)
 (hr:Rep N γ σ w a s) (hd:∀ d,o.dst=some d→d<N.n) (hX:∀ w' v,ExtL σ [] w w'→X (a.put o.dst v) w') (hk:Cont X m N γ σ w K next)
 (hn:n≠0) (hsc:scL 0 xs=true) (hK:K (AS.put ⟨s.fr,s.H⟩ o.dst (.view ei.size xs))):o.wp E.P a w next Q:=by
 obtain ⟨inf,z,hi1,hi2,hi3,hi4,hzs,hz⟩:=repV_zero (E:=E) (hE e ei he)
 have hun:=(hE T ti hT).slice hds
 have hzz:RepVs γ σ (List.replicate n (ofCells ei.agg (ei.zero.map ofV))) (List.replicate n z):=by
  have:=RepVs.map (γ:=γ) (σ:=σ) (f:=fun _:Nat=>ofCells ei.agg (ei.zero.map ofV)) (g:=fun _=>z) (l:=List.range n) (fun _ _=>hz _ _)
  simpa [List.map_const'] using this
 have hzok:∀ u ∈ List.replicate n z,okEl ei.size u:=fun u hu=>by rw [(List.mem_replicate.1 hu).2];exact hzs
 have hcells:((Array.range (n * ei.size)).map (z.cells[· % z.cells.size]!)).toList=flat (List.replicate n z):=by
  apply List.ext_getElem?
  intro j
  have hfl:=flat_length hzok
  simp only [List.length_replicate] at hfl
  by_cases hj:j<n * ei.size
  · rw [flat_replicate_get hzs h0 hj]
    have hzsz:z.cells.size=ei.size:=hzs.1
    have hlt:j % ei.size<z.cells.size:=by rw [hzsz];exact Nat.mod_lt _ h0
    simp [hj,hzsz]
    have:j % ei.size<z.cells.size:=hlt
    simp [this]
  · rw [List.getElem?_eq_none (by simp;omega),List.getElem?_eq_none (by omega)]
 obtain ⟨us,r,e1,e2,e3,e4,e5⟩:=fillE_spec (a:=a) hr.fr parts.toList ps _ _ _ xs hps hzz hzok hcells hxs
 simp only [List.length_replicate] at e5
 have hul:=e2.length
 have hrun:=run_buildSlice (P:=E.P) w T e n (parts.map fun p=>(p.1,a.eval p.2)) r inf z hun hi1 hi4 (by rw [hi2];omega) (by rw [hi2];have:=Nat.mul_pos (Nat.pos_of_ne_zero hn) h0;omega) (by rw [hi2];simpa using e1)
 have hnm:n≤maxLen:=by
  have:n * 1≤n * ei.size:=Nat.mul_le_mul_left _ h0
  simp only [maxLen];omega
 have hrs:r.size=n * ei.size:=by
  have:=flat_length e3
  rw [← e4] at this
  simp only [Array.length_toList] at this
  rw [this,hul,e5]
 have hi:=hr.inv
 let γ':Gm:=fun b=>if b=w.heap.size then some (.cells r e) else γ b
 have hg:γ.le γ':=fun b o hb=>by
  show (if b=w.heap.size then some (Obj.cells r e) else γ b)=some o
  rw [if_neg (fun h=>by have h1:=hi.mem b o hb;have h2:=lt_of_block h1;omega)]
  exact hb
 have hst:Step m γ σ w γ' σ (w.alloc (.cells r e)):=by
  refine ⟨hg,by show w.heap.size≤(w.heap.push _).size;simp,fun b hb hnb=>⟨heap_alloc_lt _ _ hb,?_⟩,fun b h=>.inl h,rfl,rfl,rfl,Nat.le_refl _,fun i en _ h=>.inl h⟩
  show (if b=w.heap.size then some (Obj.cells r e) else γ b)=γ b
  rw [if_neg (by omega)]
 have hi2:Inv γ' σ (w.alloc (.cells r e)) s.H:=by
  refine ⟨fun b o hb=>?_,fun i b c hs=>?_,hi.inj,hi.len,fun i o en ho he=>?_,hi.glob.mono hg⟩
  · have hb':(if b=w.heap.size then some (Obj.cells r e) else γ b)=some o:=hb
    by_cases h:b=w.heap.size
    · rw [if_pos h] at hb'
      rw [h,heap_alloc_at];exact hb'
    · rw [if_neg h] at hb'
      have h1:=hi.mem b o hb'
      rw [heap_alloc_lt _ _ (lt_of_block h1)];exact h1
  · obtain ⟨h1,h2⟩:=hi.own i b c hs
    refine ⟨?_,by show b<(w.heap.push _).size;simp;omega⟩
    show (if b=w.heap.size then some (Obj.cells r e) else γ b)=none
    rw [if_neg (by omega)];exact h1
  · refine (hi.obj i o en ho he).mono hg (Sg.le_refl _) fun b c hb=>?_
    subst hb
    exact heap_alloc_lt _ _ (hi.own i b c he).2
 refine done_value (γ':=γ') (σ':=σ) (x:=.view ei.size xs) (u:=.slice (some ⟨w.heap.size,0,none⟩) n n) hr hd hk (w':=w.alloc (.cells r e)) ?_ (hX _ _ (extL_alloc _ _ _)) ⟨hi2,hst⟩ (Sg.le_refl _) ⟨_,n,n,us,rfl,RepVs.mono hg _ _ _ _ (Sg.le_refl _) (RepVs.sc (σ':=[]) (fun i hi=>by omega) _ _ hsc e2),by rw [hul,e5],Nat.le_refl _,hnm,e3,fun _=>⟨_,0,rfl,r,e,(0,0),?_,fun j u hj=>?_⟩⟩ hK
 · simp only [execOp,ho,Sem.run_bind,hrun,Result.andThen_ok,Sem.run_pure]
 · show (if w.heap.size=w.heap.size then some (Obj.cells r e) else γ w.heap.size)=_
   rw [if_pos rfl]
 · rw [Nat.zero_add,← Array.getElem?_toList,e4]
   exact hj
theorem extL_set {σ:Sg} {w w1:World} {id b cap:Nat} {o':Obj} (hs:σ[id]?=some (some (some b,cap))) (h1:w1.heap=w.heap):ExtL σ [id] w (ChangeMaps.setBlock w1 b o'):=fun b' x hb' hne=>by
 have:b'≠b:=fun e=>hne id (by simp) cap (by rw [e];exact hs)
 simp only [ChangeMaps.setBlock,h1]
 rw [Array.getElem?_setIfInBounds_ne (by omega)]
 exact hb'
theorem s_mput {T kt et:TypeId} {mm x y:Operand} {ti ki:TInfo} {id:Nat} {ks vs:List AV} {bs:List Nat} {c:Nat} {o':AObj} (ho:o.op=.mapUpdate T mm x y) (hE:E.ok) (hT:E.TI T=some ti) (hdd:ti.desc=.map kt et) (hkt:E.TI kt=some ki)
 (hm:ev s.fr mm=.mp id) (hH:s.H[id]?=some (.map ks vs bs c)) (hp:putK (kdOf ki) ks vs bs c (ev s.fr x) (ev s.fr y)=some o')
 (hr:Rep N γ σ w a s) (hd:∀ d,o.dst=some d→d<N.n) (hX:∀ w' v,ExtL σ [id] w w'→X (a.put o.dst v) w') (hk:Cont X m N γ σ w K next) (hK:K (AS.put ⟨s.fr,s.H.set id o'⟩ o.dst .junk)):o.wp E.P a w next Q:=by
 have hv:=repV_ev hr.fr mm
 rw [hm] at hv
 obtain ⟨b,cap,kv,vv,hs,hv,hks,hvs,hmb⟩:=mp_entry hr.inv hH hv
 obtain ⟨es',c',ks',vs',bs',rfl,hrun,h1,h2,h3,h4,h5⟩:=put_run hE hT hdd hkt (repV_ev hr.fr x) (repV_ev hr.fr y) hks hvs hmb hp
 obtain ⟨es,hb,_⟩:=hmb
 have hset:=MapKept.heap_set (o':=.map es' c') hb
 refine done_skip hr hd hk (w':=ChangeMaps.setBlock w b (.map es' c')) ?_ (hX _ _ (extL_set hs rfl)) (hr.inv.touch (w':=ChangeMaps.setBlock w b (.map es' c')) hs (by simp [ChangeMaps.setBlock]) (fun b' hb'=>hset.2 b' hb') rfl rfl rfl (o':=.map ks' vs' bs' c') ⟨_,_,h1,h2,es',hset.1,rfl,rfl,h3,h4,h5⟩) (Sg.le_refl _) hK
 simp only [execOp,ho,hv,Sem.run_bind,hrun,Result.andThen_ok,Sem.run_pure]
theorem s_mdel {T T' kt et:TypeId} {args:Array Operand} {ats:Array TypeId} {mm x:Operand} {ti ki:TInfo} {id:Nat} {ks vs:List AV} {bs:List Nat} {c:Nat} {o':AObj} (ho:o.op=.call { callee:=.builtin .delete,args,argTypes:=ats }) (hts:ats.toList=[T,T']) (has:args.toList=[mm,x])
 (hE:E.ok) (hT:E.TI T=some ti) (hdd:ti.desc=.map kt et) (hkt:E.TI kt=some ki)
 (hm:ev s.fr mm=.mp id) (hH:s.H[id]?=some (.map ks vs bs c)) (hp:delK (kdOf ki) ks vs bs c (ev s.fr x)=some o')
 (hr:Rep N γ σ w a s) (hd:∀ d,o.dst=some d→d<N.n) (hX:∀ w' v,ExtL σ [id] w w'→X (a.put o.dst v) w') (hk:Cont X m N γ σ w K next) (hK:K (AS.put ⟨s.fr,s.H.set id o'⟩ o.dst (.tup []))):o.wp E.P a w next Q:=by
 have hv:=repV_ev hr.fr mm
 rw [hm] at hv
 obtain ⟨b,cap,kv,vv,hs,hv,hks,hvs,hmb⟩:=mp_entry hr.inv hH hv
 obtain ⟨es',ks',vs',bs',rfl,hrun,h1,h2,h3,h4,h5⟩:=del_run hE hT hdd hkt (repV_ev hr.fr x) hks hvs hmb hp (T':=T') (ty:=o.type)
 obtain ⟨es,hb,_⟩:=hmb
 have hset:=MapKept.heap_set (o':=.map es' c) hb
 refine done_value (x:=.tup []) (u:=.tuple #[]) hr hd hk (w':=ChangeMaps.setBlock w b (.map es' c)) ?_ (hX _ _ (extL_set hs rfl)) (hr.inv.touch (w':=ChangeMaps.setBlock w b (.map es' c)) hs (by simp [ChangeMaps.setBlock]) (fun b' hb'=>hset.2 b' hb') rfl rfl rfl (o':=.map ks' vs' bs' c) ⟨_,_,h1,h2,es',hset.1,rfl,rfl,h3,h4,h5⟩) (Sg.le_refl _) ⟨[],rfl,by simp [RepVs]⟩ hK
 rw [execOp_call_builtin _ _ _ _ _ ho,builtin,evArgs has,show ats = #[T,T'] from Array.ext' (by simpa using hts),hv]
 simp only [Sem.run_bind,hrun,Result.andThen_ok,Sem.run_pure]
theorem s_rng {T kt et:TypeId} {mm:Operand} {ti:TInfo} {mid:Option Nat} {c:Nat} (ho:o.op=.range T mm) (hE:E.ok) (hT:E.TI T=some ti) (hdd:ti.desc=.map kt et)
 (hm:(mid=none∧c=0∧ev s.fr mm=.raw (.map none))∨∃ id ks vs bs,mid=some id∧ev s.fr mm=.mp id∧s.H[id]?=some (.map ks vs bs c))
 (hr:Rep N γ σ w a s) (hd:∀ d,o.dst=some d→d<N.n) (hX:∀ w' v,ExtL σ [] w w'→X (a.put o.dst v) w') (hk:Cont X m N γ σ w K next) (hK:K (AS.put ⟨s.fr,s.H++[.mit mid c [] c]⟩ o.dst (.itr s.H.length))):o.wp E.P a w next Q:=by
 have hun:=(hE T ti hT).map hdd
 have hv:=repV_ev hr.fr mm
 have fin:∀ (it:Obj),(Instr.range T (a.eval mm)).run E.P w=.ok (.pointer (some ⟨w.heap.size,0,none⟩)) (w.alloc it)→RepO γ (σ++[some (some w.heap.size,0)]) (w.alloc it) (some (some w.heap.size,0)) (.mit mid c [] c)→o.wp E.P a w next Q:=by
  intro it hrun hob
  refine done_value (u:=.pointer (some ⟨w.heap.size,0,none⟩)) hr hd hk (w':=w.alloc it) (by simp only [execOp,ho,Sem.run_bind,hrun,Result.andThen_ok,Sem.run_pure]) (hX _ _ (extL_alloc _ _ _)) (hr.inv.alloc _ (.mit mid c [] c) 0 hob) (Sg.le_append _ _) ?_ hK
  rw [← hr.inv.len]
  exact ⟨some (some w.heap.size,0),by simp,rfl,fun b' c' h=>by cases h;rfl⟩
 rcases hm with ⟨rfl,rfl,hm⟩ | ⟨id,ks,vs,bs,rfl,hm,hH⟩
 · rw [hm] at hv
   simp only [RepV] at hv
   refine fin (.mapIter none 0 #[] 0) ?_ (heap_alloc_at _ _)
   simp only [Instr.range,hv,Sem.run_bind,run_underlying hun,Result.andThen_ok,Sem.run_pure,run_newObj]
   rfl
 · rw [hm] at hv
   obtain ⟨b,cap,kv,vv,hs,hv,hks,hvs,es,hb,_⟩:=mp_entry hr.inv hH hv
   refine fin (.mapIter (some b) c #[] c) ?_ ⟨some (some b,cap),?_,fun bm cap' he=>?_⟩
   · simp only [Instr.range,hv,Sem.run_bind,run_underlying hun,Result.andThen_ok,Sem.run_pure,MapKept.run_getObj_map hb,run_newObj]
     rfl
   · rw [List.getElem?_append_left (List.getElem?_eq_some_iff.1 hs).1];exact hs
   · cases he
     exact heap_alloc_at _ _
theorem s_nxt {it:Operand} {id:Nat} {mid:Option Nat} {since last:Nat} {seen:List Nat} (ho:o.op=.next it false) (hi:ev s.fr it=.itr id) (hH:s.H[id]?=some (.mit mid since seen last))
 (hr:Rep N γ σ w a s) (hd:∀ d,o.dst=some d→d<N.n) (hX:∀ w' v,ExtL σ [id] w w'→X (a.put o.dst v) w') (hk:Cont X m N γ σ w K next)
 (hK:match mid with
   | none=>K (AS.put ⟨s.fr,s.H⟩ o.dst (.tup [.bool false]))
   | some mid=>∃ ks vs bs c,s.H[mid]?=some (.map ks vs bs c)∧(∀ b ∈ bs,b<since)∧since≤last∧((∀ b ∈ bs,b ∈ seen)→K (AS.put ⟨s.fr,s.H⟩ o.dst (.tup [.bool false]))) ∧
      ∀ (i b:Nat) (kx vx:AV),bs[i]?=some b→b ∉ seen→ks[i]?=some kx→vs[i]?=some vx→K (AS.put ⟨s.fr,s.H.set id (.mit (some mid) since (seen++[b]) c)⟩ o.dst (.tup [.bool true,kx,vx]))):o.wp E.P a w next Q:=by
 have hv:=repV_ev hr.fr it
 rw [hi] at hv
 obtain ⟨ib,ic,hs,hv,hnone,hsome⟩:=itr_entry hr.inv hH hv
 cases mid with
 | none =>
   have hb:=hnone rfl
   refine done_value (x:=.tup [.bool false]) (u:=.tuple #[.bool false]) hr hd hk (w':=w) ?_ (hX _ _ (ExtL.refl _ _ _)) ⟨hr.inv,.refl _ _ _⟩ (Sg.le_refl _) ⟨[.bool false],rfl,repVs_cons.2 ⟨_,_,rfl,rfl,repVs_nil.2 rfl⟩⟩ hK
   simp [execOp,ho,hv,Instr.next,getObj,Sem.run,hb]
 | some mid =>
   obtain ⟨ks,vs,bs,c,hM,h1,h2,h3,h4⟩:=hK
   obtain ⟨mb,mc,kv,vv,hms,hks,hvs,es,hmb,rfl,rfl,rfl,hlt,hpw⟩:=map_block hr.inv hM
   obtain ⟨e,he,hit⟩:=hsome mid rfl
   rw [hms] at he;cases he
   have hit:=hit mb mc rfl
   rcases run_next_at (P:=E.P) w o.type ib mb since last seen.toArray es c hit hmb (fun x hx=>h1 _ (List.mem_map_of_mem hx)) h2 with ⟨h5,h6⟩ | ⟨e,he,w1,hw1,h6⟩
   · refine done_value (x:=.tup [.bool false]) (u:=.tuple #[.bool false]) hr hd hk (w':=w) ?_ (hX _ _ (ExtL.refl _ _ _)) ⟨hr.inv,.refl _ _ _⟩ (Sg.le_refl _) ⟨[.bool false],rfl,repVs_cons.2 ⟨_,_,rfl,rfl,repVs_nil.2 rfl⟩⟩ (h3 fun b hb=>?_)
     · simp only [execOp,ho,hv,Sem.run_bind,h6,Result.andThen_ok,Sem.run_pure]
     · obtain ⟨x,hx,rfl⟩:=List.mem_map.1 hb
       by_cases hc:x.born ∈ seen
       · exact hc
       · exfalso
         have:x ∈ (leftOf es seen.toArray).toList:=by
          simp only [leftOf,Array.toList_filter,List.mem_filter]
          exact ⟨hx,by simpa using hc⟩
         have hz:(leftOf es seen.toArray).toList=[]:=by simpa using Array.eq_empty_of_size_eq_zero h5
         rw [hz] at this
         cases this
   · simp only [leftOf,Array.toList_filter,List.mem_filter] at he
     obtain ⟨hmem,hns⟩:=he
     obtain ⟨i,hil,hie⟩:=List.getElem_of_mem hmem
     have hie':es.toList[i]?=some e:=by rw [List.getElem?_eq_getElem hil,hie]
     have hl1:=hks.length
     have hl2:=hvs.length
     simp only [List.length_map] at hl1 hl2
     obtain ⟨kx,hkx⟩:∃ kx,ks[i]?=some kx:=⟨ks[i]'(by omega),List.getElem?_eq_getElem _⟩
     obtain ⟨vx,hvx⟩:∃ vx,vs[i]?=some vx:=⟨vs[i]'(by omega),List.getElem?_eq_getElem _⟩
     obtain ⟨ku,hku,hkr⟩:=hks.get i kx hkx
     obtain ⟨vu,hvu,hvr⟩:=hvs.get i vx hvx
     rw [List.getElem?_map,hie'] at hku hvu
     simp only [Option.map_some,Option.some.injEq] at hku hvu
     subst hku hvu
     have hheap:w1.heap=w.heap:=by rcases hw1 with rfl | rfl <;> rfl
     have hk':=h4 i e.born kx vx (by rw [List.getElem?_map,hie'];rfl) (by simpa using hns) hkx hvx
     have hinv:Inv γ σ w1 s.H∧Step m γ σ w γ σ w1:=by
      rcases hw1 with rfl | rfl
      · exact ⟨hr.inv,.refl _ _ _⟩
      · exact ⟨hr.inv.drew,.drew _ _ _⟩
     have hit1:w1.heap[ib]?=some (.mapIter (some mb) since seen.toArray last):=by rw [hheap];exact hit
     have hset:=MapKept.heap_set (o':=.mapIter (some mb) since (seen.toArray.push e.born) c) hit1
     have ht:=hinv.1.touch (m:=m) hs (w':=ChangeMaps.setBlock w1 ib (.mapIter (some mb) since (seen.toArray.push e.born) c)) (by simp [ChangeMaps.setBlock]) (fun b' hb'=>hset.2 b' hb') rfl rfl rfl (o':=.mit (some mid) since (seen++[e.born]) c) ⟨_,hms,fun bm cap' he=>by
      cases he
      simp only [ChangeMaps.setBlock]
      rw [hset.1]
      simp⟩
     refine done_value (x:=.tup [.bool true,kx,vx]) (u:=.tuple #[.bool true,e.key,e.val]) hr hd hk (w':=ChangeMaps.setBlock w1 ib (.mapIter (some mb) since (seen.toArray.push e.born) c)) ?_ (hX _ _ (extL_set hs hheap)) ⟨ht.1,hinv.2.trans ht.2⟩ (Sg.le_refl _) ⟨[.bool true,e.key,e.val],rfl,repVs_cons.2 ⟨_,_,rfl,rfl,repVs_cons.2 ⟨_,_,rfl,hkr,repVs_cons.2 ⟨_,_,rfl,hvr,repVs_nil.2 rfl⟩⟩⟩⟩ hk'
     simp only [execOp,ho,hv,Sem.run_bind,h6,Result.andThen_ok,Sem.run_pure]
def isCall:EI→Bool | .call _ _ _ | .callv _ _ _=>true | _=>false
theorem cOp_callv {o:Oper} {d:Option Nat} {f:MV} {args:List MV} (hc:cOp E o=some (.e (.callv d f args))):o.dst=d∧∃ (t:Nat) (xs:Array Operand) (ats:Array TypeId),f=.t t∧o.op=.call { callee:=.value (.tmp t),args:=xs,argTypes:=ats }∧cVs xs.toList=some args:=by
 unfold cOp at hc
 split at hc
 case h_30 _ _ f args ats ho =>
  obtain ⟨l,hl,heq⟩:=Option.map_eq_some_iff.1 hc;cases heq
  exact ⟨rfl,_,_,_,rfl,ho,hl⟩
 all_goals (repeat' split at hc) <;> first | (cases hc;done) | (obtain ⟨y,hy,he⟩:=Option.map_eq_some_iff.1 hc;cases he;done)
theorem cOp_nodefer {i:MI} (hc:cOp E o=some i):∀ c,o.op≠.defer c:=by
 intro c hd
 unfold cOp at hc
 rw [hd] at hc
 split at hc <;> first | (cases hc;done) | (rename_i h _;cases h;done) | (rename_i h;cases h;done)
theorem callsIn_FW {P:Program} {ro:Option Nat} {n:Nat} {f:FuncId} {args:Array Value} {w:World} {R:Ending→World→Prop} (h:Calls P f args w R):CallsIn (FW ro) n P f args w R:=callsIn_wide.2 h
theorem wp_in {P:Program} {ro:Option Nat} (hnd:∀ c,o.op≠.defer c) (h:o.wp P a w next Q):o.wpIn (FW ro) 0 P a w next Q:=by
 refine ⟨fun _ _=>trivial,?_⟩
 rw [show o.semAt (FW ro).round a.eval=execOp a.eval o from Oper.semAt_eq _ _ _ hnd]
 unfold Oper.wp at h
 generalize (execOp a.eval o).run P w=r at *
 cases r with
 | ok x w' =>
   cases x <;> simp only [Oper.upon,Oper.uponIn] at h ⊢
   case value=>exact h
   case skip=>exact h
   case defer=>exact h
   case enter=>exact ⟨fun h=>(by cases h),callsIn_FW (h.mono fun e w'' he=>(by cases e <;> exact he))⟩
   case row row args =>
    refine ⟨fun h=>(by cases h),fun c cs _=>?_⟩
    obtain ⟨v,w2,h1,h2⟩:=h c cs
    exact ⟨v,w2,h1,stepsIn_wide.2 h2⟩
 | halt x w'=>cases x <;> simp only [Oper.upon,Oper.uponIn] at h ⊢ <;> exact h
theorem cOp_e (hE:E.ok) (hr:Rep N γ σ w a s) (hd:∀ d,o.dst=some d→d<N.n) {i:EI} (hX:∀ w' v,isCall i=true∨ExtL σ (wrote s.fr i) w w'→X (a.put o.dst v) w') (hc:cOp E o=some (.e i)) (hny:∀ d f args,i=.callv d f args→∀ id,mv s.fr f≠.yld id) {k:List (Nat × AV)→List AObj→Prop} (hk:Cont X m N γ σ w (fun s=>k s.fr s.H) next) (hv:eiW E.P s.fr s.H k i):o.wp E.P a w next Q:=by
 have hput:∀ (d:Nat) (x:AV) (H':List AObj),o.dst=some d→AS.put ⟨s.fr,H'⟩ o.dst x=⟨(d,x)::s.fr,H'⟩:=fun d x H' h=>by rw [h];rfl
 unfold cOp at hc
 split at hc
 case h_21 T d' ho hd' =>
  obtain ⟨ti,hT,he⟩:=Option.map_eq_some_iff.1 hc;cases he
  exact s_alloc ho hE hT hr hd (fun w' v h=>hX w' v (.inr h)) hk (by rw [hput d' _ _ hd'];exact hv)
 case h_22 T x d' ho hd' =>
  obtain ⟨y,hy,he⟩:=Option.map_eq_some_iff.1 hc;cases he
  simp only [eiW] at hv
  split at hv
  · rename_i cs hcs
    exact s_boxop ho (by rw [cV_ev hy];exact hcs) hr hd (fun w' v h=>hX w' v (.inr h)) hk (by rw [hput d' _ _ hd'];exact hv)
  · exact hv.elim
 case h_23 T p x ho hd' =>
  split at hc
  · rename_i ti p' x' hT hp hx
    cases hc
    simp only [eiW] at hv
    split at hv
    · rename_i cs id off hcs hpv
      split at hv
      · rename_i bs hH
        obtain ⟨h1,h2,h3⟩:=hv
        exact s_store_op ho hE hT (by rw [cV_ev hx];exact hcs) h1 ((cV_ev hp).trans hpv) hH (by omega) hr hd (fun w' v h=>hX w' v (.inr (by simpa [wrote,hpv] using h))) hk (by rw [hd'];exact h3)
      · exact hv.elim
    · rename_i cs id sz n off hcs hpv
      split at hv
      · rename_i E' sz' xs hH
        split at hv
        · rename_i bs hbs
          obtain ⟨rfl,h1,h2,h3⟩:=hv
          have hsz:bs.length=sz∨True:=.inr trivial
          obtain ⟨blk,cap,vs,_,hvs,hok,_⟩:=arr_entry hr.inv hH
          obtain ⟨u,hu,hyu⟩:=hvs.get n _ hbs
          obtain ⟨us,rfl,hus,h1us⟩:=hyu
          have hul:=hus.length
          have huok:=(hok _ (List.mem_of_getElem? hu)).1
          have hbl:bs.length=sz:=by simpa [Value.cells,hul] using huok
          refine s_store_ep ho hE hT (by rw [cV_ev hx];exact hcs) h1 ((cV_ev hp).trans hpv) hH hbs (by omega) (y':=.agg (setAt bs off cs)) ?_ hr hd (fun w' v h=>hX w' v (.inr (by simpa [wrote,hpv] using h))) hk (by rw [hd'];exact h3)
          rintro u ns ⟨us2,rfl,hus2,h1us2⟩ _ hns hns1 _
          have hnl:=hns.length
          refine ⟨.agg (us2.take off++ns++us2.drop (off+ns.length)).toArray,⟨_,rfl,repVs_setAt hus2 hns off,fun z hz=>?_⟩,⟨?_,fun z hz=>?_⟩,by simp [Value.cells]⟩
          · simp only [List.mem_append] at hz
            rcases hz with (hz | hz) | hz
            · exact h1us2 z (List.mem_of_mem_take hz)
            · exact hns1 z hz
            · exact h1us2 z (List.mem_of_mem_drop hz)
          · have:=hus2.length
            simp [Value.cells];omega
          · simp only [Value.cells,List.toList_toArray,List.mem_append] at hz
            rcases hz with (hz | hz) | hz
            · exact h1us2 z (List.mem_of_mem_take hz)
            · exact hns1 z hz
            · exact h1us2 z (List.mem_of_mem_drop hz)
        · rename_i y hy hny
          obtain ⟨rfl,h1,h2,rfl,h4,h3⟩:=hv
          refine s_store_ep ho hE hT (by rw [cV_ev hx];exact hcs) h1 ((cV_ev hp).trans hpv) hH hny (by omega) (y':=mv s.fr x') ?_ hr hd (fun w' v h=>hX w' v (.inr (by simpa [wrote,hpv] using h))) hk (by rw [hd'];exact h3)
          intro u ns hyu huok hns hns1 hcells
          have hnl:=hns.length
          have h5:=huok.1
          refine ⟨a.eval x,by rw [← cV_ev hx];exact repV_ev hr.fr x,⟨?_,by rw [hcells];exact hns1⟩,?_⟩
          · rw [← Array.length_toList,hcells];omega
          · rw [hcells,List.drop_eq_nil_of_le (by rw [Array.length_toList];omega)]
            simp
        · exact hv.elim
      · exact hv.elim
    · exact hv.elim
  · cases hc
 case h_24 T d' ho hd' =>
  cases hc
  exact s_makeMap ho hr hd (fun w' v h=>hX w' v (.inr h)) hk (by rw [hput d' _ _ hd'];exact hv)
 case h_25 T l c d' ho hd' =>
  split at hc
  · rename_i ti l' c' hT hl hcc
    split at hc
    · rename_i e hds
      obtain ⟨ei,he,heq⟩:=Option.map_eq_some_iff.1 hc;cases heq
      simp only [eiW] at hv
      split at hv
      · rename_i n k' hln hcn
        obtain ⟨h1,h2,h3,h4,h5,h6⟩:=hv
        exact s_makeSlice ho hE hT ((cV_ev hl).trans hln) ((cV_ev hcc).trans hcn) hds he h1 h2 h3 h4 h5 hr hd (fun w' v h=>hX w' v (.inr h)) hk (by rw [hput d' _ _ hd'];exact h6)
      · exact hv.elim
    · cases hc
  · cases hc
 case h_26 args ats d' ho hd' =>
  split at hc
  · rename_i t t' x y hts has
    split at hc
    · rename_i htt;subst htt
      split at hc
      · rename_i ti x' y' hT hx hy
        split at hc
        · rename_i e hds
          obtain ⟨ei,he,heq⟩:=Option.map_eq_some_iff.1 hc;cases heq
          simp only [eiW] at hv
          split at hv
          · rename_i id sz' n ys hxv hys
            split at hv
            · rename_i E' sz'' xs hH
              obtain ⟨rfl,rfl,rfl,hn,h0,h1,h2,h3⟩:=hv
              exact s_append_slc ho hts has hE hT hds he ((cV_ev hx).trans hxv) (by rw [cV_ev hy];exact hys) hH hn h0 h1 h2 hr hd (fun w' v h=>hX w' v (.inr (by simpa [wrote,hxv] using h))) hk (by rw [hput d' _ _ hd'];exact h3)
            · exact hv.elim
          · rename_i id sz' off n ys hxv hys
            split at hv
            · rename_i E' sz'' xs hH
              obtain ⟨rfl,rfl,rfl,rfl,hn,h0,h1,h2,h3⟩:=hv
              rcases h3 with h3 | ⟨hfit,h3⟩
              case inr =>
               exact s_append_in ho hts has hE hT hds he ((cV_ev hx).trans hxv) (by rw [cV_ev hy];exact hys) hH hfit hr hd (fun w' v h=>hX w' v (.inr (by simpa [wrote,hxv] using h))) hk (by rw [hput d' _ _ hd'];exact h3)
              exact s_append_sub ho hts has hE hT hds he ((cV_ev hx).trans hxv) (by rw [cV_ev hy];exact hys) hH hn h0 h1 h2 hr hd (fun w' v h=>hX w' v (.inr (by simpa [wrote,hxv] using h))) hk (by rw [hput d' _ _ hd'];exact h3)
            · exact hv.elim
          · rename_i v ys hxv hys
            obtain ⟨h0,h1,h2,h3,h4⟩:=hv
            exact s_append_nil ho hts has hE hT hds he ((cV_ev hx).trans hxv) h0 (by rw [cV_ev hy];exact hys) h1 h2 h3 hr hd (fun w' v h=>hX w' v (.inr (by simpa [wrote,hxv] using h))) hk (by rw [hput d' _ _ hd'];exact h4)
          · rename_i sz' xs ys hxv hys
            obtain ⟨rfl,h0,h1,h2,h3,h4⟩:=hv
            exact s_append_full ho hts has hE hT hds he ((cV_ev hx).trans hxv) (by rw [cV_ev hy];exact hys) h0 h1 h2 h3 hr hd (fun w' v h=>hX w' v (.inr (by simpa [wrote,hxv] using h))) hk (by rw [hput d' _ _ hd'];exact h4)
          · exact hv.elim
        · cases hc
      · cases hc
    · cases hc
  · cases hc
 case h_28 T n parts d' ho hd' =>
  split at hc
  · rename_i ti hT
    split at hc
    · rename_i e hds
      split at hc
      · rename_i ei he
        obtain ⟨ps,hps,heq⟩:=Option.map_eq_some_iff.1 hc;cases heq
        simp only [eiW] at hv
        split at hv
        · rename_i xs hxs
          obtain ⟨h0,h1,h2⟩:=hv
          rcases h2 with h2 | ⟨hn,hsc,h2⟩
          · exact s_mkl ho hE hT hds he hps hxs h0 h1 hr hd (fun w' v h=>hX w' v (.inr h)) hk (by rw [hput d' _ _ hd'];exact h2)
          · exact s_mklv ho hE hT hds he hps hxs h0 h1 hr hd (fun w' v h=>hX w' v (.inr h)) hk hn hsc (by rw [hput d' _ _ hd'];exact h2)
        · exact hv.elim
      · cases hc
    · cases hc
  · cases hc
 case h_29 _ _ f args ats ho =>
  obtain ⟨l,hl,heq⟩:=Option.map_eq_some_iff.1 hc;cases heq
  simp only [eiW] at hv
  refine s_call hE hr hd (fun v w'=>hX w' v (.inl rfl)) hk ho (f:=.func f) (g:=f) (first:=[]) (caps:=[]) rfl ?_
  rw [cVs_ev hl]
  simp only [List.nil_append,List.append_nil]
  refine hv.mono fun r H' h=>?_
  cases hdst:o.dst <;> simp only [hdst,AS.put] at h ⊢ <;> exact h
 case h_30 _ _ f args ats ho =>
  obtain ⟨l,hl,heq⟩:=Option.map_eq_some_iff.1 hc;cases heq
  simp only [eiW,mv] at hv
  split at hv
  · rename_i g first caps hf
    refine s_call hE hr hd (fun v w'=>hX w' v (.inl rfl)) hk ho (f:=.tmp f) hf ?_
    rw [cVs_ev hl]
    refine hv.mono fun r H' h=>?_
    cases hdst:o.dst <;> simp only [hdst,AS.put] at h ⊢ <;> exact h
  · rename_i id hf
    exact absurd hf (hny _ _ _ rfl id)
  · exact hv.elim
 case h_32 T mm x y ho hd' =>
  split at hc
  · rename_i ti m' x' y' hT hm hx hy
    split at hc
    · rename_i kt et hds
      split at hc
      · rename_i ki hki
        cases hc
        simp only [eiW] at hv
        split at hv
        · rename_i id hmv
          split at hv
          · rename_i ks vs bs c hH
            split at hv
            · rename_i o' ho'
              exact s_mput ho hE hT hds hki ((cV_ev hm).trans hmv) hH (by rw [cV_ev hx,cV_ev hy];exact ho') hr hd (fun w' v h=>hX w' v (.inr (by simpa [wrote,hmv] using h))) hk (by rw [hd'];exact hv)
            · exact hv.elim
          · exact hv.elim
        · exact hv.elim
      · cases hc
    · cases hc
  · cases hc
 case h_33 _ _ args ats ho =>
  split at hc
  · rename_i T T' mm x hts has
    split at hc
    · rename_i ti m' x' hT hm hx
      split at hc
      · rename_i kt et hds
        split at hc
        · rename_i ki hki
          cases hc
          simp only [eiW] at hv
          split at hv
          · rename_i id hmv
            split at hv
            · rename_i ks vs bs c hH
              split at hv
              · rename_i o' ho'
                exact s_mdel ho hts has hE hT hds hki ((cV_ev hm).trans hmv) hH (by rw [cV_ev hx];exact ho') hr hd (fun w' v h=>hX w' v (.inr (by simpa [wrote,hmv] using h))) hk (by cases hdst:o.dst <;> simp only [hdst,AS.put] at hv ⊢ <;> exact hv)
              · exact hv.elim
            · exact hv.elim
          · exact hv.elim
        · cases hc
      · cases hc
    · cases hc
  · cases hc
 case h_34 T mm d' ho hd' =>
  split at hc
  · rename_i ti m' hT hm
    split at hc
    · rename_i kt et hds
      cases hc
      simp only [eiW] at hv
      split at hv
      · rename_i id hmv
        split at hv
        · rename_i ks vs bs c hH
          exact s_rng ho hE hT hds (.inr ⟨id,ks,vs,bs,rfl,(cV_ev hm).trans hmv,hH⟩) hr hd (fun w' v h=>hX w' v (.inr h)) hk (by rw [hput d' _ _ hd'];exact hv)
        · exact hv.elim
      · rename_i hmv
        exact s_rng ho hE hT hds (.inl ⟨rfl,rfl,(cV_ev hm).trans hmv⟩) hr hd (fun w' v h=>hX w' v (.inr h)) hk (by rw [hput d' _ _ hd'];exact hv)
      · exact hv.elim
    · cases hc
  · cases hc
 case h_35 it d' ho hd' =>
  obtain ⟨y,hy,he⟩:=Option.map_eq_some_iff.1 hc;cases he
  simp only [eiW] at hv
  split at hv
  · rename_i id hiv
    split at hv
    · rename_i since seen last hH
      exact s_nxt ho ((cV_ev hy).trans hiv) hH hr hd (fun w' v h=>hX w' v (.inr (by simpa [wrote,hiv] using h))) hk (by rw [hput d' _ _ hd'];exact hv)
    · rename_i mid since seen last hH
      split at hv
      · rename_i ks vs bs c hM
        refine s_nxt ho ((cV_ev hy).trans hiv) hH hr hd (fun w' v h=>hX w' v (.inr (by simpa [wrote,hiv] using h))) hk ⟨ks,vs,bs,c,hM,hv.1,hv.2.1,fun h=>?_,fun i b kx vx h1 h2 h3 h4=>?_⟩
        · rw [hput d' _ _ hd'];exact hv.2.2.1 h
        · rw [hput d' _ _ hd'];exact hv.2.2.2 i b kx vx h1 h2 h3 h4
      · exact hv.elim
    · exact hv.elim
  · exact hv.elim
 case h_38 _ _ args ats ho =>
  split at hc
  · rename_i T x hts has
    split at hc
    · rename_i ti x' hT hx
      split at hc
      · rename_i e hds
        split at hc
        · rename_i ei he
          cases hc
          simp only [eiW] at hv
          split at hv
          · rename_i id sz' n hxv
            split at hv
            · rename_i E' sz'' xs hH
              obtain ⟨rfl,rfl,h1,h2⟩:=hv
              have hvx:=repV_ev hr.fr x
              rw [(cV_ev hx).trans hxv] at hvx
              exact s_clr ho hts has hE hT hds he (slc_sub hr.inv hH hvx) hH (by omega) hr hd (fun w' v h=>hX w' v (.inr (by simpa [wrote,hxv] using h))) hk (by cases hdst:o.dst <;> simp only [hdst,AS.put] at h2 ⊢ <;> exact h2)
            · exact hv.elim
          · rename_i id sz' off n hxv
            split at hv
            · rename_i E' sz'' xs hH
              obtain ⟨rfl,rfl,h1,h2⟩:=hv
              have hvx:=repV_ev hr.fr x
              rw [(cV_ev hx).trans hxv] at hvx
              exact s_clr ho hts has hE hT hds he hvx hH h1 hr hd (fun w' v h=>hX w' v (.inr (by simpa [wrote,hxv] using h))) hk (by cases hdst:o.dst <;> simp only [hdst,AS.put] at h2 ⊢ <;> exact h2)
            · exact hv.elim
          · exact hv.elim
        · cases hc
      · cases hc
    · cases hc
  · cases hc
 case h_39 ho hd' =>
  cases hc
  exact hv.elim
 all_goals (repeat' split at hc) <;> first | (cases hc;done) | (obtain ⟨y,hy,he⟩:=Option.map_eq_some_iff.1 hc;cases he;done)
theorem mi_sound (hE:E.ok) (hr:Rep N γ σ w a s) (hd:∀ d,o.dst=some d→d<N.n) {i:MI} (hc:cOp E o=some i) {k:List (Nat × AV)→List AObj→Prop} (hk:Cont (fun _ _=>True) m N γ σ w (fun s=>k s.fr s.H) next) (hv:miW E.P s.fr s.H k i):o.wpIn (FW N.ro) 0 E.P a w next Q:=by
 have val:∀ (d:Nat) (k':AV→Prop),o.dst=some d→Yields E γ σ (fun v=>v=w) a o k'→(∀ x,k' x→k ((d,x)::s.fr) s.H)→o.wp E.P a w next Q:=by
  intro d k' hdst hy hkk
  obtain ⟨x,u,hx,hK,hrun⟩:=hy
  exact done_value (K:=fun s=>k s.fr s.H) (H':=s.H) hr hd hk (hrun w rfl) trivial ⟨hr.inv,.refl _ _ _⟩ (Sg.le_refl _) hx (by rw [hdst];exact hkk x hK)
 have hnd:=cOp_nodefer hc
 cases i with
 | v i =>
   simp only [miW] at hv
   split at hv
   · rename_i d x hvi
     obtain ⟨h1,h2⟩:=cOp_v (R:=fun v=>v=w) hE hr.inv hr.fr (fun _ w' h=>by subst h;exact ExtL.refl _ _ _) hc hvi
     exact wp_in hnd (val d _ h1 h2 (fun y hy=>by rw [hy];exact hv))
   · exact hv.elim
 | p i =>
   obtain ⟨d,h1,h2⟩:=cOp_p (R:=fun v=>v=w) (k:=fun d x=>k ((d,x)::s.fr) s.H) hE hr.inv hr.fr (fun _ w' h=>by subst h;exact ExtL.refl _ _ _) hc hv
   exact wp_in hnd (val d _ h1 h2 (fun x hx=>hx))
 | e i =>
   by_cases hy:∃ d f args id,i=.callv d f args∧mv s.fr f=.yld id
   · obtain ⟨d,f,args,id,rfl,hf⟩:=hy
     obtain ⟨hdst,t,xs,ats,rfl,hop,hxs⟩:=cOp_callv hc
     simp only [miW,eiW,hf] at hv
     have hargs:=repVs_evs (γ:=γ) (σ:=σ) hr.fr xs.toList
     rw [cVs_ev hxs] at hargs
     obtain ⟨b,c,g,tmps,as,bd,h1,h2,h3⟩:=hv γ σ w _ hr.inv hargs
     have hev:a.eval (.tmp t)=.func (.yield b) #[] #[]:=by
      have h4:=hr.fr t
      simp only [mv] at hf
      rw [hf] at h4
      obtain ⟨e,h5,_,h6⟩:=h4
      rw [h1] at h5;cases h5
      exact h6 b c rfl
     have hrun:(execOp a.eval o).run E.P w=.ok (.round b g tmps as bd) w:=by
      have h2':(Instr.yield b (xs.map a.eval)).run E.P w=.ok (.round b g tmps as bd) w:=by rw [← h2];congr 2;apply Array.ext';simp
      simp only [execOp,hop,resolve,hev,Deferred.ofValue,Sem.run_bind,Sem.run_pure,Result.andThen_ok,invoke]
      simpa using h2'
     refine ⟨fun _ _=>trivial,?_⟩
     rw [show o.semAt (FW N.ro).round a.eval=execOp a.eval o from Oper.semAt_eq _ _ _ hnd,hrun,Oper.uponIn_round]
     refine ⟨fun h=>(by cases h),RoundIn.mono (show RoundIn (FW N.ro) (0 - 1) E.P b g tmps as bd w _ from h3) ?_⟩
     rintro e w' ⟨v,γ',σ',r,H',rfl,hst,hi,hrv,hK⟩
     have hs:Sg.le σ σ':=fun i en hen=>hst.low i en (by rw [← hr.inv.len];exact (List.getElem?_eq_some_iff.1 hen).1) hen
     refine hk _ _ _ _ (AS.put ⟨s.fr,H'⟩ o.dst r) trivial ⟨hst.le,hst.size,hst.keep,hst.own,hst.os,hst.tape,hst.output,hst.drawn,fun i en _ hen=>hs i en hen⟩ (rep_put hr hst hs hi hd hrv) ?_
     cases hdst':o.dst <;> rw [hdst'] at hdst <;> subst hdst <;> simpa [AS.put] using hK
   · exact wp_in hnd (cOp_e hE hr hd (fun _ _ _=>trivial) hc (fun d f args he id hf=>hy ⟨d,f,args,id,he,hf⟩) hk hv)
theorem mops_sound (hE:E.ok) {ops:Array Oper} {Q:Exit→Act→World→Prop}:∀ (l:List Oper) (ml:List (Option (Nat × Bool) × MI)) (hc:cOps E ops l=some ml) (hd:∀ o ∈ l,∀ d,o.dst=some d→d<N.n) {γ:Gm} {σ:Sg} {w:World} {a:Act} {s:AS} {k:List (Nat × AV)→List AObj→Prop},
 Rep N γ σ w a s→Cont (fun _ _=>True) m N γ σ w (fun s=>k s.fr s.H) (Q .normal)→mopsW E.P ml k s.fr s.H→wpListIn (FW N.ro) 0 E.P ops Q l a w
 | [],ml,hc,_,γ,σ,w,a,s,k,hr,hk,h=>by
   simp only [cOps,Option.some.injEq] at hc
   subst hc
   exact hk _ _ _ _ _ trivial (.refl _ _ _) hr h
 | o::l,ml,hc,hd,γ,σ,w,a,s,k,hr,hk,h=>by
   have hdo:=hd o (by simp)
   simp only [cOps] at hc
   split at hc
   · rename_i g i is hgd hoi his
     cases hc
     have ih:=fun {γ':Gm} {σ':Sg} {w':World} {a':Act} {s':AS} (hst:Step m γ σ w γ' σ' w') (hr':Rep N γ' σ' w' a' s') (h':mopsW E.P is k s'.fr s'.H) =>
      mops_sound hE l is his (fun o ho=>hd o (by simp [ho])) hr' (k:=k) (Q:=Q) (fun g t v b u _ h1 h2 h3=>hk g t v b u trivial (hst.trans h1) h2 h3) h'
     unfold cGuard at hgd
     split at hgd
     · rename_i hg
       cases hgd
       simp only [mopsW] at h
       unfold wpListIn
       rw [if_pos (by simp [Region.wanted,hg])]
       exact (mi_sound (k:=mopsW E.P is k) hE hr hdo hoi (fun g t v b u _ h1 h2 h3=>ih h1 h2 h3) h)
     · rename_i j want hg
       obtain ⟨t,hj,he⟩:=Option.map_eq_some_iff.1 hgd
       cases he
       simp only [mopsW] at h
       split at h
       · rename_i b hb
         have hy:=yielded_get hr.fr hj hb
         unfold wpListIn
         by_cases hbw:b=want
         · rw [if_pos (by simp [Region.wanted,hg,hy,hbw])]
           have hr':Rep N γ σ w a ⟨(t,.bool want)::s.fr,s.H⟩:=⟨hr.inv,repF_set hr.fr hb (fun v hv=>by rw [hbw] at hv;exact hv),hr.defers,hr.size⟩
           exact (mi_sound (k:=mopsW E.P is k) hE hr' hdo hoi (fun g t v b u _ h1 h2 h3=>ih h1 h2 h3) (h.1 hbw))
         · have hbw':b = !want:=by cases b <;> cases want <;> simp_all
           rw [if_neg (by simp [Region.wanted,hg,hy,hbw])]
           refine ⟨fun _ _=>trivial,?_⟩
           have hr':Rep N γ σ w a ⟨(t,.bool (!want))::s.fr,s.H⟩:=⟨hr.inv,repF_set hr.fr hb (fun v hv=>by rw [hbw'] at hv;exact hv),hr.defers,hr.size⟩
           refine ih (.refl _ _ _) (s':=⟨putO ((t,.bool !want)::s.fr) (dstOfI i) (.tup []),s.H⟩) ?_ (h.2 hbw')
           rw [cOp_dst hoi]
           have:=rep_put hr' (Step.refl (m:=0) _ _ _) (Sg.le_refl _) hr'.inv hdo (x:=.tup []) (v:=undef) (by simp [RepV,RepVs,undef])
           cases hdst:o.dst <;> simpa [AS.put,putO,hdst] using this
       · rename_i hb
         have hy:=yielded_undef hr.fr hj hb
         unfold wpListIn
         rw [if_neg (by simp [Region.wanted,hg,hy])]
         refine ⟨fun _ _=>trivial,?_⟩
         refine ih (.refl _ _ _) (s':=⟨putO s.fr (dstOfI i) (.tup []),s.H⟩) ?_ h
         rw [cOp_dst hoi]
         have:=rep_put hr (Step.refl (m:=0) _ _ _) (Sg.le_refl _) hr.inv hdo (x:=.tup []) (v:=undef) (by simp [RepV,RepVs,undef])
         cases hdst:o.dst <;> simpa [AS.put,putO,hdst] using this
       · exact h.elim
   · cases hc
end
end Go.Al
