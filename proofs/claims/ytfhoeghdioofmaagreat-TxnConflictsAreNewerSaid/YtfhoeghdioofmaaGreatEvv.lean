/-
 A part of the proof.
-/
import Derived.Test.YtfhoeghdioofmaaGreatEzz
set_option linter.unusedSimpArgs false
set_option linter.unusedVariables false
namespace Go.Proofs.Try
open Go.Al
set_option maxRecDepth 100000
set_option maxHeartbeats 16000000
structure RenG (g:AV->AV) (ρ:Nat->Nat) (I:Nat->Prop):Prop where
 int:∀ k i,g (.int k i)=.int k i
 bool:∀ b,g (.bool b)=.bool b
 wr:∀ w:WR,g w.av=w.av
 kp:∀ p,g (kp p)=kp p
 op:∀ i o,I i->g (.op i o)=.op (ρ i) o
 mp:∀ i,I i->g (.mp i)=.mp (ρ i)
 slc:∀ i sz n,I i->g (.slc i sz n)=.slc (ρ i) sz n
 sub:∀ i sz off n,I i->g (.sub i sz off n)=.sub (ρ i) sz off n
def mapOb (g:AV->AV):AObj->AObj
 | .box cs=>.box (cs.map g)
 | .arr E sz xs=>.arr E sz (xs.map g)
 | .map ks vs b c=>.map (ks.map g) (vs.map g) b c
 | o=>o
def TR.ren (ρ:Nat->Nat) (a:TR):TR:={ a with t:=ρ a.t,l:=ρ a.l,r:=ρ a.r,w:=ρ a.w }
def SR.ren (ρ:Nat->Nat) (g:AV->AV) (s:SR):SR:={ s with X:=ρ s.X,K:=ρ s.K,M:=ρ s.M,rest:=s.rest.map g,kept:=s.kept.map (TR.ren ρ),act:=s.act.map fun p=>(p.1,TR.ren ρ p.2) }
section
variable {s:SR} {ρ:Nat->Nat} {g:AV->AV} {H H2:List AObj}
theorem SR.ren_ts:(s.ren ρ g).ts=s.ts:=by
 simp only [SR.ren,SR.ts,List.map_map]
 congr 1
theorem SR.ren_all:(s.ren ρ g).all=s.all.map (TR.ren ρ):=by
 simp only [SR.ren,SR.all,List.map_append,List.map_map]
 congr 1
theorem SR.ren_ids:(s.ren ρ g).ids=s.ids.map ρ:=by
 rw [SR.ids,SR.ren_all,SR.ids,List.map_cons,List.map_cons,List.map_cons,List.map_flatMap,List.flatMap_map]
 rfl
theorem nodup_map {l:List Nat} (h:l.Nodup) (hinj:∀ i ∈ l,∀ j ∈ l,ρ i=ρ j->i=j):(l.map ρ).Nodup:=by
 induction l with
 | nil=>simp
 | cons x l ih =>
   rw [List.nodup_cons] at h
   rw [List.map_cons,List.nodup_cons]
   refine ⟨fun hm=>?_,ih h.2 fun i hi j hj=>hinj i (by simp [hi]) j (by simp [hj])⟩
   obtain ⟨y,hy,e⟩:=List.mem_map.1 hm
   have:=hinj y (by simp [hy]) x (by simp) e
   exact h.1 (this ▸ hy)
theorem TR.At.ren {a:TR} (h:a.At H) {I:Nat->Prop} (hg:RenG g ρ I) (hI:∀ i ∈ a.ids,I i) (ho:∀ i ∈ a.ids,∀ o,H[i]?=some o->H2[ρ i]?=some (mapOb g o)):(a.ren ρ).At H2 where
 box:=by
  have:=ho a.t (by simp [TR.ids]) _ h.box
  rw [TR.ren]
  refine this.trans ?_
  simp only [mapOb,TR.cells,List.map_cons,List.map_nil,hg.int,hg.bool,hg.slc a.l _ _ (hI _ (by simp [TR.ids])),hg.mp a.r (hI _ (by simp [TR.ids])),hg.mp a.w (hI _ (by simp [TR.ids]))]
 log:=by
  refine (ho a.l (by simp [TR.ids]) _ h.log).trans ?_
  simp only [mapOb,List.map_map]
  congr 2
  exact List.map_congr_left fun w _=>hg.wr w
 rows:=by
  refine (ho a.r (by simp [TR.ids]) _ h.rows).trans ?_
  simp only [mapOb,List.map_map]
  congr 2
  . exact List.map_congr_left fun w _=>hg.kp w.1
  . exact List.map_congr_left fun w _=>hg.bool w.2
 whole:=by
  refine (ho a.w (by simp [TR.ids]) _ h.whole).trans ?_
  simp only [mapOb,kM,vM,List.map_map]
  congr 2
  . exact List.map_congr_left fun w _=>hg.int _ _
  . exact List.map_congr_left fun w _=>hg.bool w.2
 rwf:=h.rwf
 wwf:=h.wwf
theorem SR.At.ren (h:s.At H) (hg:RenG g ρ (· ∈ s.ids)) (hinj:∀ i ∈ s.ids,∀ j ∈ s.ids,ρ i=ρ j->i=j) (ho:∀ i ∈ s.ids,∀ o,H[i]?=some o->H2[ρ i]?=some (mapOb g o)):(s.ren ρ g).At H2 where
 box:=by
  refine (ho s.X (by simp [SR.ids]) _ h.box).trans ?_
  simp only [mapOb,SR.cells,SR.ren,List.map_cons,List.map_nil,List.length_map,hg.int,hg.sub s.K _ _ _ (by simp [SR.ids]),hg.mp s.M (by simp [SR.ids])]
 kept:=by
  refine (ho s.K (by simp [SR.ids]) _ h.kept).trans ?_
  simp only [mapOb,SR.ren,List.map_append,List.map_map]
  congr 3
  refine List.map_congr_left fun a ha=>?_
  exact hg.op a.t 0 (SR.mem_ids (s:=s) (a:=a) (by simp [SR.all,ha]) (by simp [TR.ids]))
 act:=by
  refine (ho s.M (by simp [SR.ids]) _ h.act).trans ?_
  simp only [mapOb,SR.ren,kM,vM,List.map_map]
  congr 2
  . exact List.map_congr_left fun p _=>hg.int _ _
  . refine List.map_congr_left fun p hp=>?_
    exact hg.op p.2.t 0 (SR.mem_ids (s:=s) (a:=p.2) (by simp only [SR.all,List.mem_append,List.mem_map];exact .inr ⟨p,hp,rfl⟩) (by simp [TR.ids]))
 mwf:=by simpa [SR.ren] using h.mwf
 tr:=fun a ha=>by
  rw [SR.ren_all] at ha
  obtain ⟨b,hb,rfl⟩:=List.mem_map.1 ha
  exact (h.tr b hb).ren hg (fun i hi=>SR.mem_ids hb hi) fun i hi=>ho i (SR.mem_ids hb hi)
 ids:=by rw [SR.ren_ids];exact nodup_map h.ids hinj
 asc:=by
  have e:(s.ren ρ g).act.map (·.1)=s.act.map (·.1):=by simp only [SR.ren,List.map_map];rfl
  rw [e];exact h.asc
 top:=fun p hp=>by
  obtain ⟨q,hq,rfl⟩:=List.mem_map.1 hp
  exact h.top q hq
end
theorem renL_eq {ρ:Nat->Nat}:∀ xs:List AV,renL ρ xs=xs.map (Go.Al.ren ρ)
 | []=>rfl
 | x::xs=>by simp [renL,renL_eq xs]
theorem renG_ren {ρ:Nat->Nat} {I:Nat->Prop}:RenG (Go.Al.ren ρ) ρ I where
 int k i:=by simp [Go.Al.ren]
 bool b:=by simp [Go.Al.ren]
 wr w:=ren_wr w
 kp p:=by simp [Go.Proofs.Try.kp,Go.Al.ren,renL]
 op i o _:=by simp [Go.Al.ren]
 mp i _:=by simp [Go.Al.ren]
 slc i sz n _:=by simp [Go.Al.ren]
 sub i sz off n _:=by simp [Go.Al.ren]
theorem pos_mem {l:List Nat} {i:Nat} (h:i ∈ l):∃ j,pos l i 0=some j/\l[j]?=some i:=by
 obtain ⟨h1,h2⟩:=pos_spec l i 0
 cases e:pos l i 0 with
 | none=>exact absurd h (h2 e)
 | some j=>exact ⟨j,rfl,(h1 j e).2⟩
theorem renG_pa {H:List AObj} {l:List Nat}:RenG (pa H l false 8) (fun i=>(pos l i 0).getD 0) (· ∈ l) where
 int k i:=pa_int
 bool b:=pa_bool
 wr w:=pa_wr w
 kp p:=by simp [Go.Proofs.Try.kp,pa_agg,pa_int]
 op i o h:=by obtain ⟨j,e,_⟩:=pos_mem h;simp [pa,e]
 mp i h:=by obtain ⟨j,e,_⟩:=pos_mem h;simp [pa,e]
 slc i sz n h:=by obtain ⟨j,e,_⟩:=pos_mem h;simp [pa,e]
 sub i sz off n h:=by obtain ⟨j,e,_⟩:=pos_mem h;simp [pa,e]
theorem mapOb_pa {H:List AObj} {l:List Nat} {o:AObj} (h:(∃ cs,o=.box cs)\/(∃ E sz xs,o=.arr E sz xs)\/∃ ks vs b c,o=.map ks vs b c):po H l false 8 o=mapOb (pa H l false 8) o:=by
 rcases h with ⟨cs,rfl⟩ | ⟨E,sz,xs,rfl⟩ | ⟨ks,vs,b,c,rfl⟩ <;> rfl
theorem mapOb_ren {ρ:Nat->Nat} {o:AObj} (h:(∃ cs,o=.box cs)\/(∃ E sz xs,o=.arr E sz xs)\/∃ ks vs b c,o=.map ks vs b c):renO ρ o=mapOb (Go.Al.ren ρ) o:=by
 rcases h with ⟨cs,rfl⟩ | ⟨E,sz,xs,rfl⟩ | ⟨ks,vs,b,c,rfl⟩ <;> simp [renO,mapOb,renL_eq]
theorem TR.At.kind {a:TR} {H:List AObj} (h:a.At H):∀ i ∈ a.ids,∃ o,H[i]?=some o/\((∃ cs,o=.box cs)\/(∃ E sz xs,o=.arr E sz xs)\/∃ ks vs b c,o=.map ks vs b c):=fun i hi=>by
 simp only [TR.ids,List.mem_cons,List.not_mem_nil,or_false] at hi
 rcases hi with rfl | rfl | rfl | rfl
 . exact ⟨_,h.box,.inl ⟨_,rfl⟩⟩
 . exact ⟨_,h.log,.inr (.inl ⟨_,_,_,rfl⟩)⟩
 . exact ⟨_,h.rows,.inr (.inr ⟨_,_,_,_,rfl⟩)⟩
 . exact ⟨_,h.whole,.inr (.inr ⟨_,_,_,_,rfl⟩)⟩
theorem SR.At.kind {s:SR} {H:List AObj} (h:s.At H):∀ i ∈ s.ids,∃ o,H[i]?=some o/\((∃ cs,o=.box cs)\/(∃ E sz xs,o=.arr E sz xs)\/∃ ks vs b c,o=.map ks vs b c):=fun i hi=>by
 simp only [SR.ids,List.mem_cons,List.mem_flatMap] at hi
 rcases hi with rfl | rfl | rfl | ⟨a,ha,hi⟩
 . exact ⟨_,h.box,.inl ⟨_,rfl⟩⟩
 . exact ⟨_,h.kept,.inr (.inl ⟨_,_,_,rfl⟩)⟩
 . exact ⟨_,h.act,.inr (.inr ⟨_,_,_,_,rfl⟩)⟩
 . exact (h.tr a ha).kind i hi
def SR.inn (s:SR) (H:List AObj):SR:=s.ren (fun i=>(pos s.ids i 0).getD 0) (pa H s.ids false 8)
theorem SR.At.inn {s:SR} {H:List AObj} (h:s.At H):(s.inn H).At (pH H s.ids false 8)/\(s.inn H).ts=s.ts/\(s.inn H).X=0:=by
 refine ⟨h.ren renG_pa (fun i hi j hj e=>?_) (fun i hi o ho=>?_),SR.ren_ts,?_⟩
 . obtain ⟨a,e1,e2⟩:=pos_mem hi
   obtain ⟨b,e3,e4⟩:=pos_mem hj
   simp only [e1,e3,Option.getD_some] at e
   subst e
   rw [e2] at e4;exact Option.some.inj e4
 . obtain ⟨a,e1,e2⟩:=pos_mem hi
   obtain ⟨o',h1,h2⟩:=h.kind i hi
   rw [ho] at h1;cases h1
   simp only [e1,Option.getD_some,pH,List.getElem?_map,e2,Option.map_some,ho]
   rw [mapOb_pa h2]
 . simp [SR.inn,SR.ren,SR.ids,pos]
theorem SR.At.out {s s1:SR} {H H':List AObj} (h:s.At H) (h1:s1.At H') (hid:s1.ids=List.range s.ids.length) (hlen:s.ids.length<=H'.length) (hlt:∀ i ∈ s.ids,i<H.length) :
 ∃ s2:SR,s2.At (merge (fun o=>o) H s.ids (H'.map (renO (rho s.ids H.length))))/\s2.ids=s.ids/\s2.ts=s1.ts/\s2.X=rho s.ids H.length s1.X:=by
 have hr:∀ i ∈ s1.ids,i<s.ids.length:=fun i hi=>by rw [hid] at hi;exact List.mem_range.1 hi
 have hrho:∀ i,i<s.ids.length->s.ids[i]?=some (rho s.ids H.length i):=fun i hi=>by
  have e:s.ids[i]?=some s.ids[i]:=List.getElem?_eq_getElem hi
  rw [rho,e]
 refine ⟨s1.ren (rho s.ids H.length) (Go.Al.ren (rho s.ids H.length)),h1.ren renG_ren (fun i hi j hj e=>?_) (fun i hi o ho=>?_),?_,SR.ren_ts,rfl⟩
 . have e1:=hrho i (hr i hi)
   have e2:=hrho j (hr j hj)
   rw [e] at e1
   exact (List.getElem?_inj (hr i hi) h.ids).1 (e1.trans e2.symm)
 . obtain ⟨o',h2,h3⟩:=h1.kind i hi
   rw [ho] at h2;cases h2
   rw [merge_rho _ h.ids hlt (by rw [List.length_map];exact hlen),List.getElem?_map,ho]
   simp only [Option.map_some,mapOb_ren h3]
 . rw [SR.ren_ids,hid]
   refine List.ext_getElem? fun i=>?_
   by_cases hi:i<s.ids.length
   . rw [List.getElem?_map,List.getElem?_range hi,hrho i hi];rfl
   . rw [List.getElem?_eq_none (by simp;omega),List.getElem?_eq_none (by omega)]
theorem hide_other:∀ {L:List Nat} {H:List AObj} {b:Nat},b ∉ L->(hide L H)[b]?=H[b]?
 | [],_,_,_=>rfl
 | i::L,H,b,h=>by
   simp only [List.mem_cons,not_or] at h
   rw [hide,List.getElem?_set_ne (Ne.symm h.1),hide_other h.2]
theorem inn_ids {s:SR} {H:List AObj} (h:s.At H):(s.inn H).ids=List.range s.ids.length:=by
 rw [SR.inn,SR.ren_ids]
 refine List.ext_getElem? fun i=>?_
 by_cases hi:i<s.ids.length
 . rw [List.getElem?_map,List.getElem?_range hi,List.getElem?_eq_getElem hi]
   obtain ⟨j,e1,e2⟩:=pos_mem (List.getElem_mem hi)
   have hj:j<s.ids.length:=(List.getElem?_eq_some_iff.1 e2).1
   have e3:s.ids[i]?=some s.ids[i]:=List.getElem?_eq_getElem hi
   have:=(List.getElem?_inj hi h.ids).1 (e3.trans e2.symm)
   simp only [Option.map_some,e1,Option.getD_some]
   rw [this]
 . rw [List.getElem?_eq_none (by simp;omega),List.getElem?_eq_none (by simp;omega)]
theorem a24_i {s:SR} {H H0:List AObj} (hs:s.At H) (hc:s.act.length<=1000000) (hlt:∀ i ∈ s.ids,i<H.length) {m:Nat} {N:FN} {d:Nat} {t:AT} {k:List It} {Q:Exit->AS->Prop} {fr0 fr:List (Nat × AV)}
 (hq:∀ r H',(∃ s2:SR,s2.At H'/\s2.ids=s.ids/\s2.ts=s.ts/\s2.X=s.X)->(∀ i,i<H.length->i ∉ s.ids->H'[i]?=H[i]?)->H.length<=H'.length ->
   ((s.act.map (·.1)=[]/\r=.raw (.slice none 0 0))\/∃ a,r=.slc a 1 (s.act.map (·.1)).length/\H.length<=a/\H'[a]?=some (.arr 3 1 ((s.act.map (·.1)).map (AV.int .i64))))->rE E.P m N (.a s.ids H0 t k Q fr0) ((d,r)::fr) H') :
 acallR E.P m N (some d) 24 [.op s.X 0] fr H (.a s.ids H0 t k Q fr0):=by
 obtain ⟨h1,h2,h3⟩:=hs.inn
 have h24:=c24 h1 (by simpa [SR.inn,SR.ren] using hc)
 rw [h3] at h24
 have hkeys:(s.inn H).act.map (·.1)=s.act.map (·.1):=by simp only [SR.inn,SR.ren,List.map_map];rfl
 rw [hkeys] at h24
 refine acallI_i s.ids false (by simp;exact fun x hx=>.inl hx) (by simpa using hlt) hs.ids ⟨fun r H'=>NewL (pH H s.ids false 8) (s.act.map (·.1)) r H',?_,?_⟩
 . have e:[AV.op s.X 0].map (pa H s.ids false 8)=[.op 0 0]:=by simp [pa,SR.ids,pos]
   rw [e]
   exact h24
 rintro r H'' ⟨hx,hr⟩
 refine ⟨fun h=>absurd h (by simp),?_⟩
 have hpl:(pH H s.ids false 8).length=s.ids.length:=by simp [pH]
 have hl:=hx.1
 rw [hpl] at hl
 obtain ⟨s2,k1,k2,k3,k4⟩:=hs.out (h1.ext hx) (inn_ids hs) hl hlt
 have hX0:rho s.ids H.length 0=s.X:=by simp [rho,SR.ids]
 rw [h3,hX0] at k4
 simp only [putO]
 refine hq _ _ ⟨s2,k1,k2,k3.trans h2,k4⟩ (fun i hi hn=>merge_other _ hi hn) (by rw [merge_length];omega) ?_
 rcases hr with ⟨e1,rfl⟩ | ⟨a,rfl,ha,hA⟩
 . exact .inl ⟨e1,by simp [Go.Al.ren]⟩
 . rw [hpl] at ha
   have hra:rho s.ids H.length a=H.length+(a - s.ids.length):=by
    rw [rho,List.getElem?_eq_none ha]
   refine .inr ⟨rho s.ids H.length a,by simp [Go.Al.ren],by rw [hra];omega,?_⟩
   rw [merge_rho _ hs.ids hlt (by rw [List.length_map];exact hl),List.getElem?_map,hA]
   simp only [Option.map_some,renO,renL_ints]
end Go.Proofs.Try
