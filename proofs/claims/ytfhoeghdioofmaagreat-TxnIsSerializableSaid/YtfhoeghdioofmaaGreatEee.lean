/-
 A part of the proof.
-/
import Derived.Test.YtfhoeghdioofmaaGreatEdd
set_option linter.unusedSimpArgs false
set_option linter.unusedVariables false
namespace Go.Proofs.Try
open Go.Al
set_option maxRecDepth 100000
set_option maxHeartbeats 16000000
def SR.setA (s:SR) (tx:Int) (a:TR):SR:={ s with act:=s.act.map fun p=>if p.1=tx then (tx,a) else p }
theorem map_set_split {tx:Int} {a a':TR} {l1 l2:List (Int × TR)} (h:((l1++(tx,a)::l2).map (·.1)).Pairwise (· < ·)):(l1++(tx,a)::l2).map (fun p=>if p.1=tx then (tx,a') else p)=l1++(tx,a')::l2:=by
 rw [List.map_append,List.pairwise_append] at h
 obtain ⟨_,h2,h3⟩:=h
 rw [List.map_cons,List.pairwise_cons] at h2
 have e1:l1.map (fun p=>if p.1=tx then (tx,a') else p)=l1:=by
  refine (List.map_congr_left fun p hp=>?_).trans (List.map_id _)
  have:=h3 p.1 (List.mem_map.2 ⟨p,hp,rfl⟩) tx (by simp)
  rw [if_neg (by omega)];rfl
 have e2:l2.map (fun p=>if p.1=tx then (tx,a') else p)=l2:=by
  refine (List.map_congr_left fun p hp=>?_).trans (List.map_id _)
  have:=h2.1 p.1 (List.mem_map.2 ⟨p,hp,rfl⟩)
  simp only at this
  rw [if_neg (by omega)];rfl
 rw [List.map_append,List.map_cons,e1,e2,if_pos rfl]
theorem setA_ts {s:SR} (tx:Int) (a:TR):(s.setA tx a).ts=setT s.ts tx a.x:=by
 simp only [SR.ts,setT,SR.setA,List.map_map,TS.mk.injEq,true_and]
 refine List.map_congr_left fun p _=>?_
 simp only [Function.comp]
 by_cases h:p.1=tx <;> simp [h]
theorem SR.set_at {s:SR} {H H':List AObj} {a a':TR} {tx:Int} (hs:s.At H) (hg:getM s.act tx=some a) (ht:a'.t=a.t) (ha:a'.At H') (hn:a'.ids.Nodup) (hst:Stay (· ∈ a.ids) H H') (hi:∀ i ∈ a'.ids,i ∈ a.ids\/H.length<=i):Upd s (s.setA tx a') H H':=by
 have hmem:=getM_mem hg
 have haa:=SR.act_mem hmem
 obtain ⟨l1,l2,hl⟩:=List.append_of_mem hmem
 have hasc:=hs.asc
 rw [hl] at hasc
 have hact:(s.setA tx a').act=l1++(tx,a')::l2:=by
  simp only [SR.setA]
  rw [hl];exact map_set_split hasc
 obtain ⟨n1,n2,n3,n4⟩:=hs.ne
 have hkey:(s.setA tx a').act.map (·.1)=s.act.map (·.1):=by rw [hact,hl];simp
 have hval:vM opT (s.setA tx a').act=vM opT s.act:=by rw [hact,hl];simp [vM,opT,ht]
 have hkM:kM (s.setA tx a').act=kM s.act:=kM_keys hkey
 have hids:s.ids=(s.X::s.K::s.M::(s.kept++l1.map (·.2)).flatMap TR.ids)++(a.ids++(l2.map (·.2)).flatMap TR.ids):=by
  simp only [SR.ids,SR.all,hl]
  simp [List.flatMap_append]
 have hids':(s.setA tx a').ids=(s.X::s.K::s.M::(s.kept++l1.map (·.2)).flatMap TR.ids)++(a'.ids++(l2.map (·.2)).flatMap TR.ids):=by
  simp only [SR.ids,SR.all,hact]
  simp [List.flatMap_append,SR.setA]
 have hnd:=hs.ids
 have hlt:=hs.lt
 rw [hids] at hnd hlt
 obtain ⟨d1,d2,d3⟩:=List.nodup_append.1 hnd
 obtain ⟨d4,d5,d6⟩:=List.nodup_append.1 d2
 have hall:∀ b ∈ (s.setA tx a').all,b=a'\/(b ∈ s.all/\∀ i ∈ b.ids,i ∉ a.ids):=fun b hb=>by
  have hall0:(s.setA tx a').all=s.kept++(l1.map (·.2)++a'::l2.map (·.2)):=by
   rw [SR.all,hact,List.map_append,List.map_cons];rfl
  rw [hall0] at hb
  simp only [List.mem_append,List.mem_cons] at hb
  have pre:∀ b,b ∈ s.kept++l1.map (·.2)->b ∈ s.all/\∀ i ∈ b.ids,i ∉ a.ids:=fun b hb=>by
   refine ⟨?_,fun i hi hia=>?_⟩
   . simp only [SR.all,hl,List.map_append,List.map_cons,List.mem_append,List.mem_cons]
     rcases List.mem_append.1 hb with h | h
     . exact .inl h
     . exact .inr (.inl h)
   . exact d3 i (by simp only [List.mem_cons,List.mem_flatMap];exact .inr (.inr (.inr ⟨b,hb,hi⟩))) i (List.mem_append_left _ hia) rfl
  rcases hb with hb | hb | hb | hb
  . exact .inr (pre b (List.mem_append_left _ hb))
  . exact .inr (pre b (List.mem_append_right _ hb))
  . exact .inl hb
  . refine .inr ⟨?_,fun i hi hia=>?_⟩
    . simp only [SR.all,hl,List.map_append,List.map_cons,List.mem_append,List.mem_cons]
      exact .inr (.inr (.inr hb))
    . exact d6 i hia i (List.mem_flatMap.2 ⟨b,hb,hi⟩) rfl
 have hX:∀ i,i ∈ a.ids->s.X≠i/\s.K≠i/\s.M≠i:=fun i hi=>n4 a haa i hi
 refine ⟨⟨?_,?_,?_,?_,fun b hb=>?_,?_,?_,fun p hp=>?_⟩,rfl,hst.weak fun i _ h=>SR.mem_ids haa h,fun i hi'=>?_⟩
 . exact hst.at hs.box fun h=>(hX _ h).1 rfl
 . exact hst.at hs.kept fun h=>(hX _ h).2.1 rfl
 . rw [hkM,hval];exact hst.at hs.act fun h=>(hX _ h).2.2 rfl
 . have:=congrArg List.length hkey
   simp only [List.length_map] at this
   rw [this];exact hs.mwf
 . rcases hall b hb with rfl | ⟨h1,h2⟩
   . exact ha
   . exact (hs.tr b h1).stay hst h2
 . rw [hids']
   refine List.nodup_append.2 ⟨d1,List.nodup_append.2 ⟨hn,d5,fun x hx y hy e=>?_⟩,fun x hx y hy e=>?_⟩
   . subst e
     rcases hi x hx with h | h
     . exact d6 x h x hy rfl
     . have:=hlt x (by simp only [List.mem_append];exact .inr (.inr hy));omega
   . subst e
     rcases List.mem_append.1 hy with hy | hy
     . rcases hi x hy with h | h
       . exact d3 x hx x (List.mem_append_left _ h) rfl
       . have:=hlt x (List.mem_append_left _ hx);omega
     . exact d3 x hx x (List.mem_append_right _ hy) rfl
 . rw [hkey];exact hs.asc
 . have hk:p.1 ∈ s.act.map (·.1):=by rw [<- hkey];exact List.mem_map.2 ⟨p,hp,rfl⟩
   obtain ⟨q,hq,e⟩:=List.mem_map.1 hk
   have:=hs.top q hq
   rw [e] at this;exact this
 . rw [hids'] at hi'
   rw [hids]
   simp only [List.mem_append] at hi' ⊢
   rcases hi' with h | h | h
   . exact .inl (.inl h)
   . rcases hi i h with h | h
     . exact .inl (.inr (.inl h))
     . exact .inr h
   . exact .inl (.inr (.inr h))
theorem TR.At.ids_nodup {s:SR} {H:List AObj} {a:TR} (_:a.At H) (hs:s.At H) (ha:a ∈ s.all):a.ids.Nodup:=by
 have hn:=hs.ids
 simp only [SR.ids,List.nodup_cons] at hn
 have h:=hn.2.2.2
 obtain ⟨l1,l2,hl⟩:=List.append_of_mem ha
 rw [hl,List.flatMap_append,List.flatMap_cons] at h
 exact (List.nodup_append.1 (List.nodup_append.1 h).2.1).1
open Go.Proofs.Tryz
def mc28:MC:=(.seq (.ops [pI 6 0]) (.seq (.ops [pM 10 0,pM 11 1,pW 12 71 10 11,pM 9 12,pX 13 0 9,pX 14 1 9,pM 7 13,pM 8 14]) (.seq (.seq (.ops [pM 15 8,pD 16 15 0]) (.cond 16 (.seq (.ops [pM 17 8,pM 6 17]) .ret) .skip)) (.seq (.seq (.ops [pM 18 2,(none,.v (.bin 19 .lss false (.t 18) (.c (.int .i64 0)))),pM 20 19,gF 20 (oM 21 2),gF 20 (oM 22 7),(some (20,false),.v (.nil 23 (.t 22))),gF 20 (oF 24 4 23),gF 20 (oL 25 24),gF 20 (oG 26 25),(some (20,false),.v (.bin 27 .gtr false (.t 21) (.t 26))),pO 28 20 27]) (.cond 28 (.seq (.ops [pI 6 1]) .ret) .skip)) (.seq (.ops [pM 29 7,pM 30 7,(none,.v (.nil 31 (.t 30))),pF 32 4 31,pL 33 32,pM 34 2,(none,.p (.pre 35 4 (.t 33) (some (.t 34)))),pV 36 78 35,(none,.v (.nil 37 (.t 29))),pF 38 4 37,(none,.e (.store 1 false (.t 38) (.t 36)))]) (.seq (.ops [pI 6 0]) .ret))))))
theorem ok28:FnOk E 28 39 [.tmp 6] mc28:=ofk func28
def mc58:MC:=(.seq (.ops [pI 4 0]) (.seq (.seq (.ops [pM 6 0,pG 7 6,pI 8 0]) (.block 0 (.loop (.seq (.ops [pB 9 8 7]) (.seq (.cond 9 .skip (.exit 0)) (.seq (.block 1 (.seq (.ops [pM 10 8,pM 5 10]) (.seq (.ops [pM 11 1,pM 12 0,pM 13 5,pQ 14 4 12 13,pR 15 4 14,(none,.e (.callv (some 16) (.t 11) [.t 15]))]) (.cond 16 (.seq (.ops [pM 17 5,pM 4 17]) .ret) .skip)))) (.ops [pA 18 8 1,pM 8 18]))))))) (.seq (.ops [(none,.v (.mov 4 (.c (.int .i64 (-1)))))]) .ret)))
theorem ok58:FnOk E 58 19 [.tmp 4] mc58:=ofk func58
def mc75:MC:=(.seq (.ops [pK 2 0,pZ 3]) (.seq (.ops [pF 4 0 2,pL 5 4,pF 6 0 1,pL 7 6,(none,.v (.bin 8 .eql false (.t 5) (.t 7))),pM 9 8,gT 9 (oF 10 1 2),gT 9 (oL 11 10),gT 9 (oF 12 1 1),gT 9 (oL 13 12),(some (9,true),.v (.bin 14 .eql false (.t 11) (.t 13))),pP 15 9 14,pM 3 15]) .ret))
theorem ok75:FnOk E 75 16 [.tmp 3] mc75:=ofk func75
def mc76:MC:=(.seq (.ops [pZ 4]) (.seq (.ops [pM 5 0,pM 6 1,pW 7 58 5 6,(none,.v (.bin 8 .geq false (.t 7) (.c (.int .i64 0)))),pM 4 8]) .ret))
theorem ok76:FnOk E 76 9 [.tmp 4] mc76:=ofk func76
def mc77:MC:=(.seq (.ops [pY 2]) (.seq (.seq (.ops [pM 3 0,(none,.v (.eq 4 false .slc (.t 3) (.c (.raw (.slice none 0 0)))))]) (.cond 4 (.seq (.ops [pY 2]) .ret) .skip)) (.seq (.ops [(none,.e (.mkl 5 135 3 0 (.agg [.int .i64 0,.int .i64 0,.str ⟨#[]⟩]) [])),pM 6 0,(none,.e (.app 7 135 3 32 (.t 5) (.t 6))),pM 2 7]) .ret)))
theorem ok77:FnOk E 77 8 [.tmp 2] mc77:=ofk func77
def mc78:MC:=(.seq (.ops [pY 2]) (.seq (.seq (.ops [pM 3 0,(none,.v (.eq 4 false .slc (.t 3) (.c (.raw (.slice none 0 0)))))]) (.cond 4 (.seq (.ops [pY 2]) .ret) .skip)) (.seq (.ops [(none,.e (.mkl 5 59 4 0 (.agg z1) [])),pM 6 0,(none,.e (.app 7 59 4 48 (.t 5) (.t 6))),pM 2 7]) .ret)))
theorem ok78:FnOk E 78 8 [.tmp 2] mc78:=ofk func78
def firstI {α:Type} (p:α->Bool) (l:List α):Int:=match l.findIdx? p with | some i=>i | none=>-1
theorem firstI_some {α:Type} [Inhabited α] {p:α->Bool} {l:List α} {i:Nat} (hi:i<l.length) (hp:p (l.getD i default)=true) (hn:∀ x ∈ l.take i,p x=false):firstI p l=i:=by
 unfold firstI
 have e:l.findIdx? p=some i:=by
  rw [List.findIdx?_eq_some_iff_getElem]
  refine ⟨hi,by simpa [hi] using hp,fun j hj=>?_⟩
  have:=hn l[j] (List.mem_take_iff_getElem.2 ⟨j,by omega,rfl⟩)
  simpa using this
 rw [e]
theorem firstI_none {α:Type} {p:α->Bool} {l:List α} (hn:∀ x ∈ l,p x=false):firstI p l = -1:=by
 unfold firstI
 rw [List.findIdx?_eq_none_iff.2 hn]
theorem firstI_any {α:Type} (p:α->Bool) (l:List α):decide (0<=firstI p l)=l.any p:=by
 unfold firstI
 cases h:l.findIdx? p with
 | none =>
   rw [List.findIdx?_eq_none_iff] at h
   have:l.any p=false:=by simpa using h
   rw [this];rfl
 | some i =>
   obtain ⟨hi,hp,_⟩:=List.findIdx?_eq_some_iff_getElem.1 h
   have:l.any p=true:=List.any_eq_true.2 ⟨l[i],List.getElem_mem _,hp⟩
   rw [this];simp
theorem c58 (l:List WR) (f:FuncId) (caps:List AV) (p:WR->Bool) (hp:∀ r ∈ l,ACalls E.P f (r.av::caps) [] (fun q H=>q=.bool (p r)/\H=[])) (hcap:∀ H ids bor,caps.map (pa H ids bor 8)=caps) :
 ACalls E.P 58 [.view 4 (l.map WR.av),.fn (.func f) [] caps] [] (fun r H=>r=.int .i64 (firstI p l)/\H=[]):=by
 have hmax:=maxLen_eq
 refine ok58.acalls hE hm (by simp) fun N hN=>?_
 unfold mc58 pI pM pG pB pQ pR pA
 simp only [lA,seval]
 refine LenR_i fun hl=>?_
 rw [List.length_map,hmax] at hl
 simp only [lA,seval,List.length_map]
 refine loop_i (fun i:Nat=>i<=l.length/\∀ x ∈ l.take i,p x=false) (fun i=>⟨[(0,.view 4 (l.map WR.av)),(1,.fn (.func f) [] caps),(7,.int .i64 l.length),(8,.int .i64 i)],[]⟩) (fun i=>l.length - i) 0 ⟨by omega,by simp⟩ (Ent.fr (by simp [FrSub,Go.Al.get])) ?_
 rintro i ⟨hi,hn⟩
 by_cases hil:i<l.length
 . have hpi:=hp _ (getD_mem hil)
   have hs:p (l.getD i default)=true->firstI p l=i:=fun q=>firstI_some hil q hn
   have hf:¬ p (l.getD i default)=true->∀ x ∈ l.take (i+1),p x=false:=fun q=>all_step hil hn (by simpa using q)
   generalize hx:l.getD i default=x at *
   simp only [wr_av] at hpi
   repeat' (first|(with_reducible first|(apply St.o;constructor)<;>intro _|refine ai ?_|(apply Sq.o;constructor))|((with_reducible apply Sc.o true;constructor);simp only [lP,seval,IdxR_wrs,Int.toNat_natCast,List.length_map,hx,hcap];refine ⟨_,hpi,?_⟩;rintro _ _ ⟨rfl,rfl⟩;simp only [lA,lP,seval,IdxR_wrs,Int.toNat_natCast,List.length_map,hx,hcap])|simp (disch:=omega) only [lE,seval,IdxR_wrs,Int.toNat_natCast,List.length_map,hx,hcap])
   all_goals try (exfalso;omega)
   . rename_i q
     exact keep_n (hs q).symm
   . rename_i q
     exact back_i (i+1) ⟨by omega,hf (by simpa using q)⟩ (by omega) (Ent.fr (by simp [FrSub,Go.Al.get]))
 . have hie:i=l.length:=by omega
   subst hie
   rw [List.take_length] at hn
   repeat' (first|(with_reducible first|(apply St.o;constructor)<;>intro _|refine ai ?_|(apply Sq.o;constructor))|simp (disch:=omega) only [lE,seval,List.length_map,Int.lt_irrefl,decide_false])
   exact keep_n (firstI_none hn).symm
theorem c76 (l:List WR) (f:FuncId) (caps:List AV) (p:WR->Bool) (hp:∀ r ∈ l,ACalls E.P f (r.av::caps) [] (fun q H=>q=.bool (p r)/\H=[])) (hcap:∀ H ids bor,caps.map (pa H ids bor 8)=caps) (hcap7:∀ H ids bor,caps.map (pa H ids bor 7)=caps) :
 ACalls E.P 76 [.view 4 (l.map WR.av),.fn (.func f) [] caps] [] (fun r H=>r=.bool (l.any p)/\H=[]):=by
 have h66:=c58 l f caps p hp hcap
 have ha:=firstI_any p l
 refine ok76.acalls hE hm (by simp) fun N hN=>?_
 unfold mc76 pZ pM pW
 simp only [lA,seval]
 repeat' (first|(with_reducible first|(apply St.o;constructor)<;>intro _|refine ai ?_|(apply Sq.o;constructor))|((with_reducible apply Sc.o true;constructor);simp only [lP,seval,hcap,hcap7];refine ⟨_,h66,?_⟩;rintro _ _ ⟨rfl,rfl⟩;simp only [lA,lP,seval,hcap,hcap7])|simp (disch:=omega) only [lE,seval,hcap,hcap7])
 all_goals exact keep_b ha
theorem c75 (r w:WR):ACalls E.P 75 [r.av,.vp w.cs] [] (fun q H=>q=.bool (decide (r.key=w.key))/\H=[]):=by
 have e:decide (r.key=w.key)=(decide (r.tab=w.tab) && decide (r.row=w.row)):=by
  rw [Bool.eq_iff_iff,decide_eq_true_eq,Bool.and_eq_true,decide_eq_true_eq,decide_eq_true_eq]
  exact Prod.mk.injEq .. ▸ Iff.rfl
 refine ok75.acalls hE hm (by simp) fun N hN=>?_
 unfold mc75 pK pZ pF pL pM pP gT oL oF
 simp only [lA,seval,wr_av]
 repeat' (first|(with_reducible first|(apply St.o;constructor)<;>intro _|refine ai ?_|(apply Sq.o;constructor))|simp (disch:=omega) only [lE,seval,fillE,setAll])
 all_goals refine keep_b ?_
 all_goals rw [e]
 all_goals simp_all
theorem c77 (xs:List VL) (hc:xs.length<=4398046510976):ACalls E.P 77 [rowV xs] [] (fun r H=>r=rowV xs/\H=[]):=by
 have hmax:=maxLen_eq
 cases xs with
 | nil =>
   refine ACalls.view0 fun a c=>?_
   refine ok77.acalls hE hm (by simp) fun N hN=>?_
   unfold mc77 pY pM
   simp only [lA,seval]
   cases a with
   | none =>
     repeat' (first|(with_reducible first|(apply St.o;constructor)<;>intro _|refine ai ?_|(apply Sq.o;constructor))|simp (disch:=omega) only [lE,seval,slcNil,isEmptySlice,Option.isNone_none])
     all_goals try (rename_i h;simp at h;done)
     exact keepw_i [] false rfl (by simp) rfl weak_nil ⟨rfl,by simp only [lP,seval]⟩
   | some b =>
     repeat' (first|(with_reducible first|(apply St.o;constructor)<;>intro _|refine ai ?_|(apply Sq.o;constructor))|simp (disch:=omega) only [lE,seval,slcNil,isEmptySlice,Option.isNone_some])
     all_goals try (rename_i h;simp at h;done)
     exact keep_i [] true (by simp) (by simp) rfl ⟨by simp only [lP,seval,List.map_nil];rfl,by simp only [lP,seval]⟩
 | cons v l =>
   simp only [rowV,List.map_cons]
   simp only [List.length_cons] at hc
   refine ok77.acalls hE hm (by simp) fun N hN=>?_
   unfold mc77 pY pM
   simp only [lA,seval]
   repeat' (first|(with_reducible first|(apply St.o;constructor)<;>intro _|refine ai ?_|(apply Sq.o;constructor))|simp (disch:=omega) only [lE,seval,List.length_map,List.length_cons])
   have e:=vw_vls (H:=[AObj.dead,AObj.arr 135 3 ((v::l).map VL.av)]) (l:=[]) (n:=6) (xs:=v::l)
   simp only [List.map_cons] at e
   exact keep_i [] true (by simp) (by simp) rfl ⟨by simp only [lP,seval,e],by simp only [lP,seval]⟩
theorem c78 {H:List AObj} {l:Nat} {log:List WR} (hH:H[l]?=some (.arr 59 4 (log.map WR.av))) (hc:log.length<=1000000) {k:Nat} (hk:k<=log.length):ACalls E.P 78 [.sub l 4 0 k] H (fun r H'=>∃ n,r=.slc n 4 k/\H.length<=n/\H'[n]?=some (.arr 59 4 ((log.take k).map WR.av))/\Ext H H'):=by
 have hmax:=maxLen_eq
 have hlt:=at_lt hH
 have hx:∀ L,Ext H (H++L):=fun L=>Stay.app _ _ _
 cases k with
 | zero =>
   refine ACalls.sub0 hH fun a c=>?_
   refine ACalls.ghost 59 4 (by omega) ?_
   refine ok78.acalls0 hE hm (by simp) fun N hN=>?_
   unfold mc78 z1 pY pM
   simp only [lA,seval]
   cases a with
   | none =>
     repeat' (first|(with_reducible first|(apply St.o;constructor)<;>intro _|refine ai ?_|(apply Sq.o;constructor))|simp (disch:=omega) only [lE,seval,slcNil,isEmptySlice,Option.isNone_none])
     all_goals try (rename_i h;simp at h;done)
     exact .inl ⟨H.length,rfl,Nat.le_refl _,get_last,hx _⟩
   | some b =>
     repeat' (first|(with_reducible first|(apply St.o;constructor)<;>intro _|refine ai ?_|(apply Sq.o;constructor))|simp (disch:=omega) only [lE,seval,slcNil,isEmptySlice,Option.isNone_some,get_last,set_last])
     all_goals try (rename_i h;simp at h;done)
     refine .inr ⟨H.length+1,?_,by omega,?_,?_⟩
     . simp
     . simp
     . rw [List.append_assoc];exact hx _
 | succ k =>
   have g1:∀ o,(H++[o])[l]?=some (.arr 59 4 (log.map WR.av)):=fun o=>by rw [at_app _ _ _ hlt];exact hH
   have hlen:(List.take (k+1) (List.map WR.av log)).length=k+1:=by rw [List.length_take,List.length_map];omega
   refine ok78.acalls0 hE hm (by simp) fun N hN=>?_
   unfold mc78 z1 pY pM
   simp only [lA,seval]
   repeat' (first|(with_reducible first|(apply St.o;constructor)<;>intro _|refine ai ?_|(apply Sq.o;constructor))|simp (disch:=omega) only [lE,seval,slcNil,hH,g1,srcOf,hk,if_true,hlen,get_last,set_last])
   refine ⟨H.length+1,by simp,by omega,?_,by rw [List.append_assoc];exact hx _⟩
   simp [List.map_take]
def writeS (s:TS) (tx:Int) (w:WR):Int × TS :=
 match getT s tx with
 | none=>(273,s)
 | some t =>
   if t.mode=2 then (270,s)
   else if w.tab<0\/256<=w.tab\/w.row<1\/1073741824<w.row\/(w.dead=true/\0<w.vals.length) then (1,s)
   else if (t.log.any fun x=>decide (x.key=w.key))=false/\64<=(lastW t.log).length then (2,s)
   else (0,setT s tx { t with log:=t.log++[w] })
def backS (s:TS) (tx mark:Int):Int × TS :=
 match getT s tx with
 | none=>(273,s)
 | some t=>if mark<0\/(t.log.length:Int)<mark then (1,s) else (0,setT s tx { t with log:=t.log.take mark.toNat })
theorem c28 {s:SR} {H:List AObj} (hs:s.At H) (tx mark:Int) (hl:∀ a,getM s.act tx=some a->a.x.log.length<=1000000):ACalls E.P 28 [.op s.X 0,.int .i64 tx,.int .i64 mark] H (fun r H'=>r=.int .i64 (backS s.ts tx mark).1/\∃ s',Upd s s' H H'/\s'.ts=(backS s.ts tx mark).2):=by
 have hmax:=maxLen_eq
 have h71:=c71 hs tx
 refine ok28.acalls0 hE hm (by simp) fun N hN=>?_
 unfold mc28 pI pM pW pX pD pO pF pL pV gF oM oL oF oG
 simp only [lA,seval]
 repeat' (first|(with_reducible first|(apply St.o;constructor)<;>intro _|refine ai ?_|(apply Sq.o;constructor))|simp (disch:=omega) only [lE,seval])
 refine callW_i h71 ?_
 rintro _ H ⟨rfl,rfl⟩
 unfold backS
 rw [getT_ts]
 cases hg:getM s.act tx with
 | none =>
   simp only [Option.map_none]
   repeat' (first|(with_reducible first|(apply St.o;constructor)<;>intro _|refine ai ?_|(apply Sq.o;constructor))|simp (disch:=omega) only [lE,seval])
   exact ⟨s,Upd.ext hs (Stay.refl _ _),rfl⟩
 | some a =>
   have haa:a ∈ s.all:=SR.act_mem (getM_mem hg)
   have ha:=hs.tr _ haa
   have h3:=ha.box
   have h4:=ha.log
   have hll:=hl a hg
   simp only [TR.cells] at h3
   simp only [Option.map_some]
   by_cases hc:mark<0\/(a.x.log.length:Int)<mark
   . rw [if_pos hc]
     repeat' (first|(with_reducible first|(apply St.o;constructor)<;>intro _|refine ai ?_|(apply Sq.o;constructor))|simp (disch:=omega) only [lE,seval,h3,h4,List.length_map])
     all_goals first
      | (exfalso;omega)
      | exact ⟨s,Upd.ext hs (Stay.refl _ _),rfl⟩
   . rw [if_neg hc]
     obtain ⟨k,rfl⟩:∃ k:Nat,mark=k:=⟨mark.toNat,by omega⟩
     have hk:k<=a.x.log.length:=by omega
     have h78:=c78 h4 hll hk
     repeat' (first|(with_reducible first|(apply St.o;constructor)<;>intro _|refine ai ?_|(apply Sq.o;constructor))|simp (disch:=omega) only [lE,seval,h3,h4,List.length_map])
     all_goals try (exfalso;omega)
     refine callW_i h78 ?_
     rintro _ H1 ⟨n,rfl,hn,h1,hx⟩
     have h5:=hx.at h3
     have hne:n≠a.t:=by have:=at_lt h3;omega
     repeat' (first|(with_reducible first|(apply St.o;constructor)<;>intro _|refine ai ?_|(apply Sq.o;constructor))|simp (disch:=omega) only [lE,seval,h5,setAll])
     have hid:=ha.ids_nodup hs haa
     simp only [TR.ids,List.nodup_cons,List.mem_cons,List.not_mem_nil,or_false,not_or] at hid
     obtain ⟨⟨d1,d2,d3⟩,⟨d4,d5⟩,d6,_⟩:=hid
     have q1:=at_lt h3
     have q2:=at_lt ha.rows
     have q3:=at_lt ha.whole
     have q4:=at_lt h1
     have q5:=at_lt h5
     refine ⟨s.setA tx { a with l:=n,x:={ a.x with log:=a.x.log.take k } },SR.set_at (a':={ a with l:=n,x:={ a.x with log:=a.x.log.take k } }) hs hg rfl ⟨?_,?_,?_,?_,ha.rwf,ha.wwf⟩ ?_ ?_ ?_,setA_ts _ _⟩
     . rw [at_same _ _ _ q5];simp [TR.cells,hk]
     . simp only;rw [at_set _ _ _ _ (by omega)];exact h1
     . simp only;rw [at_set _ _ _ _ (by omega)];exact hx.at ha.rows
     . simp only;rw [at_set _ _ _ _ (by omega)];exact hx.at ha.whole
     . simp [TR.ids];omega
     . exact hx.to.trans (O':=fun i=>i=a.t) (Stay.set rfl) fun i _ h=>by simp [TR.ids,h]
     . intro i hi
       simp only [TR.ids,List.mem_cons,List.not_mem_nil,or_false] at hi ⊢
       omega
end Go.Proofs.Try
