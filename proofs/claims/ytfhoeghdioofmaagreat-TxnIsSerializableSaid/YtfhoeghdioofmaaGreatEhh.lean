/-
 A part of the proof.
-/
import Derived.Test.YtfhoeghdioofmaaGreatEgg
import Derived.Test.YtfhoeghdioofmaaGreatKbb
set_option linter.unusedSimpArgs false
set_option linter.unusedVariables false
namespace Go.Proofs.Try
open Go.Proofs.Tryz
open Go.Al
set_option maxRecDepth 100000
def mc24:MC:=(.seq (.ops [pY 2]) (.seq (.ops [pM 3 0,(none,.v (.nil 4 (.t 3))),pF 5 4 4,pL 6 5,pV 7 74 6,pV 8 60 7,pM 2 8]) .ret))
theorem ok24:FnOk E 24 9 [.tmp 2] mc24:=ofk func24
def mc61:MC:=(.seq (.ops [pK 1 0,(none,.v (.mov 2 (.c (.raw .nilFunc))))]) (.seq (.ops [(none,.v (.fn 3 (.func 112) [] [.t 1])),pM 2 3]) .ret))
theorem ok61:FnOk E 61 4 [.tmp 2] mc61:=ofk func61
def mc74:MC:=(.seq (.ops [pK 1 0,(none,.v (.mov 2 (.c (.raw .nilFunc))))]) (.seq (.ops [(none,.v (.fn 3 (.func 117) [] [.t 1])),pM 2 3]) .ret))
theorem ok74:FnOk E 74 4 [.tmp 2] mc74:=ofk func74
set_option maxHeartbeats 16000000
theorem c74 {H:List AObj} (M:Nat):ACalls E.P 74 [.mp M] H (fun r H'=>r=.fn (.func 117) [] [.op H.length 0]/\H'=H++[.box [.mp M]]):=by
 refine ok74.acalls0 hE hm (by simp) fun N hN=>?_
 unfold mc74 pK pM
 simp only [lA,seval]
 repeat' (first|(with_reducible first|(apply St.o;constructor)<;>intro _|refine ai ?_|(apply Sq.o;constructor))|simp (disch:=omega) only [lE,seval])
theorem c61 {H:List AObj} (M:Nat):ACalls E.P 61 [.mp M] H (fun r H'=>r=.fn (.func 112) [] [.op H.length 0]/\H'=H++[.box [.mp M]]):=by
 refine ok61.acalls0 hE hm (by simp) fun N hN=>?_
 unfold mc61 pK pM
 simp only [lA,seval]
 repeat' (first|(with_reducible first|(apply St.o;constructor)<;>intro _|refine ai ?_|(apply Sq.o;constructor))|simp (disch:=omega) only [lE,seval])
theorem srt_lt {l m:List Int} (hn:l.Nodup) (hm:m.Pairwise (· < ·)) (h:∀ x,x ∈ l↔x ∈ m):srt l=m:=by
 refine asc_eq ?_ hm fun x=>by rw [(srt_perm l).mem_iff];exact h x
 exact ((srt_asc l).and ((srt_perm l).nodup_iff.2 hn)).imp fun {a b} h=>by omega
theorem SR.At.keys {s:SR} {H:List AObj} (hs:s.At H):srt (keysM s.act)=s.act.map (·.1):=srt_lt (hs.asc.imp fun {a b} h e=>by omega) hs.asc fun x=>Iff.rfl
theorem NewL.pre {H0 H1 H2:List AObj} {l:List Int} {r:AV} (hx:Ext H0 H1) (h:NewL H1 l r H2):NewL H0 l r H2:=by
 refine ⟨hx.trans h.1 fun _ _ h=>h,?_⟩
 rcases h.2 with h | ⟨a,h1,h2,h3⟩
 . exact .inl h
 . exact .inr ⟨a,h1,Nat.le_trans hx.1 h2,h3⟩
theorem c24 {s:SR} {H:List AObj} (hs:s.At H) (hc:s.act.length<=1000000):ACalls E.P 24 [.op s.X 0] H (fun r H'=>NewL H (s.act.map (·.1)) r H'):=by
 have h1:=hs.box
 have h2:=hs.act
 simp only [SR.cells] at h1
 have hb:(H++[AObj.box [.mp s.M]])[H.length]?=some (.box [.mp s.M]):=get_last
 have hM:(H++[AObj.box [.mp s.M]])[s.M]?=some (.map (kM s.act) (vM opT s.act) s.mb s.mc):=by rw [at_app _ _ _ (at_lt h2)];exact h2
 have h60:=c60w opT s.act s.mb s.mc hs.mwf (by omega) c117g hb hM
 rw [hs.keys] at h60
 refine ok24.acalls0 hE hm (by simp) fun N hN=>?_
 unfold mc24 pY pM pF pL pV
 simp only [lA,seval]
 repeat' (first|(with_reducible first|(apply St.o;constructor)<;>intro _|refine ai ?_|(apply Sq.o;constructor))|simp (disch:=omega) only [lE,seval,h1])
 refine callW_i (c74 _) ?_
 rintro _ _ ⟨rfl,rfl⟩
 repeat' (first|(with_reducible first|(apply St.o;constructor)<;>intro _|refine ai ?_|(apply Sq.o;constructor))|simp (disch:=omega) only [lE,seval])
 refine callW_i h60 ?_
 rintro r H' h
 repeat' (first|(with_reducible first|(apply St.o;constructor)<;>intro _|refine ai ?_|(apply Sq.o;constructor))|simp (disch:=omega) only [lE,seval])
 exact h.pre (Stay.app _ _ _)
def setsM (l:List Int):List (Int × Bool):=l.foldl (fun m n=>setM m n true) []
theorem setsM_snoc (l:List Int) (n:Int):setsM (l++[n])=setM (setsM l) n true:=by simp [setsM]
theorem setsM_keys (l:List Int):(keysM (setsM l)).Nodup/\∀ x,x ∈ keysM (setsM l)↔x ∈ l:=by
 refine rev_ind (p:=fun l=>(keysM (setsM l)).Nodup/\∀ x,x ∈ keysM (setsM l)↔x ∈ l) (by simp [setsM,keysM]) (fun l n ih=>?_) l
 obtain ⟨i1,i2⟩:=ih
 rw [setsM_snoc,keysM_set]
 by_cases h:n ∈ keysM (setsM l)
 . rw [if_pos h]
   refine ⟨i1,fun x=>?_⟩
   rw [i2,List.mem_append,List.mem_singleton]
   constructor
   . exact .inl
   . rintro (h1 | rfl)
     . exact h1
     . exact (i2 _).1 h
 . rw [if_neg h]
   refine ⟨List.nodup_append.2 ⟨i1,by simp,fun a ha b hb e=>h (by rw [List.mem_singleton.1 hb] at e;exact e ▸ ha)⟩,fun x=>?_⟩
   rw [List.mem_append,List.mem_append,i2]
theorem srt_sets {l m:List Int} (h:∀ x,x ∈ l↔x ∈ m):srt (keysM (setsM l))=ascL m :=
 srt_lt (setsM_keys l).1 (ascL_asc m) fun x=>by rw [(setsM_keys l).2,mem_ascL];exact h x
theorem setsM_len (l:List Int):(setsM l).length<=l.length:=by
 have h:=nodup_len (A:=keysM (setsM l)) (B:=l) (setsM_keys l).1 fun x hx=>((setsM_keys l).2 x).1 hx
 simpa [keysM] using h
theorem walk_all {α:Type} [Inhabited α] {m:List α} {bs is:List Nat} {c:Nat} (hw:WfM m.length bs c) (hn:is.Nodup) (hlt:∀ i ∈ is,i<m.length) (hall:∀ b ∈ bs,b ∈ is.map fun i=>bs.getD i 0):∀ i,i<m.length->i ∈ is:=fun i hi=>by
 have hin:∀ i j,i<m.length->j<m.length->bs.getD i 0=bs.getD j 0->i=j:=fun i j hi hj e=>by
  rw [<- hw.len] at hi hj
  rw [List.getD_eq_getElem?_getD,List.getD_eq_getElem?_getD,List.getElem?_eq_getElem hi,List.getElem?_eq_getElem hj] at e
  exact nodup_inj hw.nodup e
 have hib:bs.getD i 0 ∈ bs:=by
  rw [List.getD_eq_getElem?_getD,List.getElem?_eq_getElem (by rw [hw.len];exact hi),Option.getD_some]
  exact List.getElem_mem _
 obtain ⟨j,hj,e⟩:=List.mem_map.1 (hall _ hib)
 rw [hin j i (hlt j hj) hi e] at hj
 exact hj
theorem walk_next {α:Type} [Inhabited α] {m:List α} {bs is:List Nat} {c i b:Nat} (hw:WfM m.length bs c) (hn:is.Nodup) (hlt:∀ i ∈ is,i<m.length) (hb:bs[i]?=some b) (hns:b ∉ is.map fun i=>bs.getD i 0):i<m.length/\m[i]?=some (m.getD i default)/\(is++[i]).Nodup/\(∀ j ∈ is++[i],j<m.length)/\is.length+1<=m.length/\(is++[i]).map (fun i=>bs.getD i 0)=(is.map fun i=>bs.getD i 0)++[b]:=by
 obtain ⟨hi,e0⟩:=List.getElem?_eq_some_iff.1 hb
 rw [hw.len] at hi
 have hbi:bs.getD i 0=b:=by rw [List.getD_eq_getElem?_getD,hb];rfl
 have hni:i ∉ is:=fun h=>hns (by rw [<- hbi];exact List.mem_map.2 ⟨i,h,rfl⟩)
 have hn2:(is++[i]).Nodup:=List.nodup_append.2 ⟨hn,by simp,fun a ha b hb e=>by
  rw [List.mem_singleton.1 hb] at e
  exact hni (e ▸ ha)⟩
 have hlt2:∀ j ∈ is++[i],j<m.length:=fun j hj=>by
  rcases List.mem_append.1 hj with hj | hj
  . exact hlt j hj
  . rw [List.mem_singleton.1 hj];exact hi
 refine ⟨hi,by rw [List.getElem?_eq_getElem hi,List.getD_eq_getElem?_getD,List.getElem?_eq_getElem hi,Option.getD_some],hn2,hlt2,?_,by rw [List.map_append,<- hbi];rfl⟩
 have:=nodup_len (B:=List.range m.length) hn2 fun j hj=>List.mem_range.2 (hlt2 j hj)
 rw [List.length_range,List.length_append] at this
 simpa using this
def mc55:MC:=(.seq (.ops [pY 2]) (.seq (.ops [pM 6 0,(none,.v (.nil 7 (.t 6))),pF 8 3 7,pL 9 8,pV 10 104 9,pM 3 10]) (.seq (.seq (.ops [pM 11 0,pV 12 24 11,pG 13 12,pI 14 0]) (.block 0 (.loop (.seq (.ops [pB 15 14 13]) (.seq (.cond 15 .skip (.exit 0)) (.seq (.block 1 (.seq (.ops [pQ 16 1 12 14,pL 17 16,pM 5 17]) (.ops [pM 18 3,pM 19 0,(none,.v (.nil 20 (.t 19))),pF 21 4 20,pL 22 21,pM 23 5,(none,.p (.look 24 false (.int .i64) (.raw (.pointer none)) (.t 22) (.t 23))),(none,.e (.mkl 25 98 1 1 (.raw (.pointer none)) [(0,.t 24)])),(none,.e (.app 26 98 1 8 (.t 18) (.t 25))),pM 3 26]))) (.ops [pA 27 14 1,pM 14 27]))))))) (.seq (.ops [pM 28 3,pM 2 28]) .ret))))
theorem ok55:FnOk E 55 29 [.tmp 2] mc55:=ofk func55
def mc104:MC:=(.seq (.ops [pY 2]) (.seq (.seq (.ops [pM 3 0,(none,.v (.eq 4 false .slc (.t 3) (.c (.raw (.slice none 0 0)))))]) (.cond 4 (.seq (.ops [pY 2]) .ret) .skip)) (.seq (.ops [(none,.e (.mkl 5 98 1 0 (.raw (.pointer none)) [])),pM 6 0,(none,.e (.app 7 98 1 8 (.t 5) (.t 6))),pM 2 7]) .ret)))
theorem ok104:FnOk E 104 8 [.tmp 2] mc104:=ofk func104
theorem c104 {H:List AObj} {K k:Nat} {l:List TR} {rest:List AV} (hH:H[K]?=some (.arr 98 1 (l.map opT++rest))) (hc:l.length<=1000000) (hk:l.length=k):ACalls E.P 104 [.sub K 1 0 k] H (fun r H'=>∃ n,r=.slc n 1 k/\H.length<=n/\H'[n]?=some (.arr 98 1 (l.map opT))/\Ext H H'):=by
 have hmax:=maxLen_eq
 have hlt:=at_lt hH
 have hx:∀ L,Ext H (H++L):=fun L=>Stay.app _ _ _
 cases k with
 | zero =>
   have hl0:=List.eq_nil_of_length_eq_zero hk
   subst hl0
   refine ACalls.sub0 hH fun a c=>?_
   refine ACalls.ghost 98 1 (by omega) ?_
   refine ok104.acalls0 hE hm (by simp) fun N hN=>?_
   unfold mc104 pY pM
   simp only [lA,seval]
   cases a with
   | none =>
     repeat' (first|(with_reducible first|(apply St.o;constructor)<;>intro _|refine ai ?_|(apply Sq.o;constructor))|simp (disch:=omega) only [lE,seval,slcNil,isEmptySlice,Option.isNone_none])
     all_goals try (rename_i h;simp at h;done)
     exact .inl ⟨H.length,rfl,Nat.le_refl _,get_last,hx _⟩
   | some b =>
     repeat' (first|(with_reducible first|(apply St.o;constructor)<;>intro _|refine ai ?_|(apply Sq.o;constructor))|simp (disch:=omega) only [lE,seval,slcNil,isEmptySlice,Option.isNone_some,get_last,set_last])
     all_goals try (rename_i h;simp at h;done)
     refine .inr ⟨H.length+1,?_,by omega,?_,?_⟩
     . simp
     . simp
     . rw [List.append_assoc];exact hx _
 | succ k =>
   have g1:∀ o,(H++[o])[K]?=some (.arr 98 1 (l.map opT++rest)):=fun o=>by rw [at_app _ _ _ hlt];exact hH
   have htk:(l.map opT++rest).take (k+1)=l.map opT:=by rw [List.take_append_of_le_length (by simp;omega),<- hk];exact List.take_of_length_le (by simp)
   have hle:k+1<=(l.map opT++rest).length:=by simp;omega
   have hln:(l.map opT).length=k+1:=by simp [hk]
   generalize l.map opT++rest=xs at *
   refine ok104.acalls0 hE hm (by simp) fun N hN=>?_
   unfold mc104 pY pM
   simp only [lA,seval]
   repeat' (first|(with_reducible first|(apply St.o;constructor)<;>intro _|refine ai ?_|(apply Sq.o;constructor))|simp (disch:=omega) only [lE,seval,slcNil,hH,g1,srcOf,hle,htk,hln,if_true,get_last,set_last])
   refine ⟨H.length+1,by simp,by omega,?_,by rw [List.append_assoc];exact hx _⟩
   simp
def OwnL (H0:List AObj) (l:List Int) (r:AV) (H:List AObj):Prop:=Ext H0 H/\∃ a,r=.slc a 1 l.length/\H0.length<=a/\H[a]?=some (.arr 3 1 (l.map (AV.int .i64)))
theorem ownL_of {f:FuncId} {args:List AV} {H:List AObj} {l:List Int} (h:ACalls E.P f args H fun r H'=>NewL H l r H'):ACalls E.P f args H fun r H'=>OwnL H l r H':=by
 refine ACalls.ghost 3 1 (by omega) (h.mono ?_)
 rintro r H' ⟨hx,⟨rfl,rfl⟩ | h⟩
 . exact .inl ⟨rfl,hx.trans (Stay.app _ _ _) fun _ _ h=>h,H'.length,rfl,hx.1,get_last⟩
 . exact .inr ⟨hx,h⟩
theorem c24o {s:SR} {H:List AObj} (hs:s.At H) (hc:s.act.length<=1000000):ACalls E.P 24 [.op s.X 0] H (fun r H'=>OwnL H (s.act.map (·.1)) r H'):=ownL_of (c24 hs hc)
theorem getM_act {s:SR} {H:List AObj} (hs:s.At H) {p:Int × TR} (hp:p ∈ s.act):getM s.act p.1=some p.2:=by
 obtain ⟨l1,l2,hl⟩:=List.append_of_mem hp
 have hasc:=hs.asc
 rw [hl,List.map_append,List.pairwise_append] at hasc
 rw [hl]
 have h3:=hasc.2.2
 clear hl hasc
 induction l1 with
 | nil=>rw [List.nil_append,getM_cons,if_pos rfl]
 | cons q l1 ih =>
   have:=h3 q.1 (by simp) p.1 (by simp)
   rw [List.cons_append,getM_cons,if_neg (by omega)]
   exact ih fun x hx y hy=>h3 x (by simp only [List.map_cons,List.mem_cons];exact .inr hx) y hy
theorem c55 {s:SR} {H:List AObj} (hs:s.At H) (hk:s.kept.length<=10000) (hc:s.act.length<=10000):ACalls E.P 55 [.op s.X 0] H (fun r H'=>∃ n,r=.slc n 1 s.all.length/\H.length<=n/\H'[n]?=some (.arr 98 1 (s.all.map opT))/\Ext H H'):=by
 have hmax:=maxLen_eq
 have h1:=hs.box
 have h2:=hs.act
 simp only [SR.cells] at h1
 have h104:=c104 hs.kept (by omega) rfl
 refine ok55.acalls0 hE hm (by simp) fun N hN=>?_
 unfold mc55 pY pM pF pL pV pG pI pB pQ pA
 simp only [lA,seval]
 repeat' (first|(with_reducible first|(apply St.o;constructor)<;>intro _|refine ai ?_|(apply Sq.o;constructor))|simp (disch:=omega) only [lE,seval,h1])
 refine callW_i h104 ?_
 rintro _ H1 ⟨n1,rfl,hn1,hnH,hx1⟩
 have h24:=c24o (hs.ext hx1) (by omega)
 repeat' (first|(with_reducible first|(apply St.o;constructor)<;>intro _|refine ai ?_|(apply Sq.o;constructor))|simp (disch:=omega) only [lE,seval])
 refine callW_i h24 ?_
 rintro _ H2 ⟨hx2,a,rfl,ha,har⟩
 have hx12:Ext H H2:=hx1.trans hx2 fun _ _ h=>h
 have hkn:=hx2.at hnH
 have hn1l:=at_lt hnH
 rw [List.length_map] at *
 repeat' (first|(with_reducible first|(apply St.o;constructor)<;>intro _|refine ai ?_|(apply Sq.o;constructor))|simp (disch:=omega) only [lE,seval,har,List.length_map])
 refine loop_i (fun p:Nat × Nat × List AObj=>p.1<=s.act.length/\Ext H p.2.2/\p.2.2[a]?=some (.arr 3 1 ((s.act.map (·.1)).map (AV.int .i64)))/\H.length<=p.2.1/\p.2.1≠a/\p.2.2[p.2.1]?=some (.arr 98 1 ((s.kept++(s.act.take p.1).map (·.2)).map opT)))
  (fun p=>⟨[(0,.op s.X 0),(3,.slc p.2.1 1 (s.kept.length+p.1)),(12,.slc a 1 s.act.length),(13,.int .i64 s.act.length),(14,.int .i64 p.1)],p.2.2⟩) (fun p=>s.act.length - p.1) (0,n1,H2)
  ⟨by simp,hx12,har,hn1,by simp only;omega,by simpa using hkn⟩ (Ent.fr (by simp [FrSub,Go.Al.get])) ?_
 rintro ⟨i,n,H3⟩ ⟨hi,hx3,ha3,hnl,hna,hn3⟩
 simp only at hi hx3 ha3 hnl hna hn3 ⊢
 by_cases hin:i<s.act.length
 . have hlt:((i:Int)<(s.act.length:Int)):=by omega
   have hep:∀ {m N d c},epR E.P m N (some (.arr 3 1 ((s.act.map (·.1)).map (AV.int .i64)))) (i:Int) s.act.length a 1 d c=rK E.P m N c d (.ep a 1 i 0):=epR_ne (by simp) (by omega) (by omega)
   have hge:((s.act.map (·.1)).map (AV.int .i64))[i]?=some (.int .i64 (s.act.getD i default).1):=by simp [hin]
   have hgm:=getM_act hs (getD_mem hin)
   have hlk:=look_m opT (.raw (.pointer none)) s.act (s.act.getD i default).1
   have htk:=take_succD hin
   rw [hgm] at hlk
   simp only [opT] at hlk
   have k1:=hx3.at h1
   have k2:=hx3.at h2
   have l1:=at_lt k1
   have l2:=at_lt k2
   have l3:=at_lt ha3
   have l4:=at_lt hn3
   generalize s.act.getD i default=p at *
   have e2:∀ o,(H3++[o])[n]?=some (.arr 98 1 ((s.kept++(s.act.take i).map (·.2)).map opT)):=fun o=>by rw [at_app _ _ _ l4];exact hn3
   have hlen:((s.kept++(s.act.take i).map (·.2)).map opT).length=s.kept.length+i:=by simp;omega
   generalize hxs:(s.kept++(s.act.take i).map (·.2)).map opT=xs at *
   repeat' (first|(with_reducible first|(apply St.o;constructor)<;>intro _|refine ai ?_|(apply Sq.o;constructor))|simp (disch:=omega) only [lE,seval,ha3,hep,hge,k1,k2,hlk,e2,hlen,hlt,get_last,set_last,Int.toNat_natCast,decide_true,List.length_append,List.length_cons,List.length_nil])
   refine back_i (i+1,H3.length+1,_) ⟨by simp only;omega,?_,?_,?_,?_,?_⟩ (by simp only;omega) (Ent.fr ?_)
   . exact ((hx3.trans (O':=fun i=>i=n) (Stay.app _ _ _) fun i hi h=>by omega).trans (O':=fun i=>i=n) (Stay.set rfl) fun i hi h=>by omega).trans (O':=fun _=>False) (Stay.app _ _ _) fun _ _ h=>h
   . simp only;rw [at_app _ _ _ (by simp;omega),at_set _ _ _ _ (by omega),at_app _ _ _ l3];exact ha3
   . have:=hx3.1;simp only;omega
   . simp only;omega
   . simp only
     rw [show H3.length+1=((H3++[AObj.arr 98 1 [AV.op p.2.t 0]]).set n .dead).length by simp,get_last,htk,<- hxs]
     simp [opT]
   . simp [FrSub,Go.Al.get];omega
 . obtain rfl:i=s.act.length:=by omega
   rw [List.take_length] at hn3
   repeat' (first|(with_reducible first|(apply St.o;constructor)<;>intro _|refine ai ?_|(apply Sq.o;constructor))|simp (disch:=omega) only [lE,seval,Int.lt_irrefl,decide_false])
   refine ⟨n,?_,hnl,hn3,hx3⟩
   simp [SR.all]
def mc46:MC:=(.seq (.ops [pI 4 0]) (.seq (.ops [pM 5 0,(none,.p (.shl 6 (.t 5) (.c (.int .u64 31)))),pM 7 1,(none,.v (.bin 8 .add false (.t 6) (.t 7))),pM 4 8]) .ret))
theorem ok46:FnOk E 46 9 [.tmp 4] mc46:=ofk func46
def mc103:MC:=(.seq (.ops [pI 4 0]) (.seq (.seq (.ops [pM 6 0,pG 7 6,pI 8 0]) (.block 0 (.loop (.seq (.ops [pB 9 8 7]) (.seq (.cond 9 .skip (.exit 0)) (.seq (.block 1 (.seq (.ops [pM 10 8,pM 5 10]) (.seq (.ops [pM 11 1,pM 12 0,pM 13 5,pQ 14 1 12 13,pL 15 14,(none,.v (.eq 16 false .obj (.t 11) (.t 15)))]) (.cond 16 (.seq (.ops [pM 17 5,pM 4 17]) .ret) .skip)))) (.ops [pA 18 8 1,pM 8 18]))))))) (.seq (.ops [(none,.v (.mov 4 (.c (.int .i64 (-1)))))]) .ret)))
theorem ok103:FnOk E 103 19 [.tmp 4] mc103:=ofk func103
theorem op_get {l:List TR} {i:Nat} (h:i<l.length):(l.map opT)[i]?=some (.op (l.getD i default).t 0):=by simp [h,opT]
theorem c103 {H:List AObj} {n:Nat} {l:List TR} {a:TR} (hH:H[n]?=some (.arr 98 1 (l.map opT))) (hl:∀ b ∈ l,H[b.t]?=some (.box b.cells)) (ha:H[a.t]?=some (.box a.cells)) :
 ACalls E.P 103 [.slc n 1 l.length,.op a.t 0] H (fun r H'=>r=.int .i64 (firstT (fun b=>decide (b.t=a.t)) l)/\H'=H):=by
 have hmax:=maxLen_eq
 refine ok103.acalls0 hE hm (by simp) fun N hN=>?_
 unfold mc103 pI pM pG pB pQ pL pA
 simp only [lA,seval]
 repeat' (first|(with_reducible first|(apply St.o;constructor)<;>intro _|refine ai ?_|(apply Sq.o;constructor))|simp (disch:=omega) only [lE,seval,hH,List.length_map])
 refine loop_i (fun i:Nat=>i<=l.length/\∀ j,j<i->(fun b:TR=>decide (b.t=a.t)) (l.getD j default)=false) (fun i=>⟨[(0,.slc n 1 l.length),(1,.op a.t 0),(7,.int .i64 l.length),(8,.int .i64 i)],H⟩) (fun i=>l.length - i) 0 ⟨by omega,by omega⟩ (Ent.fr (by simp [FrSub,Go.Al.get])) ?_
 rintro i ⟨hi,hn⟩
 by_cases hin:i<l.length
 . have hlt:((i:Int)<(l.length:Int)):=by omega
   have hep:∀ {m N d c},epR E.P m N (some (.arr 98 1 (l.map opT))) (i:Int) l.length n 1 d c=rK E.P m N c d (.ep n 1 i 0):=epR_ne (by simp) (by omega) (by omega)
   have ho:=op_get hin
   have hb:=hl _ (getD_mem hin)
   generalize hx:l.getD i default=b at *
   repeat' (first|(with_reducible first|(apply St.o;constructor)<;>intro _|refine ai ?_|(apply Sq.o;constructor))|simp (disch:=omega) only [lE,seval,hH,hep,ho,hb,ha,hlt,isNil,objEq,Int.toNat_natCast,decide_true,and_true])
   . rename_i e
     have e':b.t=a.t:=e.symm
     rw [firstT_at hin hn (by rw [hx];exact decide_eq_true e')]
   . rename_i e
     have e':¬ b.t=a.t:=fun h=>e h.symm
     refine back_i (i+1) ⟨by omega,fun j hj=>?_⟩ (by omega) (Ent.fr (by simp [FrSub,Go.Al.get]))
     by_cases hji:j<i
     . exact hn j hji
     . obtain rfl:j=i:=by omega
       rw [hx];exact decide_eq_false e'
 . obtain rfl:i=l.length:=by omega
   repeat' (first|(with_reducible first|(apply St.o;constructor)<;>intro _|refine ai ?_|(apply Sq.o;constructor))|simp (disch:=omega) only [lE,seval,Int.lt_irrefl,decide_false])
   rw [firstT_none hn]
theorem c46 (tab row:Int) (h:0<=tab/\tab<256) (h2:0<=row/\row<=1073741824):ACalls E.P 46 [.int .i64 tab,.int .i64 row] [] (fun r H=>r=.int .i64 (itemI (tab,row))/\H=[]):=by
 refine ok46.acalls hE hm (by simp) fun N hN=>?_
 unfold mc46 pI pM
 simp only [lA,seval]
 repeat' (first|(with_reducible first|(apply St.o;constructor)<;>intro _|refine ai ?_|(apply Sq.o;constructor))|simp (disch:=omega) only [lE,seval])
 refine keep_n ?_
 have e:(2:Int) ^ min 31 IntKind.i64.bits=2147483648:=rfl
 rw [e,wrap_i64 (n:=tab * 2147483648) (by omega) (by omega),wrap_i64 (by omega) (by omega)]
 rfl
def mc59:MC:=(.seq (.ops [pK 2 0,pZ 3]) (.seq (.any false (.pure0 none (oL 4 1) (.pure0 none (.v (.nil 5 (.t 4))) (.pure0 none (oF 6 6 5) (.pure0 none (oL 7 6) (.pure0 none (oF 8 0 2) (.pure0 none (oL 9 8) (.pure0 none (.p (.look 10 false (.int .i64) (.bool false) (.t 7) (.t 9))) (.pure0 none (oM 3 10) .done))))))))) .ret))
theorem ok59:FnOk E 59 11 [.tmp 3] mc59:=ofk func59
theorem t_nodup_of:∀ {L:List TR},(L.flatMap TR.ids).Nodup->(L.map TR.t).Nodup
 | [],_=>by simp
 | a::L,h=>by
   rw [List.flatMap_cons] at h
   obtain ⟨_,h2,h3⟩:=List.nodup_append.1 h
   refine List.nodup_cons.2 ⟨fun hm=>?_,t_nodup_of h2⟩
   obtain ⟨b,hb,e⟩:=List.mem_map.1 hm
   exact h3 a.t (by simp [TR.ids]) b.t (List.mem_flatMap.2 ⟨b,hb,by simp [TR.ids]⟩) e.symm
theorem SR.At.t_inj {s:SR} {H:List AObj} (hs:s.At H) {i k:Nat} (hi:i<s.all.length) (hk:k<s.all.length):(s.all.getD k default).t=(s.all.getD i default).t↔k=i:=by
 have hn:=hs.ids
 simp only [SR.ids,List.nodup_cons] at hn
 have h:=t_nodup_of hn.2.2.2
 constructor
 . intro e
   refine nodup_inj h (i:=k) (j:=i) (hi:=by simpa using hk) (hj:=by simpa using hi) ?_
   simpa [hi,hk] using e
 . rintro rfl;rfl
structure OkT (x:TX):Prop where
 log:∀ w ∈ x.log,(0<=w.tab/\w.tab<256)/\1<=w.row/\w.row<=1073741824
 len:x.log.length<=100000
 rows:∀ p ∈ x.rows,(0<=p.1/\p.1<256)/\0<=p.2/\p.2<=1073741824
 nodup:x.rows.Nodup
 rlen:x.rows.length<=24
theorem flat_len {α:Type} {f:α->List Int} (hf:∀ x,(f x).length<=1):∀ l:List α,(l.flatMap f).length<=l.length
 | []=>by simp
 | x::l=>by
   have:=flat_len hf l
   have:=hf x
   rw [List.flatMap_cons,List.length_append,List.length_cons]
   omega
theorem seen_len (t o:TX):(seenOf t o).length<=1:=by
 unfold seenOf
 split <;> simp
theorem fit_of {r:Int × Int} (h:(0<=r.1/\r.1<256)/\0<=r.2/\r.2<=1073741824):fitP r:=by
 constructor
 . simp [Lit.wf,IntKind.min,IntKind.max,IntKind.signed,IntKind.bits];omega
 . simp [Lit.wf,IntKind.min,IntKind.max,IntKind.signed,IntKind.bits];omega
theorem OkT.fit {x:TX} (h:OkT x):∀ w ∈ x.log,fitP w.key:=fun w hw=>fit_of (r:=w.key) (by have:=h.log w hw;exact ⟨this.1,by have:=this.2.1;show 0<=w.row;omega,this.2.2⟩)
theorem viewL_of {f:FuncId} {args:List AV} {H:List AObj} {l:List Int} (h:ACalls E.P f args H fun r H'=>NewL H l r H'):ACalls E.P f args H fun r H'=>r=.view 1 (l.map (AV.int .i64))/\Ext H H':=by
 refine ACalls.lendR ((ownL_of h).mono ?_)
 rintro r H' ⟨hx,a,rfl,ha,hA⟩
 refine ⟨a,3,1,l.map (AV.int .i64),by rw [List.length_map],hA,flatA_ints l,rfl,hx.trans (O':=fun i=>i=a) (Stay.set rfl) fun i hi e=>by omega⟩
theorem c59 (w:WR) (x:TX) (c0 c1 c2 c3 c4 c5:AV):ACalls E.P 59 [w.av,.vp [.vp [c0,c1,c2,c3,c4,c5,.mview (kM (wholeM x)) (vM AV.bool (wholeM x))]]] [] (fun q H=>q=.bool (x.whole.contains w.tab)/\H=[]):=by
 have hgw:getM (wholeM x) w.tab=if x.whole.contains w.tab=true then some true else none:=getM_whole _ _
 have hlk:=look_m AV.bool (.bool false) (wholeM x) w.tab
 rw [hgw] at hlk
 refine ok59.acalls hE hm (by simp) fun N hN=>?_
 unfold mc59 pK pZ oM oL oF
 simp only [lA,seval,wr_av]
 by_cases h:x.whole.contains w.tab=true
 . rw [if_pos h] at hlk
   rw [h]
   repeat' (first|(with_reducible first|(apply St.o;constructor)<;>intro _|refine ai ?_|(apply Sq.o;constructor))|simp (disch:=omega) only [lE,seval,hlk,fillE,setAll])
   exact keep_b rfl
 . rw [if_neg h] at hlk
   have h':x.whole.contains w.tab=false:=by simpa using h
   rw [h']
   repeat' (first|(with_reducible first|(apply St.o;constructor)<;>intro _|refine ai ?_|(apply Sq.o;constructor))|simp (disch:=omega) only [lE,seval,hlk,fillE,setAll])
   exact keep_b rfl
theorem vw_kM {α:Type} {H:List AObj} {l:List Nat} {n:Nat} (m:List (Int × α)):(kM m).map (vw H l (n+1))=kM m:=by
 unfold kM
 rw [List.map_map]
 exact List.map_congr_left fun p _=>by simp [vw_int]
theorem vw_vB {H:List AObj} {l:List Nat} {n:Nat} (m:List (Int × Bool)):(vM AV.bool m).map (vw H l (n+1))=vM AV.bool m:=by
 unfold vM
 rw [List.map_map]
 exact List.map_congr_left fun p _=>by simp [vw_bool]
theorem vw_kW {α:Type} {H:List AObj} {l:List Nat} {n:Nat} (m:List ((Int × Int) × α)):(kW m).map (vw H l (n+2))=kW m:=by
 unfold kW
 rw [List.map_map]
 exact List.map_congr_left fun p _=>by simp [kp,vw_agg,vw_int]
theorem vw_vBW {H:List AObj} {l:List Nat} {n:Nat} (m:List ((Int × Int) × Bool)):(vW AV.bool m).map (vw H l (n+1))=vW AV.bool m:=by
 unfold vW
 rw [List.map_map]
 exact List.map_congr_left fun p _=>by simp [vw_bool]
theorem putW_len (w:WR):∀ l:List WR,(putW w l).length<=l.length+1
 | []=>by simp [putW]
 | x::l=>by
   rw [putW]
   split
   . simp
   . split
     . simp
     . have:=putW_len w l;simp;omega
theorem lastW_len (log:List WR):(lastW log).length<=log.length:=by
 refine rev_ind (p:=fun log=>(lastW log).length<=log.length) (by simp [lastW]) (fun log w ih=>?_) log
 have:=putW_len w (lastW log)
 rw [lastW_snoc,List.length_append,List.length_singleton]
 omega
theorem c60v {α:Type} [Inhabited α] (av:α->AV) (m:List (Int × α)) (bs:List Nat) (c:Nat) (hw:WfM m.length bs c) (hc:m.length<=1048576) {g:FuncId} (hg:KeysG g) {H0:List AObj} {b mid:Nat} (hb:H0[b]?=some (.box [.mp mid])) (hM:H0[mid]?=some (.map (kM m) (vM av m) bs c)) :
 ACalls E.P 60 [.fn (.func g) [] [.op b 0]] H0 (fun r H=>r=.view 1 ((srt (keysM m)).map (AV.int .i64))/\Ext H0 H):=viewL_of (c60w av m bs c hw hc hg hb hM)
theorem firstI_cases {α:Type} [Inhabited α] (p:α->Bool) (l:List α):(firstI p l = -1/\l.find? p=none)\/∃ i:Nat,firstI p l=i/\i<l.length/\l.find? p=some (l.getD i default):=by
 unfold firstI
 cases h:l.findIdx? p with
 | none =>
   rw [List.findIdx?_eq_none_iff] at h
   exact .inl ⟨rfl,List.find?_eq_none.2 fun x hx=>by simp [h x hx]⟩
 | some i =>
   obtain ⟨hi,hp,hn⟩:=List.findIdx?_eq_some_iff_getElem.1 h
   refine .inr ⟨i,rfl,hi,?_⟩
   rw [List.find?_eq_some_iff_getElem]
   rw [List.getD_eq_getElem?_getD,List.getElem?_eq_getElem hi,Option.getD_some]
   exact ⟨hp,i,hi,rfl,fun j hj=>by simpa using hn j hj⟩
end Go.Proofs.Try
