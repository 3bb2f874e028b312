/-
 A part of the proof.
-/
import Derived.Test.YtfhoeghdioofmaaGreatEii
import Derived.Test.YtfhoeghdioofmaaGreatKjj
set_option linter.unusedSimpArgs false
set_option linter.unusedVariables false
namespace Go.Proofs.Try
open Go.Proofs.Tryz
open Go.Al
set_option maxRecDepth 100000
def mc40:MC:=(.seq (.ops [pZ 4]) (.seq (.ops [pM 5 0,pV 6 14 5,pM 7 1,pW 8 90 6 7,pM 4 8]) .ret))
theorem ok40:FnOk E 40 9 [.tmp 4] mc40:=ofk func40
set_option maxHeartbeats 16000000
open Classical in
theorem c40 {s:SR} {H:List AObj} (hs:s.At H) (hk:s.kept.length<=10000) (hc:s.act.length<=10000) (hok:∀ a ∈ s.all,OkT a.x) (a:Int) :
 ACalls E.P 40 [.op s.X 0,.int .i64 a] H (fun r H'=>r=.bool (decide (SafeS (histS s.ts) a))/\Ext H H'):=by
 have h14:=c14 hs hk hc hok
 have h90:=c90 (histS s.ts) a
 have hhl:(histS s.ts).length=s.all.length:=by simp [histS,histL,allS_ts]
 rw [<- hhl] at h14
 refine ok40.acalls0 hE hm (by simp) fun N hN=>?_
 unfold mc40 pZ pM pV pW
 simp only [lA,seval]
 repeat' (first|(with_reducible first|(apply St.o;constructor)<;>intro _|refine ai ?_|(apply Sq.o;constructor))|simp (disch:=omega) only [lE,seval])
 refine callW_i h14 ?_
 rintro _ H1 ⟨n,rfl,hn,hnH,hx⟩
 repeat' (first|(with_reducible first|(apply St.o;constructor)<;>intro _|refine ai ?_|(apply Sq.o;constructor))|((with_reducible apply Sc.o true;constructor);simp only [lP,seval,hnH,vw_accs,List.length_map];refine ⟨_,h90,?_⟩;rintro _ _ ⟨rfl,rfl⟩;simp only [lA,lP,seval,hnH,vw_accs,List.length_map])|simp (disch:=omega) only [lE,seval,hnH,vw_accs,List.length_map])
 exact hx
def idxT (s:TS) (tx:Int):Nat:=s.kept.length+s.act.findIdx fun p=>decide (p.1=tx)
noncomputable def commitS (s:TS) (tx:Int):RS × TS :=
 match getT s tx with
 | none=>(⟨0,[],273⟩,s)
 | some t =>
   if (admitS (histS s) (idxT s tx)).2≠0 then (⟨0,[],(admitS (histS s) (idxT s tx)).2⟩,forgetS (delT s tx))
   else (⟨(admitS (histS s) (idxT s tx)).1,lastW t.log,0⟩,forgetS { delT s tx with last:=if 0<(admitS (histS s) (idxT s tx)).1 then (admitS (histS s) (idxT s tx)).1 else s.last,kept:=s.kept++[{ t with done:=true,stamp:=(admitS (histS s) (idxT s tx)).1 }] })
theorem act_split {s:SR} {H:List AObj} (hs:s.At H) {tx:Int} {a:TR} (hg:getM s.act tx=some a):∃ l1 l2,s.act=l1++(tx,a)::l2/\delM s.act tx=l1++l2/\(∀ p ∈ l1,p.1≠tx):=by
 obtain ⟨l1,l2,hl⟩:=List.append_of_mem (getM_mem hg)
 have hasc:=hs.asc
 rw [hl,List.map_append,List.pairwise_append] at hasc
 have h1:∀ p ∈ l1,p.1≠tx:=fun p hp e=>by
  have:=hasc.2.2 p.1 (List.mem_map.2 ⟨p,hp,rfl⟩) tx (by simp)
  omega
 refine ⟨l1,l2,hl,?_,h1⟩
 rw [hl]
 clear hasc hl hg
 induction l1 with
 | nil=>rw [List.nil_append,delM,if_pos rfl];rfl
 | cons q l1 ih =>
   rw [List.cons_append,delM,if_neg (h1 q (by simp)),ih fun p hp=>h1 p (by simp [hp])];rfl
theorem idx_first {s:SR} {H:List AObj} (hs:s.At H) {tx:Int} {a:TR} (hg:getM s.act tx=some a):firstT (fun b=>decide (b.t=a.t)) s.all=(idxT s.ts tx:Nat)/\idxT s.ts tx<s.all.length/\s.all.getD (idxT s.ts tx) default=a:=by
 obtain ⟨l1,l2,hl,_,h1⟩:=act_split hs hg
 have hi:idxT s.ts tx=s.kept.length+l1.length:=by
  have:s.ts.act.findIdx (fun p=>decide (p.1=tx))=l1.length:=by
   simp only [SR.ts,hl,List.map_append,List.map_cons]
   rw [List.findIdx_append]
   have hn:(l1.map fun p:Int × TR=>(p.1,p.2.x)).findIdx (fun p=>decide (p.1=tx))=l1.length:=by
    rw [List.findIdx_eq_length_of_false]
    . simp
    . intro p hp
      obtain ⟨q,hq,rfl⟩:=List.mem_map.1 hp
      simpa using h1 q hq
   rw [hn]
   simp [List.findIdx_cons]
  unfold idxT
  rw [this]
  simp [SR.ts]
 have hlen:s.all.length=s.kept.length+(l1.length+(l2.length+1)):=by simp [SR.all,hl]
 have hlt:idxT s.ts tx<s.all.length:=by omega
 have hg2:s.all.getD (idxT s.ts tx) default=a:=by
  rw [hi,SR.all,hl]
  simp
 refine ⟨firstT_at hlt (fun j hj=>?_) (by rw [hg2];simp),hlt,hg2⟩
 refine decide_eq_false fun e=>?_
 rw [<- hg2] at e
 have:=(hs.t_inj hlt (by omega)).1 e
 omega
theorem SR.commit_at {s:SR} {H H':List AObj} {a a':TR} {tx last:Int} {K':Nat} {rest:List AV} {mb:List Nat} (hs:s.At H) (hg:getM s.act tx=some a) (ht:a'.ids=a.ids) (htt:a'.t=a.t)
 (hK:H.length<=K') (hst:Stay (fun i=>i=s.X\/i=s.K\/i=s.M\/i=a.t) H H')
 (hX:H'[s.X]?=some (.box [.int .i64 last,.int .i64 s.shown,.int .i64 s.begun,.sub K' 1 0 (s.kept.length+1),.mp s.M]))
 (hKK:H'[K']?=some (.arr 98 1 ((s.kept++[a']).map opT++rest)))
 (hM:H'[s.M]?=some (.map (kM (delM s.act tx)) (vM opT (delM s.act tx)) mb s.mc)) (hw:WfM (delM s.act tx).length mb s.mc) (ha:a'.At H') :
 ({ s with last:=last,K:=K',rest:=rest,kept:=s.kept++[a'],act:=delM s.act tx,mb:=mb }:SR).At H':=by
 obtain ⟨l1,l2,hl,hd,h1⟩:=act_split hs hg
 obtain ⟨n1,n2,n3,n4⟩:=hs.ne
 have haa:a ∈ s.all:=SR.act_mem (getM_mem hg)
 have hperm:((s.kept++[a])++(l1++l2).map (·.2)).Perm s.all:=by
  rw [SR.all,hl,List.append_assoc]
  refine List.Perm.append_left _ ?_
  simp only [List.map_append,List.map_cons,List.singleton_append]
  exact List.perm_middle.symm
 have hids:((s.kept++[a']++(delM s.act tx).map (·.2)).flatMap TR.ids).Perm (s.all.flatMap TR.ids):=by
  have e:(s.kept++[a']++(delM s.act tx).map (·.2)).flatMap TR.ids=(s.kept++[a]++(l1++l2).map (·.2)).flatMap TR.ids:=by
   rw [hd];simp [List.flatMap_append,ht]
  rw [e];exact hperm.flatMap_right _
 have hnd:=hs.ids
 have hlt:=hs.lt
 simp only [SR.ids,List.nodup_cons,List.mem_cons,not_or] at hnd
 have hKn:K' ∉ s.ids:=fun h=>by have:=hlt _ h;omega
 have hall:∀ b ∈ (s.kept++[a']++(delM s.act tx).map (·.2)),b=a'\/(b ∈ s.all/\b.t≠a.t):=fun b hb=>by
  simp only [List.mem_append,List.mem_singleton] at hb
  rcases hb with (hb | hb) | hb
  . refine .inr ⟨SR.kept_mem hb,fun e=>?_⟩
    have hn2:=hnd.2.2.2
    rw [SR.all,List.flatMap_append,List.nodup_append] at hn2
    exact hn2.2.2 b.t (List.mem_flatMap.2 ⟨b,hb,by simp [TR.ids]⟩) a.t (List.mem_flatMap.2 ⟨a,List.mem_map.2 ⟨_,getM_mem hg,rfl⟩,by simp [TR.ids]⟩) e
  . exact .inl hb
  . obtain ⟨p,hp,rfl⟩:=List.mem_map.1 hb
    refine .inr ⟨SR.act_mem (mem_delM hp),fun e=>?_⟩
    rw [hd] at hp
    have hn2:=hnd.2.2.2
    rw [SR.all,hl,List.flatMap_append,List.nodup_append] at hn2
    have hn3:=hn2.2.1
    simp only [List.map_append,List.map_cons,List.flatMap_append,List.flatMap_cons] at hn3
    rw [List.nodup_append] at hn3
    rcases List.mem_append.1 hp with hp | hp
    . exact hn3.2.2 p.2.t (List.mem_flatMap.2 ⟨p.2,List.mem_map.2 ⟨p,hp,rfl⟩,by simp [TR.ids]⟩) a.t (List.mem_append_left _ (by simp [TR.ids])) e
    . have hn4:=(List.nodup_append.1 hn3.2.1).2.2
      exact hn4 a.t (by simp [TR.ids]) p.2.t (List.mem_flatMap.2 ⟨p.2,List.mem_map.2 ⟨p,hp,rfl⟩,by simp [TR.ids]⟩) e.symm
 refine ⟨by simp only [SR.cells,List.length_append,List.length_singleton];exact hX,hKK,hM,hw,fun b hb=>?_,?_,hs.asc.sublist ((delM_sub tx s.act).map _),fun p hp=>hs.top p (mem_delM hp)⟩
 . rcases hall b hb with rfl | ⟨h2,h3⟩
   . exact ha
   . refine (hs.tr b h2).stay hst fun i hi h=>?_
     obtain ⟨m1,m2,m3⟩:=n4 b h2 i hi
     rcases h with h | h | h | h
     . exact m1 h.symm
     . exact m2 h.symm
     . exact m3 h.symm
     . subst h
       obtain ⟨x1,x2,e⟩:=List.append_of_mem h2
       have hn2:=hnd.2.2.2
       have h4:a ∈ x1\/a ∈ x2:=by
        have:=haa
        rw [e] at this
        rcases List.mem_append.1 this with h | h
        . exact .inl h
        . rcases List.mem_cons.1 h with h | h
          . exact absurd (congrArg TR.t h).symm h3
          . exact .inr h
       rw [e,List.flatMap_append,List.flatMap_cons] at hn2
       obtain ⟨_,y2,y3⟩:=List.nodup_append.1 hn2
       obtain ⟨_,_,y4⟩:=List.nodup_append.1 y2
       rcases h4 with h4 | h4
       . exact y3 a.t (List.mem_flatMap.2 ⟨a,h4,by simp [TR.ids]⟩) a.t (List.mem_append_left _ hi) rfl
       . exact y4 a.t hi a.t (List.mem_flatMap.2 ⟨a,h4,by simp [TR.ids]⟩) rfl
 . simp only [SR.ids,SR.all,List.nodup_cons,List.mem_cons,not_or]
   have hX2:∀ i,i ∈ (s.kept++[a']++(delM s.act tx).map (·.2)).flatMap TR.ids↔i ∈ s.all.flatMap TR.ids:=fun i=>hids.mem_iff
   have k1:=SR.X_mem s
   have k2:=SR.M_mem s
   refine ⟨⟨fun e=>hKn (e ▸ k1),hnd.1.2.1,fun h=>hnd.1.2.2 ((hX2 _).1 h)⟩,⟨fun e=>hKn (e ▸ k2),fun h=>hKn ?_⟩,fun h=>hnd.2.2.1 ((hX2 _).1 h),hids.nodup_iff.2 hnd.2.2.2⟩
   simp only [SR.ids,List.mem_cons]
   exact .inr (.inr (.inr ((hX2 _).1 h)))
abbrev q52_0:MI:=oI 4 0
abbrev q52_1:MI:=oY 5
def mc52:MC:=(.seq (.ops [(none,q52_0),(none,q52_1),pI 6 0]) (.seq (.ops [pM 12 0,pM 13 1,pW 14 71 12 13,pM 11 14,pX 15 0 11,pX 16 1 11,pM 7 15,pM 8 16]) (.seq (.seq (.ops [pM 17 8,pD 18 17 0]) (.cond 18 (.seq (.ops [pM 19 8,(none,q52_0),(none,q52_1),pM 6 19]) .ret) .skip)) (.seq (.ops [pM 20 0,pV 21 55 20,pM 22 7,pW 23 103 21 22,pM 9 23]) (.seq (.ops [pM 25 0,pV 26 14 25,pM 27 9,pW 28 16 26 27,pM 24 28,pX 29 0 24,pX 30 1 24,pM 10 29,pM 8 30]) (.seq (.ops [pM 31 0,(none,.v (.nil 32 (.t 31))),pF 33 4 32,pL 34 33,pM 35 1,(none,.e (.mdel none (.int .i64) (.t 34) (.t 35)))]) (.seq (.seq (.ops [pM 36 8,pD 37 36 0]) (.cond 37 (.seq (.ops [pM 38 0,pV 39 99 38]) (.seq (.ops [pM 40 8,(none,q52_0),(none,q52_1),pM 6 40]) .ret)) .skip)) (.seq (.seq (.ops [pM 41 10,(none,.v (.bin 42 .gtr false (.t 41) (.c (.int .i64 0))))]) (.cond 42 (.ops [pM 43 0,pM 44 10,(none,.v (.nil 45 (.t 43))),pF 46 0 45,(none,.e (.store 1 false (.t 46) (.t 44)))]) .skip)) (.seq (.ops [pM 47 7,pM 48 7,pM 49 10,(none,.v (.nil 50 (.t 47))),pF 51 2 50,(none,.e (.store 1 false (.t 51) (.c (.bool true)))),(none,.v (.nil 52 (.t 48))),pF 53 3 52,(none,.e (.store 1 false (.t 53) (.t 49)))]) (.seq (.ops [pM 54 0,pM 55 0,(none,.v (.nil 56 (.t 55))),pF 57 3 56,pL 58 57,pM 59 7,(none,.e (.mkl 60 98 1 1 (.raw (.pointer none)) [(0,.t 59)])),(none,.e (.app 61 98 1 8 (.t 58) (.t 60))),(none,.v (.nil 62 (.t 54))),pF 63 3 62,(none,.e (.store 1 false (.t 63) (.t 61)))]) (.seq (.ops [pM 64 0,pV 65 99 64]) (.seq (.ops [pM 66 10,pM 67 7,pV 68 57 67,pM 4 66,pM 5 68,pI 6 0]) .ret))))))))))))
theorem ok52:FnOk E 52 69 [.tmp 4,.tmp 5,.tmp 6] mc52:=ofk func52
def RS.tupA (r:RS):AV:=.tup [.int .i64 r.n,.view 4 (r.w.map WR.av),.int .i64 r.e]
theorem weak_tup3 (n e:Int):Weak (.tup [.int .i64 n,.raw (.slice none 0 0),.int .i64 e]) (RS.tupA ⟨n,[],e⟩):=WeakL.tup (.cons (.refl _) (.cons weak_nil (.refl _)))
theorem filter_ts (s:SR) (rest':List AV):({ s with kept:=s.kept.filter fun a=>!gone (leastK s.ts) a.x,rest:=rest' }:SR).ts=forgetS s.ts:=by
 simp only [SR.ts,forgetS,List.filter_map]
 rfl
theorem c52 {s:SR} {H:List AObj} (hs:s.At H) (hk:s.kept.length<=10000) (hc:s.act.length<=10000) (hok:∀ a ∈ s.all,OkT a.x) (tx:Int) :
 ACalls E.P 52 [.op s.X 0,.int .i64 tx] H (fun r H'=>r=(commitS s.ts tx).1.tupA/\∃ s',Upd s s' H H'/\s'.ts=(commitS s.ts tx).2):=by
 have hmax:=maxLen_eq
 have h71:=c71 hs tx
 refine ACalls.weakR ?_
 refine ok52.acalls0 hE hm (by simp) fun N hN=>?_
 unfold mc52 q52_1 q52_0 pI pM pW pX pD pV pF pL oI oY
 simp only [lA,seval]
 repeat' (first|(with_reducible first|(apply St.o;constructor)<;>intro _|refine ai ?_|(apply Sq.o;constructor))|simp (disch:=omega) only [lE,seval])
 refine callW_i h71 ?_
 rintro _ H1 ⟨rfl,rfl⟩
 unfold commitS
 rw [getT_ts]
 cases hg:getM s.act tx with
 | none =>
   simp only [Option.map_none]
   repeat' (first|(with_reducible first|(apply St.o;constructor)<;>intro _|refine ai ?_|(apply Sq.o;constructor))|simp (disch:=omega) only [lE,seval])
   exact ⟨_,weak_tup3 _ _,rfl,s,Upd.ext hs (Stay.refl _ _),rfl⟩
 | some a =>
   have haa:a ∈ s.all:=SR.act_mem (getM_mem hg)
   have h55:=c55 hs hk hc
   obtain ⟨hix,hilt,higet⟩:=idx_first hs hg
   simp only [Option.map_some]
   repeat' (first|(with_reducible first|(apply St.o;constructor)<;>intro _|refine ai ?_|(apply Sq.o;constructor))|simp (disch:=omega) only [lE,seval])
   refine callW_i h55 ?_
   rintro _ H2 ⟨n,rfl,hn,hnH,hx2⟩
   have hs2:=hs.ext hx2
   have h103:=c103 (a:=a) hnH (fun b hb=>(hs2.tr b hb).box) (hs2.tr a haa).box
   rw [hix] at h103
   have h14:=c14 hs2 hk hc hok
   repeat' (first|(with_reducible first|(apply St.o;constructor)<;>intro _|refine ai ?_|(apply Sq.o;constructor))|simp (disch:=omega) only [lE,seval])
   refine callW_i h103 ?_
   rintro _ H2 ⟨rfl,rfl⟩
   repeat' (first|(with_reducible first|(apply St.o;constructor)<;>intro _|refine ai ?_|(apply Sq.o;constructor))|simp (disch:=omega) only [lE,seval])
   refine callW_i h14 ?_
   rintro _ H3 ⟨n3,rfl,hn3,hnH3,hx3⟩
   have hhl:(histS s.ts).length=s.all.length:=by simp [histS,histL,allS_ts]
   have h16:=c16 (histS s.ts) (idxT s.ts tx:Nat)
   rw [<- hhl] at *
   generalize admitS (histS s.ts) (idxT s.ts tx:Nat)=ad at *
   obtain ⟨st,er⟩:=ad
   simp only [admitA] at h16
   have hx23:Ext H3 H3:=Stay.refl _ _
   have hs3:=hs2.ext hx3
   have hxx:Ext H1 H3:=hx2.trans hx3 fun _ _ h=>h
   have g1:=hs3.box
   have g2:=hs3.act
   have g3:=hs3.kept
   have g4:=(hs3.tr a haa).box
   simp only [SR.cells,TR.cells] at g1 g4
   obtain ⟨mb,hdel,hu⟩:=SR.del_at hs3 tx
   obtain ⟨n1,n2,nK,n4⟩:=hs.ne
   obtain ⟨m1,m2,m3⟩:=n4 a haa a.t (by simp [TR.ids])
   obtain ⟨H4,hH4⟩:∃ H4,H4=H3.set s.M (.map (kM (delM s.act tx)) (vM opT (delM s.act tx)) mb s.mc):=⟨_,rfl⟩
   have y1:H4[s.X]?=some (.box [.int .i64 s.last,.int .i64 s.shown,.int .i64 s.begun,.sub s.K 1 0 s.kept.length,.mp s.M]):=by rw [hH4,at_set _ _ _ _ (by omega)];exact g1
   have y2:H4[s.K]?=some (.arr 98 1 (s.kept.map opT++s.rest)):=by rw [hH4,at_set _ _ _ _ (by omega)];exact g3
   have y3:H4[a.t]?=some (.box [.int .i64 a.x.mode,.int .i64 a.x.snap,.bool a.x.done,.int .i64 a.x.stamp,.slc a.l 4 a.x.log.length,.mp a.r,.mp a.w]):=by rw [hH4,at_set _ _ _ _ (by omega)];exact g4
   have y4:H4[s.M]?=some (.map (kM (delM s.act tx)) (vM opT (delM s.act tx)) mb s.mc):=by rw [hH4];exact at_same _ _ _ (at_lt g2)
   by_cases he:er=0
   . subst he
     have hH4l:H4.length=H3.length:=by rw [hH4];simp
     have hst4:Stay (fun i=>i=s.X\/i=s.K\/i=s.M\/i=a.t) H1 H4:=by rw [hH4];exact hxx.to.trans (O':=fun i=>i=s.M) (Stay.set rfl) fun i hi h=>.inr (.inr (.inl h))
     have hx1:=at_lt y1
     have hk1:=at_lt y2
     have ht1:=at_lt y3
     have ha4:a.At H4:=(hs3.tr a haa).stay (O:=fun i=>i=s.M) (by rw [hH4];exact Stay.set rfl) fun i hi h=>(n4 a haa i hi).2.2 h.symm
     by_cases hst:0<st
     . repeat' (first|(with_reducible first|(apply St.o;constructor)<;>intro _|refine ai ?_|(apply Sq.o;constructor))|((with_reducible apply Sc.o true;constructor);simp only [lP,seval,hnH3,vw_accs,g1,g2,hdel,hst,setAll,decide_true,List.length_map];refine ⟨_,h16,?_⟩;rintro _ _ ⟨rfl,rfl⟩;simp only [lA,lP,seval,hnH3,vw_accs,g1,g2,hdel,hst,setAll,decide_true,List.length_map])|simp (disch:=omega) only [lE,seval,hnH3,vw_accs,g1,g2,hdel,hst,setAll,decide_true,List.length_map])
       rw [<- hH4]
       repeat' (first|(with_reducible first|(apply St.o;constructor)<;>intro _|refine ai ?_|(apply Sq.o;constructor))|simp (disch:=omega) only [lE,seval,y1,setAll])
       obtain ⟨H5,hH5⟩:∃ H5,H5=H4.set s.X (.box [.int .i64 st,.int .i64 s.shown,.int .i64 s.begun,.sub s.K 1 0 s.kept.length,.mp s.M]):=⟨_,rfl⟩
       have hl5:H5.length=H3.length:=by rw [hH5];simp [hH4l]
       have ha5:a.At H5:=ha4.stay (O:=fun i=>i=s.X) (by rw [hH5];exact Stay.set rfl) fun i hi h=>(n4 a haa i hi).1 h.symm
       have hst5:Stay (fun i=>i=s.X\/i=s.K\/i=s.M\/i=a.t) H1 H5:=by rw [hH5];exact hst4.trans (O':=fun i=>i=s.X) (by exact Stay.set rfl) fun i hi h=>.inl h
       have z1:H5[s.X]?=some (.box [.int .i64 (if 0<st then st else s.last),.int .i64 s.shown,.int .i64 s.begun,.sub s.K 1 0 s.kept.length,.mp s.M]):=by rw [if_pos hst,hH5];exact at_same _ _ _ hx1
       have z2:H5[s.K]?=some (.arr 98 1 (s.kept.map opT++s.rest)):=by rw [hH5];rw [at_set _ _ _ _ (by omega)];exact y2
       have z4:H5[s.M]?=some (.map (kM (delM s.act tx)) (vM opT (delM s.act tx)) mb s.mc):=by rw [hH5];rw [at_set _ _ _ _ (by omega)];exact y4
       have z3:=ha5.box
       simp only [TR.cells] at z3
       rw [<- hH5]
       clear hH5
       generalize hlst:(if 0<st then st else s.last)=lst at *
       have f1:∀ o,(H5.set a.t o)[a.t]?=some o:=fun o=>at_same _ _ _ (by omega)
       have f2:∀ o,(H5.set a.t o)[s.X]?=H5[s.X]?:=fun o=>at_set _ _ _ _ (by omega)
       have f3:∀ o o',(H5.set a.t o++[o'])[s.K]?=H5[s.K]?:=fun o o'=>by rw [at_app _ _ _ (by simp;omega),at_set _ _ _ _ (by omega)]
       have f4:∀ o o' o'' o3,((H5.set a.t o++[o']).set s.K o''++[o3])[s.X]?=H5[s.X]?:=fun o o' o'' o3=>by rw [at_app _ _ _ (by simp;omega),at_set _ _ _ _ (by omega),at_app _ _ _ (by simp;omega),at_set _ _ _ _ (by omega)]
       have f5:∀ o o',(H5.set a.t o++[o'])[H5.length]?=some o':=fun o o'=>by
        have:=get_last (L:=H5.set a.t o) (o:=o')
        rwa [List.length_set] at this
       have f6:(s.kept.map opT).length=s.kept.length:=by simp
       repeat' (first|(with_reducible first|(apply St.o;constructor)<;>intro _|refine ai ?_|(apply Sq.o;constructor))|simp (disch:=omega) only [lE,seval,z1,z2,z3,f1,f2,f3,f4,f5,f6,setAll,List.set_set,List.length_set,List.length_append,List.length_cons,List.length_nil,Nat.zero_add,List.length_map])
       all_goals try (exfalso;omega)
       have htk:(s.kept.map opT++s.rest).take s.kept.length=s.kept.map opT:=by rw [List.take_append_of_le_length (by simp)];exact List.take_of_length_le (by simp)
       rw [htk]
       have hl15:=hst5.1
       obtain ⟨a',ha'⟩:∃ a':TR,a'={ a with x:={ a.x with done:=true,stamp:=st } }:=⟨_,rfl⟩
       have hat:a'.t=a.t:=by rw [ha']
       have haids:a'.ids=a.ids:=by rw [ha'];rfl
       obtain ⟨H6,hH6⟩:∃ H6,H6=(H5.set a.t (AObj.box [.int .i64 a.x.mode,.int .i64 a.x.snap,.bool true,.int .i64 st,.slc a.l 4 a.x.log.length,.mp a.r,.mp a.w])++[AObj.arr 98 1 [.op a.t 0]]).set s.K .dead++[AObj.arr 98 1 (s.kept.map opT++[.op a.t 0])]:=⟨_,rfl⟩
       have hl6:H6.length=H5.length+2:=by rw [hH6];simp
       have hst6:Stay (fun i=>i=s.X\/i=s.K\/i=s.M\/i=a.t) H1 H6:=by
        rw [hH6]
        exact (((hst5.trans (O':=fun i=>i=a.t) (Stay.set rfl) fun i hi h=>.inr (.inr (.inr h))).trans (O':=fun _=>False) (Stay.app _ _ _) fun _ _ h=>h.elim).trans (O':=fun i=>i=s.K) (Stay.set rfl) fun i hi h=>.inr (.inl h)).trans (O':=fun _=>False) (Stay.app _ _ _) fun _ _ h=>h.elim
       have x3:H6[a.t]?=some (.box a'.cells):=by
        rw [hH6,at_app _ _ _ (by simp;omega),at_set _ _ _ _ (by omega),at_app _ _ _ (by simp;omega),f1,ha'];rfl
       have x4:H6[H5.length+1]?=some (.arr 98 1 ((s.kept++[a']).map opT++[])):=by
        have:=get_last (L:=(H5.set a.t (AObj.box [.int .i64 a.x.mode,.int .i64 a.x.snap,.bool true,.int .i64 st,.slc a.l 4 a.x.log.length,.mp a.r,.mp a.w])++[AObj.arr 98 1 [.op a.t 0]]).set s.K .dead) (o:=AObj.arr 98 1 (s.kept.map opT++[.op a.t 0]))
        rw [List.length_set,List.length_append,List.length_set] at this
        rw [hH6,List.append_nil,List.map_append]
        simp [opT,hat]
       have x5:H6[s.M]?=some (.map (kM (delM s.act tx)) (vM opT (delM s.act tx)) mb s.mc):=by
        have hMl:=at_lt z4
        rw [hH6,at_app _ _ _ (by simp;omega),at_set _ _ _ _ (by omega),at_app _ _ _ (by simp;omega),at_set _ _ _ _ (by omega)];exact z4
       have ha6:∀ i ∈ [a.l,a.r,a.w],H6[i]?=H5[i]?:=fun i hi=>by
        have hia:i ∈ a.ids:=by simp only [TR.ids,List.mem_cons,List.not_mem_nil,or_false] at hi ⊢;exact .inr hi
        have hid:=(hs.tr a haa).ids_nodup hs haa
        simp only [TR.ids,List.nodup_cons,List.mem_cons,List.not_mem_nil,or_false,not_or] at hid hi
        have:=ha5.lt i hia
        obtain ⟨_,k2,_⟩:=n4 a haa i hia
        rw [hH6,at_app _ _ _ (by simp;omega),at_set _ _ _ _ (by omega),at_app _ _ _ (by simp;omega),at_set _ _ _ _ (by omega)]
       have hx6:H6[s.X]?=H5[s.X]?:=by rw [hH6];exact f4 _ _ _ _
       rw [<- hH6]
       clear hH6
       obtain ⟨H7,hH7⟩:∃ H7,H7=H6.set s.X (.box [.int .i64 lst,.int .i64 s.shown,.int .i64 s.begun,.slc (H5.length+1) 1 (s.kept.length+1),.mp s.M]):=⟨_,rfl⟩
       have w1:H7[s.X]?=some (.box [.int .i64 lst,.int .i64 s.shown,.int .i64 s.begun,.slc (H5.length+1) 1 (s.kept.length+1),.mp s.M]):=by rw [hH7];exact at_same _ _ _ (by omega)
       have w4:H7[H5.length+1]?=some (.arr 98 1 ((s.kept++[a']).map opT++[])):=by rw [hH7,at_set _ _ _ _ (by omega)];exact x4
       rw [<- hH7]
       obtain ⟨H8,hH8⟩:∃ H8,H8=H7.set s.X (.box ([.int .i64 lst,.int .i64 s.shown,.int .i64 s.begun,.slc (H5.length+1) 1 (s.kept.length+1),.mp s.M].set 3 (.sub (H5.length+1) 1 0 (s.kept.length+1)))):=⟨_,rfl⟩
       have hst8:Stay (fun i=>i=s.X\/i=s.K\/i=s.M\/i=a.t) H1 H8:=by
        rw [hH8,hH7]
        exact (hst6.trans (O':=fun i=>i=s.X) (Stay.set rfl) fun i hi h=>.inl h).trans (O':=fun i=>i=s.X) (Stay.set rfl) fun i hi h=>.inl h
       have hl8:H8.length=H6.length:=by rw [hH8,hH7];simp
       have v:∀ i,i≠s.X->H8[i]?=H6[i]?:=fun i hi=>by rw [hH8,hH7,at_set _ _ _ _ fun e=>hi e.symm,at_set _ _ _ _ fun e=>hi e.symm]
       have ha8:a'.At H8:=by
        obtain ⟨u1,_,_⟩:=n4 a haa a.l (by simp [TR.ids])
        obtain ⟨u2,_,_⟩:=n4 a haa a.r (by simp [TR.ids])
        obtain ⟨u3,_,_⟩:=n4 a haa a.w (by simp [TR.ids])
        rw [ha']
        refine ⟨?_,?_,?_,?_,ha5.rwf,ha5.wwf⟩
        . rw [v _ (by simp only;omega),x3,ha']
        . rw [v _ (by simp only;omega),ha6 _ (by simp)];exact ha5.log
        . rw [v _ (by simp only;omega),ha6 _ (by simp)];exact ha5.rows
        . rw [v _ (by simp only;omega),ha6 _ (by simp)];exact ha5.whole
       have hs8:=SR.commit_at (a':=a') (last:=lst) (K':=H5.length+1) (rest:=[]) (mb:=mb) hs hg haids hat (by omega) hst8 (by rw [hH8];exact at_same _ _ _ (by have:=at_lt w1;omega)) (by rw [v _ (by omega)];exact x4) (by rw [v _ (by omega)];exact x5) (hu.at'.mwf) ha8
       obtain ⟨s8,he8⟩:∃ s8:SR,s8={ s with last:=lst,K:=H5.length+1,rest:=[],kept:=s.kept++[a'],act:=delM s.act tx,mb:=mb }:=⟨_,rfl⟩
       rw [<- he8] at hs8
       have e8X:s8.X=s.X:=by rw [he8]
       have e8K:s8.K=H5.length+1:=by rw [he8]
       have e8i:s8.ids=s.X::(H5.length+1)::s.M::(s.kept++[a']++(delM s.act tx).map (·.2)).flatMap TR.ids:=by rw [he8];rfl
       have h99:=c99 hs8 (by rw [he8];simp;omega)
       rw [e8X] at h99
       refine callW_i (ACalls.subB s.X 3 w1 rfl w4 (by rw [<- hH8];exact h99)) ?_
       rintro _ H9 ⟨rfl,rest',hs9,hst9⟩
       have ha9:a'.At H9:=ha8.stay hst9 fun i hi h=>by
        rw [haids] at hi
        obtain ⟨u1,_,_⟩:=n4 a haa i hi
        have:=(hs.tr a haa).lt i hi
        rw [e8K] at h
        rcases h with h | h <;> omega
       have hok':=hok a haa
       have hax:a'.x.log=a.x.log:=by rw [ha']
       have h57:=c57 ha9 (by rw [hax];have:=hok'.len;omega) (by rw [hax];exact hok'.fit)
       rw [hat,hax] at h57
       repeat' (first|(with_reducible first|(apply St.o;constructor)<;>intro _|refine ai ?_|(apply Sq.o;constructor))|simp (disch:=omega) only [lE,seval])
       refine callW_i h57 ?_
       rintro _ H10 ⟨rfl,hx10⟩
       repeat' (first|(with_reducible first|(apply St.o;constructor)<;>intro _|refine ai ?_|(apply Sq.o;constructor))|simp (disch:=omega) only [lE,seval])
       refine ⟨_,.refl _,?_,_,⟨hs9.ext hx10,rfl,?_,?_⟩,?_⟩
       . rw [if_neg (by simp)];rfl
       . refine ((hst8.weak (O':=(· ∈ s.ids)) fun i _ h=>?_).trans hst9 fun i hi h=>?_).trans hx10 fun _ _ h=>h.elim
         . rcases h with h | h | h | h
           . rw [h];exact s.X_mem
           . rw [h];exact s.K_mem
           . rw [h];exact s.M_mem
           . rw [h];exact SR.mem_ids haa (by simp [TR.ids])
         . rcases h with h | h
           . rw [h];exact s.X_mem
           . rw [e8K] at h;omega
       . intro i hi
         have hi2:i ∈ s8.ids:=SR.filter_ids.subset (by rw [<- e8X] at hi;exact hi)
         rw [e8i] at hi2
         simp only [SR.ids,List.mem_cons,List.mem_flatMap] at hi2 ⊢
         rcases hi2 with h | h | h | ⟨b,hb,h⟩
         . exact .inl (.inl h)
         . exact .inr (by omega)
         . exact .inl (.inr (.inr (.inl h)))
         . refine .inl (.inr (.inr (.inr ?_)))
           rcases List.mem_append.1 hb with hb | hb
           . rcases List.mem_append.1 hb with hb | hb
             . exact ⟨b,SR.kept_mem hb,h⟩
             . rw [List.mem_singleton.1 hb,haids] at h;exact ⟨a,haa,h⟩
           . obtain ⟨p,hp,rfl⟩:=List.mem_map.1 hb
             exact ⟨p.2,SR.act_mem (mem_delM hp),h⟩
       . rw [if_neg (by simp)]
         refine (filter_ts s8 rest').trans (congrArg forgetS ?_)
         rw [he8]
         simp only [SR.ts,List.filter_map,delT,delM_filter hs.asc,<- hlst,if_pos hst,ha',List.map_append,List.map_cons,List.map_nil]
         rfl
     . repeat' (first|(with_reducible first|(apply St.o;constructor)<;>intro _|refine ai ?_|(apply Sq.o;constructor))|((with_reducible apply Sc.o true;constructor);simp only [lP,seval,hnH3,vw_accs,g1,g2,hdel,hst,setAll,decide_false,List.length_map];refine ⟨_,h16,?_⟩;rintro _ _ ⟨rfl,rfl⟩;simp only [lA,lP,seval,hnH3,vw_accs,g1,g2,hdel,hst,setAll,decide_false,List.length_map])|simp (disch:=omega) only [lE,seval,hnH3,vw_accs,g1,g2,hdel,hst,setAll,decide_false,List.length_map])
       rw [<- hH4]
       obtain ⟨H5,hH5⟩:∃ H5,H5=H4:=⟨_,rfl⟩
       have hl5:H5.length=H3.length:=by rw [hH5];simp [hH4l]
       have ha5:a.At H5:=ha4.stay (O:=fun i=>i=s.X) (by rw [hH5];exact Stay.refl _ _) fun i hi h=>(n4 a haa i hi).1 h.symm
       have hst5:Stay (fun i=>i=s.X\/i=s.K\/i=s.M\/i=a.t) H1 H5:=by rw [hH5];exact hst4.trans (O':=fun i=>i=s.X) (by exact Stay.refl _ _) fun i hi h=>.inl h
       have z1:H5[s.X]?=some (.box [.int .i64 (if 0<st then st else s.last),.int .i64 s.shown,.int .i64 s.begun,.sub s.K 1 0 s.kept.length,.mp s.M]):=by rw [if_neg hst,hH5];exact y1
       have z2:H5[s.K]?=some (.arr 98 1 (s.kept.map opT++s.rest)):=by rw [hH5];exact y2
       have z4:H5[s.M]?=some (.map (kM (delM s.act tx)) (vM opT (delM s.act tx)) mb s.mc):=by rw [hH5];exact y4
       have z3:=ha5.box
       simp only [TR.cells] at z3
       rw [<- hH5]
       clear hH5
       generalize hlst:(if 0<st then st else s.last)=lst at *
       have f1:∀ o,(H5.set a.t o)[a.t]?=some o:=fun o=>at_same _ _ _ (by omega)
       have f2:∀ o,(H5.set a.t o)[s.X]?=H5[s.X]?:=fun o=>at_set _ _ _ _ (by omega)
       have f3:∀ o o',(H5.set a.t o++[o'])[s.K]?=H5[s.K]?:=fun o o'=>by rw [at_app _ _ _ (by simp;omega),at_set _ _ _ _ (by omega)]
       have f4:∀ o o' o'' o3,((H5.set a.t o++[o']).set s.K o''++[o3])[s.X]?=H5[s.X]?:=fun o o' o'' o3=>by rw [at_app _ _ _ (by simp;omega),at_set _ _ _ _ (by omega),at_app _ _ _ (by simp;omega),at_set _ _ _ _ (by omega)]
       have f5:∀ o o',(H5.set a.t o++[o'])[H5.length]?=some o':=fun o o'=>by
        have:=get_last (L:=H5.set a.t o) (o:=o')
        rwa [List.length_set] at this
       have f6:(s.kept.map opT).length=s.kept.length:=by simp
       repeat' (first|(with_reducible first|(apply St.o;constructor)<;>intro _|refine ai ?_|(apply Sq.o;constructor))|simp (disch:=omega) only [lE,seval,z1,z2,z3,f1,f2,f3,f4,f5,f6,setAll,List.set_set,List.length_set,List.length_append,List.length_cons,List.length_nil,Nat.zero_add,List.length_map])
       all_goals try (exfalso;omega)
       have htk:(s.kept.map opT++s.rest).take s.kept.length=s.kept.map opT:=by rw [List.take_append_of_le_length (by simp)];exact List.take_of_length_le (by simp)
       rw [htk]
       have hl15:=hst5.1
       obtain ⟨a',ha'⟩:∃ a':TR,a'={ a with x:={ a.x with done:=true,stamp:=st } }:=⟨_,rfl⟩
       have hat:a'.t=a.t:=by rw [ha']
       have haids:a'.ids=a.ids:=by rw [ha'];rfl
       obtain ⟨H6,hH6⟩:∃ H6,H6=(H5.set a.t (AObj.box [.int .i64 a.x.mode,.int .i64 a.x.snap,.bool true,.int .i64 st,.slc a.l 4 a.x.log.length,.mp a.r,.mp a.w])++[AObj.arr 98 1 [.op a.t 0]]).set s.K .dead++[AObj.arr 98 1 (s.kept.map opT++[.op a.t 0])]:=⟨_,rfl⟩
       have hl6:H6.length=H5.length+2:=by rw [hH6];simp
       have hst6:Stay (fun i=>i=s.X\/i=s.K\/i=s.M\/i=a.t) H1 H6:=by
        rw [hH6]
        exact (((hst5.trans (O':=fun i=>i=a.t) (Stay.set rfl) fun i hi h=>.inr (.inr (.inr h))).trans (O':=fun _=>False) (Stay.app _ _ _) fun _ _ h=>h.elim).trans (O':=fun i=>i=s.K) (Stay.set rfl) fun i hi h=>.inr (.inl h)).trans (O':=fun _=>False) (Stay.app _ _ _) fun _ _ h=>h.elim
       have x3:H6[a.t]?=some (.box a'.cells):=by
        rw [hH6,at_app _ _ _ (by simp;omega),at_set _ _ _ _ (by omega),at_app _ _ _ (by simp;omega),f1,ha'];rfl
       have x4:H6[H5.length+1]?=some (.arr 98 1 ((s.kept++[a']).map opT++[])):=by
        have:=get_last (L:=(H5.set a.t (AObj.box [.int .i64 a.x.mode,.int .i64 a.x.snap,.bool true,.int .i64 st,.slc a.l 4 a.x.log.length,.mp a.r,.mp a.w])++[AObj.arr 98 1 [.op a.t 0]]).set s.K .dead) (o:=AObj.arr 98 1 (s.kept.map opT++[.op a.t 0]))
        rw [List.length_set,List.length_append,List.length_set] at this
        rw [hH6,List.append_nil,List.map_append]
        simp [opT,hat]
       have x5:H6[s.M]?=some (.map (kM (delM s.act tx)) (vM opT (delM s.act tx)) mb s.mc):=by
        have hMl:=at_lt z4
        rw [hH6,at_app _ _ _ (by simp;omega),at_set _ _ _ _ (by omega),at_app _ _ _ (by simp;omega),at_set _ _ _ _ (by omega)];exact z4
       have ha6:∀ i ∈ [a.l,a.r,a.w],H6[i]?=H5[i]?:=fun i hi=>by
        have hia:i ∈ a.ids:=by simp only [TR.ids,List.mem_cons,List.not_mem_nil,or_false] at hi ⊢;exact .inr hi
        have hid:=(hs.tr a haa).ids_nodup hs haa
        simp only [TR.ids,List.nodup_cons,List.mem_cons,List.not_mem_nil,or_false,not_or] at hid hi
        have:=ha5.lt i hia
        obtain ⟨_,k2,_⟩:=n4 a haa i hia
        rw [hH6,at_app _ _ _ (by simp;omega),at_set _ _ _ _ (by omega),at_app _ _ _ (by simp;omega),at_set _ _ _ _ (by omega)]
       have hx6:H6[s.X]?=H5[s.X]?:=by rw [hH6];exact f4 _ _ _ _
       rw [<- hH6]
       clear hH6
       obtain ⟨H7,hH7⟩:∃ H7,H7=H6.set s.X (.box [.int .i64 lst,.int .i64 s.shown,.int .i64 s.begun,.slc (H5.length+1) 1 (s.kept.length+1),.mp s.M]):=⟨_,rfl⟩
       have w1:H7[s.X]?=some (.box [.int .i64 lst,.int .i64 s.shown,.int .i64 s.begun,.slc (H5.length+1) 1 (s.kept.length+1),.mp s.M]):=by rw [hH7];exact at_same _ _ _ (by omega)
       have w4:H7[H5.length+1]?=some (.arr 98 1 ((s.kept++[a']).map opT++[])):=by rw [hH7,at_set _ _ _ _ (by omega)];exact x4
       rw [<- hH7]
       obtain ⟨H8,hH8⟩:∃ H8,H8=H7.set s.X (.box ([.int .i64 lst,.int .i64 s.shown,.int .i64 s.begun,.slc (H5.length+1) 1 (s.kept.length+1),.mp s.M].set 3 (.sub (H5.length+1) 1 0 (s.kept.length+1)))):=⟨_,rfl⟩
       have hst8:Stay (fun i=>i=s.X\/i=s.K\/i=s.M\/i=a.t) H1 H8:=by
        rw [hH8,hH7]
        exact (hst6.trans (O':=fun i=>i=s.X) (Stay.set rfl) fun i hi h=>.inl h).trans (O':=fun i=>i=s.X) (Stay.set rfl) fun i hi h=>.inl h
       have hl8:H8.length=H6.length:=by rw [hH8,hH7];simp
       have v:∀ i,i≠s.X->H8[i]?=H6[i]?:=fun i hi=>by rw [hH8,hH7,at_set _ _ _ _ fun e=>hi e.symm,at_set _ _ _ _ fun e=>hi e.symm]
       have ha8:a'.At H8:=by
        obtain ⟨u1,_,_⟩:=n4 a haa a.l (by simp [TR.ids])
        obtain ⟨u2,_,_⟩:=n4 a haa a.r (by simp [TR.ids])
        obtain ⟨u3,_,_⟩:=n4 a haa a.w (by simp [TR.ids])
        rw [ha']
        refine ⟨?_,?_,?_,?_,ha5.rwf,ha5.wwf⟩
        . rw [v _ (by simp only;omega),x3,ha']
        . rw [v _ (by simp only;omega),ha6 _ (by simp)];exact ha5.log
        . rw [v _ (by simp only;omega),ha6 _ (by simp)];exact ha5.rows
        . rw [v _ (by simp only;omega),ha6 _ (by simp)];exact ha5.whole
       have hs8:=SR.commit_at (a':=a') (last:=lst) (K':=H5.length+1) (rest:=[]) (mb:=mb) hs hg haids hat (by omega) hst8 (by rw [hH8];exact at_same _ _ _ (by have:=at_lt w1;omega)) (by rw [v _ (by omega)];exact x4) (by rw [v _ (by omega)];exact x5) (hu.at'.mwf) ha8
       obtain ⟨s8,he8⟩:∃ s8:SR,s8={ s with last:=lst,K:=H5.length+1,rest:=[],kept:=s.kept++[a'],act:=delM s.act tx,mb:=mb }:=⟨_,rfl⟩
       rw [<- he8] at hs8
       have e8X:s8.X=s.X:=by rw [he8]
       have e8K:s8.K=H5.length+1:=by rw [he8]
       have e8i:s8.ids=s.X::(H5.length+1)::s.M::(s.kept++[a']++(delM s.act tx).map (·.2)).flatMap TR.ids:=by rw [he8];rfl
       have h99:=c99 hs8 (by rw [he8];simp;omega)
       rw [e8X] at h99
       refine callW_i (ACalls.subB s.X 3 w1 rfl w4 (by rw [<- hH8];exact h99)) ?_
       rintro _ H9 ⟨rfl,rest',hs9,hst9⟩
       have ha9:a'.At H9:=ha8.stay hst9 fun i hi h=>by
        rw [haids] at hi
        obtain ⟨u1,_,_⟩:=n4 a haa i hi
        have:=(hs.tr a haa).lt i hi
        rw [e8K] at h
        rcases h with h | h <;> omega
       have hok':=hok a haa
       have hax:a'.x.log=a.x.log:=by rw [ha']
       have h57:=c57 ha9 (by rw [hax];have:=hok'.len;omega) (by rw [hax];exact hok'.fit)
       rw [hat,hax] at h57
       repeat' (first|(with_reducible first|(apply St.o;constructor)<;>intro _|refine ai ?_|(apply Sq.o;constructor))|simp (disch:=omega) only [lE,seval])
       refine callW_i h57 ?_
       rintro _ H10 ⟨rfl,hx10⟩
       repeat' (first|(with_reducible first|(apply St.o;constructor)<;>intro _|refine ai ?_|(apply Sq.o;constructor))|simp (disch:=omega) only [lE,seval])
       refine ⟨_,.refl _,?_,_,⟨hs9.ext hx10,rfl,?_,?_⟩,?_⟩
       . rw [if_neg (by simp)];rfl
       . refine ((hst8.weak (O':=(· ∈ s.ids)) fun i _ h=>?_).trans hst9 fun i hi h=>?_).trans hx10 fun _ _ h=>h.elim
         . rcases h with h | h | h | h
           . rw [h];exact s.X_mem
           . rw [h];exact s.K_mem
           . rw [h];exact s.M_mem
           . rw [h];exact SR.mem_ids haa (by simp [TR.ids])
         . rcases h with h | h
           . rw [h];exact s.X_mem
           . rw [e8K] at h;omega
       . intro i hi
         have hi2:i ∈ s8.ids:=SR.filter_ids.subset (by rw [<- e8X] at hi;exact hi)
         rw [e8i] at hi2
         simp only [SR.ids,List.mem_cons,List.mem_flatMap] at hi2 ⊢
         rcases hi2 with h | h | h | ⟨b,hb,h⟩
         . exact .inl (.inl h)
         . exact .inr (by omega)
         . exact .inl (.inr (.inr (.inl h)))
         . refine .inl (.inr (.inr (.inr ?_)))
           rcases List.mem_append.1 hb with hb | hb
           . rcases List.mem_append.1 hb with hb | hb
             . exact ⟨b,SR.kept_mem hb,h⟩
             . rw [List.mem_singleton.1 hb,haids] at h;exact ⟨a,haa,h⟩
           . obtain ⟨p,hp,rfl⟩:=List.mem_map.1 hb
             exact ⟨p.2,SR.act_mem (mem_delM hp),h⟩
       . rw [if_neg (by simp)]
         refine (filter_ts s8 rest').trans (congrArg forgetS ?_)
         rw [he8]
         simp only [SR.ts,List.filter_map,delT,delM_filter hs.asc,<- hlst,if_neg hst,ha',List.map_append,List.map_cons,List.map_nil]
         rfl
   . have hfu:=c99u hu.at' (by simp only;omega)
     simp only at hfu
     repeat' (first|(with_reducible first|(apply St.o;constructor)<;>intro _|refine ai ?_|(apply Sq.o;constructor))|((with_reducible apply Sc.o true;constructor);simp only [lP,seval,hnH3,vw_accs,g1,g2,hdel,List.length_map];refine ⟨_,h16,?_⟩;rintro _ _ ⟨rfl,rfl⟩;simp only [lA,lP,seval,hnH3,vw_accs,g1,g2,hdel,List.length_map])|simp (disch:=omega) only [lE,seval,hnH3,vw_accs,g1,g2,hdel,List.length_map])
     all_goals try (exfalso;omega)
     refine callW_i hfu ?_
     rintro _ H5 ⟨rfl,s',hu2,e2⟩
     repeat' (first|(with_reducible first|(apply St.o;constructor)<;>intro _|refine ai ?_|(apply Sq.o;constructor))|simp (disch:=omega) only [lE,seval])
     refine ⟨_,weak_tup3 _ _,?_,s',((Upd.ext hs hxx).trans hu).trans hu2,?_⟩
     . rw [if_pos he]
     . rw [if_pos he,e2]
       congr 1
       simp only [SR.ts,delT,List.filter_map,delM_filter hs.asc]
       rfl
end Go.Proofs.Try
