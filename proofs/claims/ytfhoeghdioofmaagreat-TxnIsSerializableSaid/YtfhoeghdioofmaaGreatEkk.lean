/-
 A part of the proof.
-/
import Derived.Test.YtfhoeghdioofmaaGreatEjj
set_option linter.unusedSimpArgs false
set_option linter.unusedVariables false
namespace Go.Proofs.Try
open Go.Al
set_option maxRecDepth 100000
set_option maxHeartbeats 16000000
structure OkS (N:Nat) (s:TS):Prop where
 cnt:s.kept.length+s.act.length<=40
 b0:0<=s.begun
 bN:s.begun<=N
 tx:∀ t ∈ allS s,OkT t/\t.log.length<=N
theorem getT_mem {s:TS} {tx:Int} {t:TX} (h:getT s tx=some t):t ∈ allS s:=by
 simp only [getT,Option.map_eq_some_iff] at h
 obtain ⟨p,hp,rfl⟩:=h
 exact List.mem_append_right _ (List.mem_map.2 ⟨p,List.mem_of_find?_eq_some hp,rfl⟩)
theorem mem_setT {s:TS} {tx:Int} {t u:TX} (h:u ∈ allS (setT s tx t)):u=t\/u ∈ allS s:=by
 simp only [allS,setT,List.mem_append,List.map_map,List.mem_map,Function.comp] at h
 rcases h with h | ⟨p,hp,rfl⟩
 . exact .inr (List.mem_append_left _ h)
 . by_cases e:p.1=tx
   . simp only [e,if_true];exact .inl trivial
   . simp only [e,if_false];exact .inr (List.mem_append_right _ (List.mem_map.2 ⟨p,hp,rfl⟩))
theorem OkS.set {N:Nat} {s:TS} (h:OkS N s) {tx:Int} {t:TX} {M:Nat} (ht:OkT t/\t.log.length<=M) (hM:N<=M):OkS M (setT s tx t) :=
 ⟨by simpa [setT] using h.cnt,h.b0,by have:=h.bN;simp only [setT];omega,fun u hu=>by
   rcases mem_setT hu with rfl | hu
   . exact ht
   . exact ⟨(h.tx u hu).1,Nat.le_trans (h.tx u hu).2 hM⟩⟩
theorem OkS.weak {N M:Nat} {s:TS} (h:OkS N s) (hM:N<=M):OkS M s:=⟨h.cnt,h.b0,by have:=h.bN;omega,fun u hu=>⟨(h.tx u hu).1,Nat.le_trans (h.tx u hu).2 hM⟩⟩
theorem OkS.forget {N:Nat} {s:TS} (h:OkS N s):OkS N (forgetS s):=by
 refine ⟨?_,h.b0,h.bN,fun u hu=>h.tx u ?_⟩
 . have:=List.length_filter_le (fun t=>!gone (leastK s) t) s.kept
   have:=h.cnt
   simp only [forgetS];omega
 . simp only [allS,forgetS,List.mem_append] at hu ⊢
   rcases hu with hu | hu
   . exact .inl (List.mem_filter.1 hu).1
   . exact .inr hu
theorem OkS.del {N:Nat} {s:TS} (h:OkS N s) (tx:Int):OkS N (delT s tx):=by
 refine ⟨?_,h.b0,h.bN,fun u hu=>h.tx u ?_⟩
 . have:=List.length_filter_le (fun p:Int × TX=>decide (p.1≠tx)) s.act
   have:=h.cnt
   simp only [delT];omega
 . simp only [allS,delT,List.mem_append] at hu ⊢
   rcases hu with hu | hu
   . exact .inl hu
   . obtain ⟨p,hp,rfl⟩:=List.mem_map.1 hu
     exact .inr (List.mem_map.2 ⟨p,(List.mem_filter.1 hp).1,rfl⟩)
theorem del_cnt {s:TS} {tx:Int} {t:TX} (h:getT s tx=some t):(delT s tx).act.length+1<=s.act.length:=by
 simp only [getT,Option.map_eq_some_iff] at h
 obtain ⟨p,hp,rfl⟩:=h
 have hm:=List.mem_of_find?_eq_some hp
 have hq:¬ (decide (p.1≠tx))=true:=by
  have:=List.find?_some hp
  simpa using this
 simp only [delT]
 exact List.length_filter_lt_length_iff_exists.2 ⟨p,hm,hq⟩
theorem okT_new (mode snap:Int):OkT ⟨mode,snap,false,0,[],[],[]⟩:=⟨by simp,by simp,by simp,by simp,by simp⟩
theorem OkS.begin {N:Nat} {s:TS} (h:OkS N s) (mode:Int):OkS (N+1) (beginS s mode).2:=by
 unfold beginS
 split
 . exact h.weak (by omega)
 . split
   . exact h.weak (by omega)
   . rename_i h1 h2
     refine OkS.forget ⟨?_,?_,?_,fun u hu=>?_⟩
     . simp only [List.length_append,List.length_singleton];omega
     . have:=h.b0;simp only;omega
     . have:=h.bN;simp only;omega
     . simp only [allS,List.map_append,List.map_cons,List.map_nil,List.mem_append,List.mem_singleton] at hu
       rcases hu with hu | hu | rfl
       . exact ⟨(h.tx u (List.mem_append_left _ hu)).1,by have:=(h.tx u (List.mem_append_left _ hu)).2;omega⟩
       . exact ⟨(h.tx u (List.mem_append_right _ hu)).1,by have:=(h.tx u (List.mem_append_right _ hu)).2;omega⟩
       . exact ⟨okT_new _ _,by simp⟩
theorem okT_read {t:TX} (h:OkT t) {tab row:Int} (h1:0<=tab/\tab<256) (h2:0<=row/\row<=1073741824):OkT (readT t tab row)/\(readT t tab row).log=t.log:=by
 unfold readT
 split
 . exact ⟨h,rfl⟩
 . rename_i hn
   simp only [not_or] at hn
   split
   . rename_i hr
     refine ⟨⟨h.log,h.len,fun p hp=>?_,?_,by simp;omega⟩,rfl⟩
     . rcases List.mem_append.1 hp with hp | hp
       . exact h.rows p hp
       . rw [List.mem_singleton.1 hp];exact ⟨h1,h2⟩
     . refine List.nodup_append.2 ⟨h.nodup,by simp,fun a ha b hb e=>?_⟩
       rw [List.mem_singleton.1 hb] at e
       subst e
       exact hn.2 (by simpa using ha)
   . refine ⟨⟨h.log,h.len,fun p hp=>h.rows p (List.mem_filter.1 hp).1,h.nodup.sublist List.filter_sublist,Nat.le_trans (List.length_filter_le _ _) h.rlen⟩,rfl⟩
theorem OkS.read {N:Nat} {s:TS} (h:OkS N s) (tx tab row:Int):OkS (N+1) (readS s tx tab row).2:=by
 unfold readS
 cases hg:getT s tx with
 | none=>exact h.weak (by omega)
 | some t =>
   obtain ⟨ht,hl⟩:=h.tx t (getT_mem hg)
   simp only
   split
   . exact h.weak (by omega)
   . obtain ⟨h1,h2⟩:=okT_read ht (tab:=tab) (row:=row) (by omega) (by omega)
     exact h.set ⟨h1,by rw [h2];omega⟩ (by omega)
theorem OkS.write {N:Nat} {s:TS} (h:OkS N s) (hN:N<100000) (tx:Int) (w:WR):OkS (N+1) (writeS s tx w).2:=by
 unfold writeS
 cases hg:getT s tx with
 | none=>exact h.weak (by omega)
 | some t =>
   obtain ⟨ht,hl⟩:=h.tx t (getT_mem hg)
   simp only
   split
   . exact h.weak (by omega)
   . split
     . exact h.weak (by omega)
     . split
       . exact h.weak (by omega)
       . rename_i h1 h2 h3
         refine h.set ⟨⟨fun x hx=>?_,by simp;omega,ht.rows,ht.nodup,ht.rlen⟩,by simp;omega⟩ (by omega)
         rcases List.mem_append.1 hx with hx | hx
         . exact ht.log x hx
         . rw [List.mem_singleton.1 hx];simp only [not_or] at h2;omega
theorem OkS.back {N:Nat} {s:TS} (h:OkS N s) (tx mark:Int):OkS N (backS s tx mark).2:=by
 unfold backS
 cases hg:getT s tx with
 | none=>exact h
 | some t =>
   obtain ⟨ht,hl⟩:=h.tx t (getT_mem hg)
   simp only
   split
   . exact h
   . refine h.set ⟨⟨fun x hx=>ht.log x (List.mem_of_mem_take hx),?_,ht.rows,ht.nodup,ht.rlen⟩,?_⟩ (by omega)
     . have:=ht.len;simp only [List.length_take];omega
     . simp only [List.length_take];omega
theorem OkS.publish {N:Nat} {s:TS} (h:OkS N s) (a:Int):OkS N (publishS s a).2:=by
 unfold publishS
 split
 . exact h
 . exact OkS.forget ⟨h.cnt,h.b0,h.bN,h.tx⟩
theorem OkS.abort {N:Nat} {s:TS} (h:OkS N s) (tx:Int):OkS N (abortS s tx).2:=by
 unfold abortS
 split
 . exact (h.del tx).forget
 . exact h
theorem OkS.commit {N:Nat} {s:TS} (h:OkS N s) (tx:Int):OkS N (commitS s tx).2:=by
 unfold commitS
 cases hg:getT s tx with
 | none=>exact h
 | some t =>
   obtain ⟨ht,hl⟩:=h.tx t (getT_mem hg)
   simp only
   split
   . exact (h.del tx).forget
   . have hd:=h.del tx
     have hdc:=del_cnt hg
     refine OkS.forget ⟨?_,hd.b0,hd.bN,fun u hu=>?_⟩
     . have:=h.cnt;simp only [List.length_append,List.length_singleton];omega
     . simp only [allS,List.mem_append,List.mem_singleton] at hu
       rcases hu with (hu | rfl) | hu
       . exact h.tx u (List.mem_append_left _ hu)
       . exact ⟨⟨ht.log,ht.len,ht.rows,ht.nodup,ht.rlen⟩,hl⟩
       . exact hd.tx u (List.mem_append_right _ hu)
def saveT (o:Option TX):RS:=match o with | some t=>⟨t.log.length,[],0⟩ | none=>⟨0,[],273⟩
noncomputable def doS (s:TS) (c:CL):RS × TS :=
 if c.kind=0 then beginS s c.a
 else if c.kind=1 then (⟨0,[],(readS s c.tx c.a c.b).1⟩,(readS s c.tx c.a c.b).2)
 else if c.kind=2 then (⟨0,[],(writeS s c.tx ⟨c.a,c.b,c.dead,c.vals⟩).1⟩,(writeS s c.tx ⟨c.a,c.b,c.dead,c.vals⟩).2)
 else if c.kind=3 then (saveT (getT s c.tx),s)
 else if c.kind=4 then (⟨0,[],(backS s c.tx c.a).1⟩,(backS s c.tx c.a).2)
 else if c.kind=5 then commitS s c.tx
 else if c.kind=7 then (⟨0,[],(publishS s c.a).1⟩,(publishS s c.a).2)
 else (⟨0,[],(abortS s c.tx).1⟩,(abortS s c.tx).2)
theorem OkS.do {N:Nat} {s:TS} (h:OkS N s) (hN:N<100000) (c:CL):OkS (N+1) (doS s c).2:=by
 unfold doS
 split
 . exact h.begin _
 split
 . exact h.read _ _ _
 split
 . exact h.write hN _ _
 split
 . exact h.weak (by omega)
 split
 . exact (h.back _ _).weak (by omega)
 split
 . exact (h.commit _).weak (by omega)
 split
 . exact (h.publish _).weak (by omega)
 . exact (h.abort _).weak (by omega)
open Go.Proofs.Tryz
def mc13:MC:=(.seq (.ops [pK 3 1,(none,.e (.alloc 4 z4))]) (.seq (.ops [(none,.v (.build 6 z4 [])),(none,.e (.alloc 5 z4)),pS 3 5 6]) (.seq (.seq (.ops [pF 7 0 3,pL 8 7]) (.block 0 (.seq (.ops [pE 15 8 0,pM 14 15]) (.cond 14 (.ops [pM 17 0,pF 18 2 3,pL 19 18,pW 20 50 17 19,pM 16 20,pX 21 0 16,pX 22 1 16,pF 23 0 5,(none,.e (.store 1 false (.t 23) (.t 21))),pF 24 2 5,(none,.e (.store 1 false (.t 24) (.t 22)))]) (.seq (.ops [pE 26 8 1,pM 25 26]) (.cond 25 (.ops [pM 27 0,pF 28 1 3,pL 29 28,pF 30 2 3,pL 31 30,pF 32 3 3,pL 33 32,(none,.e (.call (some 34) 51 [.t 27,.t 29,.t 31,.t 33])),pF 35 2 5,(none,.e (.store 1 false (.t 35) (.t 34)))]) (.seq (.ops [pE 37 8 2,pM 36 37]) (.cond 36 (.ops [pM 38 0,pF 39 1 3,pL 40 39,pF 41 2 3,pL 42 41,pF 43 3 3,pL 44 43,pF 45 4 3,pL 46 45,pF 47 5 3,pL 48 47,(none,.v (.build 49 z1 [(0,1,.t 42),(1,1,.t 44),(2,1,.t 46),(3,1,.t 48)])),(none,.e (.call (some 50) 27 [.t 38,.t 40,.t 49])),pF 51 2 5,(none,.e (.store 1 false (.t 51) (.t 50)))]) (.seq (.ops [pE 53 8 3,pM 52 53]) (.cond 52 (.ops [pM 55 0,pF 56 1 3,pL 57 56,pW 58 26 55 57,pM 54 58,pX 59 0 54,pX 60 1 54,pF 61 0 5,(none,.e (.store 1 false (.t 61) (.t 59))),pF 62 2 5,(none,.e (.store 1 false (.t 62) (.t 60)))]) (.seq (.ops [pE 64 8 4,pM 63 64]) (.cond 63 (.ops [pM 65 0,pF 66 1 3,pL 67 66,pF 68 2 3,pL 69 68,(none,.e (.call (some 70) 28 [.t 65,.t 67,.t 69])),pF 71 2 5,(none,.e (.store 1 false (.t 71) (.t 70)))]) (.seq (.ops [pE 73 8 5,pM 72 73]) (.cond 72 (.ops [pM 75 0,pF 76 1 3,pL 77 76,pW 78 52 75 77,pM 74 78,pX 79 0 74,pX 80 1 74,pX 81 2 74,pF 82 0 5,(none,.e (.store 1 false (.t 82) (.t 79))),pF 83 1 5,(none,.e (.store 1 false (.t 83) (.t 80))),pF 84 2 5,(none,.e (.store 1 false (.t 84) (.t 81)))]) (.seq (.ops [pE 86 8 7,pM 85 86]) (.cond 85 (.ops [pM 87 0,pF 88 2 3,pL 89 88,pW 90 53 87 89,pF 91 2 5,(none,.e (.store 1 false (.t 91) (.t 90)))]) (.ops [pM 9 0,pF 10 1 3,pL 11 10,pW 12 54 9 11,pF 13 2 5,(none,.e (.store 1 false (.t 13) (.t 12)))]))))))))))))))))) (.seq (.ops [pR 92 3 5,pS 3 4 92]) .ret))))
theorem ok13:FnOk E 13 93 [.cell 4 30] mc13:=ofk func13
def CL.cs (c:CL):List AV:=[.int .i64 c.kind,.int .i64 c.tx,.int .i64 c.a,.int .i64 c.b,.bool c.dead,rowV c.vals]
def CL.av (c:CL):AV:=.agg c.cs
def RS.cs (r:RS):List AV:=[.int .i64 r.n,.view 4 (r.w.map WR.av),.int .i64 r.e]
def RS.av (r:RS):AV:=.agg r.cs
theorem weak_res (n e:Int):Weak (.agg [.int .i64 n,.raw (.slice none 0 0),.int .i64 e]) (RS.av ⟨n,[],e⟩):=WeakL.agg (.cons (.refl _) (.cons weak_nil (.refl _)))
theorem begin_w (s:TS) (mode:Int):(beginS s mode).1.w=[]:=by
 unfold beginS
 split
 . rfl
 . split <;> rfl
theorem weak_beg (s:TS) (mode:Int):Weak (.agg [.int .i64 (beginS s mode).1.n,.raw (.slice none 0 0),.int .i64 (beginS s mode).1.e]) (beginS s mode).1.av:=by
 have:=begin_w s mode
 generalize (beginS s mode).1=r at *
 obtain ⟨n,w,e⟩:=r
 simp only at this
 subst this
 exact weak_res n e
theorem ti30:E.TI 30=some ⟨.struct [(0,3),(1,27),(2,28)],3,40,[.int .i64 0,.slice none 0 0,.int .i64 0],true,true,false⟩:=rfl
theorem OkS.sr {N:Nat} {s:SR} (h:OkS N s.ts):(∀ a ∈ s.all,OkT a.x/\a.x.log.length<=N)/\s.kept.length<=40/\s.act.length<=40:=by
 refine ⟨fun a ha=>h.tx a.x ?_,?_,?_⟩
 . rw [allS_ts];exact List.mem_map.2 ⟨a,ha,rfl⟩
 . have:=h.cnt;simp only [SR.ts,List.length_map] at this;omega
 . have:=h.cnt;simp only [SR.ts,List.length_map] at this;omega
theorem Upd.tail {s s':SR} {H H1 H2 H3:List AObj} (hs:s.At H) (hx:Ext H H1) (hu:Upd s s' H1 H2) (hst:Stay (fun i=>H.length<=i/\i<H1.length) H2 H3):Upd s s' H H3:=by
 have hl:=hx.1
 refine ⟨hu.at'.stay hst fun i hi h=>?_,hu.x,(hx.to.trans hu.stay fun i _ h=>h).trans hst fun i hi h=>by omega,fun i hi=>?_⟩
 . rcases hu.own i hi with h1 | h1
   . have:=hs.lt i h1;omega
   . omega
 . rcases hu.own i hi with h1 | h1
   . exact .inl h1
   . exact .inr (by omega)
theorem c13 {s:SR} {H:List AObj} {N:Nat} (hs:s.At H) (hok:OkS N s.ts) (hN:N<100000) (c:CL) (hv:c.vals.length<=4398046510976) :
 ACalls E.P 13 [.op s.X 0,c.av] H (fun r H'=>r=(doS s.ts c).1.av/\∃ s',Upd s s' H H'/\s'.ts=(doS s.ts c).2):=by
 have hmax:=maxLen_eq
 obtain ⟨ok1,ok2,ok3⟩:=hok.sr
 have okm:∀ a,getM s.act c.tx=some a->OkT a.x/\a.x.log.length<=N:=fun a ha=>ok1 a (SR.act_mem (getM_mem ha))
 obtain ⟨H1,hH1⟩:∃ H1,H1=H++[AObj.box [.int .i64 c.kind,.int .i64 c.tx,.int .i64 c.a,.int .i64 c.b,.bool c.dead,rowV c.vals]]++[AObj.box [.int .i64 0,.raw (.slice none 0 0),.int .i64 0]]++[AObj.box [.int .i64 0,.raw (.slice none 0 0),.int .i64 0]]:=⟨_,rfl⟩
 have hx1:Ext H H1:=by rw [hH1];simp only [List.append_assoc];exact Stay.app _ _ _
 have hl1:H1.length=H.length+3:=by rw [hH1];simp
 have g0:H1[H.length]?=some (.box [.int .i64 c.kind,.int .i64 c.tx,.int .i64 c.a,.int .i64 c.b,.bool c.dead,rowV c.vals]):=by rw [hH1];simp
 have g1:H1[H.length+1]?=some (.box [.int .i64 0,.raw (.slice none 0 0),.int .i64 0]):=by rw [hH1];simp
 have g2:H1[H.length+2]?=some (.box [.int .i64 0,.raw (.slice none 0 0),.int .i64 0]):=by rw [hH1];simp
 have hs1:=hs.ext hx1
 have e1:∀ o o',(H++[o]++[o'])[H.length+1]?=some o':=fun o o'=>by simp
 have e2:∀ o o' o'',(H++[o]++[o']++[o''])[H.length+2]?=some o'':=fun o o' o''=>by simp
 have e3:∀ o o' o'' o3,(H++[o]++[o']++[o'']).set (H.length+2) o3=H++[o]++[o']++[o3]:=fun o o' o'' o3=>by simp
 have k50:=c50 hs1 (by omega) (by have:=hok.bN;simp only [SR.ts] at this;omega) (by have:=hok.b0;simpa [SR.ts] using this) c.a
 have k51:=c51 hs1 c.tx c.a c.b (fun a ha p hp=>fit_of ((okm a ha).1.rows p hp)) (fun a ha=>(okm a ha).1.nodup)
 have k27:=c27 hs1 c.tx ⟨c.a,c.b,c.dead,c.vals⟩ (fun a ha=>by have:=(okm a ha).2;omega) (fun a ha=>(okm a ha).1.fit) hv
 have k26:=c26 hs1 c.tx
 have k28:=c28 hs1 c.tx c.a (fun a ha=>by have:=(okm a ha).2;omega)
 have k52:=c52 hs1 (by omega) (by omega) (fun a ha=>(ok1 a ha).1) c.tx
 have k53:=c53 hs1 (by omega) c.a
 have k54:=c54 hs1 (by omega) c.tx
 refine ACalls.weakR ?_
 refine ok13.acalls0 hE hm (by simp) fun N hN=>?_
 unfold mc13 z1 z4 pK pS pF pL pE pM pW pX pR
 simp only [lA,seval,CL.av,CL.cs]
 repeat' (first|(with_reducible first|(apply St.o;constructor)<;>intro _|refine ai ?_|(apply Sq.o;constructor))|simp (disch:=omega) only [lE,seval,e1,e2,e3,get_last,set_last,fillE,setAll,setAt,List.length_append,List.length_cons,List.length_nil])
 rw [<- hH1]
 clear hH1 e1 e2 e3
 have hX:∀ {s':SR} {H2:List AObj},Upd s s' H1 H2->H2[H.length+1]?=some (.box [.int .i64 0,.raw (.slice none 0 0),.int .i64 0])/\H2[H.length+2]?=some (.box [.int .i64 0,.raw (.slice none 0 0),.int .i64 0])/\H2[H.length]?=some (.box [.int .i64 c.kind,.int .i64 c.tx,.int .i64 c.a,.int .i64 c.b,.bool c.dead,rowV c.vals])/\(∀ o,(H2.set (H.length+2) o)[H.length+2]?=some o)/\(∀ o,(H2.set (H.length+2) o)[H.length+1]?=some (.box [.int .i64 0,.raw (.slice none 0 0),.int .i64 0]))/\(∀ o o',((H2.set (H.length+2) o).set (H.length+1) o')[H.length+1]?=some o')/\∀ o o',Upd s s' H ((H2.set (H.length+2) o).set (H.length+1) o'):=fun {s' H2} hu=>by
  have b1:=hu.stay.at g1 (fun h=>by have:=hs.lt _ h;omega)
  have b2:=hu.stay.at g2 (fun h=>by have:=hs.lt _ h;omega)
  have b0:=hu.stay.at g0 (fun h=>by have:=hs.lt _ h;omega)
  have l2:=at_lt b2
  refine ⟨b1,b2,b0,fun o=>at_same _ _ _ l2,fun o=>by rw [at_set _ _ _ _ (by omega)];exact b1,fun o o'=>at_same _ _ _ (by simp;omega),fun o o'=>hu.tail hs hx1 ?_⟩
  exact Stay.trans (O':=fun i=>i=H.length+1) (Stay.set ⟨by omega,by omega⟩) (Stay.set rfl) fun i hi h=>by omega
 by_cases hK0:c.kind=0
 . have hd:doS s.ts c=beginS s.ts c.a:=by unfold doS;rw [if_pos hK0]
   rw [hd]
   repeat' (first|(with_reducible first|(apply St.o;constructor)<;>intro _|refine ai ?_|(apply Sq.o;constructor))|simp (disch:=omega) only [lE,seval,g0,hK0])
   all_goals try (exfalso;omega)
   refine callW_i k50 ?_
   rintro _ H2 ⟨rfl,s',hu,e⟩
   obtain ⟨b1,b2,b0,b3,b4,b5,b6⟩:=hX hu
   repeat' (first|(with_reducible first|(apply St.o;constructor)<;>intro _|refine ai ?_|(apply Sq.o;constructor))|simp (disch:=omega) only [lE,seval,b1,b2,b0,b3,b4,b5,setAll,setAt,List.set_set,ti30,RS.tupA])
   exact ⟨_,weak_beg _ _,rfl,s',b6 _ _,e⟩
 by_cases hK1:c.kind=1
 . have hd:doS s.ts c=(⟨0,[],(readS s.ts c.tx c.a c.b).1⟩,(readS s.ts c.tx c.a c.b).2):=by unfold doS;rw [if_neg hK0];rw [if_pos hK1]
   rw [hd]
   repeat' (first|(with_reducible first|(apply St.o;constructor)<;>intro _|refine ai ?_|(apply Sq.o;constructor))|simp (disch:=omega) only [lE,seval,g0,hK1])
   all_goals try (exfalso;omega)
   refine callW_i k51 ?_
   rintro _ H2 ⟨rfl,s',hu,e⟩
   obtain ⟨b1,b2,b0,b3,b4,b5,b6⟩:=hX hu
   repeat' (first|(with_reducible first|(apply St.o;constructor)<;>intro _|refine ai ?_|(apply Sq.o;constructor))|simp (disch:=omega) only [lE,seval,b1,b2,b0,b3,b4,b5,setAll,setAt,List.set_set,ti30,RS.tupA])
   exact ⟨_,weak_res _ _,rfl,s',b6 _ _,e⟩
 by_cases hK2:c.kind=2
 . have hd:doS s.ts c=(⟨0,[],(writeS s.ts c.tx ⟨c.a,c.b,c.dead,c.vals⟩).1⟩,(writeS s.ts c.tx ⟨c.a,c.b,c.dead,c.vals⟩).2):=by unfold doS;rw [if_neg hK0];rw [if_neg hK1];rw [if_pos hK2]
   rw [hd]
   repeat' (first|(with_reducible first|(apply St.o;constructor)<;>intro _|refine ai ?_|(apply Sq.o;constructor))|simp (disch:=omega) only [lE,seval,g0,hK2])
   all_goals try (exfalso;omega)
   refine callW_i k27 ?_
   rintro _ H2 ⟨rfl,s',hu,e⟩
   obtain ⟨b1,b2,b0,b3,b4,b5,b6⟩:=hX hu
   repeat' (first|(with_reducible first|(apply St.o;constructor)<;>intro _|refine ai ?_|(apply Sq.o;constructor))|simp (disch:=omega) only [lE,seval,b1,b2,b0,b3,b4,b5,setAll,setAt,List.set_set,ti30,RS.tupA])
   exact ⟨_,weak_res _ _,rfl,s',b6 _ _,e⟩
 by_cases hK3:c.kind=3
 . have hd:doS s.ts c=(saveT (getT s.ts c.tx),s.ts):=by unfold doS;rw [if_neg hK0];rw [if_neg hK1];rw [if_neg hK2];rw [if_pos hK3]
   rw [hd]
   repeat' (first|(with_reducible first|(apply St.o;constructor)<;>intro _|refine ai ?_|(apply Sq.o;constructor))|simp (disch:=omega) only [lE,seval,g0,hK3])
   all_goals try (exfalso;omega)
   refine callW_i k26 ?_
   rintro _ H2 ⟨rfl,rfl⟩
   obtain ⟨b1,b2,b0,b3,b4,b5,b6⟩:=hX (Upd.ext hs1 (Stay.refl _ _))
   rw [getT_ts]
   cases hg:getM s.act c.tx with
   | none =>
     simp only [saveS,saveT,Option.map_none]
     repeat' (first|(with_reducible first|(apply St.o;constructor)<;>intro _|refine ai ?_|(apply Sq.o;constructor))|simp (disch:=omega) only [lE,seval,b1,b2,b0,b3,b4,b5,setAll,setAt,List.set_set,ti30,RS.tupA])
     exact ⟨_,weak_res _ _,rfl,s,b6 _ _,rfl⟩
   | some a =>
     simp only [saveS,saveT,Option.map_some]
     repeat' (first|(with_reducible first|(apply St.o;constructor)<;>intro _|refine ai ?_|(apply Sq.o;constructor))|simp (disch:=omega) only [lE,seval,b1,b2,b0,b3,b4,b5,setAll,setAt,List.set_set,ti30,RS.tupA])
     exact ⟨_,weak_res _ _,rfl,s,b6 _ _,rfl⟩
 by_cases hK4:c.kind=4
 . have hd:doS s.ts c=(⟨0,[],(backS s.ts c.tx c.a).1⟩,(backS s.ts c.tx c.a).2):=by unfold doS;rw [if_neg hK0];rw [if_neg hK1];rw [if_neg hK2];rw [if_neg hK3];rw [if_pos hK4]
   rw [hd]
   repeat' (first|(with_reducible first|(apply St.o;constructor)<;>intro _|refine ai ?_|(apply Sq.o;constructor))|simp (disch:=omega) only [lE,seval,g0,hK4])
   all_goals try (exfalso;omega)
   refine callW_i k28 ?_
   rintro _ H2 ⟨rfl,s',hu,e⟩
   obtain ⟨b1,b2,b0,b3,b4,b5,b6⟩:=hX hu
   repeat' (first|(with_reducible first|(apply St.o;constructor)<;>intro _|refine ai ?_|(apply Sq.o;constructor))|simp (disch:=omega) only [lE,seval,b1,b2,b0,b3,b4,b5,setAll,setAt,List.set_set,ti30,RS.tupA])
   exact ⟨_,weak_res _ _,rfl,s',b6 _ _,e⟩
 by_cases hK5:c.kind=5
 . have hd:doS s.ts c=commitS s.ts c.tx:=by unfold doS;rw [if_neg hK0];rw [if_neg hK1];rw [if_neg hK2];rw [if_neg hK3];rw [if_neg hK4];rw [if_pos hK5]
   rw [hd]
   repeat' (first|(with_reducible first|(apply St.o;constructor)<;>intro _|refine ai ?_|(apply Sq.o;constructor))|simp (disch:=omega) only [lE,seval,g0,hK5])
   all_goals try (exfalso;omega)
   refine callW_i k52 ?_
   rintro _ H2 ⟨rfl,s',hu,e⟩
   obtain ⟨b1,b2,b0,b3,b4,b5,b6⟩:=hX hu
   repeat' (first|(with_reducible first|(apply St.o;constructor)<;>intro _|refine ai ?_|(apply Sq.o;constructor))|simp (disch:=omega) only [lE,seval,b1,b2,b0,b3,b4,b5,setAll,setAt,List.set_set,ti30,RS.tupA])
   exact ⟨_,.refl _,rfl,s',b6 _ _,e⟩
 by_cases hK7:c.kind=7
 . have hd:doS s.ts c=(⟨0,[],(publishS s.ts c.a).1⟩,(publishS s.ts c.a).2):=by unfold doS;rw [if_neg hK0];rw [if_neg hK1];rw [if_neg hK2];rw [if_neg hK3];rw [if_neg hK4];rw [if_neg hK5];rw [if_pos hK7]
   rw [hd]
   repeat' (first|(with_reducible first|(apply St.o;constructor)<;>intro _|refine ai ?_|(apply Sq.o;constructor))|simp (disch:=omega) only [lE,seval,g0,hK7])
   all_goals try (exfalso;omega)
   refine callW_i k53 ?_
   rintro _ H2 ⟨rfl,s',hu,e⟩
   obtain ⟨b1,b2,b0,b3,b4,b5,b6⟩:=hX hu
   repeat' (first|(with_reducible first|(apply St.o;constructor)<;>intro _|refine ai ?_|(apply Sq.o;constructor))|simp (disch:=omega) only [lE,seval,b1,b2,b0,b3,b4,b5,setAll,setAt,List.set_set,ti30,RS.tupA])
   exact ⟨_,weak_res _ _,rfl,s',b6 _ _,e⟩
 have hd:doS s.ts c=(⟨0,[],(abortS s.ts c.tx).1⟩,(abortS s.ts c.tx).2):=by unfold doS;rw [if_neg hK0];rw [if_neg hK1];rw [if_neg hK2];rw [if_neg hK3];rw [if_neg hK4];rw [if_neg hK5];rw [if_neg hK7]
 rw [hd]
 repeat' (first|(with_reducible first|(apply St.o;constructor)<;>intro _|refine ai ?_|(apply Sq.o;constructor))|simp (disch:=omega) only [lE,seval,g0])
 all_goals try (exfalso;omega)
 refine callW_i k54 ?_
 rintro _ H2 ⟨rfl,s',hu,e⟩
 obtain ⟨b1,b2,b0,b3,b4,b5,b6⟩:=hX hu
 repeat' (first|(with_reducible first|(apply St.o;constructor)<;>intro _|refine ai ?_|(apply Sq.o;constructor))|simp (disch:=omega) only [lE,seval,b1,b2,b0,b3,b4,b5,setAll,setAt,List.set_set,ti30])
 exact ⟨_,weak_res _ _,rfl,s',b6 _ _,e⟩
abbrev q34_0:MI:=oZ 4
def mc34:MC:=(.seq (.ops [(none,q34_0)]) (.seq (.seq (.ops [pM 6 0,pG 7 6,pM 8 1,pG 9 8,(none,.v (.bin 10 .neq false (.t 7) (.t 9)))]) (.cond 10 (.seq (.ops [(none,q34_0)]) .ret) .skip)) (.seq (.seq (.ops [pI 5 0]) (.block 0 (.loop (.seq (.seq (.ops [pM 11 5,pM 12 0,pG 13 12,pB 14 11 13]) (.cond 14 .skip (.exit 0))) (.seq (.block 1 (.seq (.any false (.pure0 none (oM 17 0) (.pure0 none (oM 18 5) (.pure0 none (oQ 19 1 17 18) (.pure0 none (oL 20 19) (.pure0 none (oM 21 1) (.pure0 none (oM 22 5) (.pure0 none (oQ 23 1 21 22) (.pure0 none (oL 24 23) (.pure0 none (.v (.bin 25 .neq false (.t 20) (.t 24))) .done)))))))))) (.cond 25 (.seq (.ops [(none,q34_0)]) .ret) .skip))) (.ops [pM 15 5,pA 16 15 1,pM 5 16])))))) (.seq (.ops [(none,.v (.mov 4 (.c (.bool true))))]) .ret))))
theorem ok34:FnOk E 34 26 [.tmp 4] mc34:=ofk func34
abbrev q38_0:MI:=oZ 4
def mc38:MC:=(.seq (.ops [(none,q38_0)]) (.seq (.seq (.ops [pM 6 0,pG 7 6,pM 8 1,pG 9 8,(none,.v (.bin 10 .neq false (.t 7) (.t 9)))]) (.cond 10 (.seq (.ops [(none,q38_0)]) .ret) .skip)) (.seq (.seq (.ops [pI 5 0]) (.block 0 (.loop (.seq (.seq (.ops [pM 11 5,pM 12 0,pG 13 12,pB 14 11 13]) (.cond 14 .skip (.exit 0))) (.seq (.block 1 (.seq (.any false (.pure0 none (oM 17 0) (.pure0 none (oM 18 5) (.pure0 none (oQ 19 6 17 18) (.pure0 none (oF 20 0 19) (.pure0 none (oL 21 20) (.pure0 none (oM 22 1) (.pure0 none (oM 23 5) (.pure0 none (oQ 24 6 22 23) (.pure0 none (oF 25 0 24) (.pure0 none (oL 26 25) (.pure0 none (.v (.bin 27 .neq false (.t 21) (.t 26))) (.pure0 none (oM 28 27) (.pure0 (some (28,false)) (oM 29 0) (.pure0 (some (28,false)) (oM 30 5) (.pure0 (some (28,false)) (oQ 31 6 29 30) (.pure0 (some (28,false)) (oF 32 1 31) (.pure0 (some (28,false)) (oL 33 32) (.pure0 (some (28,false)) (oM 34 1) (.pure0 (some (28,false)) (oM 35 5) (.pure0 (some (28,false)) (oQ 36 6 34 35) (.pure0 (some (28,false)) (oF 37 1 36) (.pure0 (some (28,false)) (oL 38 37) (.pure0 (some (28,false)) (.v (.bin 39 .neq false (.t 33) (.t 38))) (.pure0 none (oO 40 28 39) (.pure0 none (oM 41 40) (.pure0 (some (41,false)) (oM 42 0) (.pure0 (some (41,false)) (oM 43 5) (.pure0 (some (41,false)) (oQ 44 6 42 43) (.pure0 (some (41,false)) (oF 45 2 44) (.pure0 (some (41,false)) (oL 46 45) (.pure0 (some (41,false)) (oM 47 1) (.pure0 (some (41,false)) (oM 48 5) (.pure0 (some (41,false)) (oQ 49 6 47 48) (.pure0 (some (41,false)) (oF 50 2 49) (.pure0 (some (41,false)) (oL 51 50) (.pure0 (some (41,false)) (.v (.bin 52 .neq true (.t 46) (.t 51))) (.pure0 none (oO 53 41 52) (.pure0 none (oM 54 53) (.pure0 (some (54,false)) (oM 55 0) (.pure0 (some (54,false)) (oM 56 5) (.pure0 (some (54,false)) (oQ 57 6 55 56) (.pure0 (some (54,false)) (oF 58 3 57) (.pure0 (some (54,false)) (oL 59 58) (.pure0 (some (54,false)) (oM 60 1) (.pure0 (some (54,false)) (oM 61 5) (.pure0 (some (54,false)) (oQ 62 6 60 61) (.pure0 (some (54,false)) (oF 63 3 62) (.pure0 (some (54,false)) (oL 64 63) (.pure0 (some (54,false)) (.v (.bin 65 .neq false (.t 59) (.t 64))) (.pure0 none (oO 66 54 65) (.pure0 none (oM 67 66) (.pure0 (some (67,false)) (oM 68 0) (.pure0 (some (67,false)) (oM 69 5) (.pure0 (some (67,false)) (oQ 70 6 68 69) (.pure0 (some (67,false)) (oF 71 4 70) (.pure0 (some (67,false)) (oL 72 71) (.pure0 (some (67,false)) (oM 73 1) (.pure0 (some (67,false)) (oM 74 5) (.pure0 (some (67,false)) (oQ 75 6 73 74) (.pure0 (some (67,false)) (oF 76 4 75) (.pure0 (some (67,false)) (oL 77 76) (.alt (some (67,false)) (oW 78 34 72 77) (.base (.pure0 (some (67,false)) (oN 79 78) (.pure0 none (oO 80 67 79) (.pure0 none (oM 81 80) (.pure0 (some (81,false)) (oM 82 0) (.pure0 (some (81,false)) (oM 83 5) (.pure0 (some (81,false)) (oQ 84 6 82 83) (.pure0 (some (81,false)) (oF 85 5 84) (.pure0 (some (81,false)) (oL 86 85) (.pure0 (some (81,false)) (oM 87 1) (.pure0 (some (81,false)) (oM 88 5) (.pure0 (some (81,false)) (oQ 89 6 87 88) (.pure0 (some (81,false)) (oF 90 5 89) (.pure0 (some (81,false)) (oL 91 90) (.alt (some (81,false)) (oW 92 34 86 91) (.base (.pure0 (some (81,false)) (oN 93 92) (.pure0 none (oO 94 81 93) .done))) .stop))))))))))))))) .stop))))))))))))))))))))))))))))))))))))))))))))))))))))))))))))))) (.cond 94 (.seq (.ops [(none,q38_0)]) .ret) .skip))) (.ops [pM 15 5,pA 16 15 1,pM 5 16])))))) (.seq (.ops [(none,.v (.mov 4 (.c (.bool true))))]) .ret))))
theorem ok38:FnOk E 38 95 [.tmp 4] mc38:=ofk func38
deriving instance DecidableEq for Acc
theorem IdxR_cls {P:Program} {m:Nat} {N:FN} {xs:List CL} {n:Int} {d:Nat} {c:Kn} (h0:0<=n) (h1:n<xs.length):IdxR P m N (xs.map CL.av) n d c=rK P m N c d (.vp (xs.getD n.toNat default).cs) :=
 IdxR_map (cs:=CL.cs) (fun _=>rfl) h0 h1
theorem c34 (a b:List Int):ACalls E.P 34 [.view 1 (a.map (AV.int .i64)),.view 1 (b.map (AV.int .i64))] [] (fun r H=>r=.bool (decide (a=b))/\H=[]):=by
 have hmax:=maxLen_eq
 refine ok34.acalls hE hm (by simp) fun N hN=>?_
 unfold mc34 q34_0 pM pG pI pB pA oM oL oZ oQ
 simp only [lA,seval]
 by_cases hl:a.length=b.length
 . repeat' (first|(with_reducible first|(apply St.o;constructor)<;>intro _|refine ai ?_|(apply Sq.o;constructor))|simp (disch:=omega) only [lE,seval,List.length_map,hl,ne_eq,not_true,decide_false])
   all_goals try (exfalso;omega)
   refine loop_i (fun i:Nat=>i<=a.length/\a.take i=b.take i) (fun i=>⟨[(0,.view 1 (a.map (AV.int .i64))),(1,.view 1 (b.map (AV.int .i64))),(5,.int .i64 i)],[]⟩) (fun i=>a.length - i) 0 ⟨by omega,by simp⟩ (ent [] false) ?_
   rintro i ⟨hi,hn⟩
   by_cases hil:i<a.length
   . have h1:=take_succD hil
     have h2:=take_succD (l:=b) (i:=i) (by omega)
     generalize hx:a.getD i default=x at *
     generalize hy:b.getD i default=y at *
     have hga:a.getD i 0=x:=hx
     have hgb:b.getD i 0=y:=hy
     repeat' (first|(with_reducible first|(apply St.o;constructor)<;>intro _|refine ai ?_|(apply Sq.o;constructor))|simp (disch:=omega) only [lE,seval,IdxR_int,hga,hgb,hx,hy,Int.toNat_natCast,List.length_map])
     all_goals try (exfalso;omega)
     . rename_i h
       refine keep_b (decide_eq_false fun e=>?_).symm
       subst e
       exact h (hga.symm.trans hgb)
     . rename_i h
       exact back_i (i+1) ⟨by omega,by rw [h1,h2,hn,h]⟩ (by omega) (ent [] false)
   . obtain rfl:i=a.length:=by omega
     rw [List.take_length,hl,List.take_length] at hn
     repeat' (first|(with_reducible first|(apply St.o;constructor)<;>intro _|refine ai ?_|(apply Sq.o;constructor))|simp (disch:=omega) only [lE,seval,List.length_map,Int.lt_irrefl,decide_false])
     all_goals try (exfalso;omega)
     exact keep_b (decide_eq_true hn).symm
 . repeat' (first|(with_reducible first|(apply St.o;constructor)<;>intro _|refine ai ?_|(apply Sq.o;constructor))|simp (disch:=omega) only [lE,seval,List.length_map])
   all_goals try (exfalso;omega)
   exact keep_b (decide_eq_false fun e=>hl (by rw [e])).symm
theorem IdxR_accs' {P:Program} {m:Nat} {N:FN} {xs:List Acc} {n:Int} {d:Nat} {c:Kn} (h0:0<=n) (h1:n<xs.length):IdxR P m N (xs.map accA) n d c=rK P m N c d (.vp (accC (xs.getD n.toNat default))):=IdxR_map (cs:=accC) (fun _=>rfl) h0 h1
theorem c38 (a b:List Acc):ACalls E.P 38 [.view 6 (a.map accA),.view 6 (b.map accA)] [] (fun r H=>r=.bool (decide (a=b))/\H=[]):=by
 have hmax:=maxLen_eq
 refine ok38.acalls hE hm (by simp) fun N hN=>?_
 unfold mc38 q38_0 pM pG pI pB pA oM oL oF oZ oO oN oQ oW
 simp only [lA,seval]
 by_cases hl:a.length=b.length
 . repeat' (first|(with_reducible first|(apply St.o;constructor)<;>intro _|refine ai ?_|(apply Sq.o;constructor))|simp (disch:=omega) only [lE,seval,List.length_map,hl,ne_eq,not_true,decide_false])
   all_goals try (exfalso;omega)
   refine loop_i (fun i:Nat=>i<=a.length/\a.take i=b.take i) (fun i=>⟨[(0,.view 6 (a.map accA)),(1,.view 6 (b.map accA)),(5,.int .i64 i)],[]⟩) (fun i=>a.length - i) 0 ⟨by omega,by simp⟩ (ent [] false) ?_
   rintro i ⟨hi,hn⟩
   by_cases hil:i<a.length
   . have h1:=take_succD hil
     have h2:=take_succD (l:=b) (i:=i) (by omega)
     generalize hx:a.getD i default=x at *
     generalize hy:b.getD i default=y at *
     have k1:=c34 x.reads y.reads
     have k2:=c34 x.writes y.writes
     have hne:x≠y->a≠b:=fun h e=>by subst e;exact h (hx.symm.trans hy)
     repeat' (first|(with_reducible first|(apply St.o;constructor)<;>intro _|refine ai ?_|(apply Sq.o;constructor))|((with_reducible apply Sc.o true;constructor);simp only [lP,seval,IdxR_accs',hx,hy,accC,Int.toNat_natCast,List.length_map];(first|refine ⟨_,k1,?_⟩|refine ⟨_,k2,?_⟩);rintro _ _ ⟨rfl,rfl⟩;simp only [lA,lP,seval,IdxR_accs',hx,hy,accC,Int.toNat_natCast,List.length_map])|simp (disch:=omega) only [lE,seval,IdxR_accs',hx,hy,accC,Int.toNat_natCast,List.length_map])
     all_goals try (exfalso;omega)
     all_goals first
      | exact keep_b (decide_eq_false (hne fun e=>by subst e;simp_all)).symm
      | (refine back_i (i+1) ⟨by omega,?_⟩ (by omega) (ent [] false)
         rw [h1,h2,hn]
         congr 2
         obtain ⟨x1,x2,x3,x4,x5,x6⟩:=x
         obtain ⟨y1,y2,y3,y4,y5,y6⟩:=y
         simp_all)
   . obtain rfl:i=a.length:=by omega
     rw [List.take_length,hl,List.take_length] at hn
     repeat' (first|(with_reducible first|(apply St.o;constructor)<;>intro _|refine ai ?_|(apply Sq.o;constructor))|simp (disch:=omega) only [lE,seval,List.length_map,Int.lt_irrefl,decide_false])
     all_goals try (exfalso;omega)
     exact keep_b (decide_eq_true hn).symm
 . repeat' (first|(with_reducible first|(apply St.o;constructor)<;>intro _|refine ai ?_|(apply Sq.o;constructor))|simp (disch:=omega) only [lE,seval,List.length_map])
   all_goals try (exfalso;omega)
   exact keep_b (decide_eq_false fun e=>hl (by rw [e])).symm
end Go.Proofs.Try
