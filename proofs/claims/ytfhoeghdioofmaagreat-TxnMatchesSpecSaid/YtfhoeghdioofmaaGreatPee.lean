/-
 A part of the proof.
-/
import Derived.Test.YtfhoeghdioofmaaGreatPcc
import Derived.Test.YtfhoeghdioofmaaGreatEoo
set_option linter.unusedSimpArgs false
set_option linter.unusedVariables false
namespace Go.Proofs.Try
open Go.Al
set_option maxRecDepth 100000
set_option maxHeartbeats 16000000
structure UX where (num mode snap:Int) (done:Bool) (stamp:Int) (log:List WR) (rows whole:List Int) deriving Inhabited
def strip (w:WR):WR:=⟨w.tab,w.row,false,[]⟩
def Sm (k:Int × Int):Prop:=(0<=k.1/\k.1<=2)/\1<=k.2/\k.2<=8
structure RelT (t:TX) (u:UX):Prop where
 mode:u.mode=t.mode
 snap:u.snap=t.snap
 done:u.done=t.done
 stamp:u.stamp=t.stamp
 log:u.log=t.log.map strip
 reads:∀ k,Sm k->((k ∈ t.rows\/k.1 ∈ t.whole)↔(itemI k ∈ u.rows\/k.1 ∈ u.whole))
 rowsT:∀ k ∈ t.rows,Sm k
 nodup:t.rows.Nodup
structure UOk (s:TS) (u:UX):Prop where
 mode:0<=u.mode/\u.mode<=2
 snap:0<=u.snap/\u.snap<=s.shown
 ro:u.mode=2->u.log=[]
 keys:∀ w ∈ u.log,Sm w.key
 rows:∀ x ∈ u.rows,∃ k,Sm k/\x=itemI k
 whole:∀ x ∈ u.whole,0<=x/\x<=2
 wr:u.done=true->u.log≠[]->u.snap<u.stamp/\u.stamp<=s.last
 nw:¬ (u.done=true/\u.log≠[])->u.stamp=0
def meetU (a b:UX):Prop:=∃ u ∈ a.log,∃ v ∈ b.log,u.key=v.key
def Forg (s:TS) (u:UX):Prop:=u.done=true/\u.stamp<=leastK s/\(0<u.stamp\/u.snap<=leastK s)
def SepU (a b:UX):Prop:=a.done=true->b.done=true->a.log≠[]->b.log≠[]->a.num≠b.num->a.stamp≠b.stamp/\(a.stamp<b.stamp->meetU a b->a.stamp<=b.snap)
structure Gh (all:List UX) (s:TS) (kp:List (Int × TX)):Prop where
 kept:kp.map (·.2)=s.kept
 ids:((kp++s.act).map (·.1)).Nodup
 nums:(all.map (·.num)).Nodup
 top:∀ u ∈ all,0<u.num/\u.num<=s.begun
 rel:∀ p ∈ kp++s.act,∃ u ∈ all,u.num=p.1/\RelT p.2 u
 ok:∀ u ∈ all,UOk s u
 sep:∀ a ∈ all,∀ b ∈ all,SepU a b
 forg:∀ u ∈ all,(∃ p ∈ kp++s.act,p.1=u.num)\/Forg s u
section
variable {all:List UX} {s:TS} {kp:List (Int × TX)}
end
structure Corr (all:List UX) (s:TS) (kp:List (Int × TX)) (i j:Nat):Prop where
 hi:i<(allS s).length
 hj:j<all.length
 rel:RelT ((allS s).getD i default) (all.getD j default)
 num:(all.getD j default).num=((kp++s.act).getD i default).1
section
variable {all:List UX} {s:TS} {kp:List (Int × TX)} {N:Nat}
theorem getD_mem' {α:Type} [Inhabited α] {l:List α} {i:Nat} (h:i<l.length):l.getD i default ∈ l:=by simp [h]
end
section
variable {all:List UX} {s:TS} {kp:List (Int × TX)} {N:Nat}
end
section
variable {all:List UX} {s:TS} {kp:List (Int × TX)} {N:Nat}
end
abbrev RowOk (k:Int × Int):Prop:=0<=k.2/\k.2<=1073741824
theorem item_lt {a b:Int × Int} (ha:RowOk a) (hb:RowOk b):itemI a<itemI b↔keyLt a b=true:=by
 rw [keyLt_iff];unfold itemI;obtain ⟨h1,h2⟩:=ha;obtain ⟨h3,h4⟩:=hb;omega
theorem item_eq {a b:Int × Int} (ha:RowOk a) (hb:RowOk b):itemI a=itemI b↔a=b:=by
 constructor
 . intro e;unfold itemI at e;obtain ⟨h1,h2⟩:=ha;obtain ⟨h3,h4⟩:=hb;exact Prod.ext (by omega) (by omega)
 . rintro rfl;rfl
def zW:WR:=⟨0,0,false,[]⟩
def pickZ (log:List WR) (it:Int):WR:=log.foldl (fun w v=>if itemI v.key=it then v else w) zW
def lastZ (log:List WR):List WR:=(ascL (log.map fun w=>itemI w.key)).map (pickZ log)
theorem pickZ_snoc (log:List WR) (w:WR) (it:Int):pickZ (log++[w]) it=if itemI w.key=it then w else pickZ log it:=by simp [pickZ]
theorem pickZ_mem {log:List WR} {it:Int}:(∃ w ∈ log,itemI w.key=it)->pickZ log it ∈ log/\itemI (pickZ log it).key=it:=by
 refine rev_ind (p:=fun log=>(∃ w ∈ log,itemI w.key=it)->pickZ log it ∈ log/\itemI (pickZ log it).key=it) (by simp) (fun log x ih=>?_) log;rintro ⟨w,hw,e⟩;rw [pickZ_snoc];by_cases h:itemI x.key=it
 . rw [if_pos h];exact ⟨by simp,h⟩
 . rw [if_neg h];rcases List.mem_append.1 hw with hw | hw
   . obtain ⟨h1,h2⟩:=ih ⟨w,hw,e⟩;exact ⟨List.mem_append_left _ h1,h2⟩
   . rw [List.mem_singleton.1 hw] at e;exact absurd e h
theorem put_pick {f:Int->WR} {w:WR} (hw:RowOk w.key):∀ {L:List Int},L.Pairwise (· < ·)->(∀ x ∈ L,itemI (f x).key=x/\RowOk (f x).key) ->
 (withL (itemI w.key) L).map (fun it=>if itemI w.key=it then w else f it)=putW w (L.map f)
 | [],_,_=>by simp [withL,putW]
 | x::L,h,hf=>by
   obtain ⟨h1,h2⟩:=List.pairwise_cons.1 h;obtain ⟨e1,e2⟩:=hf x (by simp);have hlt:=item_lt hw e2;have heq:=item_eq hw e2;rw [e1] at hlt heq;rw [withL,List.map_cons,putW]
   have hrest:∀ M:List Int,(∀ y ∈ M,y≠itemI w.key)->M.map (fun it=>if itemI w.key=it then w else f it)=M.map f:=fun M hM=>by
    refine List.map_congr_left fun y hy=>?_;have:=hM y hy;rw [if_neg (fun e=>this e.symm)]
   by_cases hle:itemI w.key<=x
   . rw [if_pos hle,List.map_cons,if_pos rfl];by_cases hl:itemI w.key<x
     . have hfl:(x::L).filter (fun y=>decide (y≠itemI w.key))=x::L:=List.filter_eq_self.2 fun y hy=>by
        simp only [decide_eq_true_eq];rcases List.mem_cons.1 hy with rfl | hy
        . omega
        . have:=h1 y hy;omega
       rw [hfl,if_pos (hlt.1 hl),hrest (x::L) (fun y hy=>by
        rcases List.mem_cons.1 hy with rfl | hy
        . omega
        . have:=h1 y hy;omega),List.map_cons]
     . have hx:itemI w.key=x:=by omega
       have hfl:(x::L).filter (fun y=>decide (y≠itemI w.key))=L:=by
        rw [List.filter_cons_of_neg (by simp [hx])]
        exact List.filter_eq_self.2 fun y hy=>by
         simp only [decide_eq_true_eq];have:=h1 y hy;omega
       rw [hfl,if_neg (fun e=>hl (hlt.2 e)),if_pos (heq.1 hx),hrest L (fun y hy=>by have:=h1 y hy;omega)]
   . rw [if_neg hle,List.map_cons,if_neg (by omega:¬ itemI w.key=x),if_neg (fun e=>hle (Int.le_of_lt (hlt.2 e))),if_neg (fun e=>hle (by have:=heq.2 e;omega)),
      put_pick hw h2 fun y hy=>hf y (by simp [hy])]
theorem lastZ_eq {log:List WR} (h:∀ w ∈ log,RowOk w.key):lastZ log=lastW log:=by
 revert h
 refine rev_ind (p:=fun log=>(∀ w ∈ log,RowOk w.key)->lastZ log=lastW log) (fun _=>rfl) (fun log w ih=>?_) log;intro h;have ih:=ih fun v hv=>h v (List.mem_append_left _ hv);rw [lastW_snoc,<- ih];unfold lastZ;rw [List.map_append,List.map_cons,List.map_nil,ascL_snoc,<- put_pick (f:=pickZ log) (h w (by simp)) (ascL_asc _)]
 . refine List.map_congr_left fun it _=>?_;rw [pickZ_snoc]
 . intro x hx;rw [mem_ascL,List.mem_map] at hx;obtain ⟨v,hv,e⟩:=hx;obtain ⟨h1,h2⟩:=pickZ_mem ⟨v,hv,e⟩;exact ⟨h2,h _ (List.mem_append_left _ h1)⟩
def uxOf (n:Int) (t:TX):UX:=⟨n,t.mode,t.snap,t.done,t.stamp,t.log,t.rows.map itemI,t.whole⟩
def uxP (p:Int × TX):UX:=uxOf p.1 p.2
def seenU (t o:UX):List Int:=match (lastW o.log).find? (fun w=>t.whole.contains w.tab) with | some w=>[itemI w.key] | none=>[]
def readsU (l:List UX) (k:Nat):List Int :=
 ascL ((l.getD k default).rows++(List.range l.length).flatMap fun i=>if i=k then [] else seenU (l.getD k default) (l.getD i default))
def accU (l:List UX) (k:Nat):Acc:=⟨(l.getD k default).mode,(l.getD k default).snap,(l.getD k default).done,(l.getD k default).stamp,readsU l k,(lastW (l.getD k default).log).map fun w=>itemI w.key⟩
def histU (l:List UX):List Acc:=(List.range l.length).map (accU l)
theorem getD_uxP {l:List (Int × TX)} {k:Nat} (hk:k<l.length):(l.map uxP).getD k default=uxP (l.getD k default):=by simp [hk]
theorem getD_snd {l:List (Int × TX)} {k:Nat} (hk:k<l.length):(l.map (·.2)).getD k default=(l.getD k default).2:=by simp [hk]
theorem histU_eq (l:List (Int × TX)):histU (l.map uxP)=histL (l.map (·.2)):=by
 unfold histU histL;rw [List.length_map,List.length_map];refine List.map_congr_left fun k hk=>?_;have hk:=List.mem_range.1 hk
 have hr:readsU (l.map uxP) k=readsOf (l.map (·.2)) k:=by
  unfold readsU readsOf;rw [getD_uxP hk,getD_snd hk,List.length_map,List.length_map];congr 2;rw [List.flatMap_def,List.flatMap_def];congr 1;refine List.map_congr_left fun i hi=>?_;have hi:=List.mem_range.1 hi;by_cases e:i=k
  . simp [e]
  . rw [if_neg e,if_neg e,getD_uxP hi,getD_snd hi];rfl
 unfold accU accOf;rw [hr,getD_uxP hk,getD_snd hk];rfl
theorem act_place {s:TS} (hk:(s.act.map (·.1)).Pairwise (· < ·)) {tx:Int} {t:TX} (hg:getT s tx=some t) :
 ∃ l1 l2,s.act=l1++(tx,t)::l2/\(∀ p ∈ l1,p.1≠tx)/\idxT s tx=s.kept.length+l1.length/\(∀ t',setT s tx t'={ s with act:=l1++(tx,t')::l2 })/\delT s tx={ s with act:=l1++l2 }:=by
 obtain ⟨l1,l2,hl⟩:=List.append_of_mem (getT_pair hg);rw [hl,List.map_append,List.map_cons,List.pairwise_append,List.pairwise_cons] at hk;obtain ⟨_,⟨k2,_⟩,k1⟩:=hk
 have h1:∀ p ∈ l1,p.1≠tx:=fun p hp e=>by
  have:=k1 p.1 (List.mem_map.2 ⟨p,hp,rfl⟩) tx (by simp);omega
 have h2:∀ p ∈ l2,p.1≠tx:=fun p hp e=>by
  have:=k2 p.1 (List.mem_map.2 ⟨p,hp,rfl⟩);simp only at this;omega
 refine ⟨l1,l2,hl,h1,?_,fun t'=>?_,?_⟩
 . unfold idxT;have hn:l1.findIdx (fun p=>decide (p.1=tx))=l1.length:=List.findIdx_eq_length_of_false fun p hp=>by simpa using h1 p hp
   have h0:List.findIdx (fun p:Int × TX=>decide (p.1=tx)) ((tx,t)::l2)=0:=by rw [List.findIdx_cons];simp
   rw [hl,List.findIdx_append,hn,h0];simp
 . unfold setT;rw [hl,List.map_append,List.map_cons];have m1:l1.map (fun p=>if p.1=tx then (tx,t') else p)=l1:=(List.map_congr_left fun p hp=>by rw [if_neg (h1 p hp)];rfl).trans (List.map_id _);have m2:l2.map (fun p=>if p.1=tx then (tx,t') else p)=l2:=(List.map_congr_left fun p hp=>by rw [if_neg (h2 p hp)];rfl).trans (List.map_id _);rw [m1,m2];simp
 . unfold delT;rw [hl,List.filter_append,List.filter_cons_of_neg (by simp)];rw [List.filter_eq_self.2 fun p hp=>by simpa using h1 p hp,List.filter_eq_self.2 fun p hp=>by simpa using h2 p hp]
theorem get_none {s:TS} {tx:Int} (hg:getT s tx=none):∀ p ∈ s.act,p.1≠tx:=fun p hp e=>by
 simp only [getT,Option.map_eq_none_iff,List.find?_eq_none] at hg;exact hg p hp (by simpa using e)
theorem keep_gone {k:Int} {t:TX} (h:0<=t.stamp):(!gone k t)=(decide (k<t.stamp) || (decide (t.stamp=0) && decide (k<t.snap))):=by
 rw [Bool.eq_iff_iff];unfold gone;simp only [Bool.not_eq_true',Bool.and_eq_false_iff,Bool.or_eq_false_iff,Bool.or_eq_true,Bool.and_eq_true,decide_eq_true_eq,decide_eq_false_iff_not];omega
theorem putW_new {w:WR}:∀ {l:List WR},(∀ x ∈ l,x.key≠w.key)->(putW w l).length=l.length+1
 | [],_=>rfl
 | y::l,h=>by
   rw [putW];split
   . rfl
   . split
     . rename_i e;exact absurd e.symm (h y (by simp))
     . rw [List.length_cons,putW_new fun x hx=>h x (by simp [hx])];rfl
theorem write_full {t:TX} {w:WR} (hl:(lastW t.log).length<=64):64<(lastW (t.log++[w])).length↔((t.log.any fun x=>decide (x.key=w.key))=false/\64<=(lastW t.log).length):=by
 rw [lastW_snoc];by_cases hk:∃ x ∈ t.log,x.key=w.key
 . rw [putW_has (lastW_srt _) (mem_lastW_key.2 hk)];constructor
   . intro h;omega
   . rintro ⟨h,_⟩;obtain ⟨x,hx,e⟩:=hk;rw [List.any_eq_false] at h;exact absurd (by simpa using e) (h x hx)
 . have h1:(putW w (lastW t.log)).length=(lastW t.log).length+1:=putW_new fun x hx e=>hk (mem_lastW_key.1 ⟨x,hx,e⟩);rw [h1];constructor
   . intro h;refine ⟨?_,by omega⟩;rw [List.any_eq_false];intro x hx e;exact hk ⟨x,hx,by simpa using e⟩
   . rintro ⟨_,h⟩;omega
def RT (N:Nat) (t:TX):Prop:=(∀ p ∈ t.rows,1<=p.2)/\t.whole.length<=N
def RP (N:Nat) (s:TS):Prop:=∀ t ∈ allS s,RT N t
theorem RP.new (last:Int):RP 0 ⟨last,last,0,[],[]⟩:=by intro t ht;simp [allS] at ht
theorem RP.weak {N M:Nat} {s:TS} (h:RP N s) (hm:N<=M):RP M s:=fun t ht=>⟨(h t ht).1,Nat.le_trans (h t ht).2 hm⟩
theorem RP.forget {N:Nat} {s:TS} (h:RP N s):RP N (forgetS s):=fun t ht=>by
 refine h t ?_;rcases mem_allS.1 ht with h1 | h1
 . exact mem_allS.2 (.inl (mem_forget.1 h1).1)
 . exact mem_allS.2 (.inr h1)
theorem RP.set {N:Nat} {s:TS} (h:RP N s) {tx:Int} {t':TX} (ht:RT N t'):RP N (setT s tx t'):=fun u hu=>by
 rcases mem_setT hu with rfl | hu
 . exact ht
 . exact h u hu
theorem RP.del {N:Nat} {s:TS} (h:RP N s) (tx:Int):RP N (delT s tx):=fun t ht=>by
 refine h t ?_;rcases mem_allS.1 ht with h1 | ⟨p,hp,rfl⟩
 . exact mem_allS.2 (.inl h1)
 . exact mem_allS.2 (.inr ⟨p,(List.mem_filter.1 hp).1,rfl⟩)
theorem RP.do {N:Nat} {s:TS} (h0:RP N s) (c:CL):RP (N+1) (doS s c).2:=by
 have h:=h0.weak (Nat.le_succ N);unfold doS;split
 . unfold beginS;split
   . exact h
   split
   . exact h
   refine RP.forget fun t ht=>?_;rcases mem_allS.1 ht with h1 | ⟨p,hp,rfl⟩
   . exact h t (mem_allS.2 (.inl h1))
   . rcases List.mem_append.1 hp with hp | hp
     . exact h p.2 (mem_allS.2 (.inr ⟨p,hp,rfl⟩))
     . rw [List.mem_singleton.1 hp];exact ⟨by simp,by simp⟩
 split
 . unfold readS
   cases hg:getT s c.tx with
   | none=>exact h
   | some t =>
     simp only;split
     . exact h
     . refine h.set ?_;have ht:=h0 t (getT_mem hg);have ht1:=h t (getT_mem hg);unfold readT;split
       . exact ht1
       split
       . rename_i hr;refine ⟨fun p hp=>?_,ht1.2⟩;rcases List.mem_append.1 hp with hp | hp
         . exact ht.1 p hp
         . rw [List.mem_singleton.1 hp];simp only;omega
       . refine ⟨fun p hp=>ht.1 p (List.mem_filter.1 hp).1,?_⟩;have:=ht.2;simp only [List.length_append,List.length_singleton];omega
 split
 . unfold writeS
   cases hg:getT s c.tx with
   | none=>exact h
   | some t =>
     simp only;split
     . exact h
     split
     . exact h
     split
     . exact h
     . exact h.set (h t (getT_mem hg))
 split
 . exact h
 split
 . unfold backS
   cases hg:getT s c.tx with
   | none=>exact h
   | some t =>
     simp only;split
     . exact h
     . exact h.set (h t (getT_mem hg))
 split
 . unfold commitS
   cases hg:getT s c.tx with
   | none=>exact h
   | some t =>
     simp only;split
     . exact (h.del _).forget
     . refine RP.forget fun u hu=>?_;have hd:=h.del c.tx;rcases mem_allS.1 hu with h1 | h1
       . rcases List.mem_append.1 h1 with h1 | h1
         . exact h u (mem_allS.2 (.inl h1))
         . rw [List.mem_singleton.1 h1];exact h t (getT_mem hg)
       . exact hd u (mem_allS.2 (.inr h1))
 split
 . unfold publishS;split
   . exact h
   . exact RP.forget h
 . unfold abortS;split
   . exact (h.del _).forget
   . exact h
theorem RP.run {last:Int} (l:List CL):RP l.length (l.foldl (fun u c=>(doS u c).2) ⟨last,last,0,[],[]⟩) :=
 rev_ind (p:=fun l=>RP l.length (l.foldl (fun u c=>(doS u c).2) ⟨last,last,0,[],[]⟩)) (RP.new last) (fun l c ih=>by rw [List.foldl_append,List.length_append];exact ih.do c) l
theorem rows_has {rows:List (Int × Int)} {k:Int × Int} (hr:∀ p ∈ rows,RowOk p) (hk:RowOk k):(rows.map itemI).contains (itemI k)=rows.contains k:=by
 rw [Bool.eq_iff_iff];simp only [List.contains_eq_mem,List.mem_map,decide_eq_true_eq];constructor
 . rintro ⟨p,hp,e⟩;rw [<- (item_eq (hr p hp) hk).1 e];exact hp
 . intro h;exact ⟨k,h,rfl⟩
theorem item_div {k:Int × Int} (h0:0<=k.1) (h:RowOk k):(itemI k).tdiv 2147483648=k.1:=by
 obtain ⟨h1,h2⟩:=h;unfold itemI;rw [Int.tdiv_eq_ediv_of_nonneg (by omega)];omega
end Go.Proofs.Try
