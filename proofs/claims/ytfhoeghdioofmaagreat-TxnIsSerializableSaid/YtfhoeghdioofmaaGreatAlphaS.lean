/-
 A part of the proof.
-/
import Derived.Test.YtfhoeghdioofmaaGreatAlphaJ
import Derived.Test.YtfhoeghdioofmaaGreatAlphaR
import Derived.Sort.OwnSortedInts
import Derived.Shelf.SlSortCmp.WholeK
set_option linter.unusedSimpArgs false
set_option linter.unusedVariables false
namespace Go.Al
open Go.Sort Go.Proofs Go.RowKit
theorem repVs_ints {γ:Gm} {σ:Sg}:∀ {zs:List Int} {vs:List Value},RepVs γ σ (zs.map (AV.int .i64)) vs->vs=zs.map (Value.int .i64)
 | [],vs,h=>h
 | z::zs,vs,h=>by
   obtain ⟨v,vs',rfl,h1,h2⟩:=h
   have h1:v=.int .i64 z:=h1
   rw [h1,repVs_ints h2];rfl
theorem repVs_ints_mk {γ:Gm} {σ:Sg}:∀ (zs:List Int),RepVs γ σ (zs.map (AV.int .i64)) (zs.map (Value.int .i64))
 | []=>rfl
 | z::zs=>⟨_,_,rfl,rfl,repVs_ints_mk zs⟩
theorem flat_ints:∀ zs:List Int,flat (zs.map (Value.int .i64))=zs.map (Value.int .i64)
 | []=>rfl
 | z::zs=>by
   have:=flat_ints zs
   unfold flat at this ⊢
   rw [List.map_cons,List.flatMap_cons,this]
   rfl
def retV (R:Option Nat) (p:Option Addr) (cap:Nat):Value:=match R with | none=>.tuple #[] | some m=>.slice p m cap
def retA (R:Option Nat):AV:=match R with | none=>.tup [] | some m=>.slc 0 1 m
theorem bridge_ints {P:Program} {f:FuncId} {E:TypeId} {zs ts:List Int} {R:Option Nat} (hb:Bodied P f) (hlen:ts.length=zs.length) (hm:∀ m,R=some m->m<=zs.length)
 (h0:zs=[]->∀ p cap w,Calls P f #[.slice p 0 cap] w fun e w'=>e=.returned (retV R p cap)/\w'=w)
 (h:∀ blk cap w,zs≠[]->Holds (Value.int .i64) w blk 0 zs.toArray->blk<w.heap.size->zs.length<=cap->cap<=maxLen->Calls P f #[.slice (some ⟨blk,0,none⟩) zs.length cap] w fun e w' =>
   e=.returned (retV R (some ⟨blk,0,none⟩) cap)/\∃ n os,w'=grow (putRow (Value.int .i64) (Sort.ahead w n) blk 0 ts.toArray) os) :
 ACalls P f [.slc 0 1 zs.length] [.arr E 1 (zs.map (AV.int .i64))] (fun r H=>r=retA R/\H=[.arr E 1 (ts.map (AV.int .i64))]):=by
 refine ⟨hb,fun γ σ w vs hi hv=>?_⟩
 obtain ⟨v,_,rfl,⟨e,hs,hon,hve⟩,rfl⟩:=hv
 have hob:=hi.obj 0 _ e rfl hs
 cases e with
 | none=>exact hob.elim
 | some e =>
 obtain ⟨blk,cap⟩:=e
 obtain ⟨rfl,hn,hcap⟩:=hve blk cap rfl
 obtain ⟨vs',h1,h2,h3,h4,h5⟩:∃ vs,RepVs γ σ (zs.map (AV.int .i64)) vs/\(∀ u ∈ vs,okEl 1 u)/\0<1/\(zs.map (AV.int .i64)).length<=cap/\w.ownsRow 0 E 1 (.slice (blk.map (⟨·,0,none⟩)) (zs.map (AV.int .i64)).length cap) (zs.map (AV.int .i64)).length (flat vs):=by cases blk <;> exact hob
 rw [repVs_ints h1,List.length_map,flat_ints] at h5
 have hret:RepV γ σ (retA R) (retV R (blk.map (⟨·,0,none⟩)) cap):=by
  cases R with
  | none=>exact ⟨[],rfl,rfl⟩
  | some m =>
    refine ⟨_,hs,rfl,fun blk' cap' he=>?_⟩
    cases he
    exact ⟨rfl,Nat.le_trans (hm m rfl) hn,hcap⟩
 by_cases hz:zs=[]
 . subst hz
   have ht:ts=[]:=List.eq_nil_of_length_eq_zero (by simpa using hlen)
   subst ht
   refine (h0 rfl (blk.map (⟨·,0,none⟩)) cap w).mono ?_
   rintro e w' ⟨rfl,rfl⟩
   exact ⟨_,γ,σ,_,_,rfl,.refl _ _ _,hi,hret,rfl,rfl⟩
 . rcases h5.2 with ⟨_,h6⟩ | ⟨g,cap',cur,h6,_,h7,h8,h9,h10,h11⟩
   . exact absurd (List.eq_nil_of_length_eq_zero h6) hz
   . have hbg:blk=some g:=by
      cases blk with
      | none=>simp at h6
      | some b=>simp at h6;rw [h6.1]
     subst hbg
     simp only [Option.map_some,Value.slice.injEq,true_and] at h6
     have hcc:cap'=cap:=h6.symm
     subst hcc
     have hg:g<w.heap.size:=(Array.getElem?_eq_some_iff.1 h7).1
     have ho:=hi.own 0 g cap' hs
     have hlen1:σ.length=1:=hi.len
     rw [Nat.mul_one] at h11
     refine (h g cap' w hz (holds_of_blockI h7 h11) hg h8 h9).mono ?_
     rintro e w' ⟨rfl,n,os,rfl⟩
     have hgr:=grownBy_sortedI (w:=w) (g:=g) (n:=n) (os:=os) ts.toArray
     have hrow:=ownsRow_sortedI (n:=n) (os:=os) (base:=0) hlen (Nat.zero_le _) h7 h8 h9 h10
     have hdr:w.drawn<=(grow (putRow (Value.int .i64) (Sort.ahead w n) g 0 ts.toArray) os).drawn:=by
      have e:(grow (putRow (Value.int .i64) (Sort.ahead w n) g 0 ts.toArray) os).drawn=w.drawn+n:=by
       simp only [grow,putRow,mapBlock,Sort.ahead]
      omega
     generalize grow (putRow (Value.int .i64) (Sort.ahead w n) g 0 ts.toArray) os=w2 at *
     obtain ⟨g1,g2,g3,g4,g5⟩:=hgr
     have hkeep:∀ b,b<w.heap.size->b≠g->w2.heap[b]?=w.heap[b]?:=fun b hb hne=>g5 b hb (by simpa using hne)
     have hblks:Blks σ g:=⟨0,cap',hs⟩
     refine ⟨_,γ,σ,_,_,rfl,⟨fun _ _ h=>h,g4,fun b hb hnb=>⟨hkeep b hb (fun e=>hnb (by rw [e];exact hblks)),rfl⟩,fun _ h=>.inl h,?_,?_,?_,hdr,fun _ _ _ h=>.inl h⟩,⟨fun b o hbo=>?_,fun i b c h=>?_,hi.inj,by rw [hlen1];rfl,fun i o e hoo he=>?_,hi.glob⟩,hret,rfl,rfl⟩
     . first | exact g1 | exact g2 | exact g3
     . first | exact g1 | exact g2 | exact g3
     . first | exact g1 | exact g2 | exact g3
     . have hb:=hi.mem b o hbo
       have hne:b≠g:=fun e=>by rw [e,ho.1] at hbo;cases hbo
       rw [hkeep b (Array.getElem?_eq_some_iff.1 hb).1 hne];exact hb
     . obtain ⟨k1,k2⟩:=hi.own i b c h
       exact ⟨k1,Nat.lt_of_lt_of_le k2 g4⟩
     . cases i with
       | zero =>
         rw [hs] at he
         cases he
         simp at hoo
         subst hoo
         refine ⟨ts.map (Value.int .i64),repVs_ints_mk ts,fun u hu=>?_,by omega,by simpa [hlen] using h8,?_⟩
         . obtain ⟨z,_,rfl⟩:=List.mem_map.1 hu
           exact ⟨rfl,fun z hz=>by simp [Value.cells] at hz;subst hz;rfl⟩
         . rw [flat_ints,List.length_map,hlen]
           exact hrow
       | succ i=>simp at hoo
end Go.Al
namespace Go.Al
open Go.Sort Go.Proofs Go.RowKit
theorem flat_at {k:Nat} (hk:0<k):∀ {L:List Value},(∀ u ∈ L,u.cells.toList.length=k)->∀ {t:Nat},t<L.length * k->(flat L)[t]?=(L[t / k]?).bind fun u=>u.cells.toList[t % k]?
 | [],_,t,ht=>by simp at ht
 | u::L,hL,t,ht=>by
   have hu:u.cells.toList.length=k:=hL u (by simp)
   rw [flat_cons]
   by_cases h:t<k
   . rw [List.getElem?_append_left (by omega),Nat.div_eq_of_lt h,Nat.mod_eq_of_lt h];simp
   . obtain ⟨s,rfl⟩:∃ s,t=s+k:=⟨t - k,by omega⟩
     rw [List.getElem?_append_right (by omega),hu,Nat.add_sub_cancel,flat_at hk (fun v hv=>hL v (by simp [hv])) (by simp [Nat.add_mul] at ht;omega),Nat.add_div_right _ hk,Nat.add_mod_right]
     simp
def atF {N:Nat} (vs:List Value) (hN:vs.length=N) (i:Fin N):Value:=vs[i.1]'(by omega)
theorem flatK_at {N k:Nat} [Inhabited (Fin N)] (hk:0<k) {vs:List Value} (hN:vs.length=N) (hv:∀ u ∈ vs,okEl k u) (d:Array (Fin N)) :
 flatK (fun i=>(atF vs hN i).cells.toList) k d=(flat (d.toList.map (atF vs hN))).toArray:=by
 have hO:∀ u ∈ d.toList.map (atF vs hN),okEl k u:=by
  intro u hu
  obtain ⟨i,_,rfl⟩:=List.mem_map.1 hu
  exact hv _ (List.getElem_mem _)
 have hL:∀ u ∈ d.toList.map (atF vs hN),u.cells.toList.length=k:=fun u hu=>by rw [Array.length_toList];exact (hO u hu).1
 have hlen:(flat (d.toList.map (atF vs hN))).length=d.size * k:=by
  rw [flat_length hO];simp
 refine ext_get! (by simp [hlen]) fun t ht=>?_
 have ht:t<d.size * k:=by simpa using ht
 have hd:t / k<d.size:=Nat.div_lt_of_lt_mul (by rw [Nat.mul_comm];exact ht)
 have hm:t % k<k:=Nat.mod_lt _ hk
 rw [get_flatK _ _ _ _ ht]
 have h1:=flat_at hk hL (t:=t) (by simpa using ht)
 have h2:(flat (d.toList.map (atF vs hN))).toArray[t]! = (flat (d.toList.map (atF vs hN)))[t]!:=by simp
 rw [h2,List.getElem!_eq_getElem?_getD,List.getElem!_eq_getElem?_getD,h1,List.getElem?_map,getElem!_pos d _ hd,show d.toList[t / k]?=some d[t / k] by simp [hd]]
 simp
theorem grownBy_put {w:World} {g n:Nat} {os:Array Obj} (d:Array Value):w.grownBy (grow (putRow id (Sort.ahead w n) g 0 d) os) (some g):=by
 refine ⟨rfl,rfl,rfl,by simp,fun k hk hne=>?_⟩
 rw [heap_grow_old _ _ (by simpa using hk)]
 have:g≠k:=fun e=>hne (by rw [e])
 simp [putRow,mapBlock,Sort.ahead,Array.getElem?_modify,this]
theorem take_put (cur:Array Value) (ts:List Value) (h:ts.length<=cur.size):(putCells id 0 ts.toArray cur).toList.take ts.length=ts:=by
 apply List.ext_getElem?
 intro j
 by_cases hj:j<ts.length
 . rw [List.getElem?_take_of_lt hj,Array.getElem?_toList]
   simp [putCells,hj,show j<cur.size by omega]
 . rw [List.getElem?_take_eq_none (by omega),List.getElem?_eq_none (by omega)]
theorem heap_put {w:World} {g n:Nat} {os:Array Obj} {cur:Array Value} {e:TypeId} (d:Array Value) (hb:w.heap[g]?=some (.cells cur e (0,0))) :
 (grow (putRow id (Sort.ahead w n) g 0 d) os).heap[g]?=some (.cells (putCells id 0 d cur) e (0,0)):=by
 have hg:=(Array.getElem?_eq_some_iff.1 hb).1
 rw [heap_grow_old _ _ (by simpa [putRow,mapBlock,Sort.ahead] using hg)]
 simp [putRow,mapBlock,Sort.ahead,Array.getElem?_modify,hb,onCells]
theorem grown_eq {w w':World} (hs:w.heap.size<=w'.heap.size) (hk:∀ b,b<w.heap.size->w'.heap[b]?=w.heap[b]?) (ho:w'.os=w.os) (ht:w'.tape=w.tape) (hp:w'.output=w.output) (hd:w.drawn<=w'.drawn) :
 ∃ q os',w'=grow (w.drewN q) os':=by
 refine ⟨w'.drawn - w.drawn,w'.heap.extract w.heap.size w'.heap.size,?_⟩
 have hh:w'.heap=w.heap++w'.heap.extract w.heap.size w'.heap.size:=by
  apply Array.ext_getElem?
  intro i
  rw [Array.getElem?_append]
  split
  . rename_i hi;exact hk i hi
  . rename_i hi
    rw [Array.getElem?_extract]
    by_cases h2:i<w'.heap.size
    . rw [if_pos (by omega)];congr 1;omega
    . rw [if_neg (by omega),Array.getElem?_eq_none (by omega)]
 have hdd:w'.drawn=w.drawn+(w'.drawn - w.drawn):=by omega
 cases w'
 cases w
 simp only [grow,World.drewN] at *
 subst ho ht hp
 congr 1
theorem cmp_lays {P:Program} {g:FuncId} {k N:Nat} [Inhabited (Fin N)] {β:Type} {ds:List β} {av:β->AV} {cf:β->β->Int} (hg:∀ a ∈ ds,∀ b ∈ ds,ACalls P g [av a,av b] [] (fun r H=>r=.int .i64 (cf a b)/\H=[]))
 (hpure:∀ a ∈ ds,Go.Al.sc 0 (av a)=true) (hagg:∀ a ∈ ds,∃ xs,av a=.agg xs) {γ:Gm} {σ:Sg} {w:World} {H:List AObj} (hi:Inv γ σ w H) {vs:List Value} (hvs:RepVs γ σ (ds.map av) vs) (hN:vs.length=N) (hD:ds.length=N)
 {blk:Nat} (hgb:γ blk=none) :
 CmpLays P g #[] (fun i=>(atF vs hN i).cells.toList) k (fun i j=>cf (ds[i.1]'(by omega)) (ds[j.1]'(by omega))) blk 0 N w:=by
 intro m os dk hdk x y
 have hrep:∀ i:Fin N,RepV γ [] (av (ds[i.1]'(by omega))) (atF vs hN i)/\∃ cs,atF vs hN i=.agg cs:=by
  intro i
  have hi':i.1<ds.length:=by omega
  obtain ⟨u,hu,hr⟩:=hvs.get i.1 (av ds[i.1]) (by simp [hi'])
  have he:atF vs hN i=u:=by
   have:vs[i.1]?=some (atF vs hN i):=by simp [atF]
   rw [this] at hu;exact Option.some.inj hu
  rw [he]
  refine ⟨RepV.sc (k:=0) (fun j hj=>by omega) _ _ (hpure _ (List.getElem_mem _)) hr,?_⟩
  obtain ⟨xs,hx⟩:=hagg _ (List.getElem_mem hi')
  rw [hx] at hr
  obtain ⟨cs,h1,_⟩:=hr
  exact ⟨_,h1⟩
 have hgr:=grownBy_put (w:=w) (g:=blk) (n:=m) (os:=os) (flatK (fun i=>(atF vs hN i).cells.toList) k dk)
 unfold sortWorldK putRowK
 generalize grow (putRow id (Sort.ahead w m) blk 0 (flatK (fun i=>(atF vs hN i).cells.toList) k dk)) os=w1 at *
 have hinv:Inv γ [] w1 []:=by
  refine ⟨fun b o hbo=>?_,fun i b c h=>by simp at h,fun i j b c c' h=>by simp at h,rfl,fun i o e hoo=>by simp at hoo,hi.glob⟩
  have hb:=hi.mem b o hbo
  rw [hgr.block b (Array.getElem?_eq_some_iff.1 hb).1 (fun e=>by cases e;rw [hgb] at hbo;cases hbo)]
  exact hb
 obtain ⟨h1,cx,hx⟩:=hrep x
 obtain ⟨h2,cy,hy⟩:=hrep y
 have hc:=(hg _ (List.getElem_mem (by have:=x.2;omega)) _ (List.getElem_mem (by have:=y.2;omega))).2 γ [] w1 [atF vs hN x,atF vs hN y] hinv (repVs_cons.2 ⟨_,_,rfl,h1,repVs_cons.2 ⟨_,_,rfl,h2,repVs_nil.2 rfl⟩⟩)
 simp only [hx,hy] at hc ⊢
 refine Calls.mono hc ?_
 rintro e w' ⟨v,γ',σ',r,H',rfl,hst,hinv',hrv,rfl,rfl⟩
 refine ⟨by rw [show v=_ from hrv],grown_eq hst.size (fun b hb=>(hst.keep b hb fun ⟨i,c,h⟩=>by simp at h).1) hst.os hst.tape hst.output hst.drawn⟩
theorem repVs_at {γ:Gm} {σ:Sg} {N:Nat} {β:Type} {ds:List β} {av:β->AV} {vs:List Value} (hvs:RepVs γ σ (ds.map av) vs) (hN:vs.length=N) (hD:ds.length=N) :
 ∀ l:List (Fin N),RepVs γ σ ((l.map fun i=>ds[i.1]'(by omega)).map av) (l.map (atF vs hN))
 | []=>by simp [RepVs]
 | i::l=>by
   refine repVs_cons.2 ⟨_,_,rfl,?_,repVs_at hvs hN hD l⟩
   have hi':i.1<ds.length:=by omega
   obtain ⟨u,hu,hr⟩:=hvs.get i.1 (av ds[i.1]) (by simp [hi'])
   have he:atF vs hN i=u:=by
    have:vs[i.1]?=some (atF vs hN i):=by simp [atF]
    rw [this] at hu;exact Option.some.inj hu
   rw [he];exact hr
theorem at_all {N:Nat} {vs:List Value} (hN:vs.length=N):(List.finRange N).map (atF vs hN)=vs:=by
 apply List.ext_getElem
 . simp [hN]
 . intro i h1 h2
   simp [atF]
theorem at_allD {N:Nat} {β:Type} {ds:List β} (hD:ds.length=N):(List.finRange N).map (fun i=>ds[i.1]'(by omega))=ds:=by
 apply List.ext_getElem
 . simp [hD]
 . intro i h1 h2
   simp
theorem extract_all {α:Type} (a:Array α) {n:Nat} (h:a.size=n):a.extract 0 n=a:=by subst h;exact Array.extract_size
theorem bridge_sort {P:Program} {f g:FuncId} {E:TypeId} {k:Nat} {β:Type} {ds:List β} {av:β->AV} {cf:β->β->Int} (hb:Bodied P f) (hO:SWO (ltOf cf))
 (hg:∀ a ∈ ds,∀ b ∈ ds,ACalls P g [av a,av b] [] (fun r H=>r=.int .i64 (cf a b)/\H=[]))
 (hpure:∀ a ∈ ds,Go.Al.sc 0 (av a)=true) (hagg:∀ a ∈ ds,∃ xs,av a=.agg xs) (hlen:ds.length<4611686018427387904)
 (h0:∀ p cap fv w,Calls P f #[.slice p 0 cap,fv] w fun e w'=>e=.returned (.tuple #[])/\w'=w)
 (hS:∀ {α:Type} [Inhabited α] (enc:α->List Value) (_:∀ x,(enc x).length=k) (_:∀ x,∀ v ∈ enc x,v.oneCell'=true) (cf':α->α->Int) (_:SWO (ltOf cf')) (blk cap:Nat) (d:Array α) (w:World) (_:CmpLays P g #[] enc k cf' blk 0 d.size w) (_:HoldsK enc k w blk 0 d) (_:blk<w.heap.size) (_:d.size<4611686018427387904),
   Calls P f #[.slice (some ⟨blk,0,none⟩) d.size cap,.func (.func g) #[] #[]] w fun e w'=>e=.returned (.tuple #[])/\∃ d' n os,PermIn 0 d.size d d'/\SortedIn (ltOf cf') 0 d.size d'/\w'=sortWorldK enc k w blk 0 n d' os) :
 ACalls P f [.slc 0 k ds.length,.fn (.func g) [] []] [.arr E k (ds.map av)] (fun r H=>r=.tup []/\∃ ds':List β,ds'.Perm ds/\ds'.Pairwise (fun a b=>ltOf cf b a=false)/\H=[.arr E k (ds'.map av)]):=by
 refine ⟨hb,fun γ σ w vs hi hv=>?_⟩
 obtain ⟨v,_,rfl,⟨e,hs,hon,hve⟩,fv,_,rfl,⟨f1,f2,rfl,h1,h2⟩,rfl⟩:=hv
 rw [repVs_nil] at h1 h2
 subst h1 h2
 have hob:=hi.obj 0 _ e rfl hs
 cases e with
 | none=>exact hob.elim
 | some e =>
 obtain ⟨blk,cap⟩:=e
 obtain ⟨rfl,hn,hcap⟩:=hve blk cap rfl
 obtain ⟨us,h1,h2,hk,h4,h5⟩:=repO_arr.1 hob
 rw [List.length_map] at h5
 have hret:RepV γ σ (.tup []) (.tuple #[]):=⟨[],rfl,rfl⟩
 have hul:us.length=ds.length:=by rw [h1.length,List.length_map]
 by_cases hz:ds=[]
 . subst hz
   refine (h0 (blk.map (⟨·,0,none⟩)) cap _ w).mono ?_
   rintro e w' ⟨rfl,rfl⟩
   exact ⟨_,γ,σ,_,_,rfl,.refl _ _ _,hi,hret,rfl,[],.refl _,.nil,rfl⟩
 . rcases h5.2 with ⟨_,h6⟩ | ⟨gb,cap',cur,h6,_,h7,h8,h9,h10,h11⟩
   . exact absurd (List.eq_nil_of_length_eq_zero h6) hz
   . have hbg:blk=some gb:=by
      cases blk with
      | none=>simp at h6
      | some b=>simp at h6;rw [h6.1]
     subst hbg
     simp only [Option.map_some,Value.slice.injEq,true_and] at h6
     have hcc:cap'=cap:=h6.symm
     subst hcc
     have hgs:gb<w.heap.size:=(Array.getElem?_eq_some_iff.1 h7).1
     have ho:=hi.own 0 gb cap' hs
     have hlen1:σ.length=1:=hi.len
     have hpos:0<ds.length:=List.length_pos_iff.2 hz
     haveI:Inhabited (Fin ds.length):=⟨⟨0,hpos⟩⟩
     have hd0:((List.finRange ds.length).toArray:Array (Fin ds.length)).size=ds.length:=by simp
     have hfl:=flatK_at hk hul h2 ((List.finRange ds.length).toArray)
     rw [at_all hul] at hfl
     have hcall:=hS (α:=Fin ds.length) (fun i=>(atF us hul i).cells.toList) (fun i=>by rw [Array.length_toList];exact (h2 _ (List.getElem_mem _)).1) (fun i z hz=>(h2 _ (List.getElem_mem _)).2 z hz)
      (fun i j=>cf (ds[i.1]'i.2) (ds[j.1]'j.2)) ⟨fun x=>hO.irrefl _,fun x y z=>hO.trans _ _ _,fun x y z=>hO.ntrans _ _ _⟩ gb cap' ((List.finRange ds.length).toArray) w
      (by rw [hd0];exact cmp_lays hg hpure hagg hi h1 hul rfl ho.1) (by
        unfold HoldsK
        rw [hfl]
        intro j hj
        have hj':j<(flat us).length:=by simpa using hj
        refine ⟨?_,by simp [World.frozen?,h7]⟩
        have h12:(cur.toList.take (ds.length * k))[j]?=(flat us)[j]?:=by rw [h11]
        have hjl:j<ds.length * k:=by rw [flat_length h2,hul] at hj';exact hj'
        rw [List.getElem?_take_of_lt hjl,Array.getElem?_toList] at h12
        simp [World.cell?,h7,h12,hj']) hgs (by rw [hd0];exact hlen)
     rw [hd0] at hcall
     refine hcall.mono ?_
     rintro e w' ⟨rfl,d',n,os,hperm,hsort,rfl⟩
     obtain ⟨p1,_,p2⟩:=hperm
     rw [hd0] at p1
     have p2:d'.toList.Perm (List.finRange ds.length):=by
      rw [extract_all d' p1,extract_all _ hd0] at p2
      simpa using p2
     unfold sortWorldK putRowK
     rw [flatK_at hk hul h2 d']
     have hvn:∀ u ∈ d'.toList.map (atF us hul),okEl k u:=by
      intro u hu
      obtain ⟨i,_,rfl⟩:=List.mem_map.1 hu
      exact h2 _ (List.getElem_mem _)
     have hgr:=grownBy_put (w:=w) (g:=gb) (n:=n) (os:=os) (flat (d'.toList.map (atF us hul))).toArray
     have hheap:=heap_put (w:=w) (g:=gb) (n:=n) (os:=os) (flat (d'.toList.map (atF us hul))).toArray h7
     have hdr:w.drawn<=(grow (putRow id (Sort.ahead w n) gb 0 (flat (d'.toList.map (atF us hul))).toArray) os).drawn:=Nat.le_add_right _ _
     have hfn:(flat (d'.toList.map (atF us hul))).length=ds.length * k:=by rw [flat_length hvn];simp [p1]
     have htk:=take_put cur (flat (d'.toList.map (atF us hul))) (by rw [hfn,h10];exact Nat.mul_le_mul_right _ h8)
     have hsz2:(putCells id 0 (flat (d'.toList.map (atF us hul))).toArray cur).size=cur.size:=by simp [putCells]
     generalize grow (putRow id (Sort.ahead w n) gb 0 (flat (d'.toList.map (atF us hul))).toArray) os=w2 at *
     obtain ⟨g1,g2,g3,g4,g5⟩:=hgr
     have hkeep:∀ b,b<w.heap.size->b≠gb->w2.heap[b]?=w.heap[b]?:=fun b hb hne=>g5 b hb (by simpa using hne)
     have hblks:Blks σ gb:=⟨0,cap',hs⟩
     have hrv:=repVs_at h1 hul rfl d'.toList
     have hpd:(d'.toList.map fun i=>ds[i.1]'i.2).Perm ds:=by
      have:=p2.map (fun i:Fin ds.length=>ds[i.1]'i.2)
      rwa [at_allD rfl] at this
     refine ⟨_,γ,σ,_,_,rfl,⟨fun _ _ h=>h,g4,fun b hb hnb=>⟨hkeep b hb (fun e=>hnb (by rw [e];exact hblks)),rfl⟩,fun _ h=>.inl h,g1,g2,g3,hdr,fun _ _ _ h=>.inl h⟩,⟨fun b o hbo=>?_,fun i b c h=>?_,hi.inj,by rw [hlen1];rfl,fun i o e hoo he=>?_,hi.glob⟩,hret,rfl,d'.toList.map fun i=>ds[i.1]'i.2,hpd,?_,rfl⟩
     . have hb:=hi.mem b o hbo
       have hne:b≠gb:=fun e=>by rw [e,ho.1] at hbo;cases hbo
       rw [hkeep b (Array.getElem?_eq_some_iff.1 hb).1 hne];exact hb
     . obtain ⟨k1,k2⟩:=hi.own i b c h
       exact ⟨k1,Nat.lt_of_lt_of_le k2 g4⟩
     . cases i with
       | zero =>
         rw [hs] at he
         cases he
         change some _=some o at hoo
         cases hoo
         refine repO_arr.2 ⟨_,hrv,hvn,hk,by simp [p1];exact h8,?_⟩
         have hlm:((d'.toList.map fun i=>ds[i.1]'i.2).map av).length=ds.length:=by simp [p1]
         rw [hlm]
         exact ⟨by rw [hfn],.inr ⟨gb,cap',_,rfl,Nat.zero_le _,hheap,h8,h9,by rw [hsz2,h10],by rw [<- hfn];exact htk⟩⟩
       | succ i=>simp at hoo
     . rw [List.pairwise_iff_getElem]
       intro i j hi' hj' hij
       have hi2:i<d'.size:=by simpa using hi'
       have hj2:j<d'.size:=by simpa using hj'
       have:=hsort i j (Nat.zero_le _) hij (by omega)
       rw [getElem!_pos d' j hj2,getElem!_pos d' i hi2] at this
       simp only [List.getElem_map,Array.getElem_toList]
       exact this
end Go.Al
