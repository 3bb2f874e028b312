/-
 A part of the proof: see the text of the law.
-/
import Derived.Test.YtchlampphcaomaaGreatDoorAlphaJ
import Derived.Test.YtchlampphcaomaaGreatDoorAlphaR
import Derived.Sort.OwnSortedInts
import Derived.Shelf.SlSortCmp.WholeK
import Derived.Shelf.SlSortCmp.Whole1
set_option linter.unusedSimpArgs false
set_option linter.unusedVariables false
namespace Go.Al
open Go.Sort Go.Proofs Go.RowKit
end Go.Al
namespace Go.Al
open Go.Sort Go.Proofs Go.RowKit
def atF {N:Nat} (vs:List Value) (hN:vs.length=N) (i:Fin N):Value:=vs[i.1]'(by omega)
theorem grownBy_put {w:World} {g n:Nat} {os:Array Obj} (d:Array Value):w.grownBy (grow (putRow id (Sort.ahead w n) g 0 d) os) (some g):=by
 refine ⟨rfl,rfl,rfl,by simp,fun k hk hne=>?_⟩
 rw [heap_grow_old _ _ (by simpa using hk)]
 have:g≠k:=fun e=>hne (by rw [e])
 simp [putRow,mapBlock,Sort.ahead,Array.getElem?_modify,this]
theorem take_put (cur:Array Value) (ts:List Value) (h:ts.length≤cur.size):(putCells id 0 ts.toArray cur).toList.take ts.length=ts:=by
 apply List.ext_getElem?
 intro j
 by_cases hj:j<ts.length
 · rw [List.getElem?_take_of_lt hj,Array.getElem?_toList]
   simp [putCells,hj,show j<cur.size by omega]
 · rw [List.getElem?_take_eq_none (by omega),List.getElem?_eq_none (by omega)]
theorem heap_put {w:World} {g n:Nat} {os:Array Obj} {cur:Array Value} {e:TypeId} (d:Array Value) (hb:w.heap[g]?=some (.cells cur e (0,0))) :
 (grow (putRow id (Sort.ahead w n) g 0 d) os).heap[g]?=some (.cells (putCells id 0 d cur) e (0,0)):=by
 have hg:=(Array.getElem?_eq_some_iff.1 hb).1
 rw [heap_grow_old _ _ (by simpa [putRow,mapBlock,Sort.ahead] using hg)]
 simp [putRow,mapBlock,Sort.ahead,Array.getElem?_modify,hb,onCells]
theorem grown_eq {w w':World} (hs:w.heap.size≤w'.heap.size) (hk:∀ b,b<w.heap.size→w'.heap[b]?=w.heap[b]?) (ho:w'.os=w.os) (ht:w'.tape=w.tape) (hp:w'.output=w.output) (hd:w.drawn≤w'.drawn) :
 ∃ q os',w'=grow (w.drewN q) os':=by
 refine ⟨w'.drawn - w.drawn,w'.heap.extract w.heap.size w'.heap.size,?_⟩
 have hh:w'.heap=w.heap++w'.heap.extract w.heap.size w'.heap.size:=by
  apply Array.ext_getElem?
  intro i
  rw [Array.getElem?_append]
  split
  · rename_i hi;exact hk i hi
  · rename_i hi
    rw [Array.getElem?_extract]
    by_cases h2:i<w'.heap.size
    · rw [if_pos (by omega)];congr 1;omega
    · rw [if_neg (by omega),Array.getElem?_eq_none (by omega)]
 have hdd:w'.drawn=w.drawn+(w'.drawn - w.drawn):=by omega
 cases w'
 cases w
 simp only [grow,World.drewN] at *
 subst ho ht hp
 congr 1
theorem repVs_at {γ:Gm} {σ:Sg} {N:Nat} {β:Type} {ds:List β} {av:β→AV} {vs:List Value} (hvs:RepVs γ σ (ds.map av) vs) (hN:vs.length=N) (hD:ds.length=N) :
 ∀ l:List (Fin N),RepVs γ σ ((l.map fun i=>ds[i.1]'(by omega)).map av) (l.map (atF vs hN))
 | []=>by simp [RepVs]
 | i::l=>by
   refine repVs_cons.2 ⟨_,_,rfl,?_,repVs_at hvs hN hD l⟩
   have hi':i.1<ds.length:=by omega
   obtain ⟨u,hu,hr⟩:=hvs.get i.1 (av ds[i.1]) (by simp [hi'])
   have he:atF vs hN i=u:=by
    have:vs[i.1]?=some (atF vs hN i):=by simp [atF]
    rw [this] at hu;exact Option.some.inj hu
   rw [he];exact hr
theorem at_all {N:Nat} {vs:List Value} (hN:vs.length=N):(List.finRange N).map (atF vs hN)=vs:=by
 apply List.ext_getElem
 · simp [hN]
 · intro i h1 h2
   simp [atF]
theorem at_allD {N:Nat} {β:Type} {ds:List β} (hD:ds.length=N):(List.finRange N).map (fun i=>ds[i.1]'(by omega))=ds:=by
 apply List.ext_getElem
 · simp [hD]
 · intro i h1 h2
   simp
theorem extract_all {α:Type} (a:Array α) {n:Nat} (h:a.size=n):a.extract 0 n=a:=by subst h;exact Array.extract_size
end Go.Al
namespace Go.Al
open Go.Sort Go.Proofs Go.RowKit
theorem flat_onecs:∀ {L:List Value},(∀ u ∈ L,u.oneCell'=true)→flat L=L
 | [],_=>rfl
 | u::L,h=>by
   rw [flat_cons,flat_onecs fun v hv=>h v (by simp [hv]),cells_of_onec (h u (by simp))]
   rfl
theorem putRow_map {α:Type} [Inhabited α] (enc:α→Value) (w:World) (blk:Nat) (d:Array α):putRow enc w blk 0 d=putRow id w blk 0 (d.map enc):=by
 unfold putRow
 congr 1
 funext cur
 apply Array.ext_getElem?
 intro j
 simp only [putCells,Array.getElem?_mapIdx,Array.size_map,id]
 cases cur[j]? with
 | none=>rfl
 | some v =>
   simp only [Option.map_some]
   split
   · rename_i h
     have hj:j - 0<d.size:=by omega
     rw [getElem!_pos d _ hj,getElem!_pos (d.map enc) _ (by simpa using hj)]
     simp
   · rfl
theorem cmp_lays1 {P:Program} {g:FuncId} {N:Nat} [Inhabited (Fin N)] {β:Type} {ds:List β} {av:β→AV} {cf:β→β→Int} (hg:∀ a ∈ ds,∀ b ∈ ds,ACalls P g [av a,av b] [] (fun r H=>r=.int .i64 (cf a b)∧H=[]))
 (hpure:∀ a ∈ ds,Go.Al.sc 0 (av a)=true) {γ:Gm} {σ:Sg} {w:World} {H:List AObj} (hi:Inv γ σ w H) {vs:List Value} (hvs:RepVs γ σ (ds.map av) vs) (hN:vs.length=N) (hD:ds.length=N)
 {blk:Nat} (hgb:γ blk=none) :
 CmpLays1 P g #[] (fun i=>atF vs hN i) (fun i j=>cf (ds[i.1]'(by omega)) (ds[j.1]'(by omega))) blk 0 N w:=by
 intro m os dk hdk x y
 have hrep:∀ i:Fin N,RepV γ [] (av (ds[i.1]'(by omega))) (atF vs hN i):=by
  intro i
  have hi':i.1<ds.length:=by omega
  obtain ⟨u,hu,hr⟩:=hvs.get i.1 (av ds[i.1]) (by simp [hi'])
  have he:atF vs hN i=u:=by
   have:vs[i.1]?=some (atF vs hN i):=by simp [atF]
   rw [this] at hu;exact Option.some.inj hu
  rw [he]
  exact RepV.sc (k:=0) (fun j hj=>by omega) _ _ (hpure _ (List.getElem_mem _)) hr
 unfold sortWorld
 rw [putRow_map]
 have hgr:=grownBy_put (w:=w) (g:=blk) (n:=m) (os:=os) (dk.map fun i=>atF vs hN i)
 generalize grow (putRow id (Sort.ahead w m) blk 0 (dk.map fun i=>atF vs hN i)) os=w1 at *
 have hinv:Inv γ [] w1 []:=by
  refine ⟨fun b o hbo=>?_,fun i b c h=>by simp at h,fun i j b c c' h=>by simp at h,rfl,fun i o e hoo=>by simp at hoo,hi.glob⟩
  have hb:=hi.mem b o hbo
  rw [hgr.block b (Array.getElem?_eq_some_iff.1 hb).1 (fun e=>by cases e;rw [hgb] at hbo;cases hbo)]
  exact hb
 have h1:=hrep x
 have h2:=hrep y
 have hc:=(hg _ (List.getElem_mem (by have:=x.2;omega)) _ (List.getElem_mem (by have:=y.2;omega))).2 γ [] w1 [atF vs hN x,atF vs hN y] hinv (repVs_cons.2 ⟨_,_,rfl,h1,repVs_cons.2 ⟨_,_,rfl,h2,repVs_nil.2 rfl⟩⟩)
 refine Calls.mono hc ?_
 rintro e w' ⟨v,γ',σ',r,H',rfl,hst,hinv',hrv,rfl,rfl⟩
 refine ⟨by rw [show v=_ from hrv],grown_eq hst.size (fun b hb=>(hst.keep b hb fun ⟨i,c,h⟩=>by simp at h).1) hst.os hst.tape hst.output hst.drawn⟩
theorem bridge_sort1 {P:Program} {f g:FuncId} {E:TypeId} {β:Type} {ds:List β} {av:β→AV} {cf:β→β→Int} (hb:Bodied P f) (hO:SWO (ltOf cf))
 (hg:∀ a ∈ ds,∀ b ∈ ds,ACalls P g [av a,av b] [] (fun r H=>r=.int .i64 (cf a b)∧H=[]))
 (hpure:∀ a ∈ ds,Go.Al.sc 0 (av a)=true) (hone:∀ a ∈ ds,∀ γ σ u,RepV γ σ (av a) u→u.oneCell'=true) (hlen:ds.length<4611686018427387904)
 (h0:∀ p cap fv w,Calls P f #[.slice p 0 cap,fv] w fun e w'=>e=.returned (.tuple #[])∧w'=w)
 (hS:∀ {α:Type} [Inhabited α] (enc:α→Value) (_:OneCell enc) (cf':α→α→Int) (_:SWO (ltOf cf')) (blk cap:Nat) (d:Array α) (w:World) (_:CmpLays1 P g #[] enc cf' blk 0 d.size w) (_:Holds enc w blk 0 d) (_:blk<w.heap.size) (_:d.size<4611686018427387904),
   Calls P f #[.slice (some ⟨blk,0,none⟩) d.size cap,.func (.func g) #[] #[]] w fun e w'=>e=.returned (.tuple #[])∧∃ d' n os,PermIn 0 d.size d d'∧SortedIn (ltOf cf') 0 d.size d'∧w'=sortWorld enc w blk 0 n d' os) :
 ACalls P f [.slc 0 1 ds.length,.fn (.func g) [] []] [.arr E 1 (ds.map av)] (fun r H=>r=.tup []∧∃ ds':List β,ds'.Perm ds∧ds'.Pairwise (fun a b=>ltOf cf b a=false)∧H=[.arr E 1 (ds'.map av)]):=by
 refine ⟨hb,fun γ σ w vs hi hv=>?_⟩
 obtain ⟨v,_,rfl,⟨e,hs,hon,hve⟩,fv,_,rfl,⟨f1,f2,rfl,h1,h2⟩,rfl⟩:=hv
 rw [repVs_nil] at h1 h2
 subst h1 h2
 have hob:=hi.obj 0 _ e rfl hs
 cases e with
 | none=>exact hob.elim
 | some e =>
 obtain ⟨blk,cap⟩:=e
 obtain ⟨rfl,hn,hcap⟩:=hve blk cap rfl
 obtain ⟨us,h1,h2,hk,h4,h5⟩:=repO_arr.1 hob
 rw [List.length_map] at h5
 have hret:RepV γ σ (.tup []) (.tuple #[]):=⟨[],rfl,rfl⟩
 have hul:us.length=ds.length:=by rw [h1.length,List.length_map]
 by_cases hz:ds=[]
 · subst hz
   refine (h0 (blk.map (⟨·,0,none⟩)) cap _ w).mono ?_
   rintro e w' ⟨rfl,rfl⟩
   exact ⟨_,γ,σ,_,_,rfl,.refl _ _ _,hi,hret,rfl,[],.refl _,.nil,rfl⟩
 · rcases h5.2 with ⟨_,h6⟩ | ⟨gb,cap',cur,h6,_,h7,h8,h9,h10,h11⟩
   · exact absurd (List.eq_nil_of_length_eq_zero h6) hz
   · have hbg:blk=some gb:=by
      cases blk with
      | none=>simp at h6
      | some b=>simp at h6;rw [h6.1]
     subst hbg
     simp only [Option.map_some,Value.slice.injEq,true_and] at h6
     have hcc:cap'=cap:=h6.symm
     subst hcc
     have hgs:gb<w.heap.size:=(Array.getElem?_eq_some_iff.1 h7).1
     have ho:=hi.own 0 gb cap' hs
     have hlen1:σ.length=1:=hi.len
     have hpos:0<ds.length:=List.length_pos_iff.2 hz
     haveI:Inhabited (Fin ds.length):=⟨⟨0,hpos⟩⟩
     have hus1:∀ u ∈ us,u.oneCell'=true:=by
      intro u hu
      obtain ⟨i,hi',rfl⟩:=List.getElem_of_mem hu
      have hid:i<ds.length:=by omega
      obtain ⟨u',hu',hr⟩:=h1.get i (av ds[i]) (by simp [hid])
      rw [List.getElem?_eq_getElem hi'] at hu'
      cases hu'
      exact hone _ (List.getElem_mem hid) _ _ _ hr
     have hO1:OneCell fun i:Fin ds.length=>atF us hul i:=fun i=>hus1 _ (List.getElem_mem _)
     have hd0:((List.finRange ds.length).toArray:Array (Fin ds.length)).size=ds.length:=by simp
     have hall:(List.finRange ds.length).map (atF us hul)=us:=at_all hul
     have hfus:flat us=us:=flat_onecs hus1
     have hcall:=hS (α:=Fin ds.length) (fun i=>atF us hul i) hO1
      (fun i j=>cf (ds[i.1]'i.2) (ds[j.1]'j.2)) ⟨fun x=>hO.irrefl _,fun x y z=>hO.trans _ _ _,fun x y z=>hO.ntrans _ _ _⟩ gb cap' ((List.finRange ds.length).toArray) w
      (by rw [hd0];exact cmp_lays1 hg hpure hi h1 hul rfl ho.1) (by
        intro j hj
        rw [hd0] at hj
        refine ⟨?_,by simp [World.frozen?,h7]⟩
        have h12:(cur.toList.take (ds.length * 1))[j]?=(flat us)[j]?:=by rw [h11]
        rw [List.getElem?_take_of_lt (by omega),Array.getElem?_toList,hfus] at h12
        have hju:j<us.length:=by omega
        have he:(List.finRange ds.length).toArray[j]! = ⟨j,hj⟩:=by
         rw [getElem!_pos _ j (by simpa using hj)]
         simp
        rw [he]
        simp [World.cell?,h7,h12,hju,atF]) hgs (by rw [hd0];exact hlen)
     rw [hd0] at hcall
     refine hcall.mono ?_
     rintro e w' ⟨rfl,d',n,os,hperm,hsort,rfl⟩
     obtain ⟨p1,_,p2⟩:=hperm
     rw [hd0] at p1
     have p2:d'.toList.Perm (List.finRange ds.length):=by
      rw [extract_all d' p1,extract_all _ hd0] at p2
      simpa using p2
     unfold sortWorld
     rw [putRow_map]
     have hvn1:∀ u ∈ d'.toList.map (atF us hul),u.oneCell'=true:=by
      intro u hu
      obtain ⟨i,_,rfl⟩:=List.mem_map.1 hu
      exact hus1 _ (List.getElem_mem _)
     have hda:(d'.map fun i=>atF us hul i)=(flat (d'.toList.map (atF us hul))).toArray:=by
      rw [flat_onecs hvn1]
      apply Array.ext'
      simp
     rw [hda]
     have hvn:∀ u ∈ d'.toList.map (atF us hul),okEl 1 u:=by
      intro u hu
      obtain ⟨i,_,rfl⟩:=List.mem_map.1 hu
      exact h2 _ (List.getElem_mem _)
     have hgr:=grownBy_put (w:=w) (g:=gb) (n:=n) (os:=os) (flat (d'.toList.map (atF us hul))).toArray
     have hheap:=heap_put (w:=w) (g:=gb) (n:=n) (os:=os) (flat (d'.toList.map (atF us hul))).toArray h7
     have hdr:w.drawn≤(grow (putRow id (Sort.ahead w n) gb 0 (flat (d'.toList.map (atF us hul))).toArray) os).drawn:=Nat.le_add_right _ _
     have hfn:(flat (d'.toList.map (atF us hul))).length=ds.length * 1:=by rw [flat_length hvn];simp [p1]
     have htk:=take_put cur (flat (d'.toList.map (atF us hul))) (by rw [hfn,h10];exact Nat.mul_le_mul_right _ h8)
     have hsz2:(putCells id 0 (flat (d'.toList.map (atF us hul))).toArray cur).size=cur.size:=by simp [putCells]
     generalize grow (putRow id (Sort.ahead w n) gb 0 (flat (d'.toList.map (atF us hul))).toArray) os=w2 at *
     obtain ⟨g1,g2,g3,g4,g5⟩:=hgr
     have hkeep:∀ b,b<w.heap.size→b≠gb→w2.heap[b]?=w.heap[b]?:=fun b hb hne=>g5 b hb (by simpa using hne)
     have hblks:Blks σ gb:=⟨0,cap',hs⟩
     have hrv:=repVs_at h1 hul rfl d'.toList
     have hpd:(d'.toList.map fun i=>ds[i.1]'i.2).Perm ds:=by
      have:=p2.map (fun i:Fin ds.length=>ds[i.1]'i.2)
      rwa [at_allD rfl] at this
     refine ⟨_,γ,σ,_,_,rfl,⟨fun _ _ h=>h,g4,fun b hb hnb=>⟨hkeep b hb (fun e=>hnb (by rw [e];exact hblks)),rfl⟩,fun _ h=>.inl h,g1,g2,g3,hdr,fun _ _ _ h=>.inl h⟩,⟨fun b o hbo=>?_,fun i b c h=>?_,hi.inj,by rw [hlen1];rfl,fun i o e hoo he=>?_,hi.glob⟩,hret,rfl,d'.toList.map fun i=>ds[i.1]'i.2,hpd,?_,rfl⟩
     · have hb:=hi.mem b o hbo
       have hne:b≠gb:=fun e=>by rw [e,ho.1] at hbo;cases hbo
       rw [hkeep b (Array.getElem?_eq_some_iff.1 hb).1 hne];exact hb
     · obtain ⟨k1,k2⟩:=hi.own i b c h
       exact ⟨k1,Nat.lt_of_lt_of_le k2 g4⟩
     · cases i with
       | zero =>
         rw [hs] at he
         cases he
         change some _=some o at hoo
         cases hoo
         refine repO_arr.2 ⟨_,hrv,hvn,hk,by simp [p1];exact h8,?_⟩
         have hlm:((d'.toList.map fun i=>ds[i.1]'i.2).map av).length=ds.length:=by simp [p1]
         rw [hlm]
         exact ⟨by rw [hfn],.inr ⟨gb,cap',_,rfl,Nat.zero_le _,hheap,h8,h9,by rw [hsz2,h10],by rw [← hfn];exact htk⟩⟩
       | succ i=>simp at hoo
     · rw [List.pairwise_iff_getElem]
       intro i j hi' hj' hij
       have hi2:i<d'.size:=by simpa using hi'
       have hj2:j<d'.size:=by simpa using hj'
       have:=hsort i j (Nat.zero_le _) hij (by omega)
       rw [getElem!_pos d' j hj2,getElem!_pos d' i hi2] at this
       simp only [List.getElem_map,Array.getElem_toList]
       exact this
end Go.Al
