/-
 A part of the proof.
-/
import Derived.Test.YtfhoeghdioofmaaGreatEaa
set_option linter.unusedSimpArgs false
set_option linter.unusedVariables false
namespace Go.Proofs.Try
open Go.Proofs.Tryz
open Go.Al
set_option maxRecDepth 100000
def mc99:MC:=(.seq (.ops [pM 8 0,(none,.v (.nil 9 (.t 8))),pF 10 1 9,pL 11 10,pM 2 11]) (.seq (.seq (.ops [pM 12 0,(none,.v (.nil 13 (.t 12))),pF 14 4 13,pL 15 14,(none,.e (.rng 16 (.t 15)))]) (.block 0 (.loop (.seq (.ops [(none,.e (.nxt 17 (.t 16))),pX 18 0 17]) (.seq (.cond 18 .skip (.exit 0)) (.block 1 (.seq (.ops [(none,.p (.ent 19 (.t 16))),pX 20 1 19,pM 4 20]) (.ops [pM 21 2,pM 22 4,(none,.v (.nil 23 (.t 22))),pF 24 1 23,pL 25 24,(none,.v (.min 26 [.t 21,.t 25])),pM 2 26])))))))) (.seq (.ops [pM 27 2,(none,.e (.alloc 5 [.int .i64 0])),(none,.e (.store 1 false (.t 5) (.t 27)))]) (.seq (.seq (.ops [pM 28 0,(none,.v (.nil 29 (.t 28))),pF 30 3 29,pL 31 30,pG 32 31,pI 33 0]) (.block 2 (.loop (.seq (.ops [pB 34 33 32]) (.seq (.cond 34 .skip (.exit 2)) (.seq (.block 3 (.seq (.ops [pQ 35 1 31 33,pL 36 35,pM 7 36]) (.seq (.ops [pM 37 7,(none,.v (.nil 38 (.t 37))),pF 39 3 38,pL 40 39,pM 41 2,(none,.v (.bin 42 .gtr false (.t 40) (.t 41)))]) (.cond 42 (.any true (.pure0 none (oM 44 7) (.pure0 none (.v (.nil 45 (.t 44))) (.pure0 none (oF 46 1 45) (.pure0 none (oL 47 46) (.alt none (oL 43 5) (.pure1 none (.v (.min 48 [.t 43,.t 47])) (.alt none (.e (.store 1 false (.t 5) (.t 48))) .done .stop)) .stop)))))) .skip)))) (.ops [pA 49 33 1,pM 33 49]))))))) (.ops [pM 50 0,pM 51 0,(none,.v (.nil 52 (.t 51))),pF 53 3 52,pL 54 53,(none,.v (.fn 55 (.func 128) [] [.t 5])),pW 56 127 54 55,(none,.v (.nil 57 (.t 50))),pF 58 3 57,(none,.e (.store 1 false (.t 58) (.t 56)))])))))
theorem ok99:FnOk E 99 59 [] mc99:=ofk func99
set_option maxHeartbeats 16000000
theorem nodup_len {α:Type} [DecidableEq α]:∀ {A B:List α},A.Nodup->(∀ x ∈ A,x ∈ B)->A.length<=B.length
 | [],_,_,_=>by simp
 | a::A,B,h,hs=>by
   obtain ⟨h1,h2⟩:=List.nodup_cons.1 h
   have ha:a ∈ B:=hs a (by simp)
   have:=nodup_len (B:=B.erase a) h2 fun u hu=>by
    have:u≠a:=fun e=>h1 (e ▸ hu)
    exact (List.mem_erase_of_ne this).2 (hs u (by simp [hu]))
   rw [List.length_erase_of_mem ha] at this
   have:=List.length_pos_of_mem ha
   simp only [List.length_cons]
   omega
theorem range_map {α β:Type} [Inhabited α] (g:α->β) (l:List α):(List.range l.length).map (fun i=>g (l.getD i default))=l.map g:=by
 apply List.ext_getElem
 . simp
 . intro i h1 h2
   simp at h1
   simp [h1]
theorem perm_range {is:List Nat} {n:Nat} (h1:is.Nodup) (h2:∀ i ∈ is,i<n) (h3:∀ i,i<n->i ∈ is):is.Perm (List.range n):=by
 refine (List.perm_ext_iff_of_nodup h1 List.nodup_range).2 fun a=>?_
 rw [List.mem_range]
 exact ⟨h2 a,h3 a⟩
theorem perm_all {α β:Type} [Inhabited α] {g:α->β} {l:List α} {is:List Nat} (h1:is.Nodup) (h2:∀ i ∈ is,i<l.length) (h3:∀ i,i<l.length->i ∈ is):(is.map fun i=>g (l.getD i default)).Perm (l.map g):=by
 rw [<- range_map g l]
 exact (perm_range h1 h2 h3).map _
theorem nodup_inj {α:Type} {l:List α} (h:l.Nodup) {i j:Nat} {hi:i<l.length} {hj:j<l.length} (e:l[i]=l[j]):i=j:=by
 rcases Nat.lt_trichotomy i j with q | q | q
 . exact absurd e (List.pairwise_iff_getElem.1 h i j hi hj q)
 . exact q
 . exact absurd e.symm (List.pairwise_iff_getElem.1 h j i hj hi q)
theorem SR.filter_ids {s:SR} {p:TR->Bool} {rest:List AV}:({ s with kept:=s.kept.filter p,rest:=rest }:SR).ids.Sublist s.ids:=by
 simp only [SR.ids,SR.all]
 refine List.Sublist.cons_cons _ (List.Sublist.cons_cons _ (List.Sublist.cons_cons _ ?_))
 rw [List.flatMap_append,List.flatMap_append]
 refine List.Sublist.append_right ?_ _
 induction s.kept with
 | nil=>exact List.Sublist.refl _
 | cons a l ih =>
   rw [List.filter_cons]
   split
   . rw [List.flatMap_cons,List.flatMap_cons];exact List.Sublist.append_left ih _
   . rw [List.flatMap_cons];exact ih.trans (List.sublist_append_right _ _)
theorem SR.At.ne {s:SR} {H:List AObj} (h:s.At H):s.X≠s.K/\s.X≠s.M/\s.K≠s.M/\∀ a ∈ s.all,∀ i ∈ a.ids,s.X≠i/\s.K≠i/\s.M≠i:=by
 have hn:=h.ids
 simp only [SR.ids,List.nodup_cons,List.mem_cons,List.mem_flatMap,not_or,not_exists,not_and] at hn
 obtain ⟨⟨h1,h2,h3⟩,⟨h4,h5⟩,h6,_⟩:=hn
 exact ⟨h1,h2,h4,fun a ha i hi=>⟨fun e=>h3 a ha (e ▸ hi),fun e=>h5 a ha (e ▸ hi),fun e=>h6 a ha (e ▸ hi)⟩⟩
theorem c99 {s:SR} {H:List AObj} (hs:s.At H) (hk:s.kept.length<=1000000) :
 ACalls E.P 99 [.op s.X 0] H (fun r H'=>r=.tup []/\∃ rest',({ s with kept:=s.kept.filter fun a=>!gone (leastK s.ts) a.x,rest:=rest' }:SR).At H'/\Stay (fun i=>i=s.X\/i=s.K) H H'):=by
 have hmax:=maxLen_eq
 have hmin:∀ x y:Int,(if y<x then y else x)=min x y:=fun x y=>by omega
 refine ok99.acalls0 hE hm (by simp) fun N hN=>?_
 unfold mc99 pM pF pL pX pG pI pB pQ pA pW oM oL oF
 obtain ⟨n1,n2,n3,n4⟩:=hs.ne
 have h1:=hs.box
 have h2:=hs.act
 simp only [SR.cells] at h1
 simp only [lA,seval]
 repeat' (first|(with_reducible first|(apply St.o;constructor)<;>intro _|refine ai ?_|(apply Sq.o;constructor))|simp (disch:=omega) only [lE,seval,h1,h2])
 refine loop_i (fun is:List Nat=>is.Nodup/\(∀ i ∈ is,i<s.act.length)) (fun is=>⟨[(0,.op s.X 0),(2,.int .i64 ((is.map fun i=>(s.act.getD i default).2.x.snap).foldl min s.shown)),(16,.itr H.length)],H++[.mit (some s.M) s.mc (is.map fun i=>s.mb.getD i 0) s.mc]⟩) (fun is=>s.act.length - is.length) []
  ⟨.nil,by simp⟩ (Ent.fr (by simp [FrSub,Go.Al.get])) ?_
 rintro is ⟨hn,hlt⟩
 have hit:∀ o,(H++[o])[H.length]?=some o:=fun o=>get_last
 have hM:∀ o,(H++[o])[s.M]?=some (.map (kM s.act) (vM opT s.act) s.mb s.mc):=fun o=>by rw [at_app _ _ _ (at_lt h2)];exact h2
 have hw:=hs.mwf
 have hin:∀ i j,i<s.act.length->j<s.act.length->s.mb.getD i 0=s.mb.getD j 0->i=j:=fun i j hi hj e=>by
  rw [<- hw.len] at hi hj
  rw [List.getD_eq_getElem?_getD,List.getD_eq_getElem?_getD,List.getElem?_eq_getElem hi,List.getElem?_eq_getElem hj] at e
  exact nodup_inj hw.nodup e
 repeat' (first|(with_reducible first|(apply St.o;constructor)<;>intro _|refine ai ?_|(apply Sq.o;constructor))|simp (disch:=omega) only [lE,seval,hit,hM])
 refine nxt_i hw.lt (Nat.le_refl _) (fun hall=>?_) (fun i b' kx vx hb' hns hkx hvx=>?_)
 . have hp:=perm_all (g:=fun p:Int × TR=>p.2.x.snap) hn hlt (fun i hi=>by
    have hib:s.mb.getD i 0 ∈ s.mb:=by
     rw [List.getD_eq_getElem?_getD,List.getElem?_eq_getElem (by rw [hw.len];exact hi),Option.getD_some]
     exact List.getElem_mem _
    obtain ⟨j,hj,e⟩:=List.mem_map.1 (hall _ hib)
    rw [hin j i (hlt j hj) hi e] at hj
    exact hj)
   have hm:(is.map fun i=>(s.act.getD i default).2.x.snap).foldl min s.shown=leastA s.ts:=by
    rw [min_perm hp,leastA,SR.ts]
    simp only
    rw [List.foldl_map,List.foldl_map]
   rw [hm]
   obtain ⟨H1,hH1⟩:∃ H1,H1=H++[AObj.mit (some s.M) s.mc (is.map fun i=>s.mb.getD i 0) s.mc]:=⟨_,rfl⟩
   have hs1:s.At H1:=hs.ext (hH1 ▸ Stay.app _ _ _)
   have hx1:Ext H H1:=hH1 ▸ Stay.app _ _ _
   rw [<- hH1]
   have hb1:=hs1.box
   have hk1:=hs1.kept
   simp only [SR.cells] at hb1
   have hX:∀ o,(H1++[o])[s.X]?=some (.box [.int .i64 s.last,.int .i64 s.shown,.int .i64 s.begun,.sub s.K 1 0 s.kept.length,.mp s.M]):=fun o=>by rw [at_app _ _ _ (at_lt hb1)];exact hb1
   have hK:∀ o,(H1++[o])[s.K]?=some (.arr 98 1 (s.kept.map opT++s.rest)):=fun o=>by rw [at_app _ _ _ (at_lt hk1)];exact hk1
   simp only [lA,seval]
   repeat' (first|(with_reducible first|(apply St.o;constructor)<;>intro _|refine ai ?_|(apply Sq.o;constructor))|simp (disch:=omega) only [lE,seval,get_last,set_last,fillE,setAll,hX,hK])
   refine loop_i (fun i:Nat=>i<=s.kept.length) (fun i=>⟨[(0,.op s.X 0),(2,.int .i64 (leastA s.ts)),(5,.op H1.length 0),(31,.sub s.K 1 0 s.kept.length),(32,.int .i64 s.kept.length),(33,.int .i64 i)],H1++[.box [.int .i64 ((s.kept.take i).foldl (fun k a=>if leastA s.ts<a.x.stamp then min k a.x.snap else k) (leastA s.ts))]]⟩) (fun i=>s.kept.length - i) 0
    (by omega) (Ent.fr (by simp [FrSub,Go.Al.get])) ?_
   intro i hi
   by_cases hil:i<s.kept.length
   . have hlt:((i:Int)<(s.kept.length:Int)):=by omega
     have ho:=op_at (rest:=s.rest) hil
     have hmem:s.kept.getD i default ∈ s.kept:=by simp [hil]
     have ht:=(hs1.tr _ (SR.kept_mem hmem)).box
     have hstep:(s.kept.take (i+1)).foldl (fun k a=>if leastA s.ts<a.x.stamp then min k a.x.snap else k) (leastA s.ts)=(fun k (a:TR)=>if leastA s.ts<a.x.stamp then min k a.x.snap else k) ((s.kept.take i).foldl (fun k a=>if leastA s.ts<a.x.stamp then min k a.x.snap else k) (leastA s.ts)) (s.kept.getD i default):=by
      have e:s.kept.getD i default=s.kept[i]:=by simp [hil]
      rw [List.take_succ_eq_append_getElem hil,List.foldl_append,e]
      rfl
     simp only [TR.cells] at ht
     generalize hx:s.kept.getD i default=a at *
     have hT:∀ o,(H1++[o])[a.t]?=some (.box [.int .i64 a.x.mode,.int .i64 a.x.snap,.bool a.x.done,.int .i64 a.x.stamp,.slc a.l 4 a.x.log.length,.mp a.r,.mp a.w]):=fun o=>by rw [at_app _ _ _ (at_lt ht)];exact ht
     generalize (s.kept.take i).foldl (fun k a=>if leastA s.ts<a.x.stamp then min k a.x.snap else k) (leastA s.ts)=k at *
     repeat' (first|(with_reducible first|(apply St.o;constructor)<;>intro _|refine ai ?_|(apply Sq.o;constructor))|with_reducible refine any_i [H1.length] ?_|simp (disch:=omega) only [lE,seval,get_last,set_last,fillE,setAll,hX,hK,ho,hT,hlt,hmin,epS_arr,Int.toNat_natCast,Nat.zero_add,List.mem_singleton,List.length_append,List.length_cons,List.length_nil,decide_true])
     all_goals
      rename_i h
      refine back_i (i+1) (by omega) (by omega) ?_
      rw [hstep]
      simp only [h,if_true,if_false]
      exact Ent.fr (by simp [FrSub,Go.Al.get])
   . obtain rfl:i=s.kept.length:=by omega
     rw [List.take_length]
     have hkk:s.kept.foldl (fun k a=>if leastA s.ts<a.x.stamp then min k a.x.snap else k) (leastA s.ts)=leastK s.ts:=by
      rw [leastK]
      show _=(s.kept.map (·.x)).foldl _ _
      rw [List.foldl_map]
     rw [hkk]
     have hKl:=at_lt hk1
     have hXl:=at_lt hb1
     have h127:=c127 (g:=128) (caps:=[.op H1.length 0]) (p:=fun a=>gone (leastK s.ts) a.x) (hK (.box [.int .i64 (leastK s.ts)])) hk fun a ha o=>by
      have ht:=(hs1.tr _ (SR.kept_mem ha)).box
      have hne:=(n4 a (SR.kept_mem ha) a.t (by simp [TR.ids])).2.1
      exact c128 (by rw [at_set _ _ _ _ hne,at_app _ _ _ (at_lt ht)];exact ht) (by rw [at_set _ _ _ _ (by omega)];exact get_last)
     repeat' (first|(with_reducible first|(apply St.o;constructor)<;>intro _|refine ai ?_|(apply Sq.o;constructor))|simp (disch:=omega) only [lE,seval,hX,hK,Int.lt_irrefl,decide_false])
     refine callW_i h127 ?_
     rintro _ _ ⟨rfl,rest',rfl⟩
     have hX2:∀ o o',((H1++[o]).set s.K o')[s.X]?=some (.box [.int .i64 s.last,.int .i64 s.shown,.int .i64 s.begun,.sub s.K 1 0 s.kept.length,.mp s.M]):=fun o o'=>by rw [at_set _ _ _ _ (by omega)];exact hX o
     repeat' (first|(with_reducible first|(apply St.o;constructor)<;>intro _|refine ai ?_|(apply Sq.o;constructor))|simp (disch:=omega) only [lE,seval,hX2,setAll])
     have hst:Stay (fun i=>i=s.X\/i=s.K) H1 (((H1++[AObj.box [AV.int IntKind.i64 (leastK s.ts)]]).set s.K (.arr 98 1 ((s.kept.filter fun a=>!gone (leastK s.ts) a.x).map opT++rest'))).set s.X
      (.box [.int .i64 s.last,.int .i64 s.shown,.int .i64 s.begun,.sub s.K 1 0 (s.kept.filter fun a=>!gone (leastK s.ts) a.x).length,.mp s.M])) :=
      ((Stay.app _ _ _).trans (Stay.set (.inr rfl)) fun _ _ h=>h).trans (Stay.set (.inl rfl)) fun _ _ h=>h
     refine ⟨rest',⟨?_,?_,?_,hs.mwf,fun a ha=>?_,hs.ids.sublist SR.filter_ids,hs.asc,hs.top⟩,hx1.to.trans hst fun _ _ h=>h⟩
     . exact at_same _ _ _ (by simp;omega)
     . rw [at_set _ _ _ _ n1];exact at_same _ _ _ (by simp;omega)
     . exact hst.at hs1.act (by intro h;simp only at h;rcases h with h | h <;> omega)
     . have ha2:a ∈ s.all:=by
        rcases List.mem_append.1 ha with h | h
        . exact SR.kept_mem (List.mem_filter.1 h).1
        . exact List.mem_append_right _ h
       refine (hs1.tr a ha2).stay hst fun i hi h=>?_
       obtain ⟨m1,m2,_⟩:=n4 a ha2 i hi
       rcases h with h | h <;> omega
 . obtain ⟨hi,e0⟩:=List.getElem?_eq_some_iff.1 hb'
   rw [hw.len] at hi
   have hbi:s.mb.getD i 0=b':=by rw [List.getD_eq_getElem?_getD,hb'];rfl
   have hni:i ∉ is:=fun h=>hns (by rw [<- hbi];exact List.mem_map.2 ⟨i,h,rfl⟩)
   have hmi:s.act[i]?=some (s.act.getD i default):=by rw [List.getElem?_eq_getElem hi,List.getD_eq_getElem?_getD,List.getElem?_eq_getElem hi,Option.getD_some]
   have hvm:s.act.getD i default ∈ s.act:=List.mem_of_getElem? hmi
   have hkx2:kx=.int .i64 (s.act.getD i default).1:=by
    rw [kM,List.getElem?_map,hmi] at hkx
    cases hkx;rfl
   have hvx2:vx=.op (s.act.getD i default).2.t 0:=by
    rw [vM,List.getElem?_map,hmi] at hvx
    cases hvx;rfl
   subst hkx2 hvx2
   have ht:=(hs.tr _ (SR.act_mem hvm)).box
   simp only [TR.cells] at ht
   have hn2:(is++[i]).Nodup:=List.nodup_append.2 ⟨hn,by simp,fun a ha b hb e=>by
    rw [List.mem_singleton.1 hb] at e
    exact hni (e ▸ ha)⟩
   have hlt2:∀ j ∈ is++[i],j<s.act.length:=fun j hj=>by
    rcases List.mem_append.1 hj with hj | hj
    . exact hlt j hj
    . rw [List.mem_singleton.1 hj];exact hi
   have hle:(is++[i]).length<=s.act.length:=by
    have:=nodup_len (B:=List.range s.act.length) hn2 fun j hj=>List.mem_range.2 (hlt2 j hj)
    rwa [List.length_range] at this
   simp only [List.length_append,List.length_cons,List.length_nil] at hle
   generalize hp:s.act.getD i default=p at *
   have hT:∀ o,(H++[o])[p.2.t]?=some (.box [.int .i64 p.2.x.mode,.int .i64 p.2.x.snap,.bool p.2.x.done,.int .i64 p.2.x.stamp,.slc p.2.l 4 p.2.x.log.length,.mp p.2.r,.mp p.2.w]):=fun o=>by rw [at_app _ _ _ (at_lt ht)];exact ht
   have hfold:((is++[i]).map fun i=>(s.act.getD i default).2.x.snap).foldl min s.shown=min ((is.map fun i=>(s.act.getD i default).2.x.snap).foldl min s.shown) p.2.x.snap:=by
    rw [List.map_append,List.foldl_append,<- hp];rfl
   simp only [lA,seval,set_last,hit,hM]
   refine ent_i i b' rfl hb' hkx hvx ?_
   generalize hm0:(is.map fun i=>(s.act.getD i default).2.x.snap).foldl min s.shown=m0 at *
   simp only [lA,seval]
   repeat' (first|(with_reducible first|(apply St.o;constructor)<;>intro _|refine ai ?_|(apply Sq.o;constructor))|simp (disch:=omega) only [lE,seval,hT,hmin])
   have hseen:(is++[i]).map (fun i=>s.mb.getD i 0)=is.map (fun i=>s.mb.getD i 0)++[b']:=by rw [List.map_append,<- hbi];rfl
   refine back_i (is++[i]) ⟨hn2,hlt2⟩ (by simp only [List.length_append,List.length_cons,List.length_nil];omega) ?_
   rw [hseen,hfold]
   exact Ent.fr (by simp [FrSub,Go.Al.get])
def mc18:MC:=(.seq (.ops [pI 4 0,pI 5 0]) (.seq (.ops [pM 9 0,pM 10 1,pW 11 71 9 10,pM 8 11,pX 12 0 8,pX 13 1 8,pM 6 12,pM 7 13]) (.seq (.seq (.ops [pM 14 7,pD 15 14 0]) (.cond 15 (.seq (.ops [pM 16 7,pI 4 0,pM 5 16]) .ret) .skip)) (.seq (.ops [pM 17 6,(none,.v (.nil 18 (.t 17))),pF 19 1 18,pL 20 19,pM 4 20,pI 5 0]) .ret))))
theorem ok18:FnOk E 18 21 [.tmp 4,.tmp 5] mc18:=ofk func18
def mc22:MC:=(.seq (.ops [pI 2 0]) (.seq (.ops [pM 3 0,(none,.v (.nil 4 (.t 3))),pF 5 1 4,pL 6 5,pM 2 6]) .ret))
theorem ok22:FnOk E 22 7 [.tmp 2] mc22:=ofk func22
def mc26:MC:=(.seq (.ops [pI 4 0,pI 5 0]) (.seq (.ops [pM 9 0,pM 10 1,pW 11 71 9 10,pM 8 11,pX 12 0 8,pX 13 1 8,pM 6 12,pM 7 13]) (.seq (.seq (.ops [pM 14 7,pD 15 14 0]) (.cond 15 (.seq (.ops [pM 16 7,pI 4 0,pM 5 16]) .ret) .skip)) (.seq (.ops [pM 17 6,(none,.v (.nil 18 (.t 17))),pF 19 4 18,pL 20 19,pG 21 20,pM 4 21,pI 5 0]) .ret))))
theorem ok26:FnOk E 26 22 [.tmp 4,.tmp 5] mc26:=ofk func26
def mc53:MC:=(.seq (.ops [pI 4 0]) (.seq (.seq (.ops [pM 5 1,pM 6 0,(none,.v (.nil 7 (.t 6))),pF 8 1 7,pL 9 8,pB 10 5 9,pM 11 10,gF 11 (oM 12 1),gF 11 (oM 13 0),(some (11,false),.v (.nil 14 (.t 13))),gF 11 (oF 15 0 14),gF 11 (oL 16 15),(some (11,false),.v (.bin 17 .gtr false (.t 12) (.t 16))),pO 18 11 17]) (.cond 18 (.seq (.ops [pI 4 1]) .ret) .skip)) (.seq (.ops [pM 19 0,pM 20 1,(none,.v (.nil 21 (.t 19))),pF 22 1 21,(none,.e (.store 1 false (.t 22) (.t 20)))]) (.seq (.ops [pM 23 0,pV 24 99 23]) (.seq (.ops [pI 4 0]) .ret)))))
theorem ok53:FnOk E 53 25 [.tmp 4] mc53:=ofk func53
def mc54:MC:=(.seq (.ops [pI 4 0]) (.seq (.seq (.ops [pM 8 0,pM 9 1,pW 10 71 8 9,pM 7 10,pX 11 0 7,pX 12 1 7,pM 5 11,pM 6 12]) (.seq (.ops [pM 13 6,pD 14 13 0]) (.cond 14 (.seq (.ops [pM 15 6,pM 4 15]) .ret) .skip))) (.seq (.ops [pM 16 0,(none,.v (.nil 17 (.t 16))),pF 18 4 17,pL 19 18,pM 20 1,(none,.e (.mdel none (.int .i64) (.t 19) (.t 20)))]) (.seq (.ops [pM 21 0,pV 22 99 21]) (.seq (.ops [pI 4 0]) .ret)))))
theorem ok54:FnOk E 54 23 [.tmp 4] mc54:=ofk func54
structure Upd (s s':SR) (H H':List AObj):Prop where
 at':s'.At H'
 x:s'.X=s.X
 stay:Stay (· ∈ s.ids) H H'
 own:∀ i ∈ s'.ids,i ∈ s.ids\/H.length<=i
theorem Upd.ext {s:SR} {H H':List AObj} (h:s.At H) (k:Ext H H'):Upd s s H H':=⟨h.ext k,rfl,k.to,fun i hi=>.inl hi⟩
theorem Upd.trans {s s1 s2:SR} {H H1 H2:List AObj} (h:Upd s s1 H H1) (k:Upd s1 s2 H1 H2):Upd s s2 H H2 :=
 ⟨k.at',k.x.trans h.x,h.stay.trans k.stay fun i hi hO=>(h.own i hO).resolve_right (by omega),fun i hi=>by
   rcases k.own i hi with h1 | h1
   . exact h.own i h1
   . exact .inr (Nat.le_trans h.stay.1 h1)⟩
theorem SR.X_mem (s:SR):s.X ∈ s.ids:=by simp [SR.ids]
theorem SR.K_mem (s:SR):s.K ∈ s.ids:=by simp [SR.ids]
theorem SR.M_mem (s:SR):s.M ∈ s.ids:=by simp [SR.ids]
theorem c99u {s:SR} {H:List AObj} (hs:s.At H) (hk:s.kept.length<=1000000) :
 ACalls E.P 99 [.op s.X 0] H (fun r H'=>r=.tup []/\∃ s',Upd s s' H H'/\s'.ts=forgetS s.ts):=by
 refine (c99 hs hk).mono ?_
 rintro r H' ⟨rfl,rest',h1,h2⟩
 refine ⟨rfl,_,⟨h1,rfl,h2.weak fun i _ h=>?_,fun i hi=>.inl (SR.filter_ids.subset hi)⟩,?_⟩
 . rcases h with rfl | rfl
   . exact s.X_mem
   . exact s.K_mem
 . simp only [SR.ts,forgetS,List.filter_map]
   rfl
theorem c22 {s:SR} {H:List AObj} (hs:s.At H):ACalls E.P 22 [.op s.X 0] H (fun r H'=>r=.int .i64 s.shown/\H'=H):=by
 refine ok22.acalls0 hE hm (by simp) fun N hN=>?_
 unfold mc22 pI pM pF pL
 have h1:=hs.box
 simp only [SR.cells] at h1
 simp only [lA,seval]
 repeat' (first|(with_reducible first|(apply St.o;constructor)<;>intro _|refine ai ?_|(apply Sq.o;constructor))|simp (disch:=omega) only [lE,seval,h1])
def snapS (o:Option TR):AV:=match o with | some a=>.tup [.int .i64 a.x.snap,.int .i64 0] | none=>.tup [.int .i64 0,.int .i64 273]
theorem c18 {s:SR} {H:List AObj} (hs:s.At H) (tx:Int):ACalls E.P 18 [.op s.X 0,.int .i64 tx] H (fun r H'=>r=snapS (getM s.act tx)/\H'=H):=by
 have h71:=c71 hs tx
 refine ok18.acalls0 hE hm (by simp) fun N hN=>?_
 unfold mc18 pI pM pW pX pD pF pL
 simp only [lA,seval]
 repeat' (first|(with_reducible first|(apply St.o;constructor)<;>intro _|refine ai ?_|(apply Sq.o;constructor))|simp (disch:=omega) only [lE,seval])
 refine callW_i h71 ?_
 rintro _ _ ⟨rfl,rfl⟩
 cases hg:getM s.act tx with
 | none =>
   repeat' (first|(with_reducible first|(apply St.o;constructor)<;>intro _|refine ai ?_|(apply Sq.o;constructor))|simp (disch:=omega) only [lE,seval,snapS])|some a =>
   have h3:=(hs.tr _ (SR.act_mem (getM_mem hg))).box
   simp only [TR.cells] at h3
   repeat' (first|(with_reducible first|(apply St.o;constructor)<;>intro _|refine ai ?_|(apply Sq.o;constructor))|simp (disch:=omega) only [lE,seval,h3,snapS])
def saveS (o:Option TR):AV:=match o with | some a=>.tup [.int .i64 a.x.log.length,.int .i64 0] | none=>.tup [.int .i64 0,.int .i64 273]
theorem c26 {s:SR} {H:List AObj} (hs:s.At H) (tx:Int):ACalls E.P 26 [.op s.X 0,.int .i64 tx] H (fun r H'=>r=saveS (getM s.act tx)/\H'=H):=by
 have h71:=c71 hs tx
 refine ok26.acalls0 hE hm (by simp) fun N hN=>?_
 unfold mc26 pI pM pW pX pD pF pL pG
 simp only [lA,seval]
 repeat' (first|(with_reducible first|(apply St.o;constructor)<;>intro _|refine ai ?_|(apply Sq.o;constructor))|simp (disch:=omega) only [lE,seval])
 refine callW_i h71 ?_
 rintro _ _ ⟨rfl,rfl⟩
 cases hg:getM s.act tx with
 | none =>
   repeat' (first|(with_reducible first|(apply St.o;constructor)<;>intro _|refine ai ?_|(apply Sq.o;constructor))|simp (disch:=omega) only [lE,seval,saveS])|some a =>
   have h3:=(hs.tr _ (SR.act_mem (getM_mem hg))).box
   have h4:=(hs.tr _ (SR.act_mem (getM_mem hg))).log
   simp only [TR.cells] at h3
   repeat' (first|(with_reducible first|(apply St.o;constructor)<;>intro _|refine ai ?_|(apply Sq.o;constructor))|simp (disch:=omega) only [lE,seval,h3,h4,saveS,List.length_map])
theorem SR.shown_at {s:SR} {H:List AObj} (hs:s.At H) (a:Int):Upd s { s with shown:=a } H (H.set s.X (.box ({ s with shown:=a }:SR).cells)):=by
 obtain ⟨n1,n2,n3,n4⟩:=hs.ne
 have hst:Stay (· ∈ s.ids) H (H.set s.X (.box ({ s with shown:=a }:SR).cells)):=Stay.set s.X_mem
 have hst2:Stay (fun i=>i=s.X) H (H.set s.X (.box ({ s with shown:=a }:SR).cells)):=Stay.set rfl
 refine ⟨⟨at_same _ _ _ (at_lt hs.box),hst2.at hs.kept fun h=>n1 h.symm,hst2.at hs.act fun h=>n2 h.symm,hs.mwf,fun b hb=>(hs.tr b hb).stay hst2 fun i hi h=>(n4 b hb i hi).1 h.symm,hs.ids,hs.asc,hs.top⟩,rfl,hst,fun i hi=>.inl hi⟩
def publishS (s:TS) (a:Int):Int × TS:=if a<s.shown\/s.last<a then (1,s) else (0,forgetS { s with shown:=a })
theorem c53 {s:SR} {H:List AObj} (hs:s.At H) (hk:s.kept.length<=1000000) (a:Int):ACalls E.P 53 [.op s.X 0,.int .i64 a] H (fun r H'=>r=.int .i64 (publishS s.ts a).1/\∃ s',Upd s s' H H'/\s'.ts=(publishS s.ts a).2):=by
 have h1:=hs.box
 simp only [SR.cells] at h1
 have hu:=SR.shown_at hs a
 have h99:=c99u hu.at' hk
 simp only [SR.cells] at hu h99
 refine ok53.acalls0 hE hm (by simp) fun N hN=>?_
 unfold mc53 pI pM pF pL pB pO pV gF oM oL oF
 simp only [lA,seval]
 by_cases hc:a<s.shown\/s.last<a
 . have e:publishS s.ts a=(1,s.ts):=if_pos hc
   rw [e]
   repeat' (first|(with_reducible first|(apply St.o;constructor)<;>intro _|refine ai ?_|(apply Sq.o;constructor))|simp (disch:=omega) only [lE,seval,h1,setAll])
   all_goals first
    | (exfalso;omega)
    | exact ⟨s,Upd.ext hs (Stay.refl _ _),rfl⟩
 . have e:publishS s.ts a=(0,forgetS { s.ts with shown:=a }):=if_neg hc
   rw [e]
   repeat' (first|(with_reducible first|(apply St.o;constructor)<;>intro _|refine ai ?_|(apply Sq.o;constructor))|simp (disch:=omega) only [lE,seval,h1,setAll])
   all_goals try (exfalso;omega)
   refine callW_i h99 ?_
   rintro _ _ ⟨rfl,s',hu2,e2⟩
   repeat' (first|(with_reducible first|(apply St.o;constructor)<;>intro _|refine ai ?_|(apply Sq.o;constructor))|simp (disch:=omega) only [lE,seval])
   exact ⟨s',hu.trans hu2,e2⟩
theorem mem_delM {α:Type} {m:List (Int × α)} {r:Int} {p:Int × α} (h:p ∈ delM m r):p ∈ m:=by
 induction m with
 | nil=>simp [delM] at h
 | cons q m ih =>
   rw [delM] at h
   split at h
   . exact List.mem_cons_of_mem _ h
   . rcases List.mem_cons.1 h with h | h
     . rw [h];exact List.mem_cons_self
     . exact List.mem_cons_of_mem _ (ih h)
theorem delM_sub {α:Type} (r:Int):∀ m:List (Int × α),(delM m r).Sublist m
 | []=>List.Sublist.refl _
 | p::m=>by
   rw [delM]
   split
   . exact List.sublist_cons_self _ _
   . exact (delM_sub r m).cons_cons _
theorem delM_filter {α:Type} {r:Int}:∀ {m:List (Int × α)},(m.map (·.1)).Pairwise (· < ·)->delM m r=m.filter fun p=>decide (p.1≠r)
 | [],_=>rfl
 | p::m,h=>by
   obtain ⟨h1,h2⟩:=List.pairwise_cons.1 h
   rw [delM,List.filter_cons]
   split
   . rename_i hp
     rw [if_neg (by simp [hp])]
     refine (List.filter_eq_self.2 fun q hq=>?_).symm
     have:=h1 q.1 (List.mem_map.2 ⟨q,hq,rfl⟩)
     simp only at this
     simp;omega
   . rename_i hp
     rw [if_pos (by simp [hp]),delM_filter h2]
theorem SR.del_ids {s:SR} {tx:Int} {mb:List Nat}:({ s with act:=delM s.act tx,mb:=mb }:SR).ids.Sublist s.ids:=by
 simp only [SR.ids,SR.all]
 refine List.Sublist.cons_cons _ (List.Sublist.cons_cons _ (List.Sublist.cons_cons _ ?_))
 rw [List.flatMap_append,List.flatMap_append]
 refine List.Sublist.append_left ?_ _
 have h:=(delM_sub tx s.act).map (·.2)
 show ((delM s.act tx).map (·.2)).flatMap TR.ids |>.Sublist ((s.act.map (·.2)).flatMap TR.ids)
 generalize (delM s.act tx).map (·.2)=l1 at *
 generalize s.act.map (·.2)=l2 at *
 induction h with
 | slnil=>exact List.Sublist.refl _
 | cons a h ih=>rw [List.flatMap_cons];exact ih.trans (List.sublist_append_right _ _)
 | cons_cons a h ih=>rw [List.flatMap_cons,List.flatMap_cons];exact List.Sublist.append_left ih _
theorem SR.del_at {s:SR} {H:List AObj} (hs:s.At H) (tx:Int):∃ mb,delK (.int .i64) (kM s.act) (vM opT s.act) s.mb s.mc (.int .i64 tx)=some (.map (kM (delM s.act tx)) (vM opT (delM s.act tx)) mb s.mc) /\
 Upd s { s with act:=delM s.act tx,mb:=mb } H (H.set s.M (.map (kM (delM s.act tx)) (vM opT (delM s.act tx)) mb s.mc)):=by
 obtain ⟨n1,n2,n3,n4⟩:=hs.ne
 obtain ⟨mb,h1,h2⟩:=wf_del opT hs.mwf tx
 refine ⟨mb,h1,⟨?_,?_,?_,h2,fun b hb=>?_,hs.ids.sublist SR.del_ids,?_,fun p hp=>hs.top p (mem_delM hp)⟩,rfl,Stay.set s.M_mem,fun i hi=>.inl (SR.del_ids.subset hi)⟩
 . have:H[s.X]?=some (.box s.cells):=hs.box
   rw [at_set _ _ _ _ (by simp only;omega)];exact this
 . rw [at_set _ _ _ _ (by simp only;omega)];exact hs.kept
 . exact at_same _ _ _ (at_lt hs.act)
 . have hb2:b ∈ s.all:=by
    rcases List.mem_append.1 hb with h | h
    . exact SR.kept_mem h
    . obtain ⟨p,hp,rfl⟩:=List.mem_map.1 h
      exact SR.act_mem (mem_delM hp)
   exact (hs.tr b hb2).stay (O:=fun i=>i=s.M) (Stay.set rfl) fun i hi h=>(n4 b hb2 i hi).2.2 h.symm
 . exact hs.asc.sublist ((delM_sub tx s.act).map _)
def abortS (s:TS) (tx:Int):Int × TS:=match getT s tx with | some _=>(0,forgetS (delT s tx)) | none=>(273,s)
theorem getT_ts (s:SR) (tx:Int):getT s.ts tx=(getM s.act tx).map (·.x):=by
 simp only [getT,SR.ts,getM,List.find?_map,Option.map_map]
 rfl
theorem c54 {s:SR} {H:List AObj} (hs:s.At H) (hk:s.kept.length<=1000000) (tx:Int):ACalls E.P 54 [.op s.X 0,.int .i64 tx] H (fun r H'=>r=.int .i64 (abortS s.ts tx).1/\∃ s',Upd s s' H H'/\s'.ts=(abortS s.ts tx).2):=by
 have h71:=c71 hs tx
 have h1:=hs.box
 have h2:=hs.act
 simp only [SR.cells] at h1
 obtain ⟨mb,hd,hu⟩:=SR.del_at hs tx
 have h99:=c99u hu.at' hk
 simp only at h99
 refine ok54.acalls0 hE hm (by simp) fun N hN=>?_
 unfold mc54 pI pM pW pX pD pF pL pV
 simp only [lA,seval]
 repeat' (first|(with_reducible first|(apply St.o;constructor)<;>intro _|refine ai ?_|(apply Sq.o;constructor))|simp (disch:=omega) only [lE,seval])
 refine callW_i h71 ?_
 rintro _ _ ⟨rfl,rfl⟩
 unfold abortS
 rw [getT_ts]
 cases hg:getM s.act tx with
 | none =>
   simp only [Option.map_none]
   repeat' (first|(with_reducible first|(apply St.o;constructor)<;>intro _|refine ai ?_|(apply Sq.o;constructor))|simp (disch:=omega) only [lE,seval])
   exact ⟨s,Upd.ext hs (Stay.refl _ _),rfl⟩
 | some a =>
   simp only [Option.map_some]
   repeat' (first|(with_reducible first|(apply St.o;constructor)<;>intro _|refine ai ?_|(apply Sq.o;constructor))|simp (disch:=omega) only [lE,seval,h1,h2,hd])
   refine callW_i h99 ?_
   rintro _ _ ⟨rfl,s',hu2,e2⟩
   repeat' (first|(with_reducible first|(apply St.o;constructor)<;>intro _|refine ai ?_|(apply Sq.o;constructor))|simp (disch:=omega) only [lE,seval])
   refine ⟨s',hu.trans hu2,?_⟩
   rw [e2]
   congr 1
   simp only [SR.ts,delT,List.filter_map,delM_filter hs.asc]
   rfl
def mc11:MC:=(.seq (.ops [(none,.v (.mov 2 (.c (.raw (.pointer none)))))]) (.seq (.seq (.ops [pM 3 0,(none,.v (.bin 4 .lss false (.t 3) (.c (.int .i64 0)))),pM 5 4,gF 5 (oM 6 0),(some (5,false),.v (.bin 7 .gtr false (.t 6) (.c (.int .i64 1073741824)))),pO 8 5 7]) (.cond 8 (.seq (.ops [(none,.v (.mov 2 (.c (.raw (.pointer none)))))]) .ret) .skip)) (.seq (.ops [pM 9 0,pM 10 0,(none,.e (.mkmap 11)),(none,.v (.build 12 [.int .i64 0,.int .i64 0,.int .i64 0,.raw (.slice none 0 0),.raw (.map none)] [(0,1,.t 9),(1,1,.t 10),(4,1,.t 11)])),pK 13 12,pM 2 13]) .ret)))
theorem ok11:FnOk E 11 14 [.tmp 2] mc11:=ofk func11
abbrev q50_0:MI:=oI 4 0
abbrev q50_1:AT:=.pure1 none (.v (.build 54 [.int .i64 0,.int .i64 0,.bool false,.int .i64 0,.raw (.slice none 0 0),.raw (.map none),.raw (.map none)] [(0,1,.t 47),(1,1,.t 51),(5,1,.t 52),(6,1,.t 53)])) (.alt none (oK 55 54) (.alt none (.e (.mput (.int .i64) (.t 42) (.t 46) (.t 55))) .done .stop) .stop)
def mc50:MC:=(.seq (.ops [(none,q50_0),pI 5 0]) (.seq (.seq (.ops [pM 6 1,(none,.v (.bin 7 .lss false (.t 6) (.c (.int .i64 0)))),pM 8 7,gF 8 (oM 9 1),(some (8,false),.v (.bin 10 .gtr false (.t 9) (.c (.int .i64 2)))),pO 11 8 10]) (.cond 11 (.seq (.ops [(none,q50_0),pI 5 1]) .ret) .skip)) (.seq (.seq (.any false (.pure0 none (oM 12 0) (.pure0 none (.v (.nil 13 (.t 12))) (.pure0 none (oF 14 4 13) (.pure0 none (oL 15 14) (.pure0 none (.p (.mlen 16 (.t 15))) (.pure0 none (.v (.bin 17 .geq false (.t 16) (.c (.int .i64 16)))) (.pure0 none (oM 18 17) (.pure0 (some (18,false)) (oM 19 0) (.pure0 (some (18,false)) (.v (.nil 20 (.t 19))) (.pure0 (some (18,false)) (oF 21 3 20) (.pure0 (some (18,false)) (oL 22 21) (.pure0 (some (18,false)) (oG 23 22) (.pure0 (some (18,false)) (oM 24 0) (.pure0 (some (18,false)) (.v (.nil 25 (.t 24))) (.pure0 (some (18,false)) (oF 26 4 25) (.pure0 (some (18,false)) (oL 27 26) (.pure0 (some (18,false)) (.p (.mlen 28 (.t 27))) (.pure0 (some (18,false)) (.v (.bin 29 .add false (.t 23) (.t 28))) (.pure0 (some (18,false)) (.v (.bin 30 .geq false (.t 29) (.c (.int .i64 40)))) (.pure0 none (oO 31 18 30) .done))))))))))))))))))))) (.cond 31 (.seq (.ops [(none,q50_0),pI 5 2]) .ret) .skip)) (.seq (.ops [pM 32 0,(none,.v (.nil 33 (.t 32))),pF 34 2 33,pL 35 34,pA 36 35 1,(none,.v (.nil 37 (.t 32))),pF 38 2 37,(none,.e (.store 1 false (.t 38) (.t 36)))]) (.seq (.any true (.pure0 none (oM 39 0) (.pure0 none (.v (.nil 40 (.t 39))) (.pure0 none (oF 41 4 40) (.pure0 none (oL 42 41) (.pure0 none (oM 43 0) (.pure0 none (.v (.nil 44 (.t 43))) (.pure0 none (oF 45 2 44) (.pure0 none (oL 46 45) (.pure0 none (oM 47 1) (.pure0 none (oM 48 0) (.pure0 none (.v (.nil 49 (.t 48))) (.pure0 none (oF 50 1 49) (.pure0 none (oL 51 50) (.alt none (.e (.mkmap 52)) (.alt none (.e (.mkmap 53)) q50_1 .stop) (.alt none (.e (.mkmap 53)) (.alt none (.e (.mkmap 52)) q50_1 .stop) .stop)))))))))))))))) (.seq (.ops [pM 56 0,pV 57 99 56]) (.seq (.ops [pM 58 0,(none,.v (.nil 59 (.t 58))),pF 60 2 59,pL 61 60,pM 4 61,pI 5 0]) .ret)))))))
theorem ok50:FnOk E 50 62 [.tmp 4,.tmp 5] mc50:=ofk func50
def okLast (n:Int):Prop:=0<=n/\n<=1073741824
theorem c11 {H:List AObj} (last:Int):ACalls E.P 11 [.int .i64 last] H (fun r H'=>(¬ okLast last/\r=.raw (.pointer none)/\H'=H)\/(okLast last/\∃ s:SR,s.At H'/\r=.op s.X 0/\s.ts=⟨last,last,0,[],[]⟩/\Ext H H'/\∀ i ∈ s.ids,H.length<=i)):=by
 refine ACalls.resG 98 1 (by omega) ?_
 refine ok11.acalls0 hE hm (by simp) fun N hN=>?_
 unfold mc11 pM pO pK gF oM
 simp only [lA,seval]
 by_cases hc:okLast last
 . obtain ⟨hc1,hc2⟩:=id hc
   repeat' (first|(with_reducible first|(apply St.o;constructor)<;>intro _|refine ai ?_|(apply Sq.o;constructor))|simp (disch:=omega) only [lE,seval,setAll])
   all_goals try (exfalso;omega)
   refine .inr ⟨H.length+1,3,[.int .i64 last,.int .i64 last,.int .i64 0,.raw (.slice none 0 0),.mp H.length],?_,rfl,.inr ⟨hc,⟨H.length+1,H.length+2,H.length,[],0,[],last,last,0,[],[]⟩,⟨?_,?_,?_,⟨rfl,.nil,by simp⟩,by simp [SR.all],by simp [SR.ids,SR.all],by simp,by simp⟩,?_,rfl,⟨?_,?_⟩,?_⟩⟩
   . simp [List.getElem?_append]
   . simp [List.getElem?_append,List.getElem?_set,SR.cells]
   . simp [List.getElem?_append,List.getElem?_set]
   . simp [List.getElem?_append,List.getElem?_set,kM,vM]
   . simp
   . simp;try omega
   . intro i hi _
     rw [at_app _ _ _ (by simp;omega),at_set _ _ _ _ (by omega),at_app _ _ _ (by simp;omega),at_app _ _ _ hi]
   . simp [SR.ids,SR.all]
 . have hc2:last<0\/1073741824<last:=by unfold okLast at hc;omega
   repeat' (first|(with_reducible first|(apply St.o;constructor)<;>intro _|refine ai ?_|(apply Sq.o;constructor))|simp (disch:=omega) only [lE,seval])
   all_goals first
    | (exfalso;omega)
    | exact .inl (.inl hc)
theorem kM_len {α:Type} (m:List (Int × α)):(kM m).length=m.length:=by simp [kM]
theorem setM_new {α:Type} {m:List (Int × α)} {r:Int} (v:α) (h:∀ p ∈ m,p.1≠r):setM m r v=m++[(r,v)]:=by
 induction m with
 | nil=>rfl
 | cons p m ih=>rw [setM,if_neg (h p (by simp)),ih fun q hq=>h q (by simp [hq])];rfl
theorem SR.add_at {s:SR} {H H3:List AObj} {a:TR} {num:Int} {mb:List Nat} {mc:Nat} (hs:s.At H) (hst:Stay (fun i=>i=s.M) H H3) (hM:H3[s.M]?=some (.map (kM (s.act++[(num,a)])) (vM opT (s.act++[(num,a)])) mb mc)) (hw:WfM (s.act.length+1) mb mc)
 (ha:a.At H3) (hn:a.ids.Nodup) (hl:∀ i ∈ a.ids,H.length<=i) (hnum:∀ p ∈ s.act,p.1<num) (h0:0<num) (hb:num<=s.begun):Upd s { s with act:=s.act++[(num,a)],mb:=mb,mc:=mc } H H3:=by
 obtain ⟨n1,n2,n3,n4⟩:=hs.ne
 have hid:({ s with act:=s.act++[(num,a)],mb:=mb,mc:=mc }:SR).ids=s.ids++a.ids:=by
  simp [SR.ids,SR.all,List.flatMap_append]
 have hall:∀ b,b ∈ ({ s with act:=s.act++[(num,a)],mb:=mb,mc:=mc }:SR).all->b ∈ s.all\/b=a:=fun b hb=>by
  rcases List.mem_append.1 hb with h | h
  . exact .inl (SR.kept_mem h)
  . simp only [List.map_append,List.mem_append,List.map_cons,List.map_nil,List.mem_singleton] at h
    rcases h with h | h
    . exact .inl (List.mem_append_right _ h)
    . exact .inr h
 refine ⟨⟨hst.at hs.box n2,hst.at hs.kept n3,hM,by simpa using hw,fun b hb=>?_,?_,?_,fun p hp=>?_⟩,rfl,hst.weak fun i _ h=>h ▸ s.M_mem,fun i hi=>?_⟩
 . rcases hall b hb with h | rfl
   . exact (hs.tr b h).stay hst fun i hi e=>(n4 b h i hi).2.2 e.symm
   . exact ha
 . rw [hid]
   exact List.nodup_append.2 ⟨hs.ids,hn,fun x hx y hy e=>by have:=hs.lt x hx;have:=hl y hy;omega⟩
 . simp only [List.map_append,List.map_cons,List.map_nil]
   refine List.pairwise_append.2 ⟨hs.asc,by simp,fun x hx y hy=>?_⟩
   obtain ⟨p,hp,rfl⟩:=List.mem_map.1 hx
   rw [List.mem_singleton.1 hy]
   exact hnum p hp
 . rcases List.mem_append.1 hp with h | h
   . exact hs.top p h
   . rw [List.mem_singleton.1 h];exact ⟨h0,hb⟩
 . rw [hid] at hi
   rcases List.mem_append.1 hi with h | h
   . exact .inl h
   . exact .inr (hl i h)
theorem SR.begun_at {s:SR} {H:List AObj} (hs:s.At H):Upd s { s with begun:=s.begun+1 } H (H.set s.X (.box ({ s with begun:=s.begun+1 }:SR).cells)):=by
 obtain ⟨n1,n2,n3,n4⟩:=hs.ne
 have hst2:Stay (fun i=>i=s.X) H (H.set s.X (.box ({ s with begun:=s.begun+1 }:SR).cells)):=Stay.set rfl
 exact ⟨⟨at_same _ _ _ (at_lt hs.box),hst2.at hs.kept fun h=>n1 h.symm,hst2.at hs.act fun h=>n2 h.symm,hs.mwf,fun b hb=>(hs.tr b hb).stay hst2 fun i hi h=>(n4 b hb i hi).1 h.symm,hs.ids,hs.asc,fun p hp=>⟨(hs.top p hp).1,by have:=(hs.top p hp).2;simp only;omega⟩⟩,rfl,Stay.set s.X_mem,fun i hi=>.inl hi⟩
theorem begin_tail {s:SR} {H H1:List AObj} (hs:s.At H) (hk:s.kept.length<=1000000) (h0:0<=s.begun) (mode:Int) (hu:Upd s { s with begun:=s.begun+1 } H H1) (hlen:H1.length=H.length) {mb:List Nat} {mc:Nat} (hwf:WfM (s.act.length+(0+1)) mb mc) {r w:Nat} (hrw:(r=H.length/\w=H.length+1)\/(r=H.length+1/\w=H.length)) :
 ACalls E.P 99 [.op s.X 0] ((H1++[AObj.map [] [] [] 0]++[AObj.map [] [] [] 0]++[AObj.box [AV.int IntKind.i64 mode,AV.int IntKind.i64 s.shown,AV.bool false,AV.int IntKind.i64 0,AV.raw (Value.slice none 0 0),AV.mp r,AV.mp w]]).set s.M
  (.map (kM s.act++[.int .i64 (s.begun+1)]) (vM opT s.act++[.op (H.length+1+1) 0]) mb mc))
  (fun r H'=>r=.tup []/\∃ s',Upd s s' H H'/\s'.ts=forgetS { s.ts with begun:=s.begun+1,act:=s.ts.act++[(s.begun+1,⟨mode,s.shown,false,0,[],[],[]⟩)] }):=by
 have hMl:=at_lt hu.at'.act
 simp only at hMl
 obtain ⟨H2,hH2⟩:∃ H2,H2=(H1++[AObj.map [] [] [] 0]++[AObj.map [] [] [] 0]++[AObj.box [AV.int IntKind.i64 mode,AV.int IntKind.i64 s.shown,AV.bool false,AV.int IntKind.i64 0,AV.raw (Value.slice none 0 0),AV.mp r,AV.mp w]]).set s.M
  (.map (kM s.act++[.int .i64 (s.begun+1)]) (vM opT s.act++[.op (H.length+1+1) 0]) mb mc):=⟨_,rfl⟩
 rw [<- hH2]
 have hl2:H2.length=H.length+3:=by rw [hH2];simp [hlen]
 have hb2:H2[H.length+1+1]?=some (.box [.int .i64 mode,.int .i64 s.shown,.bool false,.int .i64 0,.raw (.slice none 0 0),.mp r,.mp w]):=by
  rw [hH2,at_set _ _ _ _ (by omega)]
  have:H.length+1+1=(H1++[AObj.map [] [] [] 0]++[AObj.map [] [] [] 0]).length:=by simp [hlen]
  rw [this];exact get_last
 have hm1:H2[H.length]?=some (.map [] [] [] 0):=by
  rw [hH2,at_set _ _ _ _ (by omega),at_app _ _ _ (by simp;omega),at_app _ _ _ (by simp;omega),<- hlen];exact get_last
 have hm2:H2[H.length+1]?=some (.map [] [] [] 0):=by
  rw [hH2,at_set _ _ _ _ (by omega),at_app _ _ _ (by simp;omega)]
  have:H.length+1=(H1++[AObj.map [] [] [] 0]).length:=by simp [hlen]
  rw [this];exact get_last
 have hMM:H2[s.M]?=some (.map (kM s.act++[.int .i64 (s.begun+1)]) (vM opT s.act++[.op (H.length+1+1) 0]) mb mc):=by
  rw [hH2];exact at_same _ _ _ (by simp;omega)
 have hst2:Stay (fun i=>i=s.M) H1 H2:=by
  rw [hH2]
  exact (((Stay.app (fun i=>i=s.M) _ _).trans (Stay.app (fun i=>i=s.M) _ _) fun _ _ h=>h).trans (Stay.app (fun i=>i=s.M) _ _) fun _ _ h=>h).trans (O':=fun i=>i=s.M) (Stay.set rfl) fun _ _ h=>h
 refine ACalls.ghostB (H.length+1+1) 4 59 4 (by omega) hb2 rfl ?_
 obtain ⟨H3,hH3⟩:∃ H3,H3=H2.set (H.length+1+1) (.box ([AV.int IntKind.i64 mode,AV.int IntKind.i64 s.shown,AV.bool false,AV.int IntKind.i64 0,AV.raw (Value.slice none 0 0),AV.mp r,AV.mp w].set 4 (.slc H2.length 4 0)))++[AObj.arr 59 4 []]:=⟨_,rfl⟩
 rw [<- hH3]
 have hst3:Stay (fun i=>i=H.length+1+1) H2 H3:=by
  rw [hH3];exact Stay.trans (O:=fun i=>i=H.length+1+1) (O':=fun i=>i=H.length+1+1) (Stay.set rfl) (Stay.app _ _ _) fun _ _ h=>h
 have hst:Stay (fun i=>i=s.M) H1 H3:=hst2.trans hst3 fun i hi h=>by omega
 obtain ⟨a,hae⟩:∃ a:TR,a=⟨H.length+1+1,H.length+3,r,w,[],0,[],0,⟨mode,s.shown,false,0,[],[],[]⟩⟩:=⟨_,rfl⟩
 have hids:a.ids=[H.length+1+1,H.length+3,r,w]:=by rw [hae];rfl
 have hr3:H3[r]?=some (.map [] [] [] 0):=by
  rcases hrw with ⟨rfl,rfl⟩ | ⟨rfl,rfl⟩
  . exact hst3.at hm1 (by omega)
  . exact hst3.at hm2 (by omega)
 have hw3:H3[w]?=some (.map [] [] [] 0):=by
  rcases hrw with ⟨rfl,rfl⟩ | ⟨rfl,rfl⟩
  . exact hst3.at hm2 (by omega)
  . exact hst3.at hm1 (by omega)
 have ha:a.At H3:=by
  rw [hae]
  refine ⟨?_,?_,hr3,hw3,⟨rfl,.nil,by simp⟩,⟨rfl,.nil,by simp⟩⟩
  . rw [hH3,at_app _ _ _ (by simp;omega),at_same _ _ _ (by omega),hl2];rfl
  . have:H.length+3=(H2.set (H.length+1+1) (.box ([AV.int IntKind.i64 mode,AV.int IntKind.i64 s.shown,AV.bool false,AV.int IntKind.i64 0,AV.raw (Value.slice none 0 0),AV.mp r,AV.mp w].set 4 (.slc H2.length 4 0)))).length:=by simp [hl2]
    rw [hH3]
    simp only
    rw [this];exact get_last
 have hadd:=SR.add_at (num:=s.begun+1) (mb:=mb) (mc:=mc) (a:=a) hu.at' hst (by
  have:=hst3.at hMM (show ¬ s.M=H.length+1+1 by omega)
  simp only
  rw [this,hae]
  simp [kM,vM,opT]) (by simpa using hwf) ha (by rw [hids];simp;omega) (by rw [hids];simp;omega) (fun p hp=>by have:=(hs.top p hp).2;omega) (by omega) (by simp)
 refine (c99u hadd.at' hk).mono ?_
 rintro _ H9 ⟨rfl,s9,hu9,e9⟩
 refine ⟨rfl,s9,(hu.trans hadd).trans hu9,?_⟩
 rw [e9,hae]
 simp [SR.ts]
theorem c50 {s:SR} {H:List AObj} (hs:s.At H) (hk:s.kept.length<=1000000) (hb:s.begun<=1000000) (h0:0<=s.begun) (mode:Int) :
 ACalls E.P 50 [.op s.X 0,.int .i64 mode] H (fun r H'=>r=.tup [.int .i64 (beginS s.ts mode).1.n,.int .i64 (beginS s.ts mode).1.e]/\∃ s',Upd s s' H H'/\s'.ts=(beginS s.ts mode).2):=by
 have hmax:=maxLen_eq
 have h1:=hs.box
 have h2:=hs.act
 have h3:=hs.kept
 simp only [SR.cells] at h1
 have hkl:=kM_len s.act
 have hta:s.ts.act.length=s.act.length:=by simp [SR.ts]
 have htk:s.ts.kept.length=s.kept.length:=by simp [SR.ts]
 refine ok50.acalls0 hE hm (by simp) fun N hN=>?_
 unfold mc50 q50_1 q50_0 pI pM pO pF pL pA pV gF oM oI oL oF oO oK oG
 simp only [lA,seval]
 by_cases hm1:mode<0\/2<mode
 . have e:beginS s.ts mode=(⟨0,[],1⟩,s.ts):=if_pos hm1
   rw [e]
   repeat' (first|(with_reducible first|(apply St.o;constructor)<;>intro _|refine ai ?_|(apply Sq.o;constructor))|with_reducible refine any_i [] ?_|simp (disch:=omega) only [lE,seval,h1,h2,h3,hkl])
   all_goals first
    | (exfalso;omega)
    | exact ⟨s,Upd.ext hs (Stay.refl _ _),rfl⟩
 by_cases hm2:16<=s.act.length\/40<=s.kept.length+s.act.length
 . have e:beginS s.ts mode=(⟨0,[],2⟩,s.ts):=by rw [beginS,if_neg hm1,if_pos (by rw [hta,htk];exact hm2)]
   rw [e]
   repeat' (first|(with_reducible first|(apply St.o;constructor)<;>intro _|refine ai ?_|(apply Sq.o;constructor))|with_reducible refine any_i [] ?_|simp (disch:=omega) only [lE,seval,h1,h2,h3,hkl])
   all_goals first
    | (exfalso;omega)
    | exact ⟨s,Upd.ext hs (Stay.refl _ _),rfl⟩
 have e:beginS s.ts mode=(⟨s.begun+1,[],0⟩,forgetS { s.ts with begun:=s.begun+1,act:=s.ts.act++[(s.begun+1,⟨mode,s.shown,false,0,[],[],[]⟩)] }):=by
  rw [beginS,if_neg hm1,if_neg (by rw [hta,htk];exact hm2)];rfl
 rw [e]
 obtain ⟨n1,n2,n3,n4⟩:=hs.ne
 repeat' (first|(with_reducible first|(apply St.o;constructor)<;>intro _|refine ai ?_|(apply Sq.o;constructor))|simp (disch:=omega) only [lE,seval,h1,h2,h3,hkl,setAll])
 all_goals try (exfalso;omega)
 obtain ⟨H1,hH1⟩:∃ H1,H1=H.set s.X (.box [.int .i64 s.last,.int .i64 s.shown,.int .i64 (s.begun+1),.sub s.K 1 0 s.kept.length,.mp s.M]):=⟨_,rfl⟩
 have hu:Upd s { s with begun:=s.begun+1 } H H1:=hH1 ▸ SR.begun_at hs
 have hlen:H1.length=H.length:=by rw [hH1];simp
 rw [<- hH1]
 have hx:=hu.at'.box
 have hm:=hu.at'.act
 simp only [SR.cells] at hx hm
 have hMl:=at_lt hm
 have hXd:∀ o,(H1.set s.M o)[s.X]?=H1[s.X]?:=fun o=>at_set _ _ _ _ (by omega)
 have hM3:∀ a b c,(H1++[a]++[b]++[c])[s.M]?=H1[s.M]?:=fun a b c=>by
  rw [at_app _ _ _ (by simp;omega),at_app _ _ _ (by simp;omega),at_app _ _ _ hMl]
 obtain ⟨mb,mc,hput,hwf⟩:=wf_put opT hs.mwf (s.begun+1) (⟨H.length+1+1,0,0,0,[],0,[],0,default⟩:TR)
 rw [setM_new _ fun p hp=>by have:=(hs.top p hp).2;omega] at hput hwf
 have hput2:putK (D.int .i64) (kM s.act) (vM opT s.act) s.mb s.mc (.int .i64 (s.begun+1)) (.op (H.length+1+1) 0)=some (.map (kM s.act++[.int .i64 (s.begun+1)]) (vM opT s.act++[.op (H.length+1+1) 0]) mb mc):=by
  have e:putK (D.int .i64) (kM s.act) (vM opT s.act) s.mb s.mc (.int .i64 (s.begun+1)) (.op (H.length+1+1) 0)=_:=hput
  rw [e]
  simp [kM,vM,opT]
 simp only [List.length_append,List.length_cons,List.length_nil] at hwf
 have h99a:=begin_tail hs hk h0 mode hu hlen hwf (.inl ⟨rfl,rfl⟩)
 have h99b:=begin_tail hs hk h0 mode hu hlen hwf (.inr ⟨rfl,rfl⟩)
 refine any_i [s.M] ?_
 repeat' (first|(with_reducible first|(apply St.o;constructor)<;>intro _|refine ai ?_|(apply Sq.o;constructor))|simp (disch:=omega) only [lE,seval,hx,hm,hXd,hM3,hlen,hput2,get_last,List.mem_singleton,List.length_append,List.length_cons,List.length_nil,fillE,setAll])
 all_goals
  first
   | refine callW_i h99a ?_
   | refine callW_i h99b ?_
  rintro _ H9 ⟨rfl,s9,hu9,e9⟩
  have hb9:=hu9.at'.box
  rw [hu9.x] at hb9
  have hbg:s9.begun=s.begun+1:=congrArg TS.begun e9
  simp only [SR.cells,hbg] at hb9
  repeat' (first|(with_reducible first|(apply St.o;constructor)<;>intro _|refine ai ?_|(apply Sq.o;constructor))|simp (disch:=omega) only [lE,seval,hb9])
  exact ⟨s9,hu9,e9⟩
end Go.Proofs.Try
