/-
 A part of the proof.
-/
import Derived.Test.YtfhoeghdioofmaaGreatEcc
import Derived.Test.YtfhoeghdioofmaaGreatAlphaS
import Derived.Test.YtfhoeghdioofmaaGreatShelf
set_option linter.unusedSimpArgs false
set_option linter.unusedVariables false
namespace Go.Proofs.Try
open Go.Proofs.Tryz
open Go.Al
set_option maxRecDepth 100000
def mc105:MC:=(.seq (.ops [pY 4]) (.seq (.ops [pM 6 0,pV 7 129 6,pM 5 7]) (.seq (.ops [pM 8 5,pM 9 1,pW 10 130 8 9]) (.seq (.ops [pM 11 5,pM 4 11]) .ret))))
theorem ok105:FnOk E 105 12 [.tmp 4] mc105:=ofk func105
def mc106:MC:=(.seq (.ops [pK 1 0,(none,.v (.mov 2 (.c (.raw .nilFunc))))]) (.seq (.ops [(none,.v (.fn 3 (.func 131) [] [.t 1])),pM 2 3]) .ret))
theorem ok106:FnOk E 106 4 [.tmp 2] mc106:=ofk func106
def mc129:MC:=(.seq (.ops [pY 2]) (.seq (.ops [pM 3 0,(none,.e (.call (some 4) 144 [.c (.raw (.slice none 0 0)),.t 3])),pM 2 4]) .ret))
theorem ok129:FnOk E 129 5 [.tmp 2] mc129:=ofk func129
set_option maxHeartbeats 16000000
theorem lt_hd (a b:WR):ltOf WR.cmp a b=decide (keyLt a.key b.key=true):=by
 rw [Bool.eq_iff_iff]
 simp only [ltOf,decide_eq_true_eq]
 exact cmp_before a b
theorem swoH:Go.Sort.SWO (ltOf WR.cmp) where
 irrefl x:=by rw [lt_hd,decide_eq_false_iff_not];exact keyLt_irr _
 trans x y z h1 h2:=by
  rw [lt_hd,decide_eq_true_eq] at *
  exact keyLt_trans h1 h2
 ntrans x y z h1 h2:=by
  rw [lt_hd,decide_eq_false_iff_not] at *
  rw [keyLt_iff] at *
  omega
theorem bodied130:Bodied E.P 130:=⟨_,Tryz.func130,by kernel_rfl,by kernel_rfl⟩
theorem c130 (l:List WR) (h:l.length<4611686018427387904):ACalls E.P 130 [.slc 0 4 l.length,.fn (.func 107) [] []] [.arr 59 4 (l.map WR.av)] (fun r H=>r=.tup []/\∃ l':List WR,l'.Perm l/\l'.Pairwise (fun a b=>¬ keyLt b.key a.key=true)/\H=[.arr 59 4 (l'.map WR.av)]):=by
 refine (bridge_sort bodied130 swoH (fun a _ b _=>c107 a b) (fun a _=>by simp [WR.av,sc,scL]) (fun a _=>⟨_,rfl⟩) h (fun p cap fv w=>AnyF.slices_SortFunc_none Tryz.sortV p cap fv w) ?_).mono ?_
 . intro α _ enc hk h1 cf' hO blk cap d w hc hH hb hs
   exact AnyQ.slices_SortFunc Tryz.sortV 4 (fun w=>Tryz.isAgg59 w) (fun w=>Tryz.sizeOf59 w) enc hk h1 cf' hO 107 #[] blk 0 cap d w (enters_of Tryz.func107 (by kernel_rfl) rfl) hc hH hb hs
 . rintro r H ⟨rfl,l',h1,h2,rfl⟩
   exact ⟨rfl,l',h1,h2.imp fun h=>by rw [lt_hd,decide_eq_false_iff_not] at h;exact h,rfl⟩
theorem c130nil:ACalls E.P 130 [.raw (.slice none 0 0),.fn (.func 107) [] []] [] (fun r H=>r=.tup []/\H=[]) :=
 ⟨bodied130,fun γ σ w vs hi hv=>by
   obtain ⟨u,_,rfl,hu,fv,_,rfl,hf,rfl⟩:=hv
   have hu:u=.slice none 0 0:=hu
   subst hu
   refine (AnyF.slices_SortFunc_none Tryz.sortV none 0 fv w).mono ?_
   rintro e w' ⟨rfl,rfl⟩
   exact ⟨_,γ,σ,.tup [],_,rfl,.refl _ _ _,hi,⟨[],rfl,rfl⟩,rfl,rfl⟩⟩
theorem renL_vH {ρ:Nat->Nat} (m:List ((Int × Int) × WR)):renL ρ (vW WR.av m)=vW WR.av m:=by
 have e:vW WR.av m=(m.map (·.2)).map WR.av:=by unfold vW;rw [List.map_map];rfl
 rw [e];exact renL_wrs
theorem c129 (m:List ((Int × Int) × WR)) (bs:List Nat) (c:Nat) (hw:WfM m.length bs c) (hc:m.length<=1048576) :
 ACalls E.P 129 [.fn (.func 131) [] [.op 1 0]] (mapB m bs c) (fun r H=>∃ l:List WR,l.Perm (m.map (·.2))/\((l=[]/\r=.raw (.slice none 0 0)/\H=mapB m bs c)\/(r=.slc 2 4 l.length/\H=mapB m bs c++[.arr 59 4 (l.map WR.av)]))):=by
 have h144:=c144 m bs c hw hc
 refine ok129.acalls hE hm (by simp) fun N hN=>?_
 unfold mc129 pY pM
 unfold mapB at *
 simp only [lA,seval]
 refine callN_i [0,1] false (by simp) (by simp) ?_
 simp only [lP,seval,pa_kW,pa_vH]
 refine ⟨_,h144,?_⟩
 rintro r H ⟨l,hp,⟨rfl,rfl,rfl⟩ | ⟨rfl,rfl⟩⟩
 . simp only [lA,lP,seval,renL_kW,renL_vH]
   refine keep_i [0,1] false rfl (by simp) rfl ⟨[],hp,.inl ⟨rfl,?_,?_⟩⟩
   . simp only [lP,seval]
   . simp only [lP,seval,pa_kW,pa_vH]
 . simp only [lA,lP,seval,renL_kW,renL_vH]
   refine keep_i [0,1,2] false (by simp) (by simp) rfl ⟨l,hp,.inr ⟨?_,?_⟩⟩
   . simp only [lP,seval]
   . simp only [lP,seval,pa_kW,pa_vH,pa_wrs,renL_wrs]
theorem c105 (m:List ((Int × Int) × WR)) (bs:List Nat) (c:Nat) (hw:WfM m.length bs c) (hc:m.length<=1048576) :
 ACalls E.P 105 [.fn (.func 131) [] [.op 1 0],.fn (.func 107) [] []] (mapB m bs c) (fun r H=>∃ l:List WR,l.Perm (m.map (·.2))/\l.Pairwise (fun a b=>¬ keyLt b.key a.key=true)/\r=.view 4 (l.map WR.av)/\H=mapB m bs c):=by
 have h129:=c129 m bs c hw hc
 have h130n:=c130nil
 refine ok105.acalls hE hm (by simp) fun N hN=>?_
 unfold mc105 pY pM pV pW
 unfold mapB at *
 simp only [lA,seval]
 refine callN_i [0,1] false (by simp) (by simp) ?_
 simp only [lP,seval,pa_kW,pa_vH]
 refine ⟨_,h129,?_⟩
 rintro r H ⟨l,hp,⟨rfl,rfl,rfl⟩ | ⟨rfl,rfl⟩⟩
 . simp only [lA,lP,seval,renL_kW,renL_vH]
   refine callN_i [] false (by simp) (by simp) ?_
   simp only [lP,seval]
   refine ⟨_,h130n,?_⟩
   rintro _ _ ⟨rfl,rfl⟩
   simp only [lA,lP,seval]
   exact keepw_i [0,1] false rfl (by simp) rfl weak_nil ⟨[],hp,.nil,rfl,by simp only [lP,seval,pa_kW,pa_vH]⟩
 . have h130:=c130 l (by rw [hp.length_eq,List.length_map];omega)
   simp only [lA,lP,seval,renL_kW,renL_vH]
   refine callN_i [2] false (by simp) (by simp) ?_
   simp only [lP,seval,pa_wrs,renL_wrs]
   refine ⟨_,h130,?_⟩
   rintro _ _ ⟨rfl,l',hp',hs,rfl⟩
   simp only [lA,lP,seval]
   refine keep_i [0,1] true (by simp) (by simp) rfl ⟨l',hp'.trans hp,hs,?_,?_⟩
   . simp only [lP,seval,renL_wrs,vw_wrs,List.length_map,hp'.length_eq]
   . simp only [lP,seval,pa_kW,pa_vH]
theorem c106 (m:List ((Int × Int) × WR)) (bs:List Nat) (c:Nat):ACalls E.P 106 [.mp 0] [.map (kW m) (vW WR.av m) bs c] (fun r H=>r=.fn (.func 131) [] [.op 1 0]/\H=mapB m bs c):=by
 refine ok106.acalls hE hm (by simp) fun N hN=>?_
 unfold mc106 pK pM mapB
 simp only [lA,seval]
 repeat' (first|(with_reducible first|(apply St.o;constructor)<;>intro _|refine ai ?_|(apply Sq.o;constructor))|simp (disch:=omega) only [lE,seval])
 all_goals exact keep_i [0,1] false (by simp) (by simp) rfl ⟨by simp only [lP,seval],by simp only [lP,seval,pa_kW,pa_vH]⟩
def mc57:MC:=(.seq (.ops [pY 2]) (.seq (.ops [(none,.e (.mkmap 6)),pM 3 6]) (.seq (.seq (.ops [pM 7 0,(none,.v (.nil 8 (.t 7))),pF 9 4 8,pL 10 9,pG 11 10,pI 12 0]) (.block 0 (.loop (.seq (.ops [pB 13 12 11]) (.seq (.cond 13 .skip (.exit 0)) (.seq (.block 1 (.seq (.ops [pQ 14 4 10 12,pR 15 4 14,(none,.e (.alloc 5 z1)),pS 4 5 15]) (.ops [pM 16 3,pF 17 0 5,pL 18 17,pF 19 1 5,pL 20 19,(none,.v (.build 21 z3 [(0,1,.t 18),(1,1,.t 20)])),pR 22 4 5,(none,.e (.mput (.wide [.int .i64,.int .i64]) (.t 16) (.t 21) (.t 22)))]))) (.ops [pA 23 12 1,pM 12 23]))))))) (.seq (.ops [pM 24 3,pV 25 106 24,(none,.e (.call (some 26) 105 [.t 25,.c (.fn (.func 107) [] [])])),pM 2 26]) .ret))))
theorem ok57:FnOk E 57 27 [.tmp 2] mc57:=ofk func57
def putM (m:List ((Int × Int) × WR)) (w:WR):List ((Int × Int) × WR):=setW m w.key w
structure SameW (m:List ((Int × Int) × WR)) (l:List WR):Prop where
 nodup:(keysW m).Nodup
 key:∀ p ∈ m,p.1=p.2.key
 asc:SrtW l
 mem:∀ y,y ∈ l↔getW m y.key=some y
theorem SameW.put {m:List ((Int × Int) × WR)} {l:List WR} (h:SameW m l) (w:WR):SameW (putM m w) (putW w l):=by
 refine ⟨keysW_set_nodup h.nodup,fun p hp=>?_,putW_srt h.asc,fun y=>?_⟩
 . rcases mem_setW2 hp with rfl | hp
   . rfl
   . exact h.key p hp
 . rw [mem_putW h.asc,putM,getW_set,h.mem]
   by_cases hk:y.key=w.key
   . rw [if_pos hk]
     constructor
     . rintro (rfl | ⟨_,hne⟩)
       . rfl
       . exact absurd hk hne
     . intro e;cases e;exact .inl rfl
   . rw [if_neg hk]
     constructor
     . rintro (rfl | ⟨hy,_⟩)
       . exact absurd rfl hk
       . exact hy
     . intro e;exact .inr ⟨e,hk⟩
def mapW (log:List WR):List ((Int × Int) × WR):=log.foldl putM []
theorem mapW_snoc (log:List WR) (w:WR):mapW (log++[w])=putM (mapW log) w:=by simp [mapW]
theorem same_mapW (log:List WR):SameW (mapW log) (lastW log):=by
 refine rev_ind (p:=fun log=>SameW (mapW log) (lastW log)) ⟨.nil,by simp [mapW],.nil,fun y=>by simp [mapW,lastW,getW]⟩ (fun log w ih=>?_) log
 rw [mapW_snoc,lastW_snoc];exact ih.put w
theorem mapW_len (log:List WR):(mapW log).length<=log.length:=by
 refine rev_ind (p:=fun log=>(mapW log).length<=log.length) (by simp [mapW]) (fun log w ih=>?_) log
 have:=congrArg List.length (keysW_set (mapW log) w.key w)
 have hk:∀ m:List ((Int × Int) × WR),(keysW m).length=m.length:=fun m=>by simp [keysW]
 rw [mapW_snoc,putM,<- hk,this,List.length_append,List.length_singleton]
 rw [<- hk] at ih
 by_cases q:w.key ∈ keysW (mapW log)
 . rw [if_pos q];omega
 . rw [if_neg q];simp;omega
theorem fit_mapW {log:List WR} (h:∀ w ∈ log,fitP w.key):∀ p ∈ mapW log,fitP p.1:=by
 revert h
 refine rev_ind (p:=fun log=>(∀ w ∈ log,fitP w.key)->∀ p ∈ mapW log,fitP p.1) (by simp [mapW]) (fun log w ih h p hp=>?_) log
 rw [mapW_snoc] at hp
 rcases mem_setW2 hp with rfl | hp
 . exact h w (by simp)
 . exact ih (fun w hw=>h w (by simp [hw])) p hp
theorem SameW.sorted {m:List ((Int × Int) × WR)} {l l':List WR} (h:SameW m l) (hp:l'.Perm (m.map (·.2))) (hs:l'.Pairwise fun a b=>¬ keyLt b.key a.key=true):l'=l:=by
 have hkeys:(l'.map WR.key).Perm (keysW m):=by
  have:=hp.map WR.key
  have e:(m.map (·.2)).map WR.key=keysW m:=by
   rw [List.map_map];exact List.map_congr_left fun p hp=>(h.key p hp).symm
  rwa [e] at this
 have hnd:(l'.map WR.key).Nodup:=hkeys.nodup_iff.2 h.nodup
 have hs2:SrtW l':=by
  refine (hs.and (List.pairwise_map.1 hnd)).imp fun {a b} hab=>?_
  rcases keyLt_tri a.key b.key with q | q | q
  . exact q
  . exact absurd q hab.2
  . exact absurd q hab.1
 have hmem:∀ y,y ∈ l'↔y ∈ l:=fun y=>by
  rw [hp.mem_iff,h.mem,List.mem_map]
  constructor
  . rintro ⟨p,hp,rfl⟩
    rw [<- h.key p hp];exact mem_getW h.nodup hp
  . intro e;exact ⟨_,getW_mem e,rfl⟩
 have nd:∀ {l:List WR},SrtW l->l.Nodup:=fun h=>List.Pairwise.imp (fun {a b} h e=>by rw [e] at h;exact keyLt_irr _ h) h
 refine List.Perm.eq_of_pairwise (le:=fun a b=>keyLt a.key b.key=true) (fun a b _ _ h1 h2=>absurd (keyLt_trans h1 h2) (keyLt_irr _)) hs2 h.asc ((List.perm_ext_iff_of_nodup (nd hs2) (nd h.asc)).2 hmem)
theorem wr_at {l:List WR} {i:Nat} (h:i<l.length):(l.map WR.av)[i]?=some (l.getD i default).av:=by
 simp [h]
theorem c57 {a:TR} {H:List AObj} (ha:a.At H) (hc:a.x.log.length<=1000000) (hf:∀ w ∈ a.x.log,fitP w.key):ACalls E.P 57 [.op a.t 0] H (fun r H'=>r=.view 4 ((lastW a.x.log).map WR.av)/\Ext H H'):=by
 have hmax:=maxLen_eq
 refine ok57.acalls0 hE hm (by simp) fun N hN=>?_
 unfold mc57 z1 z3 pY pM pF pL pG pI pB pQ pR pS pA pV
 have h1:=ha.box
 have h2:=ha.log
 have l1:=at_lt h1
 have l2:=at_lt h2
 simp only [TR.cells] at h1
 have g1:∀ o,(H++[o])[a.t]?=some (.box [.int .i64 a.x.mode,.int .i64 a.x.snap,.bool a.x.done,.int .i64 a.x.stamp,.slc a.l 4 a.x.log.length,.mp a.r,.mp a.w]):=fun o=>by rw [at_app _ _ _ l1];exact h1
 have g2:∀ o,(H++[o])[a.l]?=some (.arr 59 4 (a.x.log.map WR.av)):=fun o=>by rw [at_app _ _ _ l2];exact h2
 simp only [lA,seval]
 repeat' (first|(with_reducible first|(apply St.o;constructor)<;>intro _|refine ai ?_|(apply Sq.o;constructor))|simp (disch:=omega) only [lE,seval,g1,g2,List.length_map])
 refine loop_i (fun p:Nat × List AObj=>p.1<=a.x.log.length/\Ext H p.2/\H.length<p.2.length/\∃ bs c,p.2[H.length]?=some (.map (kW (mapW (a.x.log.take p.1))) (vW WR.av (mapW (a.x.log.take p.1))) bs c)/\WfM (mapW (a.x.log.take p.1)).length bs c)
  (fun p=>⟨[(3,.mp H.length),(10,.slc a.l 4 a.x.log.length),(11,.int .i64 a.x.log.length),(12,.int .i64 p.1)],p.2⟩) (fun p=>a.x.log.length - p.1) (0,H++[.map [] [] [] 0])
  ⟨by simp,Stay.app _ _ _,by simp,[],0,by simp [mapW,kW,vW],⟨rfl,.nil,by simp⟩⟩ (Ent.fr (by simp [FrSub,Go.Al.get])) ?_
 rintro ⟨i,H2⟩ ⟨hi,hx,hl,bs,c,hmm,hw⟩
 simp only at hi hx hl hmm hw ⊢
 have k2:=hx.at h2
 have l3:=at_lt k2
 by_cases hil:i<a.x.log.length
 . have hlt:((i:Int)<(a.x.log.length:Int)):=by omega
   have hep:∀ {m N d c},epR E.P m N (some (.arr 59 4 (a.x.log.map WR.av))) (i:Int) a.x.log.length a.l 4 d c=rK E.P m N c d (.ep a.l 4 i 0):=epR_ne (by simp) (by omega) (by omega)
   have ho:=wr_at hil
   have hmem:=getD_mem hil
   have hst:mapW (a.x.log.take (i+1))=putM (mapW (a.x.log.take i)) (a.x.log.getD i default):=by
    have e:a.x.log.getD i default=a.x.log[i]:=by simp [hil]
    rw [List.take_succ_eq_append_getElem hil,mapW_snoc,e]
   have hfm:=fit_mapW (log:=a.x.log.take i) fun w hw=>hf w (List.mem_of_mem_take hw)
   have hfw:=hf _ hmem
   generalize a.x.log.getD i default=v at *
   obtain ⟨bs',c',hput,hw'⟩:=wfW_put WR.av hfm hw hfw v
   have k3:∀ o,(H2++[o])[H.length]?=some (.map (kW (mapW (a.x.log.take i))) (vW WR.av (mapW (a.x.log.take i))) bs c):=fun o=>by rw [at_app _ _ _ hl];exact hmm
   have hput2:putK (.wide [.int .i64,.int .i64]) (kW (mapW (a.x.log.take i))) (vW WR.av (mapW (a.x.log.take i))) bs c (.agg [.int .i64 v.tab,.int .i64 v.row]) (.agg v.cs)=_:=hput
   have hne:H.length≠H2.length:=by omega
   simp only [wr_av] at ho
   repeat' (first|(with_reducible first|(apply St.o;constructor)<;>intro _|refine ai ?_|(apply Sq.o;constructor))|simp (disch:=omega) only [lE,seval,k2,ho,k3,hep,hput2,hlt,epS_arr,get_last,set_last,fillE,setAll,Int.toNat_natCast,Nat.zero_add,List.length_map,decide_true])
   refine back_i (i+1,(H2++[AObj.box v.cs]).set H.length (.map (kW (setW (mapW (a.x.log.take i)) v.key v)) (vW WR.av (setW (mapW (a.x.log.take i)) v.key v)) bs' c')) ⟨by simp only;omega,?_,?_,bs',c',?_,?_⟩ (by simp only;omega) (Ent.fr (by simp [FrSub,Go.Al.get]))
   . exact (hx.trans (O':=fun _=>False) (Stay.app _ _ _) fun _ _ h=>h).trans (O':=fun i=>i=H.length) (Stay.set rfl) fun i hi h=>by omega
   . simp;omega
   . rw [hst];exact at_same _ _ _ (by simp;omega)
   . rw [hst];exact hw'
 . obtain rfl:i=a.x.log.length:=by omega
   rw [List.take_length] at hmm hw
   have h105:=c105 (mapW a.x.log) bs c hw (by have:=mapW_len a.x.log;omega)
   have hmp:pos [H.length] H.length 0=some 0:=by simp [pos]
   unfold mapB at h105
   repeat' (first|(with_reducible first|(apply St.o;constructor)<;>intro _|refine ai ?_|(apply Sq.o;constructor))|simp (disch:=omega) only [lE,seval,hmm,Int.lt_irrefl,decide_false])
   refine callN_i [H.length] false (by simpa using hl) (by simp) ?_
   simp only [lP,seval,hmp,hmm,pa_kW,pa_vH]
   refine ⟨_,c106 _ _ _,?_⟩
   rintro _ _ ⟨rfl,rfl⟩
   unfold mapB
   simp only [lA,lP,seval,renL_kW,renL_vH]
   obtain ⟨H3,hH3⟩:∃ H3,H3=H2.set H.length (AObj.map (kW (mapW a.x.log)) (vW WR.av (mapW a.x.log)) bs c)++[AObj.box [AV.mp H.length]]:=⟨_,rfl⟩
   have q1:H3[H.length]?=some (.map (kW (mapW a.x.log)) (vW WR.av (mapW a.x.log)) bs c):=by rw [hH3,at_app _ _ _ (by simpa using hl)];exact at_same _ _ _ hl
   have q2:H3[H2.length]?=some (.box [.mp H.length]):=by rw [hH3,show H2.length=(H2.set H.length (AObj.map (kW (mapW a.x.log)) (vW WR.av (mapW a.x.log)) bs c)).length by simp];exact get_last
   have hx3:Ext H H3:=by
    rw [hH3]
    exact (hx.trans (O':=fun i=>i=H.length) (Stay.set rfl) fun i hi h=>by omega).trans (O':=fun _=>False) (Stay.app _ _ _) fun _ _ h=>h
   have hl3:H3.length=H2.length+1:=by rw [hH3];simp
   have hm1:pos [H.length,H2.length] H.length 0=some 0:=by simp [pos]
   have hm2:pos [H.length,H2.length] H2.length 0=some 1:=by simp [pos];omega
   rw [<- hH3]
   refine callN_i [H.length,H2.length] false (by simp;omega) (by simp;omega) ?_
   simp only [lP,seval,hm1,hm2,q1,q2,pa_kW,pa_vH]
   refine ⟨_,h105,?_⟩
   rintro _ _ ⟨l,hp,hs,rfl,rfl⟩
   rw [(same_mapW a.x.log).sorted hp hs]
   simp only [lA,lP,seval,renL_kW,renL_vH,renL_wrs]
   exact ((hx3.trans (O':=fun i=>i=H.length) (Stay.set rfl) fun i hi h=>by omega).trans (O':=fun i=>i=H2.length) (Stay.set rfl) fun i hi h=>by omega)
def mc56:MC:=(.seq (.ops [pM 6 1,pG 7 6,pI 8 0]) (.block 0 (.loop (.seq (.ops [pB 9 8 7]) (.seq (.cond 9 .skip (.exit 0)) (.seq (.block 1 (.seq (.ops [pQ 10 1 6 8,pL 11 10,pM 5 11]) (.ops [pM 12 0,pM 13 5,(none,.e (.mput (.int .i64) (.t 12) (.t 13) (.c (.bool true))))]))) (.ops [pA 14 8 1,pM 8 14])))))))
theorem ok56:FnOk E 56 15 [] mc56:=ofk func56
def mc100:MC:=(.seq (.ops [pM 6 1,pG 7 6,pI 8 0]) (.block 0 (.loop (.seq (.ops [pB 9 8 7]) (.seq (.cond 9 .skip (.exit 0)) (.seq (.block 1 (.seq (.ops [pQ 10 2 6 8,pR 11 2 10,(none,.e (.alloc 5 z3)),pS 2 5 11]) (.ops [pM 12 0,pR 13 2 5,(none,.e (.mput (.wide [.int .i64,.int .i64]) (.t 12) (.t 13) (.c (.bool true))))]))) (.ops [pA 14 8 1,pM 8 14])))))))
theorem ok100:FnOk E 100 15 [] mc100:=ofk func100
theorem take_succD {α:Type} [Inhabited α] {l:List α} {i:Nat} (h:i<l.length):l.take (i+1)=l.take i++[l.getD i default]:=by
 rw [List.take_succ_eq_append_getElem h];simp [h]
theorem all_step {α:Type} [Inhabited α] {p:α->Prop} {l:List α} {i:Nat} (h:i<l.length) (ha:∀ x ∈ l.take i,p x) (hp:p (l.getD i default)):∀ x ∈ l.take (i+1),p x:=by
 rw [take_succD h]
 intro x hx
 rcases List.mem_append.1 hx with hx | hx
 . exact ha x hx
 . rw [List.mem_singleton.1 hx];exact hp
theorem pa_kM {α:Type} {H:List AObj} {l:List Nat} {bor:Bool} {n:Nat} (m:List (Int × α)):(kM m).map (pa H l bor (n+1))=kM m:=by
 unfold kM
 rw [List.map_map]
 exact List.map_congr_left fun p _=>by simp [pa_int]
theorem pa_vB {H:List AObj} {l:List Nat} {bor:Bool} {n:Nat} (m:List (Int × Bool)):(vM AV.bool m).map (pa H l bor (n+1))=vM AV.bool m:=by
 unfold vM
 rw [List.map_map]
 exact List.map_congr_left fun p _=>by simp [pa_bool]
theorem pa_vBW {H:List AObj} {l:List Nat} {bor:Bool} {n:Nat} (m:List ((Int × Int) × Bool)):(vW AV.bool m).map (pa H l bor (n+1))=vW AV.bool m:=by
 unfold vW
 rw [List.map_map]
 exact List.map_congr_left fun p _=>by simp [pa_bool]
theorem renL_kM {α:Type} {ρ:Nat->Nat} (m:List (Int × α)):renL ρ (kM m)=kM m:=by
 have e:kM m=(keysM m).map (AV.int .i64):=by unfold kM keysM;rw [List.map_map];rfl
 rw [e]
 exact renL_map (fun n=>by simp [ren]) _
theorem renL_vB {ρ:Nat->Nat} (m:List (Int × Bool)):renL ρ (vM AV.bool m)=vM AV.bool m:=by
 have e:vM AV.bool m=(m.map (·.2)).map AV.bool:=by unfold vM;rw [List.map_map];rfl
 rw [e]
 exact renL_map (fun n=>by simp [ren]) _
theorem renL_vBW {ρ:Nat->Nat} (m:List ((Int × Int) × Bool)):renL ρ (vW AV.bool m)=vW AV.bool m:=by
 have e:vW AV.bool m=(m.map (·.2)).map AV.bool:=by unfold vW;rw [List.map_map];rfl
 rw [e]
 exact renL_map (fun n=>by simp [ren]) _
theorem c56 (m:List (Int × Bool)) (bs:List Nat) (c:Nat) (hw:WfM m.length bs c) (xs:List Int):ACalls E.P 56 [.mp 0,.view 1 (xs.map (AV.int .i64))] [.map (kM m) (vM AV.bool m) bs c]
 (fun r H=>r=.tup []/\∃ bs' c',H=[.map (kM (xs.foldl (fun m n=>setM m n true) m)) (vM AV.bool (xs.foldl (fun m n=>setM m n true) m)) bs' c']/\WfM (xs.foldl (fun m n=>setM m n true) m).length bs' c'):=by
 have hmax:=maxLen_eq
 refine ok56.acalls hE hm (by simp) fun N hN=>?_
 unfold mc56 pM pG pI pB pQ pL pA
 simp only [lA,seval]
 refine LenR_i fun hl=>?_
 rw [List.length_map,hmax] at hl
 simp only [lA,seval,List.length_map]
 refine loop_i (fun p:Nat × List Nat × Nat=>p.1<=xs.length/\WfM ((xs.take p.1).foldl (fun m n=>setM m n true) m).length p.2.1 p.2.2)
  (fun p=>⟨[(0,.mp 0),(6,.view 1 (xs.map (AV.int .i64))),(7,.int .i64 xs.length),(8,.int .i64 p.1)],[.map (kM ((xs.take p.1).foldl (fun m n=>setM m n true) m)) (vM AV.bool ((xs.take p.1).foldl (fun m n=>setM m n true) m)) p.2.1 p.2.2]⟩)
  (fun p=>xs.length - p.1) (0,bs,c) ⟨by simp,by simpa using hw⟩ (Ent.fr (by simp [FrSub,Go.Al.get])) ?_
 rintro ⟨i,bs1,c1⟩ ⟨hi,hw1⟩
 simp only at hi hw1 ⊢
 by_cases hil:i<xs.length
 . have hst:=take_succD hil
   generalize hv:xs.getD i default=v at *
   have hv0:xs.getD i 0=v:=hv
   obtain ⟨bs2,c2,hput,hw2⟩:=wf_put AV.bool hw1 v true
   have hsf:(xs.take (i+1)).foldl (fun m n=>setM m n true) m=setM ((xs.take i).foldl (fun m n=>setM m n true) m) v true:=by rw [hst,List.foldl_append];rfl
   generalize (xs.take i).foldl (fun m n=>setM m n true) m=m1 at *
   repeat' (first|(with_reducible first|(apply St.o;constructor)<;>intro _|refine ai ?_|(apply Sq.o;constructor))|simp (disch:=omega) only [lE,seval,IdxR_int,hv,hv0,hput,Int.toNat_natCast,List.length_map])
   all_goals try (exfalso;omega)
   refine back_i (i+1,bs2,c2) ⟨by simp only;omega,by simp only;rw [hsf];exact hw2⟩ (by simp only;omega) ?_
   simp only [hsf]
   exact Ent.fr (by simp [FrSub,Go.Al.get])
 . obtain rfl:i=xs.length:=by omega
   rw [List.take_length] at *
   repeat' (first|(with_reducible first|(apply St.o;constructor)<;>intro _|refine ai ?_|(apply Sq.o;constructor))|simp (disch:=omega) only [lE,seval,List.length_map,Int.lt_irrefl,decide_false])
   exact keep_i [0] false rfl (by simp) rfl ⟨by simp only [lP,seval],bs1,c1,by simp only [lP,seval,pa_kM,pa_vB],hw1⟩
theorem IdxR_kps {P:Program} {m:Nat} {N:FN} {xs:List (Int × Int)} {n:Int} {d:Nat} {c:Kn} (h0:0<=n) (h1:n<xs.length):IdxR P m N (xs.map kp) n d c=rK P m N c d (.vp [.int .i64 (xs.getD n.toNat default).1,.int .i64 (xs.getD n.toNat default).2]) :=
 IdxR_map (cs:=fun r=>[.int .i64 r.1,.int .i64 r.2]) (fun _=>rfl) h0 h1
theorem c100 (m:List ((Int × Int) × Bool)) (hf:∀ p ∈ m,fitP p.1) (bs:List Nat) (c:Nat) (hw:WfM m.length bs c) (x:Int × Int) (hx:fitP x):ACalls E.P 100 [.mp 0,.view 2 [kp x]] [.map (kW m) (vW AV.bool m) bs c]
 (fun r H=>r=.tup []/\∃ bs' c',H=[.map (kW (setW m x true)) (vW AV.bool (setW m x true)) bs' c']/\WfM (setW m x true).length bs' c'):=by
 have hmax:=maxLen_eq
 obtain ⟨bs2,c2,hput,hw2⟩:=wfW_put AV.bool hf hw hx true
 have hput2:putK (.wide [.int .i64,.int .i64]) (kW m) (vW AV.bool m) bs c (.agg [.int .i64 x.1,.int .i64 x.2]) (.bool true)=_:=hput
 refine ok100.acalls hE hm (by simp) fun N hN=>?_
 unfold mc100 z3 pM pG pI pB pQ pR pS pA
 simp only [lA,seval]
 refine LenR_i fun hl=>?_
 simp only [lA,seval]
 refine loop_i (fun p:Nat=>p<=1)
  (fun p=>⟨[(0,.mp 0),(6,.view 2 [kp x]),(7,.int .i64 1),(8,.int .i64 p)],[if p=0 then .map (kW m) (vW AV.bool m) bs c else .map (kW (setW m x true)) (vW AV.bool (setW m x true)) bs2 c2]⟩)
  (fun p=>1 - p) 0 (by omega) (Ent.fr (by simp [FrSub,Go.Al.get])) ?_
 rintro i hi
 have hix:∀ {m N d c},IdxR E.P m N [kp x] 0 d c=rK E.P m N c d (.vp [.int .i64 x.1,.int .i64 x.2]):=IdxR_kps (xs:=[x]) (n:=0) (by omega) (by simp)
 by_cases hil:i=0
 . subst hil
   simp only [if_true]
   repeat' (first|(with_reducible first|(apply St.o;constructor)<;>intro _|refine ai ?_|(apply Sq.o;constructor))|simp (disch:=omega) only [lE,seval,hix,hput2,fillE,setAll,get_last,set_last])
   all_goals try (exfalso;omega)
   all_goals
    refine back_i 1 (by omega) (by omega) ?_
    simp only [if_neg (show ¬ (1:Nat)=0 by omega)]
    refine (Ent.to [0] false (by simp) (by simp) rfl ?_ ?_)
   all_goals (simp only [lP,seval,pa_kW,pa_vBW] <;> (try simp) <;> (try omega))
 . obtain rfl:i=1:=by omega
   simp only [if_neg (show ¬ (1:Nat)=0 by omega)]
   repeat' (first|(with_reducible first|(apply St.o;constructor)<;>intro _|refine ai ?_|(apply Sq.o;constructor))|simp (disch:=omega) only [lE,seval,Int.lt_irrefl,decide_false])
   all_goals exact keep_i [0] false rfl (by simp) rfl ⟨by simp only [lP,seval],bs2,c2,by simp only [lP,seval,pa_kW,pa_vBW],hw2⟩
def mc101:MC:=(.seq (.ops [pM 6 0,(none,.e (.rng 7 (.t 6)))]) (.block 0 (.loop (.seq (.ops [(none,.e (.nxt 8 (.t 7))),pX 9 0 8]) (.seq (.cond 9 .skip (.exit 0)) (.block 1 (.seq (.ops [(none,.p (.ent 10 (.t 7))),pX 11 0 10,pX 12 1 10,(none,.e (.alloc 4 z3)),pS 2 4 11,pM 5 12]) (.seq (.ops [pM 13 1,pR 14 2 4,pM 15 5,(none,.e (.callv (some 16) (.t 13) [.t 14,.t 15]))]) (.cond 16 (.ops [pM 17 0,pR 18 2 4,(none,.e (.mdel none (.wide [.int .i64,.int .i64]) (.t 17) (.t 18)))]) .skip)))))))))
theorem ok101:FnOk E 101 19 [] mc101:=ofk func101
def mc102:MC:=(.seq (.ops [pK 3 0,pZ 5]) (.seq (.ops [pF 6 0 3,pL 7 6,pL 8 2,(none,.v (.bin 9 .eql false (.t 7) (.t 8))),pM 5 9]) .ret))
theorem ok102:FnOk E 102 10 [.tmp 5] mc102:=ofk func102
theorem c102 (r:Int × Int) (v:Bool) (tab:Int):ACalls E.P 102 [kp r,.bool v,.vp [.int .i64 tab]] [] (fun q H=>q=.bool (decide (r.1=tab))/\H=[]):=by
 refine ok102.acalls hE hm (by simp) fun N hN=>?_
 unfold mc102 pK pZ pF pL pM kp
 simp only [lA,seval]
 repeat' (first|(with_reducible first|(apply St.o;constructor)<;>intro _|refine ai ?_|(apply Sq.o;constructor))|simp (disch:=omega) only [lE,seval,fillE,setAll])
 all_goals exact keep_b rfl
theorem filter_erase {α:Type} {p:α->Bool}:∀ {l:List α} {i:Nat} {x:α},l[i]?=some x->p x=false->(l.eraseIdx i).filter p=l.filter p
 | [],i,x,h,_=>by simp at h
 | y::l,0,x,h,hp=>by
   simp only [List.getElem?_cons_zero,Option.some.injEq] at h
   subst h
   rw [List.eraseIdx_cons_zero,List.filter_cons,if_neg (by simp [hp])]
 | y::l,i+1,x,h,hp=>by
   rw [List.eraseIdx_cons_succ,List.filter_cons,List.filter_cons,filter_erase (by simpa using h) hp]
theorem delK_at {m:List ((Int × Int) × Bool)} (hf:∀ p ∈ m,fitP p.1) (hn:(keysW m).Nodup) (bs:List Nat) (c:Nat) {i:Nat} {p:(Int × Int) × Bool} (h:m[i]?=some p):delK WK (kW m) (vW AV.bool m) bs c (kp p.1)=some (.map (kW (m.eraseIdx i)) (vW AV.bool (m.eraseIdx i)) (bs.eraseIdx i) c):=by
 have hr:fitP p.1:=hf p (List.mem_of_getElem? h)
 unfold delK kW vW
 rw [keyIs_p hr,keys_w hf]
 rcases find_w hr m 0 hf with ⟨h1,h2,h3,h4⟩ | ⟨j,q,h1,h2,h3,h4,h5,h6⟩
 . exact absurd (List.mem_map.2 ⟨p,List.mem_of_getElem? h,rfl⟩) (getW_none.1 h2)
 . have hij:j=i:=by
    obtain ⟨hj,ej⟩:=List.getElem?_eq_some_iff.1 h2
    obtain ⟨hi,ei⟩:=List.getElem?_eq_some_iff.1 h
    refine nodup_inj hn (i:=j) (j:=i) (hi:=by simpa [keysW] using hj) (hj:=by simpa [keysW] using hi) ?_
    simp [keysW,ej,ei,h3]
   subst hij
   rw [map_eraseW,map_eraseW]
   simp [h1]
structure DelI (tab:Int) (m:List ((Int × Int) × Bool)) (c:Nat) (m1:List ((Int × Int) × Bool)) (bs1 seen:List Nat):Prop where
 sub:m1.filter (fun p=>!decide (p.1.1=tab))=m.filter (fun p=>!decide (p.1.1=tab))
 fit:∀ p ∈ m1,fitP p.1
 nodup:(keysW m1).Nodup
 wf:WfM m1.length bs1 c
 done:∀ (i b:Nat) (p:(Int × Int) × Bool),bs1[i]?=some b->m1[i]?=some p->b ∈ seen->p.1.1≠tab
 sn:seen.Nodup
 slt:∀ b ∈ seen,b<c
theorem DelI.skip {tab:Int} {m:List ((Int × Int) × Bool)} {c:Nat} {m1:List ((Int × Int) × Bool)} {bs1 seen:List Nat} (h:DelI tab m c m1 bs1 seen) {i b:Nat} {p:(Int × Int) × Bool} (hb:bs1[i]?=some b) (hm:m1[i]?=some p) (hs:b ∉ seen) (hp:p.1.1≠tab):DelI tab m c m1 bs1 (seen++[b]):=by
 refine ⟨h.sub,h.fit,h.nodup,h.wf,fun j b' q hb' hq hs'=>?_,List.nodup_append.2 ⟨h.sn,by simp,fun a ha b' hb' e=>hs (by rw [List.mem_singleton.1 hb'] at e;exact e ▸ ha)⟩,fun b' hb'=>?_⟩
 . rcases List.mem_append.1 hs' with hs' | hs'
   . exact h.done j b' q hb' hq hs'
   . rw [List.mem_singleton.1 hs'] at hb'
     obtain ⟨h1,e1⟩:=List.getElem?_eq_some_iff.1 hb
     obtain ⟨h2,e2⟩:=List.getElem?_eq_some_iff.1 hb'
     have:i=j:=nodup_inj h.wf.nodup (hi:=h1) (hj:=h2) (e1.trans e2.symm)
     subst this
     rw [hm] at hq;cases hq;exact hp
 . rcases List.mem_append.1 hb' with hb' | hb'
   . exact h.slt b' hb'
   . rw [List.mem_singleton.1 hb'];exact h.wf.lt b (List.mem_of_getElem? hb)
theorem DelI.del {tab:Int} {m:List ((Int × Int) × Bool)} {c:Nat} {m1:List ((Int × Int) × Bool)} {bs1 seen:List Nat} (h:DelI tab m c m1 bs1 seen) {i b:Nat} {p:(Int × Int) × Bool} (hb:bs1[i]?=some b) (hm:m1[i]?=some p) (hs:b ∉ seen) (hp:p.1.1=tab):DelI tab m c (m1.eraseIdx i) (bs1.eraseIdx i) (seen++[b]):=by
 obtain ⟨h1,e1⟩:=List.getElem?_eq_some_iff.1 hb
 obtain ⟨h3,e3⟩:=List.getElem?_eq_some_iff.1 hm
 refine ⟨(filter_erase hm (by simp [hp])).trans h.sub,fun q hq=>h.fit q (List.eraseIdx_subset hq),?_,⟨?_,h.wf.nodup.sublist (List.eraseIdx_sublist _ _),fun b hb=>h.wf.lt b (List.eraseIdx_subset hb)⟩,fun j b' q hb' hq hs'=>?_,List.nodup_append.2 ⟨h.sn,by simp,fun a ha b' hb' e=>hs (by rw [List.mem_singleton.1 hb'] at e;exact e ▸ ha)⟩,fun b' hb'=>?_⟩
 . exact h.nodup.sublist ((List.eraseIdx_sublist _ _).map _)
 . rw [List.length_eraseIdx,List.length_eraseIdx,h.wf.len]
 . rw [List.getElem?_eraseIdx] at hb' hq
   rcases List.mem_append.1 hs' with hs' | hs'
   . split at hb'
     . rename_i hji
       rw [if_pos hji] at hq;exact h.done _ _ _ hb' hq hs'
     . rename_i hji
       rw [if_neg hji] at hq;exact h.done _ _ _ hb' hq hs'
   . rw [List.mem_singleton.1 hs'] at hb'
     split at hb'
     . obtain ⟨h2,e2⟩:=List.getElem?_eq_some_iff.1 hb'
       have:=nodup_inj h.wf.nodup (hi:=h1) (hj:=h2) (e1.trans e2.symm)
       omega
     . obtain ⟨h2,e2⟩:=List.getElem?_eq_some_iff.1 hb'
       have:=nodup_inj h.wf.nodup (hi:=h1) (hj:=h2) (e1.trans e2.symm)
       omega
 . rcases List.mem_append.1 hb' with hb' | hb'
   . exact h.slt b' hb'
   . rw [List.mem_singleton.1 hb'];exact h.wf.lt b (List.mem_of_getElem? hb)
theorem DelI.all {tab:Int} {m:List ((Int × Int) × Bool)} {c:Nat} {m1:List ((Int × Int) × Bool)} {bs1 seen:List Nat} (h:DelI tab m c m1 bs1 seen) (ha:∀ b ∈ bs1,b ∈ seen):m1=m.filter fun p=>!decide (p.1.1=tab):=by
 rw [<- h.sub,List.filter_eq_self.2]
 intro p hp
 obtain ⟨i,hi,rfl⟩:=List.getElem_of_mem hp
 have hib:i<bs1.length:=by rw [h.wf.len];exact hi
 have:=h.done i bs1[i] m1[i] (List.getElem?_eq_getElem hib) (List.getElem?_eq_getElem hi) (ha _ (List.getElem_mem _))
 simpa using this
theorem DelI.len {tab:Int} {m:List ((Int × Int) × Bool)} {c:Nat} {m1:List ((Int × Int) × Bool)} {bs1 seen:List Nat} (h:DelI tab m c m1 bs1 seen):seen.length<=c:=by
 have:=nodup_len (B:=List.range c) h.sn fun b hb=>List.mem_range.2 (h.slt b hb)
 rwa [List.length_range] at this
theorem c101 {H0:List AObj} {M B:Nat} (m:List ((Int × Int) × Bool)) (hf:∀ p ∈ m,fitP p.1) (hn:(keysW m).Nodup) (bs:List Nat) (c:Nat) (hw:WfM m.length bs c) (tab:Int) (hM:H0[M]?=some (.map (kW m) (vW AV.bool m) bs c)) (hB:H0[B]?=some (.box [.int .i64 tab])) :
 ACalls E.P 101 [.mp M,.fn (.func 102) [] [.op B 0]] H0
  (fun r H=>r=.tup []/\Stay (fun i=>i=M) H0 H/\∃ bs',H[M]?=some (.map (kW (m.filter fun p=>!decide (p.1.1=tab))) (vW AV.bool (m.filter fun p=>!decide (p.1.1=tab))) bs' c)/\WfM (m.filter fun p=>!decide (p.1.1=tab)).length bs' c):=by
 have hmax:=maxLen_eq
 have hne:B≠M:=fun e=>by rw [e,hM] at hB;cases hB
 refine ok101.acalls0 hE hm (by simp) fun N hN=>?_
 unfold mc101 z3 pM pX pS pR
 simp only [lA,seval]
 repeat' (first|(with_reducible first|(apply St.o;constructor)<;>intro _|refine ai ?_|(apply Sq.o;constructor))|simp (disch:=omega) only [lE,seval,hM])
 refine loop_i (fun p:(List ((Int × Int) × Bool) × List Nat × List Nat) × List AObj=>DelI tab m c p.1.1 p.1.2.1 p.1.2.2/\H0.length<p.2.length/\Stay (fun i=>i=M) H0 p.2/\p.2[M]?=some (.map (kW p.1.1) (vW AV.bool p.1.1) p.1.2.1 c)/\p.2[H0.length]?=some (.mit (some M) c p.1.2.2 c))
  (fun p=>⟨[(0,.mp M),(1,.fn (.func 102) [] [.op B 0]),(7,.itr H0.length)],p.2⟩) (fun p=>c - p.1.2.2.length) ((m,bs,[]),H0++[.mit (some M) c [] c])
  ⟨⟨rfl,hf,hn,hw,by simp,.nil,by simp⟩,by simp,Stay.app _ _ _,by simp only;rw [at_app _ _ _ (at_lt hM)];exact hM,get_last⟩ (Ent.fr (by simp [FrSub,Go.Al.get])) ?_
 rintro ⟨⟨m1,bs1,seen⟩,H⟩ ⟨hd,hlen,hst,hMM,hit⟩
 simp only at hd hlen hst hMM hit ⊢
 have hMl:=at_lt hMM
 have hM0:=at_lt hM
 have hBB:=hst.at hB hne
 repeat' (first|(with_reducible first|(apply St.o;constructor)<;>intro _|refine ai ?_|(apply Sq.o;constructor))|simp (disch:=omega) only [lE,seval,hMM,hit])
 refine nxt_i hd.wf.lt (Nat.le_refl _) (fun hall=>?_) (fun i b kx vx hb hns hkx hvx=>?_)
 . simp only [lA,seval]
   repeat' (first|(with_reducible first|(apply St.o;constructor)<;>intro _|refine ai ?_|(apply Sq.o;constructor))|simp (disch:=omega) only [lE,seval])
   rw [<- hd.all hall]
   all_goals first
    | exact hst.2
    | exact ⟨bs1,hMM,hd.wf⟩
    | exact ⟨hst.2,bs1,hMM,hd.wf⟩
 . obtain ⟨hi,e0⟩:=List.getElem?_eq_some_iff.1 hb
   rw [hd.wf.len] at hi
   have hmi:m1[i]?=some (m1.getD i default):=by rw [List.getElem?_eq_getElem hi,List.getD_eq_getElem?_getD,List.getElem?_eq_getElem hi,Option.getD_some]
   have hkx2:kx=kp (m1.getD i default).1:=by
    rw [kW,List.getElem?_map,hmi] at hkx
    cases hkx;rfl
   have hvx2:vx=.bool (m1.getD i default).2:=by
    rw [vW,List.getElem?_map,hmi] at hvx
    cases hvx;rfl
   subst hkx2 hvx2
   have hdel:=delK_at hd.fit hd.nodup bs1 c hmi
   have hl:=hd.len
   generalize m1.getD i default=p at *
   have hsk:=fun q=>hd.skip hb hmi hns q
   have hdl:=fun q=>hd.del hb hmi hns q
   have hc2:seen.length<c:=by
    have h1:=fun q=>(hsk q).len
    have h2:=fun q=>(hdl q).len
    simp only [List.length_append,List.length_cons,List.length_nil] at h1 h2
    by_cases q:p.1.1=tab
    . exact h2 q
    . exact h1 q
   have h102:=c102 p.1 p.2 tab
   have hMne:M≠H0.length:=by omega
   have hBl:=at_lt hB
   obtain ⟨H2,hH2⟩:∃ H2,H2=H.set H0.length (.mit (some M) c (seen++[b]) c):=⟨_,rfl⟩
   have f1:H2[M]?=some (.map (kW m1) (vW AV.bool m1) bs1 c):=by rw [hH2,at_set _ _ _ _ (by omega)];exact hMM
   have f2:H2[H0.length]?=some (.mit (some M) c (seen++[b]) c):=by rw [hH2];exact at_same _ _ _ hlen
   have f3:H2[B]?=some (.box [.int .i64 tab]):=by rw [hH2,at_set _ _ _ _ (by omega)];exact hBB
   have hl2:H2.length=H.length:=by rw [hH2];simp
   have hst2:Stay (fun i=>i=M) H0 H2:=by
    rw [hH2]
    exact hst.trans (O':=fun i=>i=H0.length) (Stay.set rfl) fun i hi h=>by omega
   rw [<- hH2]
   clear hH2
   have f4:∀ o,(H2++[o])[M]?=some (.map (kW m1) (vW AV.bool m1) bs1 c):=fun o=>by rw [at_app _ _ _ (by omega)];exact f1
   have f5:∀ o,(H2++[o])[B]?=some (.box [.int .i64 tab]):=fun o=>by rw [at_app _ _ _ (by omega)];exact f3
   unfold kp at hkx h102 hdel
   simp only [lA,seval,f2,f1]
   refine ent_i i b rfl hb hkx hvx ?_
   simp only [lA,seval]
   repeat' (first|(with_reducible first|(apply St.o;constructor)<;>intro _|refine ai ?_|(apply Sq.o;constructor))|((with_reducible apply Sc.o true;constructor);simp only [lP,seval,f4,f5,hdel,fillE,setAll,get_last,set_last];refine ⟨_,h102,?_⟩;rintro _ _ ⟨rfl,rfl⟩;simp only [lA,lP,seval,f4,f5,hdel,fillE,setAll,get_last,set_last])|simp (disch:=omega) only [lE,seval,f4,f5,hdel,fillE,setAll,get_last,set_last])
   . rename_i q
     have q':p.1.1=tab:=by simpa using q
     refine back_i ((m1.eraseIdx i,bs1.eraseIdx i,seen++[b]),(H2++[AObj.box [AV.int IntKind.i64 p.1.1,AV.int IntKind.i64 p.1.2]]).set M (AObj.map (kW (m1.eraseIdx i)) (vW AV.bool (m1.eraseIdx i)) (bs1.eraseIdx i) c)) ⟨hdl q',?_,?_,?_,?_⟩ ?_ (Ent.fr (by simp [FrSub,Go.Al.get]))
     . simp;omega
     . exact (hst2.trans (O':=fun i=>i=M) (Stay.app _ _ _) fun _ _ h=>h).trans (O':=fun i=>i=M) (Stay.set rfl) fun _ _ h=>h
     . exact at_same _ _ _ (by simp;omega)
     . simp only;rw [at_set _ _ _ _ hMne,at_app _ _ _ (by omega)];exact f2
     . simp only [List.length_append,List.length_cons,List.length_nil];omega
   . rename_i q
     have q':¬ p.1.1=tab:=by simpa using q
     refine back_i ((m1,bs1,seen++[b]),H2++[AObj.box [AV.int IntKind.i64 p.1.1,AV.int IntKind.i64 p.1.2]]) ⟨hsk q',?_,?_,?_,?_⟩ ?_ (Ent.fr (by simp [FrSub,Go.Al.get]))
     . simp;omega
     . exact (hst2.trans (O':=fun i=>i=M) (Stay.app _ _ _) fun _ _ h=>h)
     . simp only;rw [at_app _ _ _ (by omega)];exact f1
     . simp only;rw [at_app _ _ _ (by omega)];exact f2
     . simp only [List.length_append,List.length_cons,List.length_nil];omega
end Go.Proofs.Try
