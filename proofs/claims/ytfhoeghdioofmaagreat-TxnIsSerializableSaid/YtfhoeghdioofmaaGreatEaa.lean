/-
 A part of the proof.
-/
import Derived.Test.YtfhoeghdioofmaaGreatPaa
import Derived.Test.YtfhoeghdioofmaaGreatBase
import Derived.Test.YtfhoeghdioofmaaGreatAlphaK
set_option linter.unusedSimpArgs false
set_option linter.unusedVariables false
namespace Go.Proofs.Try
open Go.Al
set_option maxRecDepth 100000
def VL.av (v:VL):AV:=.agg [.int .i64 v.k,.int .i64 v.n,.str v.s]
abbrev VL.cs (v:VL):List AV:=[.int .i64 v.k,.int .i64 v.n,.str v.s]
theorem vw_vl {H:List AObj} {l:List Nat} {n:Nat} (v:VL):vw H l (n+1) v.av=v.av:=by simp [VL.av,vw_agg,vw_int,vw_str]
theorem vw_vls {H:List AObj} {l:List Nat} {n:Nat} {xs:List VL}:(xs.map VL.av).map (vw H l (n+1))=xs.map VL.av:=map_same vw_vl xs
abbrev rowV (r:List VL):AV:=.view 3 (r.map VL.av)
def WR.av (w:WR):AV:=.agg [.int .i64 w.tab,.int .i64 w.row,.bool w.dead,rowV w.vals]
abbrev WR.cs (w:WR):List AV:=[.int .i64 w.tab,.int .i64 w.row,.bool w.dead,rowV w.vals]
theorem wr_av (w:WR):w.av=.agg w.cs:=rfl
theorem ren_wr {ρ:Nat->Nat} (w:WR):ren ρ w.av=w.av:=by simp [WR.av,ren,renL]
theorem vw_wr {H:List AObj} {l:List Nat} {n:Nat} (w:WR):vw H l (n+1) w.av=w.av:=by simp [WR.av,vw_agg,vw_int,vw_bool,vw_view]
theorem pa_wr {H:List AObj} {l:List Nat} {bor:Bool} {n:Nat} (w:WR):pa H l bor (n+1) w.av=w.av:=by simp [WR.av,pa_agg,pa_int,pa_bool,pa_view]
theorem vw_wrs {H:List AObj} {l:List Nat} {n:Nat} {xs:List WR}:(xs.map WR.av).map (vw H l (n+1))=xs.map WR.av:=map_same vw_wr xs
theorem pa_wrs {H:List AObj} {l:List Nat} {bor:Bool} {n:Nat} {xs:List WR}:(xs.map WR.av).map (pa H l bor (n+1))=xs.map WR.av:=map_same pa_wr xs
theorem renL_wrs {ρ:Nat->Nat} {xs:List WR}:renL ρ (xs.map WR.av)=xs.map WR.av:=renL_map ren_wr xs
theorem IdxR_wrs {P:Program} {m:Nat} {N:FN} {xs:List WR} {n:Int} {d:Nat} {c:Kn} (h0:0<=n) (h1:n<xs.length):IdxR P m N (xs.map WR.av) n d c=rK P m N c d (.vp (xs.getD n.toNat default).cs) :=
 IdxR_map (cs:=WR.cs) (fun _=>rfl) h0 h1
set_option maxHeartbeats 16000000
section
variable {α:Type}
def getM (m:List (Int × α)) (r:Int):Option α:=(m.find? fun p=>decide (p.1=r)).map (·.2)
def setM:List (Int × α)->Int->α->List (Int × α)
 | [],r,v=>[(r,v)]
 | p::m,r,v=>if p.1=r then (r,v)::m else p::setM m r v
def delM:List (Int × α)->Int->List (Int × α)
 | [],_=>[]
 | p::m,r=>if p.1=r then m else p::delM m r
theorem getM_cons (p:Int × α) (m:List (Int × α)) (r:Int):getM (p::m) r=if p.1=r then some p.2 else getM m r:=by
 unfold getM
 rw [List.find?_cons]
 by_cases h:p.1=r <;> simp [h]
def keysM (m:List (Int × α)):List Int:=m.map (·.1)
theorem getM_none {m:List (Int × α)} {r:Int}:getM m r=none↔r ∉ keysM m:=by
 induction m with
 | nil=>simp [getM,keysM]
 | cons p m ih =>
   rw [getM_cons]
   simp only [keysM,List.map_cons,List.mem_cons] at ih ⊢
   by_cases h:p.1=r
   . simp [h]
   . have h':¬ r=p.1:=fun e=>h e.symm
     simp [h,h',ih]
theorem keysM_set (m:List (Int × α)) (r:Int) (v:α):keysM (setM m r v)=if r ∈ keysM m then keysM m else keysM m++[r]:=by
 induction m with
 | nil=>simp [setM,keysM]
 | cons p m ih =>
   rw [setM]
   by_cases hp:p.1=r
   . simp [hp,keysM]
   . have hp':¬ r=p.1:=fun e=>hp e.symm
     simp only [keysM,List.map_cons,List.mem_cons,if_neg hp,hp',false_or] at ih ⊢
     rw [ih]
     by_cases h:r ∈ m.map (fun x=>x.1) <;> simp [h]
theorem find_m {r:Int}:∀ (m:List (Int × α)) (i:Nat),
 (findK (.int .i64) (.int .i64 r) (m.map fun p=>.int .i64 p.1) i=some none/\getM m r=none/\(∀ v,setM m r v=m++[(r,v)])/\delM m r=m) \/
 (∃ j p,findK (.int .i64) (.int .i64 r) (m.map fun p=>.int .i64 p.1) i=some (some (i+j))/\m[j]?=some p/\p.1=r/\getM m r=some p.2/\(∀ v,setM m r v=m.set j (r,v))/\delM m r=m.eraseIdx j)
 | [],i=>.inl ⟨rfl,rfl,fun _=>rfl,rfl⟩
 | p::m,i=>by
   rw [List.map_cons,findK]
   by_cases hp:p.1=r
   . have hq:eqK (.int .i64) (.int .i64 r) (.int .i64 p.1)=some true:=by simp [eqK,hp]
     rw [hq]
     refine .inr ⟨0,p,rfl,rfl,hp,by rw [getM_cons,if_pos hp],fun v=>by rw [setM,if_pos hp];rfl,by rw [delM,if_pos hp];rfl⟩
   . have hq:eqK (.int .i64) (.int .i64 r) (.int .i64 p.1)=some false:=by
      have:¬ r=p.1:=fun e=>hp e.symm
      simp [eqK,this]
     rw [hq]
     rcases find_m m (i+1) with ⟨h1,h2,h3,h4⟩ | ⟨j,q,h1,h2,h3,h4,h5,h6⟩
     . exact .inl ⟨h1,by rw [getM_cons,if_neg hp,h2],fun v=>by rw [setM,if_neg hp,h3];rfl,by rw [delM,if_neg hp,h4]⟩
     . refine .inr ⟨j+1,q,?_,by simpa using h2,h3,by rw [getM_cons,if_neg hp,h4],fun v=>by rw [setM,if_neg hp,h5];rfl,by rw [delM,if_neg hp,h6];rfl⟩
       simp only
       rw [h1]
       congr 2
       omega
def kM (m:List (Int × α)):List AV:=m.map fun p=>.int .i64 p.1
def vM (f:α->AV) (m:List (Int × α)):List AV:=m.map fun p=>f p.2
theorem look_m (f:α->AV) (z:AV) (m:List (Int × α)) (r:Int):Al.look (.int .i64) z (kM m) (vM f m) (.int .i64 r)=some (match getM m r with | some v=>(f v,true) | none=>(z,false)):=by
 unfold Al.look kM vM
 rcases find_m (r:=r) m 0 with ⟨h1,h2,_⟩ | ⟨j,p,h1,h2,h3,h4,_⟩
 . simp [keyIs,keysOk,h1,h2]
 . simp [keyIs,keysOk,h1,h2,h4]
theorem map_erase {β:Type} (g:Int × α->β):∀ (m:List (Int × α)) (j:Nat),(m.eraseIdx j).map g=(m.map g).eraseIdx j
 | [],_=>rfl
 | p::m,0=>rfl
 | p::m,j+1=>by
   have:=map_erase g m j
   simp only [List.eraseIdx_cons_succ,List.map_cons,this]
end
structure WfM (n:Nat) (bs:List Nat) (c:Nat):Prop where
 len:bs.length=n
 nodup:bs.Nodup
 lt:∀ b ∈ bs,b<c
theorem WfM.snoc {n c:Nat} {bs:List Nat} (h:WfM n bs c):WfM (n+1) (bs++[c]) (c+1):=by
 refine ⟨by simp [h.len],List.nodup_append.2 ⟨h.nodup,by simp,fun a ha b hb e=>?_⟩,fun b hb=>?_⟩
 . rw [List.mem_singleton.1 hb] at e
   have:=h.lt a ha
   omega
 . rcases List.mem_append.1 hb with hb | hb
   . have:=h.lt b hb
     omega
   . rw [List.mem_singleton.1 hb];omega
theorem put_old {α:Type} (f:α->AV) {m:List (Int × α)} (bs:List Nat) (c:Nat) {r:Int} (v:α) (h:r ∈ keysM m):putK (.int .i64) (kM m) (vM f m) bs c (.int .i64 r) (f v)=some (.map (kM m) (vM f (setM m r v)) bs c):=by
 unfold putK kM vM
 rcases find_m (r:=r) m 0 with ⟨h1,h2,_⟩ | ⟨j,p,h1,h2,h3,h4,h5,_⟩
 . exact absurd h (getM_none.1 h2)
 . rw [h5,List.map_set]
   simp [keyIs,keysOk,h1]
theorem put_new {α:Type} (f:α->AV) {m:List (Int × α)} (bs:List Nat) (c:Nat) {r:Int} (v:α) (h:r ∉ keysM m):putK (.int .i64) (kM m) (vM f m) bs c (.int .i64 r) (f v)=some (.map (kM (m++[(r,v)])) (vM f (m++[(r,v)])) (bs++[c]) (c+1)):=by
 unfold putK kM vM
 rcases find_m (r:=r) m 0 with ⟨h1,h2,h3,_⟩ | ⟨j,p,h1,h2,h3,h4,h5,_⟩
 . simp [keyIs,keysOk,h1]
 . rw [getM_none.2 h] at h4
   cases h4
theorem kM_keys {α β:Type} {a:List (Int × α)} {b:List (Int × β)} (h:keysM a=keysM b):kM a=kM b:=by
 have e:∀ {γ:Type} (l:List (Int × γ)),kM l=(keysM l).map (AV.int .i64):=fun l=>by
  unfold kM keysM;rw [List.map_map];rfl
 rw [e,e,h]
theorem wf_put {α:Type} (f:α->AV) {m:List (Int × α)} {bs:List Nat} {c:Nat} (hw:WfM m.length bs c) (r:Int) (v:α):∃ (bs':List Nat) (c':Nat),putK (.int .i64) (kM m) (vM f m) bs c (.int .i64 r) (f v)=some (.map (kM (setM m r v)) (vM f (setM m r v)) bs' c')/\WfM (setM m r v).length bs' c':=by
 by_cases hr:r ∈ keysM m
 . refine ⟨bs,c,?_,?_⟩
   . rw [put_old f bs c v hr,kM_keys (a:=setM m r v) (b:=m) (by rw [keysM_set,if_pos hr])]
   . have:=congrArg List.length (keysM_set m r v)
     rw [if_pos hr] at this
     simp only [keysM,List.length_map] at this
     rw [this];exact hw
 . have e:setM m r v=m++[(r,v)]:=by
    rcases find_m (r:=r) m 0 with ⟨_,_,h3,_⟩ | ⟨j,p,_,_,_,h4,_⟩
    . exact h3 v
    . rw [getM_none.2 hr] at h4;cases h4
   refine ⟨bs++[c],c+1,?_,?_⟩
   . rw [put_new f bs c v hr,e]
   . rw [e,List.length_append];exact hw.snoc
theorem wf_del {α:Type} (f:α->AV) {m:List (Int × α)} {bs:List Nat} {c:Nat} (hw:WfM m.length bs c) (r:Int):∃ (bs':List Nat),delK (.int .i64) (kM m) (vM f m) bs c (.int .i64 r)=some (.map (kM (delM m r)) (vM f (delM m r)) bs' c)/\WfM (delM m r).length bs' c:=by
 unfold delK kM vM
 rcases find_m (r:=r) m 0 with ⟨h1,h2,_,h4⟩ | ⟨j,p,h1,h2,h3,h4,_,h6⟩
 . refine ⟨bs,?_,by rw [h4];exact hw⟩
   rw [h4]
   simp [keyIs,keysOk,h1]
 . obtain ⟨hj,_⟩:=List.getElem?_eq_some_iff.1 h2
   refine ⟨bs.eraseIdx j,?_,?_,?_,fun b hb=>hw.lt b (List.eraseIdx_subset hb)⟩
   . rw [h6]
     rw [map_erase,map_erase]
     simp [keyIs,keysOk,h1]
   . rw [h6,List.length_eraseIdx,List.length_eraseIdx,hw.len]
   . exact hw.nodup.sublist (List.eraseIdx_sublist _ _)
open Go.Proofs.Tryz
def mc71:MC:=(.seq (.ops [(none,.v (.mov 4 (.c (.raw (.pointer none))))),pI 5 0]) (.seq (.seq (.ops [pM 7 0,(none,.v (.nil 8 (.t 7))),pF 9 4 8,pL 10 9,pM 11 1,(none,.p (.look 12 false (.int .i64) (.raw (.pointer none)) (.t 10) (.t 11))),pM 6 12]) (.seq (.ops [pM 13 6,(none,.v (.eq 14 true .ptr (.t 13) (.c (.raw (.pointer none)))))]) (.cond 14 (.seq (.ops [pM 15 6,pM 4 15,pI 5 0]) .ret) .skip))) (.seq (.ops [(none,.v (.mov 4 (.c (.raw (.pointer none))))),pI 5 273]) .ret)))
theorem ok71:FnOk E 71 16 [.tmp 4,.tmp 5] mc71:=ofk func71
theorem at_lt {H:List AObj} {i:Nat} {o:AObj} (h:H[i]?=some o):i<H.length:=(List.getElem?_eq_some_iff.1 h).1
def Stay (O:Nat->Prop) (H H':List AObj):Prop:=H.length<=H'.length/\∀ i,i<H.length->¬ O i->H'[i]?=H[i]?
abbrev Ext (H H':List AObj):Prop:=Stay (fun _=>False) H H'
theorem Stay.refl (O:Nat->Prop) (H:List AObj):Stay O H H:=⟨Nat.le_refl _,fun _ _ _=>rfl⟩
theorem Stay.trans {O O':Nat->Prop} {H H1 H2:List AObj} (h:Stay O H H1) (k:Stay O' H1 H2) (hO:∀ i,i<H.length->O' i->O i):Stay O H H2 :=
 ⟨Nat.le_trans h.1 k.1,fun i hi hn=>(k.2 i (by have:=h.1;omega) (fun h'=>hn (hO i hi h'))).trans (h.2 i hi hn)⟩
theorem Stay.weak {O O':Nat->Prop} {H H':List AObj} (h:Stay O H H') (hO:∀ i,i<H.length->O i->O' i):Stay O' H H':=⟨h.1,fun i hi hn=>h.2 i hi fun h'=>hn (hO i hi h')⟩
theorem Stay.app (O:Nat->Prop) (H L:List AObj):Stay O H (H++L):=⟨by simp,fun i hi _=>List.getElem?_append_left hi⟩
theorem Stay.set {O:Nat->Prop} {H:List AObj} {a:Nat} {o:AObj} (ha:O a):Stay O H (H.set a o) :=
 ⟨by simp,fun i _ hn=>at_set _ _ _ _ fun e=>hn (e ▸ ha)⟩
theorem Stay.at {O:Nat->Prop} {H H':List AObj} {i:Nat} {o:AObj} (h:Stay O H H') (hi:H[i]?=some o) (hn:¬ O i):H'[i]?=some o:=(h.2 i (at_lt hi) hn).trans hi
theorem Ext.at {H H':List AObj} {i:Nat} {o:AObj} (h:Ext H H') (hi:H[i]?=some o):H'[i]?=some o:=Stay.at h hi id
theorem Ext.to {O:Nat->Prop} {H H':List AObj} (h:Ext H H'):Stay O H H':=Stay.weak h fun _ _ h=>h.elim
structure TR where (t l r w:Nat) (rb:List Nat) (rc:Nat) (wb:List Nat) (wc:Nat) (x:TX) deriving Inhabited
def opT (a:TR):AV:=.op a.t 0
def kp (p:Int × Int):AV:=.agg [.int .i64 p.1,.int .i64 p.2]
def TR.cells (a:TR):List AV:=[.int .i64 a.x.mode,.int .i64 a.x.snap,.bool a.x.done,.int .i64 a.x.stamp,.slc a.l 4 a.x.log.length,.mp a.r,.mp a.w]
def TR.ids (a:TR):List Nat:=[a.t,a.l,a.r,a.w]
def rowsM (x:TX):List ((Int × Int) × Bool):=x.rows.map fun p=>(p,true)
def wholeM (x:TX):List (Int × Bool):=x.whole.map fun n=>(n,true)
structure TR.At (a:TR) (H:List AObj):Prop where
 box:H[a.t]?=some (.box a.cells)
 log:H[a.l]?=some (.arr 59 4 (a.x.log.map WR.av))
 rows:H[a.r]?=some (.map ((rowsM a.x).map fun p=>kp p.1) ((rowsM a.x).map fun p=>.bool p.2) a.rb a.rc)
 whole:H[a.w]?=some (.map (kM (wholeM a.x)) (vM AV.bool (wholeM a.x)) a.wb a.wc)
 rwf:WfM a.x.rows.length a.rb a.rc
 wwf:WfM a.x.whole.length a.wb a.wc
structure SR where (X K M:Nat) (mb:List Nat) (mc:Nat) (rest:List AV) (last shown begun:Int) (kept:List TR) (act:List (Int × TR)) deriving Inhabited
def SR.all (s:SR):List TR:=s.kept++s.act.map (·.2)
def SR.ids (s:SR):List Nat:=s.X::s.K::s.M::s.all.flatMap TR.ids
def SR.cells (s:SR):List AV:=[.int .i64 s.last,.int .i64 s.shown,.int .i64 s.begun,.sub s.K 1 0 s.kept.length,.mp s.M]
def SR.ts (s:SR):TS:=⟨s.last,s.shown,s.begun,s.kept.map (·.x),s.act.map fun p=>(p.1,p.2.x)⟩
structure SR.At (s:SR) (H:List AObj):Prop where
 box:H[s.X]?=some (.box s.cells)
 kept:H[s.K]?=some (.arr 98 1 (s.kept.map opT++s.rest))
 act:H[s.M]?=some (.map (kM s.act) (vM opT s.act) s.mb s.mc)
 mwf:WfM s.act.length s.mb s.mc
 tr:∀ a ∈ s.all,a.At H
 ids:s.ids.Nodup
 asc:(s.act.map (·.1)).Pairwise (· < ·)
 top:∀ p ∈ s.act,0<p.1/\p.1<=s.begun
theorem TR.At.stay {a:TR} {O:Nat->Prop} {H H':List AObj} (h:a.At H) (k:Stay O H H') (hO:∀ i ∈ a.ids,¬ O i):a.At H' :=
 ⟨k.at h.box (hO _ (by simp [TR.ids])),k.at h.log (hO _ (by simp [TR.ids])),k.at h.rows (hO _ (by simp [TR.ids])),k.at h.whole (hO _ (by simp [TR.ids])),h.rwf,h.wwf⟩
theorem SR.mem_ids {s:SR} {a:TR} (ha:a ∈ s.all) {i:Nat} (hi:i ∈ a.ids):i ∈ s.ids:=by
 simp only [SR.ids,List.mem_cons,List.mem_flatMap]
 exact .inr (.inr (.inr ⟨a,ha,hi⟩))
theorem SR.At.stay {s:SR} {O:Nat->Prop} {H H':List AObj} (h:s.At H) (k:Stay O H H') (hO:∀ i ∈ s.ids,¬ O i):s.At H' :=
 ⟨k.at h.box (hO _ (by simp [SR.ids])),k.at h.kept (hO _ (by simp [SR.ids])),k.at h.act (hO _ (by simp [SR.ids])),h.mwf,fun a ha=>(h.tr a ha).stay k fun i hi=>hO i (SR.mem_ids ha hi),h.ids,h.asc,h.top⟩
theorem SR.At.ext {s:SR} {H H':List AObj} (h:s.At H) (k:Ext H H'):s.At H':=h.stay k fun _ _=>id
theorem TR.At.lt {a:TR} {H:List AObj} (h:a.At H):∀ i ∈ a.ids,i<H.length:=fun i hi=>by
 simp only [TR.ids,List.mem_cons,List.not_mem_nil,or_false] at hi
 rcases hi with rfl | rfl | rfl | rfl
 . exact at_lt h.box
 . exact at_lt h.log
 . exact at_lt h.rows
 . exact at_lt h.whole
theorem SR.At.lt {s:SR} {H:List AObj} (h:s.At H):∀ i ∈ s.ids,i<H.length:=fun i hi=>by
 simp only [SR.ids,List.mem_cons,List.mem_flatMap] at hi
 rcases hi with rfl | rfl | rfl | ⟨a,ha,hi⟩
 . exact at_lt h.box
 . exact at_lt h.kept
 . exact at_lt h.act
 . exact (h.tr a ha).lt i hi
theorem SR.act_mem {s:SR} {p:Int × TR} (h:p ∈ s.act):p.2 ∈ s.all:=List.mem_append_right _ (List.mem_map.2 ⟨p,h,rfl⟩)
theorem SR.kept_mem {s:SR} {a:TR} (h:a ∈ s.kept):a ∈ s.all:=List.mem_append_left _ h
theorem getM_mem {α:Type} {m:List (Int × α)} {r:Int} {v:α} (h:getM m r=some v):(r,v) ∈ m:=by
 induction m with
 | nil=>simp [getM] at h
 | cons p m ih =>
   rw [getM_cons] at h
   split at h
   . rename_i hp
     cases h
     rw [<- hp];exact List.mem_cons_self
   . exact List.mem_cons_of_mem _ (ih h)
theorem callW_i {P:Program} {m:Nat} {N:FN} {d:Option Nat} {f:FuncId} {args:List AV} {fr:List (Nat × AV)} {H:List AObj} {q:Ke} {Q':AV->List AObj->Prop} (h:ACalls P f args H Q') (hq:∀ r H',Q' r H'->rE P m N q (putO fr d r) H'):callR P m N d f args fr H q:=h.mono hq
theorem c71 {s:SR} {H:List AObj} (hs:s.At H) (tx:Int) :
 ACalls E.P 71 [.op s.X 0,.int .i64 tx] H (fun r H'=>H'=H/\r=match getM s.act tx with | some a=>.tup [.op a.t 0,.int .i64 0] | none=>.tup [.raw (.pointer none),.int .i64 273]):=by
 refine ok71.acalls0 hE hm (by simp) fun N hN=>?_
 unfold mc71 pI pM pF pL
 have h1:=hs.box
 have h2:=hs.act
 have hl:=look_m opT (.raw (.pointer none)) s.act tx
 simp only [SR.cells] at h1
 cases hg:getM s.act tx with
 | none =>
   rw [hg] at hl
   simp only [lA,seval]
   repeat' (first|(with_reducible first|(apply St.o;constructor)<;>intro _|refine ai ?_|(apply Sq.o;constructor))|simp (disch:=omega) only [lE,seval,h1,h2,hl])|some a =>
   rw [hg] at hl
   have h3:=(hs.tr _ (SR.act_mem (getM_mem hg))).box
   simp only [opT] at hl
   simp only [lA,seval]
   repeat' (first|(with_reducible first|(apply St.o;constructor)<;>intro _|refine ai ?_|(apply Sq.o;constructor))|simp (disch:=omega) only [lE,seval,h1,h2,h3,hl])
def mc127:MC:=(.seq (.ops [pY 4]) (.seq (.ops [pM 8 0,pM 9 1,pW 10 143 8 9,pM 5 10]) (.seq (.seq (.ops [pM 11 5,(none,.v (.bin 12 .eql false (.t 11) (.c (.int .i64 (-1)))))]) (.cond 12 (.seq (.ops [pM 13 0,pM 4 13]) .ret) .skip)) (.seq (.seq (.ops [pM 14 5,pA 15 14 1,pM 6 15]) (.block 0 (.loop (.seq (.seq (.ops [pM 16 6,pM 17 0,pG 18 17,pB 19 16 18]) (.cond 19 .skip (.exit 0))) (.seq (.block 1 (.seq (.ops [pM 22 0,pM 23 6,pQ 24 1 22 23,pL 25 24,pM 7 25]) (.seq (.ops [pM 26 1,pM 27 7,(none,.e (.callv (some 28) (.t 26) [.t 27])),pN 29 28]) (.cond 29 (.seq (.ops [pM 30 0,pM 31 5,pM 32 7,pQ 33 1 30 31,(none,.e (.store 1 false (.t 33) (.t 32)))]) (.ops [pM 34 5,pA 35 34 1,pM 5 35])) .skip)))) (.ops [pM 20 6,pA 21 20 1,pM 6 21])))))) (.seq (.ops [pM 36 0,pM 37 5,(none,.p (.cut 38 1 (.t 36) (.t 37) none)),(none,.e (.clr none 1 (.raw (.pointer none)) (.t 38)))]) (.seq (.ops [pM 39 0,pM 40 5,(none,.p (.pre 41 1 (.t 39) (some (.t 40)))),pM 4 41]) .ret))))))
theorem ok127:FnOk E 127 42 [.tmp 4] mc127:=ofk func127
def mc128:MC:=(.seq (.ops [pZ 3]) (.seq (.any false (.pure0 none (oM 4 0) (.pure0 none (.v (.nil 5 (.t 4))) (.pure0 none (oF 6 3 5) (.pure0 none (oL 7 6) (.pure0 none (oL 8 1) (.pure0 none (.v (.bin 9 .leq false (.t 7) (.t 8))) (.pure0 none (oM 10 9) (.pure0 (some (10,true)) (oM 11 0) (.pure0 (some (10,true)) (.v (.nil 12 (.t 11))) (.pure0 (some (10,true)) (oF 13 3 12) (.pure0 (some (10,true)) (oL 14 13) (.pure0 (some (10,true)) (.v (.bin 15 .gtr false (.t 14) (.c (.int .i64 0)))) (.pure0 (some (10,true)) (oM 16 15) (.pure0 (some (16,false)) (oM 17 0) (.pure0 (some (16,false)) (.v (.nil 18 (.t 17))) (.pure0 (some (16,false)) (oF 19 1 18) (.pure0 (some (16,false)) (oL 20 19) (.pure0 (some (16,false)) (oL 21 1) (.pure0 (some (16,false)) (.v (.bin 22 .leq false (.t 20) (.t 21))) (.pure0 (some (10,true)) (oO 23 16 22) (.pure0 none (oP 24 10 23) (.pure0 none (oM 3 24) .done))))))))))))))))))))))) .ret))
theorem ok128:FnOk E 128 25 [.tmp 3] mc128:=ofk func128
def mc143:MC:=(.seq (.ops [pI 4 0]) (.seq (.seq (.ops [pM 6 0,pG 7 6,pI 8 0]) (.block 0 (.loop (.seq (.ops [pB 9 8 7]) (.seq (.cond 9 .skip (.exit 0)) (.seq (.block 1 (.seq (.ops [pM 10 8,pM 5 10]) (.seq (.ops [pM 11 1,pM 12 0,pM 13 5,pQ 14 1 12 13,pL 15 14,(none,.e (.callv (some 16) (.t 11) [.t 15]))]) (.cond 16 (.seq (.ops [pM 17 5,pM 4 17]) .ret) .skip)))) (.ops [pA 18 8 1,pM 8 18]))))))) (.seq (.ops [(none,.v (.mov 4 (.c (.int .i64 (-1)))))]) .ret)))
theorem ok143:FnOk E 143 19 [.tmp 4] mc143:=ofk func143
def firstT (p:TR->Bool) (l:List TR):Int:=match l.findIdx? p with | some i=>i | none=>-1
theorem firstT_at {p:TR->Bool} {l:List TR} {i:Nat} (hi:i<l.length) (hn:∀ j,j<i->p (l.getD j default)=false) (hp:p (l.getD i default)=true):firstT p l=i:=by
 unfold firstT
 have e:l.findIdx? p=some i:=by
  rw [List.findIdx?_eq_some_iff_getElem]
  refine ⟨hi,by simpa [hi] using hp,fun j hj=>?_⟩
  have:=hn j hj
  simpa [show j<l.length by omega] using this
 rw [e]
theorem firstT_none {p:TR->Bool} {l:List TR} (hn:∀ j,j<l.length->p (l.getD j default)=false):firstT p l = -1:=by
 unfold firstT
 have e:l.findIdx? p=none:=by
  rw [List.findIdx?_eq_none_iff]
  intro x hx
  obtain ⟨j,hj,rfl⟩:=List.getElem_of_mem hx
  have:=hn j hj
  simpa [hj] using this
 rw [e]
theorem op_at {l:List TR} {rest:List AV} {i:Nat} (h:i<l.length):(l.map opT++rest)[i]?=some (.op (l.getD i default).t 0):=by
 rw [List.getElem?_append_left (by simpa using h)]
 simp [h,opT]
theorem c128 {a:TR} {H:List AObj} {kb:Nat} {k:Int} (ha:H[a.t]?=some (.box a.cells)) (hk:H[kb]?=some (.box [.int .i64 k])):ACalls E.P 128 [opT a,.op kb 0] H (fun r H'=>r=.bool (gone k a.x)/\H'=H):=by
 refine ok128.acalls0 hE hm (by simp [opT]) fun N hN=>?_
 unfold mc128 pZ oM oL oF oP oO
 simp only [TR.cells] at ha
 simp only [lA,seval,opT]
 repeat' (first|(with_reducible first|(apply St.o;constructor)<;>intro _|refine ai ?_|(apply Sq.o;constructor))|with_reducible refine any_i [] ?_|simp (disch:=omega) only [lE,seval,ha,hk])
 all_goals
  simp only [gone]
  simp_all
 all_goals (intros;omega)
theorem c143 {K:Nat} {l:List TR} {rest:List AV} {H:List AObj} {g:FuncId} {caps:List AV} {p:TR->Bool} (hH:H[K]?=some (.arr 98 1 (l.map opT++rest))) (hl:l.length<=1000000)
 (hp:∀ a ∈ l,ACalls E.P g (opT a::caps) H (fun r H'=>r=.bool (p a)/\H'=H)):ACalls E.P 143 [.sub K 1 0 l.length,.fn (.func g) [] caps] H (fun r H'=>r=.int .i64 (firstT p l)/\H'=H):=by
 have hmax:=maxLen_eq
 refine ok143.acalls0 hE hm (by simp) fun N hN=>?_
 unfold mc143 pI pM pG pB pQ pL pA
 simp only [lA,seval]
 repeat' (first|(with_reducible first|(apply St.o;constructor)<;>intro _|refine ai ?_|(apply Sq.o;constructor))|simp (disch:=omega) only [lE,seval,hH])
 refine loop_i (fun i:Nat=>i<=l.length/\∀ j,j<i->p (l.getD j default)=false) (fun i=>⟨[(0,.sub K 1 0 l.length),(1,.fn (.func g) [] caps),(7,.int .i64 l.length),(8,.int .i64 i)],H⟩) (fun i=>l.length - i) 0 ⟨by omega,by omega⟩ (Ent.fr (by simp [FrSub,Go.Al.get])) ?_
 rintro i ⟨hi,hn⟩
 by_cases hin:i<l.length
 . have hlt:((i:Int)<(l.length:Int)):=by omega
   have ho:=op_at (rest:=rest) hin
   have hmem:l.getD i default ∈ l:=by simp [hin]
   have hpi:=hp _ hmem
   simp only [opT] at hpi
   generalize hx:l.getD i default=a at *
   repeat' (first|(with_reducible first|(apply St.o;constructor)<;>intro _|refine ai ?_|(apply Sq.o;constructor))|simp (disch:=omega) only [lE,seval,hH,ho,hlt,epS_arr,Int.toNat_natCast,Nat.zero_add,List.length_map,decide_true])
   refine callW_i hpi ?_
   rintro _ _ ⟨rfl,rfl⟩
   repeat' (first|(with_reducible first|(apply St.o;constructor)<;>intro _|refine ai ?_|(apply Sq.o;constructor))|simp (disch:=omega) only [lE,seval,hH])
   . rename_i h
     rw [firstT_at hin hn (by rw [hx];exact h)]
   . rename_i h
     refine back_i (i+1) ⟨by omega,fun j hj=>?_⟩ (by omega) (Ent.fr (by simp [FrSub,Go.Al.get]))
     by_cases hji:j<i
     . exact hn j hji
     . obtain rfl:j=i:=by omega
       rw [hx];simpa using h
 . obtain rfl:i=l.length:=by omega
   repeat' (first|(with_reducible first|(apply St.o;constructor)<;>intro _|refine ai ?_|(apply Sq.o;constructor))|simp (disch:=omega) only [lE,seval,Int.lt_irrefl,decide_false])
   rw [firstT_none hn]
theorem stE_ops {P:Program} {m:Nat} {N:FN} {fr:List (Nat × AV)} {H:List AObj} {q:Ke} {bs:List TR} {rest:List AV} {id sz' n t:Nat} {E':TypeId} (hn:n<bs.length) :
 stE P m N (some (.arr E' sz' (bs.map opT++rest))) 1 [.op t 0] (.op t 0) id 1 n 0 fr H q=(1=sz'/\rE P m N q fr (H.set id (.arr E' sz' ((bs.map opT++rest).set n (.op t 0))))):=by
 have h:=op_at (rest:=rest) hn
 simp only [stE,h]
 simp
theorem set_ops {bs:List TR} {rest:List AV} {n:Nat} {a:TR} (hn:n<bs.length):(bs.map opT++rest).set n (.op a.t 0)=(bs.set n a).map opT++rest:=by
 rw [List.set_append_left _ _ (by simpa using hn),List.map_set]
 rfl
theorem firstT_some {p:TR->Bool} {l:List TR} (h:¬ firstT p l = -1):∃ i:Nat,firstT p l=i/\i<l.length/\(l.take i).filter (fun x=>!p x)=l.take i/\p (l.getD i default)=true:=by
 unfold firstT at h ⊢
 cases hf:l.findIdx? p with
 | none=>rw [hf] at h;exact absurd rfl h
 | some i =>
   obtain ⟨hi,hp,hn⟩:=List.findIdx?_eq_some_iff_getElem.1 hf
   refine ⟨i,rfl,hi,List.filter_eq_self.2 fun x hx=>?_,?_⟩
   . obtain ⟨j,hj,rfl⟩:=List.mem_take_iff_getElem.1 hx
     simpa using hn j (by omega)
   . rw [List.getD_eq_getElem?_getD,List.getElem?_eq_getElem hi,Option.getD_some];exact hp
theorem c127 {K:Nat} {l:List TR} {rest:List AV} {H:List AObj} {g:FuncId} {caps:List AV} {p:TR->Bool} (hH:H[K]?=some (.arr 98 1 (l.map opT++rest))) (hl:l.length<=1000000)
 (hp:∀ a ∈ l,∀ o,ACalls E.P g (opT a::caps) (H.set K o) (fun r H'=>r=.bool (p a)/\H'=H.set K o)) :
 ACalls E.P 127 [.sub K 1 0 l.length,.fn (.func g) [] caps] H (fun r H'=>r=.sub K 1 0 (l.filter fun a=>!p a).length/\∃ rest',H'=H.set K (.arr 98 1 ((l.filter fun a=>!p a).map opT++rest'))):=by
 have hmax:=maxLen_eq
 have hKl:=at_lt hH
 have hset:H.set K (.arr 98 1 (l.map opT++rest))=H:=by
  refine List.ext_getElem? fun i=>?_
  by_cases e:K=i
  . subst e;rw [at_same _ _ _ hKl,hH]
  . rw [at_set _ _ _ _ e]
 have h143:=c143 (g:=g) (caps:=caps) (p:=p) hH hl fun a ha=>by have:=hp a ha (.arr 98 1 (l.map opT++rest));rwa [hset] at this
 refine ok127.acalls0 hE hm (by simp) fun N hN=>?_
 unfold mc127 pY pM pW pA pG pB pQ pL pN
 simp only [lA,seval]
 repeat' (first|(with_reducible first|(apply St.o;constructor)<;>intro _|refine ai ?_|(apply Sq.o;constructor))|simp (disch:=omega) only [lE,seval,hH])
 refine callW_i h143 ?_
 rintro _ H ⟨rfl,rfl⟩
 repeat' (first|(with_reducible first|(apply St.o;constructor)<;>intro _|refine ai ?_|(apply Sq.o;constructor))|simp (disch:=omega) only [lE,seval,hH])
 . rename_i h
   have hno:∀ a ∈ l,p a=false:=by
    unfold firstT at h
    split at h
    . omega
    . rename_i e
      rwa [List.findIdx?_eq_none_iff] at e
   have ef:l.filter (fun a=>!p a)=l:=List.filter_eq_self.2 fun a ha=>by simp [hno a ha]
   rw [ef]
   exact ⟨rfl,rest,hset.symm⟩
 . rename_i h
   obtain ⟨i0,e,hi0,hf0,hp0⟩:=firstT_some h
   rw [e]
   clear h143
   generalize hfl:(fun x=>!p x)=np at *
   have hnp:∀ x,np x = !p x:=fun x=>by rw [<- hfl]
   have hsucc:∀ j,j<l.length->(l.take (j+1)).filter np=(l.take j).filter np++if p (l.getD j default)=true then [] else [l.getD j default]:=fun j hj=>by
    have e:l.getD j default=l[j]:=by simp [hj]
    rw [List.take_succ_eq_append_getElem hj,List.filter_append,<- e]
    congr 1
    generalize l.getD j default=u
    cases q:p u <;> simp [q,hnp]
   have hbase:(l.take (i0+1)).filter np=l.take i0:=by
    rw [hsucc i0 hi0,hf0,if_pos hp0,List.append_nil]
   refine loop_i (fun x:Nat × List TR=>i0<x.1/\x.1<=l.length/\x.2.length=l.length/\((l.take x.1).filter np).length<x.1/\x.2.take ((l.take x.1).filter np).length=(l.take x.1).filter np/\x.2.drop x.1=l.drop x.1)
    (fun x=>⟨[(0,.sub K 1 0 l.length),(1,.fn (.func g) [] caps),(5,.int .i64 ((l.take x.1).filter np).length),(6,.int .i64 x.1)],H.set K (.arr 98 1 (x.2.map opT++rest))⟩) (fun x=>l.length - x.1) (i0+1,l)
    ⟨by simp only;omega,by simp only;omega,rfl,by simp only [hbase,List.length_take];omega,?_,rfl⟩ ?_ ?_
   . simp only [hbase,List.length_take]
     rw [Nat.min_eq_left (by omega)]
   . simp only [hbase,List.length_take,hset]
     refine Ent.fr ?_
     simp only [FrSub,Go.Al.get]
     simp
     refine ⟨by omega,?_⟩
     exact wrap_i64 (by omega) (by omega)
   rintro ⟨j,b⟩ ⟨h1,h2,h3,h4,h5,h6⟩
   simp only at h1 h2 h3 h4 h5 h6 ⊢
   have hK1:∀ o,(H.set K o)[K]?=some o:=fun o=>at_same _ _ _ hKl
   by_cases hjn:j<l.length
   . have hbj:b.getD j default=l.getD j default:=by
      have:=congrArg (fun l=>l.getD 0 default) h6
      simpa using this
     have hmem:l.getD j default ∈ l:=by simp [hjn]
     have hpj:=hp _ hmem (.arr 98 1 (b.map opT++rest))
     have hst:=hsucc j hjn
     have hx1:(b.map opT++rest)[j]?=some (.op (l.getD j default).t 0):=by
      rw [<- hbj];exact op_at (by omega)
     have hlt:(((l.take j).filter np)).length<b.length:=by omega
     simp only [opT] at hpj
     have h6':b.drop (j+1)=l.drop (j+1):=by
      have:=congrArg (List.drop 1) h6
      rwa [List.drop_drop,List.drop_drop] at this
     have hjl:((j:Int)<(l.length:Int)):=by omega
     generalize hF:(l.take j).filter np=F at *
     generalize hv:l.getD j default=v at *
     repeat' (first|(with_reducible first|(apply St.o;constructor)<;>intro _|refine ai ?_|(apply Sq.o;constructor))|simp (disch:=omega) only [lE,seval,hK1,hx1,hjl,epS_arr,Int.toNat_natCast,Nat.zero_add,List.length_map,decide_true])
     refine callW_i hpj ?_
     rintro _ _ ⟨rfl,rfl⟩
     repeat' (first|(with_reducible first|(apply St.o;constructor)<;>intro _|refine ai ?_|(apply Sq.o;constructor))|simp (disch:=omega) only [lE,seval,hK1,hx1,hjl,epS_arr,stE_ops,List.set_set,Int.toNat_natCast,Nat.zero_add,List.length_map,decide_true])
     . rename_i q
       have q':¬ p v=true:=by simpa using q
       rw [if_neg q'] at hst
       have hsl:((l.take (j+1)).filter np).length=F.length+1:=by rw [hst];simp
       rw [set_ops hlt]
       refine back_i (j+1,b.set F.length v) ⟨by simp only;omega,by simp only;omega,by simp only [List.length_set];exact h3,by simp only [hsl];omega,?_,?_⟩ (by simp only;omega) (Ent.fr ?_)
       . simp only [hsl]
         rw [List.take_succ_eq_append_getElem (by simpa using hlt),List.getElem_set_self,List.take_set_of_le (Nat.le_refl _),h5,hst]
       . simp only;rw [List.drop_set_of_lt (by omega),h6']
       . simp [FrSub,Go.Al.get,hsl]
     . rename_i q
       have q':p v=true:=by simpa using q
       rw [if_pos q',List.append_nil] at hst
       refine back_i (j+1,b) ⟨by simp only;omega,by simp only;omega,h3,by simp only [hst];omega,by simp only [hst];exact h5,h6'⟩ (by simp only;omega) (Ent.fr ?_)
       simp [FrSub,Go.Al.get,hst]
   . obtain rfl:j=l.length:=by omega
     rw [List.take_length] at h4 h5 ⊢
     repeat' (first|(with_reducible first|(apply St.o;constructor)<;>intro _|refine ai ?_|(apply Sq.o;constructor))|simp (disch:=omega) only [lE,seval,hK1,Int.toNat_natCast,Int.lt_irrefl,decide_false,Nat.zero_add,List.set_set])
     have htk:(b.map opT++rest).take (l.filter np).length=(l.filter np).map opT:=by
      rw [List.take_append_of_le_length (by rw [List.length_map];omega),<- List.map_take,h5]
     exact ⟨by simp only [List.length_append,List.length_map];omega,⟨by omega,by omega⟩,_,by rw [htk,List.append_assoc]⟩
theorem min_perm {l m:List Int} (h:l.Perm m) (z:Int):l.foldl min z=m.foldl min z:=h.foldl_eq' (fun a _ b _ z=>by omega) z
end Go.Proofs.Try
