/-
 A part of the proof: see the text of the law.
-/
import Derived.Test.YtchlampphcaomaaGreatDoorPak
import Derived.Test.YtchlampphcaomaaGreatDoorEaz
set_option linter.unusedSimpArgs false
set_option linter.unusedVariables false
namespace Go.Proofs.Try
open Go.Proofs.Tryz
open Go.Al
set_option maxRecDepth 20000
set_option maxHeartbeats 4000000
theorem one_sch {tb:List TB} {w q:QY} (hs:w.subs=[q]) (hq:(q.sch tb).2=0):w.sch tb=nodeK tb w (q.sch tb).1:=by
 have e:mapE (QY.sch tb) [q]=([(q.sch tb).1],0):=by simp [mapE,hq]
 rw [sch_eq,hs,e]
 simp
theorem one_run {db:List DA} {w q:QY} (hs:w.subs=[q]) (hq:(q.run db).2=0):w.run db=lim (nodeR db w [(q.run db).1]):=by
 have e:mapE (QY.run db) [q]=([(q.run db).1],0):=by simp [mapE,hq]
 rw [run_eq,hs,e]
 simp
theorem one_mean {db:List DA} {w q:QY} (hw:w.node=true) (hs:w.subs=[q]) (hn:IntKind.i64.wrap w.count≤40) (hm:(meaning db q).2=0) (hk:(nodeK (db.map DA.t) w (schema (db.map DA.t) q).1).2=0) {R:Rws} (hR:nodeR db w [(meaning db q).1]=(R,0)) (hl:R.length≤4000):meaning db w=(R,0):=by
 obtain ⟨h1,h2,h3⟩:=meaning_ok hm
 obtain ⟨f1,f2,f3,f4⟩:=schema_ok h1
 have hf:w.formed=true:=by rw [qformed_eq,hw,hs];simp [f1]
 have hsc:(schema (db.map DA.t) w).2=0:=by
  rw [f2] at hk
  unfold schema
  rw [if_neg (by omega),if_pos hf,one_sch hs f3]
  exact hk
 have e:meaning db w=w.run db:=by
  unfold meaning
  rw [if_neg (by simp [hsc])]
 rw [e,one_run hs h3,← h2,hR]
 unfold lim
 simp;omega
theorem runsF_flat {α κ:Type} [DecidableEq κ] {key:α→κ}:∀ {n:Nat} {l:List α},l.length≤n→(runsF key n l).flatten=l
 | 0,l,h=>by
   have:l=[]:=List.eq_nil_of_length_eq_zero (by omega)
   subst this;rfl
 | n+1,[],_=>rfl
 | n+1,x::l,h=>by
   have:=(List.dropWhile_sublist (fun y=>decide (key y=key x)) (l:=l)).length_le
   simp only [List.length_cons] at h
   rw [runsF,List.flatten_cons,runsF_flat (by omega),List.cons_append,List.takeWhile_append_dropWhile]
theorem dw_lt {α κ:Type} [DecidableEq κ] {key:α→κ} {f:κ→κ→Int} (hc:IsCmp f) {x:α}:∀ {l:List α},(x::l).Pairwise (fun a b=>¬ f (key b) (key a)<0)→∀ y ∈ l.dropWhile (fun y=>decide (key y=key x)),f (key x) (key y)<0
 | [],_,y,hy=>by simp at hy
 | z::l,h,y,hy=>by
   have h1:=List.pairwise_cons.1 h
   have hz:=h1.1 z (by simp)
   have ha:=hc.anti (key x) (key z)
   by_cases e:key z=key x
   · rw [List.dropWhile_cons,if_pos (by simpa using e)] at hy
     refine dw_lt hc (List.pairwise_cons.2 ⟨fun w hw=>h1.1 w (by simp [hw]),(List.pairwise_cons.1 h1.2).2⟩) y hy
   · rw [List.dropWhile_cons,if_neg (by simpa using e)] at hy
     have hlt:f (key x) (key z)<0:=by
      by_cases h0:f (key x) (key z)=0
      · exact absurd (hc.eq _ _ h0).symm e
      · omega
     rcases List.mem_cons.1 hy with rfl | hy
     · exact hlt
     · have h2:=(List.pairwise_cons.1 h1.2).1 y hy
       have hb:=hc.anti (key z) (key y)
       exact hc.lt_trans hlt (by omega)
theorem runsF_up {α κ:Type} [DecidableEq κ] [Inhabited α] {key:α→κ} {f:κ→κ→Int} (hc:IsCmp f):∀ {n:Nat} {l:List α},l.length≤n→l.Pairwise (fun a b=>¬ f (key b) (key a)<0)→(runsF key n l).Pairwise (fun a b=>f (key (a.headD default)) (key (b.headD default))<0)
 | 0,l,h,_=>by simp [runsF]
 | n+1,[],_,_=>by simp [runsF]
 | n+1,x::l,h,hp=>by
   have:=(List.dropWhile_sublist (fun y=>decide (key y=key x)) (l:=l)).length_le
   simp only [List.length_cons] at h
   rw [runsF]
   refine List.pairwise_cons.2 ⟨fun m hm=>?_,runsF_up hc (by omega) ((List.pairwise_cons.1 hp).2.sublist (List.dropWhile_sublist _))⟩
   obtain ⟨h1,h2⟩:=runsF_mem hm
   obtain ⟨y,m',rfl⟩:=List.exists_cons_of_ne_nil h1
   exact dw_lt hc hp y (h2 y (by simp))
theorem tw_mem {α:Type} {p:α→Bool}:∀ {l:List α} {x:α},x ∈ l.takeWhile p→p x=true
 | [],x,h=>by simp at h
 | y::l,x,h=>by
   rw [List.takeWhile_cons] at h
   split at h
   · rcases List.mem_cons.1 h with rfl | h
     · assumption
     · exact tw_mem h
   · simp at h
theorem runsF_key {α κ:Type} [DecidableEq κ] [Inhabited α] {key:α→κ}:∀ {n:Nat} {l:List α} {m:List α},m ∈ runsF key n l→∀ r ∈ m,key r=key (m.headD default)
 | 0,l,m,h,r,hr=>by simp [runsF] at h
 | n+1,[],m,h,r,hr=>by simp [runsF] at h
 | n+1,x::l,m,h,r,hr=>by
   rw [runsF] at h
   rcases List.mem_cons.1 h with rfl | h
   · rw [List.headD_cons]
     rcases List.mem_cons.1 hr with rfl | hr
     · rfl
     · simpa using tw_mem hr
   · exact runsF_key h r hr
theorem VL.cmp_all {a b:VL} (ha:a.Right) (hb:b.Right):a.cmp b=a.cmp19 b:=by
 by_cases hk:a.k=b.k
 · exact VL.cmp_eq ha hb hk
 · have h:sgn a.k b.k≠0:=by unfold sgn;(repeat' split) <;> omega
   simp only [VL.cmp,VL.cmp19,orI,ne_eq,hk,h,not_false_eq_true,if_true,if_false]
theorem lexC_19:∀ {l m:List VL},(∀ v ∈ l,v.Right)→(∀ v ∈ m,v.Right)→lexC l m=lex19 l m
 | [],[],_,_=>rfl
 | [],_::_,_,_=>rfl
 | _::_,[],_,_=>rfl
 | a::l,b::m,h1,h2=>by
   rw [lexC,lex19,VL.cmp_all (h1 a (by simp)) (h2 b (by simp)),lexC_19 (fun v hv=>h1 v (by simp [hv])) (fun v hv=>h2 v (by simp [hv]))]
theorem rowsK_flat (g:List Int) (l:Rws):(rowsK g l).flatten.Perm l:=by
 unfold rowsK
 rw [runsF_flat (Nat.le_refl _)]
 exact stab_perm l
theorem rowsK_up (g:List Int) (l:Rws):(rowsK g l).Pairwise fun a b=>lexC (keyC g (a.headD default)) (keyC g (b.headD default))<0 :=
 runsF_up lexC_cmp (Nat.le_refl _) (stab_sorted (lexC_cmp.ord.comap (keyC g)).swo l)
theorem rowsK_mem {g:List Int} {l:Rws} {m:Rws} (h:m ∈ rowsK g l):m≠[]∧∀ x ∈ m,x ∈ l :=
 ⟨(runsF_mem h).1,fun x hx=>stab_mem.1 ((runsF_mem h).2 x hx)⟩
theorem rowsK_len (g:List Int) (l:Rws):(rowsK g l).length≤l.length:=by
 rw [← (rowsK_flat g l).length_eq]
 have:∀ m:List Rws,(∀ x ∈ m,x≠[])→m.length≤m.flatten.length:=by
  intro m
  induction m with
  | nil=>intro _;simp
  | cons x m ih =>
    intro h
    have:=ih fun y hy=>h y (by simp [hy])
    have hx:0<x.length:=List.length_pos_iff.2 (h x (by simp))
    simp only [List.length_cons,List.flatten_cons,List.length_append]
    omega
 exact this _ fun x hx=>(rowsK_mem hx).1
abbrev cntA:AG:=⟨1,EX.zero⟩
def grpQ (g:List Int) (ags:List AG) (q:QY):QY:=.mk 5 ⟨#[]⟩ [q] EX.zero [] g ags [] 0
def distQ (q:QY):QY:=.mk 8 ⟨#[]⟩ [q] EX.zero [] [] [] [] 0
def ordQ (o:List OD) (q:QY):QY:=.mk 6 ⟨#[]⟩ [q] EX.zero [] [] [] o 0
def limQ (n:Int) (q:QY):QY:=.mk 7 ⟨#[]⟩ [q] EX.zero [] [] [] [] n
def cntR (g:List Int) (l:Rws):Rws:=if g=[] then [[numV l.length]] else (rowsK g l).map fun m=>keyC g (m.headD default)++[numV m.length]
theorem groupE_cnt (g:List Int) (l:Rws):groupE g [cntA] l=(cntR g l,0):=by
 unfold groupE cntR
 have e:∀ m:Rws,aggsE [cntA] m=([numV m.length],0):=fun m=>by simp [aggsE,mapE,aggE,numV]
 by_cases hg:g=[]
 · rw [if_pos hg,if_pos hg,e,stab_length]
 · rw [if_neg hg,if_neg hg,mapE_ok (fun x _=>by simp [runE,e])]
   simp [runE,e]
theorem keyC_len (g:List Int) (r:List VL):(keyC g r).length=g.length:=by simp [keyC]
theorem cntR_len {g:List Int} {l:Rws} (h:l.length≤4000):(cntR g l).length≤4000:=by
 unfold cntR
 split
 · simp
 · have:=rowsK_len g l;simp;omega
theorem cntR_row {g:List Int} {l:Rws}:∀ r ∈ cntR g l,r.length=g.length+1:=by
 intro r hr
 unfold cntR at hr
 split at hr
 · rename_i h;subst h;simp at hr;simp [hr]
 · obtain ⟨m,_,rfl⟩:=List.mem_map.1 hr
   simp [keyC_len]
theorem cntR_n {g:List Int} {l:Rws}:∀ r ∈ cntR g l,0≤(r.getD g.length default).n:=by
 intro r hr
 unfold cntR at hr
 split at hr
 · rename_i h;subst h;simp at hr;subst hr;simp [numV]
 · obtain ⟨m,_,rfl⟩:=List.mem_map.1 hr
   rw [← keyC_len g (m.headD default)]
   simp [numV]
theorem cntR_sum (g:List Int) (l:Rws):((cntR g l).map fun r=>(r.getD g.length default).n).sum=l.length:=by
 unfold cntR
 split
 · rename_i h;subst h;simp [numV]
 · have e:(rowsK g l).map ((fun r:List VL=>(r.getD g.length default).n) ∘ fun m=>keyC g (m.headD default)++[numV m.length])=(rowsK g l).map fun m=>(m.length:Int):=by
    refine List.map_congr_left fun m _=>?_
    simp only [Function.comp]
    rw [List.getD_eq_getElem?_getD,List.getElem?_append_right (by rw [keyC_len];omega),keyC_len]
    simp [numV]
   rw [List.map_map,e]
   have:=(rowsK_flat g l).length_eq
   rw [← this]
   generalize rowsK g l=x
   induction x with
   | nil=>rfl
   | cons a x ih=>simp only [List.map_cons,List.sum_cons,List.flatten_cons,List.length_append,ih];omega
theorem keyC_right {g:List Int} {ks:List Int} {r:List VL} (ho:okRow ks r) (hg:∀ c ∈ g,0≤c∧c<ks.length):∀ v ∈ keyC g r,v.Right:=okRow_right (keyC_ok ho hg)
theorem cntR_up {g ks:List Int} {l:Rws} (hl:∀ r ∈ l,okRow ks r) (hg:∀ c ∈ g,0≤c∧c<ks.length):(cntR g l).Pairwise fun a b=>lex19 (a.take g.length) (b.take g.length)<0:=by
 unfold cntR
 split
 · simp
 · rw [List.pairwise_map]
   refine (rowsK_up g l).imp_of_mem fun {a b} ha hb h=>?_
   have hh:∀ m ∈ rowsK g l,∀ v ∈ keyC g (m.headD default),v.Right:=fun m hm=>by
    obtain ⟨h1,h2⟩:=rowsK_mem hm
    obtain ⟨y,m',rfl⟩:=List.exists_cons_of_ne_nil h1
    exact keyC_right (hl y (h2 y (by simp))) hg
   rw [lexC_19 (hh a ha) (hh b hb)] at h
   rw [List.take_left' (keyC_len g _),List.take_left' (keyC_len g _)]
   exact h
theorem groupE_all {g:List Int} {l:Rws} (hg:g≠[]) (hk:∀ r ∈ l,keyC g r=r):∃ R,groupE g [] l=(R,0)∧R.length≤l.length∧R.Perm (distE l):=by
 refine ⟨(rowsK g l).map fun m=>m.headD default,?_,by simpa using rowsK_len g l,?_⟩
 · unfold groupE
   have e:∀ m:Rws,aggsE [] m=([],0):=fun m=>rfl
   rw [if_neg hg,mapE_ok (fun x _=>by simp [runE,e])]
   congr 1
   refine List.map_congr_left fun m hm=>?_
   obtain ⟨h1,h2⟩:=rowsK_mem hm
   obtain ⟨y,m',rfl⟩:=List.exists_cons_of_ne_nil h1
   simp only [runE,e,List.append_nil,List.headD_cons]
   exact hk y (h2 y (by simp))
 · have hnd:∀ (l D:Rws),D.Nodup→(l.foldl addD D).Nodup:=by
    intro l
    induction l with
    | nil=>intro D h;exact h
    | cons x l ih =>
      intro D h
      refine ih _ ?_
      unfold addD
      split
      · exact h
      · exact List.nodup_append.2 ⟨h,by simp,fun a ha b hb e=>by rw [List.mem_singleton.1 hb] at e;subst e;contradiction⟩
   refine (List.perm_ext_iff_of_nodup ?_ (hnd l [] List.nodup_nil)).2 fun r=>?_
   · rw [List.Nodup,List.pairwise_map]
     refine (rowsK_up g l).imp fun {a b} h e=>?_
     rw [e,lexC_cmp.self] at h
     omega
   · have hd:=distE_mem (l:=l) (x:=r)
     rw [show (r ∈ List.foldl addD [] l)↔r ∈ l from hd,List.mem_map]
     constructor
     · rintro ⟨m,hm,rfl⟩
       obtain ⟨h1,h2⟩:=rowsK_mem hm
       obtain ⟨y,m',rfl⟩:=List.exists_cons_of_ne_nil h1
       exact h2 y (by simp)
     · intro hr
       have:r ∈ (rowsK g l).flatten:=(rowsK_flat g l).mem_iff.2 hr
       obtain ⟨m,hm,hrm⟩:=List.mem_flatten.1 this
       refine ⟨m,hm,?_⟩
       obtain ⟨h1,h2⟩:=rowsK_mem hm
       have hsame:=runsF_key hm r hrm
       obtain ⟨y,m',rfl⟩:=List.exists_cons_of_ne_nil h1
       rw [hk r hr,List.headD_cons,hk y (h2 y (by simp))] at hsame
       exact hsame.symm
theorem node_grpc (g:List Int) (q:QY):(grpQ g [cntA] q).node=true:=node_iff.2 ⟨by simp [grpQ,QY.kind],by simp [grpQ,QY.kind],by simp [grpQ,QY.bare,QY.kind,QY.tab,QY.cond,QY.cols,QY.grp,QY.aggs,QY.ord,QY.n],by simp [grpQ,QY.kind,QY.subs,subsN],by simp [grpQ,QY.aggs,AG.odd,EX.zr,eqC_self]⟩
theorem node_grpa (g:List Int) (q:QY):(grpQ g [] q).node=true:=node_iff.2 ⟨by simp [grpQ,QY.kind],by simp [grpQ,QY.kind],by simp [grpQ,QY.bare,QY.kind,QY.tab,QY.cond,QY.cols,QY.grp,QY.aggs,QY.ord,QY.n],by simp [grpQ,QY.kind,QY.subs,subsN],by simp [grpQ,QY.aggs]⟩
theorem node_dist (q:QY):(distQ q).node=true:=node_iff.2 ⟨by simp [distQ,QY.kind],by simp [distQ,QY.kind],by simp [distQ,QY.bare,QY.kind,QY.tab,QY.cond,QY.cols,QY.grp,QY.aggs,QY.ord,QY.n],by simp [distQ,QY.kind,QY.subs,subsN],by simp [distQ,QY.aggs]⟩
theorem node_ord (o:List OD) (q:QY):(ordQ o q).node=true:=node_iff.2 ⟨by simp [ordQ,QY.kind],by simp [ordQ,QY.kind],by simp [ordQ,QY.bare,QY.kind,QY.tab,QY.cond,QY.cols,QY.grp,QY.aggs,QY.ord,QY.n],by simp [ordQ,QY.kind,QY.subs,subsN],by simp [ordQ,QY.aggs]⟩
theorem node_lim (n:Int) (q:QY):(limQ n q).node=true:=node_iff.2 ⟨by simp [limQ,QY.kind],by simp [limQ,QY.kind],by simp [limQ,QY.bare,QY.kind,QY.tab,QY.cond,QY.cols,QY.grp,QY.aggs,QY.ord,QY.n],by simp [limQ,QY.kind,QY.subs,subsN],by simp [limQ,QY.aggs]⟩
theorem wrap_up {n:Nat} (h:IntKind.i64.wrap (n:Int)≤30):IntKind.i64.wrap ((n+1:Nat):Int)≤40:=by
 rw [IntKind.wrap_i64] at *
 omega
theorem distE_len (l:Rws):(distE l).length≤l.length:=by
 have:=addD_len l []
 simpa [distE] using this
section
variable {db:List DA} {q:QY} (hm:(meaning db q).2=0) (hc:IntKind.i64.wrap (q.count:Int)≤30)
include hm hc
omit hc in
theorem mean_len:(meaning db q).1.length≤4000:=by
 rw [(meaning_ok hm).2.1]
 exact run_len db q
theorem mean_cnt {g:List Int} (hg:gOk (schema (db.map DA.t) q).1 g) (hl:g.length≤31):meaning db (grpQ g [cntA] q)=(cntR g (meaning db q).1,0):=by
 have h4:=mean_len hm
 refine one_mean (node_grpc g q) rfl (by have:(grpQ g [cntA] q).count=q.count+1:=by simp [grpQ,QY.count,QY.countL];omega
                                         rw [this];exact wrap_up hc) hm ?_ ?_ (cntR_len h4)
 · have e:nodeK (db.map DA.t) (grpQ g [cntA] q) (schema (db.map DA.t) q).1=groupsK (schema (db.map DA.t) q).1 g [cntA]:=rfl
   have e2:mapE (aggK (schema (db.map DA.t) q).1) [cntA]=([1],0):=by simp [mapE,aggK]
   rw [e]
   unfold groupsK
   rw [if_neg (by simp [hg]),if_neg (by simp;omega),e2]
   simp
 · exact groupE_cnt g _
theorem mean_all {g:List Int} (hg:gOk (schema (db.map DA.t) q).1 g) (hl:g.length≤31) (hn:g≠[]) (hk:∀ r ∈ (meaning db q).1,keyC g r=r):∃ R,meaning db (grpQ g [] q)=(R,0)∧R.length≤4000∧R.Perm (distE (meaning db q).1):=by
 have h4:=mean_len hm
 obtain ⟨R,h1,h2,h3⟩:=groupE_all hn hk
 refine ⟨R,one_mean (node_grpa g q) rfl (by have:(grpQ g [] q).count=q.count+1:=by simp [grpQ,QY.count,QY.countL];omega
                                            rw [this];exact wrap_up hc) hm ?_ h1 (by omega),by omega,h3⟩
 have e:nodeK (db.map DA.t) (grpQ g [] q) (schema (db.map DA.t) q).1=groupsK (schema (db.map DA.t) q).1 g []:=rfl
 have hgl:0<g.length:=List.length_pos_iff.2 hn
 rw [e]
 unfold groupsK
 rw [if_neg (by simp [hg,hn]),if_neg (by simp;omega)]
 simp [mapE]
theorem mean_dist:meaning db (distQ q)=(distE (meaning db q).1,0):=by
 have h4:=mean_len hm
 have h5:=distE_len (meaning db q).1
 refine one_mean (node_dist q) rfl (by have:(distQ q).count=q.count+1:=by simp [distQ,QY.count,QY.countL];omega
                                       rw [this];exact wrap_up hc) hm ?_ rfl (by omega)
 have e:nodeK (db.map DA.t) (distQ q) (schema (db.map DA.t) q).1=((schema (db.map DA.t) q).1,0):=rfl
 rw [e]
theorem mean_ord {c:Int} {down:Bool} (h0:0≤c) (h1:c<(schema (db.map DA.t) q).1.length):meaning db (ordQ [⟨c,down⟩] q)=(stab (ordC [⟨c,down⟩]) (meaning db q).1,0):=by
 have h4:=mean_len hm
 refine one_mean (node_ord _ q) rfl (by have:(ordQ [⟨c,down⟩] q).count=q.count+1:=by simp [ordQ,QY.count,QY.countL];omega
                                        rw [this];exact wrap_up hc) hm ?_ rfl (by rw [stab_length];omega)
 have e:nodeK (db.map DA.t) (ordQ [⟨c,down⟩] q) (schema (db.map DA.t) q).1=if [(⟨c,down⟩:OD)].length=0∨[(⟨c,down⟩:OD)].any (fun o=>!okOrd (schema (db.map DA.t) q).1.length o)=true then ([],1) else ((schema (db.map DA.t) q).1,0):=rfl
 rw [e,if_neg (by simp [okOrd,h0,h1])]
theorem mean_lim {n:Int} (h0:0≤n):meaning db (limQ n q)=((meaning db q).1.take n.toNat,0):=by
 have h4:=mean_len hm
 refine one_mean (node_lim _ q) rfl (by have:(limQ n q).count=q.count+1:=by simp [limQ,QY.count,QY.countL];omega
                                        rw [this];exact wrap_up hc) hm ?_ rfl (by simp;omega)
 have e:nodeK (db.map DA.t) (limQ n q) (schema (db.map DA.t) q).1=if n<0 then ([],1) else ((schema (db.map DA.t) q).1,0):=rfl
 rw [e,if_neg (by omega)]
end
theorem stab_up {ks:List Int} {l:Rws} (hl:∀ r ∈ l,okRow ks r) {c:Int} {down:Bool} (h0:0≤c) (h1:c<ks.length):(stab (ordC [⟨c,down⟩]) l).Pairwise fun a b=>(down=true→0≤(a.getD c.toNat default).cmp19 (b.getD c.toNat default))∧(down=false→(a.getD c.toNat default).cmp19 (b.getD c.toNat default)≤0):=by
 refine (stab_sorted (ordC_ord _).swo l).imp_of_mem fun {a b} ha hb h=>?_
 have hr:∀ r ∈ stab (ordC [⟨c,down⟩]) l,(r.getD c.toNat default).Right:=fun r hr=>(okRow_get (hl r (stab_mem.1 hr)) (by omega)).1
 rw [← VL.cmp_all (hr a ha) (hr b hb)]
 have han:=vl_cmp.anti (a.getD c.toNat default) (b.getD c.toNat default)
 simp only [ordC] at h
 generalize (a.getD c.toNat default).cmp (b.getD c.toNat default)=u at *
 generalize (b.getD c.toNat default).cmp (a.getD c.toNat default)=v at *
 cases hd:down with
 | false =>
   rw [hd] at h
   simp only [Bool.false_eq_true,if_false] at h
   refine ⟨fun h=>absurd h (by simp),fun _=>?_⟩
   split at h <;> omega
 | true =>
   rw [hd] at h
   simp only [if_true] at h
   refine ⟨fun _=>?_,fun h=>absurd h (by simp)⟩
   split at h <;> omega
def allC (n:Nat):List Int:=(List.range n).map fun (i:Nat)=>(i:Int)
theorem allC_ok {ks:List Int}:gOk ks (allC ks.length):=by
 refine ⟨?_,fun c hc=>?_⟩
 · rw [allC,List.Nodup,List.pairwise_map]
   exact (List.nodup_range (n:=ks.length)).imp fun {a b} h e=>h (by omega)
 · obtain ⟨i,hi,rfl⟩:=List.mem_map.1 hc
   have:=List.mem_range.1 hi
   omega
theorem allC_key {ks:List Int} {r:List VL} (h:r.length=ks.length):keyC (allC ks.length) r=r:=by
 rw [← h,keyC,allC,List.map_map]
 refine List.ext_getElem (by simp) fun i h1 h2=>?_
 simp [h2]
theorem allC_len (n:Nat):(allC n).length=n:=by simp [allC]
theorem leastR_rg {n m:Int} (h0:0<m) (h1:m≤1000000):0≤leastR n m∧leastR n m<m:=by
 unfold leastR
 have h2 : -m<n.tmod m:=by have:=Int.lt_tmod_of_pos n h0;omega
 have h3:n.tmod m<m:=Int.tmod_lt_of_pos n h0
 rw [wrap_small (by omega) (by omega)]
 exact ⟨Int.tmod_nonneg _ (by omega),Int.tmod_lt_of_pos _ h0⟩
end Go.Proofs.Try
