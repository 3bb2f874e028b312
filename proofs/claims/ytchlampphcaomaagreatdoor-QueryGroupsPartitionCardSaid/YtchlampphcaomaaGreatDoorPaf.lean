/-
 A part of the proof: see the text of the law.
-/
import Derived.Test.YtchlampphcaomaaGreatDoorPae
import Derived.Test.YtchlampphcaomaaGreatDoorEay
set_option linter.unusedSimpArgs false
set_option linter.unusedVariables false
namespace Go.Proofs.Try
open Go.Proofs.Tryz
open Go.Al
set_option maxRecDepth 20000
set_option maxHeartbeats 4000000
def sT:ByteArray:=⟨#[116]⟩
def exT:TB:=⟨sT,[⟨⟨#[97]⟩,1,true⟩,⟨⟨#[98]⟩,1,true⟩],[],[]⟩
def exR:Rws:=[[numV 1,numV 5],[numV 2,VL.null],[numV 1,numV 7]]
def exD:List DA:=[⟨exT,exR⟩]
def exQ1:QY:=filtQ (twoX 6 (colX 0) (valX 1)) (scanQ sT)
def exQg:QY:=.mk 5 ⟨#[]⟩ [scanQ sT] EX.zero [] [0] [⟨1,EX.zero⟩,⟨2,colX 1⟩] [] 0
def exQo:QY:=.mk 6 ⟨#[]⟩ [scanQ sT] EX.zero [] [] [] [⟨0,true⟩] 0
def exQj:QY:=joinQ (twoX 8 (colX 0) (colX 2)) (scanQ sT) (scanQ sT)
def exQn:QY:=.mk 5 ⟨#[]⟩ [filtQ (twoX 6 (colX 0) (valX 9)) (scanQ sT)] EX.zero [] [] [⟨1,EX.zero⟩] [] 0
theorem scan_formed (t:ByteArray):(scanQ t).formed=true:=by
 rw [qformed_eq,Bool.and_eq_true,node_iff]
 simp [scanQ,QY.kind,QY.bare,QY.tab,QY.cond,QY.cols,QY.grp,QY.aggs,QY.ord,QY.n,QY.subs,subsN]
theorem filt_formed (e:EX) (q:QY):(filtQ e q).formed=q.formed:=by
 rw [qformed_eq,show (filtQ e q).node=true from node_iff.2 (by simp [filtQ,QY.kind,QY.bare,QY.tab,QY.cond,QY.cols,QY.grp,QY.aggs,QY.ord,QY.n,QY.subs,subsN])]
 simp [filtQ,QY.subs]
theorem join_formed (e:EX) (p q:QY):(joinQ e p q).formed=(p.formed && q.formed):=by
 rw [qformed_eq,show (joinQ e p q).node=true from node_iff.2 (by simp [joinQ,QY.kind,QY.bare,QY.tab,QY.cond,QY.cols,QY.grp,QY.aggs,QY.ord,QY.n,QY.subs,subsN])]
 simp [joinQ,QY.subs]
theorem exQ1_formed:exQ1.formed=true:=by rw [exQ1,filt_formed,scan_formed]
theorem exQj_formed:exQj.formed=true:=by rw [exQj,join_formed,scan_formed];rfl
theorem exQg_formed:exQg.formed=true:=by
 rw [qformed_eq,Bool.and_eq_true,node_iff]
 simp [exQg,QY.kind,QY.bare,QY.tab,QY.cond,QY.cols,QY.grp,QY.aggs,QY.ord,QY.n,QY.subs,subsN,AG.odd,scan_formed,EX.zr,EX.zero,eqC_self]
theorem exQo_formed:exQo.formed=true:=by
 rw [qformed_eq,Bool.and_eq_true,node_iff]
 simp [exQo,QY.kind,QY.bare,QY.tab,QY.cond,QY.cols,QY.grp,QY.aggs,QY.ord,QY.n,QY.subs,subsN,scan_formed]
theorem exQn_formed:exQn.formed=true:=by
 rw [qformed_eq,Bool.and_eq_true,node_iff]
 simp [exQn,QY.kind,QY.bare,QY.tab,QY.cond,QY.cols,QY.grp,QY.aggs,QY.ord,QY.n,QY.subs,subsN,AG.odd,scan_formed,filt_formed,EX.zr,EX.zero,eqC_self]
theorem schema_of {tb:List TB} {q:QY} {r:List Int × Int} (h1:q.count≤40) (h2:q.formed=true) (h3:q.sch tb=r):schema tb q=r:=by
 unfold schema
 rw [wrap_i64 (by omega) (by omega),if_neg (by omega),if_pos h2,h3]
theorem meaning_of {db:List DA} {q:QY} {r:Rws × Int} (h1:(schema (db.map DA.t) q).2=0) (h2:q.run db=r):meaning db q=r:=by
 unfold meaning;rw [if_neg (by simp [h1]),h2]
theorem ex_sch1:exQ1.sch [exT]=([1,1],0):=by kernel_rfl
theorem ex_schg:exQg.sch [exT]=([1,1,1],0):=by kernel_rfl
theorem ex_scho:exQo.sch [exT]=([1,1],0):=by kernel_rfl
theorem ex_schj:exQj.sch [exT]=([1,1,1,1],0):=by kernel_rfl
theorem ex_schn:exQn.sch [exT]=([1],0):=by kernel_rfl
theorem ex_schz:exQg.sch []=([],5):=by kernel_rfl
theorem ex_run1:exQ1.run exD=([[numV 1,numV 5],[numV 1,numV 7]],0):=by kernel_rfl
theorem ex_runj:exQj.run exD=([[numV 1,numV 5,numV 2,VL.null],[numV 1,numV 7,numV 2,VL.null]],0):=by kernel_rfl
theorem ex_scan:(scanQ sT).run exD=(exR,0):=by kernel_rfl
theorem ex_rune:(filtQ (twoX 6 (colX 0) (valX 9)) (scanQ sT)).run exD=([],0):=by kernel_rfl
theorem stab_eq {α:Type} {cf:α→α→Int} (h:Swo cf) {l:List α} {m:List (α × Nat)} (hp:m.Perm (tagged l)) (hm:Up cf m):stab cf l=m.map Prod.fst:=by
 unfold stab;rw [← srt_eq h (tagged_tags l) hp hm]
theorem keyed_swo (g:List Int):Swo (keyed g):=(lexC_cmp.ord.comap (keyC g)).swo
theorem ex_stg:stab (keyed [0]) exR=[[numV 1,numV 5],[numV 1,numV 7],[numV 2,VL.null]] :=
 stab_eq (keyed_swo [0]) (m:=[([numV 1,numV 5],0),([numV 1,numV 7],2),([numV 2,VL.null],1)]) (.cons _ (.swap _ _ _)) (by
  refine .cons ?_ (.cons ?_ (.cons ?_ .nil)) <;> simp only [List.mem_cons,List.not_mem_nil,or_false,forall_eq_or_imp,forall_eq,false_implies,implies_true] <;> (try refine ⟨?_,?_⟩) <;> (try trivial) <;> kernel_rfl)
theorem ex_sto:stab (ordC [⟨0,true⟩]) exR=[[numV 2,VL.null],[numV 1,numV 5],[numV 1,numV 7]] :=
 stab_eq (ordC_ord _).swo (m:=[([numV 2,VL.null],1),([numV 1,numV 5],0),([numV 1,numV 7],2)]) (.swap _ _ _) (by
  refine .cons ?_ (.cons ?_ (.cons ?_ .nil)) <;> simp only [List.mem_cons,List.not_mem_nil,or_false,forall_eq_or_imp,forall_eq,false_implies,implies_true] <;> (try refine ⟨?_,?_⟩) <;> (try trivial) <;> kernel_rfl)
theorem ex_stn:stab (keyed []) ([]:Rws)=[]:=stab_eq (keyed_swo []) (m:=[]) (.refl _) .nil
theorem ex_rung:exQg.run exD=([[numV 1,numV 2,numV 12],[numV 2,numV 1,VL.null]],0):=by
 rw [run_eq]
 have e:mapE (QY.run exD) exQg.subs=([exR],0):=by
  show mapE (QY.run exD) [scanQ sT]=_
  simp only [mapE,ex_scan];rfl
 rw [e,if_neg (by simp)]
 have e2:nodeR exD exQg [exR]=groupE [0] [⟨1,EX.zero⟩,⟨2,colX 1⟩] exR:=rfl
 rw [e2]
 unfold groupE rowsK
 rw [ex_stg]
 rfl
theorem ex_runo:exQo.run exD=([[numV 2,VL.null],[numV 1,numV 5],[numV 1,numV 7]],0):=by
 rw [run_eq]
 have e:mapE (QY.run exD) exQo.subs=([exR],0):=by
  show mapE (QY.run exD) [scanQ sT]=_
  simp only [mapE,ex_scan];rfl
 rw [e,if_neg (by simp)]
 have e2:nodeR exD exQo [exR]=(stab (ordC [⟨0,true⟩]) exR,0):=rfl
 rw [e2,ex_sto]
 rfl
theorem ex_runn:exQn.run exD=([[numV 0]],0):=by
 rw [run_eq]
 have e:mapE (QY.run exD) exQn.subs=([[]],0):=by
  show mapE (QY.run exD) [filtQ (twoX 6 (colX 0) (valX 9)) (scanQ sT)]=_
  simp only [mapE,ex_rune];rfl
 rw [e,if_neg (by simp)]
 have e2:nodeR exD exQn [[]]=groupE [] [⟨1,EX.zero⟩] []:=rfl
 rw [e2]
 unfold groupE
 rw [ex_stn]
 rfl
theorem exD_map:exD.map DA.t=[exT]:=rfl
theorem ex_m1:meaning exD exQ1=([[numV 1,numV 5],[numV 1,numV 7]],0):=meaning_of (by rw [exD_map,schema_of (by decide) exQ1_formed ex_sch1]) ex_run1
theorem ex_mg:meaning exD exQg=([[numV 1,numV 2,numV 12],[numV 2,numV 1,VL.null]],0):=meaning_of (by rw [exD_map,schema_of (by decide) exQg_formed ex_schg]) ex_rung
theorem ex_mo:meaning exD exQo=([[numV 2,VL.null],[numV 1,numV 5],[numV 1,numV 7]],0):=meaning_of (by rw [exD_map,schema_of (by decide) exQo_formed ex_scho]) ex_runo
theorem ex_mj:meaning exD exQj=([[numV 1,numV 5,numV 2,VL.null],[numV 1,numV 7,numV 2,VL.null]],0):=meaning_of (by rw [exD_map,schema_of (by decide) exQj_formed ex_schj]) ex_runj
theorem ex_mn:meaning exD exQn=([[numV 0]],0):=meaning_of (by rw [exD_map,schema_of (by decide) exQn_formed ex_schn]) ex_runn
theorem ex_sg:schema [exT] exQg=([1,1,1],0):=schema_of (by decide) exQg_formed ex_schg
theorem ex_sz:schema [] exQg=([],5):=schema_of (by decide) exQg_formed ex_schz
theorem num_right (n:Int) (h : -549755813888≤n∧n≤549755813887):(numV n).Right:=.inr (.inl ⟨rfl,h.1,h.2,rfl⟩)
theorem exD_ok:DbOk exD where
 right d hd:=by
  rw [exD,List.mem_singleton] at hd
  subst hd
  intro r hr
  simp only [exR,List.mem_cons,List.not_mem_nil,or_false] at hr
  rcases hr with rfl | rfl | rfl
  all_goals
   refine ⟨by decide,rfl,fun i hi=>?_⟩
   simp only [List.length_cons,List.length_nil] at hi
   have:i=0∨i=1:=by omega
   rcases this with rfl | rfl
   all_goals first
    | exact ⟨num_right _ (by omega),.inr rfl⟩
    | exact ⟨null_right,.inl rfl⟩
 rows d hd:=by rw [exD,List.mem_singleton] at hd;subst hd;decide
 cols d hd:=by rw [exD,List.mem_singleton] at hd;subst hd;decide
 len:=by decide
end Go.Proofs.Try
