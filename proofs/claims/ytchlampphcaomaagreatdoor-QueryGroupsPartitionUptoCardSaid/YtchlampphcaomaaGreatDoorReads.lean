/-
 A part of the proof: see the text of the law.
-/
import Derived.Test.YtchlampphcaomaaGreatDoorEah
import Derived.Test.YtchlampphcaomaaGreatDoorFirst
import Derived.Test.YtchlampphcaomaaGreatDoorAlphaR
import Derived.Test.YtchlampphcaomaaGreatDoorRows
set_option linter.unusedSimpArgs false
set_option linter.unusedVariables false
namespace Go.Proofs.Try
open Go.Al
open Go.ChangeShapes Go.WideShapes Go.ChangeAt Go.RowKit
open Go.Proofs.YtchlampphcaomaaGreatDoor
abbrev Rows.bk {H:Type} (d:DataW H):Nat:=Rows.uptoBulk d
theorem bulk_pos {H:Type} (d:DataW H):1≤Rows.uptoBulk d:=by
 cases d with
 | lit l=>cases l <;> simp [Rows.uptoBulk]
 | _=>simp [Rows.uptoBulk]
theorem bulk_mem {H:Type} {d:DataW H}:∀ {l:List (DataW H)},d ∈ l→Rows.uptoBulk d≤Rows.uptoBulkAll l
 | [],h=>by cases h
 | x::l,h=>by
   rcases List.mem_cons.1 h with rfl | h
   · simp only [Rows.uptoBulkAll];omega
   · have:=bulk_mem h
     simp only [Rows.uptoBulkAll];omega
theorem bulk_len {H:Type}:∀ {l:List (DataW H)},l.length≤Rows.uptoBulkAll l
 | []=>by simp [Rows.uptoBulkAll]
 | x::l=>by
   have h1:=bulk_pos x
   have h2:=bulk_len (l:=l)
   simp only [Rows.uptoBulkAll,List.length_cons];omega
theorem bulk_app {H:Type} (l r:List (DataW H)):Rows.uptoBulkAll (l++r)=Rows.uptoBulkAll l+Rows.uptoBulkAll r:=by
 induction l with
 | nil=>simp [Rows.uptoBulkAll]
 | cons x l ih=>simp only [List.cons_append,Rows.uptoBulkAll,ih];omega
theorem small_le {H:Type} {ds gs:List (DataW H)} (h:Rows.uptoSmall H (ds++gs)=true):∀ d ∈ ds,Rows.uptoBulk d≤1048576:=by
 have h:Rows.uptoBulkAll (ds++gs)≤1048576:=of_decide_eq_true h
 rw [bulk_app] at h
 intro d hd
 have:=bulk_mem hd
 omega
theorem bulk_list {H:Type} {α:Type} {d:DataW H} {l:List α} {rel:DataW H→α→Prop} (h:l.length≤maxLen∧(d=.nil∧l=[]∨∃ es sp,d=.slice es sp∧es.length=l.length∧∀ (j:Nat) y b,es[j]?=some y→l[j]?=some b→rel y b)) :
 l.length≤Rows.uptoBulk d∧∀ a ∈ l,∃ y,Rows.uptoBulk y≤Rows.uptoBulk d∧rel y a:=by
 obtain ⟨_,h | ⟨es,sp,rfl,h3,h4⟩⟩:=h
 · obtain ⟨_,rfl⟩:=h;simp
 · have:=bulk_len (l:=es)
   refine ⟨by simp only [Rows.uptoBulk];omega,fun a ha=>?_⟩
   obtain ⟨j,hj⟩:=List.getElem?_of_mem ha
   have hjl:j<l.length:=(List.getElem?_eq_some_iff.1 hj).1
   have hje:j<es.length:=by omega
   have:=bulk_mem (List.getElem_mem hje)
   exact ⟨es[j],by simp only [Rows.uptoBulk];omega,h4 j es[j] a (by simp) hj⟩
theorem rdVM_of {E:Env} (hE:E.ok) {α:Type} {c:α→List AV} {T:TypeId} {e:TypeId} (hu:E.P.underlying T=some (.slice e)) {f:α→AV} {rel:(H:Type)→DataW H→α→Prop} (h:∀ N,RdM N E T rel c) (hc:∀ a,c a=[f a]):RdVM E T rel f:=by
 intro w H enc base v d p hok ⟨n,hn⟩
 obtain ⟨_,_,_,rfl⟩:=okWide_slice hu hok
 obtain ⟨i,_,h⟩:=h (n+1)
 obtain ⟨_,_,a,h3,h4⟩:=h w H enc n _ _ (by omega) hn
 rw [hc] at h4
 obtain ⟨u,us,e,h5,_⟩:=repVs_cons.1 h4
 cases e
 exact ⟨a,h3,h5⟩
theorem rd3:Rd E 3 (fun n:Int=>(Lit.int .i64 n).wf=true) (fun n=>[.int .i64 n]):=rd_int hE ti3 rfl rfl
theorem rd4:Rd E 4 (fun _:Bool=>True) (fun b=>[.bool b]):=rd_bool hE (i:=⟨.bool,1,1,[.bool false],false,false,false⟩) rfl rfl rfl
theorem rd9:Rd E 9 (fun s:ByteArray=>s.size≤maxLen) (fun s=>[.str s]):=rd_string hE (i:=⟨.string,1,16,[.string ByteArray.empty],false,false,false⟩) rfl rfl rfl
theorem rv3:RdV E 3 (fun n:Int=>(Lit.int .i64 n).wf=true) (AV.int .i64):=.int hE (k:=.i64) (by kernel_rfl) rd3 (fun _=>rfl)
theorem rv4:RdV E 4 (fun _:Bool=>True) AV.bool:=.bool hE (by kernel_rfl) rd4 (fun _=>rfl)
theorem inI_wf {n:Int} (h:(Lit.int .i64 n).wf=true):inI n:=by
 have h1:IntKind.i64.min = -9223372036854775808:=by decide
 have h2:IntKind.i64.max=9223372036854775807:=by decide
 simp only [Lit.wf,h1,h2,Bool.and_eq_true,decide_eq_true_eq] at h
 exact h
theorem rd25:Rd E 25 (fun v:VL=>inI v.n∧v.s.size≤maxLen) VL.cs :=
 (rd_struct hE ti25 rfl (rdF_cons hE (o1:=1) rfl rfl rd3 (rdF_cons hE (o1:=2) rfl rfl rd3 (rdF_cons hE (o1:=3) rfl rfl rd9 rdF_nil)))).map
   (fun p=>(⟨p.1,p.2.1,p.2.2.1⟩:VL)) (fun _=>rfl) (fun _ h=>⟨inI_wf h.2.1,h.2.2.1⟩)
def RowFit (m:Nat) (r:List VL):Prop:=r.length≤m∧∀ v ∈ r,inI v.n
theorem ti69:E.TI 69=some ⟨.slice 25,1,24,[.slice none 0 0],false,false,false⟩:=rfl
theorem rd69 (N:Nat):RdM (N+1) E 69 (fun H d r=>RowFit (Rows.uptoBulk d) r) (fun l=>[.view 3 (l.map VL.av)]) :=
 (rdM_slice hE ti69 rfl rfl ti25 (by decide) rd25.toN (f:=VL.av) (fun a=>rfl)).map id (fun _=>rfl) (fun H d l h=>by
   obtain ⟨h1,h2⟩:=bulk_list h
   exact ⟨h1,fun v hv=>by obtain ⟨y,_,h3⟩:=h2 v hv;exact h3.1⟩)
def RowsFit (m:Nat) (l:List (List VL)):Prop:=l.length≤m∧∀ r ∈ l,RowFit m r
theorem RowFit.le {m n:Nat} {r:List VL} (h:RowFit m r) (hm:m≤n):RowFit n r:=⟨Nat.le_trans h.1 hm,h.2⟩
theorem RowsFit.le {m n:Nat} {r:List (List VL)} (h:RowsFit m r) (hm:m≤n):RowsFit n r:=⟨Nat.le_trans h.1 hm,fun x hx=>(h.2 x hx).le hm⟩
theorem rd57 (N:Nat):RdM (N+2) E 57 (fun H d r=>RowsFit (Rows.uptoBulk d) r) (fun l=>[rowsV l]) :=
 (rdM_slice hE (i:=⟨.slice 69,1,24,[.slice none 0 0],false,false,false⟩) rfl rfl rfl ti69 (by decide) (rd69 N) (f:=rowV) (fun a=>rfl)).map id (fun _=>rfl) (fun H d l h=>by
   obtain ⟨h1,h2⟩:=bulk_list h
   exact ⟨h1,fun v hv=>by obtain ⟨y,hy,h3⟩:=h2 v hv;exact h3.le hy⟩)
theorem rd29 (N:Nat):RdM (N+1) E 29 (fun H d (r:List Int)=>r.length≤Rows.uptoBulk d∧∀ n ∈ r,inI n) (fun l=>[.view 1 (l.map (AV.int .i64))]) :=
 (rdM_slice hE (i:=⟨.slice 3,1,24,[.slice none 0 0],false,false,false⟩) rfl rfl rfl ti3 (by decide) rd3.toN (f:=AV.int .i64) (fun a=>rfl)).map id (fun _=>rfl) (fun H d l h=>by
   obtain ⟨h1,h2⟩:=bulk_list h
   exact ⟨h1,fun v hv=>by obtain ⟨y,hy,h3⟩:=h2 v hv;exact inI_wf h3⟩)
theorem rm29:RdVM E 29 (fun H d (r:List Int)=>r.length≤Rows.uptoBulk d∧∀ n ∈ r,inI n) (fun l=>.view 1 (l.map (AV.int .i64))):=rdVM_of hE (e:=3) (by kernel_rfl) (fun N=>(rd29 N).le (by omega)) (fun _=>rfl)
theorem okIL_iff:∀ {l:List EX},EX.okIL l↔∀ e ∈ l,e.okI
 | []=>by simp [EX.okIL]
 | e::es=>by simp [EX.okIL,okIL_iff (l:=es)]
theorem countL_le {H:Type}:∀ {l:List EX} {es:List (DataW H)},es.length=l.length→(∀ (j:Nat) y b,es[j]?=some y→l[j]?=some b→b.okI∧b.count≤Rows.uptoBulk y)→EX.countL l≤Rows.uptoBulkAll es
 | [],_,_,_=>by simp [EX.countL]
 | b::l,[],h,_=>by simp at h
 | b::l,y::es,h,h2=>by
   have h3:=(h2 0 y b rfl rfl).2
   have h4:=countL_le (l:=l) (es:=es) (by simpa using h) (fun j y b h5 h6=>h2 (j+1) y b (by simpa using h5) (by simpa using h6))
   simp only [EX.countL,Rows.uptoBulkAll]
   omega
theorem rd26 {N:Nat} (h:RdM N E 28 (fun H d e=>EX.okI e∧e.count≤Rows.uptoBulk d) EX.cs):RdM (N+1) E 26 (fun H d l=>EX.okIL l∧EX.countL l≤Rows.uptoBulk d) (fun l=>[.view 6 (l.map EX.av)]) :=
 (rdM_slice hE (i:=⟨.slice 28,1,24,[.slice none 0 0],false,false,false⟩) rfl rfl rfl ti28 (by decide) h (f:=EX.av) (fun a=>by rw [av_fs,cs_fs];rfl)).map id (fun _=>rfl) (fun H d l h=>by
   obtain ⟨h1,h2⟩:=bulk_list h
   refine ⟨okIL_iff.2 fun e he=>by obtain ⟨y,_,h3⟩:=h2 e he;exact h3.1,?_⟩
   rcases h.2 with ⟨_,rfl⟩ | ⟨es,sp,rfl,h3,h4⟩
   · simp [EX.countL]
   · have:=countL_le h3 h4
     simp only [Rows.uptoBulk,id]
     omega)
theorem rd28:∀ N,RdM N E 28 (fun H d e=>EX.okI e∧e.count≤Rows.uptoBulk d) EX.cs
 | 0=>.zero ti28
 | N+1 =>
   (rdM_struct hE ti28 rfl (rdFM_cons hE (o1:=1) rfl rfl rd3.toN (rdFM_cons hE (o1:=2) rfl rfl rd3.toN (rdFM_cons hE (o1:=5) rfl rfl rd25.toN (rdFM_cons hE (o1:=6) rfl rfl ((rd26 (rd28 N)).le (Nat.le_succ N)) rdFM_nil))))).map
     (fun p=>EX.mk p.1 p.2.1 p.2.2.1.k p.2.2.1.n p.2.2.1.s p.2.2.2.1) (fun _=>by simp [cs_fs,EX.fs,EX.op,EX.n,EX.val,EX.args,VL.cs])
     (fun H d p h=>by
       obtain ⟨ds,rfl,d1,ds1,rfl,_,d2,ds2,rfl,_,d3,ds3,rfl,h3,d4,ds4,rfl,h4,_⟩:=h
       refine ⟨⟨h3.1,h4.1⟩,?_⟩
       have:=h4.2
       simp only [EX.count,Rows.uptoBulk,Rows.uptoBulkAll]
       omega)
theorem ti79:E.TI 79=some ⟨.struct [(0,3),(1,28)],7,80,[.int .i64 0,.int .i64 0,.int .i64 0,.int .i64 0,.int .i64 0,.string ByteArray.empty,.slice none 0 0],true,true,false⟩:=rfl
theorem rd79 (N:Nat):RdM (N+1) E 79 (fun H d a=>a.arg.okI) AG.cs :=
 (rdM_struct hE ti79 rfl (rdFM_cons hE (o1:=1) rfl rfl rd3.toN (rdFM_cons hE (o1:=7) rfl rfl (rd28 N) rdFM_nil))).map
   (fun p=>(⟨p.1,p.2.1⟩:AG)) (fun p=>by simp [cs_fs,EX.fs]) (fun H d p h=>by
     obtain ⟨ds,rfl,d1,ds1,rfl,_,d2,ds2,rfl,h2,_⟩:=h
     exact h2.1)
theorem rd30 (N:Nat):RdM (N+2) E 30 (fun H d (l:List AG)=>l.length≤Rows.uptoBulk d∧∀ a ∈ l,a.arg.okI) (fun l=>[.view 7 (l.map AG.av)]) :=
 (rdM_slice hE (i:=⟨.slice 79,1,24,[.slice none 0 0],false,false,false⟩) rfl rfl rfl ti79 (by decide) (rd79 N) (f:=AG.av) (fun a=>rfl)).map id (fun _=>rfl) (fun H d l h=>by
   obtain ⟨h1,h2⟩:=bulk_list h
   exact ⟨h1,fun v hv=>by obtain ⟨y,hy,h3⟩:=h2 v hv;exact h3⟩)
theorem ti83:E.TI 83=some ⟨.struct [(0,3),(1,4)],2,16,[.int .i64 0,.bool false],true,true,false⟩:=rfl
theorem rd83:Rd E 83 (fun _:OD=>True) OD.cs :=
 (rd_struct hE ti83 rfl (rdF_cons hE (o1:=1) rfl rfl rd3 (rdF_cons hE (o1:=2) rfl rfl rd4 rdF_nil))).map
   (fun p=>(⟨p.1,p.2.1⟩:OD)) (fun _=>rfl) (fun _ h=>trivial)
theorem rd31 (N:Nat):RdM (N+1) E 31 (fun H d (l:List OD)=>l.length≤Rows.uptoBulk d) (fun l=>[.view 2 (l.map OD.av)]) :=
 (rdM_slice hE (i:=⟨.slice 83,1,24,[.slice none 0 0],false,false,false⟩) rfl rfl rfl ti83 (by decide) rd83.toN (f:=OD.av) (fun a=>rfl)).map id (fun _=>rfl) (fun H d l h=>(bulk_list h).1)
def QFit (m:Nat) (q:QY):Prop:=(m≤1048576→q.ok)∧q.count≤m
theorem qcountL_le {H:Type}:∀ {l:List QY} {es:List (DataW H)},es.length=l.length→(∀ (j:Nat) y b,es[j]?=some y→l[j]?=some b→QFit (Rows.uptoBulk y) b)→QY.countL l≤Rows.uptoBulkAll es
 | [],_,_,_=>by simp [QY.countL]
 | b::l,[],h,_=>by simp at h
 | b::l,y::es,h,h2=>by
   have h3:=(h2 0 y b rfl rfl).2
   have h4:=qcountL_le (l:=l) (es:=es) (by simpa using h) (fun j y b h5 h6=>h2 (j+1) y b (by simpa using h5) (by simpa using h6))
   simp only [QY.countL,Rows.uptoBulkAll]
   omega
def QFitL (m:Nat) (l:List QY):Prop:=(m≤1048576→∀ q ∈ l,q.ok)∧QY.countL l≤m
theorem rd23 {N:Nat} (h:RdM N E 33 (fun H d q=>QFit (Rows.uptoBulk d) q) QY.cs):RdM (N+1) E 23 (fun H d l=>QFitL (Rows.uptoBulk d) l) (fun l=>[.view 14 (l.map QY.av)]) :=
 (rdM_slice hE (i:=⟨.slice 33,1,24,[.slice none 0 0],false,false,false⟩) rfl rfl rfl ti33 (by decide) h (f:=QY.av) (fun a=>by rw [q_av];rfl)).map id (fun _=>rfl) (fun H d l h=>by
   obtain ⟨h1,h2⟩:=bulk_list h
   refine ⟨fun hm q hq=>by obtain ⟨y,hy,h3⟩:=h2 q hq;exact h3.1 (by omega),?_⟩
   rcases h.2 with ⟨_,rfl⟩ | ⟨es,sp,rfl,h3,h4⟩
   · simp [QY.countL]
   · have:=qcountL_le h3 h4
     simp only [Rows.uptoBulk,id]
     omega)
theorem rd33:∀ N,RdM N E 33 (fun H d q=>QFit (Rows.uptoBulk d) q) QY.cs
 | 0=>.zero ti33
 | N+1 =>
   ((rdM_struct hE ti33 rfl (rdFM_cons hE (o1:=1) rfl rfl rd3.toN (rdFM_cons hE (o1:=2) rfl rfl rd9.toN (rdFM_cons hE (o1:=3) rfl rfl ((rd23 (rd33 N)).le (Nat.le_succ N)) (rdFM_cons hE (o1:=9) rfl rfl (rd28 _)
     (rdFM_cons hE (o1:=10) rfl rfl ((rd26 (rd28 N)).le (Nat.le_succ N)) (rdFM_cons hE (o1:=11) rfl rfl ((rd29 N).le (by omega)) (rdFM_cons hE (o1:=12) rfl rfl ((rd30 N).le (by omega)) (rdFM_cons hE (o1:=13) rfl rfl ((rd31 N).le (by omega)) (rdFM_cons hE (o1:=14) rfl rfl rd3.toN rdFM_nil)))))))))).map
     (fun p=>QY.mk p.1 p.2.1 p.2.2.1 p.2.2.2.1 p.2.2.2.2.1 p.2.2.2.2.2.1 p.2.2.2.2.2.2.1 p.2.2.2.2.2.2.2.1 p.2.2.2.2.2.2.2.2.1) (fun p=>by simp [QY.cs,cs_fs,EX.fs,QY.kind,QY.tab,QY.subs,QY.cond,QY.cols,QY.grp,QY.aggs,QY.ord,QY.n])
     (fun H d p h=>by
       obtain ⟨ds,rfl,d1,ds1,rfl,_,d2,ds2,rfl,_,d3,ds3,rfl,h3,d4,ds4,rfl,h4,d5,ds5,rfl,h5,d6,ds6,rfl,h6,d7,ds7,rfl,h7,d8,ds8,rfl,h8,_⟩:=h
       refine ⟨fun hm=>?_,?_⟩
       · simp only [Rows.uptoBulk,Rows.uptoBulkAll] at hm
         rw [ok_eq]
         exact ⟨h4.1,h5.1,by have:=h6.1;simp only [QY.grp];omega,by have:=h7.1;simp only [QY.aggs];omega,h7.2,h3.1 (by omega)⟩
       · have:=h3.2
         simp only [QY.count,Rows.uptoBulk,Rows.uptoBulkAll]
         omega)).le (by omega)
theorem rm33:RdVM E 33 (fun H d q=>QFit (Rows.uptoBulk d) q) QY.av:=RdVM.agg hE ti33 rfl rd33 (fun e=>by rw [q_av])
theorem ti88:E.TI 88=some ⟨.struct [(0,9),(1,3),(2,4)],3,32,[.string ByteArray.empty,.int .i64 0,.bool false],true,true,false⟩:=rfl
theorem rd88:Rd E 88 (fun _:CO=>True) CO.cs :=
 (rd_struct hE ti88 rfl (rdF_cons hE (o1:=1) rfl rfl rd9 (rdF_cons hE (o1:=2) rfl rfl rd3 (rdF_cons hE (o1:=3) rfl rfl rd4 rdF_nil)))).map
   (fun p=>(⟨p.1,p.2.1,p.2.2.1⟩:CO)) (fun _=>rfl) (fun _ h=>trivial)
theorem rd52 (N:Nat):RdM (N+1) E 52 (fun H d (l:List CO)=>l.length≤Rows.uptoBulk d) (fun l=>[.view 3 (l.map CO.av)]) :=
 (rdM_slice hE (i:=⟨.slice 88,1,24,[.slice none 0 0],false,false,false⟩) rfl rfl rfl ti88 (by decide) rd88.toN (f:=CO.av) (fun a=>rfl)).map id (fun _=>rfl) (fun H d l h=>(bulk_list h).1)
theorem ti216:E.TI 216=some ⟨.struct [(0,9),(1,29),(2,4)],3,48,[.string ByteArray.empty,.slice none 0 0,.bool false],true,true,false⟩:=rfl
theorem rd216 (N:Nat):RdM (N+2) E 216 (fun H d (_:IX)=>True) IX.cs :=
 (rdM_struct hE ti216 rfl (rdFM_cons hE (o1:=1) rfl rfl rd9.toN (rdFM_cons hE (o1:=2) rfl rfl (rd29 N) (rdFM_cons hE (o1:=3) rfl rfl rd4.toN rdFM_nil)))).map
   (fun p=>(⟨p.1,p.2.1,p.2.2.1⟩:IX)) (fun _=>rfl) (fun _ _ _ h=>trivial)
theorem rd53 (N:Nat):RdM (N+3) E 53 (fun H d (l:List IX)=>l.length≤Rows.uptoBulk d) (fun l=>[.view 3 (l.map IX.av)]) :=
 (rdM_slice hE (i:=⟨.slice 216,1,24,[.slice none 0 0],false,false,false⟩) rfl rfl rfl ti216 (by decide) (rd216 N) (f:=IX.av) (fun a=>rfl)).map id (fun _=>rfl) (fun H d l h=>(bulk_list h).1)
theorem ti218:E.TI 218=some ⟨.struct [(0,3),(1,3),(2,25)],5,48,[.int .i64 0,.int .i64 0,.int .i64 0,.int .i64 0,.string ByteArray.empty],true,true,false⟩:=rfl
theorem rd218:Rd E 218 (fun _:CK=>True) CK.cs :=
 (rd_struct hE ti218 rfl (rdF_cons hE (o1:=1) rfl rfl rd3 (rdF_cons hE (o1:=2) rfl rfl rd3 (rdF_cons hE (o1:=5) rfl rfl rd25 rdF_nil)))).map
   (fun p=>(⟨p.1,p.2.1,p.2.2.1⟩:CK)) (fun _=>rfl) (fun _ h=>trivial)
theorem rd54 (N:Nat):RdM (N+1) E 54 (fun H d (l:List CK)=>l.length≤Rows.uptoBulk d) (fun l=>[.view 5 (l.map CK.av)]) :=
 (rdM_slice hE (i:=⟨.slice 218,1,24,[.slice none 0 0],false,false,false⟩) rfl rfl rfl ti218 (by decide) rd218.toN (f:=CK.av) (fun a=>rfl)).map id (fun _=>rfl) (fun H d l h=>(bulk_list h).1)
theorem ti56:E.TI 56=some ⟨.struct [(0,9),(1,52),(2,53),(3,54)],4,88,[.string ByteArray.empty,.slice none 0 0,.slice none 0 0,.slice none 0 0],true,true,false⟩:=rfl
theorem rd56 (N:Nat):RdM (N+4) E 56 (fun H d (t:TB)=>t.cols.length≤Rows.uptoBulk d) TB.cs :=
 (rdM_struct hE ti56 rfl (rdFM_cons hE (o1:=1) rfl rfl rd9.toN (rdFM_cons hE (o1:=2) rfl rfl ((rd52 (N+2)).le (by omega)) (rdFM_cons hE (o1:=3) rfl rfl (rd53 N) (rdFM_cons hE (o1:=4) rfl rfl ((rd54 (N+2)).le (by omega)) rdFM_nil))))).map
   (fun p=>(⟨p.1,p.2.1,p.2.2.1,p.2.2.2.1⟩:TB)) (fun _=>rfl) (fun H d p h=>by
     obtain ⟨ds,rfl,d1,ds1,rfl,_,d2,ds2,rfl,h2,_⟩:=h
     simp only [Rows.uptoBulk,Rows.uptoBulkAll]
     omega)
def DaFit (m:Nat) (d:DA):Prop:=d.t.cols.length≤m∧RowsFit m d.rows
def DbFit (m:Nat) (db:List DA):Prop:=db.length≤m∧∀ d ∈ db,DaFit m d
theorem ti59:E.TI 59=some ⟨.struct [(0,56),(4,57)],5,112,[.string ByteArray.empty,.slice none 0 0,.slice none 0 0,.slice none 0 0,.slice none 0 0],true,true,false⟩:=rfl
theorem rd59 (N:Nat):RdM (N+5) E 59 (fun H d (x:DA)=>DaFit (Rows.uptoBulk d) x) DA.cs :=
 (rdM_struct hE ti59 rfl (rdFM_cons hE (o1:=4) rfl rfl (rd56 N) (rdFM_cons hE (o1:=5) rfl rfl ((rd57 (N+2)).le (by omega)) rdFM_nil))).map
   (fun p=>(⟨p.1,p.2.1⟩:DA)) (fun _=>rfl) (fun H d p h=>by
     obtain ⟨ds,rfl,d1,ds1,rfl,h1,d2,ds2,rfl,h2,_⟩:=h
     simp only [Rows.uptoBulk,Rows.uptoBulkAll]
     exact ⟨by simp only;omega,h2.le (by omega)⟩)
theorem rd22 (N:Nat):RdM (N+6) E 22 (fun H d (l:List DA)=>DbFit (Rows.uptoBulk d) l) (fun l=>[.view 5 (l.map DA.av)]) :=
 (rdM_slice hE (i:=⟨.slice 59,1,24,[.slice none 0 0],false,false,false⟩) rfl rfl rfl ti59 (by decide) (rd59 N) (f:=DA.av) (fun a=>rfl)).map id (fun _=>rfl) (fun H d l h=>by
   obtain ⟨h1,h2⟩:=bulk_list h
   exact ⟨h1,fun v hv=>by obtain ⟨y,hy,h3,h4⟩:=h2 v hv;exact ⟨by omega,h4.le hy⟩⟩)
theorem rm22:RdVM E 22 (fun H d (l:List DA)=>DbFit (Rows.uptoBulk d) l) (fun l=>.view 5 (l.map DA.av)):=rdVM_of hE (e:=59) (by kernel_rfl) (fun N=>(rd22 N).le (by omega)) (fun _=>rfl)
theorem kids:Kids E.P (· < E.P.types.size):=kids_rows (by kernel_rfl) (by kernel_rfl)
theorem full:∀ t e,t<E.P.types.size→E.P.underlying t=some (.slice e)→0<E.P.cellsOf e:=slices_full_of E.P (by kernel_rfl)
end Go.Proofs.Try
