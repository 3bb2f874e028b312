/-
 A part of the proof: see the text of the law.
-/
import Derived.Test.YtchlampphcaomaaGreatDoorEah
import Derived.Test.YtchlampphcaomaaGreatDoorFirst
import Derived.Test.YtchlampphcaomaaGreatDoorAlphaR
import Derived.SizedLaws
import Derived.Test.YtchlampphcaomaaGreatDoorRows
set_option linter.unusedSimpArgs false
set_option linter.unusedVariables false
namespace Go.Proofs.Try
open Go.Al
open Go.ChangeShapes Go.WideShapes Go.ChangeAt Go.RowKit
open Go.Proofs.YtchlampphcaomaaGreatDoor
def Fit {H:Type} (T:TypeId) (d:DataW H):Prop:=∀ x ∈ DataW.weights E.P T d,x≤reachBytes
def FitEach {H:Type} (ts:List TypeId) (ds:List (DataW H)):Prop:=∀ x ∈ DataW.weightsEach E.P ts ds,x≤reachBytes
theorem fitEach_cons {H:Type} {t:TypeId} {ts:List TypeId} {d:DataW H} {ds:List (DataW H)} (h:FitEach (t::ts) (d::ds)):Fit t d∧FitEach ts ds:=by
 unfold FitEach at h
 rw [DataW.weightsEach] at h
 exact ⟨fun x hx=>h x (List.mem_append_left _ hx),fun x hx=>h x (List.mem_append_right _ hx)⟩
theorem weightsAll_mem {H:Type} {e:TypeId} {y:DataW H} {x:Nat} (hx:x ∈ DataW.weights E.P e y):∀ {l:List (DataW H)},y ∈ l→x ∈ DataW.weightsAll E.P e l
 | z::l,h=>by
   rw [DataW.weightsAll]
   rcases List.mem_cons.1 h with rfl | h
   · exact List.mem_append_left _ hx
   · exact List.mem_append_right _ (weightsAll_mem hx h)
theorem fit_slice {H:Type} {T e:TypeId} {es sp:List (DataW H)} (hu:E.P.underlying T=some (.slice e)) (h:Fit T (.slice es sp)):(es.length+sp.length) * E.P.bytesOf e≤reachBytes∧∀ y ∈ es,Fit e y:=by
 unfold Fit at h
 rw [DataW.weights,hu] at h
 exact ⟨h _ (List.mem_cons_self ..),fun y hy x hx=>h x (List.mem_cons_of_mem _ (List.mem_append_left _ (weightsAll_mem hx hy)))⟩
theorem fit_struct {H:Type} {T:TypeId} {ts:List TypeId} {ds:List (DataW H)} (hu:(match E.P.underlying T with | some (.struct fs)=>some (fs.toList.map (·.type)) | _=>none)=some ts) (h:Fit T (.agg ds)):FitEach ts ds:=by
 unfold Fit at h
 rw [DataW.weights] at h
 unfold FitEach
 generalize E.P.underlying T=u at *
 rcases u with _ | u
 · cases hu
 · cases u <;> first | (cases hu;done) | (injection hu with hu;subst hu;exact h)
theorem fit_list {H:Type} {α:Type} {T e:TypeId} (hu:E.P.underlying T=some (.slice e)) {d:DataW H} {l:List α} {rel:DataW H→α→Prop} (h:l.length≤maxLen∧(d=.nil∧l=[]∨∃ es sp,d=.slice es sp∧es.length=l.length∧∀ (j:Nat) y b,es[j]?=some y→l[j]?=some b→rel y b)) :
 (Fit T d→l.length * E.P.bytesOf e≤reachBytes)∧∀ a ∈ l,∃ y,(Fit T d→Fit e y)∧rel y a:=by
 obtain ⟨_,h | ⟨es,sp,rfl,h3,h4⟩⟩:=h
 · obtain ⟨_,rfl⟩:=h;simp
 · refine ⟨fun hf=>Nat.le_trans (Nat.mul_le_mul_right _ (by omega)) (fit_slice hu hf).1,fun a ha=>?_⟩
   obtain ⟨j,hj⟩:=List.getElem?_of_mem ha
   have hjl:j<l.length:=(List.getElem?_eq_some_iff.1 hj).1
   have hje:j<es.length:=by omega
   exact ⟨es[j],fun hf=>(fit_slice hu hf).2 _ (List.getElem_mem hje),h4 j es[j] a (by simp) hj⟩
theorem rdVM_of {E:Env} (hE:E.ok) {α:Type} {c:α→List AV} {T:TypeId} {e:TypeId} (hu:E.P.underlying T=some (.slice e)) {f:α→AV} {rel:(H:Type)→DataW H→α→Prop} (h:∀ N,RdM N E T rel c) (hc:∀ a,c a=[f a]):RdVM E T rel f:=by
 intro w H enc base v d p hok ⟨n,hn⟩
 obtain ⟨_,_,_,rfl⟩:=okWide_slice hu hok
 obtain ⟨i,_,h⟩:=h (n+1)
 obtain ⟨_,_,a,h3,h4⟩:=h w H enc n _ _ (by omega) hn
 rw [hc] at h4
 obtain ⟨u,us,e,h5,_⟩:=repVs_cons.1 h4
 cases e
 exact ⟨a,h3,h5⟩
theorem rd3:Rd E 3 (fun n:Int=>(Lit.int .i64 n).wf=true) (fun n=>[.int .i64 n]):=rd_int hE ti3 rfl rfl
theorem rd4:Rd E 4 (fun _:Bool=>True) (fun b=>[.bool b]):=rd_bool hE (i:=⟨.bool,1,1,[.bool false],false,false,false⟩) rfl rfl rfl
theorem rd9:Rd E 9 (fun s:ByteArray=>s.size≤maxLen) (fun s=>[.str s]):=rd_string hE (i:=⟨.string,1,16,[.string ByteArray.empty],false,false,false⟩) rfl rfl rfl
theorem rv3:RdV E 3 (fun n:Int=>(Lit.int .i64 n).wf=true) (AV.int .i64):=.int hE (k:=.i64) (by kernel_rfl) rd3 (fun _=>rfl)
theorem rv4:RdV E 4 (fun _:Bool=>True) AV.bool:=.bool hE (by kernel_rfl) rd4 (fun _=>rfl)
theorem inI_wf {n:Int} (h:(Lit.int .i64 n).wf=true):inI n:=by
 have h1:IntKind.i64.min = -9223372036854775808:=by decide
 have h2:IntKind.i64.max=9223372036854775807:=by decide
 simp only [Lit.wf,h1,h2,Bool.and_eq_true,decide_eq_true_eq] at h
 exact h
theorem rd25:Rd E 25 (fun v:VL=>inI v.n∧v.s.size≤maxLen) VL.cs :=
 (rd_struct hE ti25 rfl (rdF_cons hE (o1:=1) rfl rfl rd3 (rdF_cons hE (o1:=2) rfl rfl rd3 (rdF_cons hE (o1:=3) rfl rfl rd9 rdF_nil)))).map
   (fun p=>(⟨p.1,p.2.1,p.2.2.1⟩:VL)) (fun _=>rfl) (fun _ h=>⟨inI_wf h.2.1,h.2.2.1⟩)
theorem okIL_iff:∀ {l:List EX},EX.okIL l↔∀ e ∈ l,e.okI
 | []=>by simp [EX.okIL]
 | e::es=>by simp [EX.okIL,okIL_iff (l:=es)]
theorem un22:E.P.underlying 22=some (.slice 59):=by kernel_rfl
theorem un23:E.P.underlying 23=some (.slice 33):=by kernel_rfl
theorem un26:E.P.underlying 26=some (.slice 28):=by kernel_rfl
theorem un29:E.P.underlying 29=some (.slice 3):=by kernel_rfl
theorem un30:E.P.underlying 30=some (.slice 79):=by kernel_rfl
theorem un52:E.P.underlying 52=some (.slice 88):=by kernel_rfl
theorem by3:E.P.bytesOf 3=8:=by kernel_rfl
theorem by79:E.P.bytesOf 79=80:=by kernel_rfl
theorem by88:E.P.bytesOf 88=32:=by kernel_rfl
theorem ti69:E.TI 69=some ⟨.slice 25,1,24,[.slice none 0 0],false,false,false⟩:=rfl
theorem rd69 (N:Nat):RdN (N+1) E 69 (fun r:List VL=>True) (fun l=>[.view 3 (l.map VL.av)]) :=
 (rdM_slice hE ti69 rfl rfl ti25 (by decide) rd25.toN (f:=VL.av) (fun a=>rfl)).map id (fun _=>rfl) (fun H d l h=>trivial)
theorem rd57 (N:Nat):RdN (N+2) E 57 (fun r:List (List VL)=>True) (fun l=>[rowsV l]) :=
 (rdM_slice hE (i:=⟨.slice 69,1,24,[.slice none 0 0],false,false,false⟩) rfl rfl rfl ti69 (by decide) (rd69 N) (f:=rowV) (fun a=>rfl)).map id (fun _=>rfl) (fun H d l h=>trivial)
theorem rd29 (N:Nat):RdM (N+1) E 29 (fun H d (r:List Int)=>Fit 29 d→r.length≤20000000000000) (fun l=>[.view 1 (l.map (AV.int .i64))]) :=
 (rdM_slice hE (i:=⟨.slice 3,1,24,[.slice none 0 0],false,false,false⟩) rfl rfl rfl ti3 (by decide) rd3.toN (f:=AV.int .i64) (fun a=>rfl)).map id (fun _=>rfl) (fun H d l h hf=>by
   have h1:=(fit_list un29 h).1 hf
   rw [by3] at h1
   simp only [reachBytes] at h1
   simp only [id]
   omega)
theorem rw29:RdVM E 29 (fun H d (r:List Int)=>True) (fun l=>.view 1 (l.map (AV.int .i64))):=rdVM_of hE (e:=3) un29 (fun N=>((rd29 N).map id (fun _=>rfl) (fun _ _ _ _=>trivial)).le (by omega)) (fun _=>rfl)
theorem rd26 {N:Nat} (h:RdN N E 28 (fun e:EX=>EX.okI e) EX.cs):RdN (N+1) E 26 (fun l:List EX=>EX.okIL l) (fun l=>[.view 6 (l.map EX.av)]) :=
 (rdM_slice hE (i:=⟨.slice 28,1,24,[.slice none 0 0],false,false,false⟩) rfl rfl rfl ti28 (by decide) h (f:=EX.av) (fun a=>by rw [av_fs,cs_fs];rfl)).map id (fun _=>rfl) (fun H d l h=>okIL_iff.2 fun e he=>by
   obtain ⟨y,_,h3⟩:=(fit_list un26 h).2 e he;exact h3)
theorem rd28:∀ N,RdN N E 28 (fun e:EX=>EX.okI e) EX.cs
 | 0=>.zero ti28
 | N+1 =>
   (rdM_struct hE ti28 rfl (rdFM_cons hE (o1:=1) rfl rfl rd3.toN (rdFM_cons hE (o1:=2) rfl rfl rd3.toN (rdFM_cons hE (o1:=5) rfl rfl rd25.toN (rdFM_cons hE (o1:=6) rfl rfl ((rd26 (rd28 N)).le (Nat.le_succ N)) rdFM_nil))))).map
     (fun p=>EX.mk p.1 p.2.1 p.2.2.1.k p.2.2.1.n p.2.2.1.s p.2.2.2.1) (fun _=>by simp [cs_fs,EX.fs,EX.op,EX.n,EX.val,EX.args,VL.cs])
     (fun H d p h=>by
       obtain ⟨ds,rfl,d1,ds1,rfl,_,d2,ds2,rfl,_,d3,ds3,rfl,h3,d4,ds4,rfl,h4,_⟩:=h
       exact ⟨h3.1,h4⟩)
theorem ti79:E.TI 79=some ⟨.struct [(0,3),(1,28)],7,80,[.int .i64 0,.int .i64 0,.int .i64 0,.int .i64 0,.int .i64 0,.string ByteArray.empty,.slice none 0 0],true,true,false⟩:=rfl
theorem rd79 (N:Nat):RdN (N+1) E 79 (fun a:AG=>a.arg.okI) AG.cs :=
 (rdM_struct hE ti79 rfl (rdFM_cons hE (o1:=1) rfl rfl rd3.toN (rdFM_cons hE (o1:=7) rfl rfl (rd28 N) rdFM_nil))).map
   (fun p=>(⟨p.1,p.2.1⟩:AG)) (fun p=>by simp [cs_fs,EX.fs]) (fun H d p h=>by
     obtain ⟨ds,rfl,d1,ds1,rfl,_,d2,ds2,rfl,h2,_⟩:=h
     exact h2)
theorem rd30 (N:Nat):RdM (N+2) E 30 (fun H d (l:List AG)=>(Fit 30 d→l.length≤20000000000000)∧∀ a ∈ l,a.arg.okI) (fun l=>[.view 7 (l.map AG.av)]) :=
 (rdM_slice hE (i:=⟨.slice 79,1,24,[.slice none 0 0],false,false,false⟩) rfl rfl rfl ti79 (by decide) (rd79 N) (f:=AG.av) (fun a=>rfl)).map id (fun _=>rfl) (fun H d l h=>by
   obtain ⟨h1,h2⟩:=fit_list un30 h
   rw [by79] at h1
   simp only [reachBytes] at h1
   exact ⟨fun hf=>by have:=h1 hf;simp only [id];omega,fun v hv=>by obtain ⟨y,hy,h3⟩:=h2 v hv;exact h3⟩)
theorem ti83:E.TI 83=some ⟨.struct [(0,3),(1,4)],2,16,[.int .i64 0,.bool false],true,true,false⟩:=rfl
theorem rd83:Rd E 83 (fun _:OD=>True) OD.cs :=
 (rd_struct hE ti83 rfl (rdF_cons hE (o1:=1) rfl rfl rd3 (rdF_cons hE (o1:=2) rfl rfl rd4 rdF_nil))).map
   (fun p=>(⟨p.1,p.2.1⟩:OD)) (fun _=>rfl) (fun _ h=>trivial)
theorem rd31 (N:Nat):RdN (N+1) E 31 (fun l:List OD=>True) (fun l=>[.view 2 (l.map OD.av)]) :=
 (rdM_slice hE (i:=⟨.slice 83,1,24,[.slice none 0 0],false,false,false⟩) rfl rfl rfl ti83 (by decide) rd83.toN (f:=OD.av) (fun a=>rfl)).map id (fun _=>rfl) (fun H d l h=>trivial)
theorem rd23 {N:Nat} (h:RdM N E 33 (fun H d (q:QY)=>Fit 33 d→QY.ok q) QY.cs):RdM (N+1) E 23 (fun H d (l:List QY)=>Fit 23 d→∀ q ∈ l,QY.ok q) (fun l=>[.view 14 (l.map QY.av)]) :=
 (rdM_slice hE (i:=⟨.slice 33,1,24,[.slice none 0 0],false,false,false⟩) rfl rfl rfl ti33 (by decide) h (f:=QY.av) (fun a=>by rw [q_av];rfl)).map id (fun _=>rfl) (fun H d l h hf q hq=>by
   obtain ⟨y,hy,h3⟩:=(fit_list un23 h).2 q hq
   exact h3 (hy hf))
theorem rd33:∀ N,RdM N E 33 (fun H d (q:QY)=>Fit 33 d→QY.ok q) QY.cs
 | 0=>.zero ti33
 | N+1 =>
   ((rdM_struct hE ti33 rfl (rdFM_cons hE (o1:=1) rfl rfl rd3.toN (rdFM_cons hE (o1:=2) rfl rfl rd9.toN (rdFM_cons hE (o1:=3) rfl rfl ((rd23 (rd33 N)).le (Nat.le_succ N)) (rdFM_cons hE (o1:=9) rfl rfl (rd28 _)
     (rdFM_cons hE (o1:=10) rfl rfl ((rd26 (rd28 N)).le (Nat.le_succ N)) (rdFM_cons hE (o1:=11) rfl rfl ((rd29 N).le (by omega)) (rdFM_cons hE (o1:=12) rfl rfl ((rd30 N).le (by omega)) (rdFM_cons hE (o1:=13) rfl rfl ((rd31 N).le (by omega)) (rdFM_cons hE (o1:=14) rfl rfl rd3.toN rdFM_nil)))))))))).map
     (fun p=>QY.mk p.1 p.2.1 p.2.2.1 p.2.2.2.1 p.2.2.2.2.1 p.2.2.2.2.2.1 p.2.2.2.2.2.2.1 p.2.2.2.2.2.2.2.1 p.2.2.2.2.2.2.2.2.1) (fun p=>by simp [QY.cs,cs_fs,EX.fs,QY.kind,QY.tab,QY.subs,QY.cond,QY.cols,QY.grp,QY.aggs,QY.ord,QY.n])
     (fun H d p h hf=>by
       obtain ⟨ds,rfl,d1,ds1,rfl,_,d2,ds2,rfl,_,d3,ds3,rfl,h3,d4,ds4,rfl,h4,d5,ds5,rfl,h5,d6,ds6,rfl,h6,d7,ds7,rfl,h7,d8,ds8,rfl,h8,_⟩:=h
       obtain ⟨_,g⟩:=fitEach_cons (fit_struct (ts:=[3,9,23,28,26,29,30,31,3]) (by kernel_rfl) hf)
       obtain ⟨_,g⟩:=fitEach_cons g
       obtain ⟨g3,g⟩:=fitEach_cons g
       obtain ⟨_,g⟩:=fitEach_cons g
       obtain ⟨_,g⟩:=fitEach_cons g
       obtain ⟨g6,g⟩:=fitEach_cons g
       obtain ⟨g7,g⟩:=fitEach_cons g
       rw [ok_eq]
       exact ⟨h4,h5,h6 g6,h7.1 g7,h7.2,h3 g3⟩)).le (by omega)
theorem rw33:RdVM E 33 (fun H d (q:QY)=>Fit 33 d→QY.ok q) QY.av:=RdVM.agg hE ti33 rfl rd33 (fun e=>by rw [q_av])
theorem ti88:E.TI 88=some ⟨.struct [(0,9),(1,3),(2,4)],3,32,[.string ByteArray.empty,.int .i64 0,.bool false],true,true,false⟩:=rfl
theorem rd88:Rd E 88 (fun _:CO=>True) CO.cs :=
 (rd_struct hE ti88 rfl (rdF_cons hE (o1:=1) rfl rfl rd9 (rdF_cons hE (o1:=2) rfl rfl rd3 (rdF_cons hE (o1:=3) rfl rfl rd4 rdF_nil)))).map
   (fun p=>(⟨p.1,p.2.1,p.2.2.1⟩:CO)) (fun _=>rfl) (fun _ h=>trivial)
theorem rd52 (N:Nat):RdM (N+1) E 52 (fun H d (l:List CO)=>Fit 52 d→l.length≤5000000000000) (fun l=>[.view 3 (l.map CO.av)]) :=
 (rdM_slice hE (i:=⟨.slice 88,1,24,[.slice none 0 0],false,false,false⟩) rfl rfl rfl ti88 (by decide) rd88.toN (f:=CO.av) (fun a=>rfl)).map id (fun _=>rfl) (fun H d l h hf=>by
   have h1:=(fit_list un52 h).1 hf
   rw [by88] at h1
   simp only [reachBytes] at h1
   simp only [id]
   omega)
theorem ti216:E.TI 216=some ⟨.struct [(0,9),(1,29),(2,4)],3,48,[.string ByteArray.empty,.slice none 0 0,.bool false],true,true,false⟩:=rfl
theorem rd216 (N:Nat):RdN (N+2) E 216 (fun _:IX=>True) IX.cs :=
 (rdM_struct hE ti216 rfl (rdFM_cons hE (o1:=1) rfl rfl rd9.toN (rdFM_cons hE (o1:=2) rfl rfl (rd29 N) (rdFM_cons hE (o1:=3) rfl rfl rd4.toN rdFM_nil)))).map
   (fun p=>(⟨p.1,p.2.1,p.2.2.1⟩:IX)) (fun _=>rfl) (fun _ _ _ h=>trivial)
theorem rd53 (N:Nat):RdN (N+3) E 53 (fun l:List IX=>True) (fun l=>[.view 3 (l.map IX.av)]) :=
 (rdM_slice hE (i:=⟨.slice 216,1,24,[.slice none 0 0],false,false,false⟩) rfl rfl rfl ti216 (by decide) (rd216 N) (f:=IX.av) (fun a=>rfl)).map id (fun _=>rfl) (fun H d l h=>trivial)
theorem ti218:E.TI 218=some ⟨.struct [(0,3),(1,3),(2,25)],5,48,[.int .i64 0,.int .i64 0,.int .i64 0,.int .i64 0,.string ByteArray.empty],true,true,false⟩:=rfl
theorem rd218:Rd E 218 (fun _:CK=>True) CK.cs :=
 (rd_struct hE ti218 rfl (rdF_cons hE (o1:=1) rfl rfl rd3 (rdF_cons hE (o1:=2) rfl rfl rd3 (rdF_cons hE (o1:=5) rfl rfl rd25 rdF_nil)))).map
   (fun p=>(⟨p.1,p.2.1,p.2.2.1⟩:CK)) (fun _=>rfl) (fun _ h=>trivial)
theorem rd54 (N:Nat):RdN (N+1) E 54 (fun l:List CK=>True) (fun l=>[.view 5 (l.map CK.av)]) :=
 (rdM_slice hE (i:=⟨.slice 218,1,24,[.slice none 0 0],false,false,false⟩) rfl rfl rfl ti218 (by decide) rd218.toN (f:=CK.av) (fun a=>rfl)).map id (fun _=>rfl) (fun H d l h=>trivial)
theorem ti56:E.TI 56=some ⟨.struct [(0,9),(1,52),(2,53),(3,54)],4,88,[.string ByteArray.empty,.slice none 0 0,.slice none 0 0,.slice none 0 0],true,true,false⟩:=rfl
theorem rd56 (N:Nat):RdM (N+4) E 56 (fun H d (t:TB)=>Fit 56 d→t.cols.length≤5000000000000) TB.cs :=
 (rdM_struct hE ti56 rfl (rdFM_cons hE (o1:=1) rfl rfl rd9.toN (rdFM_cons hE (o1:=2) rfl rfl ((rd52 (N+2)).le (by omega)) (rdFM_cons hE (o1:=3) rfl rfl (rd53 N) (rdFM_cons hE (o1:=4) rfl rfl ((rd54 (N+2)).le (by omega)) rdFM_nil))))).map
   (fun p=>(⟨p.1,p.2.1,p.2.2.1,p.2.2.2.1⟩:TB)) (fun _=>rfl) (fun H d p h hf=>by
     obtain ⟨ds,rfl,d1,ds1,rfl,_,d2,ds2,rfl,h2,_⟩:=h
     exact h2 (fitEach_cons (fitEach_cons (fit_struct (ts:=[9,52,53,54]) (by kernel_rfl) hf)).2).1)
theorem ti59:E.TI 59=some ⟨.struct [(0,56),(4,57)],5,112,[.string ByteArray.empty,.slice none 0 0,.slice none 0 0,.slice none 0 0,.slice none 0 0],true,true,false⟩:=rfl
theorem rd59 (N:Nat):RdM (N+5) E 59 (fun H d (x:DA)=>Fit 59 d→x.t.cols.length≤5000000000000) DA.cs :=
 (rdM_struct hE ti59 rfl (rdFM_cons hE (o1:=4) rfl rfl (rd56 N) (rdFM_cons hE (o1:=5) rfl rfl ((rd57 (N+2)).le (by omega)) rdFM_nil))).map
   (fun p=>(⟨p.1,p.2.1⟩:DA)) (fun _=>rfl) (fun H d p h hf=>by
     obtain ⟨ds,rfl,d1,ds1,rfl,h1,_⟩:=h
     exact h1 (fitEach_cons (fit_struct (ts:=[56,57]) (by kernel_rfl) hf)).1)
theorem rd22 (N:Nat):RdM (N+6) E 22 (fun H d (l:List DA)=>Fit 22 d→∀ x ∈ l,x.t.cols.length≤5000000000000) (fun l=>[.view 5 (l.map DA.av)]) :=
 (rdM_slice hE (i:=⟨.slice 59,1,24,[.slice none 0 0],false,false,false⟩) rfl rfl rfl ti59 (by decide) (rd59 N) (f:=DA.av) (fun a=>rfl)).map id (fun _=>rfl) (fun H d l h hf v hv=>by
   obtain ⟨y,hy,h3⟩:=(fit_list un22 h).2 v hv
   exact h3 (hy hf))
theorem rw22:RdVM E 22 (fun H d (l:List DA)=>Fit 22 d→∀ x ∈ l,x.t.cols.length≤5000000000000) (fun l=>.view 5 (l.map DA.av)):=rdVM_of hE (e:=59) un22 (fun N=>(rd22 N).le (by omega)) (fun _=>rfl)
theorem kids:Kids E.P (· < E.P.types.size):=kids_rows (by kernel_rfl) (by kernel_rfl)
theorem full:∀ t e,t<E.P.types.size→E.P.underlying t=some (.slice e)→0<E.P.cellsOf e:=slices_full_of E.P (by kernel_rfl)
end Go.Proofs.Try
