/-
 A part of the proof.
-/
import Derived.Test.YtfhoeghdioofmaaGreatReads
import Derived.SizedLaws
import Derived.Test.YtfhoeghdioofmaaGreatRows
set_option linter.unusedSimpArgs false
set_option linter.unusedVariables false
namespace Go.Proofs.Try
open Go.Proofs.Tryz
open Go.Al
open Go.ChangeShapes Go.WideShapes Go.ChangeAt Go.RowKit
def Fit {H:Type} (T:TypeId) (d:DataW H):Prop:=∀ x ∈ DataW.weights E.P T d,x<=reachBytes
def FitEach {H:Type} (ts:List TypeId) (ds:List (DataW H)):Prop:=∀ x ∈ DataW.weightsEach E.P ts ds,x<=reachBytes
theorem fitEach_cons {H:Type} {t:TypeId} {ts:List TypeId} {d:DataW H} {ds:List (DataW H)} (h:FitEach (t::ts) (d::ds)):Fit t d/\FitEach ts ds:=by
 unfold FitEach at h
 rw [DataW.weightsEach] at h
 exact ⟨fun x hx=>h x (List.mem_append_left _ hx),fun x hx=>h x (List.mem_append_right _ hx)⟩
theorem weightsAll_mem {H:Type} {e:TypeId} {y:DataW H} {x:Nat} (hx:x ∈ DataW.weights E.P e y):∀ {l:List (DataW H)},y ∈ l->x ∈ DataW.weightsAll E.P e l
 | z::l,h=>by
   rw [DataW.weightsAll]
   rcases List.mem_cons.1 h with rfl | h
   . exact List.mem_append_left _ hx
   . exact List.mem_append_right _ (weightsAll_mem hx h)
theorem fit_slice {H:Type} {T e:TypeId} {es sp:List (DataW H)} (hu:E.P.underlying T=some (.slice e)) (h:Fit T (.slice es sp)):(es.length+sp.length) * E.P.bytesOf e<=reachBytes/\∀ y ∈ es,Fit e y:=by
 unfold Fit at h
 rw [DataW.weights,hu] at h
 exact ⟨h _ (List.mem_cons_self ..),fun y hy x hx=>h x (List.mem_cons_of_mem _ (List.mem_append_left _ (weightsAll_mem hx hy)))⟩
theorem fit_struct {H:Type} {T:TypeId} {ts:List TypeId} {ds:List (DataW H)} (hu:(match E.P.underlying T with | some (.struct fs)=>some (fs.toList.map (·.type)) | _=>none)=some ts) (h:Fit T (.agg ds)):FitEach ts ds:=by
 unfold Fit at h
 rw [DataW.weights] at h
 unfold FitEach
 generalize E.P.underlying T=u at *
 rcases u with _ | u
 . cases hu
 . cases u <;> first | (cases hu;done) | (injection hu with hu;subst hu;exact h)
theorem fit_list {H:Type} {α:Type} {T e:TypeId} (hu:E.P.underlying T=some (.slice e)) {d:DataW H} {l:List α} {rel:DataW H->α->Prop} (h:l.length<=maxLen/\(d=.nil/\l=[]\/∃ es sp,d=.slice es sp/\es.length=l.length/\∀ (j:Nat) y b,es[j]?=some y->l[j]?=some b->rel y b)) (hf:Fit T d) :
 l.length * E.P.bytesOf e<=reachBytes/\∀ a ∈ l,∃ y,Fit e y/\rel y a:=by
 obtain ⟨_,h | ⟨es,sp,rfl,h3,h4⟩⟩:=h
 . obtain ⟨_,rfl⟩:=h;simp
 . obtain ⟨h5,h6⟩:=fit_slice hu hf
   refine ⟨Nat.le_trans (Nat.mul_le_mul_right _ (by omega)) h5,fun a ha=>?_⟩
   obtain ⟨j,hj⟩:=List.getElem?_of_mem ha
   have hjl:j<l.length:=(List.getElem?_eq_some_iff.1 hj).1
   have hje:j<es.length:=by omega
   exact ⟨es[j],h6 _ (List.getElem_mem hje),h4 j es[j] a (by simp) hj⟩
theorem rdVW_of {E:Env} (hE:E.ok) {α:Type} {c:α->List AV} {T:TypeId} {e:TypeId} (hu:E.P.underlying T=some (.slice e)) {f:α->AV} {rel:(H:Type)->DataW H->α->Prop} (h:∀ N,RdM N E T rel c) (hc:∀ a,c a=[f a]):RdVM E T rel f:=by
 intro w H enc base v d p hok ⟨n,hn⟩
 obtain ⟨_,_,_,rfl⟩:=okWide_slice hu hok
 obtain ⟨i,_,h⟩:=h (n+1)
 obtain ⟨_,_,a,h3,h4⟩:=h w H enc n _ _ (by omega) hn
 rw [hc] at h4
 obtain ⟨u,us,e,h5,_⟩:=repVs_cons.1 h4
 cases e
 exact ⟨a,h3,h5⟩
theorem tJ135:E.TI 135=some ⟨.struct [(0,3),(1,3),(2,9)],3,32,[.int .i64 0,.int .i64 0,.string ByteArray.empty],true,true,false⟩:=rfl
theorem tJ35:E.TI 35=some ⟨.struct [(0,3),(1,3),(2,3),(3,3),(4,4),(5,33)],6,64,[.int .i64 0,.int .i64 0,.int .i64 0,.int .i64 0,.bool false,.slice none 0 0],true,true,false⟩:=rfl
theorem by135:E.P.bytesOf 135=32:=by kernel_rfl
theorem un33:E.P.underlying 33=some (.slice 135):=by kernel_rfl
theorem un22:E.P.underlying 22=some (.slice 35):=by kernel_rfl
theorem rdW33 (N:Nat):RdM (N+1) E 33 (fun H d (r:List VL)=>Fit 33 d->r.length<=4398046510976) (fun l=>[.view 3 (l.map VL.av)]) :=
 (rdM_slice hE (i:=⟨.slice 135,1,24,[.slice none 0 0],false,false,false⟩) rfl rfl rfl tJ135 (by decide) rd135.toN (f:=VL.av) (fun a=>rfl)).map id (fun _=>rfl) (fun H d l h hf=>by
   have h1:=(fit_list un33 h hf).1
   rw [by135] at h1
   simp only [reachBytes] at h1
   simp only [id]
   omega)
theorem rdW35 (N:Nat):RdM (N+2) E 35 (fun H d (c:CL)=>Fit 35 d->c.vals.length<=4398046510976) CL.cs :=
 (rdM_struct hE tJ35 rfl (rdFM_cons hE (o1:=1) rfl rfl rd3.toN (rdFM_cons hE (o1:=2) rfl rfl rd3.toN (rdFM_cons hE (o1:=3) rfl rfl rd3.toN (rdFM_cons hE (o1:=4) rfl rfl rd3.toN (rdFM_cons hE (o1:=5) rfl rfl rd4.toN (rdFM_cons hE (o1:=6) rfl rfl (rdW33 N) rdFM_nil))))))).map
   (fun p=>(⟨p.1,p.2.1,p.2.2.1,p.2.2.2.1,p.2.2.2.2.1,p.2.2.2.2.2.1⟩:CL)) (fun _=>rfl) (fun H d p h hf=>by
     obtain ⟨ds,rfl,d1,ds1,rfl,_,d2,ds2,rfl,_,d3,ds3,rfl,_,d4,ds4,rfl,_,d5,ds5,rfl,_,d6,ds6,rfl,h6,_⟩:=h
     have h5:=fit_struct (ts:=[3,3,3,3,4,33]) (by kernel_rfl) hf
     exact h6 (fitEach_cons (fitEach_cons (fitEach_cons (fitEach_cons (fitEach_cons (fitEach_cons h5).2).2).2).2).2).1)
theorem rdW22 (N:Nat):RdM (N+3) E 22 (fun H d (l:List CL)=>Fit 22 d->∀ c ∈ l,c.vals.length<=4398046510976) (fun l=>[.view 6 (l.map CL.av)]) :=
 (rdM_slice hE (i:=⟨.slice 35,1,24,[.slice none 0 0],false,false,false⟩) rfl rfl rfl tJ35 (by decide) (rdW35 N) (f:=CL.av) (fun a=>rfl)).map id (fun _=>rfl) (fun H d l h hf w hw=>by
   obtain ⟨y,hy,h3⟩:=(fit_list un22 h hf).2 w hw
   exact h3 hy)
theorem rw22:RdVM E 22 (fun H d (l:List CL)=>Fit 22 d->∀ c ∈ l,c.vals.length<=4398046510976) (fun l=>.view 6 (l.map CL.av)):=rdVW_of hE (e:=35) un22 (fun N=>(rdW22 N).le (by omega)) (fun _=>rfl)
theorem u8_rng {n:Int} (h:(Lit.int .u8 n).wf=true):0<=n/\n<=255:=by
 have h1:IntKind.u8.min=0:=by decide
 have h2:IntKind.u8.max=255:=by decide
 simp only [Lit.wf,h1,h2,Bool.and_eq_true,decide_eq_true_eq] at h
 exact h
end Go.Proofs.Try
