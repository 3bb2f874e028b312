/-
 A part of the proof.
-/
import Derived.Test.YtfhoeghdioofmaaGreatReads
import Derived.Test.YtfhoeghdioofmaaGreatRows
set_option linter.unusedSimpArgs false
set_option linter.unusedVariables false
namespace Go.Proofs.Try
open Go.Proofs.Tryz
open Go.Al
open Go.ChangeShapes Go.WideShapes Go.ChangeAt Go.RowKit
open Go.Proofs.YtfhoeghdioofmaaGreat
theorem bulk_pos {H:Type} (d:DataW H):1<=Rows.uptoBulk d:=by
 cases d with
 | lit l=>cases l <;> simp [Rows.uptoBulk]
 | _=>simp [Rows.uptoBulk]
theorem bulk_mem {H:Type} {d:DataW H}:∀ {l:List (DataW H)},d ∈ l->Rows.uptoBulk d<=Rows.uptoBulkAll l
 | [],h=>by cases h
 | x::l,h=>by
   rcases List.mem_cons.1 h with rfl | h
   . simp only [Rows.uptoBulkAll];omega
   . have:=bulk_mem h
     simp only [Rows.uptoBulkAll];omega
theorem bulk_len {H:Type}:∀ {l:List (DataW H)},l.length<=Rows.uptoBulkAll l
 | []=>by simp [Rows.uptoBulkAll]
 | x::l=>by
   have h1:=bulk_pos x
   have h2:=bulk_len (l:=l)
   simp only [Rows.uptoBulkAll,List.length_cons];omega
theorem bulk_app {H:Type} (l r:List (DataW H)):Rows.uptoBulkAll (l++r)=Rows.uptoBulkAll l+Rows.uptoBulkAll r:=by
 induction l with
 | nil=>simp [Rows.uptoBulkAll]
 | cons x l ih=>simp only [List.cons_append,Rows.uptoBulkAll,ih];omega
theorem small_le {H:Type} {ds gs:List (DataW H)} (h:Rows.uptoSmall H (ds++gs)=true):∀ d ∈ ds,Rows.uptoBulk d<=1048576:=by
 have h:Rows.uptoBulkAll (ds++gs)<=1048576:=of_decide_eq_true h
 rw [bulk_app] at h
 intro d hd
 have:=bulk_mem hd
 omega
theorem bulk_list {H:Type} {α:Type} {d:DataW H} {l:List α} {rel:DataW H->α->Prop} (h:l.length<=maxLen/\(d=.nil/\l=[]\/∃ es sp,d=.slice es sp/\es.length=l.length/\∀ (j:Nat) y b,es[j]?=some y->l[j]?=some b->rel y b)) :
 l.length<=Rows.uptoBulk d/\∀ a ∈ l,∃ y,Rows.uptoBulk y<=Rows.uptoBulk d/\rel y a:=by
 obtain ⟨_,h | ⟨es,sp,rfl,h3,h4⟩⟩:=h
 . obtain ⟨_,rfl⟩:=h;simp
 . have:=bulk_len (l:=es)
   refine ⟨by simp only [Rows.uptoBulk];omega,fun a ha=>?_⟩
   obtain ⟨j,hj⟩:=List.getElem?_of_mem ha
   have hjl:j<l.length:=(List.getElem?_eq_some_iff.1 hj).1
   have hje:j<es.length:=by omega
   have:=bulk_mem (List.getElem_mem hje)
   exact ⟨es[j],by simp only [Rows.uptoBulk];omega,h4 j es[j] a (by simp) hj⟩
theorem rdVM_of {E:Env} (hE:E.ok) {α:Type} {c:α->List AV} {T:TypeId} {e:TypeId} (hu:E.P.underlying T=some (.slice e)) {f:α->AV} {rel:(H:Type)->DataW H->α->Prop} (h:∀ N,RdM N E T rel c) (hc:∀ a,c a=[f a]):RdVM E T rel f:=by
 intro w H enc base v d p hok ⟨n,hn⟩
 obtain ⟨_,_,_,rfl⟩:=okWide_slice hu hok
 obtain ⟨i,_,h⟩:=h (n+1)
 obtain ⟨_,_,a,h3,h4⟩:=h w H enc n _ _ (by omega) hn
 rw [hc] at h4
 obtain ⟨u,us,e,h5,_⟩:=repVs_cons.1 h4
 cases e
 exact ⟨a,h3,h5⟩
theorem tJ135:E.TI 135=some ⟨.struct [(0,3),(1,3),(2,9)],3,32,[.int .i64 0,.int .i64 0,.string ByteArray.empty],true,true,false⟩:=rfl
theorem tJ59:E.TI 59=some ⟨.struct [(0,3),(1,3),(2,4),(3,33)],4,48,[.int .i64 0,.int .i64 0,.bool false,.slice none 0 0],true,true,false⟩:=rfl
theorem tJ35:E.TI 35=some ⟨.struct [(0,3),(1,3),(2,3),(3,3),(4,4),(5,33)],6,64,[.int .i64 0,.int .i64 0,.int .i64 0,.int .i64 0,.bool false,.slice none 0 0],true,true,false⟩:=rfl
theorem rdM33 (N:Nat):RdM (N+1) E 33 (fun H d (r:List VL)=>r.length<=Rows.uptoBulk d) (fun l=>[.view 3 (l.map VL.av)]) :=
 (rdM_slice hE (i:=⟨.slice 135,1,24,[.slice none 0 0],false,false,false⟩) rfl rfl rfl tJ135 (by decide) rd135.toN (f:=VL.av) (fun a=>rfl)).map id (fun _=>rfl) (fun H d l h=>(bulk_list h).1)
theorem rdM59 (N:Nat):RdM (N+2) E 59 (fun H d (w:WR)=>w.vals.length<=Rows.uptoBulk d) WR.cs :=
 (rdM_struct hE tJ59 rfl (rdFM_cons hE (o1:=1) rfl rfl rd3.toN (rdFM_cons hE (o1:=2) rfl rfl rd3.toN (rdFM_cons hE (o1:=3) rfl rfl rd4.toN (rdFM_cons hE (o1:=4) rfl rfl (rdM33 N) rdFM_nil))))).map
   (fun p=>(⟨p.1,p.2.1,p.2.2.1,p.2.2.2.1⟩:WR)) (fun _=>rfl) (fun H d p h=>by
     obtain ⟨ds,rfl,d1,ds1,rfl,_,d2,ds2,rfl,_,d3,ds3,rfl,_,d4,ds4,rfl,h4,_⟩:=h
     simp only [Rows.uptoBulk,Rows.uptoBulkAll]
     omega)
theorem rdM35 (N:Nat):RdM (N+2) E 35 (fun H d (c:CL)=>c.vals.length<=Rows.uptoBulk d) CL.cs :=
 (rdM_struct hE tJ35 rfl (rdFM_cons hE (o1:=1) rfl rfl rd3.toN (rdFM_cons hE (o1:=2) rfl rfl rd3.toN (rdFM_cons hE (o1:=3) rfl rfl rd3.toN (rdFM_cons hE (o1:=4) rfl rfl rd3.toN (rdFM_cons hE (o1:=5) rfl rfl rd4.toN (rdFM_cons hE (o1:=6) rfl rfl (rdM33 N) rdFM_nil))))))).map
   (fun p=>(⟨p.1,p.2.1,p.2.2.1,p.2.2.2.1,p.2.2.2.2.1,p.2.2.2.2.2.1⟩:CL)) (fun _=>rfl) (fun H d p h=>by
     obtain ⟨ds,rfl,d1,ds1,rfl,_,d2,ds2,rfl,_,d3,ds3,rfl,_,d4,ds4,rfl,_,d5,ds5,rfl,_,d6,ds6,rfl,h6,_⟩:=h
     simp only [Rows.uptoBulk,Rows.uptoBulkAll]
     omega)
theorem rdM27 (N:Nat):RdM (N+3) E 27 (fun H d (l:List WR)=>∀ w ∈ l,w.vals.length<=Rows.uptoBulk d) (fun l=>[.view 4 (l.map WR.av)]) :=
 (rdM_slice hE (i:=⟨.slice 59,1,24,[.slice none 0 0],false,false,false⟩) rfl rfl rfl tJ59 (by decide) (rdM59 N) (f:=WR.av) (fun a=>rfl)).map id (fun _=>rfl) (fun H d l h w hw=>by
   obtain ⟨y,hy,h3⟩:=(bulk_list h).2 w hw
   omega)
theorem rdM22 (N:Nat):RdM (N+3) E 22 (fun H d (l:List CL)=>∀ c ∈ l,c.vals.length<=Rows.uptoBulk d) (fun l=>[.view 6 (l.map CL.av)]) :=
 (rdM_slice hE (i:=⟨.slice 35,1,24,[.slice none 0 0],false,false,false⟩) rfl rfl rfl tJ35 (by decide) (rdM35 N) (f:=CL.av) (fun a=>rfl)).map id (fun _=>rfl) (fun H d l h w hw=>by
   obtain ⟨y,hy,h3⟩:=(bulk_list h).2 w hw
   omega)
theorem rm22:RdVM E 22 (fun H d (l:List CL)=>∀ c ∈ l,c.vals.length<=Rows.uptoBulk d) (fun l=>.view 6 (l.map CL.av)):=rdVM_of hE (e:=35) (by kernel_rfl) (fun N=>(rdM22 N).le (by omega)) (fun _=>rfl)
theorem u8_rng {n:Int} (h:(Lit.int .u8 n).wf=true):0<=n/\n<=255:=by
 have h1:IntKind.u8.min=0:=by decide
 have h2:IntKind.u8.max=255:=by decide
 simp only [Lit.wf,h1,h2,Bool.and_eq_true,decide_eq_true_eq] at h
 exact h
end Go.Proofs.Try
