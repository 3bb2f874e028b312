/-
 A part of the proof: see the text of the law.
-/
import Derived.Test.YtchlampphcaomaaGreatDoorEnv
import Derived.Test.YtchlampphcaomaaGreatDoorAlphaR
import Derived.Test.YtchlampphcaomaaGreatDoorRows
import Derived.LaidMore
import Derived.LaidHandle
import Derived.WideKeyElems2
import Derived.Maps.RangeWalk
import Derived.Test.YtchlampphcaomaaGreatDoorCards
import Derived.Test.YtchlampphcaomaaGreatDoorTie
import Derived.WalkKit
import Derived.ProofKit
import Derived.OpenShut
import Derived.Stop.Joined
import Derived.JoinedCond
import Derived.Deep.DeepHandedRow
import Derived.Deep.DeepWitnessRowRef
set_option linter.unusedSimpArgs false
set_option linter.unusedVariables false
namespace Go.Proofs.YtchlampphcaomaaGreatDoor
open Go.Al Go.Proofs.Try
open Go.WideElems
set_option maxRecDepth 100000
theorem perm_unmap {α β:Type} {f:α→β}:∀ {k m:List β},k.Perm m→∀ l:List α,l.map f=k→∃ l',l.Perm l'∧l'.map f=m:=by
 intro k m h
 induction h with
 | nil=>intro l hl;exact ⟨l,.refl _,hl⟩
 | cons x _ ih =>
   intro l hl
   cases l with
   | nil=>cases hl
   | cons a l =>
     simp only [List.map_cons,List.cons.injEq] at hl
     obtain ⟨l',h1,h2⟩:=ih l hl.2
     exact ⟨a::l',h1.cons a,by rw [List.map_cons,h2,hl.1]⟩
 | swap x y t =>
   intro l hl
   rcases l with _ | ⟨a,_ | ⟨b,l⟩⟩
   · cases hl
   · simp at hl
   · simp only [List.map_cons,List.cons.injEq] at hl
     exact ⟨b::a::l,.swap ..,by simp [hl]⟩
 | trans _ _ ih1 ih2 =>
   intro l hl
   obtain ⟨l1,h1,h2⟩:=ih1 l hl
   obtain ⟨l2,h3,h4⟩:=ih2 l1 h2
   exact ⟨l2,h1.trans h3,h4⟩
theorem cell_at {W:World} {b off:Nat} {u:Value} (h:W.cell? ⟨b,off,none⟩=some u):CellsAt (W.heap[b]?) off [u]:=by
 unfold World.cell? at h
 split at h
 · rename_i c E' fr' hb
   refine ⟨c,E',fr',hb,fun j v hj=>?_⟩
   cases j with
   | zero=>simp at hj;subst hj;simpa using h
   | succ j=>simp at hj
 · cases h
abbrev bAdd:List UInt8:=[40,97,108,117,109,47,101,120,112,114,46,112,97,105,114,41,46,97,100,100]
abbrev bSub:List UInt8:=[40,97,108,117,109,47,101,120,112,114,46,112,97,105,114,41,46,115,117,98]
abbrev bMul:List UInt8:=[40,97,108,117,109,47,101,120,112,114,46,112,97,105,114,41,46,109,117,108]
theorem entry_is {W:World} {n:Nat} {e:MapEntry} {q:Int} {b:UInt8} {r:List UInt8} {f0:FuncId}
 (hone:((List.range Tryz.prog.funcs.size).filter fun f=>(Tryz.prog.funcs[f]?).any (·.name.toUTF8.data.toList == b::r))=[f0])
 {y:Lit × DataW (List UInt8)} (h:rd Tryz.prog 3 (elemAt (funcToken Tryz.prog) Tryz.prog W 0 (fun _=>true) true n 178) e=some y) (hy:y=(.int .i64 q,.held (b::r))) :
 e.key=.int .i64 q∧e.val=.func (.func f0) #[] #[]:=by
 subst hy
 obtain ⟨x,hx,hx2,_⟩:=Maps.keyOf_int_inv Tryz.underlying3 (rd_key h)
 obtain ⟨z,hz,hz2⟩:=rd_val h
 cases hx2
 refine ⟨hx,?_⟩
 obtain ⟨d,q⟩:=z
 simp only at hz2
 subst hz2
 unfold elemAt at hz
 split at hz
 · rename_i hf
   have hc:e.val.cells.toList=[e.val]:=by
    generalize e.val=v at hf
    cases v <;> first | rfl | (simp [Value.formed,Tryz.underlying178] at hf)
   rw [hc] at hz
   exact func_of_trod Tryz.underlying178 hone hz
 · cases hz
theorem glob_ok {W : World} (h : laidMetH Tryz.prog [("alum/expr.operators", Rows.laid_alum_expr_operators)] W) : GlobOk (gm W) := by
 obtain ⟨g, t, cs, fuel, p, hg, ht, hv, hd⟩ := h.funcs (n := "alum/expr.operators") (List.mem_cons_self ..)
 obtain rfl := Option.some.inj ((show Tryz.prog.globalNamed "alum/expr.operators" = some 0 by kernel_rfl).symm.trans hg)
 obtain rfl:=Option.some.inj ((show (Tryz.prog.globals[0]?).map (·.type)=some 179 by kernel_rfl).symm.trans ht)
 have hd':DataW.trod (funcToken Tryz.prog) Tryz.prog W 0 (fun _=>true) true fuel 179 cs.toList=some (.map [(.int .i64 3,.held bAdd),(.int .i64 4,.held bSub),(.int .i64 5,.held bMul)],p):=hd
 rcases open_map Tryz.underlying179 hd' with ⟨_,hx⟩ | ⟨bm,es,clock,n,rfl,hcs,hb,_,F,hx⟩
 · simp at hx
 simp only [Prod.mk.injEq,DataW.map.injEq] at hx
 have hp:=(WideShapes.sorted_perm (es.toList.map (rg Tryz.prog 3 (elemAt (funcToken Tryz.prog) Tryz.prog W 0 (fun _=>true) true n 178)))).symm
 rw [← hx.1] at hp
 obtain ⟨es',hpe,hm⟩:=perm_unmap hp es.toList rfl
 have hr:∀ e ∈ es',∃ y,rd Tryz.prog 3 (elemAt (funcToken Tryz.prog) Tryz.prog W 0 (fun _=>true) true n 178) e=some y∧y=rg Tryz.prog 3 (elemAt (funcToken Tryz.prog) Tryz.prog W 0 (fun _=>true) true n 178) e:=by
  intro e he
  obtain ⟨y,hy⟩:=F.reads e (hpe.mem_iff.2 he)
  exact ⟨y,hy,(rg_of hy).symm⟩
 rcases es' with _ | ⟨e3,_ | ⟨e4,_ | ⟨e5,_ | ⟨e6,l⟩⟩⟩⟩
 · cases hm
 · simp at hm
 · simp at hm
 · simp only [List.map_cons,List.map_nil,List.cons.injEq,and_true] at hm
   obtain ⟨m3,m4,m5⟩:=hm
   obtain ⟨y3,k3,l3⟩:=hr e3 (by simp)
   obtain ⟨y4,k4,l4⟩:=hr e4 (by simp)
   obtain ⟨y5,k5,l5⟩:=hr e5 (by simp)
   obtain ⟨a3,b3⟩:=entry_is (f0:=194) (by kernel_rfl) k3 (l3.trans m3)
   obtain ⟨a4,b4⟩:=entry_is (f0:=196) (by kernel_rfl) k4 (l4.trans m4)
   obtain ⟨a5,b5⟩:=entry_is (f0:=197) (by kernel_rfl) k5 (l5.trans m5)
   have hcell:W.cell? ⟨0,0,none⟩=some (.map (some bm)):=by
    have:=World.var?_cell hg hv 0
    rw [Array.eq_one_of_toList hcs] at this
    simpa using this
   intro g x hx
   match g,hx with
   | 0,hx =>
     cases hx
     refine ⟨0,0,[.map (some bm)],rfl,repVs_cons.2 ⟨_,[],rfl,?_,by simp [RepVs]⟩,by intro u hu;simp at hu;subst hu;rfl,cell_at hcell⟩
     refine ⟨[.int .i64 3,.int .i64 4,.int .i64 5],[.func (.func 194) #[] #[],.func (.func 196) #[] #[],.func (.func 197) #[] #[]],?_,?_,.inr ⟨bm,rfl,es,clock,[e3,e4,e5],hb,by simp [a3,a4,a5],by simp [b3,b4,b5],.inr ⟨hpe,by simp [a3,a4,a5],.i64,?_⟩⟩⟩
     · simp [RepVs,RepV]
     · simp [RepVs,RepV]
     · intro e he
       simp at he
       rcases he with rfl | rfl | rfl
       · exact ⟨3,a3⟩
       · exact ⟨4,a4⟩
       · exact ⟨5,a5⟩
 · simp at hm
end Go.Proofs.YtchlampphcaomaaGreatDoor
namespace Go.Proofs.YtchlampphcaomaaGreatDoor
theorem own:ownKnob Tryz.prog.godebug=none:=by kernel_rfl
abbrev laidL : List (String × DataW Unit) := [("alum/expr.operators", Rows.laid_alum_expr_operators)]
theorem door_met (os:Os) (args:Array Value):laidMetH Tryz.prog laidL ((World.doorLaid Tryz.prog 29 os).forCall (fun _ _=>0) ⟨#[],args,[]⟩).memory :=
 laidMetH_of_parts3 (fuel:=8) (laidMet_of_run' 8 (by kernel_rfl) (by kernel_rfl)) (by kernel_rfl) (by kernel_rfl)
end Go.Proofs.YtchlampphcaomaaGreatDoor
