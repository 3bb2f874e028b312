/-
 A part of the proof.
-/
import Derived.Test.YtfhoeghdioofmaaGreatKjj
set_option linter.unusedSimpArgs false
set_option linter.unusedVariables false
namespace Go.Proofs.Try
open Go.Al
set_option maxRecDepth 100000
def Wr (h:List Acc) (i:Nat):Prop:=i<h.length/\(at' h i).done=true/\0<(at' h i).writes.length
theorem Wr.writer {h:List Acc} {i:Nat} (hw:Wr h i):(at' h i).writer=true:=by simp only [Acc.writer,hw.2.1,hw.2.2,decide_true,Bool.and_self]
theorem Wr.stamp {h:List Acc} {i:Nat} (hc:checkS h=0) (hw:Wr h i):(at' h i).snap<(at' h i).stamp/\(at' h i).stamp<=1073741824:=by
 obtain ⟨f1,f2,f3,f4,f5,f6,f7,f8,f9⟩:=check_formed hc i hw.1
 exact f8 hw.writer
theorem Meet.symm {a b:List Int} (h:Meet a b):Meet b a:=by
 obtain ⟨x,h1,h2⟩:=h;exact ⟨x,h2,h1⟩
theorem Meet.left {a b:List Int} (h:Meet a b):0<a.length:=by
 obtain ⟨x,h1,h2⟩:=h;exact List.length_pos_of_mem h1
theorem Meet.right {a b:List Int} (h:Meet a b):0<b.length:=h.symm.left
theorem done_lt {h:List Acc} {i:Nat} (hd:(at' h i).done=true):i<h.length:=by
 refine Classical.byContradiction fun hn=>?_
 have:at' h i=default:=by simp [at',List.getElem?_eq_none (Nat.le_of_not_lt hn)]
 rw [this] at hd
 cases hd
end Go.Proofs.Try
