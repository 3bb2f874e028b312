/-
 A part of the proof: see the text of the law.
-/
import Derived.Test.YtchlampphcaomaaGreatDoorLaa
import Derived.Test.YtchlampphcaomaaGreatDoorPae
set_option linter.unusedSimpArgs false
set_option linter.unusedVariables false
namespace Go.Proofs.Try
open Go.Proofs.Tryz
open Go.Al
set_option maxRecDepth 100000
set_option maxRecDepth 20000
set_option maxHeartbeats 64000000
theorem cmL_map {f:Int→Int}:∀ l:List EX,EX.cmL f l=l.map (EX.cm f)
 | []=>rfl
 | e::es=>by simp [EX.cmL,cmL_map es]
theorem count_mem {e:EX}:∀ {l:List EX},e ∈ l→e.count≤EX.countL l
 | [],h=>by cases h
 | x::l,h=>by
   rcases List.mem_cons.1 h with rfl | h
   · simp only [EX.countL];omega
   · have:=count_mem h
     simp only [EX.countL];omega
theorem fs_cm (f:Int→Int) (op n k i:Int) (s:ByteArray) (args:List EX):((EX.mk op n k i s args).cm f).fs=[.int .i64 op,.int .i64 (if op=1 then f n else n),.int .i64 k,.int .i64 i,.str s,.view 6 ((args.map (EX.cm f)).map EX.av)]:=by
 simp [EX.cm,EX.fs,EX.op,EX.n,EX.val,EX.args,cmL_map]
theorem take_cm {f:EX→EX} {l:List EX} {j:Nat} (h:j<l.length):((l.take (j+1)).map f).map EX.av=((l.take j).map f).map EX.av++[.agg (f (l.getD j default)).fs]:=by
 rw [List.take_succ_eq_append_getElem h,List.map_append,List.map_append]
 simp [h,av_fs]
abbrev cmF (op n k i:Int) (s:ByteArray) (args:List EX) (f:Int→Int) (j:Nat) (l:List AObj):List AObj :=
 if j=0 then l++[.box [.int .i64 op,.int .i64 n,.int .i64 k,.int .i64 i,.str s,.raw (.slice none 0 0)]]
 else l++[.box [.int .i64 op,.int .i64 n,.int .i64 k,.int .i64 i,.str s,.slc 3 6 j],.arr 28 6 (((args.take j).map (EX.cm f)).map EX.av)]
theorem fm_len {op n k i:Int} {s:ByteArray} {args:List EX} (h:(EX.mk op n k i s args).fm=true):args.length≤2:=by
 have h1:=(fm_mk.1 h).1
 unfold ar at h1
 split at h1
 · omega
 split at h1
 · omega
 split at h1 <;> omega
theorem mem23:(3 ∈ [2,3])=True∧(2 ∈ [2,3])=True:=by simp
end Go.Proofs.Try
