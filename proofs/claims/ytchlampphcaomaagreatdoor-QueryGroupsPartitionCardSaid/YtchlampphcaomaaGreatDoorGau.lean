/-
 A part of the proof: see the text of the law.
-/
import Derived.Test.YtchlampphcaomaaGreatDoorAlphaK
import Derived.Test.YtchlampphcaomaaGreatDoorCode
import Derived.WalkKit
import Derived.Laws.Append
import Derived.Laws.AppendOwn
set_option linter.unusedSimpArgs false
set_option linter.unusedVariables false
namespace Go.Proofs.Try
open Go.Proofs.Tryz
open Go Go.Al Go.Proofs.Tryz
set_option maxRecDepth 100000
set_option maxHeartbeats 2000000
theorem rep25:(Array.replicate 25 undef:Array Value) = #[undef,undef,undef,undef,undef,undef,undef,undef,undef,undef,undef,undef,undef,undef,undef,undef,undef,undef,undef,undef,undef,undef,undef,undef,undef]:=by kernel_rfl
theorem call122 (n:Nat) (w:World) (hpos:(0:Int)<n) (hneg:¬ ((n:Int)<0)) (hw:IntKind.i64.wrap (n:Int)=n) (hn:n≤1000000) (hfit:¬ (281474976710656<Builtin.nextslicecap n 0 * 32)) :
 Calls Tryz.prog 122 #[.slice none 0 0,.int .i64 n] w fun e w'=>e=.returned (.slice (some ⟨w.heap.size,0,none⟩) 0 (grownCap w n 0 25))∧w'=w.drew.alloc (.cells (Builtin.zeroCells #[.int .i64 0,.int .i64 0,.string ByteArray.empty] n++Builtin.zeroCells #[.int .i64 0,.int .i64 0,.string ByteArray.empty] (grownCap w n 0 25 - n)) 25):=by
 have hm:=hm
 have hb:t25.bytes=32:=by kernel_rfl
 go_enter func122,(by kernel_rfl:f122.ntmps=27)
 rw [show f122.ntmps - 2=25 from by rw [(by kernel_rfl:f122.ntmps=27)],rep25]
 simp only [ List.append_toArray,List.nil_append,List.cons_append]
 go_wp2
 go_ret
 exact ⟨rfl,rfl⟩
theorem call122z (w:World):Calls Tryz.prog 122 #[.slice none 0 0,.int .i64 0] w fun e w'=>e=.returned (.slice none 0 0)∧w'=w:=by
 have hm:=hm
 go_enter func122,(by kernel_rfl:f122.ntmps=27)
 rw [show f122.ntmps - 2=25 from by rw [(by kernel_rfl:f122.ntmps=27)],rep25]
 simp only [List.append_toArray,List.nil_append,List.cons_append]
 go_wp2
 go_ret
 exact ⟨rfl,rfl⟩
abbrev zV:AV:=.agg [.int .i64 0,.int .i64 0,.str ⟨#[]⟩]
theorem G37_drew (w:World) (o:Obj):w.drawn≤(w.drew.alloc o).drawn:=Nat.le_succ _
theorem c122 (n:Nat) (hn:n≤1000000):ACalls E.P 122 [.raw (.slice none 0 0),.int .i64 n] [] (fun r H=>r=.sub 0 3 0 0∧H=[.arr 25 3 (List.replicate n zV)]):=by
 refine ⟨⟨f122,func122,by kernel_rfl,by kernel_rfl⟩,fun γ σ w vs hi hv=>?_⟩
 obtain ⟨v1,vs1,rfl,h1,h2⟩:=repVs_cons.1 hv
 obtain ⟨v2,vs2,rfl,h3,h4⟩:=repVs_cons.1 h2
 rw [repVs_nil] at h4
 simp only [RepV] at h1 h3
 have hσ:σ=[]:=List.eq_nil_of_length_eq_zero (by rw [hi.len];rfl)
 subst hσ
 subst h3 h4
 obtain ⟨rfl,_⟩:v1=.slice none 0 0∧True:=⟨by first | exact h1 | exact h1.1 | exact h1.1.symm | exact h1.symm,trivial⟩
 have h25:E.TI 25=some ⟨.struct [(0,3),(1,3),(2,9)],3,32,[.int .i64 0,.int .i64 0,.string ByteArray.empty],true,true,false⟩:=rfl
 obtain ⟨inf,z,hi1,hi2,hi3,hi4,hzs,hz⟩:=repV_zero (E:=E) (hE 25 _ h25)
 by_cases h0:n=0
 · subst h0
   refine (call122z w).mono ?_
   rintro e w' ⟨rfl,hw'⟩
   rw [hw']
   obtain ⟨hi',hst⟩:=hi.new (m:=0) (blk':=none) (cap':=0) (w':=w) (o':=.arr 25 3 []) (Nat.le_refl _) (fun _ _=>rfl) rfl rfl rfl (fun b hb=>by cases hb) (repO_arr.2 ⟨[],by simp [RepVs],by simp,by omega,by simp,by simp [flat],.inl ⟨rfl,by simp [flat]⟩⟩) (Nat.le_refl _)
   refine ⟨_,γ,_,.sub 0 3 0 0,[.arr 25 3 []],rfl,hst,hi',?_,rfl,rfl⟩
   exact ⟨some (none,0),by simp,rfl,fun blk cap he=>by cases he;exact ⟨none,rfl,by simp,by simp,by simp,by simp⟩⟩
 · have hfit:=growslice_fits (need:=n) (old:=0) (bytes:=32) (by omega) (by omega)
   refine (call122 n w (by omega) (by omega) (wrap_i64 (by omega) (by omega)) hn (by omega)).mono ?_
   rintro e w' ⟨rfl,rfl⟩
   have hge:=grownCap_ge w n 0 25
   have hcm:=grownCap_le_maxLen w n 0 25 (by simp only [maxLen];omega)
   generalize grownCap w n 0 25=cap at *
   have hzz:∀ σ,RepVs γ σ (List.replicate n zV) (List.replicate n z):=fun σ=>by
    have:=RepVs.map (γ:=γ) (σ:=σ) (f:=fun _:Nat=>zV) (g:=fun _=>z) (l:=List.range n) (fun _ _=>hz _ _)
    simpa [List.map_const'] using this
   have hzok:∀ u ∈ List.replicate n z,okEl 3 u:=fun u hu=>by rw [(List.mem_replicate.1 hu).2];exact hzs
   obtain ⟨inf',z',g1,g2,g3,g4,g5,g6⟩:=(hE 25 _ h25).info
   rw [hi1] at g1
   cases g1
   rw [hi4] at g4
   cases g4
   have hzc:z.cells = #[.int .i64 0,.int .i64 0,.string ByteArray.empty]:=Array.ext' g5
   have hcells:∀ k,(Builtin.zeroCells #[.int .i64 0,.int .i64 0,.string ByteArray.empty] k).size=k * 3:=fun k=>by rw [size_zeroCells];rfl
   have hfl:(Builtin.zeroCells #[.int .i64 0,.int .i64 0,.string ByteArray.empty] n).toList=flat (List.replicate n z):=by
    apply List.ext_getElem?
    intro j
    have hfl:=flat_length hzok
    simp only [List.length_replicate] at hfl
    by_cases hj:j<n * 3
    · rw [flat_replicate_get hzs (by simp) hj,hzc]
      have hlt:j % 3<3:=Nat.mod_lt _ (by omega)
      simp only [Builtin.zeroCells]
      rw [Array.toList_map,List.getElem?_map]
      have h3:j % 3=0∨j % 3=1∨j % 3=2:=by omega
      rcases h3 with h3 | h3 | h3 <;> simp [h3,hj]
    · rw [List.getElem?_eq_none (by rw [Array.length_toList,hcells];omega),List.getElem?_eq_none (by omega)]
   generalize Builtin.zeroCells #[.int .i64 0,.int .i64 0,.string ByteArray.empty] n=z1 at *
   have hs1:=hcells (cap - n)
   generalize Builtin.zeroCells #[.int .i64 0,.int .i64 0,.string ByteArray.empty] (cap - n)=z2 at *
   have hz1:z1.size=n * 3:=by
    have:=congrArg List.length hfl
    rw [Array.length_toList,flat_length hzok,List.length_replicate] at this
    exact this
   have hrow:RepO γ ([]++[some (some w.heap.size,cap)]) (w.drew.alloc (.cells (z1++z2) 25)) (some (some w.heap.size,cap)) (.arr 25 3 (List.replicate n zV)):=by
    refine repO_arr.2 ⟨List.replicate n z,hzz _,hzok,by omega,by rw [List.length_replicate];exact hge,?_⟩
    rw [List.length_replicate]
    refine ⟨by rw [← hfl,Array.length_toList,hz1],.inr ⟨w.heap.size,cap,z1++z2,rfl,Nat.zero_le _,heap_alloc_new w.drew _,hge,hcm,?_,?_⟩⟩
    · rw [Array.size_append,hz1,hs1,← Nat.add_mul]
      congr 1
      omega
    · rw [Array.toList_append,← hfl]
      rw [show n * 3=z1.toList.length by rw [Array.length_toList,hz1]]
      exact List.take_left
   obtain ⟨hi',hst⟩:=hi.new (m:=0) (blk':=some w.heap.size) (cap':=cap) (w':=w.drew.alloc (.cells (z1++z2) 25)) (by simp) (fun b hb=>heap_alloc_old w.drew _ hb) rfl rfl rfl (fun b hb=>by cases hb;simp) hrow (G37_drew _ _)
   refine ⟨_,γ,_,.sub 0 3 0 0,[.arr 25 3 (List.replicate n zV)],rfl,hst,hi',?_,rfl,rfl⟩
   exact ⟨some (some w.heap.size,cap),by simp,rfl,fun blk cap he=>by cases he;exact ⟨_,rfl,by simp,hcm,fun _=>⟨_,rfl,rfl⟩,fun _=>rfl⟩⟩
end Go.Proofs.Try
