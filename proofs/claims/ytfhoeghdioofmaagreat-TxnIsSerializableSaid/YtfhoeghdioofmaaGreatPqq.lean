/-
 A part of the proof.
-/
import Derived.Test.YtfhoeghdioofmaaGreatKjj
set_option linter.unusedSimpArgs false
set_option linter.unusedVariables false
namespace Go.Proofs.Try
open Go.Al
set_option maxRecDepth 100000
def Wr (h:List Acc) (i:Nat):Prop:=i<h.length/\(at' h i).done=true/\0<(at' h i).writes.length
theorem Wr.writer {h:List Acc} {i:Nat} (hw:Wr h i):(at' h i).writer=true:=by simp only [Acc.writer,hw.2.1,hw.2.2,decide_true,Bool.and_self]
theorem Wr.stamp {h:List Acc} {i:Nat} (hc:checkS h=0) (hw:Wr h i):(at' h i).snap<(at' h i).stamp/\(at' h i).stamp<=1073741824:=by
 obtain ⟨f1,f2,f3,f4,f5,f6,f7,f8,f9⟩:=check_formed hc i hw.1
 exact f8 hw.writer
theorem snap_nn {h:List Acc} {i:Nat} (hc:checkS h=0) (hi:i<h.length):0<=(at' h i).snap/\(at' h i).snap<=1073741824:=by
 obtain ⟨f1,f2,f3,f4,f5,f6,f7,f8,f9⟩:=check_formed hc i hi
 exact ⟨f3,f4⟩
theorem stamps_ne {h:List Acc} {i j:Nat} (hc:checkS h=0) (hi:Wr h i) (hj:Wr h j) (hij:i≠j):(at' h i).stamp≠(at' h j).stamp:=by
 intro e
 have hi2:=hi.stamp hc
 have hj2:=hj.stamp hc
 have hi3:=snap_nn hc hi.1
 have hj3:=snap_nn hc hj.1
 obtain ⟨_,hb,_⟩:=check_zero.1 hc
 rcases Nat.lt_or_gt_of_ne hij with hl | hl
 . exact hb (.inr ⟨i,j,hl,hj.1,e,by omega⟩)
 . exact hb (.inr ⟨j,i,hl,hi.1,e.symm,by omega⟩)
theorem Meet.symm {a b:List Int} (h:Meet a b):Meet b a:=by
 obtain ⟨x,h1,h2⟩:=h;exact ⟨x,h2,h1⟩
theorem Meet.left {a b:List Int} (h:Meet a b):0<a.length:=by
 obtain ⟨x,h1,h2⟩:=h;exact List.length_pos_of_mem h1
theorem Meet.right {a b:List Int} (h:Meet a b):0<b.length:=h.symm.left
theorem no_clash {h:List Acc} {i j:Nat} (hc:checkS h=0) (hi:Wr h i) (hj:Wr h j) (hij:i≠j) (hm:Meet (at' h i).writes (at' h j).writes):¬ ((at' h i).snap<(at' h j).stamp/\(at' h j).snap<(at' h i).stamp):=by
 rintro ⟨e1,e2⟩
 obtain ⟨_,_,hb⟩:=check_zero.1 hc
 rcases Nat.lt_or_gt_of_ne hij with hl | hl
 . exact hb ⟨j,i,hl,hj.1,hj.writer,hi.writer,e2,e1,hm⟩
 . exact hb ⟨i,j,hl,hi.1,hi.writer,hj.writer,e1,e2,hm.symm⟩
theorem writers_order {h:List Acc} {i j:Nat} (hc:checkS h=0) (hi:Wr h i) (hj:Wr h j) (hm:Meet (at' h i).writes (at' h j).writes) (hs:(at' h i).stamp<(at' h j).stamp):(at' h i).stamp<=(at' h j).snap:=by
 have hij:i≠j:=by rintro rfl;omega
 have:=no_clash hc hi hj hij hm
 have:=hi.stamp hc
 omega
def kap (x:Acc):Int:=if 0<x.writes.length then 2 * x.stamp else 2 * x.snap+1
theorem kap_wr {h:List Acc} {i:Nat} (hw:Wr h i):kap (at' h i)=2 * (at' h i).stamp:=if_pos hw.2.2
theorem kap_nn {h:List Acc} {i:Nat} (hc:checkS h=0) (hi:i<h.length) (hd:(at' h i).done=true):0<=kap (at' h i):=by
 have:=snap_nn hc hi
 by_cases hw:0<(at' h i).writes.length
 . have:=Wr.stamp hc ⟨hi,hd,hw⟩
   rw [kap_wr ⟨hi,hd,hw⟩];omega
 . rw [kap,if_neg hw];omega
theorem kap_snap {h:List Acc} {i:Nat} (hc:checkS h=0) (hi:i<h.length) (hd:(at' h i).done=true):2 * (at' h i).snap<kap (at' h i):=by
 by_cases hw:0<(at' h i).writes.length
 . have:=Wr.stamp hc ⟨hi,hd,hw⟩
   rw [kap_wr ⟨hi,hd,hw⟩];omega
 . rw [kap,if_neg hw];omega
theorem edge_done {h:List Acc} {i j:Nat} (he:Edge h i j):(at' h i).done=true/\(at' h j).done=true:=by
 obtain ⟨_,he⟩:=he
 rcases he with he | he
 . exact ⟨he.1,he.2.1⟩
 . exact ⟨he.1,he.2.1⟩
theorem done_lt {h:List Acc} {i:Nat} (hd:(at' h i).done=true):i<h.length:=by
 refine Classical.byContradiction fun hn=>?_
 have:at' h i=default:=by simp [at',List.getElem?_eq_none (Nat.le_of_not_lt hn)]
 rw [this] at hd
 cases hd
theorem plain_kap {h:List Acc} {i j:Nat} (hc:checkS h=0) (hi:i≠j) (he:PlainE (at' h i) (at' h j)):Wr h i/\(at' h i).stamp<=(at' h j).snap:=by
 obtain ⟨d1,d2,he⟩:=he
 have l1:=done_lt d1
 have l2:=done_lt d2
 rcases he with ⟨hm,hs⟩ | ⟨hm,hs⟩
 . have w1:Wr h i:=⟨l1,d1,hm.left⟩
   exact ⟨w1,writers_order hc w1 ⟨l2,d2,hm.right⟩ hm hs⟩
 . exact ⟨⟨l1,d1,hm.left⟩,hs⟩
theorem dang_of_stuck {h:List Acc} (hc:checkS h=0) {S:Nat->Prop} (hne:∃ j,S j) (hS:∀ j,S j->j<h.length/\(at' h j).done=true) (hp:∀ j,S j->∃ i,S i/\Edge h i j) :
 ∃ a b c,a<h.length/\b<h.length/\c<h.length/\Dang h a b c:=by
 obtain ⟨n,⟨c,hcS,hcn⟩,hmin⟩:=exists_least (p:=fun n:Nat=>∃ j,S j/\kap (at' h j)=(n:Int)) (by
  obtain ⟨j,hj⟩:=hne
  obtain ⟨k,hk⟩:=Int.eq_ofNat_of_zero_le (kap_nn hc (hS j hj).1 (hS j hj).2)
  exact ⟨k,j,hj,hk⟩)
 have hle:∀ j,S j->kap (at' h c)<=kap (at' h j):=fun j hj=>by
  obtain ⟨k,hk⟩:=Int.eq_ofNat_of_zero_le (kap_nn hc (hS j hj).1 (hS j hj).2)
  have:=hmin k
  by_cases e:k<n
  . exact absurd ⟨j,hj,hk⟩ (this e)
  . omega
 obtain ⟨b,hbS,hbc⟩:=hp c hcS
 obtain ⟨a,haS,hab⟩:=hp b hbS
 obtain ⟨c1,c2⟩:=hS c hcS
 obtain ⟨b1,b2⟩:=hS b hbS
 obtain ⟨a1,a2⟩:=hS a haS
 have kb:=hle b hbS
 have ka:=hle a haS
 have sb:=kap_snap hc b1 b2
 have sc:=kap_snap hc c1 c2
 -- the edge to c
 have antib:AntiE (at' h b) (at' h c):=by
  rcases hbc.2 with hpl | han
  . obtain ⟨w,hs⟩:=plain_kap hc hbc.1 hpl
    have:=kap_wr w
    omega
  . exact han
 have wc:Wr h c:=⟨c1,c2,antib.2.2.1.right⟩
 have kc:=kap_wr wc
 have hsb:=antib.2.2.2
 have wb:Wr h b:=by
  refine ⟨b1,b2,Classical.byContradiction fun hn=>?_⟩
  have:kap (at' h b)=2 * (at' h b).snap+1:=if_neg hn
  omega
 have kb2:=kap_wr wb
 have hne1:=stamps_ne hc wc wb (Ne.symm hbc.1)
 -- the edge to b
 have antia:AntiE (at' h a) (at' h b):=by
  rcases hab.2 with hpl | han
  . obtain ⟨w,hs⟩:=plain_kap hc hab.1 hpl
    have:=kap_wr w
    omega
  . exact han
 refine ⟨a,b,c,a1,b1,c1,⟨hab.1,antia⟩,⟨hbc.1,antib⟩,by omega,?_⟩
 by_cases e:a=c
 . exact .inl e
 . by_cases hw:0<(at' h a).writes.length
   . have wa:Wr h a:=⟨a1,a2,hw⟩
     have:=kap_wr wa
     have:=stamps_ne hc wc wa (Ne.symm e)
     exact .inr (.inl ⟨hw,by omega⟩)
   . have:kap (at' h a)=2 * (at' h a).snap+1:=if_neg hw
     exact .inr (.inr ⟨by omega,by omega⟩)
theorem dang_of_none {h:List Acc} (hc:checkS h=0) (hs:SerialS h none):∃ a b c,a<h.length/\b<h.length/\c<h.length/\Dang h a b c:=by
 obtain ⟨out,hseq,⟨j,hj1,hj2,hj3⟩,hn⟩:=hs
 refine dang_of_stuck hc (S:=fun i=>i<h.length/\(at' h i).done=true/\i ∉ out) ⟨j,hj1,hj2,hj3⟩ (fun i hi=>⟨hi.1,hi.2.1⟩) ?_
 rintro i ⟨h1,h2,h3⟩
 refine Classical.byContradiction fun hno=>hn i ⟨h1,h2,h3,fun k hk he=>Classical.byContradiction fun hk2=>hno ⟨k,⟨hk,(edge_done he).1,hk2⟩,he⟩⟩
theorem getD_nodup {l:List Nat} (hn:l.Nodup) {i j:Nat} (hi:i<l.length) (hj:j<l.length) (e:l.getD i 0=l.getD j 0):i=j:=by
 rw [getD_get hi,getD_get hj] at e
 exact (List.getElem_inj hn).1 e
theorem mem_get {l:List Nat} {x:Nat} (h:x ∈ l):∃ i,i<l.length/\l.getD i 0=x:=by
 obtain ⟨i,hi,rfl⟩:=List.getElem_of_mem h
 exact ⟨i,hi,getD_get hi⟩
theorem get_mem {l:List Nat} {i:Nat} (hi:i<l.length):l.getD i 0 ∈ l:=by
 rw [getD_get hi];exact List.getElem_mem hi
theorem take_getD {l:List Nat} {i k:Nat} (hi:i<k):(l.take k).getD i 0=l.getD i 0:=by
 simp only [List.getD_eq_getElem?_getD,List.getElem?_take,if_pos hi]
theorem fwd_lt {h:List Acc} {ol:List Nat} (hf:FwdO h ol) (hn:ol.Nodup) {i j:Nat} (hi:i<ol.length) (hj:j<ol.length) (he:Edge h (ol.getD i 0) (ol.getD j 0)):i<j:=by
 obtain ⟨i',j',h1,h2,h3,h4⟩:=hf _ _ he
 have:=getD_nodup hn (by omega) hi h3
 have:=getD_nodup hn h2 hj h4
 omega
theorem fwd_of_serial {h:List Acc} {ol:List Nat} (hs:SerialS h (some ol)):FwdO h ol:=by
 obtain ⟨hseq,hall⟩:=hs
 intro a b he
 obtain ⟨da,db⟩:=edge_done he
 obtain ⟨j,hj,hb⟩:=mem_get (hall b (done_lt db) db)
 obtain ⟨⟨_,_,_,h4⟩,_⟩:=hseq j hj
 obtain ⟨i,hi,ha⟩:=mem_get (h4 a (done_lt da) (by rw [hb];exact he))
 rw [List.length_take] at hi
 rw [take_getD (by omega)] at ha
 exact ⟨i,j,by omega,hj,ha,hb⟩
theorem lastW_at {h:List Acc} {x:Int}:∀ {l:List Nat} {i:Nat},i<l.length->x ∈ (at' h (l.getD i 0)).writes->(∀ j,i<j->j<l.length->x ∉ (at' h (l.getD j 0)).writes)->lastAW h l x=some (l.getD i 0):=by
 intro l
 induction hl:l.length generalizing l with
 | zero=>intro i hi;omega
 | succ n ih =>
   intro i hi hx hno
   obtain ⟨l',y,rfl⟩:∃ l' y,l=l'++[y]:=⟨l.dropLast,l.getLast (by intro e;simp [e] at hl),(List.dropLast_concat_getLast _).symm⟩
   have hl':l'.length=n:=by simpa using hl
   rw [lastAW_snoc]
   by_cases e:i=n
   . subst e
     rw [<- hl',getD_append_eq] at hx ⊢
     rw [if_pos hx]
   . have hy:=hno n (by omega) (by omega)
     rw [<- hl',getD_append_eq] at hy
     rw [if_neg hy]
     rw [getD_append_lt (by omega)] at hx ⊢
     refine ih hl' (by omega) hx fun j h1 h2=>?_
     have:=hno j h1 (by omega)
     rwa [getD_append_lt (by omega)] at this
theorem lastW_pos {h:List Acc} {x:Int}:∀ {l:List Nat} {b:Nat},lastAW h l x=some b->∃ i,i<l.length/\l.getD i 0=b/\x ∈ (at' h b).writes/\∀ j,i<j->j<l.length->x ∉ (at' h (l.getD j 0)).writes:=by
 intro l
 induction hl:l.length generalizing l with
 | zero=>intro b e;rw [List.eq_nil_of_length_eq_zero hl] at e;cases e
 | succ n ih =>
   intro b e
   obtain ⟨l',y,rfl⟩:∃ l' y,l=l'++[y]:=⟨l.dropLast,l.getLast (by intro e;simp [e] at hl),(List.dropLast_concat_getLast _).symm⟩
   have hl':l'.length=n:=by simpa using hl
   rw [lastAW_snoc] at e
   split at e
   . rename_i hy
     cases e
     exact ⟨n,by omega,by rw [<- hl',getD_append_eq],hy,fun j h1 h2=>by omega⟩
   . rename_i hy
     obtain ⟨i,h1,h2,h3,h4⟩:=ih hl' e
     refine ⟨i,by omega,by rw [getD_append_lt (by omega)];exact h2,h3,fun j h5 h6=>?_⟩
     by_cases e2:j=n
     . subst e2;rw [<- hl',getD_append_eq];exact hy
     . rw [getD_append_lt (by omega)];exact h4 j h5 (by omega)
theorem srcTo_max {h:List Acc} {x snap:Int}:∀ {m:Nat},(srcTo h x snap m=none->∀ i,i<m->¬ Cand h x snap i)/\∀ b,srcTo h x snap m=some b->∀ i,i<m->Cand h x snap i->(at' h i).stamp<=(at' h b).stamp
 | 0=>⟨fun _ i hi=>by omega,fun b e=>by cases e⟩
 | m+1=>by
   obtain ⟨ih1,ih2⟩:=srcTo_max (h:=h) (x:=x) (snap:=snap) (m:=m)
   cases e:srcTo h x snap m with
   | none =>
     by_cases c:Cand h x snap m
     . rw [srcTo_some_of e c]
       refine ⟨fun e=>(by cases e),fun b e2 i hi hc=>?_⟩
       cases e2
       by_cases e3:i=m
       . subst e3;exact Int.le_refl _
       . exact absurd hc (ih1 e i (by omega))
     . rw [srcTo_none_of e c]
       refine ⟨fun _ i hi=>?_,fun b e=>by cases e⟩
       by_cases e3:i=m
       . subst e3;exact c
       . exact ih1 e i (by omega)
   | some b =>
     by_cases c:Cand h x snap m/\(at' h b).stamp<(at' h m).stamp
     . rw [srcTo_new_of e c]
       refine ⟨fun e=>(by cases e),fun b' e2 i hi hc=>?_⟩
       cases e2
       by_cases e3:i=m
       . subst e3;exact Int.le_refl _
       . have:=ih2 b e i (by omega) hc;omega
     . rw [srcTo_keep_of e c]
       refine ⟨fun e=>(by cases e),fun b' e2 i hi hc=>?_⟩
       cases e2
       by_cases e3:i=m
       . subst e3
         exact Int.not_lt.1 fun hlt=>c ⟨hc,hlt⟩
       . exact ih2 b e i (by omega) hc
theorem Cand.wr {h:List Acc} {x snap:Int} {i:Nat} (hc:Cand h x snap i):Wr h i:=by
 obtain ⟨h1,h2,h3⟩:=hc
 simp only [Acc.writer,Bool.and_eq_true,decide_eq_true_eq] at h2
 exact ⟨done_lt h2.1,h2.1,h2.2⟩
theorem srcV_some {h:List Acc} {x snap:Int} {b:Nat} (e:srcV h x snap=some b):Cand h x snap b/\∀ i,Cand h x snap i->(at' h i).stamp<=(at' h b).stamp :=
 ⟨(srcTo_lt e).2,fun i hi=>srcTo_max.2 b e i hi.wr.1 hi⟩
theorem srcV_none {h:List Acc} {x snap:Int} (e:srcV h x snap=none) (i:Nat):¬ Cand h x snap i:=fun hc=>srcTo_max.1 e i hc.wr.1 hc
theorem srcV_eq {h:List Acc} {x snap:Int} {b:Nat} (hc:checkS h=0) (hb:Cand h x snap b) (hm:∀ i,Cand h x snap i->(at' h i).stamp<=(at' h b).stamp):srcV h x snap=some b:=by
 cases e:srcV h x snap with
 | none=>exact absurd hb (srcV_none e b)
 | some c =>
   obtain ⟨h1,h2⟩:=srcV_some e
   by_cases hbc:c=b
   . rw [hbc]
   . have:=stamps_ne hc h1.wr hb.wr hbc
     have:=h2 b hb
     have:=hm c h1
     omega
theorem cand_of {h:List Acc} {x snap:Int} {i:Nat} (hd:(at' h i).done=true) (hx:x ∈ (at' h i).writes) (hs:(at' h i).stamp<=snap):Cand h x snap i :=
 ⟨hx,Wr.writer ⟨done_lt hd,hd,List.length_pos_of_mem hx⟩,hs⟩
theorem edge_wr {h:List Acc} {i j:Nat} {x:Int} (hij:i≠j) (h1:(at' h i).done=true) (h2:(at' h j).done=true) (hx:x ∈ (at' h i).writes) (hy:x ∈ (at' h j).reads) (hs:(at' h i).stamp<=(at' h j).snap):Edge h i j :=
 ⟨hij,.inl ⟨h1,h2,.inr ⟨⟨x,hx,hy⟩,hs⟩⟩⟩
theorem edge_ww {h:List Acc} {i j:Nat} {x:Int} (hij:i≠j) (h1:(at' h i).done=true) (h2:(at' h j).done=true) (hx:x ∈ (at' h i).writes) (hy:x ∈ (at' h j).writes) (hs:(at' h i).stamp<(at' h j).stamp):Edge h i j :=
 ⟨hij,.inl ⟨h1,h2,.inl ⟨⟨x,hx,hy⟩,hs⟩⟩⟩
theorem edge_rw {h:List Acc} {i j:Nat} {x:Int} (hij:i≠j) (h1:(at' h i).done=true) (h2:(at' h j).done=true) (hx:x ∈ (at' h i).reads) (hy:x ∈ (at' h j).writes) (hs:(at' h i).snap<(at' h j).stamp):Edge h i j :=
 ⟨hij,.inr ⟨h1,h2,⟨x,hx,hy⟩,hs⟩⟩
theorem eqv_of_fwd {h:List Acc} {ol:List Nat} (hc:checkS h=0) (hn:ol.Nodup) (hm:∀ i,i ∈ ol↔(i<h.length/\(at' h i).done=true)) (hf:FwdO h ol):EqvO h (natL ol) ol:=by
 have hd:∀ j,j<ol.length->(at' h (ol.getD j 0)).done=true:=fun j hj=>((hm _).1 (get_mem hj)).2
 refine ⟨rfl,hn,hm,fun k hk x hx=>?_,fun x hx=>?_⟩
 . have dt:=hd k hk
   cases e:srcV h x (at' h (ol.getD k 0)).snap with
   | some w =>
     obtain ⟨cw,cm⟩:=srcV_some e
     have dw:=cw.wr.2.1
     have hwt:w≠ol.getD k 0:=by
      rintro rfl
      have:=cw.wr.stamp hc
      have:=cw.2.2
      omega
     obtain ⟨i,hi,rfl⟩:=mem_get ((hm w).2 ⟨cw.wr.1,dw⟩)
     have hik:=fwd_lt hf hn hi hk (edge_wr hwt dw dt cw.1 hx cw.2.2)
     have hat:=lastW_at (h:=h) (x:=x) (l:=ol.take k) (i:=i) (by rw [List.length_take];omega) (by rw [take_getD hik];exact cw.1) fun j h1 h2=>by
      rw [List.length_take] at h2
      rw [take_getD (by omega)]
      intro hy
      have dy:=hd j (by omega)
      by_cases hs:(at' h (ol.getD j 0)).stamp<=(at' h (ol.getD k 0)).snap
      . have cy:=cand_of dy hy hs
        have hne:ol.getD j 0≠ol.getD i 0:=fun e2=>by have:=getD_nodup hn (by omega) hi e2;omega
        have:=stamps_ne hc cy.wr cw.wr hne
        have:=cm _ cy
        have:=fwd_lt hf hn (by omega) hi (edge_ww hne dy dw hy cw.1 (by omega))
        omega
      . have hne:ol.getD k 0≠ol.getD j 0:=fun e2=>by have:=getD_nodup hn hk (by omega) e2;omega
        have:=fwd_lt hf hn hk (by omega) (edge_rw hne dt dy hx hy (by omega))
        omega
     rw [hat,take_getD hik]
   | none =>
     rw [lastW_none]
     intro y hy hxy
     obtain ⟨j,hj,rfl⟩:=mem_get hy
     rw [List.length_take] at hj
     rw [take_getD (by omega)] at hxy hy
     have dy:=hd j (by omega)
     by_cases hs:(at' h (ol.getD j 0)).stamp<=(at' h (ol.getD k 0)).snap
     . exact srcV_none e _ (cand_of dy hxy hs)
     . have hne:ol.getD k 0≠ol.getD j 0:=fun e2=>by have:=getD_nodup hn hk (by omega) e2;omega
       have:=fwd_lt hf hn hk (by omega) (edge_rw hne dt dy hx hxy (by omega))
       omega
 . obtain ⟨b,hb⟩:=Option.ne_none_iff_exists'.1 hx
   obtain ⟨i,hi,rfl,h3,h4⟩:=lastW_pos hb
   have db:=hd i hi
   have wb:Wr h (ol.getD i 0):=⟨done_lt db,db,List.length_pos_of_mem h3⟩
   rw [hb,srcV_eq hc (cand_of db h3 (wb.stamp hc).2)]
   intro y cy
   obtain ⟨j,hj,rfl⟩:=mem_get ((hm y).2 ⟨cy.wr.1,cy.wr.2.1⟩)
   by_cases e:j=i
   . subst e;exact Int.le_refl _
   . have hji:j<i:=Nat.lt_of_not_le fun hge=>h4 j (by omega) hj cy.1
     refine Int.not_lt.1 fun hlt=>?_
     have hne:ol.getD i 0≠ol.getD j 0:=fun e2=>by have:=getD_nodup hn hi hj e2;omega
     have:=fwd_lt hf hn hi hj (edge_ww hne db cy.wr.2.1 h3 cy.1 hlt)
     omega
theorem serial_mem {h:List Acc} {ol:List Nat} (hs:SerialS h (some ol)):∀ i,i ∈ ol↔(i<h.length/\(at' h i).done=true):=fun i=>⟨hs.1.ok i,fun hi=>hs.2 i hi.1 hi.2⟩
theorem eqv_of_serial {h:List Acc} {ol:List Nat} (hc:checkS h=0) (hs:SerialS h (some ol)):EqvS h (natL ol):=⟨hc,ol,eqv_of_fwd hc hs.1.nodup (serial_mem hs) (fwd_of_serial hs)⟩
end Go.Proofs.Try
