/-
 A part of the proof.
-/
import Derived.Test.YtfhoeghdioofmaaGreatErr
set_option linter.unusedSimpArgs false
set_option linter.unusedVariables false
namespace Go.Proofs.Try
open Go.Al
set_option maxRecDepth 100000
set_option maxHeartbeats 16000000
theorem pa_ux (u:UX) {H:List AObj} {l:List Nat} {bor:Bool} {n:Nat}:pa H l bor (n+1) u.av=u.av:=by simp [UX.av,UX.cs,pa_agg,pa_int,pa_bool,pa_view]
theorem pa_uxs (x:List UX) {H:List AObj} {l:List Nat} {bor:Bool} {n:Nat}:(x.map UX.av).map (pa H l bor (n+1))=x.map UX.av:=by
 rw [List.map_map];exact List.map_congr_left fun u _=>pa_ux u
theorem ux_av (u:UX):u.av=.agg u.cs:=rfl
theorem c21o (all:List UX) (hn:all.length<=100) (hb:∀ u ∈ all,u.rows.length<=1000/\u.log.length<=1000) (hkk:∀ u ∈ all,∀ w ∈ u.log,(0<=w.tab/\w.tab<=255)/\0<=w.row/\w.row<=1073741824) :
 ACalls E.P 21 [.slc 0 8 all.length] [.arr 49 8 (all.map UX.av)] (fun r H=>r=.view 6 ((fullS all).map accA)/\H=[.arr 49 8 (all.map UX.av)]):=by
 have hmax:=maxLen_eq
 have hepA:∀ {n:Nat} {m N d c},n<all.length->epR E.P m N (some (.arr 49 8 (all.map UX.av))) (n:Int) all.length 0 8 d c=rK E.P m N c d (.ep 0 8 n 0):=fun {n m N d c} h=>epR_ne (by rw [List.length_map]) (by omega) (by omega)
 refine ok21.acalls hE hm (by simp) fun N hN=>?_
 unfold mc21 q21_1 q21_0 z0 z1 pY pI pM pG pB pQ pF pL pA pR pS oM oL oF oS oQ oW
 simp only [lA,seval]
 refine loop_i (fun k:Nat=>k<=all.length) (fun k=>⟨[(0,.slc 0 8 all.length),(3,.slc 1 6 k),(4,.int .i64 k)],[.arr 49 8 (all.map UX.av),.arr 43 6 (((fullS all).take k).map accA)]⟩) (fun k=>all.length - k) 0 (by omega) (Ent.ghost' 3 43 6 (by omega) rfl (Ent.fr (by simp [FrSub,Go.Al.get]))) ?_
 rintro k hk
 by_cases hkl:k<all.length
 . have hum:=getD_mem' hkl
   obtain ⟨hr1,hl1⟩:=hb _ hum
   have htk:=take_succD (l:=fullS all) (i:=k) (by rw [fullS_len];exact hkl)
   have hfk:(fullS all).getD k default=fullA all (all.getD k default):=at_full hkl
   rw [hfk] at htk
   have hdk0:(all.map UX.av)[k]?=some (all.getD k default).av:=by simp [hkl]
   generalize hu:all.getD k default=u at *
   repeat' (first|(with_reducible apply St.o;constructor) <;> intro _|(with_reducible first|refine ai ?_|(apply Sp.o;constructor)|refine mkl_own ?_|refine ap_own ?_|refine base0_i ?_|refine any00_i ?_|refine frz0_i ?_|refine any_i [] ?_)|simp (disch:=omega) only [lE,seval,hepA,hdk0,ux_av,hu,ux_cs,Int.toNat_natCast,List.length_map])
   all_goals try (exfalso;omega)
   have hF:FrSub [(0,.slc 0 8 all.length),(3,.slc 1 6 k),(4,.int .i64 k),(5,.op 2 0),(6,.int .i64 (0:Nat))] [(0,.slc 0 8 all.length),(3,.slc 1 6 k),(4,.int .i64 k),(5,.op 2 0),(6,.int .i64 (0:Nat))]:=by simp [FrSub,Go.Al.get]
   have hent:∀ {fr:List (Nat × AV)},FrSub fr [(0,.slc 0 8 all.length),(3,.slc 1 6 k),(4,.int .i64 k),(5,.op 2 0),(6,.int .i64 (0:Nat))]->Ent 1 N ⟨fr,[.arr 49 8 (all.map UX.av),.arr 43 6 (((fullS all).take k).map accA),.box [.int .i64 u.mode,.int .i64 u.snap,.bool u.done,.int .i64 u.stamp,nilS',nilS']]⟩ ⟨[(0,.slc 0 8 all.length),(3,.slc 1 6 k),(4,.int .i64 k),(5,.op 2 0),(6,.int .i64 (0:Nat))],[.arr 49 8 (all.map UX.av),.arr 43 6 (((fullS all).take k).map accA),boxF u [] []]⟩:=fun h=>by
    have h1:=Ent.weakB (m:=1) (N:=N) (H:=[.arr 49 8 (all.map UX.av),.arr 43 6 (((fullS all).take k).map accA),.box [.int .i64 u.mode,.int .i64 u.snap,.bool u.done,.int .i64 u.stamp,nilS',nilS']]) (b:=2) (k:=4) (y':=.view 1 []) rfl rfl weak_nil h
    have h2:=Ent.weakB (m:=1) (N:=N) (H:=[.arr 49 8 (all.map UX.av),.arr 43 6 (((fullS all).take k).map accA),.box [.int .i64 u.mode,.int .i64 u.snap,.bool u.done,.int .i64 u.stamp,.view 1 [],nilS']]) (b:=2) (k:=5) (y':=.view 1 []) rfl rfl weak_nil hF
    exact h1.trans h2
   refine loop_i (fun i:Nat=>i<=u.rows.length) (fun i=>⟨[(0,.slc 0 8 all.length),(3,.slc 1 6 k),(4,.int .i64 k),(5,.op 2 0),(6,.int .i64 i)],[.arr 49 8 (all.map UX.av),.arr 43 6 (((fullS all).take k).map accA),boxF u (u.rows.take i) []]⟩) (fun i=>u.rows.length - i) 0 (by omega)
    (hent (by simp [FrSub,Go.Al.get])) ?_
   rintro i hi
   unfold boxF
   by_cases hil:i<u.rows.length
   . have htr:=take_succD hil
     have h72:=c72 (ascL (u.rows.take i)) (u.rows.getD i default) (by have:=ascL_len (u.rows.take i);rw [List.length_take] at this;omega)
     rw [<- ascL_snoc,<- htr] at h72
     generalize hx:u.rows.getD i default=x at *
     have hx0:u.rows.getD i 0=x:=hx
     repeat' (first|(with_reducible first|(apply St.o;constructor)<;>intro _|refine ai ?_|(apply Sq.o;constructor))|((with_reducible apply Sc.o false;constructor);simp only [lP,seval,hepA,hdk0,ux_av,hu,ux_cs,IdxR_int,hx,hx0,Int.toNat_natCast,List.length_map];refine ⟨_,h72,?_⟩;rintro _ _ ⟨rfl,rfl⟩;simp only [lA,lP,seval,hepA,hdk0,ux_av,hu,ux_cs,IdxR_int,hx,hx0,Int.toNat_natCast,List.length_map])|with_reducible refine any_i [2] ?_|simp (disch:=omega) only [lE,seval,hepA,hdk0,ux_av,hu,ux_cs,IdxR_int,hx,hx0,Int.toNat_natCast,List.length_map])
     all_goals try (exfalso;omega)
     exact back_i (i+1) (by omega) (by omega) (ent [0,1,2] false (by simp only [lP,seval,pa_accs,pa_uxs]<;>(try simp)<;>(try omega)) (by simp only [lP,seval,pa_accs,pa_uxs]<;>(try simp)<;>(try omega)))
   . obtain rfl:i=u.rows.length:=by omega
     rw [List.take_length]
     repeat' (first|(with_reducible first|(apply St.o;constructor)<;>intro _|refine ai ?_|(apply Sq.o;constructor))|simp (disch:=omega) only [lE,seval,hepA,hdk0,ux_av,hu,ux_cs,Int.toNat_natCast,List.length_map,Int.lt_irrefl,decide_false])
     all_goals try (exfalso;omega)
     refine loop_i (fun i:Nat=>i<=all.length) (fun i=>⟨[(0,.slc 0 8 all.length),(3,.slc 1 6 k),(4,.int .i64 k),(5,.op 2 0),(7,.int .i64 i)],[.arr 49 8 (all.map UX.av),.arr 43 6 (((fullS all).take k).map accA),boxF u (u.rows++(all.take i).flatMap (addR u)) (if k<i then u.log.map fun w=>itemI w.key else [])]⟩) (fun i=>all.length - i) 0 (by omega) (ent [0,1,2] false (by simp only [lP,seval,pa_accs,pa_uxs,boxF]<;>(try simp)<;>(try omega)) (by simp only [lP,seval,pa_accs,pa_uxs,boxF]<;>(try simp)<;>(try omega))) ?_
     rintro i hi
     by_cases hil:i<all.length
     . have hvm:=getD_mem' hil
       obtain ⟨hr2,hl2⟩:=hb _ hvm
       have hkv:=hkk _ hvm
       have hta:=take_succD hil
       have hdv0:(all.map UX.av)[i]?=some (all.getD i default).av:=by simp [hil]
       generalize hv:all.getD i default=v at *
       have hbase:(u.rows++(all.take i).flatMap (addR u)).length<=101000:=by
        have:=flat_le (g:=addR u) (B:=1000) (l:=all.take i) fun v hv=>Nat.le_trans (addR_len u v) (hb v (List.mem_of_mem_take hv)).2
        have h2:(all.take i).length<=100:=by rw [List.length_take];omega
        have h3:=Nat.mul_le_mul_right 1000 h2
        rw [List.length_append];omega
       have hvu:k=i->v=u:=fun e=>by rw [<- hv,<- hu,e]
       obtain ⟨RJ,hRJ⟩:∃ RJ:Nat->List Int,RJ=fun j=>u.rows++(all.take i).flatMap (addR u)++((v.log.take j).filter fun w=>u.whole.contains w.tab).map fun w=>itemI w.key:=⟨_,rfl⟩
       obtain ⟨WJ,hWJ⟩:∃ WJ:Nat->List Int,WJ=fun j=>if k<i then u.log.map (fun w=>itemI w.key) else if k=i then (v.log.take j).map (fun w=>itemI w.key) else []:=⟨_,rfl⟩
       have hR0:RJ 0=u.rows++(all.take i).flatMap (addR u):=by rw [hRJ];simp
       have hRe:RJ v.log.length=u.rows++(all.take (i+1)).flatMap (addR u):=by
        rw [hRJ,hta];simp [addR,List.flatMap_append]
       have hRs:∀ j,j<v.log.length->RJ (j+1)=if u.whole.contains (v.log.getD j default).tab=true then RJ j++[itemI (v.log.getD j default).key] else RJ j:=fun j hj=>by
        rw [hRJ];simp only
        rw [take_succD hj,List.filter_append,List.map_append]
        by_cases hc:u.whole.contains (v.log.getD j default).tab=true
        . rw [if_pos hc,List.filter_cons_of_pos (by simpa using hc)];simp
        . rw [if_neg hc,List.filter_cons_of_neg (by simpa using hc)];simp
       have hRl:∀ j,(RJ j).length<=102000:=fun j=>by
        rw [hRJ];simp only
        have h1:((v.log.take j).filter fun w=>u.whole.contains w.tab).length<=(v.log.take j).length:=List.length_filter_le _ _
        rw [List.length_take] at h1
        rw [List.length_append,List.length_map];omega
       have hW0:WJ 0=if k<i then u.log.map (fun w=>itemI w.key) else []:=by
        rw [hWJ];by_cases h1:k<i <;> simp [h1]
       have hWe:WJ v.log.length=if k<i+1 then u.log.map (fun w=>itemI w.key) else []:=by
        rw [hWJ];simp only
        by_cases h1:k<i
        . rw [if_pos h1,if_pos (by omega)]
        . rw [if_neg h1]
          by_cases h2:k=i
          . rw [if_pos h2,if_pos (by omega),List.take_length,hvu h2]
          . rw [if_neg h2,if_neg (by omega)]
       have hWs:∀ j,j<v.log.length->WJ (j+1)=if k=i then WJ j++[itemI (v.log.getD j default).key] else WJ j:=fun j hj=>by
        rw [hWJ];simp only
        by_cases h2:k=i
        . have h3:¬ k<i:=by omega
          simp only [if_neg h3,if_pos h2]
          rw [take_succD hj,List.map_append];rfl
        . rw [if_neg h2];by_cases h1:k<i <;> simp [h1,h2]
       have hWl:∀ j,(WJ j).length<=1000:=fun j=>by
        rw [hWJ];simp only
        split
        . rw [List.length_map];exact hl1
        . split
          . rw [List.length_map,List.length_take];omega
          . simp
       rw [<- hR0,<- hW0]
       clear hRJ hWJ
       repeat' (first|(with_reducible first|(apply St.o;constructor)<;>intro _|refine ai ?_|(apply Sq.o;constructor))|simp (disch:=omega) only [lE,seval,List.length_map])
       all_goals try (exfalso;omega)
       refine loop_i (fun j:Nat=>j<=v.log.length) (fun j=>⟨[(0,.slc 0 8 all.length),(3,.slc 1 6 k),(4,.int .i64 k),(5,.op 2 0),(7,.int .i64 i),(8,.int .i64 j)],[.arr 49 8 (all.map UX.av),.arr 43 6 (((fullS all).take k).map accA),boxF u (RJ j) (WJ j)]⟩) (fun j=>v.log.length - j) 0 (by omega) (ent [0,1,2] false (by simp only [lP,seval,pa_accs,pa_uxs,boxF]<;>(try simp)<;>(try omega)) (by simp only [lP,seval,pa_accs,pa_uxs,boxF]<;>(try simp)<;>(try omega))) ?_
       rintro j hj
       unfold boxF
       by_cases hjl:j<v.log.length
       . have hwm:=getD_mem' hjl
         have hwb:=hkv _ hwm
         have hR1:=hRs j hjl
         have hW1:=hWs j hjl
         have hl3:=ascL_len (RJ j)
         have hl4:=ascL_len (WJ j)
         have hl5:=hRl j
         have hl6:=hWl j
         generalize hw:v.log.getD j default=w at *
         have h73:=c73 u.whole w.tab
         have h47:=c47 w.tab w.row hwb.1 hwb.2
         have h72r:=c72 (ascL (RJ j)) (itemI w.key) (by omega)
         have h72w:=c72 (ascL (WJ j)) (itemI w.key) (by omega)
         rw [<- ascL_snoc] at h72r h72w
         simp only [WR.key] at h72r h72w hR1 hW1
         by_cases hc:u.whole.contains w.tab=true
         . rw [if_pos hc] at hR1
           rw [hc] at h73
           rw [<- hR1] at h72r
           by_cases hki:k=i
           . skip
             rw [if_pos hki] at hW1
             rw [<- hW1] at h72w
             have hdk:decide ((i:Int)=(k:Int))=true:=decide_eq_true (by omega)
             repeat' (first|(with_reducible first|(apply St.o;constructor)<;>intro _|refine ai ?_|(apply Sq.o;constructor))|((with_reducible apply Sc.o true;constructor);simp only [lP,seval,hepA,hdk0,hdv0,ux_av,IdxR_wrs,hu,hv,ux_cs,hw,hdk,Int.toNat_natCast,List.length_map,decide_true];(first|refine ⟨_,h73,?_⟩|refine ⟨_,h47,?_⟩);rintro _ _ ⟨rfl,rfl⟩;simp only [lA,lP,seval,hepA,hdk0,hdv0,ux_av,IdxR_wrs,hu,hv,ux_cs,hw,hdk,Int.toNat_natCast,List.length_map,decide_true])|((with_reducible apply Sc.o false;constructor);simp only [lP,seval,hepA,hdk0,hdv0,ux_av,IdxR_wrs,hu,hv,ux_cs,hw,hdk,Int.toNat_natCast,List.length_map,decide_true];(first|refine ⟨_,h72r,?_⟩|refine ⟨_,h72w,?_⟩);rintro _ _ ⟨rfl,rfl⟩;simp only [lA,lP,seval,hepA,hdk0,hdv0,ux_av,IdxR_wrs,hu,hv,ux_cs,hw,hdk,Int.toNat_natCast,List.length_map,decide_true])|with_reducible refine any_i [2] ?_|simp (disch:=omega) only [lE,seval,hepA,hdk0,hdv0,ux_av,IdxR_wrs,hu,hv,ux_cs,hw,hdk,Int.toNat_natCast,List.length_map,decide_true])
             all_goals try (exfalso;omega)
             all_goals exact back_i (j+1) (by omega) (by omega) (ent [0,1,2] false (by simp only [lP,seval,pa_accs,pa_uxs,boxF]<;>(try simp)<;>(try omega)) (by simp only [lP,seval,pa_accs,pa_uxs,boxF]<;>(try simp)<;>(try omega)))
           . skip
             rw [if_neg hki] at hW1
             have hdk:decide ((i:Int)=(k:Int))=false:=decide_eq_false (by omega)
             repeat' (first|(with_reducible first|(apply St.o;constructor)<;>intro _|refine ai ?_|(apply Sq.o;constructor))|((with_reducible apply Sc.o true;constructor);simp only [lP,seval,hepA,hdk0,hdv0,ux_av,IdxR_wrs,hu,hv,ux_cs,hw,hdk,Int.toNat_natCast,List.length_map,decide_true];(first|refine ⟨_,h73,?_⟩|refine ⟨_,h47,?_⟩);rintro _ _ ⟨rfl,rfl⟩;simp only [lA,lP,seval,hepA,hdk0,hdv0,ux_av,IdxR_wrs,hu,hv,ux_cs,hw,hdk,Int.toNat_natCast,List.length_map,decide_true])|((with_reducible apply Sc.o false;constructor);simp only [lP,seval,hepA,hdk0,hdv0,ux_av,IdxR_wrs,hu,hv,ux_cs,hw,hdk,Int.toNat_natCast,List.length_map,decide_true];(first|refine ⟨_,h72r,?_⟩|refine ⟨_,h72w,?_⟩);rintro _ _ ⟨rfl,rfl⟩;simp only [lA,lP,seval,hepA,hdk0,hdv0,ux_av,IdxR_wrs,hu,hv,ux_cs,hw,hdk,Int.toNat_natCast,List.length_map,decide_true])|with_reducible refine any_i [2] ?_|simp (disch:=omega) only [lE,seval,hepA,hdk0,hdv0,ux_av,IdxR_wrs,hu,hv,ux_cs,hw,hdk,Int.toNat_natCast,List.length_map,decide_true])
             all_goals try (exfalso;omega)
             all_goals (rw [<- hW1];exact back_i (j+1) (by omega) (by omega) (ent [0,1,2] false (by simp only [lP,seval,pa_accs,pa_uxs,boxF]<;>(try simp)<;>(try omega)) (by simp only [lP,seval,pa_accs,pa_uxs,boxF]<;>(try simp)<;>(try omega))))
         . rw [if_neg hc] at hR1
           rw [Bool.not_eq_true] at hc
           rw [hc] at h73
           by_cases hki:k=i
           . skip
             rw [if_pos hki] at hW1
             rw [<- hW1] at h72w
             have hdk:decide ((i:Int)=(k:Int))=true:=decide_eq_true (by omega)
             repeat' (first|(with_reducible first|(apply St.o;constructor)<;>intro _|refine ai ?_|(apply Sq.o;constructor))|((with_reducible apply Sc.o true;constructor);simp only [lP,seval,hepA,hdk0,hdv0,ux_av,IdxR_wrs,hu,hv,ux_cs,hw,hdk,Int.toNat_natCast,List.length_map,decide_true];(first|refine ⟨_,h73,?_⟩|refine ⟨_,h47,?_⟩);rintro _ _ ⟨rfl,rfl⟩;simp only [lA,lP,seval,hepA,hdk0,hdv0,ux_av,IdxR_wrs,hu,hv,ux_cs,hw,hdk,Int.toNat_natCast,List.length_map,decide_true])|((with_reducible apply Sc.o false;constructor);simp only [lP,seval,hepA,hdk0,hdv0,ux_av,IdxR_wrs,hu,hv,ux_cs,hw,hdk,Int.toNat_natCast,List.length_map,decide_true];(first|refine ⟨_,h72r,?_⟩|refine ⟨_,h72w,?_⟩);rintro _ _ ⟨rfl,rfl⟩;simp only [lA,lP,seval,hepA,hdk0,hdv0,ux_av,IdxR_wrs,hu,hv,ux_cs,hw,hdk,Int.toNat_natCast,List.length_map,decide_true])|with_reducible refine any_i [2] ?_|simp (disch:=omega) only [lE,seval,hepA,hdk0,hdv0,ux_av,IdxR_wrs,hu,hv,ux_cs,hw,hdk,Int.toNat_natCast,List.length_map,decide_true])
             all_goals try (exfalso;omega)
             all_goals (rw [<- hR1];exact back_i (j+1) (by omega) (by omega) (ent [0,1,2] false (by simp only [lP,seval,pa_accs,pa_uxs,boxF]<;>(try simp)<;>(try omega)) (by simp only [lP,seval,pa_accs,pa_uxs,boxF]<;>(try simp)<;>(try omega))))
           . skip
             rw [if_neg hki] at hW1
             have hdk:decide ((i:Int)=(k:Int))=false:=decide_eq_false (by omega)
             repeat' (first|(with_reducible first|(apply St.o;constructor)<;>intro _|refine ai ?_|(apply Sq.o;constructor))|((with_reducible apply Sc.o true;constructor);simp only [lP,seval,hepA,hdk0,hdv0,ux_av,IdxR_wrs,hu,hv,ux_cs,hw,hdk,Int.toNat_natCast,List.length_map,decide_true];(first|refine ⟨_,h73,?_⟩|refine ⟨_,h47,?_⟩);rintro _ _ ⟨rfl,rfl⟩;simp only [lA,lP,seval,hepA,hdk0,hdv0,ux_av,IdxR_wrs,hu,hv,ux_cs,hw,hdk,Int.toNat_natCast,List.length_map,decide_true])|((with_reducible apply Sc.o false;constructor);simp only [lP,seval,hepA,hdk0,hdv0,ux_av,IdxR_wrs,hu,hv,ux_cs,hw,hdk,Int.toNat_natCast,List.length_map,decide_true];(first|refine ⟨_,h72r,?_⟩|refine ⟨_,h72w,?_⟩);rintro _ _ ⟨rfl,rfl⟩;simp only [lA,lP,seval,hepA,hdk0,hdv0,ux_av,IdxR_wrs,hu,hv,ux_cs,hw,hdk,Int.toNat_natCast,List.length_map,decide_true])|with_reducible refine any_i [2] ?_|simp (disch:=omega) only [lE,seval,hepA,hdk0,hdv0,ux_av,IdxR_wrs,hu,hv,ux_cs,hw,hdk,Int.toNat_natCast,List.length_map,decide_true])
             all_goals try (exfalso;omega)
             all_goals (rw [<- hR1,<- hW1];exact back_i (j+1) (by omega) (by omega) (ent [0,1,2] false (by simp only [lP,seval,pa_accs,pa_uxs,boxF]<;>(try simp)<;>(try omega)) (by simp only [lP,seval,pa_accs,pa_uxs,boxF]<;>(try simp)<;>(try omega))))
       . obtain rfl:j=v.log.length:=by omega
         repeat' (first|(with_reducible first|(apply St.o;constructor)<;>intro _|refine ai ?_|(apply Sq.o;constructor))|simp (disch:=omega) only [lE,seval,hepA,hdv0,ux_av,hv,ux_cs,Int.toNat_natCast,List.length_map,Int.lt_irrefl,decide_false])
         all_goals try (exfalso;omega)
         rw [hRe,hWe]
         exact back_i (i+1) (by omega) (by omega) (ent [0,1,2] false (by simp only [lP,seval,pa_accs,pa_uxs,boxF]<;>(try simp)<;>(try omega)) (by simp only [lP,seval,pa_accs,pa_uxs,boxF]<;>(try simp)<;>(try omega)))
     . obtain rfl:i=all.length:=by omega
       have hbx:boxF u (u.rows++(all.take all.length).flatMap (addR u)) (if k<all.length then u.log.map fun w=>itemI w.key else [])=.box (accC (fullA all u)):=by
        rw [List.take_length,if_pos hkl];rfl
       have hac:accA (fullA all u)=.agg (accC (fullA all u)):=rfl
       have hal:((fullS all).take k).length=k:=by rw [List.length_take,fullS_len];omega
       have hcc:(accC (fullA all u)).length=6:=rfl
       have hct:(accC (fullA all u)).take 6=accC (fullA all u):=rfl
       rw [hbx]
       repeat' (first|(with_reducible apply St.o;constructor) <;> intro _|((with_reducible refine mkl_view ?_ ?_ ?_);(focus decide);(focus rfl))|(with_reducible first|refine ai ?_|(apply Sq.o;constructor))|simp (disch:=omega) only [lE,seval,List.length_map,Int.lt_irrefl,decide_false,hal,hcc,hct])
       all_goals try (exfalso;omega)
       rw [<- hac]
       have hta:((fullS all).take k).map accA++[accA (fullA all u)]=((fullS all).take (k+1)).map accA:=by rw [htk,List.map_append];rfl
       rw [hta]
       exact back_i (k+1) (by omega) (by omega) (ent [0,3] false (by simp only [lP,seval,pa_accs,pa_uxs]<;>(try simp)<;>(try omega)) (by simp only [lP,seval,pa_accs,pa_uxs]<;>(try simp)<;>(try omega)))
 . obtain rfl:k=all.length:=by omega
   rw [List.take_of_length_le (by rw [fullS_len];omega)]
   repeat' (first|(with_reducible first|(apply St.o;constructor)<;>intro _|refine ai ?_|(apply Sq.o;constructor))|simp (disch:=omega) only [lE,seval,List.length_map,Int.lt_irrefl,decide_false])
   all_goals try (exfalso;omega)
   have hfl:all.length=((fullS all).map accA).length:=by rw [List.length_map,fullS_len]
   refine keep_i [0] true (by simp) (by simp) rfl ⟨?_,by simp only [lP,seval,pa_uxs]⟩
   simp only [lP,seval,pa_uxs]
   rw [vwS_arr hfl,vw_accs]
end Go.Proofs.Try
