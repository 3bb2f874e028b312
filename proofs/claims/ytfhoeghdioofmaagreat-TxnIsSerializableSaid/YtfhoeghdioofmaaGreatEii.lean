/-
 A part of the proof.
-/
import Derived.Test.YtfhoeghdioofmaaGreatEhh
set_option linter.unusedSimpArgs false
set_option linter.unusedVariables false
namespace Go.Proofs.Try
open Go.Proofs.Tryz
open Go.Al
set_option maxRecDepth 100000
abbrev q14_0:MI:=oL 67 66
abbrev q14_1:MI:=.e (.mkl 73 3 1 1 (.int .i64 0) [(0,.t 72)])
abbrev q14_2:AT:=.alt none (.e (.app 74 3 1 8 (.t 67) (.t 73))) (.pure0 none (oF 75 5 7) (.alt none (.e (.store 1 false (.t 75) (.t 74))) .done .stop)) .stop
def mc14:MC:=(.seq (.ops [pY 2]) (.seq (.ops [pY 3]) (.seq (.ops [pM 16 0,pV 17 55 16,pM 4 17]) (.seq (.seq (.ops [pM 18 4,pG 19 18,pI 20 0]) (.block 0 (.loop (.seq (.ops [pB 21 20 19]) (.seq (.cond 21 .skip (.exit 0)) (.seq (.block 1 (.seq (.ops [pQ 22 1 18 20,pL 23 22,(none,.e (.alloc 6 [.raw (.pointer none)])),(none,.e (.store 1 false (.t 6) (.t 23)))]) (.seq (.any true (.pure0 none (oL 24 6) (.pure0 none (.v (.nil 25 (.t 24))) (.pure0 none (oF 26 0 25) (.pure0 none (oL 27 26) (.pure0 none (oL 28 6) (.pure0 none (.v (.nil 29 (.t 28))) (.pure0 none (oF 30 1 29) (.pure0 none (oL 31 30) (.pure0 none (oL 32 6) (.pure0 none (.v (.nil 33 (.t 32))) (.pure0 none (oF 34 2 33) (.pure0 none (oL 35 34) (.pure0 none (oL 36 6) (.pure0 none (.v (.nil 37 (.t 36))) (.pure0 none (oF 38 3 37) (.pure0 none (oL 39 38) (.pure0 none (.v (.build 40 z0 [(0,1,.t 27),(1,1,.t 31),(2,1,.t 35),(3,1,.t 39)])) (.alt none (.e (.alloc 7 z0)) (.alt none (oS 6 7 40) .done .stop) .stop))))))))))))))))))) (.seq (.ops [(none,.e (.mkmap 41)),pM 8 41]) (.seq (.seq (.ops [pL 42 6,(none,.v (.nil 43 (.t 42))),pF 44 5 43,pL 45 44,(none,.e (.rng 46 (.t 45)))]) (.block 2 (.loop (.seq (.ops [(none,.e (.nxt 47 (.t 46))),pX 48 0 47]) (.seq (.cond 48 .skip (.exit 2)) (.block 3 (.seq (.ops [(none,.p (.ent 49 (.t 46))),pX 50 0 49,(none,.e (.alloc 9 z3)),pS 2 9 50]) (.ops [pM 51 8,pF 52 0 9,pL 53 52,pF 54 1 9,pL 55 54,pW 56 46 53 55,(none,.e (.mkl 57 3 1 1 (.int .i64 0) [(0,.t 56)])),pW 58 56 51 57])))))))) (.seq (.seq (.ops [pL 59 6,pV 60 57 59,pG 61 60,pI 62 0]) (.block 4 (.loop (.seq (.ops [pB 63 62 61]) (.seq (.cond 63 .skip (.exit 4)) (.seq (.block 5 (.seq (.ops [pQ 64 4 60 62,pR 65 4 64,(none,.e (.alloc 11 z1)),pS 4 11 65]) (.any true (.pure0 none (oF 66 5 7) (.pure0 none (oF 68 0 11) (.pure0 none (oL 69 68) (.pure0 none (oF 70 1 11) (.pure0 none (oL 71 70) (.alt none q14_0 (.alt none (oW 72 46 69 71) (.alt none q14_1 q14_2 .stop) .stop) (.alt none (oW 72 46 69 71) (.alt none q14_0 (.alt none q14_1 q14_2 .stop) (.alt none q14_1 (.alt none q14_0 q14_2 .stop) .stop)) .stop)))))))))) (.ops [pA 76 62 1,pM 62 76]))))))) (.seq (.seq (.ops [pM 77 4,pG 78 77,pI 79 0]) (.block 6 (.loop (.seq (.ops [pB 80 79 78]) (.seq (.cond 80 .skip (.exit 6)) (.seq (.block 7 (.seq (.ops [pQ 81 1 77 79,pL 82 81,pM 13 82]) (.seq (.seq (.ops [pM 83 13,pL 84 6,(none,.v (.eq 85 false .obj (.t 83) (.t 84)))]) (.cond 85 (.exit 7) .skip)) (.seq (.ops [pM 86 13,pV 87 57 86,(none,.v (.fn 88 (.func 59) [] [.t 6])),pW 89 58 87 88,pM 14 89]) (.seq (.ops [pM 90 14,(none,.v (.bin 91 .geq false (.t 90) (.c (.int .i64 0))))]) (.cond 91 (.seq (.ops [pM 92 13,pV 93 57 92,pM 94 14,pQ 95 4 93 94,pR 96 4 95,(none,.e (.alloc 15 z1)),pS 4 15 96]) (.ops [pM 97 8,pF 98 0 15,pL 99 98,pF 100 1 15,pL 101 100,pW 102 46 99 101,(none,.e (.mkl 103 3 1 1 (.int .i64 0) [(0,.t 102)])),pW 104 56 97 103])) .skip)))))) (.ops [pA 105 79 1,pM 79 105]))))))) (.seq (.ops [pM 106 8,pV 107 61 106,pV 108 60 107,pF 109 4 7,(none,.e (.store 1 false (.t 109) (.t 108)))]) (.ops [pM 110 3,pR 111 6 7,(none,.e (.mkl 112 43 6 1 (.agg z0) [(0,.t 111)])),(none,.e (.app 113 43 6 80 (.t 110) (.t 112))),pM 3 113]))))))))) (.ops [pA 114 20 1,pM 20 114]))))))) (.seq (.ops [pM 115 3,pM 2 115]) .ret)))))
theorem ok14:FnOk E 14 116 [.tmp 2] mc14:=ofk func14
set_option maxHeartbeats 16000000
theorem allS_ts (s:SR):allS s.ts=s.all.map (·.x):=by simp [SR.ts,allS,SR.all]
theorem getD_x {l:List TR} {k:Nat} (h:k<l.length):(l.map (·.x)).getD k default=(l.getD k default).x:=by simp [h]
theorem c14 {s:SR} {H:List AObj} (hs:s.At H) (hk:s.kept.length<=10000) (hc:s.act.length<=10000) (hok:∀ a ∈ s.all,OkT a.x) :
 ACalls E.P 14 [.op s.X 0] H (fun r H'=>∃ n,r=.slc n 6 s.all.length/\H.length<=n/\H'[n]?=some (.arr 43 6 ((histS s.ts).map accA))/\Ext H H'):=by
 have hmax:=maxLen_eq
 have h55:=c55 hs hk hc
 have hlen:s.all.length<=20000:=by simp [SR.all];omega
 have hhl:(histS s.ts).length=s.all.length:=by simp [histS,histL,allS_ts]
 refine ok14.acalls0 hE hm (by simp) fun N hN=>?_
 unfold mc14 q14_2 q14_1 q14_0 z0 z1 z3 pY pM pV pG pI pB pQ pL pF pX pS pW pR pA oL oF oS oW
 simp only [lA,seval]
 repeat' (first|(with_reducible first|(apply St.o;constructor)<;>intro _|refine ai ?_|(apply Sq.o;constructor))|simp (disch:=omega) only [lE,seval])
 refine callW_i h55 ?_
 rintro _ H1 ⟨n,rfl,hn,hnH,hx1⟩
 repeat' (first|(with_reducible first|(apply St.o;constructor)<;>intro _|refine ai ?_|(apply Sq.o;constructor))|simp (disch:=omega) only [lE,seval,hnH,List.length_map])
 refine loop_i (fun p:Nat × Nat × List AObj=>p.1<=s.all.length/\Ext H p.2.2/\p.2.2[n]?=some (.arr 98 1 (s.all.map opT))/\H.length<=p.2.1/\p.2.1≠n/\p.2.2[p.2.1]?=some (.arr 43 6 (((histS s.ts).take p.1).map accA)))
  (fun p=>⟨[(3,.slc p.2.1 6 p.1),(4,.slc n 1 s.all.length),(18,.slc n 1 s.all.length),(19,.int .i64 s.all.length),(20,.int .i64 p.1)],p.2.2⟩) (fun p=>s.all.length - p.1) (0,H1.length,H1++[.arr 43 6 []])
  ⟨by simp,hx1.trans (Stay.app _ _ _) fun _ _ h=>h,by simp only;rw [at_app _ _ _ (at_lt hnH)];exact hnH,hx1.1,by have:=at_lt hnH;simp only;omega,by simp⟩ (Ent.ghost' 3 43 6 (by omega) rfl (Ent.fr (by simp [FrSub,Go.Al.get]))) ?_
 rintro ⟨i,hid,H2⟩ ⟨hi,hx2,hn2,hh1,hh2,hh3⟩
 simp only at hi hx2 hn2 hh1 hh2 hh3 ⊢
 by_cases hin:i<s.all.length
 . have hlt:((i:Int)<(s.all.length:Int)):=by omega
   have hep:∀ {m N d c},epR E.P m N (some (.arr 98 1 (s.all.map opT))) (i:Int) s.all.length n 1 d c=rK E.P m N c d (.ep n 1 i 0):=epR_ne (by simp) (by omega) (by omega)
   have ho:=op_get hin
   have haa:=getD_mem hin
   have ha:(s.all.getD i default).At H2:=(hs.tr _ haa).stay hx2 fun _ _=>id
   have hoa:=hok _ haa
   generalize hax:s.all.getD i default=a at *
   have h3:=ha.box
   simp only [TR.cells] at h3
   have l2:=at_lt hn2
   have l3:=at_lt h3
   have l4:=at_lt hh3
   obtain ⟨B0,hB0⟩:∃ B0,B0=H2++[AObj.box [.op a.t 0]]++[AObj.box [.int .i64 a.x.mode,.int .i64 a.x.snap,.bool a.x.done,.int .i64 a.x.stamp,.raw (.slice none 0 0),.raw (.slice none 0 0)]]++[AObj.map [] [] [] 0]:=⟨_,rfl⟩
   have q1:∀ o,(H2++[o])[a.t]?=H2[a.t]?:=fun o=>at_app _ _ _ l3
   have q2:∀ o o',(H2++[o]++[o'])[a.t]?=H2[a.t]?:=fun o o'=>by rw [at_app _ _ _ (by simp;omega),at_app _ _ _ l3]
   have q3:∀ o o',(H2++[o]++[o'])[H2.length]?=some o:=fun o o'=>by rw [at_app _ _ _ (by simp)];exact get_last
   have q4:∀ o o',(H2++[o]++[o'])[H2.length+1]?=some o':=fun o o'=>by rw [show H2.length+1=(H2++[o]).length by simp];exact get_last
   have q5:∀ o o' o'',(H2++[o]++[o']).set (H2.length+1) o''=H2++[o]++[o'']:=fun o o' o''=>by rw [show H2.length+1=(H2++[o]).length by simp];exact set_last
   have q6:∀ o o' o'',(H2++[o]++[o']++[o''])[H2.length]?=some o:=fun o o' o''=>by rw [at_app _ _ _ (by simp <;> omega)];exact q3 _ _
   have q7:∀ o o' o'',(H2++[o]++[o']++[o''])[a.t]?=H2[a.t]?:=fun o o' o''=>by rw [at_app _ _ _ (by simp;omega)];exact q2 _ _
   have q8:∀ o o' o'',(H2++[o]++[o']++[o''])[a.r]?=H2[a.r]?:=fun o o' o''=>by have:=at_lt ha.rows;rw [at_app _ _ _ (by simp;omega),at_app _ _ _ (by simp;omega),at_app _ _ _ this]
   have h5:H2[a.r]?=some (.map (kW (rowsM a.x)) (vW AV.bool (rowsM a.x)) a.rb a.rc):=ha.rows
   repeat' (first|(with_reducible first|(apply St.o;constructor)<;>intro _|refine ai ?_|(apply Sq.o;constructor))|simp (disch:=omega) only [lE,seval,hn2,hep,ho,h3,q1,q2,q3,hlt,fillE,setAll,setAt,get_last,set_last,Int.toNat_natCast,decide_true,List.length_append,List.length_cons,List.length_nil])
   refine any_i [] ?_
   repeat' (first|(with_reducible first|(apply St.o;constructor)<;>intro _|refine ai ?_|(apply Sq.o;constructor))|simp (disch:=omega) only [lE,seval,hn2,hep,ho,h3,q1,q2,q3,q4,q5,q6,q7,q8,h5,hlt,fillE,setAll,setAt,get_last,set_last,Int.toNat_natCast,decide_true,List.length_append,List.length_cons,List.length_nil])
   obtain ⟨B1,hB1⟩:∃ B1,B1=B0++[AObj.mit (some a.r) a.rc [] a.rc]:=⟨_,rfl⟩
   have hB0l:B0.length=H2.length+3:=by rw [hB0];simp
   have hB1l:B1.length=H2.length+4:=by rw [hB1];simp [hB0l]
   have hxB:Ext H2 B1:=by rw [hB1,hB0];simp only [List.append_assoc];exact Stay.app _ _ _
   have p6:B1[H2.length]?=some (.box [.op a.t 0]):=by rw [hB1,at_app _ _ _ (by omega),hB0];exact q6 _ _ _
   have p7:B1[H2.length+1]?=some (.box [.int .i64 a.x.mode,.int .i64 a.x.snap,.bool a.x.done,.int .i64 a.x.stamp,.raw (.slice none 0 0),.raw (.slice none 0 0)]):=by rw [hB1,at_app _ _ _ (by omega),hB0,at_app _ _ _ (by simp)];exact q4 _ _
   have p8:B1[H2.length+2]?=some (.map [] [] [] 0):=by rw [hB1,at_app _ _ _ (by omega),hB0,show H2.length+2=(H2++[AObj.box [AV.op a.t 0]]++[AObj.box [.int .i64 a.x.mode,.int .i64 a.x.snap,.bool a.x.done,.int .i64 a.x.stamp,.raw (.slice none 0 0),.raw (.slice none 0 0)]]).length by simp];exact get_last
   have p9:B1[H2.length+3]?=some (.mit (some a.r) a.rc [] a.rc):=by rw [hB1,<- hB0l];exact get_last
   rw [<- hB0,<- hB1]
   clear q1 q2 q3 q4 q5 q6 q7 q8 hB1 hB0
   have hwr:WfM (rowsM a.x).length a.rb a.rc:=by have:=ha.rwf;rw [rowsM,List.length_map];exact this
   have hrl:(rowsM a.x).length=a.x.rows.length:=by simp [rowsM]
   refine loop_i (fun p:List Nat × List AObj=>p.1.Nodup/\(∀ i ∈ p.1,i<(rowsM a.x).length)/\Stay (fun i=>i=H2.length+2\/i=H2.length+3) B1 p.2/\p.2[H2.length+3]?=some (.mit (some a.r) a.rc (p.1.map fun i=>a.rb.getD i 0) a.rc) /\
    ∃ bs c,p.2[H2.length+2]?=some (.map (kM (setsM (p.1.map fun i=>itemI ((rowsM a.x).getD i default).1))) (vM AV.bool (setsM (p.1.map fun i=>itemI ((rowsM a.x).getD i default).1))) bs c)/\WfM (setsM (p.1.map fun i=>itemI ((rowsM a.x).getD i default).1)).length bs c)
    (fun p=>⟨[(3,.slc hid 6 i),(4,.slc n 1 s.all.length),(6,.op H2.length 0),(7,.op (H2.length+1) 0),(8,.mp (H2.length+2)),(18,.slc n 1 s.all.length),(19,.int .i64 s.all.length),(20,.int .i64 i),(46,.itr (H2.length+3))],p.2⟩) (fun p=>(rowsM a.x).length - p.1.length) ([],B1)
    ⟨.nil,by simp,Stay.refl _ _,p9,[],0,by simpa [setsM,kM,vM] using p8,⟨rfl,.nil,by simp⟩⟩ (Ent.fr (by simp [FrSub,Go.Al.get])) ?_
   rintro ⟨is,H3⟩ ⟨hn',hlt',hst,hit,bs,c,hm8,hw8⟩
   simp only at hn' hlt' hst hit hm8 hw8 ⊢
   have h5':H3[a.r]?=some (.map (kW (rowsM a.x)) (vW AV.bool (rowsM a.x)) a.rb a.rc):=hst.at (hxB.at h5) (by have:=at_lt h5;omega)
   repeat' (first|(with_reducible first|(apply St.o;constructor)<;>intro _|refine ai ?_|(apply Sq.o;constructor))|simp (disch:=omega) only [lE,seval,hit,h5'])
   refine nxt_i hwr.lt (Nat.le_refl _) (fun hall=>?_) (fun j b' kx vx hb' hns hkx hvx=>?_)
   . have hwa:=walk_all hwr hn' hlt' hall
     have hp:=perm_all (g:=fun p:(Int × Int) × Bool=>itemI p.1) hn' hlt' hwa
     have hrows:(rowsM a.x).map (fun p=>itemI p.1)=a.x.rows.map itemI:=by simp [rowsM,Function.comp_def]
     rw [hrows] at hp
     have hlist:=hp.length_eq
     simp only [List.length_map] at hlist
     obtain ⟨R0,hR0⟩:∃ R0,R0=is.map fun i=>itemI ((rowsM a.x).getD i default).1:=⟨_,rfl⟩
     rw [<- hR0] at hp hm8 hw8
     have hxB3:Stay (fun i=>i=H2.length+2\/i=H2.length+3) H2 H3:=hxB.to.trans hst fun _ _ h=>h
     have ha3:a.At H3:=ha.stay hxB3 fun j hj h=>by have:=ha.lt j hj;omega
     have z6:=hst.at p6 (by omega)
     have z7:=hst.at p7 (by omega)
     have h57:=c57 ha3 (by have:=hoa.len;omega) hoa.fit
     simp only [lA,seval]
     repeat' (first|(with_reducible first|(apply St.o;constructor)<;>intro _|refine ai ?_|(apply Sq.o;constructor))|simp (disch:=omega) only [lE,seval,z6])
     refine callW_i h57 ?_
     rintro _ H5 ⟨rfl,hx5⟩
     have z7':=hx5.at z7
     have z8':=hx5.at hm8
     have hst5:Stay (fun i=>i=H2.length+1\/i=H2.length+2\/i=H2.length+3) B1 H5:=(hst.weak (O':=fun i=>i=H2.length+1\/i=H2.length+2\/i=H2.length+3) fun i _ h=>.inr h).trans hx5 fun _ _ h=>h.elim
     have l5:B1.length<=H5.length:=hst5.1
     clear hit hwa hall h5' hlt' hn' hst hx5
     generalize hW:lastW a.x.log=W at *
     have hWl:W.length<=100000:=by rw [<- hW];exact Nat.le_trans (lastW_len _) hoa.len
     have hWo:∀ w ∈ W,(0<=w.tab/\w.tab<256)/\0<=w.row/\w.row<=1073741824:=fun w hw=>by
      have:=hoa.log w (lastW_mem w (by rw [hW];exact hw));exact ⟨this.1,by omega,this.2.2⟩
     repeat' (first|(with_reducible first|(apply St.o;constructor)<;>intro _|refine ai ?_|(apply Sq.o;constructor))|simp (disch:=omega) only [lE,seval,List.length_map])
     refine loop_i (fun p:Nat × Nat × List AObj=>p.1<=W.length/\Stay (fun i=>i=H2.length+1\/i=H2.length+2\/i=H2.length+3) B1 p.2.2/\B1.length<=p.2.1/\p.2.2[H2.length+2]?=some (.map (kM (setsM R0)) (vM AV.bool (setsM R0)) bs c) /\
      p.2.2[H2.length+1]?=some (.box [.int .i64 a.x.mode,.int .i64 a.x.snap,.bool a.x.done,.int .i64 a.x.stamp,.raw (.slice none 0 0),.slc p.2.1 1 p.1])/\p.2.2[p.2.1]?=some (.arr 3 1 (((W.take p.1).map fun w=>itemI w.key).map (AV.int .i64))))
      (fun p=>⟨[(3,.slc hid 6 i),(4,.slc n 1 s.all.length),(6,.op H2.length 0),(7,.op (H2.length+1) 0),(8,.mp (H2.length+2)),(18,.slc n 1 s.all.length),(19,.int .i64 s.all.length),(20,.int .i64 i),(60,.view 4 (W.map WR.av)),(61,.int .i64 W.length),(62,.int .i64 p.1)],p.2.2⟩) (fun p=>W.length - p.1)
      (0,H5.length,H5.set (H2.length+1) (.box [.int .i64 a.x.mode,.int .i64 a.x.snap,.bool a.x.done,.int .i64 a.x.stamp,.raw (.slice none 0 0),.slc H5.length 1 0])++[.arr 3 1 []])
      ⟨by simp,(hst5.trans (O':=fun i=>i=H2.length+1) (Stay.set rfl) fun i hi h=>.inl h).trans (O':=fun _=>False) (Stay.app _ _ _) fun _ _ h=>h.elim,l5,?_,?_,?_⟩ (Ent.trans (Ent.ghostB (H2.length+1) 5 3 1 (by omega) z7' rfl) (Ent.fr (by simp [FrSub,Go.Al.get]))) ?_
     . simp only;rw [at_app _ _ _ (by simp;omega),at_set _ _ _ _ (by omega)];exact z8'
     . simp only;rw [at_app _ _ _ (by simp;omega)];exact at_same _ _ _ (by omega)
     . simp only; 
       have:=get_last (L:=H5.set (H2.length+1) (AObj.box [.int .i64 a.x.mode,.int .i64 a.x.snap,.bool a.x.done,.int .i64 a.x.stamp,.raw (.slice none 0 0),.slc H5.length 1 0])) (o:=AObj.arr 3 1 [])
       rw [List.length_set] at this
       simp
     rintro ⟨j,w,H6⟩ ⟨hj,hst6,hwl,z1,z2,z3⟩
     simp only at hj hst6 hwl z1 z2 z3 ⊢
     by_cases hjn:j<W.length
     . have hjlt:((j:Int)<(W.length:Int)):=by omega
       have hvm:=getD_mem hjn
       have htk:=take_succD hjn
       have hov:=hWo _ hvm
       generalize hv:W.getD j default=v at *
       have h46:=c46 v.tab v.row hov.1 hov.2
       have m1:=at_lt z1
       have m2:=at_lt z2
       have m3:=at_lt z3
       repeat' (first|(with_reducible first|(apply St.o;constructor)<;>intro _|refine ai ?_|(apply Sq.o;constructor))|simp (disch:=omega) only [lE,seval,IdxR_wrs,hv,hjlt,Int.toNat_natCast,List.length_map,get_last,set_last,setAt,setAll])
       all_goals try (exfalso;omega)
       obtain ⟨H7,hH7⟩:∃ H7,H7=H6++[AObj.box v.cs]:=⟨_,rfl⟩
       have hl7:H7.length=H6.length+1:=by rw [hH7];simp
       have x0:H7[H6.length]?=some (.box v.cs):=by rw [hH7];exact get_last
       have x1:H7[H2.length+2]?=some (.map (kM (setsM R0)) (vM AV.bool (setsM R0)) bs c):=by rw [hH7,at_app _ _ _ m1];exact z1
       have x2:H7[H2.length+1]?=some (.box [.int .i64 a.x.mode,.int .i64 a.x.snap,.bool a.x.done,.int .i64 a.x.stamp,.raw (.slice none 0 0),.slc w 1 j]):=by rw [hH7,at_app _ _ _ m2];exact z2
       have x3:H7[w]?=some (.arr 3 1 (((W.take j).map fun w=>itemI w.key).map (AV.int .i64))):=by rw [hH7,at_app _ _ _ m3];exact z3
       have hst7:Stay (fun i=>i=H2.length+1\/i=H2.length+2\/i=H2.length+3) B1 H7:=by rw [hH7];exact hst6.trans (O':=fun _=>False) (Stay.app _ _ _) fun _ _ h=>h.elim
       have hwx:(((W.take j).map fun w=>itemI w.key).map (AV.int .i64)).length=j:=by simp;omega
       rw [<- hH7]
       clear hH7
       have b1:(H2.length+1 ∈ [H2.length+1,w])=True:=by simp
       have b2:(w ∈ [H2.length+1,w])=True:=by simp
       have e1:((H7.set w .dead).set (H2.length+1) .dead)[H6.length]?=H7[H6.length]?:=by rw [at_set _ _ _ _ (by omega),at_set _ _ _ _ (by omega)]
       have e2:((H7.set (H2.length+1) .dead).set w .dead)[H6.length]?=H7[H6.length]?:=by rw [at_set _ _ _ _ (by omega),at_set _ _ _ _ (by omega)]
       have e3:∀ o,(H7++[o])[H2.length+1]?=H7[H2.length+1]?:=fun o=>at_app _ _ _ (by omega)
       have e4:∀ o,(H7++[o])[w]?=H7[w]?:=fun o=>at_app _ _ _ (by omega)
       have e5:∀ o o' o'',((H7++[o]).set w o'++[o''])[H2.length+1]?=H7[H2.length+1]?:=fun o o' o''=>by rw [at_app _ _ _ (by simp;omega),at_set _ _ _ _ (by omega),at_app _ _ _ (by omega)]
       repeat' (first|(with_reducible first|(apply St.o;constructor)<;>intro _|refine ai ?_|(apply Sq.o;constructor))|((with_reducible apply Sc.o true;constructor);simp only [lP,seval,b1,b2,true_or,e1,e2,e3,e4,e5,x0,x2,x3,hwx,fillE,setAll,setAt,get_last,List.length_append,List.length_cons,List.length_nil];refine ⟨_,h46,?_⟩;rintro _ _ ⟨rfl,rfl⟩;simp only [lA,lP,seval,b1,b2,true_or,e1,e2,e3,e4,e5,x0,x2,x3,hwx,fillE,setAll,setAt,get_last,List.length_append,List.length_cons,List.length_nil])|with_reducible refine any_i [H2.length+1,w] ?_|simp (disch:=omega) only [lE,seval,b1,b2,true_or,e1,e2,e3,e4,e5,x0,x2,x3,hwx,fillE,setAll,setAt,get_last,List.length_append,List.length_cons,List.length_nil])
       all_goals
        refine back_i (j+1,H7.length+1,((H7++[AObj.arr 3 1 [AV.int .i64 (itemI (v.tab,v.row))]]).set w AObj.dead++[AObj.arr 3 1 (((W.take j).map fun w=>itemI w.key).map (AV.int .i64)++[AV.int .i64 (itemI (v.tab,v.row))])]).set (H2.length+1)
         (AObj.box [.int .i64 a.x.mode,.int .i64 a.x.snap,.bool a.x.done,.int .i64 a.x.stamp,.raw (.slice none 0 0),.slc (H7.length+1) 1 (j+1)])) ⟨by simp only;omega,?_,by simp only;omega,?_,?_,?_⟩ (by simp only;omega) (Ent.fr (by simp [FrSub,Go.Al.get]))
        . exact (((hst7.trans (O':=fun _=>False) (Stay.app _ _ _) fun _ _ h=>h.elim).trans (O':=fun i=>i=w) (Stay.set rfl) fun i hi h=>by omega).trans (O':=fun _=>False) (Stay.app _ _ _) fun _ _ h=>h.elim).trans (O':=fun i=>i=H2.length+1) (Stay.set rfl) fun i hi h=>.inl h
        . simp only;rw [at_set _ _ _ _ (by omega),at_app _ _ _ (by simp;omega),at_set _ _ _ _ (by omega),at_app _ _ _ (by omega)];exact x1
        . exact at_same _ _ _ (by simp;omega)
        . simp only
          rw [at_set _ _ _ _ (by omega),show H7.length+1=((H7++[AObj.arr 3 1 [AV.int .i64 (itemI (v.tab,v.row))]]).set w .dead).length by simp,get_last,htk]
          simp [WR.key]
     . obtain rfl:j=W.length:=by omega
       rw [List.take_length] at z3
       have w0:=hst6.at (hxB.at hn2) (by omega)
       obtain ⟨Sk,hSk⟩:∃ Sk:Nat->List Int,Sk=fun k=>R0++(List.range k).flatMap fun q=>if q=i then [] else seenOf a.x (s.all.getD q default).x:=⟨_,rfl⟩
       have hS0:Sk 0=R0:=by rw [hSk];simp
       have hSs:∀ k,Sk (k+1)=Sk k++if k=i then [] else seenOf a.x (s.all.getD k default).x:=fun k=>by rw [hSk];simp [List.range_succ,List.flatMap_append]
       repeat' (first|(with_reducible first|(apply St.o;constructor)<;>intro _|refine ai ?_|(apply Sq.o;constructor))|simp (disch:=omega) only [lE,seval,Int.lt_irrefl,decide_false,w0,List.length_map])
       refine loop_i (fun p:Nat × List AObj=>p.1<=s.all.length/\Stay (fun i=>i=H2.length+1\/i=H2.length+2\/i=H2.length+3) B1 p.2/\p.2[H2.length+1]?=some (.box [.int .i64 a.x.mode,.int .i64 a.x.snap,.bool a.x.done,.int .i64 a.x.stamp,.raw (.slice none 0 0),.slc w 1 W.length])/\p.2[w]?=some (.arr 3 1 ((W.map fun w=>itemI w.key).map (AV.int .i64))) /\
        ∃ bs c,p.2[H2.length+2]?=some (.map (kM (setsM (Sk p.1))) (vM AV.bool (setsM (Sk p.1))) bs c)/\WfM (setsM (Sk p.1)).length bs c)
        (fun p=>⟨[(3,.slc hid 6 i),(4,.slc n 1 s.all.length),(6,.op H2.length 0),(7,.op (H2.length+1) 0),(8,.mp (H2.length+2)),(18,.slc n 1 s.all.length),(19,.int .i64 s.all.length),(20,.int .i64 i),(77,.slc n 1 s.all.length),(78,.int .i64 s.all.length),(79,.int .i64 p.1)],p.2⟩) (fun p=>s.all.length - p.1)
        (0,H6) ⟨by simp,hst6,z2,z3,bs,c,by simp only [hS0];exact z1,by simp only [hS0];exact hw8⟩ (Ent.fr (by simp [FrSub,Go.Al.get])) ?_
       clear hw8 z1 z2 z3 hst6 w0 H6
       rintro ⟨k,H8⟩ ⟨hk',hst8,z2,z3,bs,c,z1,hw8⟩
       simp only at hk' hst8 z2 z3 z1 hw8 ⊢
       have w0:=hst8.at (hxB.at hn2) (by omega)
       have w6:=hst8.at p6 (by omega)
       by_cases hkn:k<s.all.length
       . have hklt:((k:Int)<(s.all.length:Int)):=by omega
         have hkep:∀ {m N d c},epR E.P m N (some (.arr 98 1 (s.all.map opT))) (k:Int) s.all.length n 1 d c=rK E.P m N c d (.ep n 1 k 0):=epR_ne (by simp) (by omega) (by omega)
         have hko:=op_get hkn
         have hkb:=getD_mem hkn
         have hkd:=hs.t_inj hin hkn
         have hb8:(s.all.getD k default).At H8:=((hs.tr _ hkb).stay hx2 fun _ _=>id).stay (hxB.to.trans hst8 fun _ _ h=>h) fun q hq h=>by have:=((hs.tr _ hkb).stay hx2 fun _ _=>id:TR.At _ H2).lt q hq;omega
         have ha8:a.At H8:=ha.stay (hxB.to.trans hst8 fun _ _ h=>h) fun q hq h=>by have:=ha.lt q hq;omega
         have hbo:=hok _ hkb
         have hSk1:=hSs k
         rw [hax] at hkd
         generalize hbx:s.all.getD k default=b at *
         have u1:=hb8.box
         have u2:=ha8.box
         simp only [TR.cells] at u1 u2
         have h57b:=c57 hb8 (by have:=hbo.len;omega) hbo.fit
         by_cases hki:k=i
         . have ht:b.t=a.t:=hkd.2 hki
           rw [if_pos hki,List.append_nil] at hSk1
           repeat' (first|(with_reducible first|(apply St.o;constructor)<;>intro _|refine ai ?_|(apply Sq.o;constructor))|simp (disch:=omega) only [lE,seval,w0,hkep,hko,hklt,w6,u1,u2,isNil,objEq,ht,Int.toNat_natCast,decide_true,and_true])
           exact back_i (k+1,H8) ⟨by simp only;omega,hst8,z2,z3,bs,c,by simp only [hSk1];exact z1,by simp only [hSk1];exact hw8⟩ (by simp only;omega) (Ent.fr (by simp [FrSub,Go.Al.get]))
         . have ht:¬ b.t=a.t:=fun h=>hki (hkd.1 h)
           rw [if_neg hki] at hSk1
           repeat' (first|(with_reducible first|(apply St.o;constructor)<;>intro _|refine ai ?_|(apply Sq.o;constructor))|simp (disch:=omega) only [lE,seval,w0,hkep,hko,hklt,w6,u1,u2,isNil,objEq,ht,Int.toNat_natCast,decide_true,and_true,decide_false,and_false])
           refine callW_i h57b ?_
           rintro _ H9 ⟨rfl,hx9⟩
           have v6:=hx9.at w6
           have v2:=hx9.at u2
           have v3:=hx9.at ha8.log
           have v4:H9[a.r]?=some (.map (kW (rowsM a.x)) (vW AV.bool (rowsM a.x)) a.rb a.rc):=hx9.at ha8.rows
           have v5:=hx9.at ha8.whole
           have h58:=c58 (lastW b.x.log) 59 [.vp [.vp [.int .i64 a.x.mode,.int .i64 a.x.snap,.bool a.x.done,.int .i64 a.x.stamp,.view 4 (a.x.log.map WR.av),.mview (kW (rowsM a.x)) (vW AV.bool (rowsM a.x)),.mview (kM (wholeM a.x)) (vM AV.bool (wholeM a.x))]]] (fun w=>a.x.whole.contains w.tab) (fun r _=>c59 r a.x _ _ _ _ _ _) (fun H ids bor=>by simp [pa_vp])
           have hseen:seenOf a.x b.x=match (lastW b.x.log).find? (fun w=>a.x.whole.contains w.tab) with | some w=>[itemI w.key] | none=>[]:=rfl
           repeat' (first|(with_reducible first|(apply St.o;constructor)<;>intro _|refine ai ?_|(apply Sq.o;constructor))|((with_reducible apply Sc.o true;constructor);simp only [lP,seval,v6,v2,v3,v4,v5,vw_wrs,vw_kW,vw_vBW,vw_kM,vw_vB,List.length_map];refine ⟨_,h58,?_⟩;rintro _ _ ⟨rfl,rfl⟩;simp only [lA,lP,seval,v6,v2,v3,v4,v5,vw_wrs,vw_kW,vw_vBW,vw_kM,vw_vB,List.length_map])|simp (disch:=omega) only [lE,seval,v6,v2,v3,v4,v5,vw_wrs,vw_kW,vw_vBW,vw_kM,vw_vB,List.length_map])
           . rename_i hge
             rcases firstI_cases (fun w=>a.x.whole.contains w.tab) (lastW b.x.log) with ⟨e,_⟩ | ⟨q,e,hq,hfind⟩
             . rw [e] at hge;omega
             . rw [hfind] at hseen
               rw [e]
               have hvm:=getD_mem hq
               have hov:=hbo.log _ (lastW_mem _ hvm)
               have hb9:b.At H9:=hb8.stay hx9 fun _ _=>id
               have h57c:=c57 hb9 (by have:=hbo.len;omega) hbo.fit
               have hqlt:((q:Int)<((lastW b.x.log).length:Int)):=by omega
               generalize hv:(lastW b.x.log).getD q default=v at *
               simp only at hseen
               have h46:=c46 v.tab v.row hov.1 ⟨by omega,hov.2.2⟩
               refine callW_i h57c ?_
               rintro _ H10 ⟨rfl,hx10⟩
               repeat' (first|(with_reducible apply St.o;constructor) <;> intro _|((with_reducible refine mkl_view ?_ ?_ ?_);(focus decide);(focus rfl))|(with_reducible first|refine ai ?_|(apply Sq.o;constructor))|((with_reducible apply Sc.o true;constructor);simp only [lP,seval,IdxR_wrs,hv,hqlt,Int.toNat_natCast,List.length_map,get_last,set_last,setAt,setAll];refine ⟨_,h46,?_⟩;rintro _ _ ⟨rfl,rfl⟩;simp only [lA,lP,seval,IdxR_wrs,hv,hqlt,Int.toNat_natCast,List.length_map,get_last,set_last,setAt,setAll])|simp (disch:=omega) only [lE,seval,IdxR_wrs,hv,hqlt,Int.toNat_natCast,List.length_map,get_last,set_last,setAt,setAll])
               all_goals try (exfalso;omega)
               obtain ⟨H11,hH11⟩:∃ H11,H11=H10++[AObj.box [AV.int .i64 v.tab,AV.int .i64 v.row,AV.bool v.dead,rowV v.vals]]:=⟨_,rfl⟩
               have hx11:Ext H8 H11:=by rw [hH11];exact (hx9.trans hx10 fun _ _ h=>h).trans (Stay.app _ _ _) fun _ _ h=>h
               have t1:=hx11.at z1
               have t2:=hx11.at z2
               have t3:=hx11.at z3
               have hp1:pos [H2.length+2] (H2.length+2) 0=some 0:=by simp [pos]
               rw [<- hH11]
               refine callN_i [H2.length+2] false (by simpa using at_lt t1) (by simp) ?_
               simp only [lP,seval,hp1,t1,pa_kM,pa_vB]
               refine ⟨_,c56 (setsM (Sk k)) bs c hw8 [itemI (v.tab,v.row)],?_⟩
               rintro _ _ ⟨rfl,bs',c',rfl,hw'⟩
               simp only [lA,lP,seval,renL_kM,renL_vB]
               have hSk2:setsM (Sk (k+1))=List.foldl (fun m n=>setM m n true) (setsM (Sk k)) [itemI (v.tab,v.row)]:=by rw [hSk1,hseen];exact setsM_snoc _ _
               refine back_i (k+1,H11.set (H2.length+2) (.map (kM (List.foldl (fun m n=>setM m n true) (setsM (Sk k)) [itemI (v.tab,v.row)])) (vM AV.bool (List.foldl (fun m n=>setM m n true) (setsM (Sk k)) [itemI (v.tab,v.row)])) bs' c')) ⟨by simp only;omega,?_,?_,?_,bs',c',?_,?_⟩ (by simp only;omega) (Ent.fr (by simp [FrSub,Go.Al.get];exact wrap_i64 (by omega) (by omega)))
               . exact (hst8.trans (O':=fun _=>False) hx11 fun _ _ h=>h.elim).trans (O':=fun i=>i=H2.length+2) (Stay.set rfl) fun i hi h=>.inr (.inl h)
               . simp only;rw [at_set _ _ _ _ (by omega)];exact t2
               . simp only;rw [at_set _ _ _ _ (by omega)];exact t3
               . simp only;rw [hSk2];exact at_same _ _ _ (at_lt t1)
               . simp only;rw [hSk2];exact hw'
           . rename_i hge
             rcases firstI_cases (fun w=>a.x.whole.contains w.tab) (lastW b.x.log) with ⟨e,hfind⟩ | ⟨q,e,hq,hfind⟩
             . rw [hfind] at hseen
               simp only at hseen
               rw [hseen,List.append_nil] at hSk1
               exact back_i (k+1,H9) ⟨by simp only;omega,hst8.trans (O':=fun _=>False) hx9 fun _ _ h=>h.elim,hx9.at z2,hx9.at z3,bs,c,by simp only [hSk1];exact hx9.at z1,by simp only [hSk1];exact hw8⟩ (by simp only;omega) (Ent.fr (by simp [FrSub,Go.Al.get]))
             . rw [e] at hge;exact absurd (by omega:(0:Int)<=q) hge
       . obtain rfl:k=s.all.length:=by omega
         have hslen:=setsM_len (Sk s.all.length)
         have hsklen:(Sk s.all.length).length<=1000000:=by
          have h1:=flat_len (f:=fun q=>if q=i then [] else seenOf a.x (s.all.getD q default).x) (fun q=>by by_cases h:q=i <;> simp [h,seen_len]) (List.range s.all.length)
          have h2:=hp.length_eq
          have h3:=hoa.rlen
          simp only [List.length_map,List.length_range] at h1 h2
          rw [hSk]
          simp only [List.length_append]
          omega
         have hb:(H8++[AObj.box [.mp (H2.length+2)]])[H8.length]?=some (.box [.mp (H2.length+2)]):=get_last
         have hM:(H8++[AObj.box [.mp (H2.length+2)]])[H2.length+2]?=some (.map (kM (setsM (Sk s.all.length))) (vM AV.bool (setsM (Sk s.all.length))) bs c):=by rw [at_app _ _ _ (at_lt z1)];exact z1
         have h60:=c60v AV.bool (setsM (Sk s.all.length)) bs c hw8 (by omega) c112g hb hM
         have hreads:srt (keysM (setsM (Sk s.all.length)))=readsOf (s.all.map (·.x)) i:=by
          have hgi:(s.all.map (·.x)).getD i default=a.x:=by rw [getD_x hin,hax]
          unfold readsOf
          rw [hgi]
          refine srt_sets fun x=>?_
          rw [hSk]
          simp only [List.mem_append,hp.mem_iff,List.mem_flatMap,List.mem_range,List.length_map]
          refine or_congr Iff.rfl (exists_congr fun q=>and_congr_right fun hq=>?_)
          rw [getD_x hq]
         rw [hreads] at h60
         repeat' (first|(with_reducible first|(apply St.o;constructor)<;>intro _|refine ai ?_|(apply Sq.o;constructor))|simp (disch:=omega) only [lE,seval,Int.lt_irrefl,decide_false])
         refine callW_i (c61 _) ?_
         rintro _ _ ⟨rfl,rfl⟩
         repeat' (first|(with_reducible first|(apply St.o;constructor)<;>intro _|refine ai ?_|(apply Sq.o;constructor))|simp (disch:=omega) only [lE,seval])
         refine callW_i h60 ?_
         rintro _ H9 ⟨rfl,hx9'⟩
         have hx9:Ext H8 H9:=Stay.trans (O:=fun _=>False) (O':=fun _=>False) (Stay.app _ _ _) hx9' fun _ _ h=>h
         have v2:=hx9.at z2
         have v3:=hx9.at z3
         have hst9:=hst8.trans (O':=fun _=>False) hx9 fun _ _ h=>h.elim
         have v4:=hst9.at (hxB.at hh3) (by omega)
         have l9:=at_lt v2
         have l91:=at_lt v3
         have l92:=at_lt v4
         have r1:∀ o,(H9.set (H2.length+1) o)[H2.length+1]?=some o:=fun o=>at_same _ _ _ l9
         have r2:∀ o o',(H9.set (H2.length+1) o++[o'])[hid]?=H9[hid]?:=fun o o'=>by rw [at_app _ _ _ (by simp;omega),at_set _ _ _ _ (by omega)]
         have hhl2:(((histS s.ts).take i).map accA).length=i:=by simp;omega
         have r3:∀ o o',(H9.set (H2.length+1) o++[o'])[H9.length]?=some o':=fun o o'=>by
          have:=get_last (L:=H9.set (H2.length+1) o) (o:=o')
          rwa [List.length_set] at this
         repeat' (first|(with_reducible first|(apply St.o;constructor)<;>intro _|refine ai ?_|(apply Sq.o;constructor))|simp (disch:=omega) only [lE,seval,v2,v4,r1,r2,r3,hhl2,setAll,setAt,get_last,set_last,List.length_set,List.length_append,List.length_cons,List.length_nil])
         obtain ⟨cs,hcs⟩:∃ cs,cs=[AV.int .i64 a.x.mode,.int .i64 a.x.snap,.bool a.x.done,.int .i64 a.x.stamp,.view 1 ((readsOf (s.all.map (·.x)) i).map (AV.int .i64)),.slc w 1 W.length]:=⟨_,rfl⟩
         rw [<- hcs]
         obtain ⟨H10,hH10⟩:∃ H10,H10=H9.set (H2.length+1) (AObj.box cs)++[AObj.arr 43 6 [.agg cs]]:=⟨_,rfl⟩
         have hl10:H10.length=H9.length+1:=by rw [hH10];simp
         have hst10:Stay (fun i=>i=H2.length+1\/i=H2.length+2\/i=H2.length+3) B1 H10:=by rw [hH10];exact (hst9.trans (O':=fun i=>i=H2.length+1) (Stay.set rfl) fun i hi h=>.inl h).trans (O':=fun _=>False) (Stay.app _ _ _) fun _ _ h=>h.elim
         have w3:H10[w]?=some (.arr 3 1 ((W.map fun w=>itemI w.key).map (AV.int .i64))):=by rw [hH10,at_app _ _ _ (by simp;omega),at_set _ _ _ _ (by omega)];exact v3
         rw [<- hH10]
         have hnew:(histS s.ts).getD i default=accOf (s.all.map (·.x)) i:=by
          rw [histS,histL,allS_ts];simp [hin]
         have hwr5:accA (accOf (s.all.map (·.x)) i)=.agg (cs.set 5 (.view 1 ((W.map fun w=>itemI w.key).map (AV.int .i64)))):=by
          rw [hcs,accOf,getD_x hin,hax,hW];rfl
         have htk:=take_succD (l:=histS s.ts) (i:=i) (by omega)
         rw [hnew] at htk
         refine back_i (i+1,H10.length,((H10.set hid .dead++[AObj.arr 43 6 (((histS s.ts).take i).map accA++[.agg cs])]).set H10.length (.arr 43 6 (((histS s.ts).take i).map accA++[.agg (cs.set 5 (.view 1 ((W.map fun w=>itemI w.key).map (AV.int .i64))))]))).set w .dead) ⟨by simp only;omega,?_,?_,?_,?_,?_⟩ (by simp only;omega)
          (Ent.lendE (id:=w) (b:=H10.length) (k:=5) (E:=3) (sz:=1) ?_ (flatA_ints _) ?_ ?_ ?_ ?_)
         . have hHB:Ext H B1:=hx2.trans hxB fun _ _ h=>h
           have h1:=hx2.1
           exact ((((hHB.trans hst10 fun j hj h=>by omega).trans (O':=fun j=>j=hid) (Stay.set rfl) fun j hj h=>by omega).trans (O':=fun _=>False) (Stay.app _ _ _) fun _ _ h=>h).trans (O':=fun j=>j=H10.length) (Stay.set rfl) fun j hj h=>by omega).trans (O':=fun j=>j=w) (Stay.set rfl) fun j hj h=>by omega
         . have:=hst10.at (hxB.at hn2) (by omega)
           simp only
           rw [at_set _ _ _ _ (by omega),at_set _ _ _ _ (by omega),at_app _ _ _ (by simp;omega),at_set _ _ _ _ (by omega)]
           exact this
         . have:=hx2.1;simp only;omega
         . simp only;omega
         . simp only
           rw [at_set _ _ _ _ (by omega),at_same _ _ _ (by simp),htk,List.map_append]
           simp only [List.map_cons,List.map_nil,hwr5]
         . rw [at_app _ _ _ (by simp;omega),at_set _ _ _ _ (by omega)];exact w3
         . omega
         . have:=get_last (L:=H10.set hid .dead) (o:=AObj.arr 43 6 (((histS s.ts).take i).map accA++[.agg cs]))
           rwa [List.length_set] at this
         . rw [hcs];simp
         . simp [FrSub,Go.Al.get,hl10]
   . obtain ⟨hj,hmj,hn2',hlt2',hle,hseen⟩:=walk_next hwr hn' hlt' hb' hns
     have hrow:((rowsM a.x).getD j default).1 ∈ a.x.rows:=by
      have h:(rowsM a.x).getD j default ∈ rowsM a.x:=List.mem_of_getElem? hmj
      obtain ⟨q,hq,e⟩:=List.mem_map.1 h
      rw [<- e];exact hq
     have hkx2:kx=kp ((rowsM a.x).getD j default).1:=by
      rw [kW,List.getElem?_map,hmj] at hkx
      cases hkx;rfl
     have hvx2:vx=.bool ((rowsM a.x).getD j default).2:=by
      rw [vW,List.getElem?_map,hmj] at hvx
      cases hvx;rfl
     subst hkx2 hvx2
     have hsn:setsM ((is++[j]).map fun i=>itemI ((rowsM a.x).getD i default).1)=setM (setsM (is.map fun i=>itemI ((rowsM a.x).getD i default).1)) (itemI ((rowsM a.x).getD j default).1) true:=by
      rw [List.map_append];exact setsM_snoc _ _
     have h46:=c46 ((rowsM a.x).getD j default).1.1 ((rowsM a.x).getD j default).1.2 (hoa.rows _ hrow).1 (hoa.rows _ hrow).2
     generalize hp:(rowsM a.x).getD j default=p at *
     generalize setsM (is.map fun i=>itemI ((rowsM a.x).getD i default).1)=m1 at *
     have l31:=at_lt hit
     have l32:=at_lt h5'
     obtain ⟨H4,hH4⟩:∃ H4,H4=H3.set (H2.length+3) (.mit (some a.r) a.rc (is.map (fun i=>a.rb.getD i 0)++[b']) a.rc):=⟨_,rfl⟩
     have y0:H4[H2.length+3]?=some (.mit (some a.r) a.rc (is.map (fun i=>a.rb.getD i 0)++[b']) a.rc):=by rw [hH4];exact at_same _ _ _ l31
     have y1:H4[H2.length+2]?=some (.map (kM m1) (vM AV.bool m1) bs c):=by rw [hH4,at_set _ _ _ _ (by omega)];exact hm8
     have y2:H4[a.r]?=some (.map (kW (rowsM a.x)) (vW AV.bool (rowsM a.x)) a.rb a.rc):=by rw [hH4,at_set _ _ _ _ (by have:=at_lt h5;omega)];exact h5'
     have hst4:Stay (fun i=>i=H2.length+2\/i=H2.length+3) B1 H4:=by rw [hH4];exact hst.trans (O':=fun i=>i=H2.length+3) (Stay.set rfl) fun i hi h=>.inr h
     have hl4:H4.length=H3.length:=by rw [hH4];simp
     have hp1:pos [H2.length+2] (H2.length+2) 0=some 0:=by simp [pos]
     have y1':∀ o,(H4++[o])[H2.length+2]?=some (.map (kM m1) (vM AV.bool m1) bs c):=fun o=>by rw [at_app _ _ _ (by omega)];exact y1
     rw [<- hH4]
     clear hH4
     unfold kp at hkx
     simp only [lA,seval,y0,y2]
     refine ent_i j b' rfl hb' hkx hvx ?_
     simp only [lA,seval]
     repeat' (first|(with_reducible apply St.o;constructor) <;> intro _|((with_reducible refine mkl_view ?_ ?_ ?_);(focus decide);(focus rfl))|(with_reducible first|refine ai ?_|(apply Sq.o;constructor))|((with_reducible apply Sc.o true;constructor);simp only [lP,seval,get_last,set_last,setAt,setAll];refine ⟨_,h46,?_⟩;rintro _ _ ⟨rfl,rfl⟩;simp only [lA,lP,seval,get_last,set_last,setAt,setAll])|simp (disch:=omega) only [lE,seval,get_last,set_last,setAt,setAll])
     refine callN_i [H2.length+2] false (by simp;omega) (by simp) ?_
     simp only [lP,seval,hp1,y1',pa_kM,pa_vB]
     refine ⟨_,c56 m1 bs c hw8 [itemI (p.1.1,p.1.2)],?_⟩
     rintro _ _ ⟨rfl,bs',c',rfl,hw'⟩
     simp only [lA,lP,seval,renL_kM,renL_vB]
     refine back_i (is++[j],(H4++[AObj.box [AV.int .i64 p.1.1,AV.int .i64 p.1.2]]).set (H2.length+2) (.map (kM (List.foldl (fun m n=>setM m n true) m1 [itemI (p.1.1,p.1.2)])) (vM AV.bool (List.foldl (fun m n=>setM m n true) m1 [itemI (p.1.1,p.1.2)])) bs' c')) ⟨hn2',hlt2',?_,?_,bs',c',?_,?_⟩ ?_ (Ent.fr (by simp [FrSub,Go.Al.get]))
     . exact (hst4.trans (O':=fun i=>i=H2.length+2) (Stay.app _ _ _) fun i hi h=>.inl h).trans (O':=fun i=>i=H2.length+2) (Stay.set rfl) fun i hi h=>.inl h
     . simp only;rw [at_set _ _ _ _ (by omega),at_app _ _ _ (by omega),y0,hseen]
     . simp only;rw [hsn];exact at_same _ _ _ (by simp;omega)
     . simp only;rw [hsn];exact hw'
     . simp only [List.length_append,List.length_cons,List.length_nil];omega
 . obtain rfl:i=s.all.length:=by omega
   rw [List.take_of_length_le (by omega)] at hh3
   repeat' (first|(with_reducible first|(apply St.o;constructor)<;>intro _|refine ai ?_|(apply Sq.o;constructor))|simp (disch:=omega) only [lE,seval,Int.lt_irrefl,decide_false])
   exact ⟨hid,rfl,hh1,hh3,hx2⟩
end Go.Proofs.Try
