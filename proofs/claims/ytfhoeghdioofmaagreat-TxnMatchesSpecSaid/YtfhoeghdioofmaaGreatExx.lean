/-
 A part of the proof.
-/
import Derived.Test.YtfhoeghdioofmaaGreatErr
set_option linter.unusedSimpArgs false
set_option linter.unusedVariables false
namespace Go.Proofs.Try
open Go.Proofs.Tryz
open Go.Al
set_option maxRecDepth 100000
def mc35:MC:=(sO [pY 2] (sO [pY 3] (.seq (sO [pI 4 0] (.block 0 (.loop (.seq (sO [pM 5 4,pM 6 0,(none,.v (.nil 7 (.t 6))),pF 8 4 7,pL 9 8,pG 10 9,pB 11 5 10] (.cond 11 .skip (.exit 0))) (.seq (.block 1 (.ops [pM 14 3,pM 15 0,(none,.v (.nil 16 (.t 15))),pF 17 4 16,pL 18 17,pM 19 4,pQ 20 8 18 19,pF 21 0 20,pL 22 21,(none,.e (.mkl 23 3 1 1 (.int .i64 0) [(0,.t 22)])),(none,.e (.app 24 3 1 8 (.t 14) (.t 23))),pM 3 24])) (.ops [pM 12 4,pA 13 12 1,pM 4 13])))))) (sO [pM 25 3,pM 2 25] .ret))))
theorem ok35:FnOk E 35 26 [.tmp 2] mc35:=ofk func35
def mc37:MC:=(sO [pY 2] (sO [pY 3] (.seq (sO [pI 4 0] (.block 0 (.loop (.seq (sO [pM 5 4,pM 6 0,(none,.v (.nil 7 (.t 6))),pF 8 4 7,pL 9 8,pG 10 9,pB 11 5 10] (.cond 11 .skip (.exit 0))) (.seq (.block 1 (.ops [pM 14 3,pM 15 0,(none,.v (.nil 16 (.t 15))),pF 17 4 16,pL 18 17,pM 19 4,pQ 20 8 18 19,pF 21 2 20,pL 22 21,pW 23 72 14 22,pM 3 23])) (.ops [pM 12 4,pA 13 12 1,pM 4 13])))))) (sO [pM 24 3,pM 2 24] .ret))))
theorem ok37:FnOk E 37 25 [.tmp 2] mc37:=ofk func37
def mc44:MC:=(sO [pY 2] (sO [pY 3] (.seq (sO [pI 4 0] (.block 0 (.loop (.seq (sO [pM 9 4,pM 10 0,pG 11 10,pB 12 9 11] (.cond 12 .skip (.exit 0))) (.seq (.block 1 (.any false (yO (oM 15 3) (yO (oM 16 0) (yO (oM 17 4) (yO (oQ 18 4 16 17) (yO (oF 19 0 18) (yO (oL 20 19) (yO (oM 21 0) (yO (oM 22 4) (yO (oQ 23 4 21 22) (yO (oF 24 1 23) (yO (oL 25 24) (yA (oW 26 47 20 25) (.base (yA (oW 27 72 15 26) (.base (yO (oM 3 27) .done)) .stop)) .stop)))))))))))))) (.ops [pM 13 4,pA 14 13 1,pM 4 14])))))) (sO [pY 5] (.seq (sO [pI 6 0] (.block 2 (.loop (.seq (sO [pM 28 6,pM 29 3,pG 30 29,pB 31 28 30] (.cond 31 .skip (.exit 2))) (.seq (.block 3 (sO [(none,.v (.build 34 z2 [])),(none,.e (.alloc 7 z2)),pS 4 7 34] (.seq (sO [pI 8 0] (.block 4 (.loop (.seq (sO [pM 35 8,pM 36 0,pG 37 36,pB 38 35 37] (.cond 38 .skip (.exit 4))) (.seq (.block 5 (.seq (.any false (yO (oM 41 0) (yO (oM 42 8) (yO (oQ 43 4 41 42) (yO (oF 44 0 43) (yO (oL 45 44) (yO (oM 46 0) (yO (oM 47 8) (yO (oQ 48 4 46 47) (yO (oF 49 1 48) (yO (oL 50 49) (yO (oM 52 3) (yO (oM 53 6) (yO (oQ 54 1 52 53) (yO (oL 55 54) (yA (oW 51 47 45 50) (.base (yO (.v (.bin 56 .eql false (.t 51) (.t 55))) .done)) .stop)))))))))))))))) (.cond 56 (.ops [pM 57 0,pM 58 8,pQ 59 4 57 58,pR 60 4 59,pS 4 7 60]) .skip))) (.ops [pM 39 8,pA 40 39 1,pM 8 40])))))) (.ops [pM 61 5,pR 62 4 7,(none,.e (.mkl 63 59 4 1 (.agg z2) [(0,.t 62)])),(none,.e (.app 64 59 4 48 (.t 61) (.t 63))),pM 5 64])))) (.ops [pM 32 6,pA 33 32 1,pM 6 33])))))) (sO [pM 65 5,pM 2 65] .ret))))))
theorem ok44:FnOk E 44 66 [.tmp 2] mc44:=ofk func44
set_option maxHeartbeats 16000000
def zcs (u:TS) (kp:List (Int × TX)):List AV:=[.int .i64 u.last,.int .i64 u.shown,.int .i64 u.begun,.view 8 ((kp.map uxP).map UX.av),.view 8 ((u.act.map uxP).map UX.av)]
theorem IdxR_uxp {P:Program} {m:Nat} {N:FN} {xs:List (Int × TX)} {n:Int} {d:Nat} {c:Kn} (h0:0<=n) (h1:n<xs.length):IdxR P m N ((xs.map uxP).map UX.av) n d c=rK P m N c d (.vp (uxP (xs.getD n.toNat default)).cs):=by
 rw [List.map_map];exact IdxR_map (cs:=fun p=>(uxP p).cs) (fun _=>rfl) h0 h1
theorem vw_uxz (x:List UX) {H:List AObj} {l:List Nat} {n:Nat}:(x.map UX.av).map (vw H l (n+1))=x.map UX.av:=by
 rw [List.map_map];exact List.map_congr_left fun u _=>by simp [UX.av,UX.cs,vw_agg,vw_int,vw_bool,vw_view]
theorem c35 (u:TS) (kp:List (Int × TX)) (hl:u.act.length<=100000):ACalls E.P 35 [.vp (zcs u kp)] [] (fun r H=>r=.slc 0 1 u.act.length/\H=[.arr 3 1 ((u.act.map (·.1)).map (AV.int .i64))]):=by
 have hmax:=maxLen_eq;refine zk ok35 fun N hN=>?_;unfold mc35 pY pI pM pF pL pG pB pQ pA sO;simp only [lA,seval];refine loop_i (fun k:Nat=>k<=u.act.length) (fun k=>⟨[(0,.vp (zcs u kp)),(3,.slc 0 1 k),(4,.int .i64 k)],[.arr 3 1 (((u.act.map (·.1)).take k).map (AV.int .i64))]⟩) (fun k=>u.act.length - k) 0 (by omega) (Ent.ghost' 3 3 1 (by omega) rfl zE) ?_;rintro k hk;unfold zcs;by_cases hkl:k<u.act.length
 . have htk:=take_succD (l:=u.act.map (·.1)) (i:=k) (by simpa using hkl);have hgd:(u.act.map (·.1)).getD k default=(u.act.getD k default).1:=by simp [hkl]
   rw [hgd] at htk;generalize hux:u.act.getD k default=p at *;have hpc:(uxP p).num=p.1:=rfl;have hlk:((u.act.map (·.1)).take k).length=k:=by rw [List.length_take,List.length_map];omega
   repeat' (first|(with_reducible apply zS;constructor) <;> intro _|((with_reducible refine mkl_view ?_ ?_ ?_);(focus decide);(focus rfl))|(with_reducible first|refine ai ?_|(apply zQ;constructor))|simp (disch:=omega) only [lE,seval,hlk,IdxR_uxp,hux,ux_cs,hpc])
   all_goals try omega
   exact back_i (k+1) (by omega) (by omega) (ent [1] false (by simp only [lP,seval,List.map_append,htk]<;>(try simp)<;>(try omega)) (by simp only [lP,seval,List.map_append,htk]<;>(try simp)<;>(try omega)))
 . obtain rfl:k=u.act.length:=by omega
   have htk:(u.act.map (·.1)).take u.act.length=u.act.map (·.1):=List.take_of_length_le (by simp);rw [htk];repeat' (first|(with_reducible first|(apply zS;constructor)<;>intro _|refine ai ?_|(apply zQ;constructor))|simp (disch:=omega) only [lE,seval,Int.lt_irrefl])
   all_goals try omega
   refine keep_i [0] false (by simp) (by simp) rfl ⟨by simp only [lP,seval],?_⟩;simp only [lP,seval]
theorem c37 (u:TS) (kp:List (Int × TX)) (hl:u.act.length<=100000):ACalls E.P 37 [.vp (zcs u kp)] [] (fun r H=>r=.slc 0 1 (snapsS u).length/\H=[.arr 3 1 ((snapsS u).map (AV.int .i64))]):=by
 have hmax:=maxLen_eq;refine zk ok37 fun N hN=>?_;unfold mc37 pY pI pM pF pL pG pB pQ pW pA sO;simp only [lA,seval];refine loop_i (fun k:Nat=>k<=u.act.length) (fun k=>⟨[(0,.vp (zcs u kp)),(3,.slc 0 1 (ascL ((u.act.take k).map fun p=>p.2.snap)).length),(4,.int .i64 k)],[.arr 3 1 ((ascL ((u.act.take k).map fun p=>p.2.snap)).map (AV.int .i64))]⟩) (fun k=>u.act.length - k) 0 (by omega) (Ent.ghost' 3 3 1 (by omega) rfl (Ent.fr (by simp [FrSub,Go.Al.get,ascL]))) ?_;rintro k hk;unfold zcs;by_cases hkl:k<u.act.length
 . have htk:=take_succD hkl;have hal:=ascL_len ((u.act.take k).map fun p=>p.2.snap);rw [List.length_map,List.length_take] at hal;have hnx:ascL ((u.act.take (k+1)).map fun p=>p.2.snap)=withL (u.act.getD k default).2.snap (ascL ((u.act.take k).map fun p=>p.2.snap)):=by rw [htk,List.map_append,List.map_cons,List.map_nil,ascL_snoc]
   generalize hux:u.act.getD k default=p at *;have hpc:(uxP p).snap=p.2.snap:=rfl;generalize ascL ((u.act.take k).map fun p=>p.2.snap)=A at *;have h72:=c72o A p.2.snap (by omega);repeat' (first|(with_reducible first|(apply zS;constructor)<;>intro _|refine ai ?_|(apply zQ;constructor))|((with_reducible apply zC;constructor);simp only [lP,seval,IdxR_uxp,hux,ux_cs,hpc,Int.toNat_natCast];refine ⟨_,h72,?_⟩;rintro _ _ ⟨rfl,rfl⟩;simp only [lA,lP,seval,IdxR_uxp,hux,ux_cs,hpc])|simp (disch:=omega) only [lE,seval,IdxR_uxp,hux,ux_cs,hpc])
   all_goals try omega
   exact back_i (k+1) (by omega) (by omega) (ent [1] false (by simp only [lP,seval,hnx]<;>(try simp)<;>(try omega)) (by simp only [lP,seval,hnx]<;>(try simp)<;>(try omega)))
 . obtain rfl:k=u.act.length:=by omega
   rw [List.take_length];repeat' (first|(with_reducible first|(apply zS;constructor)<;>intro _|refine ai ?_|(apply zQ;constructor))|simp (disch:=omega) only [lE,seval,Int.lt_irrefl])
   all_goals try omega
   refine keep_i [0] false (by simp) (by simp) rfl ⟨by simp only [lP,seval];rfl,?_⟩;simp only [lP,seval];simp [snapsS]
theorem pickZ_take {log:List WR} {k:Nat} (hk:k<log.length) (it:Int):pickZ (log.take (k+1)) it=if itemI (log.getD k default).key=it then log.getD k default else pickZ (log.take k) it:=by
 rw [take_succD hk,pickZ_snoc]
theorem weak_row:Weak (.raw (.slice none 0 0)) (rowV []):=weak_nil
theorem c44 (log:List WR) (hn:log.length<=200000) (hk:∀ w ∈ log,(0<=w.tab/\w.tab<=255)/\0<=w.row/\w.row<=1073741824):ACalls E.P 44 [.view 4 (log.map WR.av)] [] (fun r H=>r=.view 4 ((lastW log).map WR.av)/\H=[]):=by
 have hmax:=maxLen_eq;rw [<- lastZ_eq fun w hw=>(hk w hw).2];refine zk ok44 fun N hN=>?_;unfold mc44 z2 pY pI pM pG pB pA pS pQ pR oM oL oF oQ oW sO yO yA;simp only [lA,seval];obtain ⟨its,hits⟩:∃ its,its=ascL (log.map fun w=>itemI w.key):=⟨_,rfl⟩;have hil0:its.length<=log.length:=by rw [hits];have:=ascL_len (log.map fun w=>itemI w.key);rw [List.length_map] at this;exact this
 refine loop_i (fun k:Nat=>k<=log.length) (fun k=>⟨[(0,.view 4 (log.map WR.av)),(3,.view 1 ((ascL ((log.take k).map fun w=>itemI w.key)).map (AV.int .i64))),(4,.int .i64 k)],[]⟩) (fun k=>log.length - k) 0 (by omega) (Ent.trans (Ent.weak 3 rfl (weak_nil (sz:=1))) (Ent.fr (by simp [FrSub,Go.Al.get,ascL]))) ?_;rintro k hkk;by_cases hkl:k<log.length
 . have hwm:=getD_mem' hkl;have hwb:=hk _ hwm;have hal:=ascL_len ((log.take k).map fun w=>itemI w.key);rw [List.length_map,List.length_take] at hal;have hnx:ascL ((log.take (k+1)).map fun w=>itemI w.key)=withL (itemI (log.getD k default).key) (ascL ((log.take k).map fun w=>itemI w.key)):=by rw [take_succD hkl,List.map_append,List.map_cons,List.map_nil,ascL_snoc]
   generalize hw:log.getD k default=w at *;have h47:=c47 w.tab w.row hwb.1 hwb.2;have h72:=c72 (ascL ((log.take k).map fun w=>itemI w.key)) (itemI w.key) (by omega);rw [<- hnx] at h72;have hwc:w.cs=[.int .i64 w.tab,.int .i64 w.row,.bool w.dead,rowV w.vals]:=rfl;repeat' (first|(with_reducible first|(apply zS;constructor)<;>intro _|refine ai ?_|(apply zQ;constructor))|((with_reducible apply zC;constructor);simp only [lP,seval,IdxR_wrs,hw,hwc,Int.toNat_natCast];refine ⟨_,h47,?_⟩;rintro _ _ ⟨rfl,rfl⟩;simp only [lA,lP,seval,IdxR_wrs,hw,hwc])|((with_reducible apply zF;constructor);simp only [lP,seval,IdxR_wrs,hw,hwc,Int.toNat_natCast];refine ⟨_,h72,?_⟩;rintro _ _ ⟨rfl,rfl⟩;simp only [lA,lP,seval,IdxR_wrs,hw,hwc])|simp (disch:=omega) only [lE,seval,IdxR_wrs,hw,hwc])
   all_goals try omega
   exact back_i (k+1) (by omega) (by omega) zE
 . obtain rfl:k=log.length:=by omega
   rw [List.take_length,<- hits];repeat' (first|(with_reducible first|(apply zS;constructor)<;>intro _|refine ai ?_|(apply zQ;constructor))|simp (disch:=omega) only [lE,seval,Int.lt_irrefl])
   all_goals try omega
   have hlz:lastZ log=its.map (pickZ log):=by rw [hits];rfl
   rw [hlz];refine loop_i (fun i:Nat=>i<=its.length) (fun i=>⟨[(0,.view 4 (log.map WR.av)),(3,.view 1 (its.map (AV.int .i64))),(5,.slc 0 4 i),(6,.int .i64 i)],[.arr 59 4 (((its.map (pickZ log)).take i).map WR.av)]⟩) (fun i=>its.length - i) 0 (by omega) (Ent.ghost' 5 59 4 (by omega) rfl zE) ?_;rintro i hi;by_cases hil:i<its.length
   . have htk:=take_succD (l:=its.map (pickZ log)) (i:=i) (by simpa using hil);have hgd:(its.map (pickZ log)).getD i default=pickZ log (its.getD i default):=(by simp [hil]);rw [hgd] at htk;generalize hx:its.getD i default=x at *;have hx0':its.getD i 0=x:=hx;repeat' (first|(with_reducible first|(apply zS;constructor)<;>intro _|refine ai ?_|(apply zQ;constructor))|simp (disch:=omega) only [lE,seval,get_last,set_last])
     all_goals try omega
     refine loop_i (fun k:Nat=>k<=log.length) (fun k=>⟨[(0,.view 4 (log.map WR.av)),(3,.view 1 (its.map (AV.int .i64))),(5,.slc 0 4 i),(6,.int .i64 i),(7,.op 1 0),(8,.int .i64 k)],[.arr 59 4 (((its.map (pickZ log)).take i).map WR.av),.box (pickZ (log.take k) x).cs]⟩) (fun k=>log.length - k) 0 (by omega) ?_ ?_
     . refine Ent.trans (Ent.weakB (b:=1) (k:=3) (cs:=[.int .i64 0,.int .i64 0,.bool false,.raw (.slice none 0 0)]) (y:=.raw (.slice none 0 0)) (y':=rowV []) rfl rfl weak_row (fr':=[(0,.view 4 (log.map WR.av)),(3,.view 1 (its.map (AV.int .i64))),(5,.slc 0 4 i),(6,.int .i64 i),(7,.op 1 0),(8,.int .i64 ((0:Nat):Int))]) (by simp [FrSub,Go.Al.get])) zE
     rintro k hkk;by_cases hkl:k<log.length
     . have hwm:=getD_mem' hkl;have hwb:=hk _ hwm;have hnx:=pickZ_take hkl x;generalize hw:log.getD k default=w at *;have h47:=c47 w.tab w.row hwb.1 hwb.2;have hwc:w.cs=[.int .i64 w.tab,.int .i64 w.row,.bool w.dead,rowV w.vals]:=rfl;have hpc:(pickZ (log.take k) x).cs=[.int .i64 (pickZ (log.take k) x).tab,.int .i64 (pickZ (log.take k) x).row,.bool (pickZ (log.take k) x).dead,rowV (pickZ (log.take k) x).vals]:=rfl;by_cases he:itemI w.key=x
       . have hde:decide (itemI w.key=x)=true:=decide_eq_true he;rw [if_pos he] at hnx;have hde2:decide (itemI (w.tab,w.row)=x)=true:=hde;repeat' (first|(with_reducible first|(apply zS;constructor)<;>intro _|refine ai ?_|(apply zQ;constructor))|((with_reducible apply zC;constructor);simp only [lP,seval,IdxR_wrs,IdxR_int,hw,hwc,hpc,hx,hx0',hde2,Int.toNat_natCast];refine ⟨_,h47,?_⟩;rintro _ _ ⟨rfl,rfl⟩;simp only [lA,lP,seval,IdxR_wrs,IdxR_int,hw,hwc,hpc,hx,hx0',hde2])|simp (disch:=omega) only [lE,seval,IdxR_wrs,IdxR_int,hw,hwc,hpc,hx,hx0',hde2])
         all_goals try omega
         refine back_i (k+1) (by omega) (by omega) ?_;simp only [hnx];exact zE
       . have hde:decide (itemI w.key=x)=false:=decide_eq_false he;rw [if_neg he] at hnx;have hde2:decide (itemI (w.tab,w.row)=x)=false:=hde;repeat' (first|(with_reducible first|(apply zS;constructor)<;>intro _|refine ai ?_|(apply zQ;constructor))|((with_reducible apply zC;constructor);simp only [lP,seval,IdxR_wrs,IdxR_int,hw,hwc,hpc,hx,hx0',hde2,Int.toNat_natCast];refine ⟨_,h47,?_⟩;rintro _ _ ⟨rfl,rfl⟩;simp only [lA,lP,seval,IdxR_wrs,IdxR_int,hw,hwc,hpc,hx,hx0',hde2])|simp (disch:=omega) only [lE,seval,IdxR_wrs,IdxR_int,hw,hwc,hpc,hx,hx0',hde2])
         all_goals try omega
         refine back_i (k+1) (by omega) (by omega) ?_;simp only [hnx];exact zE
     . obtain rfl:k=log.length:=(by omega);rw [List.take_length];have hpc:(pickZ log x).cs=[.int .i64 (pickZ log x).tab,.int .i64 (pickZ log x).row,.bool (pickZ log x).dead,rowV (pickZ log x).vals]:=rfl;have hpa:AV.agg (pickZ log x).cs=(pickZ log x).av:=rfl;generalize pickZ log x=w at *;rw [hpc] at hpa ⊢;clear hpc;have hlk:((its.map (pickZ log)).take i).length=i:=(by rw [List.length_take,List.length_map];omega);repeat' (first|(with_reducible apply zS;constructor) <;> intro _|((with_reducible refine mkl_view ?_ ?_ ?_);(focus decide);(focus rfl))|(with_reducible first|refine ai ?_|(apply zQ;constructor))|simp (disch:=omega) only [lE,seval,hlk,Int.lt_irrefl])
       all_goals try omega
       exact back_i (i+1) (by omega) (by omega) (ent [2] false (by simp only [lP,seval,pa_wrs,pa_wr,hpa,List.map_append,htk]<;>(try simp)<;>(try omega)) (by simp only [lP,seval,pa_wrs,pa_wr,hpa,List.map_append,htk]<;>(try simp)<;>(try omega)))
   . obtain rfl:i=its.length:=(by omega);have htk:(its.map (pickZ log)).take its.length=its.map (pickZ log):=List.take_of_length_le (by simp);rw [htk];repeat' (first|(with_reducible first|(apply zS;constructor)<;>intro _|refine ai ?_|(apply zQ;constructor))|simp (disch:=omega) only [lE,seval,Int.lt_irrefl])
     all_goals try omega
     refine keep_i [] true (by simp) (by simp) rfl ⟨?_,by simp only [lP,seval]⟩;simp only [lP,seval];rw [vw_wrs]
def mc43:MC:=(sO [pK 3 0,(none,.e (.alloc 6 z2)),pZ 7] (.seq (sO [pF 9 5 3,pL 10 9,pG 11 10,(none,.v (.bin 12 .sub false (.t 11) (.c (.int .i64 1)))),pM 8 12] (.block 0 (.loop (.seq (sO [pM 13 8,(none,.v (.bin 14 .geq false (.t 13) (.c (.int .i64 0))))] (.cond 14 .skip (.exit 0))) (.seq (.block 1 (sO [pF 17 5 3,pL 18 17,pM 19 8,pQ 20 4 18 19,pF 21 0 20,pL 22 21,pM 23 1,(none,.v (.bin 24 .eql false (.t 22) (.t 23))),pM 25 24,gT 25 (oF 26 5 3),gT 25 (oL 27 26),gT 25 (oM 28 8),gT 25 (oQ 29 4 27 28),gT 25 (oF 30 1 29),gT 25 (oL 31 30),gT 25 (oM 32 2),(some (25,true),.v (.bin 33 .eql false (.t 31) (.t 32))),pP 34 25 33] (.cond 34 (sO [pF 35 5 3,pL 36 35,pM 37 8,pQ 38 4 36 37,pR 39 4 38,pS 4 6 39,(none,.v (.mov 7 (.c (.bool true))))] .ret) .skip))) (.ops [pM 15 8,(none,.v (.bin 16 .sub false (.t 15) (.c (.int .i64 1)))),pM 8 16])))))) (sO [(none,.v (.build 40 z2 [])),pS 4 6 40,pZ 7] .ret)))
theorem ok43:FnOk E 43 41 [.cell 6 59,.tmp 7] mc43:=ofk func43
def mc88:MC:=(sO [pY 2] (sO [(none,.e (.mkl 4 49 8 0 (.agg z1) [])),pM 5 0,(none,.v (.nil 6 (.t 5))),pF 7 3 6,pL 8 7,(none,.e (.app 9 49 8 112 (.t 4) (.t 8))),pM 3 9] (sO [pM 10 3,pM 11 0,(none,.v (.nil 12 (.t 11))),pF 13 4 12,pL 14 13,(none,.e (.app 15 49 8 112 (.t 10) (.t 14))),pM 2 15] .ret)))
theorem ok88:FnOk E 88 16 [.tmp 2] mc88:=ofk func88
def mc89:MC:=(sO [pY 4] (sO [pY 5] (.seq (sO [pI 6 0] (.block 0 (.loop (.seq (sO [pM 11 6,pM 12 0,pM 13 1,pQ 14 8 12 13,pF 15 6 14,pL 16 15,pG 17 16,pB 18 11 17] (.cond 18 .skip (.exit 0))) (.seq (.block 1 (.ops [pM 21 5,pM 22 0,pM 23 1,pQ 24 8 22 23,pF 25 6 24,pL 26 25,pM 27 6,pQ 28 1 26 27,pL 29 28,pW 30 72 21 29,pM 5 30])) (.ops [pM 19 6,pA 20 19 1,pM 6 20])))))) (.seq (sO [pI 7 0] (.block 2 (.loop (.seq (sO [pM 31 7,pM 32 0,pG 33 32,pB 34 31 33] (.cond 34 .skip (.exit 2))) (.seq (.block 3 (.seq (sO [pM 37 7,pM 38 1,(none,.v (.bin 39 .eql false (.t 37) (.t 38)))] (.cond 39 (.exit 3) .skip)) (sO [pM 40 0,pM 41 7,pQ 42 8 40 41,pF 43 5 42,pL 44 43,pV 45 44 44,pM 8 45] (sO [pI 9 0] (.block 4 (.loop (.seq (sO [pM 46 9,pM 47 8,pG 48 47,pB 49 46 48] (.cond 49 .skip (.exit 4))) (.seq (.block 5 (.seq (.any false (yO (oM 52 0) (yO (oM 53 1) (yO (oQ 54 8 52 53) (yO (oF 55 7 54) (yO (oL 56 55) (yO (oM 57 8) (yO (oM 58 9) (yO (oQ 59 4 57 58) (yO (oF 60 0 59) (yO (oL 61 60) (yA (oW 62 73 56 61) (.base (yO (oM 10 62) .done)) .stop)))))))))))) (sO [pM 63 10] (.cond 63 (.seq (.any false (yO (oM 64 5) (yO (oM 65 8) (yO (oM 66 9) (yO (oQ 67 4 65 66) (yO (oF 68 0 67) (yO (oL 69 68) (yO (oM 70 8) (yO (oM 71 9) (yO (oQ 72 4 70 71) (yO (oF 73 1 72) (yO (oL 74 73) (yA (oW 75 47 69 74) (.base (yA (oW 76 72 64 75) (.base (yO (oM 5 76) .done)) .stop)) .stop))))))))))))) (.exit 4)) .skip)))) (.ops [pM 50 9,pA 51 50 1,pM 9 51]))))))))) (.ops [pM 35 7,pA 36 35 1,pM 7 36])))))) (sO [pM 77 5,pM 4 77] .ret)))))
theorem ok89:FnOk E 89 78 [.tmp 4] mc89:=ofk func89
end Go.Proofs.Try
namespace Go.Al
theorem ACalls.lendT {H:List AObj} {P:Program} {f:FuncId} {args:List AV} {Q:AV->List AObj->Prop} (h:ACalls P f args H fun r H'=>∃ a E sz xs k cs x,r=.tup [.agg cs,x]/\cs[k]?=some (.slc a sz xs.length)/\H'[a]?=some (.arr E sz xs)/\Flat xs/\Q (.tup [.agg (cs.set k (.view sz xs)),x]) (H'.set a .dead)):ACalls P f args H Q:=by
 refine ⟨h.1,fun γ σ w vs hi hv=>(h.2 γ σ w vs hi hv).mono ?_⟩;rintro e w' ⟨v,γ',σ',r,H',he,hst,hi',hr,a,E,sz,xs,k,cs,x,rfl,hk,hH,hx,hq⟩;refine ⟨v,gl γ' σ' w' a,σ'.set a none,_,_,he,hst.trans (kill_step hi'),inv_kill hi',?_,hq⟩;obtain ⟨us,h1,h2⟩:=hr;obtain ⟨v1,vs2,h3,h4,h5⟩:=repVs_cons.1 h2;obtain ⟨ws,h6,h7,h8⟩:=h4;refine ⟨us,h1,repVs_cons.2 ⟨v1,vs2,h3,⟨ws,h6,RepVs.setx k (RepVs.mono (gl_le hi') _ _ _ _ lend_sg h7) fun u hu=>?_,h8⟩,RepVs.mono (gl_le hi') _ _ _ _ lend_sg h5⟩⟩;obtain ⟨y,hy1,hy2⟩:=RepVs.get' h7 hu;rw [hk] at hy1;cases hy1
 exact kill_view hi' hH hx hy2 _
end Go.Al
namespace Go.Proofs.Try
open Go.Al
set_option maxRecDepth 100000
set_option maxHeartbeats 16000000
theorem ti49:E.TI 49=some ⟨.struct [(0,3),(1,3),(2,3),(3,4),(4,3),(5,27),(6,41),(7,41)],8,112,[.int .i64 0,.int .i64 0,.int .i64 0,.bool false,.int .i64 0,.slice none 0 0,.slice none 0 0,.slice none 0 0],true,true,false⟩:=rfl
def wrS (log:List WR) (tab row:Int):WR × Bool:=match findB (rowIs tab row) log with | some w=>(w,true) | none=>(zeroW,false)
theorem ux_of (n:Int) (t:TX):(uxOf n t).cs=[.int .i64 n,.int .i64 t.mode,.int .i64 t.snap,.bool t.done,.int .i64 t.stamp,.view 4 (t.log.map WR.av),.view 1 ((t.rows.map itemI).map (AV.int .i64)),.view 1 (t.whole.map (AV.int .i64))]:=rfl
theorem ux_av' (n:Int) (t:TX):(uxOf n t).av=.agg (uxOf n t).cs:=rfl
theorem c43 (n:Int) (t:TX) (tab row:Int) (hl:t.log.length<=1000000):ACalls E.P 43 [(uxOf n t).av,.int .i64 tab,.int .i64 row] [] (fun r H=>r=.tup [(wrS t.log tab row).1.av,.bool (wrS t.log tab row).2]/\H=[]):=by
 have hmax:=maxLen_eq;refine ACalls.weakR ?_;refine zk ok43 fun N hN=>?_;unfold mc43 z2 pK pZ pF pL pG pM pQ pP pR pS gT oM oL oF oQ sO;rw [ux_av',ux_of];simp only [lA,seval];repeat' (first|(with_reducible first|(apply zS;constructor)<;>intro _|refine ai ?_|(apply zQ;constructor))|simp (disch:=omega) only [lE,seval])
 refine loop_i (fun j:Nat=>j<=t.log.length/\∀ i,j<=i->i<t.log.length->rowIs tab row (t.log.getD i default)=false) (fun j=>⟨[(1,.int .i64 tab),(2,.int .i64 row),(3,.op 0 0),(6,.op 1 0),(7,.bool false),(8,.int .i64 ((j:Int) - 1))],[.box (uxOf n t).cs,.box [.int .i64 0,.int .i64 0,.bool false,.raw (.slice none 0 0)]]⟩) (fun j=>j) t.log.length ⟨by omega,fun i h1 h2=>by omega⟩ zE ?_;rintro j ⟨hj,hno⟩;rw [ux_of];rcases Nat.eq_zero_or_pos j with rfl | hpos
 . repeat' (first|(with_reducible first|(apply zS;constructor)<;>intro _|refine ai ?_|(apply zQ;constructor))|simp (disch:=omega) only [lE,seval,ti59])
   all_goals try omega
   have hw:wrS t.log tab row=(zeroW,false):=by unfold wrS;rw [findB_none fun k hk=>hno k (by omega) hk]
   rw [hw];refine keep_i [] true (by simp) (by simp) rfl ⟨_,weak_zero.tup2 (.refl _),?_,?_⟩ <;> simp only [lP,seval]
 . obtain ⟨i,rfl⟩:∃ i,j=i+1:=⟨j - 1,by omega⟩;have hij:((i+1:Nat):Int) - 1=i:=by omega
   rw [hij];generalize hw:t.log.getD i default=w at *;have hwc:w.cs=[.int .i64 w.tab,.int .i64 w.row,.bool w.dead,rowV w.vals]:=rfl;have hwr:IntKind.i64.wrap ((i:Int) - 1)=(i:Int) - 1:=wrap_i64 (by omega) (by omega)
   have hnext:rowIs tab row w=false->i<=t.log.length/\∀ k,i<=k->k<t.log.length->rowIs tab row (t.log.getD k default)=false:=fun hr=>⟨by omega,fun k h1 h2=>by
    by_cases e:k=i
    . rw [e,hw];exact hr
    . exact hno k (by omega) h2⟩
   by_cases h1:w.tab=tab
   . by_cases h2:w.row=row
     . have d1:decide (w.tab=tab)=true:=decide_eq_true h1;have d2:decide (w.row=row)=true:=decide_eq_true h2
       have hrs:wrS t.log tab row=(w,true):=by
        unfold wrS;rw [findB_some (j:=i) (by omega) (by rw [hw];simp [rowIs,h1,h2]) fun k h3 h4=>hno k (by omega) h4,hw]
       rw [hrs];repeat' (first|(with_reducible first|(apply zS;constructor)<;>intro _|refine ai ?_|(apply zQ;constructor))|simp (disch:=omega) only [lE,seval,ti59,IdxR_wrs,hw,hwc,d1,d2])
       all_goals try omega
       refine keep_i [] true (by simp) (by simp) rfl ⟨_,.refl _,?_,?_⟩ <;> simp only [lP,seval] <;> rfl
     . have d1:decide (w.tab=tab)=true:=decide_eq_true h1;have d2:decide (w.row=row)=false:=decide_eq_false h2;repeat' (first|(with_reducible first|(apply zS;constructor)<;>intro _|refine ai ?_|(apply zQ;constructor))|simp (disch:=omega) only [lE,seval,IdxR_wrs,hw,hwc,d1,d2])
       all_goals try omega
       exact back_i i (hnext (by simp [rowIs,h2])) (by omega) (Ent.fr (by simp [FrSub,Go.Al.get,hwr]))
   . have d1:decide (w.tab=tab)=false:=decide_eq_false h1;repeat' (first|(with_reducible first|(apply zS;constructor)<;>intro _|refine ai ?_|(apply zQ;constructor))|simp (disch:=omega) only [lE,seval,IdxR_wrs,hw,hwc,d1])
     all_goals try omega
     exact back_i i (hnext (by simp [rowIs,h1])) (by omega) (Ent.fr (by simp [FrSub,Go.Al.get,hwr]))
theorem c88 (u:TS) (kp:List (Int × TX)) (hl:kp.length+u.act.length<=1000):ACalls E.P 88 [.vp (zcs u kp)] [] (fun r H=>r=.view 8 (((kp++u.act).map uxP).map UX.av)/\H=[]):=by
 have hmax:=maxLen_eq;refine zk ok88 fun N hN=>?_;unfold mc88 z1 pY pM pF pL sO;simp only [lA,seval];unfold zcs;repeat' (first|(with_reducible first|(apply zS;constructor)<;>intro _|refine ai ?_|(apply zQ;constructor))|simp (disch:=omega) only [lE,seval,get_last,set_last])
 all_goals try omega
 refine keep_i [] true (by simp) (by simp) rfl ⟨?_,by simp only [lP,seval]⟩;simp only [lP,seval,List.map_append];rw [<- List.map_append,<- List.map_append,vwS_arr (by simp),vw_uxz]
theorem seen_step {t o:UX} {w:List WR} {j:Nat} (hw:lastW o.log=w) (hj:j<w.length) (hn:∀ i,i<j->t.whole.contains (w.getD i default).tab=false) (h:t.whole.contains (w.getD j default).tab=true):seenU t o=[itemI (w.getD j default).key]:=by
 unfold seenU
 have e:w=w.take j++w.getD j default::w.drop (j+1):=by
  rw [List.getD_eq_getElem?_getD,List.getElem?_eq_getElem hj,Option.getD_some,<- List.drop_eq_getElem_cons hj,List.take_append_drop]
 have h0:(w.take j).find? (fun w=>t.whole.contains w.tab)=none:=by
  rw [List.find?_eq_none];intro x hx;obtain ⟨i,hi,rfl⟩:=List.getElem_of_mem hx;rw [List.length_take] at hi;have:=hn i (by omega);simp only [List.getD_eq_getElem?_getD,List.getElem?_eq_getElem (show i<w.length by omega),Option.getD_some] at this;simp only [List.getElem_take];rw [this];simp
 rw [hw]
 have hf:w.find? (fun w=>t.whole.contains w.tab)=some (w.getD j default):=by
  conv=>lhs;rw [e]
  rw [List.find?_append,h0,List.find?_cons_of_pos (by simpa using h)];rfl
 rw [hf]
theorem seen_none {t o:UX} {w:List WR} (hw:lastW o.log=w) (hn:∀ i,i<w.length->t.whole.contains (w.getD i default).tab=false):seenU t o=[]:=by
 unfold seenU
 have hf:w.find? (fun w=>t.whole.contains w.tab)=none:=by
  rw [List.find?_eq_none];intro x hx;obtain ⟨i,hi,rfl⟩:=List.getElem_of_mem hx;have:=hn i hi;simp only [List.getD_eq_getElem?_getD,List.getElem?_eq_getElem hi,Option.getD_some] at this;rw [this];simp
 rw [hw,hf]
theorem seenU_len (t o:UX):(seenU t o).length<=1:=by
 unfold seenU;cases (lastW o.log).find? (fun w=>t.whole.contains w.tab) <;> simp
def rdU (l:List UX) (k i:Nat):List Int:=(l.getD k default).rows++(List.range i).flatMap fun i=>if i=k then [] else seenU (l.getD k default) (l.getD i default)
theorem rdU_next (l:List UX) (k i:Nat):rdU l k (i+1)=rdU l k i++(if i=k then [] else seenU (l.getD k default) (l.getD i default)):=by
 unfold rdU;rw [List.range_succ,List.flatMap_append];simp
theorem rdU_len (l:List UX) (k:Nat):∀ i,(rdU l k i).length<=(l.getD k default).rows.length+i
 | 0=>by simp [rdU]
 | i+1=>by
   rw [rdU_next,List.length_append];have:=rdU_len l k i;have:=seenU_len (l.getD k default) (l.getD i default);split
   . simp only [List.length_nil];omega
   . omega
theorem c89 (l:List UX) (k:Nat) (hk:k<l.length) (hn:l.length<=1000) (hb:∀ u ∈ l,u.rows.length<=1000/\u.log.length<=200000) (hkk:∀ u ∈ l,∀ w ∈ u.log,(0<=w.tab/\w.tab<=255)/\0<=w.row/\w.row<=1073741824) :
 ACalls E.P 89 [.view 8 (l.map UX.av),.int .i64 k] [] (fun r H=>r=.slc 0 1 (readsU l k).length/\H=[.arr 3 1 ((readsU l k).map (AV.int .i64))]):=by
 have hmax:=maxLen_eq;refine zk ok89 fun N hN=>?_;unfold mc89 pY pI pM pQ pF pL pG pB pW pA pV oM oL oF oQ oW sO yO yA;simp only [lA,seval];have hum:=getD_mem' hk;obtain ⟨hr1,_⟩:=hb _ hum;have hfin:readsU l k=ascL (rdU l k l.length):=rfl;have hst0:rdU l k 0=(l.getD k default).rows:=by simp [rdU]
 have hlen:=rdU_len l k;have hnxt:=rdU_next l k;generalize hu:l.getD k default=t at *;refine loop_i (fun i:Nat=>i<=t.rows.length) (fun i=>⟨[(0,.view 8 (l.map UX.av)),(1,.int .i64 k),(5,.slc 0 1 (ascL (t.rows.take i)).length),(6,.int .i64 i)],[.arr 3 1 ((ascL (t.rows.take i)).map (AV.int .i64))]⟩) (fun i=>t.rows.length - i) 0 (by omega) (Ent.ghost' 5 3 1 (by omega) rfl (Ent.fr (by simp [FrSub,Go.Al.get,ascL]))) ?_;rintro i hi;by_cases hil:i<t.rows.length
 . have hal:=ascL_len (t.rows.take i);rw [List.length_take] at hal;have hnx:ascL (t.rows.take (i+1))=withL (t.rows.getD i default) (ascL (t.rows.take i)):=by rw [take_succD hil,ascL_snoc]
   generalize hx:t.rows.getD i default=x at *;have hx0:t.rows.getD i 0=x:=hx;generalize ascL (t.rows.take i)=A at *;have h72:=c72o A x (by omega);repeat' (first|(with_reducible first|(apply zS;constructor)<;>intro _|refine ai ?_|(apply zQ;constructor))|((with_reducible apply zC;constructor);simp only [lP,seval,IdxR_uxs,IdxR_int,hu,ux_cs,hx,hx0,Int.toNat_natCast];refine ⟨_,h72,?_⟩;rintro _ _ ⟨rfl,rfl⟩;simp only [lA,lP,seval,IdxR_uxs,IdxR_int,hu,ux_cs,hx,hx0])|simp (disch:=omega) only [lE,seval,IdxR_uxs,IdxR_int,hu,ux_cs,hx,hx0])
   all_goals try omega
   exact back_i (i+1) (by omega) (by omega) (ent [1] false (by simp only [lP,seval,hnx]<;>(try simp)<;>(try omega)) (by simp only [lP,seval,hnx]<;>(try simp)<;>(try omega)))
 . obtain rfl:i=t.rows.length:=by omega
   rw [List.take_length];repeat' (first|(with_reducible first|(apply zS;constructor)<;>intro _|refine ai ?_|(apply zQ;constructor))|simp (disch:=omega) only [lE,seval,IdxR_uxs,hu,ux_cs,Int.lt_irrefl])
   all_goals try omega
   rw [<- hst0];refine loop_i (fun i:Nat=>i<=l.length) (fun i=>⟨[(0,.view 8 (l.map UX.av)),(1,.int .i64 k),(5,.slc 0 1 (ascL (rdU l k i)).length),(7,.int .i64 i)],[.arr 3 1 ((ascL (rdU l k i)).map (AV.int .i64))]⟩) (fun i=>l.length - i) 0 (by omega) zE ?_;rintro i hi;by_cases hil:i<l.length
   . have hal:=ascL_len (rdU l k i);have hli:=hlen i;have hnx:=hnxt i;by_cases hik:i=k
     . rw [if_pos hik,List.append_nil] at hnx;have dk:decide ((i:Int)=(k:Int))=true:=decide_eq_true (by omega);generalize hA:ascL (rdU l k i)=A at *;repeat' (first|(with_reducible first|(apply zS;constructor)<;>intro _|refine ai ?_|(apply zQ;constructor))|simp (disch:=omega) only [lE,seval,dk])
       all_goals try omega
       refine back_i (i+1) (by omega) (by omega) ?_;simp only [hnx,hA];exact zE
     . rw [if_neg hik] at hnx;have dk:decide ((i:Int)=(k:Int))=false:=decide_eq_false (by omega);have hvm:=getD_mem' hil;obtain ⟨_,hvl⟩:=hb _ hvm;have hvk:=hkk _ hvm;generalize hv:l.getD i default=v at *;have h44:=c44 v.log hvl hvk;have hseen:=fun j h1 h2 h3=>seen_step (t:=t) (o:=v) (j:=j) rfl h1 h2 h3;have hsnone:=seen_none (t:=t) (o:=v) rfl;have hwk:∀ w ∈ lastW v.log,(0<=w.tab/\w.tab<=255)/\0<=w.row/\w.row<=1073741824:=fun w hw=>hvk w (lastW_mem w hw);have hwl:(lastW v.log).length<=200000:=Nat.le_trans (lastW_len v.log) hvl;generalize lastW v.log=ws at *;generalize hA:ascL (rdU l k i)=A at *;repeat' (first|(with_reducible first|(apply zS;constructor)<;>intro _|refine ai ?_|(apply zQ;constructor))|((with_reducible apply zF;constructor);simp only [lP,seval,dk,IdxR_uxs,hv,ux_cs,Int.toNat_natCast];refine ⟨_,h44,?_⟩;rintro _ _ ⟨rfl,rfl⟩;simp only [lA,lP,seval,dk,IdxR_uxs,hv,ux_cs])|simp (disch:=omega) only [lE,seval,dk,IdxR_uxs,hv,ux_cs])
       all_goals try omega
       refine loop_i (fun j:Nat=>j<=ws.length/\∀ q,q<j->t.whole.contains (ws.getD q default).tab=false) (fun j=>⟨[(0,.view 8 (l.map UX.av)),(1,.int .i64 k),(5,.slc 0 1 A.length),(7,.int .i64 i),(8,.view 4 (ws.map WR.av)),(9,.int .i64 j)],[.arr 3 1 (A.map (AV.int .i64))]⟩) (fun j=>ws.length - j) 0 ⟨by omega,fun q h=>by omega⟩ zE ?_;rintro j ⟨hj,hno⟩;by_cases hjl:j<ws.length
       . have hwm:=getD_mem' hjl;have hwb:=hwk _ hwm;have hsj:=hseen j hjl hno;generalize hw:ws.getD j default=w at *;have hwc:w.cs=[.int .i64 w.tab,.int .i64 w.row,.bool w.dead,rowV w.vals]:=rfl;have h73:=c73 t.whole w.tab;have h47:=c47 w.tab w.row hwb.1 hwb.2;have h72:=c72o A (itemI w.key) (by omega);cases hc:t.whole.contains w.tab
         . rw [hc] at h73;repeat' (first|(with_reducible first|(apply zS;constructor)<;>intro _|refine ai ?_|(apply zQ;constructor))|((with_reducible apply zC;constructor);simp only [lP,seval,IdxR_uxs,IdxR_wrs,hu,hw,hwc,ux_cs,Int.toNat_natCast];refine ⟨_,h73,?_⟩;rintro _ _ ⟨rfl,rfl⟩;simp only [lA,lP,seval,IdxR_uxs,IdxR_wrs,hu,hw,hwc,ux_cs])|simp (disch:=omega) only [lE,seval,IdxR_uxs,IdxR_wrs,hu,hw,hwc,ux_cs])
           all_goals try omega
           exact back_i (j+1) ⟨by omega,fun q hq=>by
            by_cases e:q=j
            . rw [e,hw];exact hc
            . exact hno q (by omega)⟩ (by omega) zE
         . rw [hc] at h73;have hs:=hsj hc;have hA2:ascL (rdU l k (i+1))=withL (itemI w.key) A:=(by rw [hnx,hs,ascL_snoc,hA]);repeat' (first|(with_reducible first|(apply zS;constructor)<;>intro _|refine ai ?_|(apply zQ;constructor))|((with_reducible apply zC;constructor);simp only [lP,seval,IdxR_uxs,IdxR_wrs,hu,hw,hwc,ux_cs,Int.toNat_natCast];(first|refine ⟨_,h73,?_⟩|refine ⟨_,h47,?_⟩|refine ⟨_,h72,?_⟩);rintro _ _ ⟨rfl,rfl⟩;simp only [lA,lP,seval,IdxR_uxs,IdxR_wrs,hu,hw,hwc,ux_cs])|simp (disch:=omega) only [lE,seval,IdxR_uxs,IdxR_wrs,hu,hw,hwc,ux_cs])
           all_goals try omega
           exact back_i (i+1) (by omega) (by omega) (ent [1] false (by simp only [lP,seval,hA2]<;>(try simp)<;>(try omega)) (by simp only [lP,seval,hA2]<;>(try simp)<;>(try omega)))
       . obtain rfl:j=ws.length:=(by omega);have hs:=hsnone hno;rw [hs,List.append_nil] at hnx;repeat' (first|(with_reducible first|(apply zS;constructor)<;>intro _|refine ai ?_|(apply zQ;constructor))|simp (disch:=omega) only [lE,seval,Int.lt_irrefl])
         all_goals try omega
         refine back_i (i+1) (by omega) (by omega) ?_;simp only [hnx,hA];exact zE
   . obtain rfl:i=l.length:=(by omega);rw [<- hfin];repeat' (first|(with_reducible first|(apply zS;constructor)<;>intro _|refine ai ?_|(apply zQ;constructor))|simp (disch:=omega) only [lE,seval,Int.lt_irrefl])
     all_goals try omega
     refine keep_i [0] false (by simp) (by simp) rfl ⟨by simp only [lP,seval],?_⟩;simp only [lP,seval]
end Go.Proofs.Try
