/-
 A part of the proof.
-/
import Derived.Test.YtfhoeghdioofmaaGreatPee
set_option linter.unusedSimpArgs false
set_option linter.unusedVariables false
namespace Go.Proofs.Try
open Go.Proofs.Tryz
open Go.Al
set_option maxRecDepth 100000
def mc47:MC:=(sO [pI 4 0] (sO [pM 5 0,(none,.v (.bin 6 .mul false (.t 5) (.c (.int .i64 2147483648)))),pM 7 1,(none,.v (.bin 8 .add false (.t 6) (.t 7))),pM 4 8] .ret))
theorem ok47:FnOk E 47 9 [.tmp 4] mc47:=ofk func47
def mc72:MC:=(sO [pY 4] (sO [pY 5] (sO [pZ 6] (.seq (sO [pI 7 0] (.block 0 (.loop (.seq (sO [pM 8 7,pM 9 0,pG 10 9,pB 11 8 10] (.cond 11 .skip (.exit 0))) (.seq (.block 1 (.seq (sO [pM 14 6,pN 15 14,pM 16 15,gT 16 (oM 17 1),gT 16 (oM 18 0),gT 16 (oM 19 7),gT 16 (oQ 20 1 18 19),gT 16 (oL 21 20),(some (16,true),.v (.bin 22 .leq false (.t 17) (.t 21))),pP 23 16 22] (.cond 23 (sO [pM 24 5,pM 25 1,(none,.e (.mkl 26 3 1 1 (.int .i64 0) [(0,.t 25)])),(none,.e (.app 27 3 1 8 (.t 24) (.t 26))),pM 5 27] (.ops [(none,.v (.mov 6 (.c (.bool true))))])) .skip)) (sO [pM 28 0,pM 29 7,pQ 30 1 28 29,pL 31 30,pM 32 1,(none,.v (.bin 33 .neq false (.t 31) (.t 32)))] (.cond 33 (.ops [pM 34 5,pM 35 0,pM 36 7,pQ 37 1 35 36,pL 38 37,(none,.e (.mkl 39 3 1 1 (.int .i64 0) [(0,.t 38)])),(none,.e (.app 40 3 1 8 (.t 34) (.t 39))),pM 5 40]) .skip)))) (.ops [pM 12 7,pA 13 12 1,pM 7 13])))))) (.seq (sO [pM 41 6,pN 42 41] (.cond 42 (.ops [pM 43 5,pM 44 1,(none,.e (.mkl 45 3 1 1 (.int .i64 0) [(0,.t 44)])),(none,.e (.app 46 3 1 8 (.t 43) (.t 45))),pM 5 46]) .skip)) (sO [pM 47 5,pM 4 47] .ret))))))
theorem ok72:FnOk E 72 48 [.tmp 4] mc72:=ofk func72
def mc73:MC:=(sO [pZ 4] (.seq (sO [pI 5 0] (.block 0 (.loop (.seq (sO [pM 6 5,pM 7 0,pG 8 7,pB 9 6 8] (.cond 9 .skip (.exit 0))) (.seq (.block 1 (sO [pM 12 0,pM 13 5,pQ 14 1 12 13,pL 15 14,pM 16 1,(none,.v (.bin 17 .eql false (.t 15) (.t 16)))] (.cond 17 (sO [(none,.v (.mov 4 (.c (.bool true))))] .ret) .skip))) (.ops [pM 10 5,pA 11 10 1,pM 5 11])))))) (sO [pZ 4] .ret)))
theorem ok73:FnOk E 73 18 [.tmp 4] mc73:=ofk func73
set_option maxHeartbeats 16000000
theorem c47 (tab row:Int) (h1:0<=tab/\tab<=255) (h2:0<=row/\row<=1073741824):ACalls E.P 47 [.int .i64 tab,.int .i64 row] [] (fun r H=>r=.int .i64 (itemI (tab,row))/\H=[]):=by
 refine zk ok47 fun N hN=>?_;unfold mc47 pI pM sO;have e1:IntKind.i64.wrap (tab * 2147483648)=tab * 2147483648:=wrap_i64 (by omega) (by omega);have e2:IntKind.i64.wrap (tab * 2147483648+row)=itemI (tab,row):=wrap_i64 (by omega) (by omega);simp only [lA,seval];repeat' (first|(with_reducible first|(apply zS;constructor)<;>intro _|refine ai ?_|(apply zQ;constructor))|((with_reducible refine keep0_i ?_);simp only [lP,seval])|simp (disch:=omega) only [lE,seval,e1,e2])
theorem c73 (l:List Int) (n:Int):ACalls E.P 73 [.view 1 (l.map (AV.int .i64)),.int .i64 n] [] (fun r H=>r=.bool (l.contains n)/\H=[]):=by
 have hmax:=maxLen_eq;refine zk ok73 fun N hN=>?_;unfold mc73 pZ pI pM pG pB pQ pL pA sO;simp only [lA,seval];refine loop_i (fun i:Nat=>i<=l.length/\∀ x ∈ l.take i,¬ x=n) (fun i=>⟨[(0,.view 1 (l.map (AV.int .i64))),(1,.int .i64 n),(5,.int .i64 i)],[]⟩) (fun i=>l.length - i) 0 ⟨by omega,by simp⟩ (ent [] false) ?_;rintro i ⟨hi,hn⟩;by_cases hil:i<l.length
 . have hm2:=getD_mem hil;have hst:=all_step (p:=fun x=>¬ x=n) hil hn;generalize hx:l.getD i default=x at *;have hx0:l.getD i 0=x:=hx;repeat' (first|(with_reducible first|(apply zS;constructor)<;>intro _|refine ai ?_|(apply zQ;constructor))|simp (disch:=omega) only [lE,seval,IdxR_int,hx,hx0])
   all_goals try omega
   . rename_i h;refine keep_b ?_;rw [eq_comm,List.contains_iff_mem,<- h];exact hm2
   . rename_i h;exact back_i (i+1) ⟨by omega,hst h⟩ (by omega) (ent [] false)
 . obtain rfl:i=l.length:=by omega
   rw [List.take_length] at hn;repeat' (first|(with_reducible first|(apply zS;constructor)<;>intro _|refine ai ?_|(apply zQ;constructor))|simp (disch:=omega) only [lE,seval,Int.lt_irrefl])
   all_goals try omega
   refine keep_b ?_;rw [eq_comm,<- Bool.not_eq_true,List.contains_iff_mem];exact fun h=>hn n h rfl
theorem c72o (l:List Int) (n:Int) (hl:l.length<=1000000):ACalls E.P 72 [.view 1 (l.map (AV.int .i64)),.int .i64 n] [] (fun r H=>r=.slc 0 1 (withL n l).length/\H=[.arr 3 1 ((withL n l).map (AV.int .i64))]):=by
 have hmax:=maxLen_eq;refine zk ok72 fun N hN=>?_;unfold mc72 pY pZ pI pM pG pB pN pP pQ pL pA gT oM oL oQ sO;simp only [lA,seval]
 refine loop_i (fun p:Nat × Bool × List Int=>p.1<=l.length/\p.2.2.length<=p.1+1/\(p.2.1=false->p.2.2=l.take p.1/\withL n l=l.take p.1++withL n (l.drop p.1))/\(p.2.1=true->withL n l=p.2.2++(l.drop p.1).filter fun y=>decide (y≠n)))
  (fun p=>⟨[(0,.view 1 (l.map (AV.int .i64))),(1,.int .i64 n),(5,.slc 0 1 p.2.2.length),(6,.bool p.2.1),(7,.int .i64 p.1)],[.arr 3 1 (p.2.2.map (AV.int .i64))]⟩) (fun p=>l.length - p.1) (0,false,[])
  ⟨by simp,by simp,by simp,by simp⟩ (Ent.ghost' 5 3 1 (by omega) rfl zE) ?_
 rintro ⟨i,put,out⟩ ⟨hi,hol,h0,h1⟩;simp only at hi hol h0 h1 ⊢;by_cases hil:i<l.length
 . have hdr:=List.drop_eq_getElem_cons hil;have hge:l[i]=l.getD i default:=by simp [hil]
   rw [hge] at hdr;have htk:=take_succD hil;generalize hx:l.getD i default=x at *;have hx0:l.getD i 0=x:=hx
   cases put with
   | false =>
     obtain ⟨ho,hw⟩:=h0 rfl;have hoi:out.length=i:=(by rw [ho,List.length_take];omega);rw [hdr,withL] at hw;by_cases hnx:n<=x
     . rw [if_pos hnx] at hw;by_cases hxn:x=n
       . repeat' (first|(with_reducible apply zS;constructor) <;> intro _|((with_reducible refine mkl_view ?_ ?_ ?_);(focus decide);(focus rfl))|(with_reducible first|refine ai ?_|(apply zQ;constructor))|simp (disch:=omega) only [lE,seval,IdxR_int,hx,hx0,hnx,hxn,List.length_append])
         all_goals try omega
         refine back_i (i+1,true,out++[n]) ⟨by simp only;omega,by simp;omega,by simp,fun _=>?_⟩ (by simp only;omega) (ent [1] false (by simp only [lP,seval,List.map_append]<;>(try simp)<;>(try omega)) (by simp only [lP,seval,List.map_append]<;>(try simp)<;>(try omega)));simp only;rw [hw,ho];simp [hxn]
       . repeat' (first|(with_reducible apply zS;constructor) <;> intro _|((with_reducible refine mkl_view ?_ ?_ ?_);(focus decide);(focus rfl))|(with_reducible first|refine ai ?_|(apply zQ;constructor))|simp (disch:=omega) only [lE,seval,IdxR_int,hx,hx0,hnx,hxn,List.length_append])
         all_goals try omega
         refine back_i (i+1,true,out++[n]++[x]) ⟨by simp only;omega,by simp;omega,by simp,fun _=>?_⟩ (by simp only;omega) (ent [2] false (by simp only [lP,seval,List.map_append]<;>(try simp)<;>(try omega)) (by simp only [lP,seval,List.map_append]<;>(try simp)<;>(try omega)));simp only;rw [hw,ho];simp [hxn]
     . rw [if_neg hnx] at hw;have hxn:¬ x=n:=(by omega);repeat' (first|(with_reducible apply zS;constructor) <;> intro _|((with_reducible refine mkl_view ?_ ?_ ?_);(focus decide);(focus rfl))|(with_reducible first|refine ai ?_|(apply zQ;constructor))|simp (disch:=omega) only [lE,seval,IdxR_int,hx,hx0,hnx,hxn,List.length_append])
       all_goals try omega
       refine back_i (i+1,false,out++[x]) ⟨by simp only;omega,by simp;omega,fun _=>⟨?_,?_⟩,by simp⟩ (by simp only;omega) (ent [1] false (by simp only [lP,seval,List.map_append]<;>(try simp)<;>(try omega)) (by simp only [lP,seval,List.map_append]<;>(try simp)<;>(try omega)))
       . simp only;rw [ho,htk]
       . simp only;rw [hw,htk];simp
   | true =>
     have hw:=h1 rfl;rw [hdr] at hw;by_cases hxn:x=n
     . repeat' (first|(with_reducible apply zS;constructor) <;> intro _|((with_reducible refine mkl_view ?_ ?_ ?_);(focus decide);(focus rfl))|(with_reducible first|refine ai ?_|(apply zQ;constructor))|simp (disch:=omega) only [lE,seval,IdxR_int,hx,hx0,hxn,List.length_append])
       all_goals try omega
       refine back_i (i+1,true,out) ⟨by simp only;omega,by simp only;omega,by simp,fun _=>?_⟩ (by simp only;omega) (ent [0] false);simp only;rw [hw];simp [hxn]
     . repeat' (first|(with_reducible apply zS;constructor) <;> intro _|((with_reducible refine mkl_view ?_ ?_ ?_);(focus decide);(focus rfl))|(with_reducible first|refine ai ?_|(apply zQ;constructor))|simp (disch:=omega) only [lE,seval,IdxR_int,hx,hx0,hxn,List.length_append])
       all_goals try omega
       refine back_i (i+1,true,out++[x]) ⟨by simp only;omega,by simp;omega,by simp,fun _=>?_⟩ (by simp only;omega) (ent [1] false (by simp only [lP,seval,List.map_append]<;>(try simp)<;>(try omega)) (by simp only [lP,seval,List.map_append]<;>(try simp)<;>(try omega)));simp only;rw [hw];simp [hxn]
 . obtain rfl:i=l.length:=by omega
   cases put with
   | false =>
     obtain ⟨ho,hw⟩:=h0 rfl;rw [List.drop_length,List.take_length] at hw;rw [List.take_length] at ho;have hwl:withL n l=l++[n]:=(by rw [hw];rfl);repeat' (first|(with_reducible apply zS;constructor) <;> intro _|((with_reducible refine mkl_view ?_ ?_ ?_);(focus decide);(focus rfl))|(with_reducible first|refine ai ?_|(apply zQ;constructor))|simp (disch:=omega) only [lE,seval,Int.lt_irrefl])
     all_goals try omega
     refine keep_i [1] false (by simp) (by simp) rfl ⟨?_,?_⟩
     . simp only [lP,seval];rw [hwl,ho];simp
     . simp only [lP,seval];rw [hwl,ho];simp [pa_int]
   | true =>
     have hw:=h1 rfl;rw [List.drop_length] at hw;have hwl:withL n l=out:=(by rw [hw];simp);repeat' (first|(with_reducible apply zS;constructor) <;> intro _|((with_reducible refine mkl_view ?_ ?_ ?_);(focus decide);(focus rfl))|(with_reducible first|refine ai ?_|(apply zQ;constructor))|simp (disch:=omega) only [lE,seval,Int.lt_irrefl])
     all_goals try omega
     refine keep_i [0] false (by simp) (by simp) rfl ⟨?_,?_⟩
     . simp only [lP,seval];rw [hwl]
     . simp only [lP,seval];rw [hwl]
theorem c72 (l:List Int) (n:Int) (hl:l.length<=1000000):ACalls E.P 72 [.view 1 (l.map (AV.int .i64)),.int .i64 n] [] (fun r H=>r=.view 1 ((withL n l).map (AV.int .i64))/\H=[]):=by
 refine ACalls.keep ((c72o l n hl).mono ?_);rintro r H ⟨rfl,rfl⟩;refine keep_i [] true (by simp) (by simp) rfl ⟨?_,by simp only [lP,seval]⟩;simp only [lP,seval]
def UX.cs (u:UX):List AV:=[.int .i64 u.num,.int .i64 u.mode,.int .i64 u.snap,.bool u.done,.int .i64 u.stamp,.view 4 (u.log.map WR.av),.view 1 (u.rows.map (AV.int .i64)),.view 1 (u.whole.map (AV.int .i64))]
def UX.av (u:UX):AV:=.agg u.cs
theorem ux_cs (u:UX):u.cs=[.int .i64 u.num,.int .i64 u.mode,.int .i64 u.snap,.bool u.done,.int .i64 u.stamp,.view 4 (u.log.map WR.av),.view 1 (u.rows.map (AV.int .i64)),.view 1 (u.whole.map (AV.int .i64))]:=rfl
theorem IdxR_uxs {P:Program} {m:Nat} {N:FN} {xs:List UX} {n:Int} {d:Nat} {c:Kn} (h0:0<=n) (h1:n<xs.length):IdxR P m N (xs.map UX.av) n d c=rK P m N c d (.vp (xs.getD n.toNat default).cs):=IdxR_map (cs:=UX.cs) (fun _=>rfl) h0 h1
end Go.Proofs.Try
