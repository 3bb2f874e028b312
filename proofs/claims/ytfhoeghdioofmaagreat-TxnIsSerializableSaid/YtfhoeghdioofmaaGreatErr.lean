/-
 A part of the proof.
-/
import Derived.Test.YtfhoeghdioofmaaGreatPee
set_option linter.unusedSimpArgs false
set_option linter.unusedVariables false
namespace Go.Proofs.Try
open Go.Proofs.Tryz
open Go.Al
set_option maxRecDepth 100000
def mc47:MC:=(.seq (.ops [pI 4 0]) (.seq (.ops [pM 5 0,(none,.v (.bin 6 .mul false (.t 5) (.c (.int .i64 2147483648)))),pM 7 1,(none,.v (.bin 8 .add false (.t 6) (.t 7))),pM 4 8]) .ret))
theorem ok47:FnOk E 47 9 [.tmp 4] mc47:=ofk func47
def mc72:MC:=(.seq (.ops [pY 4]) (.seq (.ops [pY 5]) (.seq (.ops [pZ 6]) (.seq (.seq (.ops [pI 7 0]) (.block 0 (.loop (.seq (.seq (.ops [pM 8 7,pM 9 0,pG 10 9,pB 11 8 10]) (.cond 11 .skip (.exit 0))) (.seq (.block 1 (.seq (.seq (.ops [pM 14 6,pN 15 14,pM 16 15,gT 16 (oM 17 1),gT 16 (oM 18 0),gT 16 (oM 19 7),gT 16 (oQ 20 1 18 19),gT 16 (oL 21 20),(some (16,true),.v (.bin 22 .leq false (.t 17) (.t 21))),pP 23 16 22]) (.cond 23 (.seq (.ops [pM 24 5,pM 25 1,(none,.e (.mkl 26 3 1 1 (.int .i64 0) [(0,.t 25)])),(none,.e (.app 27 3 1 8 (.t 24) (.t 26))),pM 5 27]) (.ops [(none,.v (.mov 6 (.c (.bool true))))])) .skip)) (.seq (.ops [pM 28 0,pM 29 7,pQ 30 1 28 29,pL 31 30,pM 32 1,(none,.v (.bin 33 .neq false (.t 31) (.t 32)))]) (.cond 33 (.ops [pM 34 5,pM 35 0,pM 36 7,pQ 37 1 35 36,pL 38 37,(none,.e (.mkl 39 3 1 1 (.int .i64 0) [(0,.t 38)])),(none,.e (.app 40 3 1 8 (.t 34) (.t 39))),pM 5 40]) .skip)))) (.ops [pM 12 7,pA 13 12 1,pM 7 13])))))) (.seq (.seq (.ops [pM 41 6,pN 42 41]) (.cond 42 (.ops [pM 43 5,pM 44 1,(none,.e (.mkl 45 3 1 1 (.int .i64 0) [(0,.t 44)])),(none,.e (.app 46 3 1 8 (.t 43) (.t 45))),pM 5 46]) .skip)) (.seq (.ops [pM 47 5,pM 4 47]) .ret))))))
theorem ok72:FnOk E 72 48 [.tmp 4] mc72:=ofk func72
def mc73:MC:=(.seq (.ops [pZ 4]) (.seq (.seq (.ops [pI 5 0]) (.block 0 (.loop (.seq (.seq (.ops [pM 6 5,pM 7 0,pG 8 7,pB 9 6 8]) (.cond 9 .skip (.exit 0))) (.seq (.block 1 (.seq (.ops [pM 12 0,pM 13 5,pQ 14 1 12 13,pL 15 14,pM 16 1,(none,.v (.bin 17 .eql false (.t 15) (.t 16)))]) (.cond 17 (.seq (.ops [(none,.v (.mov 4 (.c (.bool true))))]) .ret) .skip))) (.ops [pM 10 5,pA 11 10 1,pM 5 11])))))) (.seq (.ops [pZ 4]) .ret)))
theorem ok73:FnOk E 73 18 [.tmp 4] mc73:=ofk func73
set_option maxHeartbeats 16000000
theorem c47 (tab row:Int) (h1:0<=tab/\tab<=255) (h2:0<=row/\row<=1073741824):ACalls E.P 47 [.int .i64 tab,.int .i64 row] [] (fun r H=>r=.int .i64 (itemI (tab,row))/\H=[]):=by
 refine ok47.acalls hE hm (by simp) fun N hN=>?_
 unfold mc47 pI pM
 have e1:IntKind.i64.wrap (tab * 2147483648)=tab * 2147483648:=wrap_i64 (by omega) (by omega)
 have e2:IntKind.i64.wrap (tab * 2147483648+row)=itemI (tab,row):=wrap_i64 (by omega) (by omega)
 simp only [lA,seval]
 repeat' (first|(with_reducible first|(apply St.o;constructor)<;>intro _|refine ai ?_|(apply Sq.o;constructor))|((with_reducible refine keep0_i ?_);simp only [lP,seval])|simp (disch:=omega) only [lE,seval,e1,e2])
theorem c73 (l:List Int) (n:Int):ACalls E.P 73 [.view 1 (l.map (AV.int .i64)),.int .i64 n] [] (fun r H=>r=.bool (l.contains n)/\H=[]):=by
 have hmax:=maxLen_eq
 refine ok73.acalls hE hm (by simp) fun N hN=>?_
 unfold mc73 pZ pI pM pG pB pQ pL pA
 simp only [lA,seval]
 refine loop_i (fun i:Nat=>i<=l.length/\∀ x ∈ l.take i,¬ x=n) (fun i=>⟨[(0,.view 1 (l.map (AV.int .i64))),(1,.int .i64 n),(5,.int .i64 i)],[]⟩) (fun i=>l.length - i) 0 ⟨by omega,by simp⟩ (ent [] false) ?_
 rintro i ⟨hi,hn⟩
 by_cases hil:i<l.length
 . have hm2:=getD_mem hil
   have hst:=all_step (p:=fun x=>¬ x=n) hil hn
   generalize hx:l.getD i default=x at *
   have hx0:l.getD i 0=x:=hx
   repeat' (first|(with_reducible first|(apply St.o;constructor)<;>intro _|refine ai ?_|(apply Sq.o;constructor))|simp (disch:=omega) only [lE,seval,IdxR_int,hx,hx0,Int.toNat_natCast,List.length_map])
   all_goals try (exfalso;omega)
   . rename_i h
     refine keep_b ?_
     rw [eq_comm,List.contains_iff_mem,<- h];exact hm2
   . rename_i h
     exact back_i (i+1) ⟨by omega,hst h⟩ (by omega) (ent [] false)
 . obtain rfl:i=l.length:=by omega
   rw [List.take_length] at hn
   repeat' (first|(with_reducible first|(apply St.o;constructor)<;>intro _|refine ai ?_|(apply Sq.o;constructor))|simp (disch:=omega) only [lE,seval,List.length_map,Int.lt_irrefl,decide_false])
   all_goals try (exfalso;omega)
   refine keep_b ?_
   rw [eq_comm,<- Bool.not_eq_true,List.contains_iff_mem]
   exact fun h=>hn n h rfl
theorem c72o (l:List Int) (n:Int) (hl:l.length<=1000000):ACalls E.P 72 [.view 1 (l.map (AV.int .i64)),.int .i64 n] [] (fun r H=>r=.slc 0 1 (withL n l).length/\H=[.arr 3 1 ((withL n l).map (AV.int .i64))]):=by
 have hmax:=maxLen_eq
 refine ok72.acalls hE hm (by simp) fun N hN=>?_
 unfold mc72 pY pZ pI pM pG pB pN pP pQ pL pA gT oM oL oQ
 simp only [lA,seval]
 refine loop_i (fun p:Nat × Bool × List Int=>p.1<=l.length/\p.2.2.length<=p.1+1/\(p.2.1=false->p.2.2=l.take p.1/\withL n l=l.take p.1++withL n (l.drop p.1))/\(p.2.1=true->withL n l=p.2.2++(l.drop p.1).filter fun y=>decide (y≠n)))
  (fun p=>⟨[(0,.view 1 (l.map (AV.int .i64))),(1,.int .i64 n),(5,.slc 0 1 p.2.2.length),(6,.bool p.2.1),(7,.int .i64 p.1)],[.arr 3 1 (p.2.2.map (AV.int .i64))]⟩) (fun p=>l.length - p.1) (0,false,[])
  ⟨by simp,by simp,by simp,by simp⟩ (Ent.ghost' 5 3 1 (by omega) rfl (Ent.fr (by simp [FrSub,Go.Al.get]))) ?_
 rintro ⟨i,put,out⟩ ⟨hi,hol,h0,h1⟩
 simp only at hi hol h0 h1 ⊢
 by_cases hil:i<l.length
 . have hdr:=List.drop_eq_getElem_cons hil
   have hge:l[i]=l.getD i default:=by simp [hil]
   rw [hge] at hdr
   have htk:=take_succD hil
   generalize hx:l.getD i default=x at *
   have hx0:l.getD i 0=x:=hx
   cases put with
   | false =>
     obtain ⟨ho,hw⟩:=h0 rfl
     have hoi:out.length=i:=by rw [ho,List.length_take];omega
     rw [hdr,withL] at hw
     by_cases hnx:n<=x
     . rw [if_pos hnx] at hw
       by_cases hxn:x=n
       . repeat' (first|(with_reducible apply St.o;constructor) <;> intro _|((with_reducible refine mkl_view ?_ ?_ ?_);(focus decide);(focus rfl))|(with_reducible first|refine ai ?_|(apply Sq.o;constructor))|simp (disch:=omega) only [lE,seval,IdxR_int,hx,hx0,hnx,hxn,Int.toNat_natCast,List.length_map,List.length_append,List.length_cons,List.length_nil,decide_true])
         all_goals try (exfalso;omega)
         refine back_i (i+1,true,out++[n]) ⟨by simp only;omega,by simp;omega,by simp,fun _=>?_⟩ (by simp only;omega) (ent [1] false (by simp only [lP,seval,List.map_append]<;>(try simp)<;>(try omega)) (by simp only [lP,seval,List.map_append]<;>(try simp)<;>(try omega)))
         simp only
         rw [hw,ho];simp [hxn]
       . repeat' (first|(with_reducible apply St.o;constructor) <;> intro _|((with_reducible refine mkl_view ?_ ?_ ?_);(focus decide);(focus rfl))|(with_reducible first|refine ai ?_|(apply Sq.o;constructor))|simp (disch:=omega) only [lE,seval,IdxR_int,hx,hx0,hnx,hxn,Int.toNat_natCast,List.length_map,List.length_append,List.length_cons,List.length_nil,decide_true])
         all_goals try (exfalso;omega)
         refine back_i (i+1,true,out++[n]++[x]) ⟨by simp only;omega,by simp;omega,by simp,fun _=>?_⟩ (by simp only;omega) (ent [2] false (by simp only [lP,seval,List.map_append]<;>(try simp)<;>(try omega)) (by simp only [lP,seval,List.map_append]<;>(try simp)<;>(try omega)))
         simp only
         rw [hw,ho];simp [hxn]
     . rw [if_neg hnx] at hw
       have hxn:¬ x=n:=by omega
       repeat' (first|(with_reducible apply St.o;constructor) <;> intro _|((with_reducible refine mkl_view ?_ ?_ ?_);(focus decide);(focus rfl))|(with_reducible first|refine ai ?_|(apply Sq.o;constructor))|simp (disch:=omega) only [lE,seval,IdxR_int,hx,hx0,hnx,hxn,Int.toNat_natCast,List.length_map,List.length_append,List.length_cons,List.length_nil,decide_true])
       all_goals try (exfalso;omega)
       refine back_i (i+1,false,out++[x]) ⟨by simp only;omega,by simp;omega,fun _=>⟨?_,?_⟩,by simp⟩ (by simp only;omega) (ent [1] false (by simp only [lP,seval,List.map_append]<;>(try simp)<;>(try omega)) (by simp only [lP,seval,List.map_append]<;>(try simp)<;>(try omega)))
       . simp only;rw [ho,htk]
       . simp only;rw [hw,htk];simp
   | true =>
     have hw:=h1 rfl
     rw [hdr] at hw
     by_cases hxn:x=n
     . repeat' (first|(with_reducible apply St.o;constructor) <;> intro _|((with_reducible refine mkl_view ?_ ?_ ?_);(focus decide);(focus rfl))|(with_reducible first|refine ai ?_|(apply Sq.o;constructor))|simp (disch:=omega) only [lE,seval,IdxR_int,hx,hx0,hxn,Int.toNat_natCast,List.length_map,List.length_append,List.length_cons,List.length_nil,decide_true])
       all_goals try (exfalso;omega)
       refine back_i (i+1,true,out) ⟨by simp only;omega,by simp only;omega,by simp,fun _=>?_⟩ (by simp only;omega) (ent [0] false)
       simp only
       rw [hw];simp [hxn]
     . repeat' (first|(with_reducible apply St.o;constructor) <;> intro _|((with_reducible refine mkl_view ?_ ?_ ?_);(focus decide);(focus rfl))|(with_reducible first|refine ai ?_|(apply Sq.o;constructor))|simp (disch:=omega) only [lE,seval,IdxR_int,hx,hx0,hxn,Int.toNat_natCast,List.length_map,List.length_append,List.length_cons,List.length_nil,decide_true])
       all_goals try (exfalso;omega)
       refine back_i (i+1,true,out++[x]) ⟨by simp only;omega,by simp;omega,by simp,fun _=>?_⟩ (by simp only;omega) (ent [1] false (by simp only [lP,seval,List.map_append]<;>(try simp)<;>(try omega)) (by simp only [lP,seval,List.map_append]<;>(try simp)<;>(try omega)))
       simp only
       rw [hw];simp [hxn]
 . obtain rfl:i=l.length:=by omega
   cases put with
   | false =>
     obtain ⟨ho,hw⟩:=h0 rfl
     rw [List.drop_length,List.take_length] at hw
     rw [List.take_length] at ho
     have hwl:withL n l=l++[n]:=by rw [hw];rfl
     repeat' (first|(with_reducible apply St.o;constructor) <;> intro _|((with_reducible refine mkl_view ?_ ?_ ?_);(focus decide);(focus rfl))|(with_reducible first|refine ai ?_|(apply Sq.o;constructor))|simp (disch:=omega) only [lE,seval,List.length_map,Int.lt_irrefl,decide_false])
     all_goals try (exfalso;omega)
     refine keep_i [1] false (by simp) (by simp) rfl ⟨?_,?_⟩
     . simp only [lP,seval];rw [hwl,ho];simp
     . simp only [lP,seval];rw [hwl,ho];simp [pa_int]
   | true =>
     have hw:=h1 rfl
     rw [List.drop_length] at hw
     have hwl:withL n l=out:=by rw [hw];simp
     repeat' (first|(with_reducible apply St.o;constructor) <;> intro _|((with_reducible refine mkl_view ?_ ?_ ?_);(focus decide);(focus rfl))|(with_reducible first|refine ai ?_|(apply Sq.o;constructor))|simp (disch:=omega) only [lE,seval,List.length_map,Int.lt_irrefl,decide_false])
     all_goals try (exfalso;omega)
     refine keep_i [0] false (by simp) (by simp) rfl ⟨?_,?_⟩
     . simp only [lP,seval];rw [hwl]
     . simp only [lP,seval];rw [hwl]
theorem c72 (l:List Int) (n:Int) (hl:l.length<=1000000):ACalls E.P 72 [.view 1 (l.map (AV.int .i64)),.int .i64 n] [] (fun r H=>r=.view 1 ((withL n l).map (AV.int .i64))/\H=[]):=by
 refine ACalls.keep ((c72o l n hl).mono ?_)
 rintro r H ⟨rfl,rfl⟩
 refine keep_i [] true (by simp) (by simp) rfl ⟨?_,by simp only [lP,seval]⟩
 simp only [lP,seval]
abbrev q21_0:AT:=.alt none (oW 100 72 94 99) (.pure0 none (oF 101 4 5) (.alt none (.e (.store 1 false (.t 101) (.t 100))) .done .stop)) .stop
abbrev q21_1:AT:=.alt none (oW 112 72 106 111) (.pure0 none (oF 113 5 5) (.alt none (.e (.store 1 false (.t 113) (.t 112))) .done .stop)) .stop
def mc21:MC:=(.seq (.ops [pY 2]) (.seq (.ops [pY 3]) (.seq (.seq (.ops [pI 4 0]) (.block 0 (.loop (.seq (.seq (.ops [pM 11 4,pM 12 0,pG 13 12,pB 14 11 13]) (.cond 14 .skip (.exit 0))) (.seq (.block 1 (.seq (.any true (.pure0 none (oM 17 0) (.pure0 none (oM 18 4) (.pure0 none (oQ 19 8 17 18) (.pure0 none (oF 20 1 19) (.pure0 none (oL 21 20) (.pure0 none (oM 22 0) (.pure0 none (oM 23 4) (.pure0 none (oQ 24 8 22 23) (.pure0 none (oF 25 2 24) (.pure0 none (oL 26 25) (.pure0 none (oM 27 0) (.pure0 none (oM 28 4) (.pure0 none (oQ 29 8 27 28) (.pure0 none (oF 30 3 29) (.pure0 none (oL 31 30) (.pure0 none (oM 32 0) (.pure0 none (oM 33 4) (.pure0 none (oQ 34 8 32 33) (.pure0 none (oF 35 4 34) (.pure0 none (oL 36 35) (.pure0 none (.v (.build 37 z0 [(0,1,.t 21),(1,1,.t 26),(2,1,.t 31),(3,1,.t 36)])) (.alt none (.e (.alloc 5 z0)) (.alt none (oS 6 5 37) .done .stop) .stop))))))))))))))))))))))) (.seq (.seq (.ops [pI 6 0]) (.block 2 (.loop (.seq (.seq (.ops [pM 38 6,pM 39 0,pM 40 4,pQ 41 8 39 40,pF 42 6 41,pL 43 42,pG 44 43,pB 45 38 44]) (.cond 45 .skip (.exit 2))) (.seq (.block 3 (.any true (.pure0 none (oF 48 4 5) (.pure0 none (oM 50 0) (.pure0 none (oM 51 4) (.pure0 none (oQ 52 8 50 51) (.pure0 none (oF 53 6 52) (.pure0 none (oL 54 53) (.pure0 none (oM 55 6) (.pure0 none (oQ 56 1 54 55) (.pure0 none (oL 57 56) (.alt none (oL 49 48) (.alt none (oW 58 72 49 57) (.pure0 none (oF 59 4 5) (.alt none (.e (.store 1 false (.t 59) (.t 58))) .done .stop)) .stop) .stop)))))))))))) (.ops [pM 46 6,pA 47 46 1,pM 6 47])))))) (.seq (.seq (.ops [pI 7 0]) (.block 4 (.loop (.seq (.seq (.ops [pM 60 7,pM 61 0,pG 62 61,pB 63 60 62]) (.cond 63 .skip (.exit 4))) (.seq (.block 5 (.seq (.ops [pI 8 0]) (.block 6 (.loop (.seq (.seq (.ops [pM 66 8,pM 67 0,pM 68 7,pQ 69 8 67 68,pF 70 5 69,pL 71 70,pG 72 71,pB 73 66 72]) (.cond 73 .skip (.exit 6))) (.seq (.block 7 (.seq (.ops [pM 76 0,pM 77 7,pQ 78 8 76 77,pF 79 5 78,pL 80 79,pM 81 8,pQ 82 4 80 81,pR 83 4 82,(none,.e (.alloc 9 z1)),pS 4 9 83]) (.seq (.any false (.pure0 none (oM 84 0) (.pure0 none (oM 85 4) (.pure0 none (oQ 86 8 84 85) (.pure0 none (oF 87 7 86) (.pure0 none (oL 88 87) (.pure0 none (oF 89 0 9) (.pure0 none (oL 90 89) (.alt none (oW 91 73 88 90) (.base (.pure0 none (oM 10 91) .done)) .stop))))))))) (.seq (.seq (.ops [pM 92 10]) (.cond 92 (.any true (.pure0 none (oF 93 4 5) (.pure0 none (oF 95 0 9) (.pure0 none (oL 96 95) (.pure0 none (oF 97 1 9) (.pure0 none (oL 98 97) (.alt none (oL 94 93) (.alt none (oW 99 47 96 98) q21_0 .stop) (.alt none (oW 99 47 96 98) (.alt none (oL 94 93) q21_0 .stop) .stop)))))))) .skip)) (.seq (.ops [pM 102 7,pM 103 4,(none,.v (.bin 104 .eql false (.t 102) (.t 103)))]) (.cond 104 (.any true (.pure0 none (oF 105 5 5) (.pure0 none (oF 107 0 9) (.pure0 none (oL 108 107) (.pure0 none (oF 109 1 9) (.pure0 none (oL 110 109) (.alt none (oL 106 105) (.alt none (oW 111 47 108 110) q21_1 .stop) (.alt none (oW 111 47 108 110) (.alt none (oL 106 105) q21_1 .stop) .stop)))))))) .skip)))))) (.ops [pM 74 8,pA 75 74 1,pM 8 75]))))))) (.ops [pM 64 7,pA 65 64 1,pM 7 65])))))) (.ops [pM 114 3,pR 115 6 5,(none,.e (.mkl 116 43 6 1 (.agg z0) [(0,.t 115)])),(none,.e (.app 117 43 6 80 (.t 114) (.t 116))),pM 3 117]))))) (.ops [pM 15 4,pA 16 15 1,pM 4 16])))))) (.seq (.ops [pM 118 3,pM 2 118]) .ret))))
theorem ok21:FnOk E 21 119 [.tmp 2] mc21:=ofk func21
abbrev nilS':AV:=.raw (.slice none 0 0)
def UX.cs (u:UX):List AV:=[.int .i64 u.num,.int .i64 u.mode,.int .i64 u.snap,.bool u.done,.int .i64 u.stamp,.view 4 (u.log.map WR.av),.view 1 (u.rows.map (AV.int .i64)),.view 1 (u.whole.map (AV.int .i64))]
def UX.av (u:UX):AV:=.agg u.cs
theorem ux_cs (u:UX):u.cs=[.int .i64 u.num,.int .i64 u.mode,.int .i64 u.snap,.bool u.done,.int .i64 u.stamp,.view 4 (u.log.map WR.av),.view 1 (u.rows.map (AV.int .i64)),.view 1 (u.whole.map (AV.int .i64))]:=rfl
theorem flat_le {α β:Type} {g:α->List β} {B:Nat}:∀ {l:List α},(∀ v ∈ l,(g v).length<=B)->(l.flatMap g).length<=l.length * B
 | [],_=>by simp
 | x::l,h=>by
   have h1:=flat_le (g:=g) (B:=B) (l:=l) fun v hv=>h v (by simp [hv])
   have h2:=h x (by simp)
   rw [List.flatMap_cons,List.length_append,List.length_cons,Nat.succ_mul]
   omega
def addR (u v:UX):List Int:=(v.log.filter fun w=>u.whole.contains w.tab).map fun w=>itemI w.key
theorem addR_len (u v:UX):(addR u v).length<=v.log.length:=by
 unfold addR;rw [List.length_map];exact List.length_filter_le _ _
def boxF (u:UX) (R W:List Int):AObj:=.box [.int .i64 u.mode,.int .i64 u.snap,.bool u.done,.int .i64 u.stamp,.view 1 ((ascL R).map (AV.int .i64)),.view 1 ((ascL W).map (AV.int .i64))]
end Go.Proofs.Try
