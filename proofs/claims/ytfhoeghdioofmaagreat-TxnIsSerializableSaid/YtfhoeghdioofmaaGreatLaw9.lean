/-
 For at most 70 calls about three tables with rows up to 8: the committed transactions have a serial order,in which each of them reads the same versions.
-/
import Derived.Test.YtfhoeghdioofmaaGreatEzz
import Derived.Test.YtfhoeghdioofmaaGreatEtt
import Derived.Test.YtfhoeghdioofmaaGreatEuu
import Derived.Test.YtfhoeghdioofmaaGreatBulk
set_option linter.unusedSimpArgs false
set_option linter.unusedVariables false
namespace Go.Proofs.Try
open Go.Proofs.Tryz
open Go.Al
set_option maxRecDepth 100000
def mc9:MC:=(.seq (.ops [pZ 4]) (.seq (.ops [pM 17 1,pV 18 20 17,pM 5 18]) (.seq (.ops [pM 19 0,(none,.v (.conv 20 .i64 (.t 19))),pV 21 11 20,pM 6 21]) (.seq (.seq (.ops [pM 22 5,pN 23 22,pM 24 23,gF 24 (oM 25 6),(some (24,false),.v (.eq 26 false .ptr (.t 25) (.c (.raw (.pointer none))))),pO 27 24 26]) (.cond 27 (.seq (.ops [(none,.e (.call (some 28) 12 [])),pM 4 28]) .ret) .skip)) (.seq (.ops [pY 7]) (.seq (.seq (.ops [pI 8 0]) (.block 0 (.loop (.seq (.seq (.ops [pM 29 8,pM 30 1,pG 31 30,pB 32 29 31]) (.cond 32 .skip (.exit 0))) (.seq (.block 1 (.seq (.ops [pM 35 1,pM 36 8,pQ 37 6 35 36,pR 38 6 37,(none,.e (.alloc 9 [.int .i64 0,.int .i64 0,.int .i64 0,.int .i64 0,.bool false,.raw (.slice none 0 0)])),pS 6 9 38]) (.seq (.seq (.ops [pF 39 0 9,pL 40 39,pE 41 40 0]) (.cond 41 (.seq (.ops [pF 42 2 9,pL 43 42,pD 44 43 2]) (.cond 44 (.ops [pF 45 2 9,(none,.e (.store 1 false (.t 45) (.c (.int .i64 1))))]) (.seq (.ops [pM 46 6,pM 47 6,pV 48 22 47,pW 49 40 46 48,pN 50 49]) (.cond 50 (.exit 1) .skip)))) .skip)) (.seq (.ops [(none,.v (.mov 10 (.c (.int .i64 (-1)))))]) (.seq (.seq (.ops [pI 11 0]) (.block 2 (.loop (.seq (.seq (.ops [pM 51 11,pM 52 7,pG 53 52,pB 54 51 53]) (.cond 54 .skip (.exit 2))) (.seq (.block 3 (.seq (.any false (.pure0 none (oM 57 7) (.pure0 none (oM 58 11) (.pure0 none (oQ 59 8 57 58) (.pure0 none (oF 60 0 59) (.pure0 none (oL 61 60) (.pure0 none (oF 62 1 9) (.pure0 none (oL 63 62) (.pure0 none (.v (.bin 64 .eql false (.t 61) (.t 63))) (.pure0 none (oM 65 64) (.pure0 (some (65,true)) (oM 66 7) (.pure0 (some (65,true)) (oM 67 11) (.pure0 (some (65,true)) (oQ 68 8 66 67) (.pure0 (some (65,true)) (oF 69 3 68) (.pure0 (some (65,true)) (oL 70 69) (.pure0 (some (65,true)) (oN 71 70) (.pure0 none (oP 72 65 71) .done))))))))))))))))) (.cond 72 (.ops [pM 73 11,pM 10 73]) .skip))) (.ops [pM 55 11,pA 56 55 1,pM 11 56])))))) (.seq (.ops [pM 74 6,pV 75 22 74,pM 12 75]) (.seq (.ops [pM 76 6,pR 77 6 9,pW 78 13 76 77,(none,.e (.alloc 13 z4)),pS 3 13 78]) (.seq (.seq (.ops [pF 79 0 9,pL 80 79,(none,.v (.bin 81 .gtr false (.t 80) (.c (.int .i64 0)))),pM 82 81,gT 82 (oF 83 0 9),gT 82 (oL 84 83),(some (82,true),.v (.bin 85 .lss false (.t 84) (.c (.int .i64 7)))),pP 86 82 85,pM 87 86,gT 87 (oM 88 10),(some (87,true),.v (.bin 89 .lss false (.t 88) (.c (.int .i64 0)))),pP 90 87 89]) (.cond 90 (.exit 1) .skip)) (.ops [pM 91 7,pR 92 6 9,pR 93 3 13,pM 94 12,(none,.e (.call (some 95) 23 [.t 91,.t 92,.t 93,.t 94])),pM 7 95]))))))))) (.ops [pM 33 8,pA 34 33 1,pM 8 34])))))) (.seq (.ops [pM 96 7,pV 97 21 96,pM 14 97]) (.seq (.ops [pM 99 14,pV 100 48 99,pM 98 100,pX 101 0 98,pX 102 1 98,pM 15 101,pM 16 102]) (.seq (.ops [(none,.e (.call (some 103) 12 [])),pM 104 103,gT 104 (oM 105 16),pP 106 104 105,pM 107 106,gT 107 (oM 108 14),gT 107 (oM 109 15),gT 107 (oW 110 49 108 109),pP 111 107 110,pM 4 111]) .ret)))))))))
theorem ok9:FnOk E 9 112 [.tmp 4] mc9:=ofk func9
set_option maxHeartbeats 16000000
theorem ren_ux {ρ:Nat->Nat} (u:UX):ren ρ u.av=u.av:=by simp [UX.av,UX.cs,ren,renL]
theorem renL_uxs {ρ:Nat->Nat} {xs:List UX}:renL ρ (xs.map UX.av)=xs.map UX.av:=renL_map ren_ux xs
theorem ren_serA {ρ:Nat->Nat} (t:Option (List Nat)):ren ρ (serA t)=serA t:=by cases t <;> simp [serA,ren,renL,renL_ints]
theorem set_same {H:List AObj} {a:Nat} {o:AObj} (h:H[a]?=some o):H.set a o=H:=by
 obtain ⟨h1,rfl⟩:=List.getElem?_eq_some_iff.1 h
 exact List.set_getElem_self h1
theorem share {A P:List AObj->List (Nat × AV)->Prop} {G:Prop} (main:(∀ M fr,A M fr->P M fr)->G) (key:∀ M fr,A M fr->P M fr):G:=main key
theorem loop_fr {P:Program} {m:Nat} {N:FN} {c:MC} {k:List It} {Q:Exit->AS->Prop} {fr:List (Nat × AV)} {H:List AObj} (h:∀ fr',fr'=fr->LoopR P m N c k Q fr' H):LoopR P m N c k Q fr H:=h fr rfl
theorem c9 (last:Int) (l:List CL) (hw:0<=last/\last<=255) (hv:∀ c ∈ l,c.vals.length<=4398046510976):ACalls E.P 9 [.int .u8 last,.view 6 (l.map CL.av)] [] (fun r H=>r=.bool true/\H=[]):=by
 have hmax:=maxLen_eq
 have h20:=c20 l
 have hl:okLast last:=by unfold okLast;omega
 have hwr:IntKind.i64.wrap last=last:=wrap_i64 (by omega) (by omega)
 refine ok9.acalls hE hm (by simp) fun N hN=>?_
 unfold mc9 z4 pZ pM pV pN pO pY pI pG pB pQ pR pS pF pL pE pD pW pA pP pX gF gT oM oL oF oP oN oQ oW
 simp only [lA,seval]
 repeat' (first|(with_reducible first|(apply St.o;constructor)<;>intro _|refine ai ?_|(apply Sq.o;constructor))|((with_reducible apply Sc.o true;constructor);simp only [lP,seval,hwr];refine ⟨_,h20,?_⟩;rintro _ _ ⟨rfl,rfl⟩;simp only [lA,lP,seval,hwr])|simp (disch:=omega) only [lE,seval,hwr])
 refine callW_i (f11s hl _ (fun _=>False) (fun _ h=>h.elim)) ?_
 rintro _ H0 ⟨X,rfl,a0,_⟩
 obtain ⟨cs0,b0⟩:=a0.box
 cases hf:smallS l
 . repeat' (first|(with_reducible first|(apply St.o;constructor)<;>intro _|refine ai ?_|(apply Sq.o;constructor))|((with_reducible apply Sc.o true;constructor);simp only [lP,seval,b0,isNil,Go.Al.ptrEq,hf];refine ⟨_,c12,?_⟩;rintro _ _ ⟨rfl,rfl⟩;simp only [lA,lP,seval,b0,isNil,Go.Al.ptrEq,hf])|simp (disch:=omega) only [lE,seval,b0,isNil,Go.Al.ptrEq,hf])
   exact keep_b rfl
 repeat' (first|(with_reducible first|(apply St.o;constructor)<;>intro _|refine ai ?_|(apply Sq.o;constructor))|simp (disch:=omega) only [lE,seval,b0,isNil,Go.Al.ptrEq,hf])
 obtain ⟨hsm,hlen⟩:(∀ c ∈ l,okC c)/\l.length<=70:=by simpa [smallS] using hf
 refine loop_i (fun p:Nat × TS × List UX × Nat × List AObj=>p.1<=l.length/\TsF X p.2.2.2.2 p.2.1 (fun i=>i=p.2.2.2.1)/\p.2.2.2.2[p.2.2.2.1]?=some (.arr 49 8 (p.2.2.1.map UX.av))/\SzU p.1 p.2.2.1/\(∃ kp,Gh p.2.2.1 p.2.1 kp)/\SrlI p.2.2.1/\OkS p.1 p.2.1/\IvS p.2.1)
  (fun p=>⟨[(1,.view 6 (l.map CL.av)),(6,.op X 0),(7,.slc p.2.2.2.1 8 p.2.2.1.length),(8,.int .i64 p.1)],p.2.2.2.2⟩) (fun p=>l.length - p.1) (0,t0 last,[],H0.length,H0++[.arr 49 8 []])
  ⟨by simp,(a0.push _).weak fun i hi=>.inr hi,by simp,⟨by simp,by simp⟩,⟨_,Gh.new⟩,SrlI.nil,(run_ok hl (l:=[]) (by simp) 0 (by simp)).1,(run_ok hl (l:=[]) (by simp) 0 (by simp)).2⟩ (Ent.ghost' 7 49 8 (by omega) rfl (Ent.fr (by simp [FrSub,Go.Al.get]))) ?_
 rintro ⟨i,u,all,a,H1⟩ ⟨hi,a1,ha,hsz,hgh,hI,ok1,iv1⟩
 simp only at hi a1 ha hsz hgh hI ok1 iv1 ⊢
 have hal:=at_lt ha
 have hnd:(all.map (·.num)).Nodup:=hgh.choose_spec.nums
 have huo:∀ u' ∈ all,UOk u u':=hgh.choose_spec.ok
 have hal100:all.length<=100:=by have:=hsz.1;omega
 have hlen3:∀ u ∈ all,u.rows.length<=1000/\u.log.length<=1000/\u.whole.length<=1000:=fun u' hu'=>by have:=hsz.2 u' hu';omega
 have htake:(all.map UX.av).take all.length=all.map UX.av:=by rw [List.take_of_length_le (by simp)]
 by_cases hil:i<l.length
 . have hcv:=hv _ (getD_mem hil)
   have hcc:=hsm _ (getD_mem hil)
   generalize hc:l.getD i default=c at *
   obtain ⟨kind,tx,ca,cb,dead,vals⟩:=c
   have hco:cellsO (CL.av ⟨kind,tx,ca,cb,dead,vals⟩)=some [.int .i64 kind,.int .i64 tx,.int .i64 ca,.int .i64 cb,.bool dead,rowV vals]:=rfl
   have hkk:=hcc.1
   simp only at hkk hcv
   apply share (A:=fun M fr=>∃ cx:Int,TsF X M u (fun j=>j=a\/j=H1.length)/\M[a]?=some (.arr 49 8 (all.map UX.av))/\M[H1.length]?=some (AObj.box [.int .i64 kind,.int .i64 tx,.int .i64 cx,.int .i64 cb,.bool dead,rowV vals])/\okC (CL.mk kind tx cx cb dead vals)/\((CL.mk kind tx cx cb dead vals).kind=0->(CL.mk kind tx cx cb dead vals).a=1\/((CL.mk kind tx cx cb dead vals).a=2/\SafeS (histS u) u.shown))/\FrSub fr [(1,.view 6 (l.map CL.av)),(6,.op X 0),(7,.slc a 8 all.length),(8,.int .i64 i),(9,.op H1.length 0),(10,.int .i64 (-1)),(11,.int .i64 0)])
   . intro key
     by_cases k0:kind=0
     . have dk0:decide (kind=0)=true:=decide_eq_true k0
       by_cases ca2:ca=2
       . have dca:decide (ca=2)=true:=decide_eq_true ca2
         repeat' (first|(with_reducible first|(apply St.o;constructor)<;>intro _|refine ai ?_|(apply Sq.o;constructor))|simp (disch:=omega) only [lE,seval,IdxR_cls,hc,cl_load,hco,get_last,set_last,dk0,dca,Int.toNat_natCast,List.length_map])
         all_goals try (exfalso;omega)
         have a1':=a1.push (AObj.box [.int .i64 kind,.int .i64 tx,.int .i64 ca,.int .i64 cb,.bool dead,rowV vals])
         refine callW_i (f22 a1') ?_
         rintro _ _ ⟨rfl,rfl⟩
         repeat' (first|(with_reducible first|(apply St.o;constructor)<;>intro _|refine ai ?_|(apply Sq.o;constructor))|simp (disch:=omega) only [lE,seval])
         refine callW_i (f40 a1' ok1 u.shown) ?_
         rintro _ M ⟨⟨b,hb,rfl⟩,a2,hkM⟩
         have ha1:M[a]?=some (.arr 49 8 (all.map UX.av)):=(hkM.2 a (.inl rfl)).trans (by rw [at_app _ _ _ hal];exact ha)
         have hbx:M[H1.length]?=some (AObj.box [.int .i64 kind,.int .i64 tx,.int .i64 ca,.int .i64 cb,.bool dead,rowV vals]):=(hkM.2 H1.length (.inr rfl)).trans get_last
         cases b
         . repeat' (first|(with_reducible first|(apply St.o;constructor)<;>intro _|refine ai ?_|(apply Sq.o;constructor))|simp (disch:=omega) only [lE,seval])
           exact back_i (i+1,u,all,a,M) ⟨by simp only;omega,a2.weak fun j hj=>.inl hj,ha1,hsz.mono (by omega),hgh,hI,ok1.weak (by simp only;omega),iv1⟩ (by simp only;omega) (Ent.fr (by simp [FrSub,Go.Al.get]))
         . repeat' (first|(with_reducible first|(apply St.o;constructor)<;>intro _|refine ai ?_|(apply Sq.o;constructor))|simp (disch:=omega) only [lE,seval])
           refine loop_fr fun fr hfr=>key M fr ⟨ca,a2,ha1,hbx,hcc,fun _=>.inr ⟨ca2,hb.1 rfl⟩,?_⟩
           rw [hfr];simp [FrSub,Go.Al.get]
       . have dca:decide (ca=2)=false:=decide_eq_false ca2
         repeat' (first|(with_reducible first|(apply St.o;constructor)<;>intro _|refine ai ?_|(apply Sq.o;constructor))|simp (disch:=omega) only [lE,seval,IdxR_cls,hc,cl_load,hco,get_last,set_last,dk0,dca,setAt,setAll,Int.toNat_natCast,List.length_map])
         all_goals try (exfalso;omega)
         have a2:=a1.push (AObj.box [.int .i64 kind,.int .i64 tx,.int .i64 1,.int .i64 cb,.bool dead,rowV vals])
         have ha1:(H1++[AObj.box [.int .i64 kind,.int .i64 tx,.int .i64 1,.int .i64 cb,.bool dead,rowV vals]])[a]?=some (.arr 49 8 (all.map UX.av)):=by rw [at_app _ _ _ hal];exact ha
         have hbx:(H1++[AObj.box [.int .i64 kind,.int .i64 tx,.int .i64 1,.int .i64 cb,.bool dead,rowV vals]])[H1.length]?=some (AObj.box [.int .i64 kind,.int .i64 tx,.int .i64 1,.int .i64 cb,.bool dead,rowV vals]):=get_last
         generalize H1++[AObj.box [.int .i64 kind,.int .i64 tx,.int .i64 1,.int .i64 cb,.bool dead,rowV vals]]=M at *
         refine loop_fr fun fr hfr=>key M fr ⟨1,a2,ha1,hbx,⟨hcc.1,fun h=>by simp only at h;omega⟩,fun _=>.inl rfl,?_⟩
         rw [hfr];simp [FrSub,Go.Al.get]
     . have dk0:decide (kind=0)=false:=decide_eq_false k0
       repeat' (first|(with_reducible first|(apply St.o;constructor)<;>intro _|refine ai ?_|(apply Sq.o;constructor))|simp (disch:=omega) only [lE,seval,IdxR_cls,hc,cl_load,hco,get_last,set_last,dk0,Int.toNat_natCast,List.length_map])
       all_goals try (exfalso;omega)
       have a2:=a1.push (AObj.box [.int .i64 kind,.int .i64 tx,.int .i64 ca,.int .i64 cb,.bool dead,rowV vals])
       have ha1:(H1++[AObj.box [.int .i64 kind,.int .i64 tx,.int .i64 ca,.int .i64 cb,.bool dead,rowV vals]])[a]?=some (.arr 49 8 (all.map UX.av)):=by rw [at_app _ _ _ hal];exact ha
       have hbx:(H1++[AObj.box [.int .i64 kind,.int .i64 tx,.int .i64 ca,.int .i64 cb,.bool dead,rowV vals]])[H1.length]?=some (AObj.box [.int .i64 kind,.int .i64 tx,.int .i64 ca,.int .i64 cb,.bool dead,rowV vals]):=get_last
       generalize H1++[AObj.box [.int .i64 kind,.int .i64 tx,.int .i64 ca,.int .i64 cb,.bool dead,rowV vals]]=M at *
       refine loop_fr fun fr hfr=>key M fr ⟨ca,a2,ha1,hbx,hcc,fun h=>absurd h k0,?_⟩
       rw [hfr];simp [FrSub,Go.Al.get]
   . rintro M fr ⟨cx,a2,ha1,hbx,hokc,hsafe,hfr⟩
     have hcc1:okC (CL.mk kind tx cx cb dead vals):=hokc
     have haM:=at_lt ha1
     refine loop_i (fun j:Nat=>j<=all.length) (fun j=>⟨[(1,.view 6 (l.map CL.av)),(6,.op X 0),(7,.slc a 8 all.length),(8,.int .i64 i),(9,.op H1.length 0),(10,.int .i64 (lastAt all tx j)),(11,.int .i64 j)],M⟩) (fun j=>all.length - j) 0 (by omega) (Ent.fr hfr) ?_
     rintro j hj
     by_cases hjl:j<all.length
     . have hep:∀ {m N d c'},epR E.P m N (some (.arr 49 8 (all.map UX.av))) (j:Int) all.length a 8 d c'=rK E.P m N c' d (.ep a 8 j 0):=epR_ne (by rw [List.length_map]) (by omega) (by omega)
       have hdg:(all.map UX.av)[j]?=some (all.getD j default).av:=by simp [hjl]
       have hnx2:lastAt all tx (j+1)=if (all.getD j default).num=tx/\(all.getD j default).done=false then (j:Int) else lastAt all tx j:=rfl
       generalize all.getD j default=w at *
       generalize lastAt all tx j=m0 at *
       have hdav:w.av=.agg w.cs:=rfl
       by_cases e1:w.num=tx
       . have de1:decide (w.num=tx)=true:=decide_eq_true e1
         cases e2:w.done
         . repeat' (first|(with_reducible first|(apply St.o;constructor)<;>intro _|refine ai ?_|(apply Sq.o;constructor))|simp (disch:=omega) only [lE,seval,ha1,hbx,hep,hdg,hdav,ux_cs,e2,de1,Int.toNat_natCast,List.length_map])
           all_goals try (exfalso;omega)
           all_goals exact back_i (j+1) (by omega) (by omega) (Ent.fr (by simp [FrSub,Go.Al.get,hnx2,e1,e2]))
         . repeat' (first|(with_reducible first|(apply St.o;constructor)<;>intro _|refine ai ?_|(apply Sq.o;constructor))|simp (disch:=omega) only [lE,seval,ha1,hbx,hep,hdg,hdav,ux_cs,e2,de1,Int.toNat_natCast,List.length_map])
           all_goals try (exfalso;omega)
           all_goals exact back_i (j+1) (by omega) (by omega) (Ent.fr (by simp [FrSub,Go.Al.get,hnx2,e1,e2]))
       . have de1:decide (w.num=tx)=false:=decide_eq_false e1
         repeat' (first|(with_reducible first|(apply St.o;constructor)<;>intro _|refine ai ?_|(apply Sq.o;constructor))|simp (disch:=omega) only [lE,seval,ha1,hbx,hep,hdg,hdav,ux_cs,de1,Int.toNat_natCast,List.length_map])
         all_goals try (exfalso;omega)
         all_goals exact back_i (j+1) (by omega) (by omega) (Ent.fr (by simp [FrSub,Go.Al.get,hnx2,e1]))
     . obtain rfl:j=all.length:=by omega
       have hnext:=Gh.nextR (N:=i) (i:=i) hgh ok1 iv1 hcc1 (m:=lastAt all tx all.length) rfl
       generalize hm:lastAt all tx all.length=m at *
       repeat' (first|(with_reducible first|(apply St.o;constructor)<;>intro _|refine ai ?_|(apply Sq.o;constructor))|simp (disch:=omega) only [lE,seval,ha1,htake,Int.lt_irrefl,decide_false,List.length_map])
       all_goals try (exfalso;omega)
       refine callW_i (f22 a2) ?_
       rintro _ _ ⟨rfl,rfl⟩
       repeat' (first|(with_reducible first|(apply St.o;constructor)<;>intro _|refine ai ?_|(apply Sq.o;constructor))|simp (disch:=omega) only [lE,seval,hbx])
       refine callW_i (f13 a2 ok1 (by omega) (CL.mk kind tx cx cb dead vals) hcv) ?_
       rintro _ H3 ⟨rfl,a3,hk3⟩
       have n0:=(hk3.2 H1.length (.inr rfl)).trans hbx
       have n1:=(hk3.2 a (.inl rfl)).trans ha1
       have hl3:=hk3.1
       have hbm:=at_lt hbx
       have n0':∀ o,(H3++[o])[H1.length]?=some (AObj.box [.int .i64 kind,.int .i64 tx,.int .i64 cx,.int .i64 cb,.bool dead,rowV vals]):=fun o=>by rw [at_app _ _ _ (by omega)];exact n0
       have n1':∀ o,(H3++[o])[a]?=some (.arr 49 8 (all.map UX.av)):=fun o=>by rw [at_app _ _ _ (by omega)];exact n1
       have hrco:cellsO (doS u (CL.mk kind tx cx cb dead vals)).1.av=some [.int .i64 (doS u (CL.mk kind tx cx cb dead vals)).1.n,.view 4 ((doS u (CL.mk kind tx cx cb dead vals)).1.w.map WR.av),.int .i64 (doS u (CL.mk kind tx cx cb dead vals)).1.e]:=rfl
       have ok2:=ok1.do (by omega) (CL.mk kind tx cx cb dead vals)
       have iv2:=iv1.do ok1 (CL.mk kind tx cx cb dead vals)
       have hbk:=fun k4=>Gh.backB (N:=0) hgh (c:=(CL.mk kind tx cx cb dead vals)) k4
       have a4:=fun o=>a3.push o
       have hstep:=SzU.begun hsz (CL.mk kind tx cx cb dead vals) (doS u (CL.mk kind tx cx cb dead vals)).1 u.shown
       have hcb:(CL.mk kind tx cx cb dead vals).kind=1->(0<=(CL.mk kind tx cx cb dead vals).a/\(CL.mk kind tx cx cb dead vals).a<=255)/\0<=(CL.mk kind tx cx cb dead vals).b/\(CL.mk kind tx cx cb dead vals).b<=1073741824:=fun k1=>by have:=hcc1.2 (.inl k1);omega
       rcases hnext with ⟨k1,k6,hm0,hr,hvu⟩ | ⟨hnc,hg'⟩
       . simp only at k1 k6
         generalize (doS u (CL.mk kind tx cx cb dead vals)).2=v at *
         generalize (doS u (CL.mk kind tx cx cb dead vals)).1=r at *
         have d1:decide (0<kind)=true:=decide_eq_true (by omega)
         have d7:decide (kind<7)=true:=decide_eq_true (by omega)
         have dm:decide (m<0)=true:=decide_eq_true hm0
         repeat' (first|(with_reducible first|(apply St.o;constructor)<;>intro _|refine ai ?_|(apply Sq.o;constructor))|simp (disch:=omega) only [lE,seval,n0,n0',n1,n1',hrco,get_last,set_last,d1,d7,dm])
         all_goals try (exfalso;omega)
         all_goals (
          refine back_i (i+1,v,all,a,H3++[AObj.box [.int .i64 r.n,.view 4 (r.w.map WR.av),.int .i64 r.e]]) ⟨by simp only;omega,?_,n1' _,hsz.mono (by omega),by simp only;rw [hvu];exact hgh,hI,ok2,iv2⟩ (by simp only;omega) (Ent.fr (by simp [FrSub,Go.Al.get]))
          exact (a4 _).weak fun j hj=>.inl (.inl hj))
       . simp only at hnc
         have hI2:SrlI (begunS all (CL.mk kind tx cx cb dead vals) (doS u (CL.mk kind tx cx cb dead vals)).1 u.shown):=by
          obtain ⟨kp,hgk⟩:=hgh
          refine hI.step hgk ok1 iv1 hcc1 ?_ hsafe hg'
          by_cases hz:kind=0\/kind=7
          . rcases hz with hz | hz
            . exact .inl hz
            . exact .inr (.inl hz)
          . obtain ⟨q,h1,h2,h3,h4⟩:=lastAt_ge (all:=all) (tx:=tx) (j:=all.length) (by rw [hm];omega)
            obtain ⟨t,ht,_⟩:=hgk.corr_at iv1 h2 h4
            rw [h3] at ht
            exact .inr (.inr ⟨t,ht⟩)
         generalize (doS u (CL.mk kind tx cx cb dead vals)).2=v at *
         generalize (doS u (CL.mk kind tx cx cb dead vals)).1=r at *
         repeat' (first|(with_reducible first|(apply St.o;constructor)<;>intro _|refine ai ?_|(apply Sq.o;constructor))|simp (disch:=omega) only [lE,seval,n0,n0',n1,n1',hrco,get_last,set_last])
         all_goals try (exfalso;omega)
         all_goals (
          refine callW_i (c23 all (CL.mk kind tx cx cb dead vals) r u.shown (n1' _) hal100 hnd hlen3 hcb hbk) ?_
          rintro _ H5 ⟨id,rfl,hid,hst5,hido⟩
          repeat' (first|(with_reducible first|(apply St.o;constructor)<;>intro _|refine ai ?_|(apply Sq.o;constructor))|simp (disch:=omega) only [lE,seval])
          refine back_i (i+1,v,begunS all (CL.mk kind tx cx cb dead vals) r u.shown,id,H5) ⟨by simp only;omega,?_,hid,hstep,hg',hI2,ok2,iv2⟩ (by simp only;omega) (Ent.fr (by simp [FrSub,Go.Al.get]))
          exact ((a4 _).weak fun j hj=>.inl (.inl hj)).stay hst5 fun j hj=>by
           subst hj
           exact ⟨hido,at_lt hid⟩)
 . obtain rfl:i=l.length:=by omega
   have h21:=c21o all hal100 (fun u' hu'=>by have:=hsz.2 u' hu';omega) (fun u' hu' w hw'=>by have:=(huo u' hu').keys w hw';have h1:=this.1;have h2:=this.2;simp only [WR.key] at h1 h2;omega)
   have h48:=c48 (fullS all)
   have h49:=c49 (fullS all)
   repeat' (first|(with_reducible first|(apply St.o;constructor)<;>intro _|refine ai ?_|(apply Sq.o;constructor))|simp (disch:=omega) only [lE,seval,List.length_map,Int.lt_irrefl,decide_false])
   all_goals try (exfalso;omega)
   have hp1:pos [a] a 0=some 0:=by simp [pos]
   refine callN_i [a] false (by simpa using hal) (by simp) ?_
   simp only [lP,seval,hp1,ha,pa_uxs]
   refine ⟨_,h21,?_⟩
   rintro _ _ ⟨rfl,rfl⟩
   simp only [lA,lP,seval,renL_accs,renL_uxs,set_same ha]
   repeat' (first|(with_reducible first|(apply St.o;constructor)<;>intro _|refine ai ?_|(apply Sq.o;constructor))|((with_reducible apply Sc.o false;constructor);simp only [lP,seval,ren_serA];refine ⟨_,h48,?_⟩;rintro _ _ ⟨⟨t,ht,rfl⟩,rfl⟩;simp only [lA,lP,seval,ren_serA])|simp (disch:=omega) only [lE,seval,ren_serA])
   obtain ⟨kp,hgk⟩:=hgh
   obtain ⟨ol,rfl,heq⟩:=hI.end hgk iv1 hal100 ht
   have h49':=h49 (natL ol)
   simp only [heq,decide_true] at h49'
   simp only [serA,intsA]
   repeat' (first|(with_reducible first|(apply St.o;constructor)<;>intro _|refine ai ?_|(apply Sq.o;constructor))|((with_reducible apply Sc.o true;constructor);simp only [lP,seval];(first|refine ⟨_,c12,?_⟩|refine ⟨_,h49',?_⟩);rintro _ _ ⟨rfl,rfl⟩;simp only [lA,lP,seval])|simp (disch:=omega) only [lE,seval])
   exact keep_b rfl
end Go.Proofs.Try
namespace Go.Proofs.YtfhoeghdioofmaaGreat
open Go.Al Go.Proofs.Try
open Go.Proofs.Tryz
open Go.ChangeShapes Go.WideShapes Go.ChangeAt Go.RowKit
set_option maxRecDepth 100000 in
theorem lifted9 (os:Os) (started:os.Started) (H:Type) (enc:TypeId × Value->H) :
 ReturnsInHanded {} Tryz.checked os 9 .any (Rows.txnIsSerializableSpec.pre6 enc Tryz.prog Tryz.f9 Rows.txnIsSerializableRow.domain false) (Rows.txnIsSerializableSpec.post enc Tryz.prog Tryz.f9 false true false false):=by
 refine returnsInHanded_of_change_sized (C:=Tryz.checked) own started (by kernel_rfl) Tryz.func9
  (ChangeSpec.witness6 (enc:=enc) (C:=Tryz.checked) false ⟨#[],#[.int .u8 0,.slice none 0 0],[]⟩ 8 (by kernel_rfl) (by kernel_rfl) (by kernel_rfl) (by kernel_rfl)) ?_
 intro W base args ds gs before hval hW _ hs _
 have hs:FitEach (Tryz.f9.params.toList++Rows.txnIsSerializableSpec.plain.varTypes Tryz.prog) (ds++gs):=fun x hx=>of_decide_eq_true (List.all_eq_true.1 hs x hx)
 rw [Tryz.params9] at hs
 exact contract_ofM hE kids full (s:=Rows.txnIsSerializableSpec) (tb:=4) (by rw [Tryz.params9];decide +kernel) (by rw [Tryz.params9];exact readsM_cons rv5.m (readsM_cons rw22 (readsM_nil)))
  rfl (by rw [Tryz.params9];rintro H (_ | ⟨d0,(_ | ⟨d1,(_ | ⟨dz,ds⟩)⟩)⟩) hl <;> simp at hl;exact ⟨rfl,rfl,rfl⟩) (by kernel_rfl) (by kernel_rfl) H enc W base args ds gs before (glob_ok _)
  (by rintro _ ⟨d0,_,a,_,rfl,ha,⟨d1,_,b,_,rfl,hb,⟨rfl,rfl⟩,rfl⟩,rfl⟩;exact c9 a b (u8_rng ha) (hb (fitEach_cons (fitEach_cons hs).2).1)) hval hW
theorem txnIsSerializable_holds:Rows.TxnIsSerializableSaid :=
 OpenClaim.holds_of_wide 9 Tryz.f9 rfl rfl rfl rfl rfl rfl rfl ⟨rfl,rfl,rfl,rfl,rfl⟩ rfl rfl rfl rfl rfl (by kernel_rfl) Tryz.func9 (by kernel_rfl)
  (of_decide_eq_true (by kernel_rfl)) (by unfold Func.isWrapper;first | (rw [if_pos (by decide +kernel)];kernel_rfl) | (rw [if_neg (by decide +kernel)];exact ⟨rfl,rfl⟩))
  (fun os started H enc _=>lifted9 os started H enc)
end Go.Proofs.YtfhoeghdioofmaaGreat
