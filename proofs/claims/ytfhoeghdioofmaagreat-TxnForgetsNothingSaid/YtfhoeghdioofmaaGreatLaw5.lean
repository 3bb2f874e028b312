/-
 For at most 70 calls about three tables with rows up to 8: each commit is decided as the whole history has it,of which nothing was forgotten.
-/
import Derived.Test.YtfhoeghdioofmaaGreatEzz
import Derived.Test.YtfhoeghdioofmaaGreatEtt
import Derived.Test.YtfhoeghdioofmaaGreatEuu
import Derived.Test.YtfhoeghdioofmaaGreatBulk
set_option linter.unusedSimpArgs false
set_option linter.unusedVariables false
namespace Go.Proofs.Try
open Go.Proofs.Tryz
open Go.Al
set_option maxRecDepth 100000
abbrev q5_0:MI:=oZ 4
def mc5:MC:=(.seq (.ops [(none,q5_0)]) (.seq (.ops [pM 17 1,pV 18 20 17,pM 5 18]) (.seq (.ops [pM 19 0,(none,.v (.conv 20 .i64 (.t 19))),pV 21 11 20,pM 6 21]) (.seq (.seq (.ops [pM 22 5,pN 23 22,pM 24 23,gF 24 (oM 25 6),(some (24,false),.v (.eq 26 false .ptr (.t 25) (.c (.raw (.pointer none))))),pO 27 24 26]) (.cond 27 (.seq (.ops [(none,.e (.call (some 28) 12 [])),pM 4 28]) .ret) .skip)) (.seq (.ops [pY 7]) (.seq (.seq (.ops [pI 8 0]) (.block 0 (.loop (.seq (.seq (.ops [pM 29 8,pM 30 1,pG 31 30,pB 32 29 31]) (.cond 32 .skip (.exit 0))) (.seq (.block 1 (.seq (.ops [pM 35 1,pM 36 8,pQ 37 6 35 36,pR 38 6 37,(none,.e (.alloc 9 [.int .i64 0,.int .i64 0,.int .i64 0,.int .i64 0,.bool false,.raw (.slice none 0 0)])),pS 6 9 38]) (.seq (.ops [(none,.v (.mov 10 (.c (.int .i64 (-1)))))]) (.seq (.seq (.ops [pI 11 0]) (.block 2 (.loop (.seq (.seq (.ops [pM 39 11,pM 40 7,pG 41 40,pB 42 39 41]) (.cond 42 .skip (.exit 2))) (.seq (.block 3 (.seq (.any false (.pure0 none (oM 45 7) (.pure0 none (oM 46 11) (.pure0 none (oQ 47 8 45 46) (.pure0 none (oF 48 0 47) (.pure0 none (oL 49 48) (.pure0 none (oF 50 1 9) (.pure0 none (oL 51 50) (.pure0 none (.v (.bin 52 .eql false (.t 49) (.t 51))) (.pure0 none (oM 53 52) (.pure0 (some (53,true)) (oM 54 7) (.pure0 (some (53,true)) (oM 55 11) (.pure0 (some (53,true)) (oQ 56 8 54 55) (.pure0 (some (53,true)) (oF 57 3 56) (.pure0 (some (53,true)) (oL 58 57) (.pure0 (some (53,true)) (oN 59 58) (.pure0 none (oP 60 53 59) .done))))))))))))))))) (.cond 60 (.ops [pM 61 11,pM 10 61]) .skip))) (.ops [pM 43 11,pA 44 43 1,pM 11 44])))))) (.seq (.ops [pM 62 7,pV 63 21 62,pM 12 63]) (.seq (.ops [pM 64 6,pV 65 22 64,pM 13 65]) (.seq (.ops [pM 66 6,pR 67 6 9,pW 68 13 66 67,(none,.e (.alloc 14 z4)),pS 3 14 68]) (.seq (.seq (.ops [pF 69 0 9,pL 70 69,pE 71 70 5,pM 72 71,gT 72 (oM 73 10),(some (72,true),.v (.bin 74 .geq false (.t 73) (.c (.int .i64 0)))),pP 75 72 74]) (.cond 75 (.seq (.ops [pM 77 12,pM 78 10,pW 79 16 77 78,pM 76 79,pX 80 0 76,pX 81 1 76,pM 15 80,pM 16 81]) (.seq (.ops [pF 82 2 14,pL 83 82,pM 84 16,(none,.v (.bin 85 .neq false (.t 83) (.t 84))),pM 86 85,gF 86 (oM 87 16),gF 86 (oE 88 87 0),gF 86 (oM 89 88),gT 89 (oM 90 12),gT 89 (oM 91 10),gT 89 (oQ 92 6 90 91),gT 89 (oF 93 5 92),gT 89 (oL 94 93),gT 89 (oG 95 94),(some (89,true),.v (.bin 96 .gtr false (.t 95) (.c (.int .i64 0)))),gF 86 (oP 97 89 96),gF 86 (oM 98 97),gT 98 (oF 99 0 14),gT 98 (oL 100 99),gT 98 (oM 101 15),(some (98,true),.v (.bin 102 .neq false (.t 100) (.t 101))),gF 86 (oP 103 98 102),pO 104 86 103]) (.cond 104 (.seq (.ops [(none,q5_0)]) .ret) .skip))) .skip)) (.seq (.seq (.ops [pF 105 0 9,pL 106 105,(none,.v (.bin 107 .lss false (.t 106) (.c (.int .i64 0)))),pM 108 107,gF 108 (oF 109 0 9),gF 108 (oL 110 109),(some (108,false),.v (.bin 111 .gtr false (.t 110) (.c (.int .i64 0)))),gF 108 (oM 112 111),gT 112 (oF 113 0 9),gT 112 (oL 114 113),(some (112,true),.v (.bin 115 .lss false (.t 114) (.c (.int .i64 7)))),gF 108 (oP 116 112 115),gF 108 (oM 117 116),gT 117 (oM 118 10),(some (117,true),.v (.bin 119 .lss false (.t 118) (.c (.int .i64 0)))),gF 108 (oP 120 117 119),pO 121 108 120]) (.cond 121 (.seq (.seq (.ops [pF 122 2 14,pL 123 122,pD 124 123 273]) (.cond 124 (.seq (.ops [(none,q5_0)]) .ret) .skip)) (.exit 1)) .skip)) (.ops [pM 125 7,pR 126 6 9,pR 127 3 14,pM 128 13,(none,.e (.call (some 129) 23 [.t 125,.t 126,.t 127,.t 128])),pM 7 129])))))))))) (.ops [pM 33 8,pA 34 33 1,pM 8 34])))))) (.seq (.ops [(none,.e (.call (some 130) 12 [])),pM 4 130]) .ret)))))))
theorem ok5:FnOk E 5 131 [.tmp 4] mc5:=ofk func5
set_option maxHeartbeats 16000000
theorem ren_ux {ρ:Nat->Nat} (u:UX):ren ρ u.av=u.av:=by simp [UX.av,UX.cs,ren,renL]
theorem renL_uxs {ρ:Nat->Nat} {xs:List UX}:renL ρ (xs.map UX.av)=xs.map UX.av:=renL_map ren_ux xs
theorem set_same {H:List AObj} {a:Nat} {o:AObj} (h:H[a]?=some o):H.set a o=H:=by
 obtain ⟨h1,rfl⟩:=List.getElem?_eq_some_iff.1 h
 exact List.set_getElem_self h1
theorem c5 (last:Int) (l:List CL) (hw:0<=last/\last<=255) (hv:∀ c ∈ l,c.vals.length<=4398046510976):ACalls E.P 5 [.int .u8 last,.view 6 (l.map CL.av)] [] (fun r H=>r=.bool true/\H=[]):=by
 have hmax:=maxLen_eq
 have h20:=c20 l
 have hl:okLast last:=by unfold okLast;omega
 have hwr:IntKind.i64.wrap last=last:=wrap_i64 (by omega) (by omega)
 refine ok5.acalls hE hm (by simp) fun N hN=>?_
 unfold mc5 q5_0 z4 pM pV pN pO pY pI pG pB pQ pR pS pA pW pF pL pE pP pX pD gF gT oM oL oF oE oZ oP oN oG oQ
 simp only [lA,seval]
 repeat' (first|(with_reducible first|(apply St.o;constructor)<;>intro _|refine ai ?_|(apply Sq.o;constructor))|((with_reducible apply Sc.o true;constructor);simp only [lP,seval,hwr];refine ⟨_,h20,?_⟩;rintro _ _ ⟨rfl,rfl⟩;simp only [lA,lP,seval,hwr])|simp (disch:=omega) only [lE,seval,hwr])
 refine callW_i (f11s hl _ (fun _=>False) (fun _ h=>h.elim)) ?_
 rintro _ H0 ⟨X,rfl,a0,_⟩
 obtain ⟨cs0,b0⟩:=a0.box
 cases hf:smallS l
 . repeat' (first|(with_reducible first|(apply St.o;constructor)<;>intro _|refine ai ?_|(apply Sq.o;constructor))|((with_reducible apply Sc.o true;constructor);simp only [lP,seval,b0,isNil,Go.Al.ptrEq,hf];refine ⟨_,c12,?_⟩;rintro _ _ ⟨rfl,rfl⟩;simp only [lA,lP,seval,b0,isNil,Go.Al.ptrEq,hf])|simp (disch:=omega) only [lE,seval,b0,isNil,Go.Al.ptrEq,hf])
   exact keep_b rfl
 repeat' (first|(with_reducible first|(apply St.o;constructor)<;>intro _|refine ai ?_|(apply Sq.o;constructor))|simp (disch:=omega) only [lE,seval,b0,isNil,Go.Al.ptrEq,hf])
 obtain ⟨hsm,hlen⟩:(∀ c ∈ l,okC c)/\l.length<=70:=by simpa [smallS] using hf
 refine loop_i (fun p:Nat × List UX × Nat × List AObj=>p.1<=l.length/\TsF X p.2.2.2 (runT (t0 last) (l.take p.1)) (fun i=>i=p.2.2.1)/\p.2.2.2[p.2.2.1]?=some (.arr 49 8 (p.2.1.map UX.av))/\SzU p.1 p.2.1/\∃ kp,Gh p.2.1 (runT (t0 last) (l.take p.1)) kp)
  (fun p=>⟨[(1,.view 6 (l.map CL.av)),(6,.op X 0),(7,.slc p.2.2.1 8 p.2.1.length),(8,.int .i64 p.1)],p.2.2.2⟩) (fun p=>l.length - p.1) (0,[],H0.length,H0++[.arr 49 8 []])
  ⟨by simp,(a0.push _).weak fun i hi=>.inr hi,by simp,⟨by simp,by simp⟩,⟨_,Gh.new⟩⟩ (Ent.ghost' 7 49 8 (by omega) rfl (Ent.fr (by simp [FrSub,Go.Al.get]))) ?_
 rintro ⟨i,all,a,H1⟩ ⟨hi,a1,ha,hsz,hgh⟩
 simp only at hi a1 ha hsz hgh ⊢
 by_cases hil:i<l.length
 . obtain ⟨ok1,iv1⟩:=run_ok hl (by omega) i hi
   have hnx:=runT_next (t0 last) hil
   have hcv:=hv _ (getD_mem hil)
   have hcc:=hsm _ (getD_mem hil)
   generalize hc:l.getD i default=c at *
   generalize runT (t0 last) (l.take i)=u at *
   have hal:=at_lt ha
   have hnd:(all.map (·.num)).Nodup:=hgh.choose_spec.nums
   have huo:∀ u' ∈ all,UOk u u':=hgh.choose_spec.ok
   have hal100:all.length<=100:=by have:=hsz.1;omega
   have ha1:∀ o,(H1++[o])[a]?=some (.arr 49 8 (all.map UX.av)):=fun o=>by rw [at_app _ _ _ hal];exact ha
   have htake:(all.map UX.av).take all.length=all.map UX.av:=by rw [List.take_of_length_le (by simp)]
   have hco:cellsO c.av=some [.int .i64 c.kind,.int .i64 c.tx,.int .i64 c.a,.int .i64 c.b,.bool c.dead,rowV c.vals]:=rfl
   repeat' (first|(with_reducible first|(apply St.o;constructor)<;>intro _|refine ai ?_|(apply Sq.o;constructor))|simp (disch:=omega) only [lE,seval,IdxR_cls,hc,cl_load,hco,get_last,set_last,Int.toNat_natCast,List.length_map])
   all_goals try (exfalso;omega)
   refine loop_i (fun j:Nat=>j<=all.length) (fun j=>⟨[(1,.view 6 (l.map CL.av)),(6,.op X 0),(7,.slc a 8 all.length),(8,.int .i64 i),(9,.op H1.length 0),(10,.int .i64 (lastAt all c.tx j)),(11,.int .i64 j)],H1++[AObj.box [.int .i64 c.kind,.int .i64 c.tx,.int .i64 c.a,.int .i64 c.b,.bool c.dead,rowV c.vals]]⟩) (fun j=>all.length - j) 0 (by omega) (Ent.fr (by simp [FrSub,Go.Al.get,lastAt])) ?_
   rintro j hj
   by_cases hjl:j<all.length
   . have hbx:(H1++[AObj.box [.int .i64 c.kind,.int .i64 c.tx,.int .i64 c.a,.int .i64 c.b,.bool c.dead,rowV c.vals]])[H1.length]?=some (AObj.box [.int .i64 c.kind,.int .i64 c.tx,.int .i64 c.a,.int .i64 c.b,.bool c.dead,rowV c.vals]):=get_last
     have hep:∀ {m N d c'},epR E.P m N (some (.arr 49 8 (all.map UX.av))) (j:Int) all.length a 8 d c'=rK E.P m N c' d (.ep a 8 j 0):=epR_ne (by rw [List.length_map]) (by omega) (by omega)
     have hdg:(all.map UX.av)[j]?=some (all.getD j default).av:=by simp [hjl]
     have hnx2:lastAt all c.tx (j+1)=if (all.getD j default).num=c.tx/\(all.getD j default).done=false then (j:Int) else lastAt all c.tx j:=rfl
     generalize all.getD j default=w at *
     generalize lastAt all c.tx j=m0 at *
     have hdav:w.av=.agg w.cs:=rfl
     by_cases e1:w.num=c.tx
     . have de1:decide (w.num=c.tx)=true:=decide_eq_true e1
       cases e2:w.done
       . repeat' (first|(with_reducible first|(apply St.o;constructor)<;>intro _|refine ai ?_|(apply Sq.o;constructor))|simp (disch:=omega) only [lE,seval,ha1,hbx,hep,hdg,hdav,ux_cs,e2,de1,Int.toNat_natCast,List.length_map])
         all_goals try (exfalso;omega)
         all_goals exact back_i (j+1) (by omega) (by omega) (Ent.fr (by simp [FrSub,Go.Al.get,hnx2,e1,e2]))
       . repeat' (first|(with_reducible first|(apply St.o;constructor)<;>intro _|refine ai ?_|(apply Sq.o;constructor))|simp (disch:=omega) only [lE,seval,ha1,hbx,hep,hdg,hdav,ux_cs,e2,de1,Int.toNat_natCast,List.length_map])
         all_goals try (exfalso;omega)
         all_goals exact back_i (j+1) (by omega) (by omega) (Ent.fr (by simp [FrSub,Go.Al.get,hnx2,e1,e2]))
     . have de1:decide (w.num=c.tx)=false:=decide_eq_false e1
       repeat' (first|(with_reducible first|(apply St.o;constructor)<;>intro _|refine ai ?_|(apply Sq.o;constructor))|simp (disch:=omega) only [lE,seval,ha1,hbx,hep,hdg,hdav,ux_cs,de1,Int.toNat_natCast,List.length_map])
       all_goals try (exfalso;omega)
       all_goals exact back_i (j+1) (by omega) (by omega) (Ent.fr (by simp [FrSub,Go.Al.get,hnx2,e1]))
   . obtain rfl:j=all.length:=by omega
     generalize hm:lastAt all c.tx all.length=m at *
     have h21:=c21o all hal100 (fun u' hu'=>by have:=hsz.2 u' hu';omega) (fun u' hu' w hw'=>by have:=(huo u' hu').keys w hw';have h1:=this.1;have h2:=this.2;simp only [WR.key] at h1 h2;omega)
     repeat' (first|(with_reducible first|(apply St.o;constructor)<;>intro _|refine ai ?_|(apply Sq.o;constructor))|simp (disch:=omega) only [lE,seval,ha1,htake,Int.lt_irrefl,decide_false,List.length_map])
     all_goals try (exfalso;omega)
     have hp1:pos [a] a 0=some 0:=by simp [pos]
     refine callN_i [a] false (by simp;omega) (by simp) ?_
     simp only [lP,seval,hp1,ha1,pa_uxs]
     refine ⟨_,h21,?_⟩
     rintro _ _ ⟨rfl,rfl⟩
     simp only [lA,lP,seval,renL_accs,renL_uxs,set_same (ha1 _)]
     repeat' (first|(with_reducible first|(apply St.o;constructor)<;>intro _|refine ai ?_|(apply Sq.o;constructor))|simp (disch:=omega) only [lE,seval])
     have a2:=a1.push (AObj.box [.int .i64 c.kind,.int .i64 c.tx,.int .i64 c.a,.int .i64 c.b,.bool c.dead,rowV c.vals])
     refine callW_i (f22 a2) ?_
     rintro _ _ ⟨rfl,rfl⟩
     repeat' (first|(with_reducible first|(apply St.o;constructor)<;>intro _|refine ai ?_|(apply Sq.o;constructor))|simp (disch:=omega) only [lE,seval,get_last])
     refine callW_i (f13 a2 ok1 (by omega) c hcv) ?_
     rintro _ H3 ⟨rfl,a3,hk3⟩
     have n0:=(hk3.2 H1.length (.inr rfl)).trans get_last
     have n1:=(hk3.2 a (.inl rfl)).trans (ha1 _)
     have hl3:=hk3.1
     simp only [List.length_append,List.length_singleton] at hl3
     have n0':∀ o,(H3++[o])[H1.length]?=some (AObj.box [.int .i64 c.kind,.int .i64 c.tx,.int .i64 c.a,.int .i64 c.b,.bool c.dead,rowV c.vals]):=fun o=>by rw [at_app _ _ _ (by omega)];exact n0
     have n1':∀ o,(H3++[o])[a]?=some (.arr 49 8 (all.map UX.av)):=fun o=>by rw [at_app _ _ _ (by omega)];exact n1
     have hrco:cellsO (doS u c).1.av=some [.int .i64 (doS u c).1.n,.view 4 ((doS u c).1.w.map WR.av),.int .i64 (doS u c).1.e]:=rfl
     have ok2:=(run_ok hl (by omega) (i+1) hil).1
     have hnext:=Gh.nextR (N:=i) (i:=i) hgh ok1 iv1 hcc hm.symm
     have hdec:=fun k5 m' h1 h2 h3=>Gh.decide (N:=i) (m:=m') hgh ok1 iv1 hal100 (c:=c) k5 h1 h2 h3
     have hbk:=fun k4=>Gh.backB (N:=0) hgh (c:=c) k4
     have a4:=fun o=>a3.push o
     have hstep:=SzU.begun hsz c (doS u c).1 u.shown
     generalize (doS u c).2=v at *
     generalize (doS u c).1=r at *
     have hlen3:∀ u ∈ all,u.rows.length<=1000/\u.log.length<=1000/\u.whole.length<=1000:=fun u' hu'=>by have:=hsz.2 u' hu';omega
     have hcb:c.kind=1->(0<=c.a/\c.a<=255)/\0<=c.b/\c.b<=1073741824:=fun k1=>by have:=hcc.2 (.inl k1);omega
     rcases hnext with ⟨k1,k6,hm0,hr,hvu⟩ | ⟨hnc,hg'⟩
     . have d0:decide (c.kind<0)=false:=decide_eq_false (by omega)
       have d1:decide (0<c.kind)=true:=decide_eq_true (by omega)
       have d7:decide (c.kind<7)=true:=decide_eq_true (by omega)
       have dm:decide (m<0)=true:=decide_eq_true hm0
       have dg:decide (0<=m)=false:=decide_eq_false (by omega)
       have de:decide (r.e=273)=true:=decide_eq_true hr
       repeat' (first|(with_reducible first|(apply St.o;constructor)<;>intro _|refine ai ?_|(apply Sq.o;constructor))|simp (disch:=omega) only [lE,seval,n0,n0',n1,n1',hrco,get_last,set_last,d0,d1,d7,dm,dg,de])
       all_goals try (exfalso;omega)
       all_goals (
        refine back_i (i+1,all,a,H3++[AObj.box [.int .i64 r.n,.view 4 (r.w.map WR.av),.int .i64 r.e]]) ⟨by simp only;omega,?_,n1' _,hsz.mono (by omega),by simp only;rw [hnx,hvu];exact hgh⟩ (by simp only;omega) (Ent.fr (by simp [FrSub,Go.Al.get]))
        simp only
        rw [hnx]
        exact (a4 _).weak fun j hj=>.inl (.inl hj))
     . by_cases k5:c.kind=5
       . obtain ⟨m',e1,e2,e3,e4⟩:=lastAt_ge (all:=all) (tx:=c.tx) (j:=all.length) (by rw [hm];omega)
         obtain ⟨q1,q2⟩:=hdec k5 m' e2 e3 e4
         rw [hm] at e1
         subst e1
         have h16:=c16 (fullS all) m'
         have hml:(m':Int)<((fullS all).length:Int):=by rw [fullS_len];omega
         generalize hx:(fullS all).getD m' default=x at *
         generalize admitS (fullS all) m'=q at *
         have d5:decide (c.kind=5)=true:=decide_eq_true k5
         have dg:decide (0<=(m':Int))=true:=decide_eq_true (by omega)
         have de:decide (r.e=q.2)=true:=decide_eq_true q1
         repeat' (first|(with_reducible first|(apply St.o;constructor)<;>intro _|refine ai ?_|(apply Sq.o;constructor))|((with_reducible apply Sc.o true;constructor);simp only [lP,seval,n0,n0',n1,n1',hrco,get_last,set_last,d5,dg,de,IdxR_accs',hx,accC,admitA,Int.toNat_natCast,List.length_map];refine ⟨_,h16,?_⟩;rintro _ _ ⟨rfl,rfl⟩;simp only [lA,lP,seval,n0,n0',n1,n1',hrco,get_last,set_last,d5,dg,de,IdxR_accs',hx,accC,admitA,Int.toNat_natCast,List.length_map])|simp (disch:=omega) only [lE,seval,n0,n0',n1,n1',hrco,get_last,set_last,d5,dg,de,IdxR_accs',hx,accC,admitA,Int.toNat_natCast,List.length_map])
         all_goals try (exfalso;omega)
         all_goals (
          refine callW_i (c23 all c r u.shown (n1' _) hal100 hnd hlen3 hcb hbk) ?_
          rintro _ H5 ⟨id,rfl,hid,hst5,hido⟩
          repeat' (first|(with_reducible first|(apply St.o;constructor)<;>intro _|refine ai ?_|(apply Sq.o;constructor))|simp (disch:=omega) only [lE,seval])
          refine back_i (i+1,begunS all c r u.shown,id,H5) ⟨by simp only;omega,?_,hid,hstep,by simp only;rw [hnx];exact hg'⟩ (by simp only;omega) (Ent.fr (by simp [FrSub,Go.Al.get]))
          simp only
          rw [hnx]
          exact ((a4 _).weak fun j hj=>.inl (.inl hj)).stay hst5 fun j hj=>by
           subst hj
           exact ⟨hido,at_lt hid⟩)
       . have d5:decide (c.kind=5)=false:=decide_eq_false k5
         repeat' (first|(with_reducible first|(apply St.o;constructor)<;>intro _|refine ai ?_|(apply Sq.o;constructor))|simp (disch:=omega) only [lE,seval,n0,n0',n1,n1',hrco,get_last,set_last,d5])
         all_goals try (exfalso;omega)
         all_goals (
          refine callW_i (c23 all c r u.shown (n1' _) hal100 hnd hlen3 hcb hbk) ?_
          rintro _ H5 ⟨id,rfl,hid,hst5,hido⟩
          repeat' (first|(with_reducible first|(apply St.o;constructor)<;>intro _|refine ai ?_|(apply Sq.o;constructor))|simp (disch:=omega) only [lE,seval])
          refine back_i (i+1,begunS all c r u.shown,id,H5) ⟨by simp only;omega,?_,hid,hstep,by simp only;rw [hnx];exact hg'⟩ (by simp only;omega) (Ent.fr (by simp [FrSub,Go.Al.get]))
          simp only
          rw [hnx]
          exact ((a4 _).weak fun j hj=>.inl (.inl hj)).stay hst5 fun j hj=>by
           subst hj
           exact ⟨hido,at_lt hid⟩)
 . obtain rfl:i=l.length:=by omega
   repeat' (first|(with_reducible first|(apply St.o;constructor)<;>intro _|refine ai ?_|(apply Sq.o;constructor))|((with_reducible apply Sc.o true;constructor);simp only [lP,seval,List.length_map,Int.lt_irrefl,decide_false];refine ⟨_,c12,?_⟩;rintro _ _ ⟨rfl,rfl⟩;simp only [lA,lP,seval,List.length_map,Int.lt_irrefl,decide_false])|simp (disch:=omega) only [lE,seval,List.length_map,Int.lt_irrefl,decide_false])
   all_goals try (exfalso;omega)
   exact keep_b rfl
end Go.Proofs.Try
namespace Go.Proofs.YtfhoeghdioofmaaGreat
open Go.Al Go.Proofs.Try
open Go.Proofs.Tryz
open Go.ChangeShapes Go.WideShapes Go.ChangeAt Go.RowKit
set_option maxRecDepth 100000 in
theorem lifted5 (os:Os) (started:os.Started) (H:Type) (enc:TypeId × Value->H) :
 ReturnsInHanded {} Tryz.checked os 5 .any (Rows.txnForgetsNothingSpec.pre6 enc Tryz.prog Tryz.f5 Rows.txnForgetsNothingRow.domain false) (Rows.txnForgetsNothingSpec.post enc Tryz.prog Tryz.f5 false true false false):=by
 refine returnsInHanded_of_change_sized (C:=Tryz.checked) own started (by kernel_rfl) Tryz.func5
  (ChangeSpec.witness6 (enc:=enc) (C:=Tryz.checked) false ⟨#[],#[.int .u8 0,.slice none 0 0],[]⟩ 8 (by kernel_rfl) (by kernel_rfl) (by kernel_rfl) (by kernel_rfl)) ?_
 intro W base args ds gs before hval hW _ hs _
 have hs:FitEach (Tryz.f5.params.toList++Rows.txnForgetsNothingSpec.plain.varTypes Tryz.prog) (ds++gs):=fun x hx=>of_decide_eq_true (List.all_eq_true.1 hs x hx)
 rw [Tryz.params5] at hs
 exact contract_ofM hE kids full (s:=Rows.txnForgetsNothingSpec) (tb:=4) (by rw [Tryz.params5];decide +kernel) (by rw [Tryz.params5];exact readsM_cons rv5.m (readsM_cons rw22 (readsM_nil)))
  rfl (by rw [Tryz.params5];rintro H (_ | ⟨d0,(_ | ⟨d1,(_ | ⟨dz,ds⟩)⟩)⟩) hl <;> simp at hl;exact ⟨rfl,rfl,rfl⟩) (by kernel_rfl) (by kernel_rfl) H enc W base args ds gs before (glob_ok _)
  (by rintro _ ⟨d0,_,a,_,rfl,ha,⟨d1,_,b,_,rfl,hb,⟨rfl,rfl⟩,rfl⟩,rfl⟩;exact c5 a b (u8_rng ha) (hb (fitEach_cons (fitEach_cons hs).2).1)) hval hW
theorem txnForgetsNothing_holds:Rows.TxnForgetsNothingSaid :=
 OpenClaim.holds_of_wide 5 Tryz.f5 rfl rfl rfl rfl rfl rfl rfl ⟨rfl,rfl,rfl,rfl,rfl⟩ rfl rfl rfl rfl rfl (by kernel_rfl) Tryz.func5 (by kernel_rfl)
  (of_decide_eq_true (by kernel_rfl)) (by unfold Func.isWrapper;first | (rw [if_pos (by decide +kernel)];kernel_rfl) | (rw [if_neg (by decide +kernel)];exact ⟨rfl,rfl⟩))
  (fun os started H enc _=>lifted5 os started H enc)
end Go.Proofs.YtfhoeghdioofmaaGreat
