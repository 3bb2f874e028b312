/-
 For at most 70 calls about three tables with rows up to 8: a transaction of ModeSnapshot is refused exactly if a row that it writes has a version that is newer than its snapshot.
-/
import Derived.Test.YtfhoeghdioofmaaGreatEvv
import Derived.Test.YtfhoeghdioofmaaGreatPee
import Derived.Test.YtfhoeghdioofmaaGreatBulk
set_option linter.unusedSimpArgs false
set_option linter.unusedVariables false
namespace Go.Proofs.Try
open Go.Proofs.Tryz
open Go.Al
set_option maxRecDepth 100000
abbrev q7_0:MI:=oZ 4
def mc7:MC:=(.seq (.ops [(none,q7_0)]) (.seq (.ops [pM 21 1,pV 22 20 21,pM 5 22]) (.seq (.ops [pM 23 0,(none,.v (.conv 24 .i64 (.t 23))),pV 25 11 24,pM 6 25]) (.seq (.seq (.ops [pM 26 5,pN 27 26,pM 28 27,gF 28 (oM 29 6),(some (28,false),.v (.eq 30 false .ptr (.t 29) (.c (.raw (.pointer none))))),pO 31 28 30]) (.cond 31 (.seq (.ops [(none,.e (.call (some 32) 12 [])),pM 4 32]) .ret) .skip)) (.seq (.ops [pY 7]) (.seq (.seq (.ops [pI 8 0]) (.block 0 (.loop (.seq (.seq (.ops [pM 33 8,pM 34 1,pG 35 34,pB 36 33 35]) (.cond 36 .skip (.exit 0))) (.seq (.block 1 (.seq (.ops [pM 39 1,pM 40 8,pQ 41 6 39 40,pR 42 6 41,(none,.e (.alloc 9 [.int .i64 0,.int .i64 0,.int .i64 0,.int .i64 0,.bool false,.raw (.slice none 0 0)])),pS 6 9 42]) (.seq (.ops [pM 44 6,pF 45 1 9,pL 46 45,pW 47 18 44 46,pM 43 47,pX 48 0 43,pX 49 1 43,pM 10 48,pM 11 49]) (.seq (.ops [pM 51 6,pF 52 1 9,pL 53 52,pW 54 25 51 53,pM 50 54,pX 55 0 50,pX 56 1 50,pM 12 55,pM 13 56]) (.seq (.ops [pI 14 1]) (.seq (.seq (.ops [pI 15 0]) (.block 2 (.loop (.seq (.seq (.ops [pM 57 15,pM 58 6,pV 59 24 58,pG 60 59,pB 61 57 60]) (.cond 61 .skip (.exit 2))) (.seq (.block 3 (.seq (.any false (.pure0 none (oM 64 6) (.pure0 none (oM 66 15) (.pure0 none (oF 69 1 9) (.pure0 none (oL 70 69) (.alt none (oV 65 24 64) (.base (.pure0 none (oQ 67 1 65 66) (.pure0 none (oL 68 67) (.pure0 none (.v (.bin 71 .eql false (.t 68) (.t 70))) .done)))) .stop)))))) (.cond 71 (.seq (.ops [pM 72 6,pV 73 14 72,pM 16 73]) (.ops [pM 74 16,pM 75 16,pG 76 75,pM 77 6,pV 78 24 77,pG 79 78,(none,.v (.bin 80 .sub false (.t 76) (.t 79))),pM 81 15,(none,.v (.bin 82 .add false (.t 80) (.t 81))),pQ 83 6 74 82,pF 84 0 83,pL 85 84,pM 14 85])) .skip))) (.ops [pM 62 15,pA 63 62 1,pM 15 63])))))) (.seq (.ops [pM 86 6,pR 87 6 9,pW 88 13 86 87,(none,.e (.alloc 17 z3)),pS 3 17 88]) (.seq (.seq (.ops [pF 89 0 9,pL 90 89,pD 91 90 5,pM 92 91,gF 92 (oM 93 11),gF 92 (oD 94 93 0),pO 95 92 94]) (.cond 95 (.exit 1) .skip)) (.seq (.ops [pZ 18]) (.seq (.seq (.ops [pI 19 0]) (.block 4 (.loop (.seq (.seq (.ops [pM 96 19,pM 97 12,pG 98 97,pB 99 96 98]) (.cond 99 .skip (.exit 4))) (.seq (.block 5 (.ops [pM 102 18,pM 103 102,gF 103 (oM 104 7),gF 103 (oM 105 12),gF 103 (oM 106 19),gF 103 (oQ 107 4 105 106),gF 103 (oR 108 4 107),gF 103 (oV 109 31 108),gF 103 (oM 110 10),(some (103,false),.e (.call (some 111) 30 [.t 104,.t 109,.t 110])),pO 112 103 111,pM 18 112])) (.ops [pM 100 19,pA 101 100 1,pM 19 101])))))) (.seq (.seq (.ops [pM 113 18,pM 114 113,gT 114 (oF 115 2 17),gT 114 (oL 116 115),gT 114 (oD 117 116 271),pP 118 114 117,pM 119 118,gF 119 (oM 120 14),gF 119 (oD 121 120 1),gF 119 (oM 122 121),gT 122 (oM 123 18),gT 122 (oN 124 123),gF 119 (oP 125 122 124),gF 119 (oM 126 125),gT 126 (oF 127 2 17),gT 126 (oL 128 127),gT 126 (oD 129 128 0),gF 119 (oP 130 126 129),pO 131 119 130]) (.cond 131 (.seq (.ops [(none,q7_0)]) .ret) .skip)) (.seq (.seq (.ops [pF 132 2 17,pL 133 132,pD 134 133 0,pM 135 134,gF 135 (oF 136 0 17),gF 135 (oL 137 136),gF 135 (oE 138 137 0),pO 139 135 138]) (.cond 139 (.exit 1) .skip)) (.seq (.seq (.ops [pI 20 0]) (.block 6 (.loop (.seq (.seq (.ops [pM 140 20,pF 141 1 17,pL 142 141,pG 143 142,pB 144 140 143]) (.cond 144 .skip (.exit 6))) (.seq (.block 7 (.any true (.pure0 none (oM 147 7) (.pure0 none (oF 148 1 17) (.pure0 none (oL 149 148) (.pure0 none (oM 150 20) (.pure0 none (oQ 151 4 149 150) (.pure0 none (oR 152 4 151) (.pure0 none (oF 154 0 17) (.pure0 none (oL 155 154) (.pure0 none (oF 156 1 17) (.pure0 none (oL 157 156) (.pure0 none (oM 158 20) (.pure0 none (oQ 159 4 157 158) (.pure0 none (oF 160 2 159) (.pure0 none (oL 161 160) (.alt none (oV 153 31 152) (.pure1 none (.v (.build 162 z1 [(0,1,.t 153),(1,1,.t 155),(2,1,.t 161)])) (.alt none (.e (.mkl 163 66 4 1 (.agg z1) [(0,.t 162)])) (.alt none (.e (.app 164 66 4 48 (.t 147) (.t 163))) (.pure1 none (oM 7 164) .done) .stop) .stop)) .stop))))))))))))))))) (.ops [pM 145 20,pA 146 145 1,pM 20 146])))))) (.seq (.ops [pM 165 7,pV 166 32 165,pN 167 166]) (.cond 167 (.seq (.ops [(none,q7_0)]) .ret) .skip))))))))))))))) (.ops [pM 37 8,pA 38 37 1,pM 8 38])))))) (.seq (.ops [(none,.e (.call (some 168) 12 [])),pM 4 168]) .ret)))))))
theorem ok7:FnOk E 7 169 [.tmp 4] mc7:=ofk func7
set_option maxHeartbeats 16000000
def snapN (o:Option TX):Int:=match o with | some t=>t.snap | none=>0
def snapE (o:Option TX):Int:=match o with | some _=>0 | none=>273
theorem snapT_eq (o:Option TX):snapT o=.tup [.int .i64 (snapN o),.int .i64 (snapE o)]:=by cases o <;> rfl
theorem weakL_app {xs ys ys':List AV} (k:WeakL ys ys'):WeakL (xs++ys) (xs++ys'):=fun γ σ vs hr=>by
 obtain ⟨v1,v2,rfl,h1,h2⟩:=repVs_append hr
 exact RepVs.append h1 (k _ _ _ h2)
theorem c7 (last:Int) (l:List CL) (hw:0<=last/\last<=255) (hv:∀ c ∈ l,c.vals.length<=4398046510976):ACalls E.P 7 [.int .u8 last,.view 6 (l.map CL.av)] [] (fun r H=>r=.bool true/\H=[]):=by
 have hmax:=maxLen_eq
 have h20:=c20 l
 have hl:okLast last:=by unfold okLast;omega
 have hwr:IntKind.i64.wrap last=last:=wrap_i64 (by omega) (by omega)
 refine ok7.acalls hE hm (by simp) fun N hN=>?_
 unfold mc7 q7_0 z1 z3 pM pV pN pO pY pI pG pB pQ pR pS pF pL pW pX pA pD pZ pP gF gT oM oL oR oF oE oD oZ oP oN oQ oV
 simp only [lA,seval]
 repeat' (first|(with_reducible first|(apply St.o;constructor)<;>intro _|refine ai ?_|(apply Sq.o;constructor))|((with_reducible apply Sc.o true;constructor);simp only [lP,seval,hwr];refine ⟨_,h20,?_⟩;rintro _ _ ⟨rfl,rfl⟩;simp only [lA,lP,seval,hwr])|simp (disch:=omega) only [lE,seval,hwr])
 refine callW_i (f11s hl _ (fun _=>False) (fun _ h=>h.elim)) ?_
 rintro _ H0 ⟨X,rfl,a0,_⟩
 obtain ⟨cs0,b0⟩:=a0.box
 cases hf:smallS l
 . repeat' (first|(with_reducible first|(apply St.o;constructor)<;>intro _|refine ai ?_|(apply Sq.o;constructor))|((with_reducible apply Sc.o true;constructor);simp only [lP,seval,b0,isNil,Go.Al.ptrEq,hf];refine ⟨_,c12,?_⟩;rintro _ _ ⟨rfl,rfl⟩;simp only [lA,lP,seval,b0,isNil,Go.Al.ptrEq,hf])|simp (disch:=omega) only [lE,seval,b0,isNil,Go.Al.ptrEq,hf])
   exact keep_b rfl
 repeat' (first|(with_reducible first|(apply St.o;constructor)<;>intro _|refine ai ?_|(apply Sq.o;constructor))|simp (disch:=omega) only [lE,seval,b0,isNil,Go.Al.ptrEq,hf])
 obtain ⟨hsm,hlen⟩:(∀ c ∈ l,okC c)/\l.length<=70:=by simpa [smallS] using hf
 refine loop_i (fun p:Nat × TS × List Ver × Nat × List AObj=>p.1<=l.length/\TsF X p.2.2.2.2 p.2.1 (fun i=>i=p.2.2.2.1)/\p.2.2.2.2[p.2.2.2.1]?=some (.arr 66 4 (p.2.2.1.map Ver.av))/\(∃ all kp,Gh all p.2.1 kp/\RR p.2.2.1 all p.2.1.last)/\OkS p.1 p.2.1/\IvS p.2.1/\p.2.1.last<=255+p.1/\p.2.2.1.length<=64 * p.1)
  (fun p=>⟨[(1,.view 6 (l.map CL.av)),(6,.op X 0),(7,.slc p.2.2.2.1 4 p.2.2.1.length),(8,.int .i64 p.1)],p.2.2.2.2⟩) (fun p=>l.length - p.1) (0,t0 last,[],H0.length,H0++[.arr 66 4 []])
  ⟨by simp,(a0.push _).weak fun i hi=>.inr hi,by simp,⟨[],[],Gh.new,RR.nil⟩,(run_ok hl (l:=[]) (by simp) 0 (by simp)).1,(run_ok hl (l:=[]) (by simp) 0 (by simp)).2,by simp only [t0];omega,by simp⟩ (Ent.ghost' 7 66 4 (by omega) rfl (Ent.fr (by simp [FrSub,Go.Al.get]))) ?_
 rintro ⟨i,u,r,a,H1⟩ ⟨hi,a1,ha,⟨all,kp,hgh,hrr⟩,ok1,iv1,hlast,hrl⟩
 simp only at hi a1 ha hgh hrr ok1 iv1 hlast hrl ⊢
 have hal:=at_lt ha
 by_cases hil:i<l.length
 . have hcv:=hv _ (getD_mem hil)
   have hcc:=hsm _ (getD_mem hil)
   generalize hc:l.getD i default=c at *
   have hco:cellsO c.av=some [.int .i64 c.kind,.int .i64 c.tx,.int .i64 c.a,.int .i64 c.b,.bool c.dead,rowV c.vals]:=rfl
   repeat' (first|(with_reducible first|(apply St.o;constructor)<;>intro _|refine ai ?_|(apply Sq.o;constructor))|simp (disch:=omega) only [lE,seval,IdxR_cls,hc,cl_load,hco,get_last,set_last,Int.toNat_natCast,List.length_map])
   all_goals try (exfalso;omega)
   have a2:=a1.push (AObj.box [.int .i64 c.kind,.int .i64 c.tx,.int .i64 c.a,.int .i64 c.b,.bool c.dead,rowV c.vals])
   have ha1:(H1++[AObj.box [.int .i64 c.kind,.int .i64 c.tx,.int .i64 c.a,.int .i64 c.b,.bool c.dead,rowV c.vals]])[a]?=some (.arr 66 4 (r.map Ver.av)):=by rw [at_app _ _ _ hal];exact ha
   have hbx:(H1++[AObj.box [.int .i64 c.kind,.int .i64 c.tx,.int .i64 c.a,.int .i64 c.b,.bool c.dead,rowV c.vals]])[H1.length]?=some (AObj.box [.int .i64 c.kind,.int .i64 c.tx,.int .i64 c.a,.int .i64 c.b,.bool c.dead,rowV c.vals]):=get_last
   generalize H1++[AObj.box [.int .i64 c.kind,.int .i64 c.tx,.int .i64 c.a,.int .i64 c.b,.bool c.dead,rowV c.vals]]=M at *
   refine callW_i (f18 a2 c.tx) ?_
   rintro _ _ ⟨rfl,rfl⟩
   rw [snapT_eq]
   repeat' (first|(with_reducible first|(apply St.o;constructor)<;>intro _|refine ai ?_|(apply Sq.o;constructor))|simp (disch:=omega) only [lE,seval,hbx])
   refine callW_i (f25 a2 ok1 c.tx) ?_
   rintro _ M2 ⟨rfl,a3,hk3⟩
   have ha2:=(hk3.2 a (.inl rfl)).trans ha1
   have hbx2:=(hk3.2 H1.length (.inr rfl)).trans hbx
   repeat' (first|(with_reducible first|(apply St.o;constructor)<;>intro _|refine ai ?_|(apply Sq.o;constructor))|simp (disch:=omega) only [lE,seval,hbx2])
   refine loop_i (fun p:Nat × List AObj=>p.1<=u.act.length/\TsF X p.2 u (fun i=>i=a\/i=H1.length)/\p.2[a]?=some (.arr 66 4 (r.map Ver.av))/\p.2[H1.length]?=some (AObj.box [.int .i64 c.kind,.int .i64 c.tx,.int .i64 c.a,.int .i64 c.b,.bool c.dead,rowV c.vals]))
    (fun p=>⟨[(1,.view 6 (l.map CL.av)),(6,.op X 0),(7,.slc a 4 r.length),(8,.int .i64 i),(9,.op H1.length 0),(10,.int .i64 (snapN (getT u c.tx))),(11,.int .i64 (snapE (getT u c.tx))),(12,.view 4 ((writesS (getT u c.tx)).1.map WR.av)),(14,.int .i64 (modeAt u.act c.tx p.1)),(15,.int .i64 p.1)],p.2⟩) (fun p=>u.act.length - p.1) (0,M2) ⟨by simp,a3,ha2,hbx2⟩ (Ent.fr (by simp [FrSub,Go.Al.get,modeAt])) ?_
   rintro ⟨k,M3⟩ ⟨hk,a4,ha3,hbx3⟩
   simp only at hk a4 ha3 hbx3 ⊢
   repeat' (first|(with_reducible first|(apply St.o;constructor)<;>intro _|refine ai ?_|(apply Sq.o;constructor))|simp (disch:=omega) only [lE,seval])
   refine callW_i (f24 a4 ok1) ?_
   rintro _ M4 ⟨rfl,a5,hk5⟩
   have ha4:=(hk5.2 a (.inl rfl)).trans ha3
   have hbx4:=(hk5.2 H1.length (.inr rfl)).trans hbx3
   by_cases hkl:k<u.act.length
   . repeat' (first|(with_reducible apply St.o;constructor) <;> intro _|(with_reducible first|refine ai ?_|(apply Sp.o;constructor)|refine mkl_own ?_|refine ap_own ?_|refine base0_i ?_|refine frz0_i ?_)|simp (disch:=omega) only [lE,seval,List.length_map])
     all_goals try (exfalso;omega)
     obtain ⟨s,hs,hX,hu,hO⟩:=a5
     have hcnt:=ok1.cnt
     have hsl:s.act.length=u.act.length:=by rw [<- hu];simp [SR.ts]
     have hsk:s.act.map (·.1)=u.act.map (·.1):=by rw [<- hu];simp only [SR.ts,List.map_map];rfl
     refine any0_i s.ids ?_
     have hbh:(hide s.ids M4)[H1.length]?=some (AObj.box [.int .i64 c.kind,.int .i64 c.tx,.int .i64 c.a,.int .i64 c.b,.bool c.dead,rowV c.vals]):=by rw [hide_other (hO H1.length (.inr rfl)).1];exact hbx4
     repeat' (first|(with_reducible apply St.o;constructor) <;> intro _|(with_reducible first|refine ai ?_|(apply Sp.o;constructor)|refine mkl_own ?_|refine ap_own ?_|refine frz0_i ?_)|simp (disch:=omega) only [lE,seval,hbh,hbx4])
     rw [<- hX]
     refine a24_i hs (by omega) (fun i hi=>hs.lt i hi) ?_
     rintro r' M5 ⟨s2,j1,j2,j3,j4⟩ hst5 hl5 hr5
     rw [hsk] at hr5
     rcases hr5 with ⟨e,rfl⟩ | ⟨a',rfl,ha',hA⟩
     . have:u.act=[]:=List.map_eq_nil_iff.1 e
       rw [this] at hkl;exact absurd hkl (by simp)
     rw [hX]
     have hep:∀ {m N d c'},epR E.P m N (some (.arr 3 1 ((u.act.map (·.1)).map (AV.int .i64)))) (k:Int) u.act.length a' 1 d c'=rK E.P m N c' d (.ep a' 1 k 0):=epR_ne (by simp) (by omega) (by simpa using hkl)
     have hdg:((u.act.map (·.1)).map (AV.int .i64))[k]?=some (.int .i64 (u.act.getD k default).1):=by simp [hkl]
     have a5:TsF X M5 u (fun i=>i=a\/i=H1.length):=⟨s2,j1,j4.trans hX,j3.trans hu,fun i hi=>⟨by rw [j2];exact (hO i hi).1,by have:=(hO i hi).2;omega⟩⟩
     have ha5:=(hst5 a (at_lt ha4) (hO a (.inl rfl)).1).trans ha4
     have hbx5:=(hst5 H1.length (at_lt hbx4) (hO H1.length (.inr rfl)).1).trans hbx4
     have hnxm:modeAt u.act c.tx (k+1)=if (u.act.getD k default).1=c.tx then (u.act.getD k default).2.mode else modeAt u.act c.tx k:=rfl
     by_cases e1:(u.act.getD k default).1=c.tx
     . have de1:decide ((u.act.getD k default).1=c.tx)=true:=decide_eq_true e1
       rw [if_pos e1] at hnxm
       repeat' (first|(with_reducible first|(apply St.o;constructor)<;>intro _|refine ai ?_|(apply Sq.o;constructor))|simp (disch:=omega) only [lE,seval,hA,hep,hdg,de1])
       all_goals try (exfalso;omega)
       refine callW_i (f14 a5 ok1) ?_
       rintro _ M6 ⟨rfl,a6,hk6⟩
       have ha6:=(hk6.2 a (.inl rfl)).trans ha5
       have hbx6:=(hk6.2 H1.length (.inr rfl)).trans hbx5
       repeat' (first|(with_reducible first|(apply St.o;constructor)<;>intro _|refine ai ?_|(apply Sq.o;constructor))|simp (disch:=omega) only [lE,seval,List.length_map])
       refine callW_i (f24 a6 ok1) ?_
       rintro _ M7 ⟨rfl,a7,hk7⟩
       have ha7:=(hk7.2 a (.inl rfl)).trans ha6
       have hbx7:=(hk7.2 H1.length (.inr rfl)).trans hbx6
       have hhl:(histS u).length=u.kept.length+u.act.length:=by rw [histS_len];simp [allS]
       have w1:IntKind.i64.wrap (((histS u).length:Int) - (u.act.length:Int))=(u.kept.length:Int):=by rw [wrap_i64 (by omega) (by omega)];omega
       have w2:IntKind.i64.wrap ((u.kept.length:Int)+(k:Int))=((u.kept.length+k:Nat):Int):=by rw [wrap_i64 (by omega) (by omega)];omega
       have hxm:((histS u).getD (u.kept.length+k) default).mode=(u.act.getD k default).2.mode:=by
        show (at' (histS u) (u.kept.length+k)).mode=_
        rw [at_hist (by simp [allS];omega)]
        simp [accOf,allS,hkl]
       generalize hx:(histS u).getD (u.kept.length+k) default=x at *
       repeat' (first|(with_reducible first|(apply St.o;constructor)<;>intro _|refine ai ?_|(apply Sq.o;constructor))|simp (disch:=omega) only [lE,seval,w1,w2,IdxR_accs',hx,accC,Int.toNat_natCast,List.length_map])
       all_goals try (exfalso;omega)
       all_goals exact back_i (k+1,M7) ⟨by simp only;omega,a7,ha7,hbx7⟩ (by simp only;omega) (Ent.fr (by simp [FrSub,Go.Al.get,hnxm,hxm]))
     . have de1:decide ((u.act.getD k default).1=c.tx)=false:=decide_eq_false e1
       rw [if_neg e1] at hnxm
       repeat' (first|(with_reducible first|(apply St.o;constructor)<;>intro _|refine ai ?_|(apply Sq.o;constructor))|simp (disch:=omega) only [lE,seval,hA,hep,hdg,de1])
       all_goals try (exfalso;omega)
       all_goals exact back_i (k+1,M5) ⟨by simp only;omega,a5,ha5,hbx5⟩ (by simp only;omega) (Ent.fr (by simp [FrSub,Go.Al.get,hnxm]))
   . obtain rfl:k=u.act.length:=by omega
     repeat' (first|(with_reducible first|(apply St.o;constructor)<;>intro _|refine ai ?_|(apply Sq.o;constructor))|simp (disch:=omega) only [lE,seval,List.length_map,Int.lt_irrefl,decide_false,hbx4])
     all_goals try (exfalso;omega)
     refine callW_i (f13 a5 ok1 (by omega) c hcv) ?_
     rintro _ M5 ⟨rfl,a6,hk6⟩
     have n0:=(hk6.2 H1.length (.inr rfl)).trans hbx4
     have n1:=(hk6.2 a (.inl rfl)).trans ha4
     have hbl:=at_lt n0
     have hal5:=at_lt n1
     have n0':∀ o,(M5++[o])[H1.length]?=some (AObj.box [.int .i64 c.kind,.int .i64 c.tx,.int .i64 c.a,.int .i64 c.b,.bool c.dead,rowV c.vals]):=fun o=>by rw [at_app _ _ _ hbl];exact n0
     have n1':∀ o,(M5++[o])[a]?=some (.arr 66 4 (r.map Ver.av)):=fun o=>by rw [at_app _ _ _ hal5];exact n1
     have hrco:cellsO (doS u c).1.av=some [.int .i64 (doS u c).1.n,.view 4 ((doS u c).1.w.map WR.av),.int .i64 (doS u c).1.e]:=rfl
     have ok2:=ok1.do (by omega) c
     have iv2:=iv1.do ok1 c
     have hb1:u.last+1<=1073741824:=by omega
     have hbd:=last_bd ok1 iv1 hb1 c
     have hcont:=fun hk=>RR.cont hrr hgh ok1 iv1 hcc hk
     have a7:=fun o=>a6.push o
     by_cases k5:c.kind=5
     rotate_left
     . have d5:decide (c.kind=5)=false:=decide_eq_false k5
       have hct:=hcont (.inl k5)
       generalize (doS u c).2=v at *
       generalize (doS u c).1=got at *
       repeat' (first|(with_reducible first|(apply St.o;constructor)<;>intro _|refine ai ?_|(apply Sq.o;constructor))|simp (disch:=omega) only [lE,seval,n0,n0',n1,n1',hrco,get_last,set_last,d5])
       all_goals try (exfalso;omega)
       all_goals exact back_i (i+1,v,r,a,M5++[AObj.box [.int .i64 got.n,.view 4 (got.w.map WR.av),.int .i64 got.e]]) ⟨by simp only;omega,(a7 _).weak fun j hj=>.inl (.inl hj),n1' _,hct,ok2,iv2,by simp only;omega,by simp only;omega⟩ (by simp only;omega) (Ent.fr (by simp [FrSub,Go.Al.get]))
     have d5:decide (c.kind=5)=true:=decide_eq_true k5
     cases hg:getT u c.tx with
     | none =>
       obtain ⟨h1,h2⟩:=doS_none hg (c:=c) ⟨by omega,by omega⟩
       have hct:=hcont (.inr (by rw [h1];decide))
       simp only [snapN,snapE,writesS]
       generalize (doS u c).2=v at *
       generalize (doS u c).1=got at *
       repeat' (first|(with_reducible first|(apply St.o;constructor)<;>intro _|refine ai ?_|(apply Sq.o;constructor))|simp (disch:=omega) only [lE,seval,n0,n0',n1,n1',hrco,get_last,set_last,d5])
       all_goals try (exfalso;omega)
       all_goals exact back_i (i+1,v,r,a,M5++[AObj.box [.int .i64 got.n,.view 4 (got.w.map WR.av),.int .i64 got.e]]) ⟨by simp only;omega,(a7 _).weak fun j hj=>.inl (.inl hj),n1' _,hct,ok2,iv2,by simp only;omega,by simp only;omega⟩ (by simp only;omega) (Ent.fr (by simp [FrSub,Go.Al.get]))
     | some t =>
       rw [modeAt_get iv1 hg]
       simp only [snapN,snapE,writesS]
       obtain ⟨q1,q2,q3⟩:=commit_res ok1 iv1 hg hb1
       rw [<- do_commit k5] at q1 q2 q3
       have hni:=newer_iff hrr hgh ok1 iv1 hg
       have hdone:=fun he=>RR.done hrr hgh ok1 iv1 hcc k5 hg hb1 he
       have hkw:∀ w ∈ lastW t.log,(0<=w.tab/\w.tab<=255)/\0<=w.row/\w.row<=1073741824:=fun w hw=>by
        have:=(ok1.tx t (getT_mem hg)).1.log w (lastW_mem w hw);omega
       have hwl:(lastW t.log).length<=64:=(iv1.tx t (getT_mem hg)).wlen
       generalize hws:lastW t.log=ws at *
       generalize (doS u c).2=v at *
       generalize (doS u c).1=got at *
       repeat' (first|(with_reducible first|(apply St.o;constructor)<;>intro _|refine ai ?_|(apply Sq.o;constructor))|simp (disch:=omega) only [lE,seval,n0,n0',n1,n1',hrco,get_last,set_last,d5])
       all_goals try (exfalso;omega)
       refine loop_i (fun j:Nat=>j<=ws.length) (fun j=>⟨[(1,.view 6 (l.map CL.av)),(6,.op X 0),(7,.slc a 4 r.length),(8,.int .i64 i),(9,.op H1.length 0),(10,.int .i64 t.snap),(12,.view 4 (ws.map WR.av)),(14,.int .i64 t.mode),(17,.op M5.length 0),(18,.bool ((ws.take j).any fun w=>newer r (numV w) t.snap)),(19,.int .i64 j)],M5++[AObj.box [.int .i64 got.n,.view 4 (got.w.map WR.av),.int .i64 got.e]]⟩) (fun j=>ws.length - j) 0 (by omega) (Ent.fr (by simp [FrSub,Go.Al.get])) ?_
       rintro j hj
       by_cases hjl:j<ws.length
       . have hwm:=getD_mem' hjl
         have hkj:=hkw _ hwm
         have hnx:((ws.take (j+1)).any fun w=>newer r (numV w) t.snap)=(((ws.take j).any fun w=>newer r (numV w) t.snap) || newer r (numV (ws.getD j default)) t.snap):=by
          rw [take_succD hjl,List.any_append];simp
         generalize hw':ws.getD j default=w at *
         have h31:=c31 w hkj.1 hkj.2
         have h30:=c30 r (numV w) t.snap
         generalize ((ws.take j).any fun w=>newer r (numV w) t.snap)=nb at *
         have hwc:cellsO w.av=some w.cs:=rfl
         cases nb
         . repeat' (first|(with_reducible first|(apply St.o;constructor)<;>intro _|refine ai ?_|(apply Sq.o;constructor))|((with_reducible apply Sc.o true;constructor);simp only [lP,seval,n1',IdxR_wrs,hw',vw_vers,Int.toNat_natCast,List.length_map];(first|refine ⟨_,h31,?_⟩|refine ⟨_,h30,?_⟩);rintro _ _ ⟨rfl,rfl⟩;simp only [lA,lP,seval,n1',IdxR_wrs,hw',vw_vers,Int.toNat_natCast,List.length_map])|simp (disch:=omega) only [lE,seval,n1',IdxR_wrs,hw',vw_vers,Int.toNat_natCast,List.length_map])
           all_goals try (exfalso;omega)
           all_goals exact back_i (j+1) (by omega) (by omega) (Ent.fr (by simp [FrSub,Go.Al.get,hnx]))
         . repeat' (first|(with_reducible first|(apply St.o;constructor)<;>intro _|refine ai ?_|(apply Sq.o;constructor))|simp (disch:=omega) only [lE,seval,IdxR_wrs,hw',Int.toNat_natCast,List.length_map])
           all_goals try (exfalso;omega)
           all_goals exact back_i (j+1) (by omega) (by omega) (Ent.fr (by simp [FrSub,Go.Al.get,hnx]))
       . obtain rfl:j=ws.length:=by omega
         rw [List.take_length]
         by_cases hL:LostW (histS u) (idxT u c.tx)
         . have hnb:(ws.any fun w=>newer r (numV w) t.snap)=true:=List.any_eq_true.2 (hni.2 hL)
           have he:=q1 hL
           have hct:=hcont (.inr (by omega))
           have de1:decide (got.e=271)=true:=decide_eq_true he
           have de0:decide (got.e=0)=false:=decide_eq_false (by omega)
           repeat' (first|(with_reducible first|(apply St.o;constructor)<;>intro _|refine ai ?_|(apply Sq.o;constructor))|simp (disch:=omega) only [lE,seval,n0,n0',n1,n1',hrco,get_last,set_last,hnb,de1,de0,Int.lt_irrefl,decide_false,List.length_map])
           all_goals try (exfalso;omega)
           all_goals exact back_i (i+1,v,r,a,M5++[AObj.box [.int .i64 got.n,.view 4 (got.w.map WR.av),.int .i64 got.e]]) ⟨by simp only;omega,(a7 _).weak fun j hj=>.inl (.inl hj),n1' _,hct,ok2,iv2,by simp only;omega,by simp only;omega⟩ (by simp only;omega) (Ent.fr (by simp [FrSub,Go.Al.get]))
         . have hnb:(ws.any fun w=>newer r (numV w) t.snap)=false:=Bool.eq_false_iff.2 fun h=>hL (hni.1 (List.any_eq_true.1 h))
           by_cases he:got.e=0
           rotate_left
           . have hct:=hcont (.inr he)
             have hm:t.mode=1:=Classical.byContradiction fun h=>he (q2 hL h)
             have dm:decide (t.mode=1)=true:=decide_eq_true hm
             have de0:decide (got.e=0)=false:=decide_eq_false he
             repeat' (first|(with_reducible first|(apply St.o;constructor)<;>intro _|refine ai ?_|(apply Sq.o;constructor))|simp (disch:=omega) only [lE,seval,n0,n0',n1,n1',hrco,get_last,set_last,hnb,dm,de0,Int.lt_irrefl,decide_false,List.length_map])
             all_goals try (exfalso;omega)
             all_goals exact back_i (i+1,v,r,a,M5++[AObj.box [.int .i64 got.n,.view 4 (got.w.map WR.av),.int .i64 got.e]]) ⟨by simp only;omega,(a7 _).weak fun j hj=>.inl (.inl hj),n1' _,hct,ok2,iv2,by simp only;omega,by simp only;omega⟩ (by simp only;omega) (Ent.fr (by simp [FrSub,Go.Al.get]))
           obtain ⟨hgw,hq⟩:=q3 he
           have hdn:=hdone he
           rw [<- hgw] at hdn
           have de0:decide (got.e=0)=true:=decide_eq_true he
           by_cases hn:got.n=0
           . have dn:decide (got.n=0)=true:=decide_eq_true hn
             have hw0:got.w=[]:=by
              rw [hgw,<- hws]
              have hsh:=iv1.sh
              rcases hq with ⟨e,_⟩ | ⟨_,e,_⟩
              . rw [e];rfl
              . omega
             rw [hw0] at hdn
             simp only [List.map_nil,List.append_nil] at hdn
             have hct:=hdn
             repeat' (first|(with_reducible first|(apply St.o;constructor)<;>intro _|refine ai ?_|(apply Sq.o;constructor))|simp (disch:=omega) only [lE,seval,n0,n0',n1,n1',hrco,get_last,set_last,hnb,de0,dn,Int.lt_irrefl,decide_false,List.length_map])
             all_goals try (exfalso;omega)
             all_goals exact back_i (i+1,v,r,a,M5++[AObj.box [.int .i64 got.n,.view 4 (got.w.map WR.av),.int .i64 got.e]]) ⟨by simp only;omega,(a7 _).weak fun j hj=>.inl (.inl hj),n1' _,hct,ok2,iv2,by simp only;omega,by simp only;omega⟩ (by simp only;omega) (Ent.fr (by simp [FrSub,Go.Al.get]))
           have dn:decide (got.n=0)=false:=decide_eq_false hn
           have hkg:∀ w ∈ got.w,(0<=w.tab/\w.tab<=255)/\0<=w.row/\w.row<=1073741824:=by rw [hgw];exact hkw
           have hgl:got.w.length<=64:=by rw [hgw];exact hwl
           repeat' (first|(with_reducible first|(apply St.o;constructor)<;>intro _|refine ai ?_|(apply Sq.o;constructor))|simp (disch:=omega) only [lE,seval,n0,n0',n1,n1',hrco,get_last,set_last,hnb,de0,dn,Int.lt_irrefl,decide_false,List.length_map])
           all_goals try (exfalso;omega)
           all_goals (
            refine loop_i (fun p:Nat × Nat × List AObj=>p.1<=got.w.length/\TsF X p.2.2 v (fun i=>i=p.2.1)/\p.2.1≠M5.length/\p.2.2[p.2.1]?=some (.arr 66 4 ((r++(got.w.take p.1).map (mkV got.n)).map Ver.av))/\p.2.2[M5.length]?=some (AObj.box [.int .i64 got.n,.view 4 (got.w.map WR.av),.int .i64 got.e]))
             (fun p=>⟨[(1,.view 6 (l.map CL.av)),(6,.op X 0),(7,.slc p.2.1 4 (r.length+p.1)),(8,.int .i64 i),(17,.op M5.length 0),(20,.int .i64 p.1)],p.2.2⟩) (fun p=>got.w.length - p.1) (0,a,M5++[AObj.box [.int .i64 got.n,.view 4 (got.w.map WR.av),.int .i64 got.e]])
             ⟨by simp,(a7 _).weak fun j hj=>.inl (.inl hj),by simp only;omega,by simp only;rw [n1'];simp,get_last⟩ (Ent.fr (by simp [FrSub,Go.Al.get])) ?_
            rintro ⟨q,id,M6⟩ ⟨hq1,a8,hne,m1,m2⟩
            simp only at hq1 a8 hne m1 m2 ⊢
            have hidl:=at_lt m1
            by_cases hql:q<got.w.length
            . have hwm:=getD_mem' hql
              have hkj:=hkg _ hwm
              have htk:=take_succD hql
              generalize hw':got.w.getD q default=w at *
              have h31:=c31 w hkj.1 hkj.2
              have m2d:(M6.set id AObj.dead)[M5.length]?=some (AObj.box [.int .i64 got.n,.view 4 (got.w.map WR.av),.int .i64 got.e]):=by rw [List.getElem?_set_ne hne];exact m2
              repeat' (first|(with_reducible apply St.o;constructor) <;> intro _|((with_reducible refine mkl_view ?_ ?_ ?_);(focus decide);(focus rfl))|(with_reducible first|refine ai ?_|(apply Sq.o;constructor))|((with_reducible apply Sc.o true;constructor);simp only [lP,seval,m1,m2,m2d,IdxR_wrs,hw',get_last,set_last,Int.toNat_natCast,List.length_map,List.length_append,List.length_take,List.length_cons,List.length_nil];refine ⟨_,h31,?_⟩;rintro _ _ ⟨rfl,rfl⟩;simp only [lA,lP,seval,m1,m2,m2d,IdxR_wrs,hw',get_last,set_last,Int.toNat_natCast,List.length_map,List.length_append,List.length_take,List.length_cons,List.length_nil])|with_reducible refine any_i [id] ?_|simp (disch:=omega) only [lE,seval,m1,m2,m2d,IdxR_wrs,hw',get_last,set_last,Int.toNat_natCast,List.length_map,List.length_append,List.length_take,List.length_cons,List.length_nil])
              all_goals try (exfalso;omega)
              all_goals (
               have hmin:min q got.w.length=q:=by omega
               have hset:∀ o o',(M6.set id AObj.dead++[o]).set M6.length o'=M6.set id AObj.dead++[o']:=fun o o'=>by
                rw [show M6.length=(M6.set id AObj.dead).length by simp];exact set_last
               have hgt:∀ o,(M6.set id AObj.dead++[o])[M6.length]?=some o:=fun o=>by
                rw [show M6.length=(M6.set id AObj.dead).length by simp];exact get_last
               have hne2:=at_lt m2
               have a9:=((a8.put rfl .dead).push (AObj.arr 66 4 ((r++(got.w.take (q+1)).map (mkV got.n)).map Ver.av))).weak (O':=fun i=>i=M6.length) fun i hi=>.inr (by simpa using hi)
               refine back_i (q+1,M6.length,M6.set id AObj.dead++[AObj.arr 66 4 ((r++(got.w.take (q+1)).map (mkV got.n)).map Ver.av)]) ⟨by simp only;omega,a9,by simp only;omega,hgt _,by simp only;rw [at_app _ _ _ (by simp;omega)];exact m2d⟩ (by simp only;omega) ?_
               refine Ent.trans (s':=⟨[(1,.view 6 (l.map CL.av)),(6,.op X 0),(7,.slc M6.length 4 (r.length+(q+1))),(8,.int .i64 i),(17,.op M5.length 0),(20,.int .i64 ((q+1:Nat):Int))],(M6.set id AObj.dead++[AObj.arr 66 4 (List.map Ver.av (r++List.map (mkV got.n) (List.take q got.w))++[AV.agg [.int .i64 (1+16 * w.tab+w.row),.int .i64 got.n,.bool w.dead,.raw (.slice none 0 0)]])]).set M6.length (.arr 66 4 ((r++(got.w.take (q+1)).map (mkV got.n)).map Ver.av))⟩) (Ent.weakArr (hgt _) ?_ ?_ ?_) (by rw [hset];exact Ent.fr (by simp [FrSub,Go.Al.get]))
               . have e5:List.map Ver.av (r++List.map (mkV got.n) (got.w.take q++[w]))=List.map Ver.av (r++List.map (mkV got.n) (got.w.take q))++[(mkV got.n w).av]:=by simp
                 rw [htk,e5]
                 refine weakL_app (.cons ?_ (.refl _))
                 exact WeakL.agg (.cons (.refl _) (.cons (.refl _) (.cons (.refl _) (.cons weak_nil (.refl _)))))
               . simp [htk]
               . simp [FrSub,Go.Al.get,hmin];try omega)
            . obtain rfl:q=got.w.length:=by omega
              rw [List.take_length] at m1
              have h32:=c32 (r++got.w.map (mkV got.n))
              have hgood:goodL (r++got.w.map (mkV got.n)):=by obtain ⟨_,_,_,h⟩:=hdn;exact h.good
              simp only [hgood,decide_true] at h32
              have hR:(r++got.w.map (mkV got.n)).length=r.length+got.w.length:=by simp
              rw [<- hR]
              generalize r++got.w.map (mkV got.n)=R at *
              repeat' (first|(with_reducible first|(apply St.o;constructor)<;>intro _|refine ai ?_|(apply Sq.o;constructor))|((with_reducible apply Sc.o true;constructor);simp only [lP,seval,m1,m2,vw_vers,List.length_map,Int.lt_irrefl,decide_false];refine ⟨_,h32,?_⟩;rintro _ _ ⟨rfl,rfl⟩;simp only [lA,lP,seval,m1,m2,vw_vers,List.length_map,Int.lt_irrefl,decide_false])|simp (disch:=omega) only [lE,seval,m1,m2,vw_vers,List.length_map,Int.lt_irrefl,decide_false])
              all_goals try (exfalso;omega)
              all_goals exact back_i (i+1,v,R,id,M6) ⟨by show i+1<=l.length;omega,a8,m1,hdn,ok2,iv2,by show v.last<=255+((i+1:Nat):Int);omega,by show R.length<=64 * (i+1);omega⟩ (by show l.length - (i+1)<l.length - i;omega) (Ent.fr (by simp [FrSub,Go.Al.get])))
 . obtain rfl:i=l.length:=by omega
   repeat' (first|(with_reducible first|(apply St.o;constructor)<;>intro _|refine ai ?_|(apply Sq.o;constructor))|((with_reducible apply Sc.o true;constructor);simp only [lP,seval,List.length_map,Int.lt_irrefl,decide_false];refine ⟨_,c12,?_⟩;rintro _ _ ⟨rfl,rfl⟩;simp only [lA,lP,seval,List.length_map,Int.lt_irrefl,decide_false])|simp (disch:=omega) only [lE,seval,List.length_map,Int.lt_irrefl,decide_false])
   all_goals try (exfalso;omega)
   exact keep_b rfl
end Go.Proofs.Try
namespace Go.Proofs.YtfhoeghdioofmaaGreat
open Go.Al Go.Proofs.Try
open Go.Proofs.Tryz
open Go.ChangeShapes Go.WideShapes Go.ChangeAt Go.RowKit
set_option maxRecDepth 100000 in
theorem lifted7 (os:Os) (started:os.Started) (H:Type) (enc:TypeId × Value->H) :
 ReturnsInHanded {} Tryz.checked os 7 .any (Rows.txnConflictsAreNewerSpec.pre6 enc Tryz.prog Tryz.f7 Rows.txnConflictsAreNewerRow.domain false) (Rows.txnConflictsAreNewerSpec.post enc Tryz.prog Tryz.f7 false true false false):=by
 refine returnsInHanded_of_change_sized (C:=Tryz.checked) own started (by kernel_rfl) Tryz.func7
  (ChangeSpec.witness6 (enc:=enc) (C:=Tryz.checked) false ⟨#[],#[.int .u8 0,.slice none 0 0],[]⟩ 8 (by kernel_rfl) (by kernel_rfl) (by kernel_rfl) (by kernel_rfl)) ?_
 intro W base args ds gs before hval hW _ hs _
 have hs:FitEach (Tryz.f7.params.toList++Rows.txnConflictsAreNewerSpec.plain.varTypes Tryz.prog) (ds++gs):=fun x hx=>of_decide_eq_true (List.all_eq_true.1 hs x hx)
 rw [Tryz.params7] at hs
 exact contract_ofM hE kids full (s:=Rows.txnConflictsAreNewerSpec) (tb:=4) (by rw [Tryz.params7];decide +kernel) (by rw [Tryz.params7];exact readsM_cons rv5.m (readsM_cons rw22 (readsM_nil)))
  rfl (by rw [Tryz.params7];rintro H (_ | ⟨d0,(_ | ⟨d1,(_ | ⟨dz,ds⟩)⟩)⟩) hl <;> simp at hl;exact ⟨rfl,rfl,rfl⟩) (by kernel_rfl) (by kernel_rfl) H enc W base args ds gs before (glob_ok _)
  (by rintro _ ⟨d0,_,a,_,rfl,ha,⟨d1,_,b,_,rfl,hb,⟨rfl,rfl⟩,rfl⟩,rfl⟩;exact c7 a b (u8_rng ha) (hb (fitEach_cons (fitEach_cons hs).2).1)) hval hW
theorem txnConflictsAreNewer_holds:Rows.TxnConflictsAreNewerSaid :=
 OpenClaim.holds_of_wide 7 Tryz.f7 rfl rfl rfl rfl rfl rfl rfl ⟨rfl,rfl,rfl,rfl,rfl⟩ rfl rfl rfl rfl rfl (by kernel_rfl) Tryz.func7 (by kernel_rfl)
  (of_decide_eq_true (by kernel_rfl)) (by unfold Func.isWrapper;first | (rw [if_pos (by decide +kernel)];kernel_rfl) | (rw [if_neg (by decide +kernel)];exact ⟨rfl,rfl⟩))
  (fun os started H enc _=>lifted7 os started H enc)
end Go.Proofs.YtfhoeghdioofmaaGreat
