/-
 For every stamp to begin with and at most 120 calls: of any two committed transactions that write the same row,the snapshot of one is at least the stamp of the other one.
-/
import Derived.Test.YtfhoeghdioofmaaGreatEll
import Derived.Test.YtfhoeghdioofmaaGreatEzz
import Derived.Test.YtfhoeghdioofmaaGreatEoo
import Derived.Test.YtfhoeghdioofmaaGreatReads
import Derived.Test.YtfhoeghdioofmaaGreatRows
set_option linter.unusedSimpArgs false
set_option linter.unusedVariables false
namespace Go.Proofs.Try
open Go.Proofs.Tryz
open Go.Al
set_option maxRecDepth 100000
abbrev q4_0:MI:=oZ 4
def mc4:MC:=(.seq (.ops [(none,q4_0)]) (.seq (.ops [pM 14 1,pV 15 10 14,pM 5 15]) (.seq (.ops [pM 16 0,pV 17 11 16,pM 6 17]) (.seq (.seq (.ops [pM 18 5,pN 19 18,pM 20 19,gF 20 (oM 21 6),(some (20,false),.v (.eq 22 false .ptr (.t 21) (.c (.raw (.pointer none))))),pO 23 20 22]) (.cond 23 (.seq (.ops [(none,.e (.call (some 24) 12 [])),pM 4 24]) .ret) .skip)) (.seq (.ops [pY 7]) (.seq (.seq (.ops [pI 8 0]) (.block 0 (.loop (.seq (.seq (.ops [pM 25 8,pM 26 1,pG 27 26,pB 28 25 27]) (.cond 28 .skip (.exit 0))) (.seq (.block 1 (.seq (.ops [pM 32 6,pM 33 1,pM 34 8,pQ 35 6 33 34,pF 36 1 35,pL 37 36,pW 38 18 32 37,pM 31 38,pX 39 0 31,pX 40 1 31,pM 9 39,pM 10 40]) (.seq (.ops [pM 41 6,pM 42 1,pM 43 8,pQ 44 6 42 43,pR 45 6 44,pW 46 13 41 45,(none,.e (.alloc 11 z4)),pS 3 11 46]) (.seq (.seq (.ops [pM 47 1,pM 48 8,pQ 49 6 47 48,pF 50 0 49,pL 51 50,pD 52 51 5,pM 53 52,gF 53 (oF 54 2 11),gF 53 (oL 55 54),gF 53 (oD 56 55 0),pO 57 53 56,pM 58 57,gF 58 (oF 59 0 11),gF 58 (oL 60 59),gF 58 (oE 61 60 0),pO 62 58 61]) (.cond 62 (.exit 1) .skip)) (.seq (.seq (.any false (.pure0 none (oM 63 10) (.pure0 none (oD 64 63 0) (.pure0 none (oM 65 64) (.pure0 (some (65,false)) (oF 66 1 11) (.pure0 (some (65,false)) (oL 67 66) (.pure0 (some (65,false)) (oG 68 67) (.pure0 (some (65,false)) (oE 69 68 0) (.pure0 none (oO 70 65 69) (.pure0 none (oM 71 70) (.pure0 (some (71,false)) (oF 72 0 11) (.pure0 (some (71,false)) (oL 73 72) (.pure0 (some (71,false)) (oM 74 6) (.alt (some (71,false)) (oV 75 17 74) (.base (.pure0 (some (71,false)) (.v (.bin 76 .neq false (.t 73) (.t 75))) (.pure0 none (oO 77 71 76) .done))) .stop)))))))))))))) (.cond 77 (.seq (.ops [(none,q4_0)]) .ret) .skip)) (.seq (.ops [pM 78 9,pF 79 0 11,pL 80 79,pF 81 1 11,pL 82 81,(none,.v (.build 83 z2 [(2,1,.t 78),(4,1,.t 80),(5,1,.t 82)])),(none,.e (.alloc 12 z2)),pS 8 12 83]) (.seq (.seq (.ops [pI 13 0]) (.block 2 (.loop (.seq (.seq (.ops [pM 84 13,pM 85 7,pG 86 85,pB 87 84 86]) (.cond 87 .skip (.exit 2))) (.seq (.block 3 (.seq (.any false (.pure0 none (oF 90 4 12) (.pure0 none (oL 91 90) (.pure0 none (oM 92 7) (.pure0 none (oM 93 13) (.pure0 none (oQ 94 8 92 93) (.pure0 none (oF 95 4 94) (.pure0 none (oL 96 95) (.pure0 none (.v (.bin 97 .leq false (.t 91) (.t 96))) (.pure0 none (oM 98 97) (.pure0 (some (98,false)) (oF 99 5 12) (.pure0 (some (98,false)) (oL 100 99) (.pure0 (some (98,false)) (oM 101 7) (.pure0 (some (98,false)) (oM 102 13) (.pure0 (some (98,false)) (oQ 103 8 101 102) (.pure0 (some (98,false)) (oF 104 5 103) (.pure0 (some (98,false)) (oL 105 104) (.alt (some (98,false)) (oW 106 19 100 105) (.base (.pure0 (some (98,false)) (oM 107 106) (.pure0 (some (107,true)) (oF 108 2 12) (.pure0 (some (107,true)) (oL 109 108) (.pure0 (some (107,true)) (oM 110 7) (.pure0 (some (107,true)) (oM 111 13) (.pure0 (some (107,true)) (oQ 112 8 110 111) (.pure0 (some (107,true)) (oF 113 4 112) (.pure0 (some (107,true)) (oL 114 113) (.pure0 (some (107,true)) (oB 115 109 114) (.pure0 (some (98,false)) (oP 116 107 115) (.pure0 none (oO 117 98 116) .done)))))))))))) .stop)))))))))))))))))) (.cond 117 (.seq (.ops [(none,q4_0)]) .ret) .skip))) (.ops [pM 88 13,pA 89 88 1,pM 13 89])))))) (.ops [pM 118 7,pR 119 8 12,(none,.e (.mkl 120 49 8 1 (.agg z2) [(0,.t 119)])),(none,.e (.app 121 49 8 112 (.t 118) (.t 120))),pM 7 121])))))))) (.ops [pM 29 8,pA 30 29 1,pM 8 30])))))) (.seq (.ops [(none,.e (.call (some 122) 12 [])),pM 4 122]) .ret)))))))
theorem ok4:FnOk E 4 123 [.tmp 4] mc4:=ofk func4
set_option maxRecDepth 20000
set_option maxHeartbeats 16000000
theorem few_len {l:List CL} (h:fewS l=true):l.length≤120∧∀ c ∈ l,c.vals.length≤20:=by
 simp only [fewS,Bool.and_eq_true,List.all_eq_true,decide_eq_true_eq] at h
 exact ⟨h.2,h.1⟩
abbrev nilSl:AV:=.raw (.slice none 0 0)
abbrev DN.cs (d:DN):List AV:=[.int .i64 0,.int .i64 0,.int .i64 d.snap,.bool false,.int .i64 d.stamp,.view 4 (d.w.map WR.av),nilSl,nilSl]
def DN.av (d:DN):AV:=.agg d.cs
theorem share_iff {a b:List WR}:shareB a b=true↔shareW a b:=by
 simp only [shareB,share1,shareW,List.any_eq_true,Bool.and_eq_true,decide_eq_true_eq]
theorem c17v (last:Int) (cs:List AV):ACalls E.P 17 [.vp (.int .i64 last::cs)] [] (fun r H=>r=.int .i64 last∧H=[]):=by
 refine ok17.acalls hE hm (by simp) fun N hN=>?_
 unfold mc17 pI pM pF pL
 simp only [lA,seval]
 repeat' (first|(with_reducible first|(apply St.o;constructor)<;>intro _|refine And.intro (by omega) ?_|(apply Sq.o;constructor))|((with_reducible refine keep0_i ?_);simp only [lP,seval])|simp (disch:=omega) only [lE,seval])
def snapN (o:Option TX):Int:=match o with | some t=>t.snap | none=>0
def snapE (o:Option TX):Int:=match o with | some _=>0 | none=>273
theorem snapT_eq (o:Option TX):snapT o=.tup [.int .i64 (snapN o),.int .i64 (snapE o)]:=by cases o <;> rfl
theorem TsF.last_box {X:Nat} {H:List AObj} {u:TS} {O:Nat→Prop} (h:TsF X H u O):∃ cs,H[X]?=some (.box (.int .i64 u.last::cs)):=by
 obtain ⟨s,h1,rfl,rfl,_⟩:=h
 exact ⟨_,h1.box⟩
theorem c4 (last:Int) (l:List CL):ACalls E.P 4 [.int .i64 last,.view 6 (l.map CL.av)] [] (fun r H=>r=.bool true∧H=[]):=by
 have hmax:=maxLen_eq
 have h10:=c10 l
 refine ok4.acalls hE hm (by simp) fun N hN=>?_
 unfold mc4 q4_0 z2 z4 pM pV pN pO pY pI pG pB pQ pF pL pW pX pR pS pD pA gF oM oL oF oE oD oB oZ oP oO oG oQ oV oW
 simp only [lA,seval]
 repeat' (first|(with_reducible first|(apply St.o;constructor)<;>intro _|refine And.intro (by omega) ?_|(apply Sq.o;constructor))|((with_reducible apply Sc.o true;constructor);simp only [lP,seval];refine ⟨_,h10,?_⟩;rintro _ _ ⟨rfl,rfl⟩;simp only [lA,lP,seval])|simp (disch:=omega) only [lE,seval])
 by_cases hl:okLast last
 rotate_left
 · refine callW_i (f11n hl _) ?_
   rintro _ _ ⟨rfl,rfl⟩
   cases hf:fewS l
   · repeat' (first|(with_reducible first|(apply St.o;constructor)<;>intro _|refine And.intro (by omega) ?_|(apply Sq.o;constructor))|((with_reducible apply Sc.o true;constructor);simp only [lP,seval,isNil,Go.Al.ptrEq,hf];refine ⟨_,c12,?_⟩;rintro _ _ ⟨rfl,rfl⟩;simp only [lA,lP,seval,isNil,Go.Al.ptrEq,hf])|simp (disch:=omega) only [lE,seval,isNil,Go.Al.ptrEq,hf])
     exact keep_b rfl
   · repeat' (first|(with_reducible first|(apply St.o;constructor)<;>intro _|refine And.intro (by omega) ?_|(apply Sq.o;constructor))|((with_reducible apply Sc.o true;constructor);simp only [lP,seval,isNil,Go.Al.ptrEq,hf];refine ⟨_,c12,?_⟩;rintro _ _ ⟨rfl,rfl⟩;simp only [lA,lP,seval,isNil,Go.Al.ptrEq,hf])|simp (disch:=omega) only [lE,seval,isNil,Go.Al.ptrEq,hf])
     exact keep_b rfl
 refine callW_i (f11s hl _ (fun _=>False) (fun _ h=>h.elim)) ?_
 rintro _ H0 ⟨X,rfl,a0,_⟩
 obtain ⟨cs0,b0⟩:=a0.box
 cases hf:fewS l
 · repeat' (first|(with_reducible first|(apply St.o;constructor)<;>intro _|refine And.intro (by omega) ?_|(apply Sq.o;constructor))|((with_reducible apply Sc.o true;constructor);simp only [lP,seval,b0,isNil,Go.Al.ptrEq,hf];refine ⟨_,c12,?_⟩;rintro _ _ ⟨rfl,rfl⟩;simp only [lA,lP,seval,b0,isNil,Go.Al.ptrEq,hf])|simp (disch:=omega) only [lE,seval,b0,isNil,Go.Al.ptrEq,hf])
   exact keep_b rfl
 repeat' (first|(with_reducible first|(apply St.o;constructor)<;>intro _|refine And.intro (by omega) ?_|(apply Sq.o;constructor))|simp (disch:=omega) only [lE,seval,b0,isNil,Go.Al.ptrEq,hf])
 obtain ⟨hlen,hvals⟩:=few_len hf
 refine loop_i (fun p:Nat × List DN × Nat × List AObj=>p.1≤l.length∧p.2.1.length≤p.1∧TsF X p.2.2.2 (runT (t0 last) (l.take p.1)) (fun i=>i=p.2.2.1)∧p.2.2.2[p.2.2.1]?=some (.arr 49 8 (p.2.1.map DN.av))∧∀ d ∈ p.2.1,Knows (runT (t0 last) (l.take p.1)) d)
  (fun p=>⟨[(1,.view 6 (l.map CL.av)),(6,.op X 0),(7,.slc p.2.2.1 8 p.2.1.length),(8,.int .i64 p.1)],p.2.2.2⟩) (fun p=>l.length - p.1) (0,[],H0.length,H0++[.arr 49 8 []])
  ⟨by simp,by simp,(a0.push _).weak fun i hi=>.inr hi,by simp,by simp⟩ (Ent.ghost' 7 49 8 (by omega) rfl (Ent.fr (by simp [FrSub,Go.Al.get]))) ?_
 rintro ⟨i,ds,id,H1⟩ ⟨hi,hdl,a1,hid,hkn⟩
 simp only at hi hdl a1 hid hkn ⊢
 by_cases hil:i<l.length
 · obtain ⟨ok1,iv1⟩:=run_ok hl (by omega) i hi
   have hnx:=runT_next (t0 last) hil
   have hcv:=hvals _ (getD_mem hil)
   generalize hc:l.getD i default=c at *
   generalize runT (t0 last) (l.take i)=u at *
   have hcs:c.cs=[.int .i64 c.kind,.int .i64 c.tx,.int .i64 c.a,.int .i64 c.b,.bool c.dead,rowV c.vals]:=rfl
   repeat' (first|(with_reducible first|(apply St.o;constructor)<;>intro _|refine And.intro (by omega) ?_|(apply Sq.o;constructor))|simp (disch:=omega) only [lE,seval,IdxR_cls,hc,hcs,Int.toNat_natCast,List.length_map])
   all_goals try (exfalso;omega)
   refine callW_i (f18 a1 c.tx) ?_
   rintro _ _ ⟨rfl,rfl⟩
   rw [snapT_eq]
   repeat' (first|(with_reducible first|(apply St.o;constructor)<;>intro _|refine And.intro (by omega) ?_|(apply Sq.o;constructor))|simp (disch:=omega) only [lE,seval,IdxR_cls,hc,cl_load,Int.toNat_natCast,List.length_map])
   all_goals try (exfalso;omega)
   rename_i H1' _
   refine callW_i (f13 a1 ok1 (by omega) c (by omega)) ?_
   rintro _ H2 ⟨rfl,a2,hk2⟩
   generalize hr:(doS u c).1=r at *
   obtain ⟨rn,rw',re⟩:=r
   repeat' (first|(with_reducible first|(apply St.o;constructor)<;>intro _|refine And.intro (by omega) ?_|(apply Sq.o;constructor))|simp (disch:=omega) only [lE,seval,IdxR_cls,hc,hcs,RS.av,RS.cs,get_last,set_last,setAll,setAt,Int.toNat_natCast,List.length_map])
   all_goals try (exfalso;omega)
   all_goals (
    have hkn':∀ d ∈ ds,Knows (doS u c).2 d:=fun d hd=>(hkn d hd).do iv1 ok1 c
    have hid2:=(hk2.2 id rfl).trans hid
    have hd5:c.kind=5→doS u c=commitS u c.tx:=fun e=>by unfold doS;simp [e]
    have hfact:c.kind=5→re=0→rn≠0→∃ t,getT u c.tx=some t∧rw'=lastW t.log∧t.log≠[]∧rn=u.last+1∧(doS u c).2.last=u.last+1∧Knows (doS u c).2 ⟨t.snap,u.last+1,lastW t.log⟩∧∀ d,Knows u d→d.stamp<u.last+1∧(shareW (lastW t.log) d.w→d.stamp≤t.snap):=fun e1 e2 e3=>by
     have h:=commit_facts ok1 iv1 (tx:=c.tx)
     rw [← hd5 e1,hr] at h
     exact h e2 e3
    generalize hv:(doS u c).2=v at *
    have a2':∀ o,TsF X (H2++[o]) v (fun i=>i=id):=fun o=>(a2.push o).weak fun _ h=>.inl h
    have hid3:∀ o,(H2++[o])[id]?=some (.arr 49 8 (ds.map DN.av)):=fun o=>by rw [at_app _ _ _ (at_lt hid2)];exact hid2)
   · exact back_i (i+1,ds,id,H2++[_]) ⟨by simp only;omega,by simp only;omega,by simp only;rw [hnx];exact a2' _,hid3 _,by simp only;rw [hnx];exact hkn'⟩ (by simp only;omega) (Ent.fr (by simp [FrSub,Go.Al.get]))
   · rename_i e1 e2 e3 _ _ e4
     obtain ⟨t,hg,hw,hl2,hn1,hvl,hkt,hall⟩:=hfact e1 e2 e3
     obtain ⟨csB,hB⟩:=a2.last_box
     have hB':∀ o,(H2++[o])[X]?=some (.box (.int .i64 v.last::csB)):=fun o=>by rw [at_app _ _ _ (at_lt hB)];exact hB
     refine acallN_i true ?_
     simp only [lP,seval,hB']
     refine ⟨_,c17v _ _,?_⟩
     rintro _ _ ⟨rfl,rfl⟩
     have hsn:snapN (getT u c.tx)=t.snap:=by rw [hg];rfl
     simp only [lA,lP,seval]
     have q0:∀ o o',(H2++[o]++[o'])[H2.length]?=some o:=fun o o'=>by rw [at_app _ _ _ (by simp)];exact get_last
     have q1:∀ o o',(H2++[o]++[o'])[H2.length+1]?=some o':=fun o o'=>by rw [show H2.length+1=(H2++[o]).length by simp];exact get_last
     have q2:∀ o o' o'',(H2++[o]++[o']).set (H2.length+1) o''=H2++[o]++[o'']:=fun o o' o''=>by rw [show H2.length+1=(H2++[o]).length by simp];exact set_last
     repeat' (first|(with_reducible first|(apply St.o;constructor)<;>intro _|refine And.intro (by omega) ?_|(apply Sq.o;constructor))|simp (disch:=omega) only [lE,seval,get_last,set_last,q0,q1,q2,hsn,setAll,setAt,Int.toNat_natCast,List.length_map,List.length_append,List.length_cons,List.length_nil])
     all_goals try (exfalso;omega)
     obtain ⟨H3,hH3⟩:∃ H3,H3=H2++[AObj.box [AV.int IntKind.i64 rn,AV.view 4 (List.map WR.av rw'),AV.int IntKind.i64 re]]++[AObj.box (DN.cs ⟨t.snap,rn,rw'⟩)]:=⟨_,rfl⟩
     have a3:TsF X H3 v (fun i=>i=id):=by rw [hH3];exact ((a2' _).push _).weak fun _ h=>.inl h
     have r0:H3[H2.length]?=some (AObj.box [AV.int IntKind.i64 rn,AV.view 4 (List.map WR.av rw'),AV.int IntKind.i64 re]):=by rw [hH3];exact q0 _ _
     have r1:H3[H2.length+1]?=some (AObj.box (DN.cs ⟨t.snap,rn,rw'⟩)):=by rw [hH3];exact q1 _ _
     have r2:H3[id]?=some (.arr 49 8 (ds.map DN.av)):=by rw [hH3,at_app _ _ _ (by have:=at_lt hid2;simp;omega)];exact hid3 _
     rw [← hH3]
     clear hH3 q0 q1 q2 hB'
     refine loop_i (fun k:Nat=>k≤ds.length) (fun k=>⟨[(1,.view 6 (l.map CL.av)),(6,.op X 0),(7,.slc id 8 ds.length),(8,.int .i64 i),(12,.op (H2.length+1) 0),(13,.int .i64 k)],H3⟩) (fun k=>ds.length - k) 0 (by omega) (Ent.fr (by simp [FrSub,Go.Al.get])) ?_
     rintro k hk
     by_cases hkl:k<ds.length
     · have hdm:=getD_mem hkl
       have hda:=hall _ (hkn _ hdm)
       have h19:=c19 rw' (ds.getD k default).w
       have hlt:((k:Int)<(ds.length:Int)):=by omega
       have hep:∀ {m N d c},epR E.P m N (some (.arr 49 8 (ds.map DN.av))) (k:Int) ds.length id 8 d c=rK E.P m N c d (.ep id 8 k 0):=epR_ne (by simp) (by omega) (by omega)
       have hdg:(ds.map DN.av)[k]?=some (ds.getD k default).av:=by simp [hkl]
       have hdav:(ds.getD k default).av=.agg (ds.getD k default).cs:=rfl
       generalize hd:ds.getD k default=d at *
       rw [← hw] at hda
       rw [← hn1] at hda
       repeat' (first|(with_reducible first|(apply St.o;constructor)<;>intro _|refine And.intro (by omega) ?_|(apply Sq.o;constructor))|((with_reducible apply Sc.o true;constructor);simp only [lP,seval,r1,r2,hep,hdg,hdav,hlt,Int.toNat_natCast,List.length_map,decide_true];refine ⟨_,h19,?_⟩;rintro _ _ ⟨rfl,rfl⟩;simp only [lA,lP,seval,r1,r2,hep,hdg,hdav,hlt,Int.toNat_natCast,List.length_map,decide_true])|simp (disch:=omega) only [lE,seval,r1,r2,hep,hdg,hdav,hlt,Int.toNat_natCast,List.length_map,decide_true])
       all_goals try (exfalso;omega)
       · exfalso;rename_i g1 g2 g3
         have:=hda.2 (share_iff.1 g2)
         omega
       · exact back_i (k+1) (by omega) (by omega) (Ent.fr (by simp [FrSub,Go.Al.get]))
       · exact back_i (k+1) (by omega) (by omega) (Ent.fr (by simp [FrSub,Go.Al.get]))
     · obtain rfl:k=ds.length:=by omega
       have r3:∀ o,(H3++[o])[id]?=some (.arr 49 8 (ds.map DN.av)):=fun o=>by rw [at_app _ _ _ (at_lt r2)];exact r2
       have htk:∀ xs:List AV,xs.length=ds.length→xs.take ds.length=xs:=fun xs h=>by rw [List.take_of_length_le (by omega)]
       repeat' (first|(with_reducible first|(apply St.o;constructor)<;>intro _|refine And.intro (by omega) ?_|(apply Sq.o;constructor))|simp (disch:=omega) only [lE,seval,r1,r2,r3,get_last,Int.lt_irrefl,decide_false,List.length_map])
       all_goals try (exfalso;omega)
       have hl3:=at_lt r2
       refine back_i (i+1,ds++[DN.mk t.snap rn rw'],H3.length+1,(H3++[AObj.arr 49 8 [DN.av (DN.mk t.snap rn rw')]]).set id .dead++[AObj.arr 49 8 (ds.map DN.av++[DN.av (DN.mk t.snap rn rw')])]) ⟨by simp only;omega,by simp;omega,?_,?_,?_⟩ (by simp only;omega) (Ent.fr ?_)
       · simp only;rw [hnx]
         have:=((a3.push (AObj.arr 49 8 [DN.av (DN.mk t.snap rn rw')])).put (.inl rfl) .dead).push (AObj.arr 49 8 (ds.map DN.av++[DN.av (DN.mk t.snap rn rw')]))
         refine this.weak fun j hj=>.inr ?_
         rw [hj];simp
       · simp only
         have:H3.length+1=((H3++[AObj.arr 49 8 [DN.av (DN.mk t.snap rn rw')]]).set id .dead).length:=by simp
         rw [this,List.map_append];exact get_last
       · simp only;rw [hnx]
         intro d hd
         rcases List.mem_append.1 hd with hd | hd
         · exact hkn' d hd
         · rw [List.mem_singleton.1 hd,hw,hn1];exact hkt
       · simp [FrSub,Go.Al.get]
   · exfalso;rename_i e1 e2 e3 _ _ e4
     obtain ⟨t,_,hw,hl2,_⟩:=hfact e1 e2 e3
     have hw0:rw'=[]:=List.eq_nil_of_length_eq_zero (by omega)
     rw [hw0] at hw
     obtain ⟨w,m,ht⟩:=List.exists_cons_of_ne_nil hl2
     obtain ⟨q,hq,_⟩:=(mem_lastW_key (log:=t.log) (k:=w.key)).2 ⟨w,by rw [ht];simp,rfl⟩
     rw [← hw] at hq;cases hq
   · exfalso;rename_i e1 e2 e3 e4
     obtain ⟨t,hg,_⟩:=hfact e1 e2 e3
     rw [hg] at e4;exact e4 rfl
   · exact back_i (i+1,ds,id,H2++[_]) ⟨by simp only;omega,by simp only;omega,by simp only;rw [hnx];exact a2' _,hid3 _,by simp only;rw [hnx];exact hkn'⟩ (by simp only;omega) (Ent.fr (by simp [FrSub,Go.Al.get]))
   · exact back_i (i+1,ds,id,H2++[_]) ⟨by simp only;omega,by simp only;omega,by simp only;rw [hnx];exact a2' _,hid3 _,by simp only;rw [hnx];exact hkn'⟩ (by simp only;omega) (Ent.fr (by simp [FrSub,Go.Al.get]))
 · obtain rfl:i=l.length:=by omega
   repeat' (first|(with_reducible first|(apply St.o;constructor)<;>intro _|refine And.intro (by omega) ?_|(apply Sq.o;constructor))|((with_reducible apply Sc.o true;constructor);simp only [lP,seval,List.length_map,Int.lt_irrefl,decide_false];refine ⟨_,c12,?_⟩;rintro _ _ ⟨rfl,rfl⟩;simp only [lA,lP,seval,List.length_map,Int.lt_irrefl,decide_false])|simp (disch:=omega) only [lE,seval,List.length_map,Int.lt_irrefl,decide_false])
   all_goals try (exfalso;omega)
   exact keep_b rfl
end Go.Proofs.Try
namespace Go.Proofs.YtfhoeghdioofmaaGreat
open Go.Al Go.Proofs.Try
open Go.Proofs.Tryz
open Go.ChangeShapes Go.WideShapes Go.ChangeAt Go.RowKit
set_option maxRecDepth 100000 in
theorem lifted4 (os:Os) (started:os.Started) (H:Type) (enc:TypeId × Value→H) :
 ReturnsInHanded {} Tryz.checked os 4 .any (Rows.txnFirstCommitterWinsSpec.pre6 enc Tryz.prog Tryz.f4 Rows.txnFirstCommitterWinsRow.domain false) (Rows.txnFirstCommitterWinsSpec.post enc Tryz.prog Tryz.f4 false true false false):=by
 refine returnsInHanded_of_change (C:=Tryz.checked) own started (by kernel_rfl) Tryz.func4
  (ChangeSpec.witness6 (enc:=enc) (C:=Tryz.checked) false ⟨#[],#[.int .i64 0,.slice none 0 0],[]⟩ 8 (by kernel_rfl) (by kernel_rfl) (by kernel_rfl) (by kernel_rfl)) ?_
 intro W base args ds gs before hval hW _ _
 exact contract_of hE kids full (s:=Rows.txnFirstCommitterWinsSpec) (tb:=4) (by rw [Tryz.params4];decide +kernel) (by rw [Tryz.params4];exact reads_cons rv3 (reads_cons rv22 (reads_nil))) (by rintro _ ⟨a,_,ha,⟨b,_,hb,rfl,rfl⟩,rfl⟩;exact c4 a b) rfl
  (by rw [Tryz.params4];rintro H (_ | ⟨d0,(_ | ⟨d1,(_ | ⟨dz,ds⟩)⟩)⟩) hl <;> simp at hl;exact ⟨rfl,rfl,rfl⟩) (by kernel_rfl) (by kernel_rfl) H enc W base args ds gs before (glob_ok _) hval hW
theorem txnFirstCommitterWins_holds:Rows.TxnFirstCommitterWinsSaid :=
 OpenClaim.holds_of_wide 4 Tryz.f4 rfl rfl rfl rfl rfl rfl rfl ⟨rfl,rfl,rfl,rfl,rfl⟩ rfl rfl rfl rfl rfl (by kernel_rfl) Tryz.func4 (by kernel_rfl)
  (of_decide_eq_true (by kernel_rfl)) (by unfold Func.isWrapper;first | (rw [if_pos (by decide +kernel)];kernel_rfl) | (rw [if_neg (by decide +kernel)];exact ⟨rfl,rfl⟩))
  (fun os started H enc _=>lifted4 os started H enc)
end Go.Proofs.YtfhoeghdioofmaaGreat
