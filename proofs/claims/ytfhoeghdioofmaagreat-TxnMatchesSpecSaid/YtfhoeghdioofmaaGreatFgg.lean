/-
 A part of the proof.
-/
import Derived.Test.YtfhoeghdioofmaaGreatFee
set_option linter.unusedSimpArgs false
set_option linter.unusedVariables false
namespace Go.Proofs.Try
open Go.Proofs.Tryz
open Go.Al
set_option maxRecDepth 100000
def mc33:MC:=(sO [pK 3 1,(none,.e (.alloc 4 z3))] (.seq (sO [pF 8 0 3,pL 9 8,pE 10 9 0] (.cond 10 (sO [pM 11 0,pF 12 2 3,pL 13 12,pW 14 81 11 13,pS 3 4 14] .ret) .skip)) (.seq (sO [pF 15 0 3,pL 16 15,pE 17 16 7] (.cond 17 (.seq (.seq (.any false (yO (oF 18 2 3) (yO (oL 19 18) (yO (oM 20 0) (yO (.v (.nil 21 (.t 20))) (yO (oF 22 1 21) (yO (oL 23 22) (yO (oB 24 19 23) (yO (oM 25 24) (.pure0 (some (25,false)) (oF 26 2 3) (.pure0 (some (25,false)) (oL 27 26) (.pure0 (some (25,false)) (oM 28 0) (.pure0 (some (25,false)) (.v (.nil 29 (.t 28))) (.pure0 (some (25,false)) (oF 30 0 29) (.pure0 (some (25,false)) (oL 31 30) (.pure0 (some (25,false)) (.v (.bin 32 .gtr false (.t 27) (.t 31))) (yO (oO 33 25 32) .done))))))))))))))))) (.cond 33 (sO [(none,.v (.build 34 z3 [(2,1,.c (.int .i64 1))])),pS 3 4 34] .ret) .skip)) (sO [pM 35 0,pF 36 2 3,pL 37 36,(none,.v (.nil 38 (.t 35))),pF 39 1 38,(none,.e (.store 1 false (.t 39) (.t 37)))] (sO [pM 40 0,pV 41 82 40] (sO [(none,.v (.build 42 z3 [])),pS 3 4 42] .ret)))) .skip)) (sO [pM 43 0,pF 44 1 3,pL 45 44,pW 46 83 43 45,pM 5 46] (.seq (sO [pM 47 5,(none,.v (.bin 48 .lss false (.t 47) (.c (.int .i64 0))))] (.cond 48 (sO [(none,.v (.build 49 z3 [(2,1,.c (.int .i64 273))])),pS 3 4 49] .ret) .skip)) (sO [pM 50 0,(none,.v (.nil 51 (.t 50))),pF 52 4 51,pL 53 52,pM 54 5,pQ 55 8 53 54,pR 56 8 55,(none,.e (.alloc 6 z1)),pS 8 6 56] (sO [pI 7 0] (.seq (sO [pF 57 0 3,pL 58 57] (.block 0 (sO [pE 66 58 1,pM 65 66] (.cond 65 (.ops [pR 68 8 6,pF 69 2 3,pL 70 69,pF 71 3 3,pL 72 71,(none,.e (.call (some 73) 84 [.t 68,.t 70,.t 72])),pM 67 73,pX 74 0 67,pX 75 1 67,pS 8 6 74,pM 7 75]) (sO [pE 77 58 2,pM 76 77] (.cond 76 (.ops [pR 79 8 6,pF 80 2 3,pL 81 80,pF 82 3 3,pL 83 82,pF 84 4 3,pL 85 84,pF 86 5 3,pL 87 86,(none,.v (.build 88 z2 [(0,1,.t 81),(1,1,.t 83),(2,1,.t 85),(3,1,.t 87)])),pW 89 85 79 88,pM 78 89,pX 90 0 78,pX 91 1 78,pS 8 6 90,pM 7 91]) (sO [pE 93 58 3,pM 92 93] (.cond 92 (sO [pF 94 5 6,pL 95 94,pG 96 95,(none,.v (.build 97 z3 [(0,1,.t 96)])),pS 3 4 97] .ret) (sO [pE 99 58 4,pM 98 99] (.cond 98 (.seq (sO [pF 100 2 3,pL 101 100,(none,.v (.bin 102 .lss false (.t 101) (.c (.int .i64 0)))),pM 103 102,gF 103 (oF 104 2 3),gF 103 (oL 105 104),gF 103 (oF 106 5 6),gF 103 (oL 107 106),gF 103 (oG 108 107),(some (103,false),.v (.bin 109 .gtr false (.t 105) (.t 108))),pO 110 103 109] (.cond 110 (sO [(none,.v (.build 111 z3 [(2,1,.c (.int .i64 1))])),pS 3 4 111] .ret) .skip)) (.ops [(none,.e (.mkl 112 59 4 0 (.agg z2) [])),pF 113 5 6,pL 114 113,pF 115 2 3,pL 116 115,(none,.p (.pre 117 4 (.t 114) (some (.t 116)))),(none,.e (.app 118 59 4 48 (.t 112) (.t 117))),pF 119 5 6,(none,.e (.store 1 false (.t 119) (.t 118)))])) (sO [pE 121 58 5,pM 120 121] (.cond 120 (sO [pM 122 0,pM 123 5,pW 124 86 122 123,pS 3 4 124] .ret) (sO [pM 59 0,pM 60 5,pW 61 87 59 60] (sO [pM 62 0,pV 63 82 62] (sO [(none,.v (.build 64 z3 [])),pS 3 4 64] .ret))))))))))))))) (.seq (.any true (yO (oM 125 0) (yO (.v (.nil 126 (.t 125))) (yO (oF 127 4 126) (yO (oL 128 127) (yO (oM 129 5) (yO (oR 130 8 6) (yO (oQ 131 8 128 129) (yA (oS 8 131 130) .done .stop))))))))) (sO [pM 132 7,(none,.v (.build 133 z3 [(2,1,.t 132)])),pS 3 4 133] .ret))))))))))
theorem ok33:FnOk E 33 134 [.cell 4 30] mc33:=ofk func33
set_option maxHeartbeats 16000000
theorem zok {N:Nat} {z:ZR} {H:List AObj} (hz:z.At H) (hok:OkS N z.u) (hiv:IvS z.u):ZOk z:=by
 have hkl:z.kp.length=z.u.kept.length:=by rw [<- hz.eq,List.length_map]
 have hm:∀ p ∈ z.kp++z.u.act,p.2 ∈ allS z.u:=fun p hp=>by
  rcases List.mem_append.1 hp with hp | hp
  . exact mem_allS.2 (.inl (by rw [<- hz.eq];exact List.mem_map.2 ⟨p,hp,rfl⟩))
  . exact mem_allS.2 (.inr ⟨p,hp,rfl⟩)
 refine ⟨by have:=hok.cnt;omega,fun t ht=>?_,fun p hp=>?_,fun p hp w hw=>?_⟩
 . obtain ⟨_,h1,h2⟩:=hiv.kept t ht;have h3:=(hiv.tx t (mem_allS.2 (.inl ht))).snap;by_cases e:t.log=[]
   . rw [h1 e];omega
   . have:=h2 e;omega
 . obtain ⟨h1,h2⟩:=hok.tx _ (hm p hp);have:=h1.len;have:=h1.rlen;exact ⟨by omega,by omega⟩
 . obtain ⟨h1,h2⟩:=hok.tx _ (hm p hp);have:=h1.log w hw;omega
theorem adm_nn (h:List Acc) (i:Int):0<=(admitS h i).1:=by
 have hs:∀ n,0<=stampS h n:=fun n=>by
  unfold stampS;have:=lastS_nn (h:=h);split <;> omega
 unfold admitS;split
 . simp
 split
 . simp
 . unfold admitN;split
   . simp
   split
   . simp
   split
   . simp
   . exact hs _
theorem flz_wr (x:WR):∀ (γ:Gm) (σ:Sg) v,RepV γ σ x.av v->RepV γ [] x.av v:=flatA_agg (flatA_cons (fun _ _ _ h=>h) (flatA_cons (fun _ _ _ h=>h) (flatA_cons (fun _ _ _ h=>h) (flatA_cons (fun γ σ v h=>by unfold rowV at *;unfold RepV at *;exact h) flatA_nil))))
theorem place_at {u:TS} {tx:Int} {t:TX} {l1 l2:List (Int × TX)} (ha:u.act=l1++(tx,t)::l2) (h1:∀ p ∈ l1,p.1≠tx):placeZ u tx=l1.length:=by
 refine place_hit (by rw [ha];simp) (by rw [ha];simp) fun j hj=>?_
 have e:u.act.getD j default=l1.getD j default:=by
  rw [ha];simp [List.getElem?_append_left hj]
 rw [e];exact h1 _ (getD_mem' hj)
theorem st_ag {P:Program} {m:Nat} {N:FN} {xs bs vs:List AV} {id sz n c:Nat} {v:AV} {E':TypeId} {fr:List (Nat × AV)} {H:List AObj} {q:Ke} (hx:xs[n]?=some (.agg bs)) (hl:vs.length=bs.length) (hc:c=bs.length) :
 stE P m N (some (.arr E' sz xs)) c vs v id sz n 0 fr H q=rE P m N q fr (H.set id (.arr E' sz (xs.set n (.agg vs)))):=by
 subst hc;have e:setAt bs 0 vs=vs:=by simp [setAt,hl]
 unfold stE;simp only [hx];rw [e];simp only [hl,Nat.zero_add,Nat.le_refl,true_and]
theorem c33 {N M:Nat} {z:ZR} {H:List AObj} (hz:z.At H) (hok:OkS N z.u) (hiv:IvS z.u) (hrp:RP M z.u) (hN:N<1000) (hM:M<1000) (c:CL) (hv:c.vals.length<=1048576) :
 ACalls E.P 33 [.op z.S 0,c.av] H (fun r H'=>r=(doS z.u c).1.av/\∃ z',ZUpd z z' H H'/\z'.u=(doS z.u c).2):=by
 have hmax:=maxLen_eq;have hzo:=zok hz hok hiv;have hcnt:=hzo.cnt;have hlt:=hz.lt;have hb:=hz.box;have ha:=hz.act;have hnd:=hz.nd;unfold ZR.cells at hb;obtain ⟨H1,hH1⟩:∃ H1,H1=H++[AObj.box [.int .i64 c.kind,.int .i64 c.tx,.int .i64 c.a,.int .i64 c.b,.bool c.dead,rowV c.vals]]++[AObj.box [.int .i64 0,.raw (.slice none 0 0),.int .i64 0]]:=⟨_,rfl⟩;have hx1:Ext H H1:=by rw [hH1,List.append_assoc];exact Stay.app _ _ _
 have hl1:H1.length=H.length+2:=by rw [hH1];simp
 have g0:H1[H.length]?=some (.box [.int .i64 c.kind,.int .i64 c.tx,.int .i64 c.a,.int .i64 c.b,.bool c.dead,rowV c.vals]):=by rw [hH1];simp
 have g1:H1[H.length+1]?=some (.box [.int .i64 0,.raw (.slice none 0 0),.int .i64 0]):=by rw [hH1];simp
 have hz1:=hz.ext hx1;have hb1:=hz1.box;unfold ZR.cells at hb1;have hup0:=ZUpd.refl hz hx1;have hno:∀ i,i=H.length\/i=H.length+1->¬ z.Own i:=fun i hi h=>by rcases h with h | h | h <;> omega
 have hcon:∀ {z':ZR} {H2:List AObj},ZUpd z z' H1 H2->(∀ i,i=H.length\/i=H.length+1->¬ z'.Own i)/\H2[H.length]?=some (.box [.int .i64 c.kind,.int .i64 c.tx,.int .i64 c.a,.int .i64 c.b,.bool c.dead,rowV c.vals])/\H2[H.length+1]?=some (.box [.int .i64 0,.raw (.slice none 0 0),.int .i64 0])/\∀ o,ZUpd z z' H (H2.set (H.length+1) o):=fun {z' H2} hu=>by
  have hn:∀ i,i=H.length\/i=H.length+1->¬ z'.Own i:=fun i hi h=>by
   rcases hu.own i h with h | h
   . exact hno i hi h
   . omega
  exact ⟨hn,hu.stay.at g0 (hno _ (.inl rfl)),hu.stay.at g1 (hno _ (.inr rfl)),fun o=>(hup0.trans hu).res (by omega) (hn _ (.inr rfl)) o⟩
 have hcc:c.cs=[.int .i64 c.kind,.int .i64 c.tx,.int .i64 c.a,.int .i64 c.b,.bool c.dead,rowV c.vals]:=rfl;have q1:∀ (X:List AObj) o,H.length+1<X.length->(X.set (H.length+1) o)[H.length+1]?=some o:=fun X o h=>at_same _ _ _ h;have hn1:∀ x:AObj,(H++[x]).length=H.length+1:=fun x=>by simp
 refine ACalls.weakR ?_;simp only [CL.av,hcc];by_cases k0:c.kind=0
 . have hd:doS z.u c=beginS z.u c.a:=by unfold doS;rw [if_pos k0]
   have dk:decide (c.kind=0)=true:=decide_eq_true k0;rw [hd];refine zk0 ok33 fun N' hN'=>?_;unfold mc33 z1 z2 z3 pK pF pL pE pM pW pS pV pQ pR pI pX pG pO gF oM oL oR oF oB oO oS oG oQ sO yO yA;simp only [lA,seval];rw [<- hH1];repeat' (first|(with_reducible first|(apply zS;constructor)<;>intro _|refine ai ?_|(apply zQ;constructor))|simp (disch:=omega) only [lE,seval,hn1,g0,dk])
   all_goals try omega
   refine callW_i (c81 hz1 c.a hzo.st hcnt ⟨hok.b0,by have:=hok.bN;omega⟩) ?_;rintro _ H2 ⟨rfl,z2,hu2,hz2⟩;obtain ⟨hn,p0,p1,hfin⟩:=hcon hu2;have p2:=fun o=>q1 H2 o (at_lt p1);repeat' (first|(with_reducible first|(apply zS;constructor)<;>intro _|refine ai ?_|(apply zQ;constructor))|simp (disch:=omega) only [lE,seval,hn1,RS.av,RS.cs,p1,p2,setAll,setAt,ti30])
   all_goals try omega
   exact ⟨_,.refl _,rfl,z2,hfin _,hz2⟩
 have d0:decide (c.kind=0)=false:=decide_eq_false k0;by_cases k7:c.kind=7
 . have hd:doS z.u c=(⟨0,[],(publishS z.u c.a).1⟩,(publishS z.u c.a).2):=by
    unfold doS;simp only [k7];rfl
   have dk:decide (c.kind=7)=true:=decide_eq_true k7;rw [hd];have p2:=fun o=>q1 H1 o (by omega);have hlt1:=hz1.lt;have s1:∀ o,(H1.set z.S o)[H.length+1]?=H1[H.length+1]?:=fun o=>zN;by_cases hbd:c.a<z.u.shown\/z.u.last<c.a
   . have hp:publishS z.u c.a=(1,z.u):=(by unfold publishS;rw [if_pos hbd]);rw [hp];refine zk0 ok33 fun N' hN'=>?_;unfold mc33 z1 z2 z3 pK pF pL pE pM pW pS pV pQ pR pI pX pG pO gF oM oL oR oF oB oO oS oG oQ sO yO yA;simp only [lA,seval];rw [<- hH1];repeat' (first|(with_reducible first|(apply zS;constructor)<;>intro _|refine ai ?_|(apply zQ;constructor))|simp (disch:=omega) only [lE,seval,hn1,g0,g1,hb1,d0,dk,p2,setAll,setAt,ti30])
     all_goals try omega
     all_goals exact ⟨_,weak_rs _ _,rfl,z,hup0.res (by omega) (hno _ (.inr rfl)) _,rfl⟩
   . have hp:publishS z.u c.a=(0,forgetS { z.u with shown:=c.a }):=by unfold publishS;rw [if_neg hbd]
     rw [hp];refine zk0 ok33 fun N' hN'=>?_;unfold mc33 z1 z2 z3 pK pF pL pE pM pW pS pV pQ pR pI pX pG pO gF oM oL oR oF oB oO oS oG oQ sO yO yA;simp only [lA,seval];rw [<- hH1];repeat' (first|(with_reducible first|(apply zS;constructor)<;>intro _|refine ai ?_|(apply zQ;constructor))|simp (disch:=omega) only [lE,seval,hn1,g0,g1,hb1,d0,dk,setAll,setAt,ti30])
     all_goals try omega
     have hup2:ZUpd z ⟨z.S,z.K,z.A,{ z.u with shown:=c.a },z.kp⟩ H1 (H1.set z.S (.box [.int .i64 z.u.last,.int .i64 c.a,.int .i64 z.u.begun,.slc z.K 8 z.kp.length,.slc z.A 8 z.u.act.length])):=by
      refine ⟨⟨at_same _ _ _ hlt1.1,?_,?_,hnd,hz.eq⟩,rfl,Stay.set (.inl rfl),fun i h=>.inl h⟩
      . simp only;rw [at_set _ _ _ _ hnd.1];exact hz1.kept
      . simp only;rw [at_set _ _ _ _ hnd.2.1];exact hz1.act
     generalize H1.set z.S (.box [.int .i64 z.u.last,.int .i64 c.a,.int .i64 z.u.begun,.slc z.K 8 z.kp.length,.slc z.A 8 z.u.act.length])=M at *;refine callW_i (c82 (z:=⟨z.S,z.K,z.A,{ z.u with shown:=c.a },z.kp⟩) hup2.at' hzo.st (by simp only;omega)) ?_
     rintro _ M2 ⟨z3,hu3,hz3⟩;obtain ⟨hn,p0,p1,hfin⟩:=hcon (hup2.trans hu3);have p2:=fun o=>q1 M2 o (at_lt p1);repeat' (first|(with_reducible first|(apply zS;constructor)<;>intro _|refine ai ?_|(apply zQ;constructor))|simp (disch:=omega) only [lE,seval,hn1,p1,p2,setAll,setAt,ti30])
     all_goals try omega
     exact ⟨_,weak_rs _ _,rfl,z3,hfin _,hz3⟩
 have d7:decide (c.kind=7)=false:=decide_eq_false k7;have h83:=c83 hz1 c.tx (by omega)
 cases hg:getT z.u c.tx with
 | none =>
   have hp:=place_miss (get_none hg);rw [hp] at h83
   have hd:doS z.u c=(⟨0,[],273⟩,z.u):=by
    unfold doS readS writeS backS commitS abortS saveT;rw [hg];simp only [k0,k7,if_false];split <;> (try rfl) <;> split <;> (try rfl) <;> split <;> (try rfl) <;> split <;> (try rfl) <;> split <;> rfl
   rw [hd];have p2:=fun o=>q1 H1 o (by omega);refine zk0 ok33 fun N' hN'=>?_;unfold mc33 z1 z2 z3 pK pF pL pE pM pW pS pV pQ pR pI pX pG pO gF oM oL oR oF oB oO oS oG oQ sO yO yA;simp only [lA,seval];rw [<- hH1];repeat' (first|(with_reducible first|(apply zS;constructor)<;>intro _|refine ai ?_|(apply zQ;constructor))|simp (disch:=omega) only [lE,seval,hn1,g0,g1,d0,d7])
   all_goals try omega
   refine callW_i h83 ?_;rintro _ _ ⟨rfl,rfl⟩;repeat' (first|(with_reducible first|(apply zS;constructor)<;>intro _|refine ai ?_|(apply zQ;constructor))|simp (disch:=omega) only [lE,seval,hn1,g0,g1,p2,setAll,setAt,ti30])
   all_goals try omega
   all_goals exact ⟨_,weak_rs _ _,rfl,z,hup0.res (by omega) (hno _ (.inr rfl)) _,rfl⟩
 | some t =>
   obtain ⟨l1,l2,hact,hl1n,hidx,hset,hdel⟩:=act_place hiv.keys hg;have hp:=place_at hact hl1n;rw [hp] at h83;have hal:l1.length<z.u.act.length:=by rw [hact];simp
   have hgk:z.u.act.getD l1.length default=(c.tx,t):=by rw [hact];simp
   have hdg:=atZ hal;rw [hgk] at hdg;have hep:=fun {m N d c}=>epZ (P:=E.P) (m:=m) (N:=N) (d:=d) (c:=c) (id:=z.A) (q:=z.u.act.length) rfl hal;have hux:(uxOf (c.tx,t).1 (c.tx,t).2).cs=[.int .i64 c.tx,.int .i64 t.mode,.int .i64 t.snap,.bool t.done,.int .i64 t.stamp,.view 4 (t.log.map WR.av),.view 1 ((t.rows.map itemI).map (AV.int .i64)),.view 1 (t.whole.map (AV.int .i64))]:=rfl;have htok:=(hok.tx t (getT_mem hg)).1;have htl:=(hok.tx t (getT_mem hg)).2;have htx:=hiv.tx t (getT_mem hg);have htr:=hrp t (getT_mem hg);have ha1:=hz1.act;have hlt1:=hz1.lt;have r0:∀ x,(H1++[x])[z.S]?=H1[z.S]?:=fun x=>at_app _ _ _ hlt1.1;have rA:∀ x,(H1++[x])[z.A]?=H1[z.A]?:=fun x=>at_app _ _ _ hlt1.2.2;have rc:∀ x,(H1++[x])[H.length]?=H1[H.length]?:=fun x=>at_app _ _ _ (by omega);have r1:∀ x,(H1++[x])[H.length+1]?=H1[H.length+1]?:=fun x=>at_app _ _ _ (by omega);have hS:∀ x,((H1++[x]).set z.A .dead)[z.S]?=H1[z.S]?:=fun x=>by rw [at_set _ _ _ _ (Ne.symm hnd.2.1)];exact r0 x
   have hT:∀ x,((H1++[x]).set z.A .dead)[H1.length]?=some x:=fun x=>by rw [zN];exact get_last
   have p2:∀ x o,((H1++[x]).set (H.length+1) o)[H.length+1]?=some o:=fun x o=>q1 _ _ (by simp;omega);have s1:∀ x o,((H1++[x]).set z.A o)[H.length+1]?=H1[H.length+1]?:=fun x o=>by rw [zN];exact r1 x
   have p3:∀ x o o',(((H1++[x]).set z.A o).set (H.length+1) o')[H.length+1]?=some o':=fun x o o'=>q1 _ _ (by simp;omega);have hupx:∀ x,ZUpd z z H (H1++[x]):=fun x=>hup0.trans (ZUpd.refl hz1 (Stay.app _ _ _));have hxz:∀ x,Ext H1 (H1++[x]):=fun x=>Stay.app _ _ _
   have hstm:∀ (t':TX) {X:List AObj},ZUpd z z H X->ZUpd z ⟨z.S,z.K,z.A,{ z.u with act:=l1++(c.tx,t')::l2 },z.kp⟩ H (X.set z.A (.arr 49 8 (((z.u.act.map uxP).map UX.av).set l1.length (uxP (c.tx,t')).av))):=fun t' X hX=>by
    have e:((z.u.act.map uxP).map UX.av).set l1.length (uxP (c.tx,t')).av=((l1++(c.tx,t')::l2).map uxP).map UX.av:=by
     rw [hact];simp
    rw [e];have hlX:=hX.at'.lt;refine ⟨⟨?_,?_,at_same _ _ _ hlX.2.2,hnd,hz.eq⟩,rfl,hX.stay.trans (O':=fun i=>i=z.A) (Stay.set rfl) fun i _ h=>.inr (.inr h),fun i h=>.inl h⟩
    . have h1:=hX.at'.box;have e2:(l1++(c.tx,t')::l2).length=z.u.act.length:=(by rw [hact];simp);simp only [ZR.cells,e2] at h1 ⊢;rw [at_set _ _ _ _ (Ne.symm hnd.2.1)];exact h1
    . simp only;rw [at_set _ _ _ _ (Ne.symm hnd.2.2)];exact hX.at'.kept
   have hnA:∀ (t':TX) i,i=H.length\/i=H.length+1->¬ ZR.Own ⟨z.S,z.K,z.A,{ z.u with act:=l1++(c.tx,t')::l2 },z.kp⟩ i:=fun t' i hi h=>hno i hi h
   have hself:({ z.u with act:=l1++(c.tx,t)::l2 }:TS)=z.u:=by rw [<- hact]
   by_cases k1:c.kind=1
   . have hr:readS z.u c.tx c.a c.b=((readZ t c.a c.b).1,{ z.u with act:=l1++(c.tx,(readZ t c.a c.b).2)::l2 }):=by
      unfold readS readZ;rw [hg];simp only;by_cases hbd:c.a<0\/256<=c.a\/c.b<0\/1073741824<c.b
      . rw [if_pos hbd,if_pos hbd,hself]
      . rw [if_neg hbd,if_neg hbd,hset]
     have hd:doS z.u c=(⟨0,[],(readZ t c.a c.b).1⟩,{ z.u with act:=l1++(c.tx,(readZ t c.a c.b).2)::l2 }):=by
      unfold doS;rw [if_neg k0,if_pos k1,hr]
     have dk:decide (c.kind=1)=true:=decide_eq_true k1;have h84:=c84 c.tx t c.a c.b htok ⟨htr.1,by have:=htr.2;omega⟩;rw [hd];generalize readZ t c.a c.b=rz at *;obtain ⟨e,t'⟩:=rz;simp only at h84 ⊢;rw [ux_av',ux_av',ux_of] at h84;have hux':(uxOf c.tx t').cs=[.int .i64 c.tx,.int .i64 t'.mode,.int .i64 t'.snap,.bool t'.done,.int .i64 t'.stamp,.view 4 (t'.log.map WR.av),.view 1 ((t'.rows.map itemI).map (AV.int .i64)),.view 1 (t'.whole.map (AV.int .i64))]:=rfl;rw [hux'] at h84;have hse:∀ {N0:FN} {v:AV} {fr:List (Nat × AV)} {L:List AObj} {q:Ke},stE E.P H.length N0 (some (.arr 49 8 ((z.u.act.map uxP).map UX.av))) 8 [.int .i64 c.tx,.int .i64 t'.mode,.int .i64 t'.snap,.bool t'.done,.int .i64 t'.stamp,.view 4 (t'.log.map WR.av),.view 1 ((t'.rows.map itemI).map (AV.int .i64)),.view 1 (t'.whole.map (AV.int .i64))] v z.A 8 l1.length 0 fr L q=rE E.P H.length N0 q fr (L.set z.A (.arr 49 8 (((z.u.act.map uxP).map UX.av).set l1.length (uxP (c.tx,t')).av))):=fun {N0 v fr L q}=>st_ag hdg rfl rfl;refine zk0 ok33 fun N' hN'=>?_;unfold mc33 z1 z2 z3 pK pF pL pE pM pW pS pV pQ pR pI pX pG pO gF oM oL oR oF oB oO oS oG oQ sO yO yA;simp only [lA,seval];rw [<- hH1];repeat' (first|(with_reducible first|(apply zS;constructor)<;>intro _|refine ai ?_|(apply zQ;constructor))|simp (disch:=omega) only [lE,seval,hn1,g0,g1,d0,d7])
     all_goals try omega
     refine callW_i h83 ?_;rintro _ H1 ⟨rfl,rfl⟩;repeat' (first|(with_reducible first|(apply zS;constructor)<;>intro _|refine ai ?_|(apply zQ;constructor))|((with_reducible apply zF;constructor);simp only [lP,seval,hn1,hb1,ha1,hep,hdg,hux,dk,g0,g1,r0,rA,rc,r1,hS,hT,p2,s1,p3,hse,fillE,get_last,set_last,Int.toNat_natCast,setAll,setAt,ti30];refine ⟨_,h84,?_⟩;rintro _ _ ⟨rfl,rfl⟩;simp only [lA,lP,seval,hn1,hb1,ha1,hep,hdg,hux,dk,g0,g1,r0,rA,rc,r1,hS,hT,p2,s1,p3,hse,fillE,get_last,set_last,setAll,setAt,ti30])|with_reducible refine any_i [z.A] ?_|simp (disch:=omega) only [lE,seval,hn1,hb1,ha1,hep,hdg,hux,dk,g0,g1,r0,rA,rc,r1,hS,hT,p2,s1,p3,hse,fillE,get_last,set_last,setAll,setAt,ti30])
     all_goals try omega
     exact ⟨_,weak_rs _ _,rfl,_,(hstm t' (hupx _)).res (by omega) (hnA _ _ (.inr rfl)) _,rfl⟩
   have d1:decide (c.kind=1)=false:=decide_eq_false k1;by_cases k2:c.kind=2
   . have hr:writeS z.u c.tx ⟨c.a,c.b,c.dead,c.vals⟩=((writeZ t ⟨c.a,c.b,c.dead,c.vals⟩).1,{ z.u with act:=l1++(c.tx,(writeZ t ⟨c.a,c.b,c.dead,c.vals⟩).2)::l2 }):=by
      unfold writeS writeZ;rw [hg];simp only;split
      . rw [hself]
      split
      . rw [hself]
      split
      . rw [hself]
      . rw [hset]
     have hd:doS z.u c=(⟨0,[],(writeZ t ⟨c.a,c.b,c.dead,c.vals⟩).1⟩,{ z.u with act:=l1++(c.tx,(writeZ t ⟨c.a,c.b,c.dead,c.vals⟩).2)::l2 }):=by
      unfold doS;rw [if_neg k0,if_neg k1,if_pos k2,hr]
     have dk:decide (c.kind=2)=true:=decide_eq_true k2;have h85:=c85 c.tx t ⟨c.a,c.b,c.dead,c.vals⟩ htok htx.wlen hv;rw [hd];generalize writeZ t ⟨c.a,c.b,c.dead,c.vals⟩=rz at *;obtain ⟨e,t'⟩:=rz;simp only at h85 ⊢;rw [ux_av',ux_av',ux_of] at h85;have hwa:WR.av ⟨c.a,c.b,c.dead,c.vals⟩=.agg [.int .i64 c.a,.int .i64 c.b,.bool c.dead,rowV c.vals]:=rfl;rw [hwa] at h85;have hux':(uxOf c.tx t').cs=[.int .i64 c.tx,.int .i64 t'.mode,.int .i64 t'.snap,.bool t'.done,.int .i64 t'.stamp,.view 4 (t'.log.map WR.av),.view 1 ((t'.rows.map itemI).map (AV.int .i64)),.view 1 (t'.whole.map (AV.int .i64))]:=rfl;rw [hux'] at h85;have hse:∀ {N0:FN} {v:AV} {fr:List (Nat × AV)} {L:List AObj} {q:Ke},stE E.P H.length N0 (some (.arr 49 8 ((z.u.act.map uxP).map UX.av))) 8 [.int .i64 c.tx,.int .i64 t'.mode,.int .i64 t'.snap,.bool t'.done,.int .i64 t'.stamp,.view 4 (t'.log.map WR.av),.view 1 ((t'.rows.map itemI).map (AV.int .i64)),.view 1 (t'.whole.map (AV.int .i64))] v z.A 8 l1.length 0 fr L q=rE E.P H.length N0 q fr (L.set z.A (.arr 49 8 (((z.u.act.map uxP).map UX.av).set l1.length (uxP (c.tx,t')).av))):=fun {N0 v fr L q}=>st_ag hdg rfl rfl;refine zk0 ok33 fun N' hN'=>?_;unfold mc33 z1 z2 z3 pK pF pL pE pM pW pS pV pQ pR pI pX pG pO gF oM oL oR oF oB oO oS oG oQ sO yO yA;simp only [lA,seval];rw [<- hH1];repeat' (first|(with_reducible first|(apply zS;constructor)<;>intro _|refine ai ?_|(apply zQ;constructor))|simp (disch:=omega) only [lE,seval,hn1,g0,g1,d0,d7])
     all_goals try omega
     refine callW_i h83 ?_;rintro _ H1 ⟨rfl,rfl⟩;repeat' (first|(with_reducible first|(apply zS;constructor)<;>intro _|refine ai ?_|(apply zQ;constructor))|((with_reducible apply zF;constructor);simp only [lP,seval,dk,d1,hse,hn1,hb1,ha1,hep,hdg,hux,g0,g1,r0,rA,rc,r1,hS,hT,p2,s1,p3,fillE,get_last,set_last,Int.toNat_natCast,setAll,setAt,ti30];refine ⟨_,h85,?_⟩;rintro _ _ ⟨rfl,rfl⟩;simp only [lA,lP,seval,dk,d1,hse,hn1,hb1,ha1,hep,hdg,hux,g0,g1,r0,rA,rc,r1,hS,hT,p2,s1,p3,fillE,get_last,set_last,setAll,setAt,ti30])|with_reducible refine any_i [z.A] ?_|simp (disch:=omega) only [lE,seval,dk,d1,hse,hn1,hb1,ha1,hep,hdg,hux,g0,g1,r0,rA,rc,r1,hS,hT,p2,s1,p3,fillE,get_last,set_last,setAll,setAt,ti30])
     all_goals try omega
     exact ⟨_,weak_rs _ _,rfl,_,(hstm t' (hupx _)).res (by omega) (hnA _ _ (.inr rfl)) _,rfl⟩
   have d2:decide (c.kind=2)=false:=decide_eq_false k2;by_cases k3:c.kind=3
   . have hd:doS z.u c=(⟨t.log.length,[],0⟩,z.u):=by
      unfold doS;rw [if_neg k0,if_neg k1,if_neg k2,if_pos k3,hg];rfl
     have dk:decide (c.kind=3)=true:=decide_eq_true k3;rw [hd];refine zk0 ok33 fun N' hN'=>?_;unfold mc33 z1 z2 z3 pK pF pL pE pM pW pS pV pQ pR pI pX pG pO gF oM oL oR oF oB oO oS oG oQ sO yO yA;simp only [lA,seval];rw [<- hH1];repeat' (first|(with_reducible first|(apply zS;constructor)<;>intro _|refine ai ?_|(apply zQ;constructor))|simp (disch:=omega) only [lE,seval,hn1,g0,g1,d0,d7])
     all_goals try omega
     refine callW_i h83 ?_;rintro _ _ ⟨rfl,rfl⟩;repeat' (first|(with_reducible first|(apply zS;constructor)<;>intro _|refine ai ?_|(apply zQ;constructor))|simp (disch:=omega) only [lE,seval,dk,d1,d2,hn1,hb1,ha1,hep,hdg,hux,g0,g1,r0,rA,rc,r1,hS,hT,p2,s1,p3,fillE,get_last,set_last,setAll,setAt,ti30])
     all_goals try omega
     exact ⟨_,weak_rs _ _,rfl,z,(hupx _).res (by omega) (hno _ (.inr rfl)) _,rfl⟩
   have d3:decide (c.kind=3)=false:=decide_eq_false k3;by_cases k4:c.kind=4
   . have dk:decide (c.kind=4)=true:=decide_eq_true k4;by_cases hbd:c.a<0\/(t.log.length:Int)<c.a
     . have hd:doS z.u c=(⟨0,[],1⟩,z.u):=by
        unfold doS;rw [if_neg k0,if_neg k1,if_neg k2,if_neg k3,if_pos k4];unfold backS;rw [hg];simp only [if_pos hbd]
       rw [hd];refine zk0 ok33 fun N' hN'=>?_;unfold mc33 z1 z2 z3 pK pF pL pE pM pW pS pV pQ pR pI pX pG pO gF oM oL oR oF oB oO oS oG oQ sO yO yA;simp only [lA,seval];rw [<- hH1];repeat' (first|(with_reducible first|(apply zS;constructor)<;>intro _|refine ai ?_|(apply zQ;constructor))|simp (disch:=omega) only [lE,seval,hn1,g0,g1,d0,d7])
       all_goals try omega
       refine callW_i h83 ?_;rintro _ _ ⟨rfl,rfl⟩;repeat' (first|(with_reducible first|(apply zS;constructor)<;>intro _|refine ai ?_|(apply zQ;constructor))|simp (disch:=omega) only [lE,seval,dk,d1,d2,d3,hn1,hb1,ha1,hep,hdg,hux,g0,g1,r0,rA,rc,r1,hS,hT,p2,s1,p3,fillE,get_last,set_last,setAll,setAt,ti30])
       all_goals try omega
       all_goals exact ⟨_,weak_rs _ _,rfl,z,(hupx _).res (by omega) (hno _ (.inr rfl)) _,rfl⟩
     . obtain ⟨m,hm0⟩:∃ m:Nat,c.a.toNat=m:=⟨c.a.toNat,rfl⟩;have hml:m<=t.log.length:=by omega
       have hd:doS z.u c=(⟨0,[],0⟩,{ z.u with act:=l1++(c.tx,{ t with log:=t.log.take m })::l2 }):=by
        unfold doS;rw [if_neg k0,if_neg k1,if_neg k2,if_neg k3,if_pos k4];unfold backS;rw [hg];simp only [if_neg hbd,hset,hm0]
       rw [hd];have hmt:min m t.log.length=m:=(by omega);refine zk0 ok33 fun N' hN'=>?_;unfold mc33 z1 z2 z3 pK pF pL pE pM pW pS pV pQ pR pI pX pG pO gF oM oL oR oF oB oO oS oG oQ sO yO yA;simp only [lA,seval];rw [<- hH1];repeat' (first|(with_reducible first|(apply zS;constructor)<;>intro _|refine ai ?_|(apply zQ;constructor))|simp (disch:=omega) only [lE,seval,hn1,g0,g1,d0,d7])
       all_goals try omega
       refine callW_i h83 ?_;rintro _ H1 ⟨rfl,rfl⟩;repeat' (first|(with_reducible first|(apply zS;constructor)<;>intro _|refine ai ?_|(apply zQ;constructor))|simp (disch:=omega) only [lE,seval,hm0,hmt,List.length_take,dk,d1,d2,d3,hn1,hb1,ha1,hep,hdg,hux,g0,g1,r0,rA,rc,r1,hS,hT,p2,s1,p3,fillE,get_last,set_last,setAll,setAt,ti30])
       all_goals try omega
       obtain ⟨G,hG⟩:∃ G,G=H1++[AObj.box [.int .i64 c.tx,.int .i64 t.mode,.int .i64 t.snap,.bool t.done,.int .i64 t.stamp,.view 4 (t.log.map WR.av),.view 1 ((t.rows.map itemI).map (AV.int .i64)),.view 1 (t.whole.map (AV.int .i64))]]:=⟨_,rfl⟩;have hGl:G.length=H1.length+1:=(by rw [hG];simp);have t0:G[H1.length]?=some (AObj.box [.int .i64 c.tx,.int .i64 t.mode,.int .i64 t.snap,.bool t.done,.int .i64 t.stamp,.view 4 (t.log.map WR.av),.view 1 ((t.rows.map itemI).map (AV.int .i64)),.view 1 (t.whole.map (AV.int .i64))]):=(by rw [hG];exact get_last);have hxG:Ext H1 G:=(by rw [hG];exact Stay.app _ _ _);rw [<- hG];clear hG;have t1:∀ x,(G++[x])[H1.length]?=G[H1.length]?:=fun x=>at_app _ _ _ (by omega);have tc:∀ x,(G++[x])[H.length]?=H1[H.length]?:=fun x=>(by rw [at_app _ _ _ (by omega)];exact (hxG.at g0).trans g0.symm);have t2:∀ x y,(G++[x]++[y])[H1.length]?=G[H1.length]?:=fun x y=>(by rw [zA];exact t1 x);have hxL:∀ x y b,Ext H1 ((G++[x]++[y]).set H1.length b):=fun x y b=>((hxG.trans (O':=fun _=>False) (Stay.app _ _ _) fun _ _ h=>h).trans (O':=fun _=>False) (Stay.app _ _ _) fun _ _ h=>h).trans (O':=fun i=>i=H1.length) (Stay.set rfl) fun i hi h=>(by omega);have u0:∀ x y b,((G++[x]++[y]).set H1.length b)[z.S]?=H1[z.S]?:=fun x y b=>((hxL x y b).at hb1).trans hb1.symm;have u1:∀ x y b,((G++[x]++[y]).set H1.length b)[z.A]?=H1[z.A]?:=fun x y b=>((hxL x y b).at ha1).trans ha1.symm;have u2:∀ x y b,(((G++[x]++[y]).set H1.length b).set z.A .dead)[z.S]?=H1[z.S]?:=fun x y b=>(by rw [at_set _ _ _ _ (Ne.symm hnd.2.1)];exact u0 x y b);have u3:∀ x y b,(((G++[x]++[y]).set H1.length b).set z.A .dead)[H1.length]?=some b:=fun x y b=>(by rw [zN];exact at_same _ _ _ (by simp;omega));have hse:∀ {N0:FN} {v:AV} {fr:List (Nat × AV)} {L:List AObj} {q:Ke},stE E.P H.length N0 (some (.arr 49 8 ((z.u.act.map uxP).map UX.av))) 8 [.int .i64 c.tx,.int .i64 t.mode,.int .i64 t.snap,.bool t.done,.int .i64 t.stamp,.slc (G.length+1) 4 m,.view 1 ((t.rows.map itemI).map (AV.int .i64)),.view 1 (t.whole.map (AV.int .i64))] v z.A 8 l1.length 0 fr L q=rE E.P H.length N0 q fr (L.set z.A (.arr 49 8 (((z.u.act.map uxP).map UX.av).set l1.length (.agg [.int .i64 c.tx,.int .i64 t.mode,.int .i64 t.snap,.bool t.done,.int .i64 t.stamp,.slc (G.length+1) 4 m,.view 1 ((t.rows.map itemI).map (AV.int .i64)),.view 1 (t.whole.map (AV.int .i64))])))):=fun {N0 v fr L q}=>st_ag hdg rfl rfl;repeat' (first|(with_reducible apply zS;constructor) <;> intro _|(with_reducible first|refine ai ?_|(apply zP;constructor)|refine mkl_own ?_|refine ap_own ?_|refine base0_i ?_|refine any00_i ?_)|with_reducible refine any_i [z.A] ?_|simp (disch:=omega) only [lE,seval,hm0,hmt,List.length_take,tc,g0,t0,t1,t2,u0,u1,u2,u3,hse,hb1,ha1,hep,hdg,get_last,set_last,List.length_append,setAll,setAt])
       all_goals try omega
       have hLx:=hxL .dead (.arr 59 4 (List.take m (t.log.map WR.av))) (.box [.int .i64 c.tx,.int .i64 t.mode,.int .i64 t.snap,.bool t.done,.int .i64 t.stamp,.slc (G.length+1) 4 m,.view 1 ((t.rows.map itemI).map (AV.int .i64)),.view 1 (t.whole.map (AV.int .i64))])
       have hLa:((G++[AObj.dead]++[AObj.arr 59 4 (List.take m (t.log.map WR.av))]).set H1.length (.box [.int .i64 c.tx,.int .i64 t.mode,.int .i64 t.snap,.bool t.done,.int .i64 t.stamp,.slc (G.length+1) 4 m,.view 1 ((t.rows.map itemI).map (AV.int .i64)),.view 1 (t.whole.map (AV.int .i64))]))[G.length+1]?=some (.arr 59 4 (List.take m (t.log.map WR.av))):=by
        rw [zN];exact get_lastN (by simp)
       generalize (G++[AObj.dead]++[AObj.arr 59 4 (List.take m (t.log.map WR.av))]).set H1.length (.box [.int .i64 c.tx,.int .i64 t.mode,.int .i64 t.snap,.bool t.done,.int .i64 t.stamp,.slc (G.length+1) 4 m,.view 1 ((t.rows.map itemI).map (AV.int .i64)),.view 1 (t.whole.map (AV.int .i64))])=L at *;have hLl:=at_lt hLa;have hys:∀ x,((z.u.act.map uxP).map UX.av).set l1.length x=(l1.map uxP).map UX.av++x::(l2.map uxP).map UX.av:=fun x=>(by rw [hact];simp);have hxsl:(List.take m (t.log.map WR.av)).length=m:=(by rw [List.length_take,List.length_map];omega);have hstf:=(hstm { t with log:=t.log.take m } (hup0.trans (ZUpd.refl hz1 hLx))).res (i:=G.length+1) (by omega) (fun h=>by rcases h with h | h | h <;> simp only at h <;> omega) .dead
       have hav:((z.u.act.map uxP).map UX.av).set l1.length (uxP (c.tx,{ t with log:=t.log.take m })).av=(l1.map uxP).map UX.av++.agg (([.int .i64 c.tx,.int .i64 t.mode,.int .i64 t.snap,.bool t.done,.int .i64 t.stamp,.slc (G.length+1) 4 m,.view 1 ((t.rows.map itemI).map (AV.int .i64)),.view 1 (t.whole.map (AV.int .i64))]:List AV).set 5 (.view 4 (List.take m (t.log.map WR.av))))::(l2.map uxP).map UX.av:=by
        rw [hys,<- List.map_take];rfl
       rw [hav] at hstf;rw [hys];refine frz_i (fr':=[(0,.op z.S 0),(4,.op (H.length+1) 0),(7,.int .i64 0)]) (Ent.lendM (id:=G.length+1) (k:=5) (E:=59) (sz:=4) (xs:=List.take m (t.log.map WR.av)) ?_ ?_ (by omega) (at_same _ _ _ (by omega)) (by rw [hxsl];rfl) (by simp [FrSub,Go.Al.get])) ?_
       . rw [zN];exact hLa
       . rw [<- List.map_take];exact flatA_map flz_wr _
       rw [List.set_set];have v1:∀ x,((L.set z.A x).set (G.length+1) .dead)[H.length+1]?=H1[H.length+1]?:=fun x=>(by rw [zN,zN];exact (hLx.at g1).trans g1.symm);have v2:∀ x o,(((L.set z.A x).set (G.length+1) .dead).set (H.length+1) o)[H.length+1]?=some o:=fun x o=>q1 _ _ (by simp;omega);repeat' (first|(with_reducible first|(apply zS;constructor)<;>intro _|refine ai ?_|(apply zQ;constructor))|simp (disch:=omega) only [lE,seval,v1,v2,g1,setAll,setAt,ti30])
       all_goals try omega
       exact ⟨_,weak_rs _ _,rfl,_,hstf.res (by omega) (hnA _ _ (.inr rfl)) _,rfl⟩
   have d4:decide (c.kind=4)=false:=decide_eq_false k4;have hzx:z.At (H1++[AObj.box (uxOf (c.tx,t).1 (c.tx,t).2).cs]):=hz1.ext (hxz _)
   have hcon2:∀ {z':ZR} {H2:List AObj},ZUpd z z' (H1++[AObj.box (uxOf (c.tx,t).1 (c.tx,t).2).cs]) H2->H2[H.length+1]?=some (.box [.int .i64 0,.raw (.slice none 0 0),.int .i64 0])/\∀ o,ZUpd z z' H (H2.set (H.length+1) o):=fun {z' H2} hu=>by
    have h:=hcon ((ZUpd.refl hz1 (hxz _)).trans hu);exact ⟨h.2.2.1,h.2.2.2⟩
   rw [hux] at hzx hcon2;by_cases k5:c.kind=5
   . have hd:doS z.u c=commitS z.u c.tx:=by
      unfold doS;rw [if_neg k0,if_neg k1,if_neg k2,if_neg k3,if_neg k4,if_pos k5]
     have dk:decide (c.kind=5)=true:=decide_eq_true k5;rw [hd];have h86:=c86 hzx hzo hact hidx hdel hg (adm_nn _ _);refine zk0 ok33 fun N' hN'=>?_;unfold mc33 z1 z2 z3 pK pF pL pE pM pW pS pV pQ pR pI pX pG pO gF oM oL oR oF oB oO oS oG oQ sO yO yA;simp only [lA,seval];rw [<- hH1];repeat' (first|(with_reducible first|(apply zS;constructor)<;>intro _|refine ai ?_|(apply zQ;constructor))|simp (disch:=omega) only [lE,seval,hn1,g0,g1,d0,d7])
     all_goals try omega
     refine callW_i h83 ?_;rintro _ _ ⟨rfl,rfl⟩;repeat' (first|(with_reducible first|(apply zS;constructor)<;>intro _|refine ai ?_|(apply zQ;constructor))|simp (disch:=omega) only [lE,seval,dk,d1,d2,d3,d4,hn1,hb1,ha1,hep,hdg,hux,g0,g1,r0,rA,rc,r1,hS,hT,p2,s1,p3,fillE,get_last,set_last,setAll,setAt,ti30])
     all_goals try omega
     refine callW_i h86 ?_;rintro _ H2 ⟨rfl,z2,hu2,hz2⟩;obtain ⟨j1,hfin⟩:=hcon2 hu2;have j2:=fun o=>q1 H2 o (at_lt j1);repeat' (first|(with_reducible first|(apply zS;constructor)<;>intro _|refine ai ?_|(apply zQ;constructor))|simp (disch:=omega) only [lE,seval,hn1,RS.av,RS.cs,j1,j2,setAll,setAt,ti30])
     all_goals try omega
     exact ⟨_,.refl _,rfl,z2,hfin _,hz2⟩
   have d5:decide (c.kind=5)=false:=decide_eq_false k5
   have hd:doS z.u c=(⟨0,[],0⟩,forgetS (delT z.u c.tx)):=by
    unfold doS;rw [if_neg k0,if_neg k1,if_neg k2,if_neg k3,if_neg k4,if_neg k5,if_neg k7];unfold abortS;rw [hg]
   rw [hd]
   have hrem:remZ z.u l1.length=delT z.u c.tx:=by
    rw [hdel];unfold remZ;rw [hact];simp
   have h87:=c87 hzx l1.length hal (by omega);rw [hrem] at h87;refine zk0 ok33 fun N' hN'=>?_;unfold mc33 z1 z2 z3 pK pF pL pE pM pW pS pV pQ pR pI pX pG pO gF oM oL oR oF oB oO oS oG oQ sO yO yA;simp only [lA,seval];rw [<- hH1];repeat' (first|(with_reducible first|(apply zS;constructor)<;>intro _|refine ai ?_|(apply zQ;constructor))|simp (disch:=omega) only [lE,seval,hn1,g0,g1,d0,d7])
   all_goals try omega
   refine callW_i h83 ?_;rintro _ _ ⟨rfl,rfl⟩;repeat' (first|(with_reducible first|(apply zS;constructor)<;>intro _|refine ai ?_|(apply zQ;constructor))|simp (disch:=omega) only [lE,seval,d1,d2,d3,d4,d5,hn1,hb1,ha1,hep,hdg,hux,g0,g1,r0,rA,rc,r1,hS,hT,p2,s1,p3,fillE,get_last,set_last,setAll,setAt,ti30])
   all_goals try omega
   refine callW_i h87 ?_;rintro _ H2 ⟨z2,hu2,hz2⟩;have hkp2:z2.u.kept=z.u.kept:=by rw [hz2];rfl
   have hkl2:z2.kp.length=z.kp.length:=by
    have h1:=congrArg List.length hu2.at'.eq;have h2:=congrArg List.length hz.eq;rw [List.length_map] at h1 h2;rw [h1,h2,hkp2]
   have hal2:z2.u.act.length<=z.u.act.length:=by rw [hz2,hdel,hact];simp
   have hs2:=hu2.s;repeat' (first|(with_reducible first|(apply zS;constructor)<;>intro _|refine ai ?_|(apply zQ;constructor))|simp (disch:=omega) only [lE,seval])
   rw [<- hs2];refine callW_i (c82 hu2.at' (by rw [hkp2];exact hzo.st) (by omega)) ?_;rintro _ H3 ⟨z3,hu3,hz3⟩;obtain ⟨j1,hfin⟩:=hcon2 (hu2.trans hu3);have j2:=fun o=>q1 H3 o (at_lt j1);repeat' (first|(with_reducible first|(apply zS;constructor)<;>intro _|refine ai ?_|(apply zQ;constructor))|simp (disch:=omega) only [lE,seval,hn1,j1,j2,setAll,setAt,ti30])
   all_goals try omega
   exact ⟨_,weak_rs _ _,rfl,z3,hfin _,by rw [hz3,hz2]⟩
structure Same (s s2:SR) (H H':List AObj):Prop where
 at':s2.At H'
 ids:s2.ids=s.ids
 ts:s2.ts=s.ts
 x:s2.X=s.X
 stay:∀ i,i<H.length->i ∉ s.ids->H'[i]?=H[i]?
 len:H.length<=H'.length
theorem Same.tsf {s s2:SR} {H H':List AObj} (h:Same s s2 H H') {X:Nat} {u:TS} {O:Nat->Prop} (hX:s.X=X) (hu:s.ts=u) (hO:∀ i,O i->i ∉ s.ids/\i<H.length):TsF X H' u O :=
 ⟨s2,h.at',h.x.trans hX,h.ts.trans hu,fun i hi=>⟨by rw [h.ids];exact (hO i hi).1,by have:=(hO i hi).2;have:=h.len;omega⟩⟩
theorem Same.ext {s s2:SR} {H H' H'':List AObj} (h:Same s s2 H H') (k:Ext H' H''):Same s s2 H H'' :=
 ⟨h.at'.ext k,h.ids,h.ts,h.x,fun i hi hn=>(k.2 i (by have:=h.len;omega) id).trans (h.stay i hi hn),by have:=h.len;have:=k.1;omega⟩
theorem Same.trans {s s2 s3:SR} {H H' H'':List AObj} (h:Same s s2 H H') (k:Same s2 s3 H' H''):Same s s3 H H'' :=
 ⟨k.at',k.ids.trans h.ids,k.ts.trans h.ts,k.x.trans h.x,fun i hi hn=>(k.stay i (by have:=h.len;omega) (by rw [h.ids];exact hn)).trans (h.stay i hi hn),by have:=h.len;have:=k.len;omega⟩
theorem aO_i {s:SR} {H H0:List AObj} (hs:s.At H) {f:FuncId} {rg:List AV} {E':TypeId} {sz:Nat} {xs:List AV} (has:rg.map (pa H s.ids false 8)=rg) (hxr:∀ ρ,renL ρ xs=xs)
 (hf:ACalls E.P f (.op 0 0::rg) (pH H s.ids false 8) (fun r H'=>Ext (pH H s.ids false 8) H'/\∃ a,r=.slc a sz xs.length/\(pH H s.ids false 8).length<=a/\H'[a]?=some (.arr E' sz xs)))
 {m:Nat} {N:FN} {d:Nat} {t:AT} {k:List It} {Q:Exit->AS->Prop} {fr0 fr:List (Nat × AV)}
 (hq:∀ a s2 H',Same s s2 H H'->H.length<=a->H'[a]?=some (.arr E' sz xs)->rE E.P m N (.a s.ids H0 t k Q fr0) ((d,.slc a sz xs.length)::fr) H') :
 acallR E.P m N (some d) f (.op s.X 0::rg) fr H (.a s.ids H0 t k Q fr0):=by
 obtain ⟨h1,h2,h3⟩:=hs.inn;have hlt:=fun i hi=>hs.lt i hi;refine acallI_i s.ids false (by simp;exact fun x hx=>.inl hx) (by simpa using hlt) hs.ids ⟨fun r H'=>Ext (pH H s.ids false 8) H'/\∃ a,r=.slc a sz xs.length/\(pH H s.ids false 8).length<=a/\H'[a]?=some (.arr E' sz xs),?_,?_⟩
 . have e:(AV.op s.X 0::rg).map (pa H s.ids false 8)=.op 0 0::rg:=by rw [List.map_cons,has];simp [pa,SR.ids,pos]
   rw [e];exact hf
 rintro r H'' ⟨hx,a,rfl,ha,hA⟩;refine ⟨fun h=>absurd h (by simp),?_⟩;have hpl:(pH H s.ids false 8).length=s.ids.length:=by simp [pH]
 have hl:=hx.1;rw [hpl] at hl ha;obtain ⟨s2,k1,k2,k3,k4⟩:=hs.out (h1.ext hx) (inn_ids hs) hl hlt;have hX0:rho s.ids H.length 0=s.X:=by simp [rho,SR.ids]
 rw [h3,hX0] at k4;have hra:rho s.ids H.length a=H.length+(a - s.ids.length):=by rw [rho,List.getElem?_eq_none ha]
 simp only [putO,Go.Al.ren];refine hq _ s2 _ ⟨k1,k2,k3.trans h2,k4,fun i hi hn=>merge_other _ hi hn,by rw [merge_length];omega⟩ (by rw [hra];omega) ?_;rw [merge_rho _ hs.ids hlt (by rw [List.length_map];exact hl),List.getElem?_map,hA];simp only [Option.map_some,renO,hxr]
theorem aB_i {s:SR} {H H0:List AObj} (hs:s.At H) {f:FuncId} {rg:List AV} {b:Bool} (has:rg.map (pa H s.ids false 8)=rg)
 (hf:ACalls E.P f (.op 0 0::rg) (pH H s.ids false 8) (fun r H'=>r=.bool b/\Ext (pH H s.ids false 8) H'))
 {m:Nat} {N:FN} {d:Nat} {t:AT} {k:List It} {Q:Exit->AS->Prop} {fr0 fr:List (Nat × AV)}
 (hq:∀ s2 H',Same s s2 H H'->rE E.P m N (.a s.ids H0 t k Q fr0) ((d,.bool b)::fr) H') :
 acallR E.P m N (some d) f (.op s.X 0::rg) fr H (.a s.ids H0 t k Q fr0):=by
 obtain ⟨h1,h2,h3⟩:=hs.inn;have hlt:=fun i hi=>hs.lt i hi;refine acallI_i s.ids false (by simp;exact fun x hx=>.inl hx) (by simpa using hlt) hs.ids ⟨fun r H'=>r=.bool b/\Ext (pH H s.ids false 8) H',?_,?_⟩
 . have e:(AV.op s.X 0::rg).map (pa H s.ids false 8)=.op 0 0::rg:=by rw [List.map_cons,has];simp [pa,SR.ids,pos]
   rw [e];exact hf
 rintro r H'' ⟨rfl,hx⟩;refine ⟨fun h=>absurd h (by simp),?_⟩;have hpl:(pH H s.ids false 8).length=s.ids.length:=by simp [pH]
 have hl:=hx.1;rw [hpl] at hl;obtain ⟨s2,k1,k2,k3,k4⟩:=hs.out (h1.ext hx) (inn_ids hs) hl hlt;have hX0:rho s.ids H.length 0=s.X:=by simp [rho,SR.ids]
 rw [h3,hX0] at k4;simp only [putO,Go.Al.ren];exact hq s2 _ ⟨k1,k2,k3.trans h2,k4,fun i hi hn=>merge_other _ hi hn,by rw [merge_length];omega⟩
theorem i24 {s:SR} {H H0:List AObj} {X:Nat} {L:List Nat} (hX:s.X=X) (hL:s.ids=L) (hs:s.At H) (hc:s.act.length<=1000000) {m:Nat} {N:FN} {d:Nat} {t:AT} {k:List It} {Q:Exit->AS->Prop} {fr0 fr:List (Nat × AV)}
 (hq:∀ a s2 H',Same s s2 H H'->H.length<=a->H'[a]?=some (.arr 3 1 ((s.ts.act.map (·.1)).map (AV.int .i64)))->rE E.P m N (.a L H0 t k Q fr0) ((d,.slc a 1 ((s.ts.act.map (·.1)).map (AV.int .i64)).length)::fr) H') :
 acallR E.P m N (some d) 24 [.op X 0] fr H (.a L H0 t k Q fr0):=by
 subst hX hL;obtain ⟨h1,h2,h3⟩:=hs.inn;have h:=c24o h1 (by simpa [SR.inn,SR.ren] using hc);have hkeys:(s.inn H).act.map (·.1)=s.ts.act.map (·.1):=by simp [SR.inn,SR.ren,SR.ts,Function.comp_def]
 rw [h3,hkeys] at h;refine aO_i hs (rg:=[]) rfl (fun ρ=>renL_ints) (h.mono ?_) hq;rintro r H' ⟨hx,a,rfl,ha,hA⟩;exact ⟨hx,a,by simp only [List.length_map],ha,hA⟩
theorem i36 {s:SR} {H H0:List AObj} {X:Nat} {L:List Nat} (hX:s.X=X) (hL:s.ids=L) (hs:s.At H) (hc:s.act.length<=1000000) {m:Nat} {N:FN} {d:Nat} {t:AT} {k:List It} {Q:Exit->AS->Prop} {fr0 fr:List (Nat × AV)}
 (hq:∀ a s2 H',Same s s2 H H'->H.length<=a->H'[a]?=some (.arr 3 1 ((snapsS s.ts).map (AV.int .i64)))->rE E.P m N (.a L H0 t k Q fr0) ((d,.slc a 1 ((snapsS s.ts).map (AV.int .i64)).length)::fr) H') :
 acallR E.P m N (some d) 36 [.op X 0] fr H (.a L H0 t k Q fr0):=by
 subst hX hL;obtain ⟨h1,h2,h3⟩:=hs.inn;have h:=c36o h1 (by simpa [SR.inn,SR.ren] using hc);rw [h3,h2] at h;refine aO_i hs (rg:=[]) rfl (fun ρ=>renL_ints) (h.mono ?_) hq;rintro r H' ⟨hx,a,rfl,ha,hA⟩;exact ⟨hx,a,by rw [List.length_map],ha,hA⟩
theorem i14 {s:SR} {H H0:List AObj} {n:Nat} {X:Nat} {L:List Nat} (hX:s.X=X) (hL:s.ids=L) (hs:s.At H) (hok:OkS n s.ts) {m:Nat} {N:FN} {d:Nat} {t:AT} {k:List It} {Q:Exit->AS->Prop} {fr0 fr:List (Nat × AV)}
 (hq:∀ a s2 H',Same s s2 H H'->H.length<=a->H'[a]?=some (.arr 43 6 ((histS s.ts).map accA))->rE E.P m N (.a L H0 t k Q fr0) ((d,.slc a 6 ((histS s.ts).map accA).length)::fr) H') :
 acallR E.P m N (some d) 14 [.op X 0] fr H (.a L H0 t k Q fr0):=by
 subst hX hL;obtain ⟨h1,h2,h3⟩:=hs.inn;have h:=d14 h1 (h2 ▸ hok);rw [h3,h2] at h;refine aO_i hs (rg:=[]) rfl (fun ρ=>renL_accs) (h.mono ?_) hq;rintro r H' ⟨a,rfl,ha,hA,hx⟩;exact ⟨hx,a,by rw [List.length_map],ha,hA⟩
open Classical in
theorem i40 {s:SR} {H H0:List AObj} {n:Nat} {X:Nat} {L:List Nat} (hX:s.X=X) (hL:s.ids=L) (hs:s.At H) (hok:OkS n s.ts) (a:Int) {m:Nat} {N:FN} {d:Nat} {t:AT} {k:List It} {Q:Exit->AS->Prop} {fr0 fr:List (Nat × AV)}
 (hq:∀ s2 H',Same s s2 H H'->rE E.P m N (.a L H0 t k Q fr0) ((d,.bool (decide (SafeS (histS s.ts) a)))::fr) H') :
 acallR E.P m N (some d) 40 [.op X 0,.int .i64 a] fr H (.a L H0 t k Q fr0):=by
 subst hX hL;obtain ⟨h1,h2,h3⟩:=hs.inn;have hok':OkS n (s.inn H).ts:=h2 ▸ hok;have h:=c40 h1 (by have:=hok'.sr.2.1;omega) (by have:=hok'.sr.2.2;omega) (fun a ha=>(hok'.sr.1 a ha).1) a;rw [h3,h2] at h;refine aB_i hs (rg:=[.int .i64 a]) (by simp [pa_int]) (h.mono ?_) hq;rintro r H' ⟨rfl,hx⟩;exact ⟨rfl,hx⟩
theorem c17v (last:Int) (cs:List AV):ACalls E.P 17 [.vp (.int .i64 last::cs)] [] (fun r H=>r=.int .i64 last/\H=[]):=by
 refine zk ok17 fun N hN=>?_;unfold mc17 pI pM pF pL sO;simp only [lA,seval];repeat' (first|(with_reducible first|(apply zS;constructor)<;>intro _|refine ai ?_|(apply zQ;constructor))|((with_reducible refine keep0_i ?_);simp only [lP,seval])|simp (disch:=omega) only [lE,seval])
theorem c22v (x:AV) (shown:Int) (cs:List AV):ACalls E.P 22 [.vp (x :: .int .i64 shown::cs)] [] (fun r H=>r=.int .i64 shown/\H=[]):=by
 refine zk ok22 fun N hN=>?_;unfold mc22 pI pM pF pL sO;simp only [lA,seval];repeat' (first|(with_reducible first|(apply zS;constructor)<;>intro _|refine ai ?_|(apply zQ;constructor))|((with_reducible refine keep0_i ?_);simp only [lP,seval])|simp (disch:=omega) only [lE,seval])
end Go.Proofs.Try
