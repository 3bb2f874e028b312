/-
 A part of the proof.
-/
import Derived.Test.YtfhoeghdioofmaaGreatFaa
import Derived.Test.YtfhoeghdioofmaaGreatEvv
set_option linter.unusedSimpArgs false
set_option linter.unusedVariables false
namespace Go.Proofs.Try
open Go.Proofs.Tryz
open Go.Al
set_option maxRecDepth 100000
def mc82:MC:=(sO [pM 9 0,(none,.v (.nil 10 (.t 9))),pF 11 1 10,pL 12 11,pM 2 12] (.seq (sO [pI 3 0] (.block 0 (.loop (.seq (sO [pM 13 3,pM 14 0,(none,.v (.nil 15 (.t 14))),pF 16 4 15,pL 17 16,pG 18 17,pB 19 13 18] (.cond 19 .skip (.exit 0))) (.seq (.block 1 (.ops [pM 22 2,pM 23 0,(none,.v (.nil 24 (.t 23))),pF 25 4 24,pL 26 25,pM 27 3,pQ 28 8 26 27,pF 29 2 28,pL 30 29,(none,.v (.min 31 [.t 22,.t 30])),pM 2 31])) (.ops [pM 20 3,pA 21 20 1,pM 3 21])))))) (sO [pM 32 2,pM 4 32] (.seq (sO [pI 5 0] (.block 2 (.loop (.seq (sO [pM 33 5,pM 34 0,(none,.v (.nil 35 (.t 34))),pF 36 3 35,pL 37 36,pG 38 37,pB 39 33 38] (.cond 39 .skip (.exit 2))) (.seq (.block 3 (sO [pM 42 0,(none,.v (.nil 43 (.t 42))),pF 44 3 43,pL 45 44,pM 46 5,pQ 47 8 45 46,pF 48 4 47,pL 49 48,pM 50 2,(none,.v (.bin 51 .gtr false (.t 49) (.t 50)))] (.cond 51 (.ops [pM 52 4,pM 53 0,(none,.v (.nil 54 (.t 53))),pF 55 3 54,pL 56 55,pM 57 5,pQ 58 8 56 57,pF 59 2 58,pL 60 59,(none,.v (.min 61 [.t 52,.t 60])),pM 4 61]) .skip))) (.ops [pM 40 5,pA 41 40 1,pM 5 41])))))) (sO [pY 6] (.seq (sO [pI 7 0] (.block 4 (.loop (.seq (sO [pM 62 7,pM 63 0,(none,.v (.nil 64 (.t 63))),pF 65 3 64,pL 66 65,pG 67 66,pB 68 62 67] (.cond 68 .skip (.exit 4))) (.seq (.block 5 (sO [pM 71 0,(none,.v (.nil 72 (.t 71))),pF 73 3 72,pL 74 73,pM 75 7,pQ 76 8 74 75,pR 77 8 76,(none,.e (.alloc 8 z1)),pS 8 8 77] (sO [pF 78 4 8,pL 79 78,pM 80 4,(none,.v (.bin 81 .gtr false (.t 79) (.t 80))),pM 82 81,gF 82 (oF 83 4 8),gF 82 (oL 84 83),gF 82 (oE 85 84 0),gF 82 (oM 86 85),gT 86 (oF 87 2 8),gT 86 (oL 88 87),gT 86 (oM 89 4),(some (86,true),.v (.bin 90 .gtr false (.t 88) (.t 89))),gF 82 (oP 91 86 90),pO 92 82 91] (.cond 92 (.ops [pM 93 6,pR 94 8 8,(none,.e (.mkl 95 49 8 1 (.agg z1) [(0,.t 94)])),(none,.e (.app 96 49 8 112 (.t 93) (.t 95))),pM 6 96]) .skip)))) (.ops [pM 69 7,pA 70 69 1,pM 7 70])))))) (.ops [pM 97 0,pM 98 6,(none,.v (.nil 99 (.t 97))),pF 100 3 99,(none,.e (.store 1 false (.t 100) (.t 98)))])))))))
theorem ok82:FnOk E 82 101 [] mc82:=ofk func82
def mc83:MC:=(sO [pI 4 0] (.seq (sO [pI 5 0] (.block 0 (.loop (.seq (sO [pM 6 5,pM 7 0,(none,.v (.nil 8 (.t 7))),pF 9 4 8,pL 10 9,pG 11 10,pB 12 6 11] (.cond 12 .skip (.exit 0))) (.seq (.block 1 (sO [pM 15 0,(none,.v (.nil 16 (.t 15))),pF 17 4 16,pL 18 17,pM 19 5,pQ 20 8 18 19,pF 21 0 20,pL 22 21,pM 23 1,(none,.v (.bin 24 .eql false (.t 22) (.t 23)))] (.cond 24 (sO [pM 25 5,pM 4 25] .ret) .skip))) (.ops [pM 13 5,pA 14 13 1,pM 5 14])))))) (sO [(none,.v (.mov 4 (.c (.int .i64 (-1)))))] .ret)))
theorem ok83:FnOk E 83 26 [.tmp 4] mc83:=ofk func83
def mc87:MC:=(sO [(none,.e (.mkl 5 49 8 0 (.agg z1) [])),pM 6 0,(none,.v (.nil 7 (.t 6))),pF 8 4 7,pL 9 8,pM 10 1,(none,.p (.pre 11 8 (.t 9) (some (.t 10)))),(none,.e (.app 12 49 8 112 (.t 5) (.t 11))),pM 4 12] (.ops [pM 13 0,pM 14 4,pM 15 0,(none,.v (.nil 16 (.t 15))),pF 17 4 16,pL 18 17,pM 19 1,pA 20 19 1,(none,.p (.cut 21 8 (.t 18) (.t 20) none)),(none,.e (.app 22 49 8 112 (.t 14) (.t 21))),(none,.v (.nil 23 (.t 13))),pF 24 4 23,(none,.e (.store 1 false (.t 24) (.t 22)))]))
theorem ok87:FnOk E 87 25 [] mc87:=ofk func87
set_option maxHeartbeats 16000000
structure ZR where (S K A:Nat) (u:TS) (kp:List (Int × TX))
def ZR.cells (z:ZR):List AV:=[.int .i64 z.u.last,.int .i64 z.u.shown,.int .i64 z.u.begun,.slc z.K 8 z.kp.length,.slc z.A 8 z.u.act.length]
abbrev ZR.Own (z:ZR) (i:Nat):Prop:=i=z.S\/i=z.K\/i=z.A
structure ZR.At (z:ZR) (H:List AObj):Prop where
 box:H[z.S]?=some (.box z.cells)
 kept:H[z.K]?=some (.arr 49 8 ((z.kp.map uxP).map UX.av))
 act:H[z.A]?=some (.arr 49 8 ((z.u.act.map uxP).map UX.av))
 nd:z.S≠z.K/\z.S≠z.A/\z.K≠z.A
 eq:z.kp.map (·.2)=z.u.kept
structure ZUpd (z z':ZR) (H H':List AObj):Prop where
 at':z'.At H'
 s:z'.S=z.S
 stay:Stay z.Own H H'
 own:∀ i,z'.Own i->z.Own i\/H.length<=i
section
variable {z z' z2:ZR} {H H' H2:List AObj}
theorem ZR.At.lt (h:z.At H):z.S<H.length/\z.K<H.length/\z.A<H.length:=⟨at_lt h.box,at_lt h.kept,at_lt h.act⟩
theorem ZR.At.stay {O:Nat->Prop} (h:z.At H) (k:Stay O H H') (hO:∀ i,z.Own i->¬ O i):z.At H':=⟨k.at h.box (hO _ (.inl rfl)),k.at h.kept (hO _ (.inr (.inl rfl))),k.at h.act (hO _ (.inr (.inr rfl))),h.nd,h.eq⟩
theorem ZR.At.ext (h:z.At H) (k:Ext H H'):z.At H':=h.stay k fun _ _=>id
theorem ZUpd.refl (h:z.At H) (k:Ext H H'):ZUpd z z H H':=⟨h.ext k,rfl,k.to,fun _ h=>.inl h⟩
theorem ZUpd.trans (h:ZUpd z z' H H') (k:ZUpd z' z2 H' H2):ZUpd z z2 H H2 where
 at':=k.at'
 s:=k.s.trans h.s
 stay:=h.stay.trans k.stay fun i hi ho=>by
  rcases h.own i ho with h1 | h1
  . exact h1
  . omega
 own:=fun i hi=>by
  rcases k.own i hi with h1 | h1
  . exact h.own i h1
  . have:=h.stay.1;exact .inr (by omega)
theorem ZUpd.res (h:ZUpd z z' H H') {i:Nat} (hi:H.length<=i) (hn:¬ z'.Own i) (o:AObj):ZUpd z z' H (H'.set i o) :=
 ⟨h.at'.stay (O:=fun j=>j=i) (Stay.set rfl) fun j hj e=>hn (e ▸ hj),h.s,h.stay.trans (O':=fun j=>j=i) (Stay.set rfl) fun j hj e=>by omega,h.own⟩
end
theorem epZ {P:Program} {m:Nat} {N:FN} {d:Nat} {c:Kn} {l:List (Int × TX)} {k id q:Nat} (hq:q=l.length) (hk:k<l.length):epR P m N (some (.arr 49 8 ((l.map uxP).map UX.av))) (k:Int) q id 8 d c=rK P m N c d (.ep id 8 k 0):=epR_ne (by simpa using hq) (by omega) (by omega)
theorem atZ {l:List (Int × TX)} {k:Nat} (hk:k<l.length):((l.map uxP).map UX.av)[k]?=some (.agg (uxOf (l.getD k default).1 (l.getD k default).2).cs):=by
 simp [hk];rfl
def placeZ (u:TS) (tx:Int):Int:=if u.act.findIdx (fun p=>decide (p.1=tx))<u.act.length then (u.act.findIdx fun p=>decide (p.1=tx):Nat) else -1
theorem place_hit {u:TS} {tx:Int} {k:Nat} (hk:k<u.act.length) (h1:(u.act.getD k default).1=tx) (h2:∀ j,j<k->(u.act.getD j default).1≠tx):placeZ u tx=k:=by
 have e:u.act.findIdx (fun p=>decide (p.1=tx))=k:=by
  rw [List.findIdx_eq hk];refine ⟨by simpa [hk] using h1,fun j hj=>?_⟩;have:=h2 j hj;simpa [show j<u.act.length by omega] using this
 unfold placeZ;rw [e,if_pos hk]
theorem place_miss {u:TS} {tx:Int} (h2:∀ p ∈ u.act,p.1≠tx):placeZ u tx = -1:=by
 have e:u.act.findIdx (fun p=>decide (p.1=tx))=u.act.length:=List.findIdx_eq_length_of_false fun p hp=>by simpa using h2 p hp
 unfold placeZ;rw [e,if_neg (by omega)]
theorem c83 {z:ZR} {H:List AObj} (hz:z.At H) (tx:Int) (hl:z.u.act.length<=100000):ACalls E.P 83 [.op z.S 0,.int .i64 tx] H (fun r H'=>r=.int .i64 (placeZ z.u tx)/\H'=H):=by
 have hmax:=maxLen_eq;refine zk0 ok83 fun N hN=>?_;unfold mc83 pI pM pF pL pG pB pQ pA sO;simp only [lA,seval];have hb:=hz.box;have ha:=hz.act;unfold ZR.cells at hb;refine loop_i (fun k:Nat=>k<=z.u.act.length/\∀ j,j<k->(z.u.act.getD j default).1≠tx) (fun k=>⟨[(0,.op z.S 0),(1,.int .i64 tx),(5,.int .i64 k)],H⟩) (fun k=>z.u.act.length - k) 0 ⟨by omega,fun j h=>by omega⟩ zE ?_;rintro k ⟨hk,hno⟩;by_cases hkl:k<z.u.act.length
 . have hep:=fun {m N d c}=>epZ (P:=E.P) (m:=m) (N:=N) (d:=d) (c:=c) (id:=z.A) (q:=z.u.act.length) rfl hkl;have hdg:=atZ hkl;have hit:=place_hit (tx:=tx) hkl;generalize hp:z.u.act.getD k default=p at *;by_cases e:p.1=tx
   . have de:decide (p.1=tx)=true:=decide_eq_true e;repeat' (first|(with_reducible first|(apply zS;constructor)<;>intro _|refine ai ?_|(apply zQ;constructor))|simp (disch:=omega) only [lE,seval,hb,ha,hep,hdg,ux_of,de])
     all_goals try omega
     rw [hit e hno]
   . have de:decide (p.1=tx)=false:=decide_eq_false e;repeat' (first|(with_reducible first|(apply zS;constructor)<;>intro _|refine ai ?_|(apply zQ;constructor))|simp (disch:=omega) only [lE,seval,hb,ha,hep,hdg,ux_of,de])
     all_goals try omega
     exact back_i (k+1) ⟨by omega,fun j hj=>by
      by_cases e2:j=k
      . rw [e2,hp];exact e
      . exact hno j (by omega)⟩ (by omega) zE
 . obtain rfl:k=z.u.act.length:=by omega
   repeat' (first|(with_reducible first|(apply zS;constructor)<;>intro _|refine ai ?_|(apply zQ;constructor))|simp (disch:=omega) only [lE,seval,hb,ha,Int.lt_irrefl])
   all_goals try omega
   rw [place_miss fun p hp=>by
    obtain ⟨j,hj,rfl⟩:=List.getElem_of_mem hp;simpa [hj] using hno j hj]
def remZ (u:TS) (k:Nat):TS:={ u with act:=u.act.take k++u.act.drop (k+1) }
theorem c87 {z:ZR} {H:List AObj} (hz:z.At H) (k:Nat) (hk:k<z.u.act.length) (hl:z.u.act.length<=100000):ACalls E.P 87 [.op z.S 0,.int .i64 k] H (fun r H'=>∃ z',ZUpd z z' H H'/\z'.u=remZ z.u k):=by
 have hmax:=maxLen_eq;have hlt:=hz.lt;have hb:=hz.box;have ha:=hz.act;unfold ZR.cells at hb;refine zk0 ok87 fun N hN=>?_;unfold mc87 z1 pM pF pL pA sO;simp only [lA,seval];have w0:∀ o,(H++[o])[z.S]?=H[z.S]?:=fun o=>at_app _ _ _ hlt.1;have w1:∀ o,(H++[o])[z.A]?=H[z.A]?:=fun o=>at_app _ _ _ hlt.2.2;have w2:∀ o o',(H++[o]++[o'])[z.S]?=H[z.S]?:=fun o o'=>by rw [zA];exact w0 _
 have w3:∀ o o',(H++[o]++[o'])[z.A]?=H[z.A]?:=fun o o'=>by rw [zA];exact w1 _
 have hkle:(k<=z.u.act.length)=True:=eq_true (by omega);have hkle2:(k+1+(z.u.act.length - (k+1))<=z.u.act.length)=True:=eq_true (by omega);have htl:(List.take k ((z.u.act.map uxP).map UX.av)).length=k:=by rw [List.length_take,List.length_map,List.length_map];omega
 have hk1:((k:Int)+1).toNat=k+1:=by omega
 have htd:(List.take (z.u.act.length - (k+1)) (List.drop (k+1) ((z.u.act.map uxP).map UX.av))).length=z.u.act.length - (k+1):=by rw [List.length_take,List.length_drop,List.length_map,List.length_map];omega
 have e1:∀ o o',(H++[o]++[o'])[H.length+1]?=some o':=fun o o'=>by rw [show H.length+1=(H++[o]).length by simp];exact get_last
 have e2:∀ o o' o'',(H++[o]++[o']).set (H.length+1) o''=H++[o]++[o'']:=fun o o' o''=>by rw [show H.length+1=(H++[o]).length by simp];exact set_last
 have w4:∀ o o' o'',(H++[o]++[o']++[o''])[z.S]?=H[z.S]?:=fun o o' o''=>by rw [zA];exact w2 _ _
 repeat' (first|(with_reducible first|(apply zS;constructor)<;>intro _|refine ai ?_|(apply zQ;constructor))|simp (disch:=omega) only [lE,seval,hb,ha,w0,w1,w2,w3,w4,e1,e2,htd,hkle,hkle2,htl,hk1,if_true,srcOf,get_last,set_last,List.length_append])
 all_goals try omega
 obtain ⟨L,hL⟩:∃ L,L=H++[AObj.dead]++[AObj.dead]++[AObj.arr 49 8 (List.take k ((z.u.act.map uxP).map UX.av)++List.take (z.u.act.length - (k+1)) (List.drop (k+1) ((z.u.act.map uxP).map UX.av)))]:=⟨_,rfl⟩;have hx:Ext H L:=by rw [hL,List.append_assoc,List.append_assoc];exact Stay.app _ _ _
 have hLl:L.length=H.length+3:=by rw [hL];simp
 have hA:L[H.length+1+1]?=some (.arr 49 8 (((remZ z.u k).act.map uxP).map UX.av)):=by
  rw [hL,show H.length+1+1=(H++[AObj.dead]++[AObj.dead]).length by simp,get_last];have e:List.take (z.u.act.length - (k+1)) (List.drop (k+1) ((z.u.act.map uxP).map UX.av))=List.drop (k+1) ((z.u.act.map uxP).map UX.av):=List.take_of_length_le (by simp);rw [e,<- List.map_take,<- List.map_take,<- List.map_drop,<- List.map_drop,<- List.map_append,<- List.map_append];rfl
 have hlr:(remZ z.u k).act.length=k+(z.u.act.length - (k+1)):=by simp only [remZ,List.length_append,List.length_take,List.length_drop];omega
 rw [<- hL];refine ⟨⟨z.S,z.K,H.length+1+1,remZ z.u k,z.kp⟩,⟨⟨?_,?_,?_,⟨hz.nd.1,by simp only;omega,by simp only;omega⟩,hz.eq⟩,rfl,hx.to.trans (O':=fun i=>i=z.S) (Stay.set rfl) fun i _ h=>.inl h,?_⟩,rfl⟩
 . simp only [ZR.cells,hlr];exact at_same _ _ _ (by omega)
 . simp only;rw [at_set _ _ _ _ hz.nd.1];exact hx.at hz.kept
 . simp only;rw [zN];exact hA
 . rintro i (rfl | rfl | rfl)
   . exact .inl (.inl rfl)
   . exact .inl (.inr (.inl rfl))
   . right;simp only;omega
theorem leastK_kp {z:ZR} (h:z.kp.map (·.2)=z.u.kept):leastK z.u=z.kp.foldl (fun k p=>if leastA z.u<p.2.stamp then min k p.2.snap else k) (leastA z.u):=by
 unfold leastK;rw [<- h,List.foldl_map]
theorem c82 {z:ZR} {H:List AObj} (hz:z.At H) (hst:∀ t ∈ z.u.kept,0<=t.stamp) (hl:z.kp.length+z.u.act.length<=100000):ACalls E.P 82 [.op z.S 0] H (fun r H'=>∃ z',ZUpd z z' H H'/\z'.u=forgetS z.u):=by
 have hmax:=maxLen_eq;have hlt:=hz.lt;have hb:=hz.box;have ha:=hz.act;have hk':=hz.kept;have hlk:=leastK_kp hz.eq;unfold ZR.cells at hb;refine zk0 ok82 fun N hN=>?_;unfold mc82 z1 pM pF pL pI pG pB pQ pA pY pR pS pO gF gT oM oL oF oE oP sO;simp only [lA,seval];repeat' (first|(with_reducible first|(apply zS;constructor)<;>intro _|refine ai ?_|(apply zQ;constructor))|simp (disch:=omega) only [lE,seval,hb])
 refine loop_i (fun k:Nat=>k<=z.u.act.length) (fun k=>⟨[(0,.op z.S 0),(2,.int .i64 ((z.u.act.take k).foldl (fun m p=>min m p.2.snap) z.u.shown)),(3,.int .i64 k)],H⟩) (fun k=>z.u.act.length - k) 0 (by omega) zE ?_;rintro k hk;by_cases hkl:k<z.u.act.length
 . have hep:=fun {m N d c}=>epZ (P:=E.P) (m:=m) (N:=N) (d:=d) (c:=c) (id:=z.A) (q:=z.u.act.length) rfl hkl;have hdg:=atZ hkl;have hnx:(z.u.act.take (k+1)).foldl (fun m p=>min m p.2.snap) z.u.shown=min ((z.u.act.take k).foldl (fun m p=>min m p.2.snap) z.u.shown) (z.u.act.getD k default).2.snap:=by rw [take_succD hkl,List.foldl_append];rfl
   generalize hp:z.u.act.getD k default=p at *;generalize hM:(z.u.act.take k).foldl (fun m p=>min m p.2.snap) z.u.shown=M at *;have hmin:(if p.2.snap<M then p.2.snap else M)=min M p.2.snap:=by rw [Int.min_def];split <;> split <;> omega
   repeat' (first|(with_reducible first|(apply zS;constructor)<;>intro _|refine ai ?_|(apply zQ;constructor))|simp (disch:=omega) only [lE,seval,hb,ha,hep,hdg,ux_of])
   all_goals try omega
   exact back_i (k+1) (by omega) (by omega) (Ent.fr (by simp [FrSub,Go.Al.get,hnx,hmin]))
 . obtain rfl:k=z.u.act.length:=by omega
   have hm0:(z.u.act.take z.u.act.length).foldl (fun m p=>min m p.2.snap) z.u.shown=leastA z.u:=by rw [List.take_length];rfl
   rw [hm0];repeat' (first|(with_reducible first|(apply zS;constructor)<;>intro _|refine ai ?_|(apply zQ;constructor))|simp (disch:=omega) only [lE,seval,hb,ha,Int.lt_irrefl])
   all_goals try omega
   refine loop_i (fun k:Nat=>k<=z.kp.length) (fun k=>⟨[(0,.op z.S 0),(2,.int .i64 (leastA z.u)),(4,.int .i64 ((z.kp.take k).foldl (fun k p=>if leastA z.u<p.2.stamp then min k p.2.snap else k) (leastA z.u))),(5,.int .i64 k)],H⟩) (fun k=>z.kp.length - k) 0 (by omega) zE ?_;rintro k hk;by_cases hkl:k<z.kp.length
   . have hep:=fun {m N d c}=>epZ (P:=E.P) (m:=m) (N:=N) (d:=d) (c:=c) (id:=z.K) (q:=z.kp.length) rfl hkl;have hdg:=atZ hkl;have hnx:(z.kp.take (k+1)).foldl (fun k p=>if leastA z.u<p.2.stamp then min k p.2.snap else k) (leastA z.u)=if leastA z.u<(z.kp.getD k default).2.stamp then min ((z.kp.take k).foldl (fun k p=>if leastA z.u<p.2.stamp then min k p.2.snap else k) (leastA z.u)) (z.kp.getD k default).2.snap else (z.kp.take k).foldl (fun k p=>if leastA z.u<p.2.stamp then min k p.2.snap else k) (leastA z.u):=(by rw [take_succD hkl,List.foldl_append];rfl);generalize hp:z.kp.getD k default=p at *;generalize hM:(z.kp.take k).foldl (fun k p=>if leastA z.u<p.2.stamp then min k p.2.snap else k) (leastA z.u)=M at *;have hmin:(if p.2.snap<M then p.2.snap else M)=min M p.2.snap:=(by rw [Int.min_def];split <;> split <;> omega);repeat' (first|(with_reducible first|(apply zS;constructor)<;>intro _|refine ai ?_|(apply zQ;constructor))|simp (disch:=omega) only [lE,seval,hb,hk',hep,hdg,ux_of])
     all_goals try omega
     . rw [if_pos (by assumption)] at hnx;exact back_i (k+1) (by omega) (by omega) (Ent.fr (by simp [FrSub,Go.Al.get,hnx,hmin]))
     . rw [if_neg (by assumption)] at hnx;exact back_i (k+1) (by omega) (by omega) (Ent.fr (by simp [FrSub,Go.Al.get,hnx]))
   . obtain rfl:k=z.kp.length:=(by omega);rw [List.take_length,<- hlk];repeat' (first|(with_reducible first|(apply zS;constructor)<;>intro _|refine ai ?_|(apply zQ;constructor))|simp (disch:=omega) only [lE,seval,hb,hk',Int.lt_irrefl])
     all_goals try omega
     obtain ⟨F,hF⟩:∃ F:Nat->List (Int × TX),F=fun k=>(z.kp.take k).filter fun p=>!gone (leastK z.u) p.2:=⟨_,rfl⟩;have hF0:F 0=[]:=(by rw [hF];simp);have hFe:F z.kp.length=z.kp.filter fun p=>!gone (leastK z.u) p.2:=(by rw [hF];simp);have hFl:∀ k,(F k).length<=z.kp.length:=fun k=>by rw [hF];exact Nat.le_trans (List.length_filter_le _ _) (by rw [List.length_take];omega)
     have hFs:∀ k,k<z.kp.length->F (k+1)=F k++if (!gone (leastK z.u) (z.kp.getD k default).2)=true then [z.kp.getD k default] else []:=fun k hk=>by
      rw [hF];simp only;rw [take_succD hk,List.filter_append];by_cases e:(!gone (leastK z.u) (z.kp.getD k default).2)=true
      . rw [if_pos e,List.filter_cons_of_pos (p:=fun p:Int × TX=>!gone (leastK z.u) p.2) e];simp
      . rw [if_neg e,List.filter_cons_of_neg (p:=fun p:Int × TX=>!gone (leastK z.u) p.2) e];simp
     have hgone:∀ k,k<z.kp.length->(!gone (leastK z.u) (z.kp.getD k default).2)=(decide (leastK z.u<(z.kp.getD k default).2.stamp) || (decide ((z.kp.getD k default).2.stamp=0) && decide (leastK z.u<(z.kp.getD k default).2.snap))):=fun k hk=>keep_gone (hst _ (by rw [<- hz.eq];exact List.mem_map.2 ⟨_,getD_mem' hk,rfl⟩))
     have hfin:(z.kp.filter fun p=>!gone (leastK z.u) p.2).map (·.2)=(forgetS z.u).kept:=by
      simp only [forgetS];rw [<- hz.eq,List.filter_map];rfl
     generalize leastK z.u=LK at *;clear hF;refine loop_i (fun p:Nat × Nat × List AObj=>p.1<=z.kp.length/\Ext H p.2.2/\H.length<=p.2.1/\p.2.2[p.2.1]?=some (.arr 49 8 (((F p.1).map uxP).map UX.av))) (fun p=>⟨[(0,.op z.S 0),(4,.int .i64 LK),(6,.slc p.2.1 8 (F p.1).length),(7,.int .i64 p.1)],p.2.2⟩) (fun p=>z.kp.length - p.1) (0,H.length,H++[.arr 49 8 []]) ⟨by simp,Stay.app _ _ _,Nat.le_refl _,by simp [hF0]⟩ (Ent.ghost' 6 49 8 (by omega) rfl (Ent.fr (by simp [FrSub,Go.Al.get,hF0]))) ?_;rintro ⟨k,a,M⟩ ⟨hk,hx,hal,haM⟩;simp only at hk hx hal haM ⊢;have hzM:=hz.ext hx;have hbM:=hzM.box;have hkM:=hzM.kept;have haL:=at_lt haM;unfold ZR.cells at hbM;by_cases hkl:k<z.kp.length
     . have hep:=fun {m N d c}=>epZ (P:=E.P) (m:=m) (N:=N) (d:=d) (c:=c) (id:=z.K) (q:=z.kp.length) rfl hkl;have hdg:=atZ hkl;have hs:=hFs k hkl;have hg:=hgone k hkl;have hfl:=hFl k;generalize hp:z.kp.getD k default=p at *;rw [hg] at hs;have n1:∀ o,(M++[o])[a]?=some (.arr 49 8 (((F k).map uxP).map UX.av)):=fun o=>by rw [at_app _ _ _ haL];exact haM
       have hgo:∀ o v,F (k+1)=F k++[p]->v=(uxP p).av->k+1<=z.kp.length/\Ext H ((M++[o]).set a .dead++[.arr 49 8 (((F k).map uxP).map UX.av++[v])])/\H.length<=M.length+1/\((M++[o]).set a .dead++[.arr 49 8 (((F k).map uxP).map UX.av++[v])])[M.length+1]?=some (.arr 49 8 (((F (k+1)).map uxP).map UX.av)):=fun o v hf hv=>by
        have hxl:=hx.1;refine ⟨by omega,?_,by omega,?_⟩
        . exact ((hx.trans (O':=fun _=>False) (Stay.app _ _ _) fun _ _ h=>h).trans (O':=fun i=>i=a) (Stay.set rfl) fun i hi h=>by omega).trans (O':=fun _=>False) (Stay.app _ _ _) fun _ _ h=>h
        . rw [show M.length+1=((M++[o]).set a .dead).length by simp,get_last,hf,hv];simp
       by_cases c1:LK<p.2.stamp
       . have d1:decide (LK<p.2.stamp)=true:=decide_eq_true c1;rw [d1,Bool.true_or,if_pos rfl] at hs;repeat' (first|(with_reducible apply zS;constructor) <;> intro _|((with_reducible refine mkl_view ?_ ?_ ?_);(focus decide);(focus rfl))|(with_reducible first|refine ai ?_|(apply zQ;constructor))|simp (disch:=omega) only [lE,seval,hbM,hkM,haM,n1,hep,hdg,ux_of,d1,get_last,set_last,List.length_append])
         all_goals try omega
         exact back_i (k+1,M.length+1,_) (hgo _ _ hs rfl) (by simp only;omega) (Ent.fr (by simp [FrSub,Go.Al.get,hs]))
       have d1:decide (LK<p.2.stamp)=false:=decide_eq_false c1;by_cases c2:p.2.stamp=0/\LK<p.2.snap
       . have d2:decide (p.2.stamp=0)=true:=decide_eq_true c2.1;have d3:decide (LK<p.2.snap)=true:=decide_eq_true c2.2;rw [d1,d2,d3,Bool.false_or,Bool.true_and,if_pos rfl] at hs;repeat' (first|(with_reducible apply zS;constructor) <;> intro _|((with_reducible refine mkl_view ?_ ?_ ?_);(focus decide);(focus rfl))|(with_reducible first|refine ai ?_|(apply zQ;constructor))|simp (disch:=omega) only [lE,seval,hbM,hkM,haM,n1,hep,hdg,ux_of,d1,d2,d3,get_last,set_last,List.length_append])
         all_goals try omega
         exact back_i (k+1,M.length+1,_) (hgo _ _ hs rfl) (by simp only;omega) (Ent.fr (by simp [FrSub,Go.Al.get,hs]))
       . have hs':F (k+1)=F k:=by
          rw [hs,d1,Bool.false_or,if_neg,List.append_nil];simp only [Bool.and_eq_true,decide_eq_true_eq];exact c2
         have hst2:∀ o,k+1<=z.kp.length/\Ext H (M++[o])/\H.length<=a/\(M++[o])[a]?=some (.arr 49 8 (((F (k+1)).map uxP).map UX.av)):=fun o=>⟨by omega,hx.trans (O':=fun _=>False) (Stay.app _ _ _) fun _ _ h=>h,hal,by rw [hs'];exact n1 o⟩;repeat' (first|(with_reducible apply zS;constructor) <;> intro _|((with_reducible refine mkl_view ?_ ?_ ?_);(focus decide);(focus rfl))|(with_reducible first|refine ai ?_|(apply zQ;constructor))|simp (disch:=omega) only [lE,seval,hbM,hkM,haM,n1,hep,hdg,ux_of,d1,get_last,set_last,List.length_append])
         all_goals try omega
         all_goals exact back_i (k+1,a,_) (hst2 _) (by simp only;omega) (Ent.fr (by simp [FrSub,Go.Al.get,hs']))
     . obtain rfl:k=z.kp.length:=(by omega);rw [hFe] at haM ⊢;repeat' (first|(with_reducible first|(apply zS;constructor)<;>intro _|refine ai ?_|(apply zQ;constructor))|simp (disch:=omega) only [lE,seval,hbM,hkM,haM,get_last,set_last,Int.lt_irrefl])
       all_goals try omega
       refine ⟨⟨z.S,a,z.A,forgetS z.u,z.kp.filter fun p=>!gone LK p.2⟩,⟨⟨?_,?_,?_,⟨by simp only;omega,hz.nd.2.1,by simp only;omega⟩,hfin⟩,rfl,hx.to.trans (O':=fun i=>i=z.S) (Stay.set rfl) fun i _ h=>.inl h,?_⟩,rfl⟩
       . simp only [ZR.cells];exact at_same _ _ _ (by have:=hx.1;omega)
       . simp only;rw [zN];exact haM
       . simp only;rw [at_set _ _ _ _ hz.nd.2.1];exact hx.at hz.act
       . rintro i (rfl | rfl | rfl)
         . exact .inl (.inl rfl)
         . exact .inr hal
         . exact .inl (.inr (.inr rfl))
abbrev q39_0:MI:=oL 54 53
abbrev q39_1:MI:=.e (.mkl 66 3 1 1 (.int .i64 0) [(0,.t 65)])
abbrev q39_2:AT:=.alt none (oS 6 6 40) .done .stop
abbrev q39_3:AT:=.alt none (.e (.app 67 3 1 8 (.t 54) (.t 66))) (yO (oF 68 5 6) (yA (.e (.store 1 false (.t 68) (.t 67))) .done .stop)) .stop
abbrev q39_4:MI:=.v (.build 40 z0 [(0,1,.t 21),(1,1,.t 26),(2,1,.t 31),(3,1,.t 36),(4,1,.t 39)])
def mc39:MC:=(sO [pY 2] (sO [pM 9 0,pV 10 88 9,pM 3 10] (sO [pY 4] (.seq (sO [pI 5 0] (.block 0 (.loop (.seq (sO [pM 11 5,pM 12 3,pG 13 12,pB 14 11 13] (.cond 14 .skip (.exit 0))) (.seq (.block 1 (.seq (.any true (yO (oM 17 3) (yO (oM 18 5) (yO (oQ 19 8 17 18) (yO (oF 20 1 19) (yO (oL 21 20) (yO (oM 22 3) (yO (oM 23 5) (yO (oQ 24 8 22 23) (yO (oF 25 2 24) (yO (oL 26 25) (yO (oM 27 3) (yO (oM 28 5) (yO (oQ 29 8 27 28) (yO (oF 30 3 29) (yO (oL 31 30) (yO (oM 32 3) (yO (oM 33 5) (yO (oQ 34 8 32 33) (yO (oF 35 4 34) (yO (oL 36 35) (yO (oM 37 3) (yO (oM 38 5) (yA (oW 39 89 37 38) (.pure1 none q39_4 (yA (.e (.alloc 6 z0)) q39_2 .stop)) (yA (.e (.alloc 6 z0)) (yA (oW 39 89 37 38) (.pure1 none q39_4 q39_2) .stop) .stop))))))))))))))))))))))))) (sO [pM 41 3,pM 42 5,pQ 43 8 41 42,pF 44 5 43,pL 45 44,pV 46 44 45,pM 7 46] (.seq (sO [pI 8 0] (.block 2 (.loop (.seq (sO [pM 47 8,pM 48 7,pG 49 48,pB 50 47 49] (.cond 50 .skip (.exit 2))) (.seq (.block 3 (.any true (yO (oF 53 5 6) (yO (oM 55 7) (yO (oM 56 8) (yO (oQ 57 4 55 56) (yO (oF 58 0 57) (yO (oL 59 58) (yO (oM 60 7) (yO (oM 61 8) (yO (oQ 62 4 60 61) (yO (oF 63 1 62) (yO (oL 64 63) (yA q39_0 (yA (oW 65 47 59 64) (yA q39_1 q39_3 .stop) .stop) (yA (oW 65 47 59 64) (yA q39_0 (yA q39_1 q39_3 .stop) (yA q39_1 (yA q39_0 q39_3 .stop) .stop)) .stop))))))))))))))) (.ops [pM 51 8,pA 52 51 1,pM 8 52])))))) (.ops [pM 69 4,pR 70 6 6,(none,.e (.mkl 71 43 6 1 (.agg z0) [(0,.t 70)])),(none,.e (.app 72 43 6 80 (.t 69) (.t 71))),pM 4 72]))))) (.ops [pM 15 5,pA 16 15 1,pM 5 16])))))) (sO [pM 73 4,pM 2 73] .ret)))))
theorem ok39:FnOk E 39 74 [.tmp 2] mc39:=ofk func39
def elD (d:Acc × Nat × Nat):AV:=.agg [.int .i64 d.1.mode,.int .i64 d.1.snap,.bool d.1.done,.int .i64 d.1.stamp,.slc d.2.1 1 d.1.reads.length,.slc d.2.2 1 d.1.writes.length]
structure DsAt (ds:List (Acc × Nat × Nat)) (H:List AObj):Prop where
 at':∀ d ∈ ds,H[d.2.1]?=some (.arr 3 1 (d.1.reads.map (AV.int .i64)))/\H[d.2.2]?=some (.arr 3 1 (d.1.writes.map (AV.int .i64)))
def DeepL (hs:List Acc) (r:AV) (H:List AObj):Prop:=∃ o ds,r=.slc o 6 hs.length/\H[o]?=some (.arr 43 6 (ds.map elD))/\ds.map (·.1)=hs/\DsAt ds H
theorem rho_nil' (n i:Nat):rho [] n i=n+i:=by simp [rho]
theorem ren_elD (n:Nat) (d:Acc × Nat × Nat):ren (rho [] n) (elD d)=elD (d.1,n+d.2.1,n+d.2.2):=by simp [elD,ren,renL,rho_nil']
theorem DeepL.out {hs:List Acc} {r:AV} {H0 H:List AObj} (h:DeepL hs r H):DeepL hs (ren (rho [] H0.length) r) (H0++H.map (renO (rho [] H0.length))):=by
 obtain ⟨o,ds,rfl,ho,hd,hat⟩:=h
 have get:∀ i x,H[i]?=some x->(H0++H.map (renO (rho [] H0.length)))[H0.length+i]?=some (renO (rho [] H0.length) x):=fun i x hx=>by
  rw [List.getElem?_append_right (by omega),Nat.add_sub_cancel_left,List.getElem?_map,hx];rfl
 refine ⟨H0.length+o,ds.map fun d=>(d.1,H0.length+d.2.1,H0.length+d.2.2),by simp [ren,rho_nil'],?_,?_,⟨fun d hd'=>?_⟩⟩
 . rw [get _ _ ho];simp only [renO,renL_eq,List.map_map];refine congrArg some (congrArg (AObj.arr 43 6) ?_);exact List.map_congr_left fun d _=>ren_elD _ d
 . rw [List.map_map,<- hd];rfl
 . obtain ⟨e,he,rfl⟩:=List.mem_map.1 hd';obtain ⟨h1,h2⟩:=hat.at' e he;exact ⟨by rw [get _ _ h1];simp only [renO,renL_ints],by rw [get _ _ h2];simp only [renO,renL_ints]⟩
theorem vw_elD {ds:List (Acc × Nat × Nat)} {H:List AObj} {n:Nat} (h:DsAt ds H):(ds.map elD).map (vw H [] (n+4))=(ds.map (·.1)).map accA:=by
 rw [List.map_map,List.map_map];refine List.map_congr_left fun d hd=>?_;obtain ⟨h1,h2⟩:=h.at' d hd;simp only [Function.comp,elD,vw_agg,List.map_cons,List.map_nil,vw_int,vw_bool,vw_slc,pos_nil,h1,h2];rw [vwS_arr (by simp),vwS_arr (by simp),vw_ints,vw_ints];rfl
theorem DeepL.view {hs:List Acc} {r:AV} {H:List AObj} (h:DeepL hs r H):pa H [] true 8 r=.view 6 (hs.map accA):=by
 obtain ⟨o,ds,rfl,ho,hd,hat⟩:=h;simp only [pa_slc,vw_slc,pos_nil,ho,paR_lent];rw [vwS_arr (by rw [List.length_map,<- hd,List.length_map]),vw_elD hat,hd]
theorem get_lastN {L:List AObj} {o:AObj} {n:Nat} (h:n=L.length):(L++[o])[n]?=some o:=by subst h;exact get_last
def NV (H:List AObj):Prop:=∀ x ∈ H,novO x=true
theorem NV.app {H:List AObj} {o:AObj} (h:NV H) (ho:novO o=true):NV (H++[o]):=fun x hx=>by
 rcases List.mem_append.1 hx with hx | hx
 . exact h x hx
 . rw [List.mem_singleton.1 hx];exact ho
theorem NV.set {H:List AObj} {o:AObj} {i:Nat} (h:NV H) (ho:novO o=true):NV (H.set i o):=fun x hx=>by
 rcases List.mem_or_eq_of_mem_set hx with hx | rfl
 . exact h x hx
 . exact ho
theorem nov_ints (l:List Int):novO (.arr 3 1 (l.map (AV.int .i64)))=true:=novL_ints
theorem nov_elD (ds:List (Acc × Nat × Nat)):novO (.arr 43 6 (ds.map elD))=true:=novL_map (fun _=>rfl) ds
theorem DsAt.stay {ds:List (Acc × Nat × Nat)} {O:Nat->Prop} {H H':List AObj} (h:DsAt ds H) (k:Stay O H H') (hO:∀ d ∈ ds,¬ O d.2.1/\¬ O d.2.2):DsAt ds H':=⟨fun d hd=>⟨k.at (h.at' d hd).1 (hO d hd).1,k.at (h.at' d hd).2 (hO d hd).2⟩⟩
theorem histU_len (l:List UX):(histU l).length=l.length:=by simp [histU]
theorem at_histU {l:List UX} {k:Nat} (hk:k<l.length):(histU l).getD k default=accU l k:=by simp [histU,hk]
theorem share3 {A P:Nat->Nat->List AObj->Prop} {G:Prop} (main:(∀ B R M,A B R M->P B R M)->G) (key:∀ B R M,A B R M->P B R M):G:=main key
abbrev bx6 (t:UX) (R nr W nw:Nat):AObj:=.box [.int .i64 t.mode,.int .i64 t.snap,.bool t.done,.int .i64 t.stamp,.slc R 1 nr,.slc W 1 nw]
theorem c39 (u:TS) (kp:List (Int × TX)) (hn:kp.length+u.act.length<=40) (hb:∀ p ∈ kp++u.act,p.2.rows.length<=1000/\p.2.log.length<=200000) (hkk:∀ p ∈ kp++u.act,∀ w ∈ p.2.log,(0<=w.tab/\w.tab<=255)/\0<=w.row/\w.row<=1073741824) :
 ACalls E.P 39 [.vp (zcs u kp)] [] (fun r H=>DeepL (histU ((kp++u.act).map uxP)) r H/\nov r=true/\H.all novO=true):=by
 have hmax:=maxLen_eq;have h88:=c88 u kp (by omega);have hll:((kp++u.act).map uxP).length<=40:=by rw [List.length_map,List.length_append];exact hn
 have hb':∀ x ∈ (kp++u.act).map uxP,x.rows.length<=1000/\x.log.length<=200000:=fun x hx=>by
  obtain ⟨p,hp,rfl⟩:=List.mem_map.1 hx;obtain ⟨h1,h2⟩:=hb p hp;exact ⟨by simpa [uxP,uxOf] using h1,h2⟩
 have hkk':∀ x ∈ (kp++u.act).map uxP,∀ w ∈ x.log,(0<=w.tab/\w.tab<=255)/\0<=w.row/\w.row<=1073741824:=fun x hx=>by
  obtain ⟨p,hp,rfl⟩:=List.mem_map.1 hx;exact hkk p hp
 generalize (kp++u.act).map uxP=l at *;clear hb hkk;refine zk0 ok39 fun N hN=>?_;unfold mc39 q39_4 q39_3 q39_2 q39_1 q39_0 z0 pY pM pV pI pG pB pQ pF pL pA pR oM oL oF oS oQ oW sO yO yA;simp only [lA,seval];repeat' (first|(with_reducible first|(apply zS;constructor)<;>intro _|refine ai ?_|(apply zQ;constructor))|((with_reducible apply zF;constructor);simp only [lP,seval];refine ⟨_,h88,?_⟩;rintro _ _ ⟨rfl,rfl⟩;simp only [lA,lP,seval])|simp (disch:=omega) only [lE,seval])
 refine loop_i (fun p:Nat × Nat × List (Acc × Nat × Nat) × List AObj=>p.1<=l.length/\p.2.2.2[p.2.1]?=some (.arr 43 6 (p.2.2.1.map elD))/\p.2.2.1.map (·.1)=(histU l).take p.1/\DsAt p.2.2.1 p.2.2.2/\NV p.2.2.2)
  (fun p=>⟨[(3,.view 8 (l.map UX.av)),(4,.slc p.2.1 6 p.2.2.1.length),(5,.int .i64 p.1)],p.2.2.2⟩) (fun p=>l.length - p.1) (0,0,[],[.arr 43 6 []]) ⟨by simp,by simp,by simp,⟨by simp⟩,fun x hx=>by rw [List.mem_singleton.1 hx];rfl⟩ (Ent.ghost' 4 43 6 (by omega) rfl zE) ?_
 rintro ⟨k,o,ds,M⟩ ⟨hk,ho,hds,hat,hnv⟩;simp only at hk ho hds hat hnv ⊢;have hol:=at_lt ho
 have hdl:ds.length=k:=by
  have:=congrArg List.length hds;rw [List.length_map,List.length_take,histU_len] at this;omega
 by_cases hkl:k<l.length
 . have hum:=getD_mem' hkl;obtain ⟨hr1,hl1⟩:=hb' _ hum;have hku:=hkk' _ hum;have h89:=c89 l k hkl (by omega) hb' hkk';have hac:accU l k=⟨(l.getD k default).mode,(l.getD k default).snap,(l.getD k default).done,(l.getD k default).stamp,readsU l k,(lastW (l.getD k default).log).map fun w=>itemI w.key⟩:=rfl;have hnx:(histU l).take (k+1)=(histU l).take k++[accU l k]:=by rw [take_succD (by rw [histU_len];exact hkl),at_histU hkl]
   have hrl:(readsU l k).length<=2000:=by
    have h1:=ascL_len (rdU l k l.length);have h2:=rdU_len l k l.length;have h3:readsU l k=ascL (rdU l k l.length):=rfl;rw [h3];omega
   generalize accU l k=acc at *;generalize hu:l.getD k default=t at *;have h44:=c44 t.log hl1 hku;have hwk:∀ w ∈ lastW t.log,(0<=w.tab/\w.tab<=255)/\0<=w.row/\w.row<=1073741824:=fun w hw=>hku w (lastW_mem w hw);have hwl:(lastW t.log).length<=200000:=Nat.le_trans (lastW_len t.log) hl1;generalize lastW t.log=ws at *;generalize readsU l k=RS at *;have q0:∀ o o',(M++[o]++[o'])[M.length]?=some o:=fun o o'=>by rw [at_app _ _ _ (by simp)];exact get_last
   have q1:∀ o o',(M++[o]++[o'])[M.length+1]?=some o':=fun o o'=>by rw [show M.length+1=(M++[o]).length by simp];exact get_last
   have s0:∀ o o' o'',(M++[o]++[o']).set M.length o''=M++[o'']++[o']:=fun o o' o''=>by simp
   have s1:∀ o o' o'',(M++[o]++[o']).set (M.length+1) o''=M++[o]++[o'']:=fun o o' o''=>by rw [show M.length+1=(M++[o]).length by simp];exact set_last
   apply share3 (A:=fun B R M1=>M1[B]?=some (.box [.int .i64 t.mode,.int .i64 t.snap,.bool t.done,.int .i64 t.stamp,.slc R 1 RS.length,.raw (.slice none 0 0)])/\M1[R]?=some (.arr 3 1 (RS.map (AV.int .i64)))/\Ext M M1/\NV M1/\M.length<=B/\M.length<=R/\B≠R)
   . intro key;repeat' (first|(with_reducible apply zS;constructor) <;> intro _|(with_reducible first|refine ai ?_|(apply zP;constructor)|refine mkl_own ?_|refine ap_own ?_|refine base0_i ?_|refine any00_i ?_|refine any_i [] ?_)|((with_reducible apply zC;constructor);simp only [lP,seval,IdxR_uxs,hu,ux_cs,q0,q1,s0,s1,fillE,setAll,setAt,get_last,set_last,Int.toNat_natCast,List.length_append];refine ⟨_,h89,?_⟩;rintro _ _ ⟨rfl,rfl⟩;simp only [lA,lP,seval,IdxR_uxs,hu,ux_cs,q0,q1,s0,s1,fillE,setAll,setAt,get_last,set_last,List.length_append])|simp (disch:=omega) only [lE,seval,IdxR_uxs,hu,ux_cs,q0,q1,s0,s1,fillE,setAll,setAt,get_last,set_last,List.length_append])
     all_goals try omega
     . have e1:(M++[.arr 3 1 (RS.map (AV.int .i64))]++[.box [.int .i64 t.mode,.int .i64 t.snap,.bool t.done,.int .i64 t.stamp,.slc M.length 1 RS.length,.raw (.slice none 0 0)]])[M.length+1]?=some (.box [.int .i64 t.mode,.int .i64 t.snap,.bool t.done,.int .i64 t.stamp,.slc (M.length) 1 RS.length,.raw (.slice none 0 0)]):=(by simp);have e2:(M++[.arr 3 1 (RS.map (AV.int .i64))]++[.box [.int .i64 t.mode,.int .i64 t.snap,.bool t.done,.int .i64 t.stamp,.slc M.length 1 RS.length,.raw (.slice none 0 0)]])[M.length]?=some (.arr 3 1 (RS.map (AV.int .i64))):=(by simp);have e3:Ext M (M++[.arr 3 1 (RS.map (AV.int .i64))]++[.box [.int .i64 t.mode,.int .i64 t.snap,.bool t.done,.int .i64 t.stamp,.slc M.length 1 RS.length,.raw (.slice none 0 0)]]):=(by rw [List.append_assoc];exact Stay.app _ _ _);have e4:NV (M++[.arr 3 1 (RS.map (AV.int .i64))]++[.box [.int .i64 t.mode,.int .i64 t.snap,.bool t.done,.int .i64 t.stamp,.slc M.length 1 RS.length,.raw (.slice none 0 0)]]):=(by first | exact (hnv.app (nov_ints _)).app rfl | exact (hnv.app rfl).app (nov_ints _));obtain ⟨M1,hM1⟩:∃ M1,M1=M++[.arr 3 1 (RS.map (AV.int .i64))]++[.box [.int .i64 t.mode,.int .i64 t.snap,.bool t.done,.int .i64 t.stamp,.slc M.length 1 RS.length,.raw (.slice none 0 0)]]:=⟨_,rfl⟩;rw [<- hM1] at e1 e2 e3 e4 ⊢;clear hM1;obtain ⟨B,hB⟩:∃ B,B=M.length+1:=⟨_,rfl⟩;obtain ⟨R,hR⟩:∃ R,R=M.length:=⟨_,rfl⟩;rw [<- hB,<- hR] at e1;rw [<- hR] at e2;have hBM:M.length<=B:=(by omega);have hRM:M.length<=R:=(by omega);have hBR:B≠R:=(by omega);refine frz_i (fr':=[(3,.view 8 (l.map UX.av)),(4,.slc o 6 ds.length),(5,.int .i64 k),(6,.op B 0)]) (H':=M1) (Ent.fr (by simp [FrSub,Go.Al.get,hB])) ?_;exact key B R M1 ⟨e1,e2,e3,e4,hBM,hRM,hBR⟩
     . have e1:(M++[.box [.int .i64 t.mode,.int .i64 t.snap,.bool t.done,.int .i64 t.stamp,.slc (M.length+1) 1 RS.length,.raw (.slice none 0 0)]]++[.arr 3 1 (RS.map (AV.int .i64))])[M.length]?=some (.box [.int .i64 t.mode,.int .i64 t.snap,.bool t.done,.int .i64 t.stamp,.slc (M.length+1) 1 RS.length,.raw (.slice none 0 0)]):=(by simp);have e2:(M++[.box [.int .i64 t.mode,.int .i64 t.snap,.bool t.done,.int .i64 t.stamp,.slc (M.length+1) 1 RS.length,.raw (.slice none 0 0)]]++[.arr 3 1 (RS.map (AV.int .i64))])[M.length+1]?=some (.arr 3 1 (RS.map (AV.int .i64))):=(by simp);have e3:Ext M (M++[.box [.int .i64 t.mode,.int .i64 t.snap,.bool t.done,.int .i64 t.stamp,.slc (M.length+1) 1 RS.length,.raw (.slice none 0 0)]]++[.arr 3 1 (RS.map (AV.int .i64))]):=(by rw [List.append_assoc];exact Stay.app _ _ _);have e4:NV (M++[.box [.int .i64 t.mode,.int .i64 t.snap,.bool t.done,.int .i64 t.stamp,.slc (M.length+1) 1 RS.length,.raw (.slice none 0 0)]]++[.arr 3 1 (RS.map (AV.int .i64))]):=(by first | exact (hnv.app (nov_ints _)).app rfl | exact (hnv.app rfl).app (nov_ints _));obtain ⟨M1,hM1⟩:∃ M1,M1=M++[.box [.int .i64 t.mode,.int .i64 t.snap,.bool t.done,.int .i64 t.stamp,.slc (M.length+1) 1 RS.length,.raw (.slice none 0 0)]]++[.arr 3 1 (RS.map (AV.int .i64))]:=⟨_,rfl⟩;rw [<- hM1] at e1 e2 e3 e4 ⊢;clear hM1;obtain ⟨B,hB⟩:∃ B,B=M.length:=⟨_,rfl⟩;obtain ⟨R,hR⟩:∃ R,R=M.length+1:=⟨_,rfl⟩;rw [<- hR,<- hB] at e1;rw [<- hR] at e2;have hBM:M.length<=B:=(by omega);have hRM:M.length<=R:=(by omega);have hBR:B≠R:=(by omega);refine frz_i (fr':=[(3,.view 8 (l.map UX.av)),(4,.slc o 6 ds.length),(5,.int .i64 k),(6,.op B 0)]) (H':=M1) (Ent.fr (by simp [FrSub,Go.Al.get,hB])) ?_;exact key B R M1 ⟨e1,e2,e3,e4,hBM,hRM,hBR⟩
   . rintro B R M1 ⟨e1,e2,e3,e4,hBM,hRM,hBR⟩;repeat' (first|(with_reducible first|(apply zS;constructor)<;>intro _|refine ai ?_|(apply zQ;constructor))|((with_reducible apply zF;constructor);simp only [lP,seval,IdxR_uxs,hu,ux_cs,Int.toNat_natCast];refine ⟨_,h44,?_⟩;rintro _ _ ⟨rfl,rfl⟩;simp only [lA,lP,seval,IdxR_uxs,hu,ux_cs])|simp (disch:=omega) only [lE,seval,IdxR_uxs,hu,ux_cs])
     all_goals try omega
     have hBl:=at_lt e1;have hRl:=at_lt e2;have hMl:=e3.1
     refine loop_i (fun p:Nat × Nat × List AObj=>p.1<=ws.length/\p.2.2[B]?=some (bx6 t R RS.length p.2.1 p.1)/\p.2.2[p.2.1]?=some (.arr 3 1 (((ws.take p.1).map fun w=>itemI w.key).map (AV.int .i64)))/\p.2.2[R]?=some (.arr 3 1 (RS.map (AV.int .i64)))/\Ext M p.2.2/\NV p.2.2/\p.2.1≠B/\p.2.1≠R/\M.length<=p.2.1)
      (fun p=>⟨[(3,.view 8 (l.map UX.av)),(4,.slc o 6 ds.length),(5,.int .i64 k),(6,.op B 0),(7,.view 4 (ws.map WR.av)),(8,.int .i64 p.1)],p.2.2⟩) (fun p=>ws.length - p.1)
      (0,M1.length,M1.set B (bx6 t R RS.length M1.length 0)++[.arr 3 1 []])
      ⟨by simp,by simp only;rw [at_app _ _ _ (by simpa using hBl)];exact at_same _ _ _ hBl,by simp only;exact get_lastN (by simp),by simp only;rw [at_app _ _ _ (by simpa using hRl),at_set _ _ _ _ hBR];exact e2,
        (e3.trans (O':=fun i=>i=B) (Stay.set rfl) fun i hi h=>by omega).trans (O':=fun _=>False) (Stay.app _ _ _) fun _ _ h=>h,(e4.set rfl).app (nov_ints []),by simp only;omega,by simp only;omega,by simp only;omega⟩
      (Ent.trans (Ent.ghostB B 5 3 1 (by omega) e1 rfl) zE) ?_
     rintro ⟨j,W,M2⟩ ⟨hj,b1,b2,b3,b4,b5,hWB,hWR,hWM⟩;simp only at hj b1 b2 b3 b4 b5 hWB hWR hWM ⊢;have hWl:=at_lt b2;have hBl2:=at_lt b1;have hM2:=b4.1;by_cases hjl:j<ws.length
     . have hwm:=getD_mem' hjl;have hwb:=hwk _ hwm;have htk:=take_succD hjl;generalize hw:ws.getD j default=w at *;have h47:=c47 w.tab w.row hwb.1 hwb.2;have hwc:w.cs=[.int .i64 w.tab,.int .i64 w.row,.bool w.dead,rowV w.vals]:=rfl;have b1d:(M2.set W AObj.dead)[B]?=some (bx6 t R RS.length W j):=(by rw [at_set _ _ _ _ hWB];exact b1);have hjm:min j ws.length=j:=(by omega);have b1e:∀ x,(M2.set W AObj.dead++[x])[B]?=some (bx6 t R RS.length W j):=fun x=>(by rw [at_app _ _ _ (by simpa using hBl2)];exact b1d);unfold bx6 at b1 b1d b1e;have m1:(W ∈ [B,W])=True:=eq_true (by simp);have m2:(B ∈ [B,W])=True:=eq_true (by simp);repeat' (first|(with_reducible apply zS;constructor) <;> intro _|((with_reducible refine mkl_view ?_ ?_ ?_);(focus decide);(focus rfl))|(with_reducible first|refine ai ?_|(apply zQ;constructor))|((with_reducible apply zC;constructor);simp only [lP,seval,m1,m2,true_or,b1,b1d,b1e,b2,IdxR_wrs,hw,hwc,hjm,setAll,setAt,get_last,set_last,Int.toNat_natCast,List.length_append,List.length_take];refine ⟨_,h47,?_⟩;rintro _ _ ⟨rfl,rfl⟩;simp only [lA,lP,seval,m1,m2,b1,b1d,b1e,b2,IdxR_wrs,hw,hwc,hjm,setAll,setAt,get_last,set_last,List.length_append,List.length_take])|with_reducible refine any_i [B,W] ?_|simp (disch:=omega) only [lE,seval,m1,m2,b1,b1d,b1e,b2,IdxR_wrs,hw,hwc,hjm,setAll,setAt,get_last,set_last,List.length_append,List.length_take])
       all_goals try omega
       all_goals (
        have hgo:∀ L,L=(M2.set W AObj.dead++[AObj.arr 3 1 (((ws.take (j+1)).map fun w:WR=>itemI w.key).map (AV.int .i64))]).set B (bx6 t R RS.length M2.length (j+1))->j+1<=ws.length/\L[B]?=some (bx6 t R RS.length M2.length (j+1))/\L[M2.length]?=some (AObj.arr 3 1 (((ws.take (j+1)).map fun w:WR=>itemI w.key).map (AV.int .i64)))/\L[R]?=some (AObj.arr 3 1 (RS.map (AV.int .i64)))/\Ext M L/\NV L/\M2.length≠B/\M2.length≠R/\M.length<=M2.length:=by
         rintro L rfl;have hRl2:=at_lt b3;refine ⟨by omega,at_same _ _ _ (by simp;omega),?_,?_,?_,((b5.set rfl).app (nov_ints _)).set rfl,by omega,by omega,by omega⟩
         . rw [zN,get_lastN (by simp)]
         . rw [at_set _ _ _ _ hBR,at_app _ _ _ (by simpa using hRl2),at_set _ _ _ _ hWR];exact b3
         . exact ((b4.trans (O':=fun i=>i=W) (Stay.set rfl) fun i hi h=>by omega).trans (O':=fun _=>False) (Stay.app _ _ _) fun _ _ h=>h).trans (O':=fun i=>i=B) (Stay.set rfl) fun i hi h=>by omega
        refine back_i (j+1,M2.length,(M2.set W AObj.dead++[AObj.arr 3 1 (((ws.take (j+1)).map fun w:WR=>itemI w.key).map (AV.int .i64))]).set B (bx6 t R RS.length M2.length (j+1))) (hgo _ rfl) (by simp only;omega) ?_;simp only [htk,List.map_append,List.map_cons,List.map_nil];exact zE)
     . obtain rfl:j=ws.length:=(by omega);rw [List.take_length] at b2;unfold bx6 at b1;have ho2:M2[o]?=some (.arr 43 6 (ds.map elD)):=b4.at ho;have ho3:∀ x,(M2++[x])[o]?=some (.arr 43 6 (ds.map elD)):=fun x=>(by rw [at_app _ _ _ (by omega)];exact ho2);repeat' (first|(with_reducible first|(apply zS;constructor)<;>intro _|refine ai ?_|(apply zQ;constructor))|simp (disch:=omega) only [lE,seval,b1,ho2,ho3,get_last,set_last,Int.lt_irrefl,List.length_append])
       all_goals try omega
       have hRl2:=at_lt b3;have hxo:∀ x:AObj,Stay (fun i=>i=o) M2 ((M2++[x]).set o .dead++[AObj.arr 43 6 (ds.map elD++[elD (acc,R,W)])]):=fun x=>((Stay.app (fun i=>i=o) _ _).trans (O':=fun i=>i=o) (Stay.set rfl) fun _ _ h=>h).trans (O':=fun _=>False) (Stay.app _ _ _) fun _ _ h=>h.elim;have hod:∀ d ∈ ds,¬ d.2.1=o/\¬ d.2.2=o:=fun d hd=>⟨fun e=>(by have:=(hat.at' d hd).1;rw [e,ho] at this;cases this),fun e=>(by have:=(hat.at' d hd).2;rw [e,ho] at this;cases this)⟩
       refine back_i (k+1,M2.length+1,ds++[(acc,R,W)],(M2++[AObj.arr 43 6 [elD (acc,R,W)]]).set o .dead++[AObj.arr 43 6 (ds.map elD++[elD (acc,R,W)])]) ⟨by simp only;omega,?_,?_,⟨fun d hd=>?_⟩,(((b5.app rfl).set rfl).app ?_)⟩ (by simp only;omega) ?_
       . simp only;rw [show M2.length+1=((M2++[AObj.arr 43 6 [elD (acc,R,W)]]).set o .dead).length by simp,get_last];simp
       . simp only;rw [hnx,List.map_append,hds];rfl
       . rcases List.mem_append.1 hd with hd | hd
         . obtain ⟨g1,g2⟩:=(hat.stay b4 (fun _ _=>⟨id,id⟩)).at' d hd;exact ⟨(hxo _).at g1 (hod d hd).1,(hxo _).at g2 (hod d hd).2⟩
         . rw [List.mem_singleton.1 hd];have hr:acc.reads=RS:=(by rw [hac]);have hw:acc.writes=ws.map fun w=>itemI w.key:=(by rw [hac]);simp only [hr,hw];exact ⟨(hxo _).at b3 (by omega),(hxo _).at b2 (by omega)⟩
       . have:=nov_elD (ds++[(acc,R,W)]);rw [List.map_append] at this;exact this
       . have hel:elD (acc,R,W)=.agg [.int .i64 t.mode,.int .i64 t.snap,.bool t.done,.int .i64 t.stamp,.slc R 1 RS.length,.slc W 1 ws.length]:=(by rw [hac];simp [elD]);rw [hel];exact zE
 . obtain rfl:k=l.length:=by omega
   have ht:(histU l).take l.length=histU l:=List.take_of_length_le (by rw [histU_len];exact Nat.le_refl _);rw [ht] at hds;repeat' (first|(with_reducible first|(apply zS;constructor)<;>intro _|refine ai ?_|(apply zQ;constructor))|simp (disch:=omega) only [lE,seval,Int.lt_irrefl])
   all_goals try omega
   refine ⟨⟨o,ds,by rw [<- hds,List.length_map],ho,hds,hat⟩,rfl,List.all_eq_true.2 hnv⟩
end Go.Proofs.Try
