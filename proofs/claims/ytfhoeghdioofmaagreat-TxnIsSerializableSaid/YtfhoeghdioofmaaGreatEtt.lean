/-
 A part of the proof.
-/
import Derived.Test.YtfhoeghdioofmaaGreatErr
set_option linter.unusedSimpArgs false
set_option linter.unusedVariables false
namespace Go.Proofs.Try
open Go.Proofs.Tryz
open Go.Al
set_option maxRecDepth 100000
abbrev q23_0:MI:=oL 63 62
abbrev q23_1:MI:=oL 98 97
abbrev q23_2:MI:=.e (.mkl 58 3 1 0 (.int .i64 0) [])
abbrev q23_3:MI:=.e (.mkl 67 3 1 1 (.int .i64 0) [(0,.t 66)])
abbrev q23_4:MI:=.e (.mkl 93 59 4 0 (.agg z1) [])
abbrev q23_5:MI:=.e (.mkl 105 59 4 1 (.agg z1) [(0,.t 104)])
abbrev q23_6:AT:=.alt none (.e (.app 68 3 1 8 (.t 64) (.t 67))) (.pure0 none (oQ 69 8 56 57) (.pure0 none (oF 70 7 69) (.alt none (.e (.store 1 false (.t 70) (.t 68))) .done .stop))) .stop
abbrev q23_7:AT:=.alt none (.e (.app 106 59 4 48 (.t 99) (.t 105))) (.pure0 none (oQ 107 8 91 92) (.pure0 none (oF 108 5 107) (.alt none (.e (.store 1 false (.t 108) (.t 106))) .done .stop))) .stop
abbrev q23_8:AT:=.alt none (.e (.app 122 59 4 48 (.t 113) (.t 121))) (.pure0 none (oQ 123 8 111 112) (.pure0 none (oF 124 5 123) (.alt none (.e (.store 1 false (.t 124) (.t 122))) .done .stop))) .stop
abbrev q23_9:AT:=.alt none (.e (.app 64 3 1 8 (.t 58) (.t 63))) q23_6 .stop
abbrev q23_10:AT:=.alt none (.e (.app 99 59 4 48 (.t 93) (.t 98))) q23_7 .stop
abbrev q23_11:AT:=.alt none (.e (.app 79 3 1 8 (.t 73) (.t 78))) (.alt none (oW 84 47 81 83) (.alt none (.e (.mkl 85 3 1 1 (.int .i64 0) [(0,.t 84)])) (.alt none (.e (.app 86 3 1 8 (.t 79) (.t 85))) (.pure0 none (oQ 87 8 71 72) (.pure0 none (oF 88 6 87) (.alt none (.e (.store 1 false (.t 88) (.t 86))) .done .stop))) .stop) .stop) .stop) .stop
abbrev q23_12:AT:=.alt none (.e (.app 64 3 1 8 (.t 58) (.t 63))) (.alt none q23_3 q23_6 .stop) (.alt none q23_3 q23_9 .stop)
abbrev q23_13:AT:=.alt none (.e (.app 99 59 4 48 (.t 93) (.t 98))) (.alt none q23_5 q23_7 .stop) (.alt none q23_5 q23_10 .stop)
def mc23:MC:=(.seq (.ops [pK 5 1,pK 6 2,pY 8]) (.seq (.seq (.ops [pF 11 2 6,pL 12 11,pD 13 12 0,pM 14 13,gT 14 (oF 15 0 5),gT 14 (oL 16 15),gT 14 (oD 17 16 5),pP 18 14 17]) (.cond 18 (.seq (.ops [pM 19 0,pM 8 19]) .ret) .skip)) (.seq (.seq (.ops [pF 20 0 5,pL 21 20,pE 22 21 0]) (.cond 22 (.seq (.ops [pM 23 0,pF 24 0 6,pL 25 24,pF 26 2 5,pL 27 26,pM 28 3,(none,.v (.build 29 z2 [(0,1,.t 25),(1,1,.t 27),(2,1,.t 28)])),(none,.e (.mkl 30 49 8 1 (.agg z2) [(0,.t 29)])),(none,.e (.app 31 49 8 112 (.t 23) (.t 30))),pM 8 31]) .ret) .skip)) (.seq (.ops [(none,.e (.mkl 32 49 8 0 (.agg z2) [])),pM 33 0,(none,.e (.app 34 49 8 112 (.t 32) (.t 33))),pM 9 34]) (.seq (.seq (.ops [pI 10 0]) (.block 0 (.loop (.seq (.seq (.ops [pM 35 10,pM 36 9,pG 37 36,pB 38 35 37]) (.cond 38 .skip (.exit 0))) (.seq (.block 1 (.seq (.seq (.any false (.pure0 none (oM 41 9) (.pure0 none (oM 42 10) (.pure0 none (oQ 43 8 41 42) (.pure0 none (oF 44 0 43) (.pure0 none (oL 45 44) (.pure0 none (oF 46 1 5) (.pure0 none (oL 47 46) (.pure0 none (.v (.bin 48 .neq false (.t 45) (.t 47))) .done))))))))) (.cond 48 (.exit 1) .skip)) (.seq (.ops [pF 49 0 5,pL 50 49]) (.block 2 (.seq (.ops [pE 52 50 1,pM 51 52]) (.cond 51 (.seq (.ops [pF 53 3 5,pL 54 53,pE 55 54 0]) (.cond 55 (.any true (.pure0 none (oM 56 9) (.pure0 none (oM 57 10) (.pure0 none (oM 59 9) (.pure0 none (oM 60 10) (.pure0 none (oQ 61 8 59 60) (.pure0 none (oF 62 7 61) (.pure0 none (oF 65 2 5) (.pure0 none (oL 66 65) (.alt none q23_2 (.alt none q23_0 q23_12 (.alt none q23_3 (.alt none q23_0 q23_9 .stop) .stop)) (.alt none q23_0 (.alt none q23_2 q23_12 (.alt none q23_3 (.alt none q23_2 q23_9 .stop) .stop)) (.alt none q23_3 (.alt none q23_2 (.alt none q23_0 q23_9 .stop) (.alt none q23_0 (.alt none q23_2 q23_9 .stop) .stop)) .stop)))))))))))) (.any true (.pure0 none (oM 71 9) (.pure0 none (oM 72 10) (.pure0 none (oM 74 9) (.pure0 none (oM 75 10) (.pure0 none (oQ 76 8 74 75) (.pure0 none (oF 77 6 76) (.pure0 none (oF 80 2 5) (.pure0 none (oL 81 80) (.pure0 none (oF 82 3 5) (.pure0 none (oL 83 82) (.alt none (.e (.mkl 73 3 1 0 (.int .i64 0) [])) (.alt none (oL 78 77) q23_11 .stop) (.alt none (oL 78 77) (.alt none (.e (.mkl 73 3 1 0 (.int .i64 0) [])) q23_11 .stop) .stop))))))))))))))) (.seq (.ops [pE 90 50 2,pM 89 90]) (.cond 89 (.any true (.pure0 none (oM 91 9) (.pure0 none (oM 92 10) (.pure0 none (oM 94 9) (.pure0 none (oM 95 10) (.pure0 none (oQ 96 8 94 95) (.pure0 none (oF 97 5 96) (.pure0 none (oF 100 2 5) (.pure0 none (oL 101 100) (.pure0 none (oF 102 3 5) (.pure0 none (oL 103 102) (.pure0 none (.v (.build 104 z1 [(0,1,.t 101),(1,1,.t 103)])) (.alt none q23_4 (.alt none q23_1 q23_13 (.alt none q23_5 (.alt none q23_1 q23_10 .stop) .stop)) (.alt none q23_1 (.alt none q23_4 q23_13 (.alt none q23_5 (.alt none q23_4 q23_10 .stop) .stop)) (.alt none q23_5 (.alt none q23_4 (.alt none q23_1 q23_10 .stop) (.alt none q23_1 (.alt none q23_4 q23_10 .stop) .stop)) .stop))))))))))))))) (.seq (.ops [pE 110 50 4,pM 109 110]) (.cond 109 (.any true (.pure0 none (oM 111 9) (.pure0 none (oM 112 10) (.pure0 none (oM 114 9) (.pure0 none (oM 115 10) (.pure0 none (oQ 116 8 114 115) (.pure0 none (oF 117 5 116) (.pure0 none (oF 119 2 5) (.pure0 none (oL 120 119) (.alt none (.e (.mkl 113 59 4 0 (.agg z1) [])) (.alt none (oL 118 117) (.pure1 none (.p (.pre 121 4 (.t 118) (some (.t 120)))) q23_8) .stop) (.alt none (oL 118 117) (.pure1 none (.p (.pre 121 4 (.t 118) (some (.t 120)))) (.alt none (.e (.mkl 113 59 4 0 (.agg z1) [])) q23_8 .stop)) .stop))))))))))) (.seq (.ops [pE 126 50 5,pM 125 126]) (.cond 125 (.seq (.ops [pM 127 9,pM 128 10,pF 129 2 6,pL 130 129,pE 131 130 0,pQ 132 8 127 128,pF 133 3 132,(none,.e (.store 1 false (.t 133) (.t 131)))]) (.seq (.ops [pM 134 9,pM 135 10,pF 136 0 6,pL 137 136,pQ 138 8 134 135,pF 139 4 138,(none,.e (.store 1 false (.t 139) (.t 137)))]) (.seq (.ops [pF 140 2 6,pL 141 140,pD 142 141 0]) (.cond 142 (.seq (.any true (.pure0 none (oM 143 9) (.pure0 none (oM 144 10) (.pure0 none (.p (.pre 145 8 (.t 143) (some (.t 144)))) (.pure0 none (oM 146 9) (.pure0 none (oM 147 10) (.pure0 none (oA 148 147 1) (.pure0 none (.p (.cut 149 8 (.t 146) (.t 148) none)) (.alt none (.e (.app 150 49 8 112 (.t 145) (.t 149))) (.pure1 none (oM 8 150) .done) .stop))))))))) .ret) .skip)))) (.seq (.ops [pE 152 50 6,pM 151 152]) (.cond 151 (.seq (.any true (.pure0 none (oM 153 9) (.pure0 none (oM 154 10) (.pure0 none (.p (.pre 155 8 (.t 153) (some (.t 154)))) (.pure0 none (oM 156 9) (.pure0 none (oM 157 10) (.pure0 none (oA 158 157 1) (.pure0 none (.p (.cut 159 8 (.t 156) (.t 158) none)) (.alt none (.e (.app 160 49 8 112 (.t 155) (.t 159))) (.pure1 none (oM 8 160) .done) .stop))))))))) .ret) .skip)))))))))))))) (.ops [pM 39 10,pA 40 39 1,pM 10 40])))))) (.seq (.ops [pM 161 9,pM 8 161]) .ret))))))
theorem ok23:FnOk E 23 162 [.tmp 8] mc23:=ofk func23
set_option maxHeartbeats 16000000
theorem WeakL.append {xs xs' ys ys':List AV} (h:WeakL xs xs') (k:WeakL ys ys'):WeakL (xs++ys) (xs'++ys'):=fun γ σ vs hr=>by
 obtain ⟨v1,v2,rfl,h1,h2⟩:=repVs_append hr
 exact RepVs.append (h _ _ _ h1) (k _ _ _ h2)
theorem cl_cs (c:CL):c.cs=[.int .i64 c.kind,.int .i64 c.tx,.int .i64 c.a,.int .i64 c.b,.bool c.dead,rowV c.vals]:=rfl
def fN (tx:Int) (f:UX->UX) (u:UX):UX:=if u.num=tx then f u else u
def curL (all:List UX) (f:UX->UX) (k:Nat):List UX:=(all.take k).map f++all.drop k
theorem curL_len (all:List UX) (f:UX->UX) (k:Nat):(curL all f k).length=all.length:=by simp [curL];omega
theorem curL_zero (all:List UX) (f:UX->UX):curL all f 0=all:=by simp [curL]
theorem curL_all (all:List UX) (f:UX->UX):curL all f all.length=all.map f:=by simp [curL]
theorem curL_get {all:List UX} {f:UX->UX} {k:Nat} (hk:k<all.length):(curL all f k)[k]?=some (all.getD k default):=by
 have hl:((all.take k).map f).length=k:=by simp;omega
 rw [curL,List.getElem?_append_right (by omega),hl,Nat.sub_self]
 simp [hk]
theorem curL_split {all:List UX} {f:UX->UX} {k:Nat} (hk:k<all.length):curL all f k=(all.take k).map f++all.getD k default::all.drop (k+1):=by
 have hge:all[k]=all.getD k default:=by simp [hk]
 rw [curL,List.drop_eq_getElem_cons hk,hge]
theorem curL_next {all:List UX} {f:UX->UX} {k:Nat} (hk:k<all.length):curL all f (k+1)=(all.take k).map f++f (all.getD k default)::all.drop (k+1):=by
 rw [curL,take_succD hk];simp
theorem st_el {P:Program} {m:Nat} {N:FN} {xs bs:List AV} {id sz n off:Nat} {x v:AV} {E':TypeId} {fr:List (Nat × AV)} {H:List AObj} {q:Ke} (hx:xs[n]?=some (.agg bs)) (ho:off<bs.length) :
 stE P m N (some (.arr E' sz xs)) 1 [v] x id sz n off fr H q=rE P m N q fr (H.set id (.arr E' sz (xs.set n (.agg (bs.set off v))))):=by
 have e:setAt bs off [v]=bs.set off v:=by rw [List.set_eq_take_append_cons_drop,if_pos ho];simp [setAt]
 unfold stE
 simp only [hx]
 rw [e]
 simp [Nat.succ_le_iff,ho]
theorem flat_wr (x:WR):∀ (γ:Gm) (σ:Sg) v,RepV γ σ x.av v->RepV γ [] x.av v:=flatA_agg (flatA_cons (fun _ _ _ h=>h) (flatA_cons (fun _ _ _ h=>h) (flatA_cons (fun _ _ _ h=>h) (flatA_cons (fun γ σ v h=>by unfold rowV at *;unfold RepV at *;exact h) flatA_nil))))
theorem flat_wrs (l:List WR):Flat (l.map WR.av):=flatA_map flat_wr l
theorem flat_w0 (x y:Int) (d:Bool):Flat [AV.agg [.int .i64 x,.int .i64 y,.bool d,.raw (.slice none 0 0)]]:=flatA_cons (flatA_agg (flatA_cons (fun _ _ _ h=>h) (flatA_cons (fun _ _ _ h=>h) (flatA_cons (fun _ _ _ h=>h) (flatA_cons (fun _ _ _ h=>h) flatA_nil))))) flatA_nil
theorem flat_app {xs ys:List AV} (h:Flat xs) (k:Flat ys):Flat (xs++ys):=fun γ σ vs hr=>by
 obtain ⟨v1,v2,rfl,h1,h2⟩:=repVs_append hr
 exact RepVs.append (h _ _ _ h1) (k _ _ _ h2)
theorem flat_wrs_take (l:List WR) (z:Nat):Flat (List.take z (l.map WR.av)):=by rw [<- List.map_take];exact flat_wrs _
theorem flat_snoc (l:List Int) (c:Int):Flat (l.map (AV.int .i64)++[.int .i64 c]):=by
 have:=flatA_ints (l++[c]) (k:=.i64)
 simpa using this
theorem c23 {H:List AObj} {a:Nat} (all:List UX) (c:CL) (got:RS) (shown:Int) (hH:H[a]?=some (.arr 49 8 (all.map UX.av))) (hn:all.length<=100) (hnd:(all.map (·.num)).Nodup)
 (hlen:∀ u ∈ all,u.rows.length<=1000/\u.log.length<=1000/\u.whole.length<=1000) (hcb:c.kind=1->(0<=c.a/\c.a<=255)/\0<=c.b/\c.b<=1073741824) (h4:c.kind=4->got.e=0->∀ u ∈ all,u.num=c.tx->0<=c.a/\c.a<=u.log.length) :
 ACalls E.P 23 [.slc a 8 all.length,c.av,got.av,.int .i64 shown] H (fun r H'=>∃ id,r=.slc id 8 (begunS all c got shown).length/\H'[id]?=some (.arr 49 8 ((begunS all c got shown).map UX.av))/\Stay (fun i=>i=a) H H'/\(id=a\/H.length<=id)):=by
 have hmax:=maxLen_eq
 have hal:=at_lt hH
 obtain ⟨gn,gw,ge⟩:=got
 have e0:∀ o o',(H++[o]++[o'])[H.length]?=some o:=fun o o'=>by rw [at_app _ _ _ (by simp)];exact get_last
 have e1:∀ o o',(H++[o]++[o'])[H.length+1]?=some o':=fun o o'=>by rw [show H.length+1=(H++[o]).length by simp];exact get_last
 have e2:∀ o o',(H++[o]++[o'])[a]?=some (.arr 49 8 (all.map UX.av)):=fun o o'=>by rw [at_app _ _ _ (by simp;omega),at_app _ _ _ hal];exact hH
 have hrs:∀ n w e,RS.cs ⟨n,w,e⟩=[.int .i64 n,.view 4 (w.map WR.av),.int .i64 e]:=fun _ _ _=>rfl
 simp only [CL.av,RS.av]
 by_cases hA:ge≠0/\c.kind≠5
 . have hbg:begunS all c ⟨gn,gw,ge⟩ shown=all:=by unfold begunS;rw [if_pos hA]
   rw [hbg]
   obtain ⟨hA1,hA2⟩:=hA
   refine ok23.acalls0 hE hm (by simp) fun N hN=>?_
   unfold mc23 q23_13 q23_12 q23_11 q23_10 q23_9 q23_8 q23_7 q23_6 q23_5 q23_4 q23_3 q23_2 q23_1 q23_0 z1 z2 pK pY pF pL pD pM pP pE pI pG pB pQ pA gT oM oL oF oD oA oQ oW
   simp only [lA,seval]
   repeat' (first|(with_reducible apply St.o;constructor) <;> intro _|((with_reducible refine mkl_view ?_ ?_ ?_);(focus decide);(focus rfl))|(with_reducible first|refine ai ?_|(apply Sq.o;constructor))|simp (disch:=omega) only [lE,seval,cl_cs,hrs,e0,e1,e2,get_last,hA1,hA2,decide_false,List.length_append,List.length_cons,List.length_nil])
   all_goals try contradiction
   refine ⟨a,rfl,e2 _ _,?_,.inl rfl⟩
   rw [List.append_assoc];exact Stay.app _ _ _
 by_cases k0:c.kind=0
 . have hge:ge=0:=Classical.byContradiction fun h=>hA ⟨h,by omega⟩
   have hbg:begunS all c ⟨gn,gw,ge⟩ shown=all++[⟨gn,c.a,shown,false,0,[],[],[]⟩]:=by unfold begunS;rw [if_neg hA,if_pos k0]
   rw [hbg]
   subst hge
   refine ACalls.weakO ?_
   refine ok23.acalls0 hE hm (by simp) fun N hN=>?_
   unfold mc23 q23_13 q23_12 q23_11 q23_10 q23_9 q23_8 q23_7 q23_6 q23_5 q23_4 q23_3 q23_2 q23_1 q23_0 z1 z2 pK pY pF pL pD pM pP pE pI pG pB pQ pA gT oM oL oF oD oA oQ oW
   simp only [lA,seval]
   repeat' (first|(with_reducible apply St.o;constructor) <;> intro _|((with_reducible refine mkl_view ?_ ?_ ?_);(focus decide);(focus rfl))|(with_reducible first|refine ai ?_|(apply Sq.o;constructor))|simp (disch:=omega) only [lE,seval,cl_cs,hrs,e0,e1,e2,get_last,k0,decide_true,List.length_append,List.length_cons,List.length_nil])
   all_goals try (exfalso;omega)
   obtain ⟨H1,hH1⟩:∃ H1,H1=(H++[AObj.box [.int .i64 0,.int .i64 c.tx,.int .i64 c.a,.int .i64 c.b,.bool c.dead,rowV c.vals]]++[AObj.box [.int .i64 gn,.view 4 (gw.map WR.av),.int .i64 0]]).set a .dead:=⟨_,rfl⟩
   have hl1:H1.length=H.length+2:=by rw [hH1];simp
   have hs1:Stay (fun i=>i=a) H H1:=by rw [hH1,List.append_assoc];exact (Stay.app (fun i=>i=a) _ _).trans (O':=fun i=>i=a) (Stay.set rfl) fun _ _ h=>h
   rw [<- hH1]
   refine ⟨H1.length,49,8,_,(all++[UX.mk gn c.a shown false 0 [] [] []]).map UX.av,get_last,?_,by simp,H1.length,by simp [hl1],?_,?_,.inr (by omega)⟩
   . rw [List.map_append]
     refine WeakL.append (WeakL.refl _) (.cons ?_ (.refl _))
     exact WeakL.agg (.cons (.refl _) (.cons (.refl _) (.cons (.refl _) (.cons (.refl _) (.cons (.refl _) (.cons weak_nil (.cons weak_nil (.cons weak_nil (.refl _)))))))))
   . rw [List.getElem?_set_self (by simp)]
   . exact (hs1.trans (O':=fun _=>False) (Stay.app _ _ _) fun _ _ h=>h.elim).trans (O':=fun i=>i=H1.length) (Stay.set rfl) fun i hi h=>by omega
 obtain ⟨O,hO⟩:∃ O,O=H++[AObj.box c.cs]++[AObj.box (RS.cs ⟨gn,gw,ge⟩)]:=⟨_,rfl⟩
 have hOl:O.length=H.length+2:=by rw [hO];simp
 have hOx:Ext H O:=by rw [hO,List.append_assoc];exact Stay.app _ _ _
 have g0:O[H.length]?=some (AObj.box c.cs):=by rw [hO];exact e0 _ _
 have g1:O[H.length+1]?=some (AObj.box (RS.cs ⟨gn,gw,ge⟩)):=by rw [hO];exact e1 _ _
 have g2:O[a]?=some (.arr 49 8 (all.map UX.av)):=by rw [hO];exact e2 _ _
 have q0:∀ o,(O++[o])[a]?=some (.arr 49 8 (all.map UX.av)):=fun o=>by rw [at_app _ _ _ (at_lt g2)];exact g2
 simp only [cl_cs,hrs] at g0 g1
 have q1:∀ o,(O++[o])[H.length+1+1]?=some o:=fun o=>by
  have:H.length+1+1=O.length:=by omega
  rw [this];exact get_last
 have q2:∀ o o',(O++[o]).set (H.length+1+1) o'=O++[o']:=fun o o'=>by
  have:H.length+1+1=O.length:=by omega
  rw [this];exact set_last
 have hcase:ge=0\/c.kind=5:=by
  by_cases h:ge=0
  . exact .inl h
  . exact .inr (Classical.byContradiction fun h2=>hA ⟨h,h2⟩)
 obtain ⟨RM,hRM⟩:∃ RM:Prop,RM=((c.kind=5/\ge≠0)\/c.kind=6):=⟨_,rfl⟩
 obtain ⟨g,hg1,hg2,hg3⟩:∃ g:UX->UX,(∀ u,u.num≠c.tx->g u=u)/\(¬ RM->∀ u,u.num=c.tx->g u=stepU c ⟨gn,gw,ge⟩ u)/\(RM->∀ u,g u=u):=by
  by_cases h:RM
  . exact ⟨_root_.id,fun _ _=>rfl,fun h'=>absurd h h',fun _ _=>rfl⟩
  . exact ⟨fN c.tx (stepU c ⟨gn,gw,ge⟩),fun u hu=>by unfold fN;rw [if_neg hu],fun _ u hu=>by unfold fN;rw [if_pos hu],fun h'=>absurd h' h⟩
 have hend:(∀ u ∈ all,RM->u.num≠c.tx)->begunS all c ⟨gn,gw,ge⟩ shown=all.map g:=fun hno=>by
  unfold begunS
  rw [if_neg hA,if_neg k0]
  by_cases h:RM
  . rw [if_pos (by rw [hRM] at h;exact h)]
    have e1:(all.filter fun u=>decide (u.num≠c.tx))=all:=List.filter_eq_self.2 fun u hu=>by simpa using hno u hu h
    have e2:all.map g=all:=(List.map_congr_left fun u _=>hg3 h u).trans (List.map_id _)
    rw [e1,e2]
  . rw [if_neg (by rw [hRM] at h;exact h)]
    unfold mapN
    refine List.map_congr_left fun u _=>?_
    by_cases hu:u.num=c.tx
    . rw [if_pos hu,hg2 h u hu]
    . rw [if_neg hu,hg1 u hu]
 have hrem:∀ k,k<all.length->RM->(all.getD k default).num=c.tx->begunS all c ⟨gn,gw,ge⟩ shown=all.take k++all.drop (k+1):=fun k hk h hu=>by
  unfold begunS
  rw [if_neg hA,if_neg k0,if_pos (by rw [hRM] at h;exact h)]
  have hsp:all=all.take k++all.getD k default::all.drop (k+1):=by
   have:=curL_split (f:=_root_.id) hk
   simpa [curL] using this
  have hn1:∀ u ∈ all.take k++all.drop (k+1),u.num≠c.tx:=fun u hu2 e=>by
   rw [hsp,List.map_append,List.map_cons,List.nodup_append,List.nodup_cons] at hnd
   obtain ⟨_,⟨h2,_⟩,h3⟩:=hnd
   rcases List.mem_append.1 hu2 with h4 | h4
   . exact h3 u.num (List.mem_map.2 ⟨u,h4,rfl⟩) (all.getD k default).num (by simp) (e.trans hu.symm)
   . exact h2 (List.mem_map.2 ⟨u,h4,e.trans hu.symm⟩)
  conv=>lhs;rw [hsp]
  rw [List.filter_append,List.filter_cons_of_neg (by simpa using hu),<- List.filter_append]
  exact List.filter_eq_self.2 fun u hu2=>by simpa using hn1 u hu2
 have htake:(all.map UX.av).take all.length=all.map UX.av:=by rw [List.take_of_length_le (by simp)]
 simp only [cl_cs,hrs] at hO
 refine ok23.acalls0 hE hm (by simp) fun N hN=>?_
 unfold mc23 q23_13 q23_12 q23_11 q23_10 q23_9 q23_8 q23_7 q23_6 q23_5 q23_4 q23_3 q23_2 q23_1 q23_0 z1 z2 pK pY pF pL pD pM pP pE pI pG pB pQ pA gT oM oL oF oD oA oQ oW
 simp only [lA,seval]
 repeat' (first|(with_reducible first|(apply St.o;constructor)<;>intro _|refine ai ?_|(apply Sq.o;constructor))|simp (disch:=omega) only [lE,seval,cl_cs,hrs,e0,e1,e2,get_last,k0,decide_false,List.length_append,List.length_cons,List.length_nil])
 all_goals try (exfalso;omega)
 all_goals (
  repeat (rename_i hgone;clear hgone)
  rw [<- hO]
  repeat' (first|(with_reducible first|(apply St.o;constructor)<;>intro _|refine ai ?_|(apply Sq.o;constructor))|simp (disch:=omega) only [lE,seval,g0,g1,q0,q1,q2,htake,get_last,set_last,List.length_append,List.length_cons,List.length_nil,List.length_map])
  refine loop_i (fun p:Nat × List AObj=>p.1<=all.length/\Ext H p.2/\H.length+4<=p.2.length/\p.2[H.length]?=some (AObj.box [.int .i64 c.kind,.int .i64 c.tx,.int .i64 c.a,.int .i64 c.b,.bool c.dead,rowV c.vals])/\p.2[H.length+1]?=some (AObj.box [.int .i64 gn,.view 4 (gw.map WR.av),.int .i64 ge])/\p.2[H.length+3]?=some (.arr 49 8 ((curL all g p.1).map UX.av))/\∀ u ∈ all.take p.1,RM->u.num≠c.tx)
   (fun p=>⟨[(5,.op H.length 0),(6,.op (H.length+1) 0),(9,.slc (H.length+3) 8 all.length),(10,.int .i64 p.1)],p.2⟩) (fun p=>all.length - p.1) (0,O++[AObj.dead]++[.arr 49 8 (all.map UX.av)])
   ⟨by simp,by simp only;rw [List.append_assoc];exact hOx.trans (O':=fun _=>False) (Stay.app _ _ _) fun _ _ h=>h,by simp;omega,by simp only;rw [at_app _ _ _ (by simp;omega),at_app _ _ _ (by omega)];exact g0,by simp only;rw [at_app _ _ _ (by simp;omega),at_app _ _ _ (by omega)];exact g1,by simp only;rw [curL_zero,show H.length+3=(O++[AObj.dead]).length by simp;omega];exact get_last,by simp⟩ (Ent.fr (by simp [FrSub,Go.Al.get];omega)) ?_
  rintro ⟨k,H2⟩ ⟨hk,hx2,hl2,b0,b1,b2,hno⟩
  simp only at hk hx2 hl2 b0 b1 b2 hno ⊢
  by_cases hkl:k<all.length
  . have hum:=getD_mem' hkl
    have hlt:((k:Int)<(all.length:Int)):=by omega
    have hcl:=curL_len all g k
    have hep:∀ {m N d c},epR E.P m N (some (.arr 49 8 ((curL all g k).map UX.av))) (k:Int) all.length (H.length+3) 8 d c=rK E.P m N c d (.ep (H.length+3) 8 k 0):=epR_ne (by rw [List.length_map,hcl]) (by omega) (by omega)
    have hget:=curL_get (f:=g) hkl
    have hsp:=curL_split (f:=g) hkl
    have hnx:=curL_next (f:=g) hkl
    obtain ⟨lu1,lu2,lu3⟩:=hlen _ hum
    have hstep:(all.getD k default).num≠c.tx->curL all g (k+1)=curL all g k/\∀ u ∈ all.take (k+1),RM->u.num≠c.tx:=fun hne=>⟨by rw [hnx,hsp,hg1 _ hne],fun u hu h=>by
     rw [take_succD hkl] at hu
     rcases List.mem_append.1 hu with hu | hu
     . exact hno u hu h
     . rw [List.mem_singleton.1 hu];exact hne⟩
    have h4u:=fun e1 e2 e3=>h4 e1 e2 _ hum e3
    have hrem':=hrem k hkl
    generalize hu:all.getD k default=u at *
    have hdg:((curL all g k).map UX.av)[k]?=some u.av:=by rw [List.getElem?_map,hget];rfl
    have hdav:u.av=.agg u.cs:=rfl
    by_cases hnum:u.num=c.tx
    . have b0d:(H2.set (H.length+3) AObj.dead)[H.length]?=some (AObj.box [.int .i64 c.kind,.int .i64 c.tx,.int .i64 c.a,.int .i64 c.b,.bool c.dead,rowV c.vals]):=by rw [at_set _ _ _ _ (by omega)];exact b0
      have w0:∀ o,(H2++[o])[H.length+3]?=some (.arr 49 8 ((curL all g k).map UX.av)):=fun o=>by rw [at_app _ _ _ (by omega)];exact b2
      have w1:∀ o o',(H2++[o]++[o'])[H.length+3]?=some (.arr 49 8 ((curL all g k).map UX.av)):=fun o o'=>by rw [at_app _ _ _ (by simp;omega)];exact w0 _
      have w2:∀ o o' o'',(H2++[o]++[o']++[o''])[H.length+3]?=some (.arr 49 8 ((curL all g k).map UX.av)):=fun o o' o''=>by rw [at_app _ _ _ (by simp;omega)];exact w1 _ _
      have w3:∀ o o',(H2++[o]++[o'])[H2.length+1]?=some o':=fun o o'=>by rw [show H2.length+1=(H2++[o]).length by simp];exact get_last
      have w4:∀ o o' o'',(H2++[o]++[o']).set (H2.length+1) o''=H2++[o]++[o'']:=fun o o' o''=>by rw [show H2.length+1=(H2++[o]).length by simp];exact set_last
      obtain ⟨A,hA0⟩:∃ A,A=((all.take k).map g).map UX.av:=⟨_,rfl⟩
      obtain ⟨B,hB0⟩:∃ B,B=(all.drop (k+1)).map UX.av:=⟨_,rfl⟩
      have hAl:A.length=k:=by rw [hA0];simp;omega
      have hset:∀ X,((curL all g k).map UX.av).set k X=A++X::B:=fun X=>by
       rw [hsp,List.map_append,List.map_cons,<- hA0,<- hB0,List.set_append_right _ _ (by omega),hAl,Nat.sub_self];rfl
      have hnx':(curL all g (k+1)).map UX.av=A++(g u).av::B:=by rw [hnx,List.map_append,List.map_cons,<- hA0,<- hB0]
      have hst:∀ {off:Nat} {x v:AV} {fr:List (Nat × AV)} {L:List AObj} {q:Ke},off<8->stE E.P H.length N (some (.arr 49 8 ((curL all g k).map UX.av))) 1 [v] x (H.length+3) 8 k off fr L q=rE E.P H.length N q fr (L.set (H.length+3) (.arr 49 8 (A++.agg (u.cs.set off v)::B))):=fun ho=>by rw [st_el hdg ho,hset]
      have fin0:∀ {M:List AObj} {y:AObj},Stay (fun i=>i=H.length+3) H2 M->M[H.length+3]?=some y->Ext H M/\H.length+4<=M.length/\M[H.length]?=some (AObj.box [.int .i64 c.kind,.int .i64 c.tx,.int .i64 c.a,.int .i64 c.b,.bool c.dead,rowV c.vals])/\M[H.length+1]?=some (AObj.box [.int .i64 gn,.view 4 (gw.map WR.av),.int .i64 ge])/\M[H.length+3]?=some y:=fun hs hy=>⟨hx2.trans hs fun i hi h=>by omega,Nat.le_trans hl2 hs.1,hs.at b0 (by omega),hs.at b1 (by omega),hy⟩
      have fin:∀ {L:List AObj} {w:Nat} {x y:AObj},Ext H2 L->H2.length<=w->Ext H (((L.set (H.length+3) x).set (H.length+3) y).set w .dead)/\H.length+4<=(((L.set (H.length+3) x).set (H.length+3) y).set w .dead).length/\(((L.set (H.length+3) x).set (H.length+3) y).set w .dead)[H.length]?=some (AObj.box [.int .i64 c.kind,.int .i64 c.tx,.int .i64 c.a,.int .i64 c.b,.bool c.dead,rowV c.vals])/\(((L.set (H.length+3) x).set (H.length+3) y).set w .dead)[H.length+1]?=some (AObj.box [.int .i64 gn,.view 4 (gw.map WR.av),.int .i64 ge])/\(((L.set (H.length+3) x).set (H.length+3) y).set w .dead)[H.length+3]?=some y:=fun {L w x y} hL hw=>by
       have hl:=hL.1
       have hs:Stay (fun i=>i=H.length+3) H2 (((L.set (H.length+3) x).set (H.length+3) y).set w .dead):=((hL.to.trans (O':=fun i=>i=H.length+3) (Stay.set rfl) fun _ _ h=>h).trans (O':=fun i=>i=H.length+3) (Stay.set rfl) fun _ _ h=>h).trans (O':=fun i=>i=w) (Stay.set rfl) fun i hi h=>by omega
       refine ⟨hx2.trans hs fun i hi h=>by omega,by simp;omega,hs.at b0 (by omega),hs.at b1 (by omega),?_⟩
       rw [at_set _ _ _ _ (by omega)]
       exact at_same _ _ _ (by simp;omega)
      have hnr:c.kind≠5->c.kind≠6->¬ RM:=fun h5 h6 h=>by rw [hRM] at h;rcases h with h | h;exact h5 h.1;exact h6 h
      have hdn:decide (u.num=c.tx)=true:=decide_eq_true hnum
      have hgX:∀ X,(A++X::B)[k]?=some X:=fun X=>by rw [List.getElem?_append_right (by omega),hAl,Nat.sub_self];rfl
      have hBl:B.length+(k+1)=all.length:=by rw [hB0];simp;omega
      have hep2:∀ {X:AV} {m N d c},epR E.P m N (some (.arr 49 8 (A++X::B))) (k:Int) all.length (H.length+3) 8 d c=rK E.P m N c d (.ep (H.length+3) 8 k 0):=fun {X m N d c}=>epR_ne (by simp [hAl];omega) (by omega) (by omega)
      have hk1n:((k:Int)+1).toNat=k+1:=by omega
      have hcutB:∀ X,List.take (all.length - (k+1)) (List.drop (k+1) (A++X::B))=B:=fun X=>by rw [List.drop_append,List.drop_eq_nil_of_le (by omega),hAl,show k+1 - k=1 by omega];show List.take _ B=B;exact List.take_of_length_le (by omega)
      have hcutA:∀ X,List.take k (A++X::B)=A:=fun X=>by rw [<- hAl,List.take_left'];rfl
      have hcutL:k+1+(all.length - (k+1))<=A.length+(B.length+1):=by omega
      have b2':H2[H.length+3]?=some (.arr 49 8 (A++.agg u.cs::B)):=by rw [b2,hsp,List.map_append,List.map_cons,<- hA0,<- hB0];rfl
      have hrm:RM->∀ {M:List AObj},Ext H M->∀ r,r=AV.slc M.length 8 (k+B.length)->∃ id,r=.slc id 8 (begunS all c ⟨gn,gw,ge⟩ shown).length/\(M++[AObj.arr 49 8 (A++B)])[id]?=some (.arr 49 8 ((begunS all c ⟨gn,gw,ge⟩ shown).map UX.av))/\Stay (fun i=>i=a) H (M++[AObj.arr 49 8 (A++B)])/\(id=a\/H.length<=id):=fun hr {M} hM r hrr=>by
       rw [hrem' hr hnum]
       have hAe:A=(all.take k).map UX.av:=by rw [hA0,(List.map_congr_left fun u _=>hg3 hr u:(all.take k).map g=(all.take k).map _root_.id),List.map_id]
       refine ⟨M.length,?_,?_,Ext.to (Stay.trans hM (O':=fun _=>False) (Stay.app _ _ _) fun _ _ h=>h),.inr hM.1⟩
       . rw [hrr];congr 1;simp;omega
       . rw [get_last,List.map_append,<- hAe,<- hB0]
      by_cases k1:c.kind=1
      . have hk1:decide (c.kind=1)=true:=decide_eq_true k1
        have hRn:=hnr (by omega) (by omega)
        have hgu:=hg2 hRn u hnum
        by_cases kb:c.b=0
        . have hkb:decide (c.b=0)=true:=decide_eq_true kb
          have hsu:g u={ u with whole:=u.whole++[c.a] }:=by rw [hgu];unfold stepU;rw [if_pos k1,if_pos kb]
          repeat' (first|(with_reducible apply St.o;constructor) <;> intro _|((with_reducible refine mkl_view ?_ ?_ ?_);(focus decide);(focus rfl))|(with_reducible first|refine ai ?_|(apply Sq.o;constructor))|with_reducible refine any_i [H.length+3] ?_|simp (disch:=omega) only [lE,seval,b0,b0d,b1,b2,w0,w1,w2,w3,w4,hst,get_last,set_last,hep,hdg,hdav,ux_cs,hdn,hk1,hkb,hlt,List.length_append,List.length_cons,List.length_nil,Int.toNat_natCast,decide_true,decide_false,List.length_map])
          all_goals try (exfalso;omega)
          all_goals (
           have hyl:(u.whole.map (AV.int .i64)++[AV.int .i64 c.a]).length=u.whole.length+1:=by simp
           have hav:(g u).av=.agg ((u.cs.set 7 (.slc (H2.length+1+1) 1 (u.whole.length+1))).set 7 (.view 1 (u.whole.map (AV.int .i64)++[AV.int .i64 c.a]))):=by rw [hsu];simp [UX.av,UX.cs]
           obtain ⟨f1,f2,f3,f4,f5⟩:=fin (L:=H2++[AObj.dead]++[AObj.dead]++[AObj.arr 3 1 (u.whole.map (AV.int .i64)++[AV.int .i64 c.a])]) (w:=H2.length+1+1) (x:=.arr 49 8 (A++.agg (u.cs.set 7 (.slc (H2.length+1+1) 1 (u.whole.length+1)))::B)) (y:=.arr 49 8 (A++(g u).av::B)) (by rw [List.append_assoc,List.append_assoc];exact Stay.app _ _ _) (by omega)
           refine back_i (k+1,_) ⟨by simp only;omega,f1,f2,f3,f4,by simp only;rw [hnx'];exact f5,fun _ _ h=>absurd h hRn⟩ (by simp only;omega) ?_
           rw [hav,<- hyl]
           refine Ent.lendM (E:=3) ?_ ?_ (by omega) (at_same _ _ _ (by simp;omega)) ?_ (by simp [FrSub,Go.Al.get])
           . rw [at_set _ _ _ _ (by omega),show H2.length+1+1=(H2++[AObj.dead]++[AObj.dead]).length by simp];exact get_last
           . exact flat_snoc _ _
           . rw [hyl];rfl)
        . have hkb:decide (c.b=0)=false:=decide_eq_false kb
          have hsu:g u={ u with rows:=u.rows++[itemI (c.a,c.b)] }:=by rw [hgu];unfold stepU;rw [if_pos k1,if_neg kb]
          obtain ⟨hc1,hc2⟩:=hcb k1
          have h47:=c47 c.a c.b hc1 hc2
          repeat' (first|(with_reducible apply St.o;constructor) <;> intro _|((with_reducible refine mkl_view ?_ ?_ ?_);(focus decide);(focus rfl))|(with_reducible first|refine ai ?_|(apply Sq.o;constructor))|((with_reducible apply Sc.o true;constructor);simp only [lP,seval,b0,b0d,b1,b2,w0,w1,w2,w3,w4,hst,get_last,set_last,hep,hdg,hdav,ux_cs,hdn,hk1,hkb,hlt,List.length_append,List.length_cons,List.length_nil,Int.toNat_natCast,decide_true,decide_false,List.length_map];refine ⟨_,h47,?_⟩;rintro _ _ ⟨rfl,rfl⟩;simp only [lA,lP,seval,b0,b0d,b1,b2,w0,w1,w2,w3,w4,hst,get_last,set_last,hep,hdg,hdav,ux_cs,hdn,hk1,hkb,hlt,List.length_append,List.length_cons,List.length_nil,Int.toNat_natCast,decide_true,decide_false,List.length_map])|with_reducible refine any_i [H.length+3] ?_|simp (disch:=omega) only [lE,seval,b0,b0d,b1,b2,w0,w1,w2,w3,w4,hst,get_last,set_last,hep,hdg,hdav,ux_cs,hdn,hk1,hkb,hlt,List.length_append,List.length_cons,List.length_nil,Int.toNat_natCast,decide_true,decide_false,List.length_map])
          all_goals try (exfalso;omega)
          all_goals (
           have hyl:(u.rows.map (AV.int .i64)++[AV.int .i64 (itemI (c.a,c.b))]).length=u.rows.length+1:=by simp
           have hav:(g u).av=.agg ((u.cs.set 6 (.slc (H2.length+1+1) 1 (u.rows.length+1))).set 6 (.view 1 (u.rows.map (AV.int .i64)++[AV.int .i64 (itemI (c.a,c.b))]))):=by rw [hsu];simp [UX.av,UX.cs]
           obtain ⟨f1,f2,f3,f4,f5⟩:=fin (L:=H2++[AObj.dead]++[AObj.dead]++[AObj.arr 3 1 (u.rows.map (AV.int .i64)++[AV.int .i64 (itemI (c.a,c.b))])]) (w:=H2.length+1+1) (x:=.arr 49 8 (A++.agg (u.cs.set 6 (.slc (H2.length+1+1) 1 (u.rows.length+1)))::B)) (y:=.arr 49 8 (A++(g u).av::B)) (by rw [List.append_assoc,List.append_assoc];exact Stay.app _ _ _) (by omega)
           refine back_i (k+1,_) ⟨by simp only;omega,f1,f2,f3,f4,by simp only;rw [hnx'];exact f5,fun _ _ h=>absurd h hRn⟩ (by simp only;omega) ?_
           rw [hav,<- hyl]
           refine Ent.lendM (E:=3) ?_ ?_ (by omega) (at_same _ _ _ (by simp;omega)) ?_ (by simp [FrSub,Go.Al.get])
           . rw [at_set _ _ _ _ (by omega),show H2.length+1+1=(H2++[AObj.dead]++[AObj.dead]).length by simp];exact get_last
           . exact flat_snoc _ _
           . rw [hyl];rfl)
      have hk1:decide (c.kind=1)=false:=decide_eq_false k1
      by_cases k2:c.kind=2
      . have hk2:decide (c.kind=2)=true:=decide_eq_true k2
        have hRn:=hnr (by omega) (by omega)
        have hgu:=hg2 hRn u hnum
        have hsu:g u={ u with log:=u.log++[⟨c.a,c.b,false,[]⟩] }:=by rw [hgu];unfold stepU;rw [if_neg k1,if_pos k2]
        repeat' (first|(with_reducible apply St.o;constructor) <;> intro _|((with_reducible refine mkl_view ?_ ?_ ?_);(focus decide);(focus rfl))|(with_reducible first|refine ai ?_|(apply Sq.o;constructor))|with_reducible refine any_i [H.length+3] ?_|simp (disch:=omega) only [lE,seval,b0,b0d,b1,b2,w0,w1,w2,w3,w4,hst,get_last,set_last,hep,hdg,hdav,ux_cs,hdn,hk1,hk2,hlt,List.length_append,List.length_cons,List.length_nil,Int.toNat_natCast,decide_true,decide_false,List.length_map])
        all_goals try (exfalso;omega)
        all_goals (
         have hyl:(u.log.map WR.av++[AV.agg [.int .i64 c.a,.int .i64 c.b,.bool false,.raw (.slice none 0 0)]]).length=u.log.length+1:=by simp
         have hav:(g u).av=.agg ((u.cs.set 5 (.slc (H2.length+1+1) 4 (u.log.length+1))).set 5 (.view 4 (u.log.map WR.av++[WR.av ⟨c.a,c.b,false,[]⟩]))):=by rw [hsu];simp [UX.av,UX.cs]
         have hF:∀ M',M'=((((H2++[AObj.dead]++[AObj.dead]++[AObj.arr 59 4 (u.log.map WR.av++[AV.agg [.int .i64 c.a,.int .i64 c.b,.bool false,.raw (.slice none 0 0)]])]).set (H.length+3) (.arr 49 8 (A++.agg (u.cs.set 5 (.slc (H2.length+1+1) 4 (u.log.length+1)))::B))).set (H.length+3) (.arr 49 8 (A++.agg ((u.cs.set 5 (.slc (H2.length+1+1) 4 (u.log.length+1))).set 5 (.view 4 (u.log.map WR.av++[AV.agg [.int .i64 c.a,.int .i64 c.b,.bool false,.raw (.slice none 0 0)]])))::B))).set (H2.length+1+1) .dead).set (H.length+3) (.arr 49 8 (A++(g u).av::B))->_:=fun M' hM'=>fin0 (M:=M') (y:=.arr 49 8 (A++(g u).av::B)) (by
          subst hM'
          refine Stay.trans (O':=fun i=>i=H.length+3) (Stay.trans (O':=fun i=>i=H2.length+1+1) (Stay.trans (O':=fun i=>i=H.length+3) (Stay.trans (O':=fun i=>i=H.length+3) ?_ (Stay.set rfl) fun _ _ h=>h) (Stay.set rfl) fun _ _ h=>h) (Stay.set rfl) fun i hi h=>by omega) (Stay.set rfl) fun _ _ h=>h
          rw [List.append_assoc,List.append_assoc];exact Stay.app _ _ _) (by subst hM';exact at_same _ _ _ (by simp;omega))
         obtain ⟨f1,f2,f3,f4,f5⟩:=hF _ rfl
         refine back_i (k+1,_) ⟨by simp only;omega,f1,f2,f3,f4,by simp only;rw [hnx'];exact f5,fun _ _ h=>absurd h hRn⟩ (by simp only;omega) ?_
         refine Ent.trans (Ent.lendM (E:=59) (id:=H2.length+1+1) (sz:=4) (xs:=u.log.map WR.av++[AV.agg [.int .i64 c.a,.int .i64 c.b,.bool false,.raw (.slice none 0 0)]]) (b:=H.length+3) (ys:=A) (zs:=B) (k:=5) (cs:=u.cs.set 5 (.slc (H2.length+1+1) 4 (u.log.length+1))) ?_ (flat_app (flat_wrs _) (flat_w0 _ _ _)) (by omega) (at_same _ _ _ (by simp;omega)) (by rw [hyl];rfl) (fr':=[(5,.op H.length 0),(6,.op (H.length+1) 0),(9,.slc (H.length+3) 8 all.length),(10,.int .i64 ((k+1:Nat):Int))]) (by simp [FrSub,Go.Al.get])) (Ent.weakArr (b:=H.length+3) (ys:=A++(g u).av::B) (by rw [at_set _ _ _ _ (by omega)];exact at_same _ _ _ (by simp;omega)) (WeakL.append (WeakL.refl _) (.cons ?_ (.refl _))) (by simp) (by simp [FrSub,Go.Al.get]))
         . rw [at_set _ _ _ _ (by omega),show H2.length+1+1=(H2++[AObj.dead]++[AObj.dead]).length by simp];exact get_last
         . rw [hav];exact WeakL.agg (.cons (.refl _) (.cons (.refl _) (.cons (.refl _) (.cons (.refl _) (.cons (.refl _) (.cons (WeakL.view (WeakL.append (WeakL.refl _) (.cons (WeakL.agg (.cons (.refl _) (.cons (.refl _) (.cons (.refl _) (.cons weak_nil (.refl _)))))) (.refl _)))) (.refl _))))))))
      have hk2:decide (c.kind=2)=false:=decide_eq_false k2
      by_cases k4:c.kind=4
      . have hk4:decide (c.kind=4)=true:=decide_eq_true k4
        have hRn:=hnr (by omega) (by omega)
        have hgu:=hg2 hRn u hnum
        have hsu:g u={ u with log:=u.log.take c.a.toNat }:=by rw [hgu];unfold stepU;rw [if_neg k1,if_neg k2,if_pos k4]
        obtain ⟨h4a,h4b⟩:=h4u k4 (hcase.resolve_right (by omega)) hnum
        obtain ⟨z,hz⟩:∃ z:Nat,c.a=z:=⟨c.a.toNat,by omega⟩
        have hzl:z<=u.log.length:=by omega
        have hlz:(List.take z (List.map WR.av u.log)).length=z:=by simp;omega
        repeat' (first|(with_reducible apply St.o;constructor) <;> intro _|((with_reducible refine mkl_view ?_ ?_ ?_);(focus decide);(focus rfl))|(with_reducible first|refine ai ?_|(apply Sq.o;constructor))|with_reducible refine any_i [H.length+3] ?_|simp (disch:=omega) only [lE,seval,b0,b0d,b1,b2,w0,w1,w2,w3,w4,hst,get_last,set_last,hep,hdg,hdav,ux_cs,hdn,hk1,hk2,hk4,hz,hlz,hlt,List.length_append,List.length_cons,List.length_nil,Int.toNat_natCast,decide_true,decide_false,List.length_map])
        all_goals try (exfalso;omega)
        all_goals (
         have hyl:(List.take z (u.log.map WR.av)).length=z:=hlz
         have hav:(g u).av=.agg ((u.cs.set 5 (.slc (H2.length+1) 4 (z))).set 5 (.view 4 (List.take z (u.log.map WR.av)))):=by rw [hsu,hz];simp [UX.av,UX.cs]
         obtain ⟨f1,f2,f3,f4,f5⟩:=fin (L:=H2++[AObj.dead]++[AObj.arr 59 4 (List.take z (u.log.map WR.av))]) (w:=H2.length+1) (x:=.arr 49 8 (A++.agg (u.cs.set 5 (.slc (H2.length+1) 4 (z)))::B)) (y:=.arr 49 8 (A++(g u).av::B)) (by rw [List.append_assoc];exact Stay.app _ _ _) (by omega)
         refine back_i (k+1,_) ⟨by simp only;omega,f1,f2,by simp only;rw [<- hz];exact f3,f4,by simp only;rw [hnx'];exact f5,fun _ _ h=>absurd h hRn⟩ (by simp only;omega) ?_
         rw [hav]
         refine Ent.lendM (E:=59) ?_ ?_ (by omega) (at_same _ _ _ (by simp;omega)) ?_ (by simp [FrSub,Go.Al.get])
         . rw [at_set _ _ _ _ (by omega),show H2.length+1=(H2++[AObj.dead]).length by simp];exact get_last
         . exact flat_wrs_take _ _
         . rw [hlz];rfl)
      have hk4:decide (c.kind=4)=false:=decide_eq_false k4
      by_cases k5:c.kind=5
      . have hk5:decide (c.kind=5)=true:=decide_eq_true k5
        have hst3:∀ {x0 x1 x2 x3 x4 x5 x6 x7 x v:AV} {off:Nat} {fr:List (Nat × AV)} {L:List AObj} {q:Ke},off<8->stE E.P H.length N (some (.arr 49 8 (A++.agg [x0,x1,x2,x3,x4,x5,x6,x7]::B))) 1 [v] x (H.length+3) 8 k off fr L q=rE E.P H.length N q fr (L.set (H.length+3) (.arr 49 8 (A++.agg ([x0,x1,x2,x3,x4,x5,x6,x7].set off v)::B))):=fun {x0 x1 x2 x3 x4 x5 x6 x7 x v off fr L q} ho=>by
         have hs0:∀ X Y,(A++X::B).set k Y=A++Y::B:=fun X Y=>by rw [List.set_append_right _ _ (by omega),hAl,Nat.sub_self];rfl
         rw [st_el (hgX _) ho,hs0]
        have b1t:∀ o o',((H2.set (H.length+3) o).set (H.length+3) o')[H.length+1]?=some (AObj.box [.int .i64 gn,.view 4 (gw.map WR.av),.int .i64 ge]):=fun o o'=>by rw [at_set _ _ _ _ (by omega),at_set _ _ _ _ (by omega)];exact b1
        have b2t:∀ o o',((H2.set (H.length+3) o).set (H.length+3) o')[H.length+3]?=some o':=fun o o'=>at_same _ _ _ (by simp;omega)
        have b2s:∀ o,(H2.set (H.length+3) o)[H.length+3]?=some o:=fun o=>at_same _ _ _ (by omega)
        have b1s:∀ o,(H2.set (H.length+3) o)[H.length+1]?=some (AObj.box [.int .i64 gn,.view 4 (gw.map WR.av),.int .i64 ge]):=fun o=>by rw [at_set _ _ _ _ (by omega)];exact b1
        by_cases h0:ge=0
        . have hd0:decide (ge=0)=true:=decide_eq_true h0
          repeat' (first|(with_reducible first|(apply St.o;constructor)<;>intro _|refine ai ?_|(apply Sq.o;constructor))|simp (disch:=omega) only [lE,seval,b0,b1,b2',b1s,b2s,b1t,b2t,hst3,hgX,hep2,hcutA,hcutB,hcutL,hk1n,  ux_cs,hdn,hk1,hk2,hk4,hk5,hd0,hlt,List.length_append,List.length_cons,List.length_nil,Int.toNat_natCast,decide_true,decide_false,List.length_map])
          all_goals try (exfalso;omega)
          all_goals (
           have hRn:¬ RM:=fun h=>by rw [hRM] at h;rcases h with h | h;exact h.2 h0;omega
           have hsu:g u={ u with done:=decide (ge=0),stamp:=gn }:=by rw [hg2 hRn u hnum];unfold stepU;rw [if_neg k1,if_neg k2,if_neg k4,if_pos k5]
           have hav:(g u).av=AV.agg [.int .i64 u.num,.int .i64 u.mode,.int .i64 u.snap,.bool true,.int .i64 gn,.view 4 (u.log.map WR.av),.view 1 (u.rows.map (AV.int .i64)),.view 1 (u.whole.map (AV.int .i64))]:=by rw [hsu];simp [UX.av,UX.cs,h0]
           rw [<- hav]
           have hF:∀ o,_:=fun o=>fin0 (M:=(H2.set (H.length+3) o).set (H.length+3) (.arr 49 8 (A++(g u).av::B))) (Stay.trans (O':=fun i=>i=H.length+3) (Stay.set rfl) (O:=fun i=>i=H.length+3) (Stay.set rfl) fun _ _ h=>h) (b2t _ _)
           exact back_i (k+1,_) ⟨by simp only;omega,(hF _).1,(hF _).2.1,(hF _).2.2.1,(hF _).2.2.2.1,by simp only;rw [hnx'];exact (hF _).2.2.2.2,fun _ _ h=>absurd h hRn⟩ (by simp only;omega) (Ent.fr (by simp [FrSub,Go.Al.get])))
        . have hd0:decide (ge=0)=false:=decide_eq_false h0
          repeat' (first|(with_reducible first|(apply St.o;constructor)<;>intro _|refine ai ?_|(apply Sq.o;constructor))|with_reducible refine any_i [H.length+3] ?_|simp (disch:=omega) only [lE,seval,b0,b1,b2',b1s,b2s,b1t,b2t,hst3,hgX,hep2,hcutA,hcutB,hcutL,hk1n,  ux_cs,hdn,hk1,hk2,hk4,hk5,hd0,hlt,List.length_append,List.length_cons,List.length_nil,Int.toNat_natCast,decide_true,decide_false,List.length_map])
          all_goals try (exfalso;omega)
          all_goals (
           refine hrm (by rw [hRM];exact .inl ⟨k5,h0⟩) ?_ _ (by simp)
           exact hx2.trans (((Stay.set (O:=fun i=>i=H.length+3) rfl).trans (O':=fun i=>i=H.length+3) (Stay.set rfl) fun _ _ h=>h).trans (O':=fun i=>i=H.length+3) (Stay.set rfl) fun _ _ h=>h) fun i hi h=>by omega)
      have hk5:decide (c.kind=5)=false:=decide_eq_false k5
      by_cases k6:c.kind=6
      . have hk6:decide (c.kind=6)=true:=decide_eq_true k6
        repeat' (first|(with_reducible first|(apply St.o;constructor)<;>intro _|refine ai ?_|(apply Sq.o;constructor))|with_reducible refine any_i [H.length+3] ?_|simp (disch:=omega) only [lE,seval,b0,b1,b2',hgX,hep2,hcutA,hcutB,hcutL,hk1n,ux_cs,hdn,hk1,hk2,hk4,hk5,hk6,hlt,List.length_append,List.length_cons,List.length_nil,Int.toNat_natCast,decide_true,decide_false,List.length_map])
        all_goals try (exfalso;omega)
        all_goals (
         refine hrm (by rw [hRM];exact .inr k6) ?_ _ (by simp)
         exact hx2.trans (Stay.set (O:=fun i=>i=H.length+3) rfl) fun i hi h=>by omega)
      have hk6:decide (c.kind=6)=false:=decide_eq_false k6
      have hRn:=hnr k5 k6
      have hsu:g u=u:=by rw [hg2 hRn u hnum];unfold stepU;rw [if_neg k1,if_neg k2,if_neg k4,if_neg k5]
      repeat' (first|(with_reducible first|(apply St.o;constructor)<;>intro _|refine ai ?_|(apply Sq.o;constructor))|simp (disch:=omega) only [lE,seval,b0,b1,b2,hep,hdg,hdav,ux_cs,hdn,hk1,hk2,hk4,hk5,hk6,hlt,Int.toNat_natCast,decide_true,decide_false,List.length_map])
      exact back_i (k+1,H2) ⟨by simp only;omega,hx2,hl2,b0,b1,by simp only;rw [hnx',hsu,hA0,hB0,<- List.map_cons,<- List.map_append,<- hsp];exact b2,fun _ _ h=>absurd h hRn⟩ (by simp only;omega) (Ent.fr (by simp [FrSub,Go.Al.get]))
    . repeat' (first|(with_reducible first|(apply St.o;constructor)<;>intro _|refine ai ?_|(apply Sq.o;constructor))|simp (disch:=omega) only [lE,seval,b0,b1,b2,hep,hdg,hdav,ux_cs,hnum,hlt,Int.toNat_natCast,decide_true,decide_false,List.length_map])
      all_goals try (exfalso;omega)
      obtain ⟨s1,s2⟩:=hstep hnum
      exact back_i (k+1,H2) ⟨by simp only;omega,hx2,hl2,b0,b1,by simp only;rw [s1];exact b2,s2⟩ (by simp only;omega) (Ent.fr (by simp [FrSub,Go.Al.get]))
  . obtain rfl:k=all.length:=by omega
    rw [curL_all] at b2
    rw [List.take_length] at hno
    repeat' (first|(with_reducible first|(apply St.o;constructor)<;>intro _|refine ai ?_|(apply Sq.o;constructor))|simp (disch:=omega) only [lE,seval,Int.lt_irrefl,decide_false,b2,List.length_map])
    all_goals try (exfalso;omega)
    rw [hend hno]
    exact ⟨H.length+3,by simp,b2,hx2.to,.inr (by omega)⟩)
end Go.Proofs.Try
