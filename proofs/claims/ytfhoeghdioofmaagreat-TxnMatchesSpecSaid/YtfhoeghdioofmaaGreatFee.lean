/-
 A part of the proof.
-/
import Derived.Test.YtfhoeghdioofmaaGreatFcc
set_option linter.unusedSimpArgs false
set_option linter.unusedVariables false
namespace Go.Proofs.Try
open Go.Proofs.Tryz
open Go.Al
set_option maxRecDepth 100000
abbrev q81_0:MI:=oL 44 43
abbrev q81_1:MI:=oL 48 47
abbrev q81_2:MI:=oL 53 52
abbrev q81_3:MI:=.v (.build 54 z1 [(0,1,.t 48),(1,1,.t 49),(2,1,.t 53)])
abbrev q81_4:AT:=.alt none (.e (.app 56 49 8 112 (.t 44) (.t 55))) (yO (.v (.nil 57 (.t 40))) (yO (oF 58 4 57) (yA (.e (.store 1 false (.t 58) (.t 56))) .done .stop))) .stop
abbrev q81_5:AT:=.alt none (.e (.mkl 55 49 8 1 (.agg z1) [(0,.t 54)])) q81_4 .stop
abbrev q81_6:AT:=.alt none q81_2 (.pure1 none q81_3 q81_5) .stop
abbrev q81_7:AT:=.alt none q81_1 (.pure1 none q81_3 q81_5) .stop
abbrev q81_8:AT:=.pure1 none q81_3 (yA q81_0 q81_5 (yA (.e (.mkl 55 49 8 1 (.agg z1) [(0,.t 54)])) (yA q81_0 q81_4 .stop) .stop))
def mc81:MC:=(sO [(none,.e (.alloc 4 z3))] (.seq (sO [pM 5 1,(none,.v (.bin 6 .lss false (.t 5) (.c (.int .i64 0)))),pM 7 6,gF 7 (oM 8 1),(some (7,false),.v (.bin 9 .gtr false (.t 8) (.c (.int .i64 2)))),pO 10 7 9] (.cond 10 (sO [(none,.v (.build 11 z3 [(2,1,.c (.int .i64 1))])),pS 3 4 11] .ret) .skip)) (.seq (.seq (.any false (yO (oM 12 0) (yO (.v (.nil 13 (.t 12))) (yO (oF 14 4 13) (yO (oL 15 14) (yO (oG 16 15) (yO (.v (.bin 17 .geq false (.t 16) (.c (.int .i64 16)))) (yO (oM 18 17) (.pure0 (some (18,false)) (oM 19 0) (.pure0 (some (18,false)) (.v (.nil 20 (.t 19))) (.pure0 (some (18,false)) (oF 21 4 20) (.pure0 (some (18,false)) (oL 22 21) (.pure0 (some (18,false)) (oG 23 22) (.pure0 (some (18,false)) (oM 24 0) (.pure0 (some (18,false)) (.v (.nil 25 (.t 24))) (.pure0 (some (18,false)) (oF 26 3 25) (.pure0 (some (18,false)) (oL 27 26) (.pure0 (some (18,false)) (oG 28 27) (.pure0 (some (18,false)) (.v (.bin 29 .add false (.t 23) (.t 28))) (.pure0 (some (18,false)) (.v (.bin 30 .geq false (.t 29) (.c (.int .i64 40)))) (yO (oO 31 18 30) .done))))))))))))))))))))) (.cond 31 (sO [(none,.v (.build 32 z3 [(2,1,.c (.int .i64 2))])),pS 3 4 32] .ret) .skip)) (sO [pM 33 0,(none,.v (.nil 34 (.t 33))),pF 35 2 34,pL 36 35,pA 37 36 1,(none,.v (.nil 38 (.t 33))),pF 39 2 38,(none,.e (.store 1 false (.t 39) (.t 37)))] (.seq (.any true (yO (oM 40 0) (yO (oM 41 0) (yO (.v (.nil 42 (.t 41))) (yO (oF 43 4 42) (yO (oM 45 0) (yO (.v (.nil 46 (.t 45))) (yO (oF 47 2 46) (yO (oM 49 1) (yO (oM 50 0) (yO (.v (.nil 51 (.t 50))) (yO (oF 52 1 51) (yA q81_0 (yA q81_1 q81_6 (yA q81_2 q81_7 .stop)) (yA q81_1 (yA q81_0 q81_6 (yA q81_2 q81_8 .stop)) (yA q81_2 (yA q81_0 q81_7 (yA q81_1 q81_8 .stop)) .stop))))))))))))))) (sO [pM 59 0,pV 60 82 59] (sO [pM 61 0,(none,.v (.nil 62 (.t 61))),pF 63 2 62,pL 64 63,(none,.v (.build 65 z3 [(0,1,.t 64)])),pS 3 4 65] .ret)))))))
theorem ok81:FnOk E 81 66 [.cell 4 30] mc81:=ofk func81
set_option maxHeartbeats 16000000
theorem weak_rs (n e:Int):Weak (.agg [.int .i64 n,.raw (.slice none 0 0),.int .i64 e]) (RS.av ⟨n,[],e⟩):=WeakL.agg (.cons (.refl _) (.cons weak_nil (.refl _)))
theorem wl_app {xs ys ys':List AV} (k:WeakL ys ys'):WeakL (xs++ys) (xs++ys'):=fun γ σ vs hr=>by
 obtain ⟨v1,v2,rfl,h1,h2⟩:=repVs_append hr;exact RepVs.append h1 (k _ _ _ h2)
theorem weak_ux (n m s:Int):Weak (.agg [.int .i64 n,.int .i64 m,.int .i64 s,.bool false,.int .i64 0,.raw (.slice none 0 0),.raw (.slice none 0 0),.raw (.slice none 0 0)]) (uxP (n,⟨m,s,false,0,[],[],[]⟩)).av :=
 WeakL.agg (.cons (.refl _) (.cons (.refl _) (.cons (.refl _) (.cons (.refl _) (.cons (.refl _) (.cons weak_nil (.cons weak_nil (.cons weak_nil (.refl _)))))))))
theorem c81 {z:ZR} {H:List AObj} (hz:z.At H) (mode:Int) (hst:∀ t ∈ z.u.kept,0<=t.stamp) (hl:z.kp.length+z.u.act.length<=40) (hbg:0<=z.u.begun/\z.u.begun<=100000) :
 ACalls E.P 81 [.op z.S 0,.int .i64 mode] H (fun r H'=>r=(beginS z.u mode).1.av/\∃ z',ZUpd z z' H H'/\z'.u=(beginS z.u mode).2):=by
 have hmax:=maxLen_eq;have hlt:=hz.lt;have hb:=hz.box;have ha:=hz.act;unfold ZR.cells at hb;have hkl:z.u.kept.length=z.kp.length:=by rw [<- hz.eq,List.length_map]
 have hx1:∀ o,Ext H (H++[o]):=fun o=>Stay.app _ _ _;have b1:∀ o,(H++[o])[z.S]?=H[z.S]?:=fun o=>at_app _ _ _ hlt.1;have hk':=hz.kept;have k1:∀ o,(H++[o])[z.K]?=H[z.K]?:=fun o=>at_app _ _ _ hlt.2.1;have a1:∀ o,(H++[o])[z.A]?=H[z.A]?:=fun o=>at_app _ _ _ hlt.2.2;refine ACalls.weakR ?_;by_cases hm:mode<0\/2<mode
 . have hbs:beginS z.u mode=(⟨0,[],1⟩,z.u):=by unfold beginS;rw [if_pos hm]
   rw [hbs];refine zk0 ok81 fun N hN=>?_;unfold mc81 q81_8 q81_7 q81_6 q81_5 q81_4 q81_3 q81_2 q81_1 q81_0 z1 z3 pM pO pS pF pL pA pV gF oM oL oF oO oG sO yO yA;simp only [lA,seval];repeat' (first|(with_reducible first|(apply zS;constructor)<;>intro _|refine ai ?_|(apply zQ;constructor))|simp (disch:=omega) only [lE,seval,ti30,get_last,set_last])
   all_goals try omega
   all_goals exact ⟨_,weak_rs _ _,rfl,z,ZUpd.refl hz (Stay.app _ _ _),rfl⟩
 by_cases hf:16<=z.u.act.length\/40<=z.u.kept.length+z.u.act.length
 . have hbs:beginS z.u mode=(⟨0,[],2⟩,z.u):=by unfold beginS;rw [if_neg hm,if_pos hf]
   rw [hbs];refine zk0 ok81 fun N hN=>?_;unfold mc81 q81_8 q81_7 q81_6 q81_5 q81_4 q81_3 q81_2 q81_1 q81_0 z1 z3 pM pO pS pF pL pA pV gF oM oL oF oO oG sO yO yA;simp only [lA,seval];repeat' (first|(with_reducible first|(apply zS;constructor)<;>intro _|refine ai ?_|(apply zQ;constructor))|simp (disch:=omega) only [lE,seval,ti30,get_last,set_last,b1,hb,a1,ha,k1,hk'])
   all_goals try omega
   all_goals exact ⟨_,weak_rs _ _,rfl,z,ZUpd.refl hz (Stay.app _ _ _),rfl⟩
 have hbs:beginS z.u mode=(⟨z.u.begun+1,[],0⟩,forgetS { z.u with begun:=z.u.begun+1,act:=z.u.act++[(z.u.begun+1,⟨mode,z.u.shown,false,0,[],[],[]⟩)] }):=by unfold beginS;rw [if_neg hm,if_neg hf]
 rw [hbs];have hwr:IntKind.i64.wrap (z.u.begun+1)=z.u.begun+1:=wrap_i64 (by omega) (by omega);refine zk0 ok81 fun N hN=>?_;unfold mc81 q81_8 q81_7 q81_6 q81_5 q81_4 q81_3 q81_2 q81_1 q81_0 z1 z3 pM pO pS pF pL pA pV gF oM oL oF oO oG sO yO yA;simp only [lA,seval];have hnd:=hz.nd;have s1:∀ o o',((H++[o]).set z.S o')[z.S]?=some o':=fun o o'=>at_same _ _ _ (by simp;omega);have s2:∀ o o',((H++[o]).set z.S o')[z.A]?=H[z.A]?:=fun o o'=>by rw [at_set _ _ _ _ hnd.2.1];exact a1 o
 have s3:∀ o o',(((H++[o]).set z.S o').set z.A .dead)[z.S]?=some o':=fun o o'=>by rw [at_set _ _ _ _ (Ne.symm hnd.2.1)];exact s1 o o'
 have s4:∀ o o' x,(((H++[o]).set z.S o').set z.A .dead++[x])[z.S]?=some o':=fun o o' x=>by rw [zA];exact s3 o o'
 have m1:(z.S ∈ [z.S,z.A])=True:=eq_true (by simp);have m2:(z.A ∈ [z.S,z.A])=True:=eq_true (by simp);obtain ⟨u2,hu2⟩:∃ u2:TS,u2={ z.u with begun:=z.u.begun+1,act:=z.u.act++[(z.u.begun+1,⟨mode,z.u.shown,false,0,[],[],[]⟩)] }:=⟨_,rfl⟩
 have hu2l:u2.act.length=z.u.act.length+1:=by rw [hu2];simp
 rw [<- hu2]
 have hw2:WeakL ((z.u.act.map uxP).map UX.av++[.agg [.int .i64 (z.u.begun+1),.int .i64 mode,.int .i64 z.u.shown,.bool false,.int .i64 0,.raw (.slice none 0 0),.raw (.slice none 0 0),.raw (.slice none 0 0)]]) ((u2.act.map uxP).map UX.av):=by
  rw [hu2];simp only [List.map_append,List.map_cons,List.map_nil];exact wl_app (.cons (weak_ux _ _ _) (.refl _))
 have hcl:∀ L,L=((((H++[AObj.box [.int .i64 0,.raw (.slice none 0 0),.int .i64 0]]).set z.S (AObj.box [.int .i64 z.u.last,.int .i64 z.u.shown,.int .i64 (z.u.begun+1),.slc z.K 8 z.kp.length,.slc z.A 8 z.u.act.length])).set z.A .dead++[AObj.arr 49 8 ((z.u.act.map uxP).map UX.av++[.agg [.int .i64 (z.u.begun+1),.int .i64 mode,.int .i64 z.u.shown,.bool false,.int .i64 0,.raw (.slice none 0 0),.raw (.slice none 0 0),.raw (.slice none 0 0)]])]).set z.S (AObj.box [.int .i64 z.u.last,.int .i64 z.u.shown,.int .i64 (z.u.begun+1),.slc z.K 8 z.kp.length,.slc (H.length+1) 8 (z.u.act.length+1)])) ->
  L[H.length+1]?=some (.arr 49 8 ((z.u.act.map uxP).map UX.av++[.agg [.int .i64 (z.u.begun+1),.int .i64 mode,.int .i64 z.u.shown,.bool false,.int .i64 0,.raw (.slice none 0 0),.raw (.slice none 0 0),.raw (.slice none 0 0)]]))/\L[H.length]?=some (.box [.int .i64 0,.raw (.slice none 0 0),.int .i64 0]) /\
  ZUpd z ⟨z.S,z.K,H.length+1,u2,z.kp⟩ H (L.set (H.length+1) (.arr 49 8 ((u2.act.map uxP).map UX.av))):=fun L hL=>by
  have l2:L[H.length+1]?=some (.arr 49 8 ((z.u.act.map uxP).map UX.av++[.agg [.int .i64 (z.u.begun+1),.int .i64 mode,.int .i64 z.u.shown,.bool false,.int .i64 0,.raw (.slice none 0 0),.raw (.slice none 0 0),.raw (.slice none 0 0)]])):=by
   rw [hL,zN];exact get_lastN (by simp)
  have l4:L[H.length]?=some (.box [.int .i64 0,.raw (.slice none 0 0),.int .i64 0]):=by
   rw [hL,zN,at_app _ _ _ (by simp),zN,zN];exact get_last
  have hLl:L.length=H.length+2:=by rw [hL];simp
  have l1:L[z.S]?=some (AObj.box [.int .i64 z.u.last,.int .i64 z.u.shown,.int .i64 (z.u.begun+1),.slc z.K 8 z.kp.length,.slc (H.length+1) 8 (z.u.act.length+1)]):=by rw [hL];exact at_same _ _ _ (by simp;omega)
  have l5:Stay z.Own H L:=by
   rw [hL];exact ((((Stay.app z.Own _ _).trans (O':=fun i=>i=z.S) (Stay.set rfl) fun i _ h=>.inl h).trans (O':=fun i=>i=z.A) (Stay.set rfl) fun i _ h=>.inr (.inr h)).trans (O':=fun _=>False) (Stay.app _ _ _) fun _ _ h=>h.elim).trans (O':=fun i=>i=z.S) (Stay.set rfl) fun i _ h=>.inl h
  have l3:L[z.K]?=some (.arr 49 8 ((z.kp.map uxP).map UX.av)):=by
   rw [hL,at_set _ _ _ _ hnd.1,zA,at_set _ _ _ _ (Ne.symm hnd.2.2),at_set _ _ _ _ hnd.1,at_app _ _ _ hlt.2.1];exact hk'
  refine ⟨l2,l4,⟨⟨?_,?_,at_same _ _ _ (by omega),⟨hnd.1,by simp only;omega,by simp only;omega⟩,by simp only;rw [hu2];exact hz.eq⟩,rfl,l5.trans (O':=fun i=>i=H.length+1) (Stay.set rfl) fun i hi h=>by omega,?_⟩⟩
  . simp only [ZR.cells,hu2l];rw [zN,l1,hu2]
  . simp only;rw [zN];exact l3
  . rintro i (rfl | rfl | rfl)
    . exact .inl (.inl rfl)
    . exact .inl (.inr (.inl rfl))
    . right;simp only;omega
 repeat' (first|(with_reducible apply zS;constructor) <;> intro _|((with_reducible refine mkl_view ?_ ?_ ?_);(focus decide);(focus rfl))|(with_reducible first|refine ai ?_|(apply zP;constructor)|refine mkl_own ?_|refine ap_own ?_|refine base0_i ?_|refine any00_i ?_)|with_reducible refine any_i [z.S,z.A] ?_|simp (disch:=omega) only [lE,seval,ti30,get_last,set_last,b1,hb,a1,ha,k1,hk',s1,s2,s3,s4,m1,m2,hwr,setAll,setAt,List.length_set,List.length_append])
 all_goals try omega
 all_goals (
  obtain ⟨l2,l4,hup⟩:=hcl _ rfl;refine frz_i (fr':=[(0,.op z.S 0),(4,.op H.length 0)]) (Ent.weakArr l2 hw2 (by simp [hu2l]) (by simp [FrSub,Go.Al.get])) ?_;have hl3:∀ o,((((H++[AObj.box [.int .i64 0,.raw (.slice none 0 0),.int .i64 0]]).set z.S o).length:Nat))=H.length+1:=fun o=>by simp
  generalize (((((H++[AObj.box [.int .i64 0,.raw (.slice none 0 0),.int .i64 0]]).set z.S (AObj.box [.int .i64 z.u.last,.int .i64 z.u.shown,.int .i64 (z.u.begun+1),.slc z.K 8 z.kp.length,.slc z.A 8 z.u.act.length])).set z.A .dead++[AObj.arr 49 8 ((z.u.act.map uxP).map UX.av++[.agg [.int .i64 (z.u.begun+1),.int .i64 mode,.int .i64 z.u.shown,.bool false,.int .i64 0,.raw (.slice none 0 0),.raw (.slice none 0 0),.raw (.slice none 0 0)]])]).set z.S (AObj.box [.int .i64 z.u.last,.int .i64 z.u.shown,.int .i64 (z.u.begun+1),.slc z.K 8 z.kp.length,.slc (H.length+1) 8 (z.u.act.length+1)])))=L at *;have l4':(L.set (H.length+1) (.arr 49 8 ((u2.act.map uxP).map UX.av)))[H.length]?=some (.box [.int .i64 0,.raw (.slice none 0 0),.int .i64 0]):=by rw [zN];exact l4
  generalize L.set (H.length+1) (.arr 49 8 ((u2.act.map uxP).map UX.av))=M at *;repeat' (first|(with_reducible first|(apply zS;constructor)<;>intro _|refine ai ?_|(apply zQ;constructor))|simp (disch:=omega) only [lE,seval])
  refine callW_i (c82 (z:=⟨z.S,z.K,H.length+1,u2,z.kp⟩) hup.at' (by simp only;rw [hu2];exact hst) (by simp only [hu2l];omega)) ?_;rintro _ M2 ⟨z4,hu4,hz4⟩;have hb4:=hu4.at'.box;unfold ZR.cells at hb4;rw [hu4.s] at hb4;simp only at hb4;have hbg4:z4.u.begun=z.u.begun+1:=by rw [hz4];simp only;rw [hu2];rfl
  rw [hbg4] at hb4;have l5:M2[H.length]?=some (.box [.int .i64 0,.raw (.slice none 0 0),.int .i64 0]):=hu4.stay.at l4' (by rintro (h | h | h) <;> simp only at h <;> omega);have l6:∀ o,(M2.set H.length o)[H.length]?=some o:=fun o=>at_same _ _ _ (at_lt l5);have hML:=at_lt l4'
  have hn4:¬ z4.Own H.length:=fun h=>by
   rcases hu4.own _ h with (h | h | h) | h <;> (try simp only at h) <;> omega
  repeat' (first|(with_reducible first|(apply zS;constructor)<;>intro _|refine ai ?_|(apply zQ;constructor))|simp (disch:=omega) only [lE,seval,hb4,l5,l6,setAll,setAt,ti30])
  all_goals try omega
  exact ⟨_,weak_rs _ _,rfl,z4,(hup.trans hu4).res (Nat.le_refl _) hn4 _,hz4⟩)
abbrev q86_0:AT:=.alt none (.e (.app 53 49 8 112 (.t 50) (.t 52))) (yO (.v (.nil 54 (.t 46))) (yO (oF 55 3 54) (yA (.e (.store 1 false (.t 55) (.t 53))) .done .stop))) .stop
def mc86:MC:=(sO [(none,.e (.alloc 4 z3))] (sO [pM 8 0,(none,.v (.nil 9 (.t 8))),pF 10 4 9,pL 11 10,pM 12 1,pQ 13 8 11 12,pR 14 8 13,(none,.e (.alloc 5 z1)),pS 8 5 14] (.seq (.any false (yO (oM 16 0) (yO (oM 18 0) (yO (.v (.nil 19 (.t 18))) (yO (oF 20 3 19) (yO (oL 21 20) (yO (oG 22 21) (yO (oM 23 1) (yO (.v (.bin 24 .add false (.t 22) (.t 23))) (yA (oV 17 39 16) (.base (yA (oW 25 119 17 24) (.base (yO (oM 15 25) (yO (oX 26 0 15) (yO (oX 27 1 15) (yO (oM 6 26) (yO (oM 7 27) .done)))))) .stop)) .stop)))))))))) (sO [pM 28 0,pM 29 1,pW 30 87 28 29] (.seq (sO [pM 31 7,pD 32 31 0] (.cond 32 (sO [pM 33 0,pV 34 82 33] (sO [pM 35 7,(none,.v (.build 36 z3 [(2,1,.t 35)])),pS 3 4 36] .ret)) .skip)) (.seq (sO [pM 37 6,(none,.v (.bin 38 .gtr false (.t 37) (.c (.int .i64 0))))] (.cond 38 (.ops [pM 39 0,pM 40 6,(none,.v (.nil 41 (.t 39))),pF 42 0 41,(none,.e (.store 1 false (.t 42) (.t 40)))]) .skip)) (sO [pF 43 3 5,(none,.e (.store 1 false (.t 43) (.c (.bool true))))] (sO [pM 44 6,pF 45 4 5,(none,.e (.store 1 false (.t 45) (.t 44)))] (.seq (.any true (yO (oM 46 0) (yO (oM 47 0) (yO (.v (.nil 48 (.t 47))) (yO (oF 49 3 48) (yO (oR 51 8 5) (yA (oL 50 49) (yA (.e (.mkl 52 49 8 1 (.agg z1) [(0,.t 51)])) q86_0 .stop) (yA (.e (.mkl 52 49 8 1 (.agg z1) [(0,.t 51)])) (yA (oL 50 49) q86_0 .stop) .stop)))))))) (sO [pM 56 0,pV 57 82 56] (sO [pM 58 6,pF 59 5 5,pL 60 59,pV 61 44 60,(none,.v (.build 62 z3 [(0,1,.t 58),(1,1,.t 61)])),pS 3 4 62] .ret)))))))))))
theorem ok86:FnOk E 86 63 [.cell 4 30] mc86:=ofk func86
theorem share4 {A P:List AObj->ZR->List (Nat × AV)->Prop} {G:Prop} (main:(∀ M z fr,A M z fr->P M z fr)->G) (key:∀ M z fr,A M z fr->P M z fr):G:=main key
theorem any_fr {P:Program} {m:Nat} {N:FN} {t:AT} {k:List It} {Q:Exit->AS->Prop} {fr:List (Nat × AV)} {H:List AObj} (h:∀ fr',fr'=fr->AnyR P m N t k Q fr' H):AnyR P m N t k Q fr H:=h fr rfl
theorem zview {z:ZR} {H:List AObj} (hz:z.At H):pa H [] true 8 (.op z.S 0)=.vp (zcs z.u z.kp):=by
 have hb:=hz.box;unfold ZR.cells at hb;simp only [pa_op,vw_op,pos_nil,paR_lent,hb,vwB_box,List.drop_zero,List.map_cons,List.map_nil,vw_int,vw_slc,hz.kept,hz.act];rw [vwS_arr (by simp),vwS_arr (by simp),vw_uxz,vw_uxz];rfl
theorem zhist {z:ZR} {H:List AObj} (hz:z.At H):histU ((z.kp++z.u.act).map uxP)=histS z.u:=by
 rw [histU_eq,List.map_append,hz.eq];rfl
structure ZOk (z:ZR):Prop where
 cnt:z.kp.length+z.u.act.length<=40
 st:∀ t ∈ z.u.kept,0<=t.stamp
 b:∀ p ∈ z.kp++z.u.act,p.2.rows.length<=1000/\p.2.log.length<=200000
 k:∀ p ∈ z.kp++z.u.act,∀ w ∈ p.2.log,(0<=w.tab/\w.tab<=255)/\0<=w.row/\w.row<=1073741824
theorem c86 {z:ZR} {H:List AObj} (hz:z.At H) (hok:ZOk z) {tx:Int} {t:TX} {l1 l2:List (Int × TX)} (hact:z.u.act=l1++(tx,t)::l2) (hidx:idxT z.u tx=z.u.kept.length+l1.length) (hdel:delT z.u tx={ z.u with act:=l1++l2 }) (hg:getT z.u tx=some t)
 (hadm:0<=(admitS (histS z.u) (idxT z.u tx)).1):ACalls E.P 86 [.op z.S 0,.int .i64 l1.length] H (fun r H'=>r=(commitS z.u tx).1.av/\∃ z',ZUpd z z' H H'/\z'.u=(commitS z.u tx).2):=by
 have hmax:=maxLen_eq;have hlt:=hz.lt;have hb:=hz.box;have ha:=hz.act;have hkp:=hz.kept;have hcnt:=hok.cnt;unfold ZR.cells at hb;have hkl:z.u.kept.length=z.kp.length:=by rw [<- hz.eq,List.length_map]
 have hal:l1.length<z.u.act.length:=by rw [hact];simp
 have hgk:z.u.act.getD l1.length default=(tx,t):=by rw [hact];simp
 have hdg:=atZ hal;rw [hgk] at hdg;have hep:=fun {m N d c}=>epZ (P:=E.P) (m:=m) (N:=N) (d:=d) (c:=c) (id:=z.A) (q:=z.u.act.length) rfl hal;have hux:(uxOf (tx,t).1 (tx,t).2).cs=[.int .i64 tx,.int .i64 t.mode,.int .i64 t.snap,.bool t.done,.int .i64 t.stamp,.view 4 (t.log.map WR.av),.view 1 ((t.rows.map itemI).map (AV.int .i64)),.view 1 (t.whole.map (AV.int .i64))]:=rfl;obtain ⟨h39⟩:Nonempty (ACalls E.P 39 [.vp (zcs z.u z.kp)] [] (fun r H=>DeepL (histS z.u) r H/\nov r=true/\H.all novO=true)):=⟨by rw [<- zhist hz];exact c39 z.u z.kp hcnt hok.b hok.k⟩;have h119:=c119 (histS z.u) (idxT z.u tx)
 have hrem:remZ z.u l1.length=delT z.u tx:=by
  rw [hdel];unfold remZ;rw [hact];simp
 have htm:(tx,t) ∈ z.kp++z.u.act:=List.mem_append_right _ (by rw [hact];simp);have htb:=hok.b _ htm;have htk:=hok.k _ htm
 have hcs:commitS z.u tx=if (admitS (histS z.u) (idxT z.u tx)).2≠0 then (⟨0,[],(admitS (histS z.u) (idxT z.u tx)).2⟩,forgetS (delT z.u tx)) else (⟨(admitS (histS z.u) (idxT z.u tx)).1,lastW t.log,0⟩,forgetS { delT z.u tx with last:=if 0<(admitS (histS z.u) (idxT z.u tx)).1 then (admitS (histS z.u) (idxT z.u tx)).1 else z.u.last,kept:=z.u.kept++[{ t with done:=true,stamp:=(admitS (histS z.u) (idxT z.u tx)).1 }] }):=by
  unfold commitS;rw [hg]
 rw [hcs];have hidI:((idxT z.u tx:Nat):Int)=(z.kp.length:Int)+(l1.length:Int):=by rw [hidx,hkl];omega
 have hwr:IntKind.i64.wrap ((z.kp.length:Int)+(l1.length:Int))=(z.kp.length:Int)+(l1.length:Int):=wrap_i64 (by omega) (by omega);rw [hidI] at h119 hadm ⊢;generalize admitS (histS z.u) ((z.kp.length:Int)+(l1.length:Int))=ad at *;obtain ⟨stamp,e⟩:=ad;simp only [admitA] at h119 hadm ⊢;have e0:∀ o o',(H++[o]++[o'])[H.length]?=some o:=fun o o'=>by rw [at_app _ _ _ (by simp)];exact get_last
 have e1:∀ o o',(H++[o]++[o'])[H.length+1]?=some o':=fun o o'=>get_lastN (by simp);have e2:∀ o o' o'',(H++[o]++[o']).set (H.length+1) o''=H++[o]++[o'']:=fun o o' o''=>by rw [show H.length+1=(H++[o]).length by simp];exact set_last
 have b1:∀ o,(H++[o])[z.S]?=H[z.S]?:=fun o=>at_app _ _ _ hlt.1;have a1:∀ o,(H++[o])[z.A]?=H[z.A]?:=fun o=>at_app _ _ _ hlt.2.2;have b2:∀ o o',(H++[o]++[o'])[z.S]?=H[z.S]?:=fun o o'=>by rw [zA];exact b1 o
 have k2:∀ o o',(H++[o]++[o'])[z.K]?=H[z.K]?:=fun o o'=>by rw [zA];exact at_app _ _ _ hlt.2.1
 refine ACalls.weakR ?_;refine zk0 ok86 fun N hN=>?_;unfold mc86 q86_0 z1 z3 pM pF pL pQ pR pS pW pD pV oM oL oR oF oX oG oV oW sO yO yA;simp only [lA,seval];repeat' (first|(with_reducible first|(apply zS;constructor)<;>intro _|refine ai ?_|(apply zQ;constructor))|simp (disch:=omega) only [lE,seval,e0,e1,e2,b1,a1,b2,k2,hb,ha,hkp,hep,hdg,hux,hwr,fillE,setAll,setAt,get_last,set_last,List.length_append])
 all_goals try omega
 obtain ⟨H1,hH1⟩:∃ H1,H1=H++[AObj.box [.int .i64 0,.raw (.slice none 0 0),.int .i64 0]]++[AObj.box (uxOf tx t).cs]:=⟨_,rfl⟩;rw [ux_of] at hH1;rw [<- hH1];have hx1:Ext H H1:=by rw [hH1,List.append_assoc];exact Stay.app _ _ _
 have g0:H1[H.length]?=some (AObj.box [.int .i64 0,.raw (.slice none 0 0),.int .i64 0]):=by rw [hH1];exact e0 _ _
 have g1:H1[H.length+1]?=some (AObj.box (uxOf tx t).cs):=by rw [ux_of,hH1];exact e1 _ _
 have hl1:H1.length=H.length+2:=by rw [hH1];simp
 clear hH1 e0 e1 e2 b1 a1 b2 k2;have hz1:=hz.ext hx1;refine acallN_i true ?_;have hv:=zview hz1;simp only [List.map_cons,List.map_nil,hv];refine ⟨_,h39,?_⟩;rintro r0 Y ⟨hd,hnr,hnv⟩;refine ⟨fun _=>⟨hnr,hnv⟩,?_⟩;have hd2:=(hd.out (H0:=H1)).view;generalize ren (rho [] H1.length) r0=r1 at *;obtain ⟨H2,hH2⟩:∃ H2,H2=H1++Y.map (renO (rho [] H1.length)):=⟨_,rfl⟩;have hx2:Ext H1 H2:=by rw [hH2];exact Stay.app _ _ _
 rw [<- hH2] at hd2 ⊢;clear hH2 hd hnr hnv;have hz2:=hz1.ext hx2;have g0:=hx2.at g0;have g1:=hx2.at g1;repeat' (first|(with_reducible first|(apply zS;constructor)<;>intro _|refine ai ?_|(apply zQ;constructor))|((with_reducible apply zC;constructor);simp only [lP,seval,hd2];refine ⟨_,h119,?_⟩;rintro _ _ ⟨rfl,rfl⟩;simp only [lA,lP,seval,hd2])|simp (disch:=omega) only [lE,seval,hd2])
 refine callW_i (c87 hz2 l1.length hal (by omega)) ?_;rintro _ H3 ⟨z3,hu3,hz3⟩;rw [hrem] at hz3;have hup3:ZUpd z z3 H H3:=(ZUpd.refl hz hx1).trans ((ZUpd.refl hz1 hx2).trans hu3);have hl2:=hx2.1;have hno:∀ i,i=H.length\/i=H.length+1->¬ z.Own i:=fun i hi h=>by rcases h with h | h | h <;> omega
 have g0:=hu3.stay.at g0 (hno _ (.inl rfl));have g1:=hu3.stay.at g1 (hno _ (.inr rfl))
 have hn3:∀ i,i=H.length\/i=H.length+1->¬ z3.Own i:=fun i hi h=>by
  rcases hu3.own i h with h | h
  . exact hno i hi h
  . omega
 have hkp3:z3.u.kept=z.u.kept:=by rw [hz3];rfl
 have hk3:z3.kp.length=z.kp.length:=by rw [<- hkl,<- hkp3,<- hu3.at'.eq,List.length_map]
 have ha3:z3.u.act.length<=z.u.act.length:=by rw [hz3,hdel,hact];simp
 have hst3:∀ t ∈ z3.u.kept,0<=t.stamp:=by rw [hkp3];exact hok.st
 have hs3:=hu3.s;have hb3:=hu3.at'.box;unfold ZR.cells at hb3;rw [hs3] at hb3;have hl3:=hu3.stay.1;by_cases he:e≠0
 . have de:decide (e=0)=false:=decide_eq_false he;rw [if_pos he];repeat' (first|(with_reducible first|(apply zS;constructor)<;>intro _|refine ai ?_|(apply zQ;constructor))|simp (disch:=omega) only [lE,seval,de])
   all_goals try omega
   rw [<- hs3];refine callW_i (c82 hu3.at' hst3 (by omega)) ?_;rintro _ H4 ⟨z4,hu4,hz4⟩;have g0:=hu4.stay.at g0 (hn3 _ (.inl rfl));have g6:∀ o,(H4.set H.length o)[H.length]?=some o:=fun o=>at_same _ _ _ (at_lt g0);repeat' (first|(with_reducible first|(apply zS;constructor)<;>intro _|refine ai ?_|(apply zQ;constructor))|simp (disch:=omega) only [lE,seval,g0,g6,setAll,setAt,ti30])
   all_goals try omega
   have hn4:¬ z4.Own H.length:=fun h=>by
    rcases hu4.own _ h with h | h
    . exact hn3 _ (.inl rfl) h
    . omega
   exact ⟨_,weak_rs _ _,rfl,z4,(hup3.trans hu4).res (Nat.le_refl _) hn4 _,by rw [hz4,hz3]⟩
 . have de:decide (e=0)=true:=decide_eq_true (by omega);rw [if_neg he];have hz3k:=hu3.at'.kept;have hz3a:=hu3.at'.act;have hlt3:=hu3.at'.lt;have hnd3:=hu3.at'.nd;rw [hs3] at hlt3 hnd3;have hSb:z.S≠H.length+1:=by omega
   have hn3a:=hn3 _ (.inl rfl);have hn3b:=hn3 _ (.inr rfl);simp only [ZR.Own,not_or] at hn3a hn3b;rw [ux_of] at g1;have hbl:=at_lt g1;have h44:=c44 t.log htb.2 htk;apply share4 (A:=fun M5 z4 fr=>M5[H.length]?=some (AObj.box [.int .i64 0,.raw (.slice none 0 0),.int .i64 0])/\M5[H.length+1]?=some (.box [.int .i64 tx,.int .i64 t.mode,.int .i64 t.snap,.bool true,.int .i64 stamp,.view 4 (t.log.map WR.av),.view 1 ((t.rows.map itemI).map (AV.int .i64)),.view 1 (t.whole.map (AV.int .i64))])/\ZUpd z z4 H M5/\z4.S=z.S/\z4.kp.length=z.kp.length/\z4.u.act.length<=z.u.act.length/\(∀ t ∈ z4.u.kept,0<=t.stamp)/\(∀ i,i=H.length\/i=H.length+1->¬ z4.Own i)/\z4.u={ delT z.u tx with last:=if 0<stamp then stamp else z.u.last }/\FrSub fr [(0,.op z.S 0),(4,.op H.length 0),(5,.op (H.length+1) 0),(6,.int .i64 stamp)])
   . intro key;by_cases hs:0<stamp
     . have ds:decide (0<stamp)=true:=decide_eq_true hs;have p1:∀ o,(H3.set z.S o)[H.length+1]?=H3[H.length+1]?:=fun o=>at_set _ _ _ _ hSb;have p2:∀ o o',((H3.set z.S o).set (H.length+1) o')[H.length+1]?=some o':=fun o o'=>at_same _ _ _ (by simpa using hbl);repeat' (first|(with_reducible apply zS;constructor) <;> intro _|((with_reducible refine mkl_view ?_ ?_ ?_);(focus decide);(focus rfl))|(with_reducible first|refine ai ?_|(apply zP;constructor)|refine mkl_own ?_|refine ap_own ?_|refine base0_i ?_|refine any00_i ?_)|simp (disch:=omega) only [lE,seval,de,ds,hb3,g0,g1,p1,p2,List.set_set,setAll,setAt])
       all_goals try omega
       have f0:∀ o o',((H3.set z.S o).set (H.length+1) o')[H.length]?=some (AObj.box [.int .i64 0,.raw (.slice none 0 0),.int .i64 0]):=fun o o'=>by rw [zN,zN];exact g0
       have hupg:∀ o',ZUpd z ⟨z.S,z3.K,z3.A,{ z3.u with last:=stamp },z3.kp⟩ H ((H3.set z.S (.box [.int .i64 stamp,.int .i64 z3.u.shown,.int .i64 z3.u.begun,.slc z3.K 8 z3.kp.length,.slc z3.A 8 z3.u.act.length])).set (H.length+1) o'):=fun o'=>by
        refine ⟨⟨?_,?_,?_,hnd3,hu3.at'.eq⟩,rfl,(hup3.stay.trans (O':=fun i=>i=z.S) (Stay.set rfl) fun i _ h=>.inl h).trans (O':=fun i=>i=H.length+1) (Stay.set rfl) fun i hi h=>by omega,fun i hi=>hup3.own i ?_⟩
        . simp only [ZR.cells];rw [zN];exact at_same _ _ _ hlt3.1
        . simp only;rw [zN,zN];exact hz3k
        . simp only;rw [zN,zN];exact hz3a
        . rcases hi with h | h | h
          . exact .inl (h.trans hs3.symm)
          . exact .inr (.inl h)
          . exact .inr (.inr h)
       have hupg:=hupg (.box [.int .i64 tx,.int .i64 t.mode,.int .i64 t.snap,.bool true,.int .i64 stamp,.view 4 (t.log.map WR.av),.view 1 ((t.rows.map itemI).map (AV.int .i64)),.view 1 (t.whole.map (AV.int .i64))]);have f1:=p2 (.box [.int .i64 stamp,.int .i64 z3.u.shown,.int .i64 z3.u.begun,.slc z3.K 8 z3.kp.length,.slc z3.A 8 z3.u.act.length]) (.box [.int .i64 tx,.int .i64 t.mode,.int .i64 t.snap,.bool true,.int .i64 stamp,.view 4 (t.log.map WR.av),.view 1 ((t.rows.map itemI).map (AV.int .i64)),.view 1 (t.whole.map (AV.int .i64))]);have f0:=f0 (.box [.int .i64 stamp,.int .i64 z3.u.shown,.int .i64 z3.u.begun,.slc z3.K 8 z3.kp.length,.slc z3.A 8 z3.u.act.length]) (.box [.int .i64 tx,.int .i64 t.mode,.int .i64 t.snap,.bool true,.int .i64 stamp,.view 4 (t.log.map WR.av),.view 1 ((t.rows.map itemI).map (AV.int .i64)),.view 1 (t.whole.map (AV.int .i64))]);generalize (H3.set z.S (.box [.int .i64 stamp,.int .i64 z3.u.shown,.int .i64 z3.u.begun,.slc z3.K 8 z3.kp.length,.slc z3.A 8 z3.u.act.length])).set (H.length+1) (.box [.int .i64 tx,.int .i64 t.mode,.int .i64 t.snap,.bool true,.int .i64 stamp,.view 4 (t.log.map WR.av),.view 1 ((t.rows.map itemI).map (AV.int .i64)),.view 1 (t.whole.map (AV.int .i64))])=M5 at *;have hz4:({ z3.u with last:=stamp }:TS)={ delT z.u tx with last:=if 0<stamp then stamp else z.u.last }:=by rw [if_pos hs,hz3]
       obtain ⟨z4,hz4d⟩:∃ z4:ZR,z4=⟨z.S,z3.K,z3.A,{ z3.u with last:=stamp },z3.kp⟩:=⟨_,rfl⟩;have hS4:z4.S=z.S:=(by rw [hz4d]);have hK4:z4.kp.length=z.kp.length:=(by rw [hz4d];exact hk3);have hA4:z4.u.act.length<=z.u.act.length:=(by rw [hz4d];exact ha3);have hst4:∀ t ∈ z4.u.kept,0<=t.stamp:=by rw [hz4d];exact hst3
       have hn4:∀ i,i=H.length\/i=H.length+1->¬ z4.Own i:=fun i hi h=>by
        rw [hz4d] at h;refine hn3 i hi ?_;rcases h with h | h | h
        . exact .inl (h.trans hs3.symm)
        . exact .inr (.inl h)
        . exact .inr (.inr h)
       have hu4:z4.u={ delT z.u tx with last:=if 0<stamp then stamp else z.u.last }:=by rw [hz4d];exact hz4
       rw [<- hz4d] at hupg;clear hz4d hz4;refine any_fr fun fr hfr=>key M5 z4 fr ⟨f0,f1,hupg,hS4,hK4,hA4,hst4,hn4,hu4,?_⟩;rw [hfr];simp [FrSub,Go.Al.get]
     . have ds:decide (0<stamp)=false:=decide_eq_false hs;have p2:∀ o',(H3.set (H.length+1) o')[H.length+1]?=some o':=fun o'=>at_same _ _ _ hbl;repeat' (first|(with_reducible apply zS;constructor) <;> intro _|((with_reducible refine mkl_view ?_ ?_ ?_);(focus decide);(focus rfl))|(with_reducible first|refine ai ?_|(apply zP;constructor)|refine mkl_own ?_|refine ap_own ?_|refine base0_i ?_|refine any00_i ?_)|simp (disch:=omega) only [lE,seval,de,ds,hb3,g0,g1,p2,List.set_set,setAll,setAt])
       all_goals try omega
       have f0:∀ o',(H3.set (H.length+1) o')[H.length]?=some (AObj.box [.int .i64 0,.raw (.slice none 0 0),.int .i64 0]):=fun o'=>by rw [zN];exact g0
       have hupg:∀ o',ZUpd z ⟨z.S,z3.K,z3.A,{ z3.u with last:=z3.u.last },z3.kp⟩ H (H3.set (H.length+1) o'):=fun o'=>by
        refine ⟨⟨?_,?_,?_,hnd3,hu3.at'.eq⟩,rfl,hup3.stay.trans (O':=fun i=>i=H.length+1) (Stay.set rfl) fun i hi h=>by omega,fun i hi=>hup3.own i ?_⟩
        . simp only [ZR.cells];rw [zN];exact hb3
        . simp only;rw [zN];exact hz3k
        . simp only;rw [zN];exact hz3a
        . rcases hi with h | h | h
          . exact .inl (h.trans hs3.symm)
          . exact .inr (.inl h)
          . exact .inr (.inr h)
       have hupg:=hupg (.box [.int .i64 tx,.int .i64 t.mode,.int .i64 t.snap,.bool true,.int .i64 stamp,.view 4 (t.log.map WR.av),.view 1 ((t.rows.map itemI).map (AV.int .i64)),.view 1 (t.whole.map (AV.int .i64))]);have f1:=p2 (.box [.int .i64 tx,.int .i64 t.mode,.int .i64 t.snap,.bool true,.int .i64 stamp,.view 4 (t.log.map WR.av),.view 1 ((t.rows.map itemI).map (AV.int .i64)),.view 1 (t.whole.map (AV.int .i64))]);have f0:=f0 (.box [.int .i64 tx,.int .i64 t.mode,.int .i64 t.snap,.bool true,.int .i64 stamp,.view 4 (t.log.map WR.av),.view 1 ((t.rows.map itemI).map (AV.int .i64)),.view 1 (t.whole.map (AV.int .i64))]);generalize H3.set (H.length+1) (.box [.int .i64 tx,.int .i64 t.mode,.int .i64 t.snap,.bool true,.int .i64 stamp,.view 4 (t.log.map WR.av),.view 1 ((t.rows.map itemI).map (AV.int .i64)),.view 1 (t.whole.map (AV.int .i64))])=M5 at *;have hz4:({ z3.u with last:=z3.u.last }:TS)={ delT z.u tx with last:=if 0<stamp then stamp else z.u.last }:=by rw [if_neg hs,hz3];rfl
       obtain ⟨z4,hz4d⟩:∃ z4:ZR,z4=⟨z.S,z3.K,z3.A,{ z3.u with last:=z3.u.last },z3.kp⟩:=⟨_,rfl⟩;have hS4:z4.S=z.S:=(by rw [hz4d]);have hK4:z4.kp.length=z.kp.length:=(by rw [hz4d];exact hk3);have hA4:z4.u.act.length<=z.u.act.length:=(by rw [hz4d];exact ha3);have hst4:∀ t ∈ z4.u.kept,0<=t.stamp:=by rw [hz4d];exact hst3
       have hn4:∀ i,i=H.length\/i=H.length+1->¬ z4.Own i:=fun i hi h=>by
        rw [hz4d] at h;refine hn3 i hi ?_;rcases h with h | h | h
        . exact .inl (h.trans hs3.symm)
        . exact .inr (.inl h)
        . exact .inr (.inr h)
       have hu4:z4.u={ delT z.u tx with last:=if 0<stamp then stamp else z.u.last }:=by rw [hz4d];exact hz4
       rw [<- hz4d] at hupg;clear hz4d hz4;refine any_fr fun fr hfr=>key M5 z4 fr ⟨f0,f1,hupg,hS4,hK4,hA4,hst4,hn4,hu4,?_⟩;rw [hfr];simp [FrSub,Go.Al.get]
   . rintro M5 z4 fr ⟨f0,f1,hupg,hS4,hK4,hA4,hst4,hn4,hu4,hfr⟩;simp only [FrSub,and_true] at hfr;have hb5:=hupg.at'.box;have hk5:=hupg.at'.kept;have hlt5:=hupg.at'.lt;have hnd5:=hupg.at'.nd;unfold ZR.cells at hb5;rw [hS4] at hb5 hlt5 hnd5;have hn4a:=hn4 _ (.inl rfl);have hn4b:=hn4 _ (.inr rfl);simp only [ZR.Own,not_or] at hn4a hn4b;have hM5:=hupg.stay.1;have hfl:=at_lt f1;have m1:(z.S ∈ [z.S,z4.K])=True:=eq_true (by simp);have m2:(z4.K ∈ [z.S,z4.K])=True:=eq_true (by simp);have hh:((M5.set z4.K .dead).set z.S .dead)[H.length+1]?=M5[H.length+1]?:=(by rw [zN,zN]);have w1:∀ x,(M5.set z4.K .dead++[x])[z.S]?=M5[z.S]?:=fun x=>(by rw [zA,zN]);repeat' (first|(with_reducible apply zS;constructor) <;> intro _|((with_reducible refine mkl_view ?_ ?_ ?_);(focus decide);(focus rfl))|(with_reducible first|refine ai ?_|(apply zP;constructor)|refine mkl_own ?_|refine ap_own ?_|refine base0_i ?_|refine any00_i ?_)|with_reducible refine any_i [z.S,z4.K] ?_|simp (disch:=omega) only [lE,seval,hfr,f1,hb5,hk5,hh,w1,m1,m2,setAll,setAt,get_last,set_last,List.length_set,List.length_append])
     all_goals try omega
     all_goals (
      have hup6:ZUpd z4 ⟨z.S,M5.length,z4.A,{ z4.u with kept:=z4.u.kept++[{ t with done:=true,stamp:=stamp }] },z4.kp++[(tx,{ t with done:=true,stamp:=stamp })]⟩ M5 ((M5.set z4.K .dead++[AObj.arr 49 8 ((z4.kp.map uxP).map UX.av++[.agg [.int .i64 tx,.int .i64 t.mode,.int .i64 t.snap,.bool true,.int .i64 stamp,.view 4 (t.log.map WR.av),.view 1 ((t.rows.map itemI).map (AV.int .i64)),.view 1 (t.whole.map (AV.int .i64))]])]).set z.S (.box [.int .i64 z4.u.last,.int .i64 z4.u.shown,.int .i64 z4.u.begun,.slc M5.length 8 (z4.kp.length+1),.slc z4.A 8 z4.u.act.length])):=by
       refine ⟨⟨?_,?_,?_,⟨by simp only;omega,by simp only;omega,by simp only;omega⟩,by simp only [List.map_append];rw [hupg.at'.eq];rfl⟩,hS4.symm,((Stay.set (O:=z4.Own) (.inr (.inl rfl))).trans (O':=fun _=>False) (Stay.app _ _ _) fun _ _ h=>h.elim).trans (O':=fun i=>i=z.S) (Stay.set rfl) fun i _ h=>.inl (h.trans hS4.symm),?_⟩
       . simp only [ZR.cells,List.length_append,List.length_cons,List.length_nil];exact at_same _ _ _ (by simp;omega)
       . simp only;rw [zN,get_lastN (by simp),List.map_append,List.map_append];rfl
       . simp only;rw [zN,zA,zN];exact hupg.at'.act
       . rintro i (rfl | rfl | rfl)
         . exact .inl (.inl hS4.symm)
         . exact .inr (Nat.le_refl _)
         . exact .inl (.inr (.inr rfl))
      generalize (M5.set z4.K .dead++[AObj.arr 49 8 ((z4.kp.map uxP).map UX.av++[.agg [.int .i64 tx,.int .i64 t.mode,.int .i64 t.snap,.bool true,.int .i64 stamp,.view 4 (t.log.map WR.av),.view 1 ((t.rows.map itemI).map (AV.int .i64)),.view 1 (t.whole.map (AV.int .i64))]])]).set z.S (.box [.int .i64 z4.u.last,.int .i64 z4.u.shown,.int .i64 z4.u.begun,.slc M5.length 8 (z4.kp.length+1),.slc z4.A 8 z4.u.act.length])=M6 at *;have i0:=hup6.stay.at f0 (hn4 _ (.inl rfl));have i1:=hup6.stay.at f1 (hn4 _ (.inr rfl));refine frz_i (fr':=[(0,.op z.S 0),(4,.op H.length 0),(5,.op (H.length+1) 0),(6,.int .i64 stamp)]) (H':=M6) (Ent.fr (by simp [FrSub,Go.Al.get,hfr])) ?_;repeat' (first|(with_reducible first|(apply zS;constructor)<;>intro _|refine ai ?_|(apply zQ;constructor))|simp (disch:=omega) only [lE,seval])
      refine callW_i (c82 (z:=⟨z.S,M5.length,z4.A,{ z4.u with kept:=z4.u.kept++[{ t with done:=true,stamp:=stamp }] },z4.kp++[(tx,{ t with done:=true,stamp:=stamp })]⟩) hup6.at' (fun q hq=>by
       rcases List.mem_append.1 hq with hq | hq
       . exact hst4 q hq
       . rw [List.mem_singleton.1 hq];exact hadm) (by simp only [List.length_append,List.length_cons,List.length_nil];omega)) ?_
      rintro _ M7 ⟨z7,hu7,hz7⟩
      have hn6:∀ i,i=H.length\/i=H.length+1->¬ ZR.Own ⟨z.S,M5.length,z4.A,{ z4.u with kept:=z4.u.kept++[{ t with done:=true,stamp:=stamp }] },z4.kp++[(tx,{ t with done:=true,stamp:=stamp })]⟩ i:=fun i hi h=>by
       rcases h with h | h | h <;> simp only at h <;> omega
      have j0:=hu7.stay.at i0 (hn6 _ (.inl rfl));have j1:=hu7.stay.at i1 (hn6 _ (.inr rfl));have j2:∀ o,(M7.set H.length o)[H.length]?=some o:=fun o=>at_same _ _ _ (at_lt j0);have hl6:=at_lt i0
      have hn7:¬ z7.Own H.length:=fun h=>by
       rcases hu7.own _ h with h | h
       . exact hn6 _ (.inl rfl) h
       . omega
      repeat' (first|(with_reducible first|(apply zS;constructor)<;>intro _|refine ai ?_|(apply zQ;constructor))|((with_reducible apply zF;constructor);simp only [lP,seval,j0,j1,j2,setAll,setAt,ti30];refine ⟨_,h44,?_⟩;rintro _ _ ⟨rfl,rfl⟩;simp only [lA,lP,seval,j0,j1,j2,setAll,setAt,ti30])|simp (disch:=omega) only [lE,seval,j0,j1,j2,setAll,setAt,ti30])
      all_goals try omega
      refine ⟨_,.refl _,rfl,z7,((hupg.trans hup6).trans hu7).res (Nat.le_refl _) hn7 _,?_⟩;rw [hz7];simp only [hu4];rfl)
end Go.Proofs.Try
