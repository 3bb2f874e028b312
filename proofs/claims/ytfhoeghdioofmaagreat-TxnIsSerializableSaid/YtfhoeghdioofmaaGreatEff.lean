/-
 A part of the proof.
-/
import Derived.Test.YtfhoeghdioofmaaGreatEee
set_option linter.unusedSimpArgs false
set_option linter.unusedVariables false
namespace Go.Proofs.Try
open Go.Proofs.Tryz
open Go.Al
set_option maxRecDepth 100000
abbrev q27_0:AT:=.alt none (.e (.app 80 59 4 48 (.t 77) (.t 79))) (.pure0 none (.v (.nil 81 (.t 73))) (.pure0 none (oF 82 4 81) (.alt none (.e (.store 1 false (.t 82) (.t 80))) .done .stop))) .stop
def mc27:MC:=(.seq (.ops [pK 5 2,pI 6 0]) (.seq (.ops [pM 11 0,pM 12 1,pW 13 71 11 12,pM 10 13,pX 14 0 10,pX 15 1 10,pM 7 14,pM 8 15]) (.seq (.block 0 (.seq (.ops [pM 17 8,pD 18 17 0,pM 16 18]) (.cond 16 (.seq (.ops [pM 19 8,pM 6 19]) .ret) (.seq (.ops [pM 21 7,(none,.v (.nil 22 (.t 21))),pF 23 0 22,pL 24 23,pE 25 24 2,pM 20 25]) (.cond 20 (.seq (.ops [pI 6 270]) .ret) (.seq (.ops [pF 27 0 5,pL 28 27,(none,.v (.bin 29 .lss false (.t 28) (.c (.int .i64 0)))),pM 30 29,gF 30 (oF 31 0 5),gF 30 (oL 32 31),(some (30,false),.v (.bin 33 .geq false (.t 32) (.c (.int .i64 256)))),pO 34 30 33,pM 35 34,gF 35 (oF 36 1 5),gF 35 (oL 37 36),(some (35,false),.v (.bin 38 .lss false (.t 37) (.c (.int .i64 1)))),pO 39 35 38,pM 40 39,gF 40 (oF 41 1 5),gF 40 (oL 42 41),(some (40,false),.v (.bin 43 .gtr false (.t 42) (.c (.int .i64 1073741824)))),pO 44 40 43,pM 45 44,gF 45 (oF 46 2 5),gF 45 (oL 47 46),gF 45 (oM 48 47),gT 48 (oF 49 3 5),gT 48 (oL 50 49),gT 48 (oG 51 50),(some (48,true),.v (.bin 52 .gtr false (.t 51) (.c (.int .i64 0)))),gF 45 (oP 53 48 52),pO 54 45 53,pM 26 54]) (.cond 26 (.seq (.ops [pI 6 1]) .ret) .skip))))))) (.seq (.ops [(none,.v (.fn 55 (.func 75) [] [.t 5])),pM 9 55]) (.seq (.seq (.ops [pM 56 7,(none,.v (.nil 57 (.t 56))),pF 58 4 57,pL 59 58,pM 60 9,pW 61 76 59 60,pN 62 61,pM 63 62,gT 63 (oM 64 7),gT 63 (oV 65 57 64),gT 63 (oG 66 65),(some (63,true),.v (.bin 67 .geq false (.t 66) (.c (.int .i64 64)))),pP 68 63 67]) (.cond 68 (.seq (.ops [pI 6 2]) .ret) .skip)) (.seq (.ops [pF 69 3 5,pL 70 69,pV 71 77 70,pF 72 3 5,(none,.e (.store 1 false (.t 72) (.t 71)))]) (.seq (.any true (.pure0 none (oM 73 7) (.pure0 none (oM 74 7) (.pure0 none (.v (.nil 75 (.t 74))) (.pure0 none (oF 76 4 75) (.pure0 none (oR 78 4 5) (.alt none (oL 77 76) (.alt none (.e (.mkl 79 59 4 1 (.agg z1) [(0,.t 78)])) q27_0 .stop) (.alt none (.e (.mkl 79 59 4 1 (.agg z1) [(0,.t 78)])) (.alt none (oL 77 76) q27_0 .stop) .stop)))))))) (.seq (.ops [pI 6 0]) .ret))))))))
theorem ok27:FnOk E 27 83 [.tmp 6] mc27:=ofk func27
set_option maxHeartbeats 16000000
theorem c27 {s:SR} {H:List AObj} (hs:s.At H) (tx:Int) (w:WR) (hl:∀ a,getM s.act tx=some a->a.x.log.length<=999999) (hf:∀ a,getM s.act tx=some a->∀ w ∈ a.x.log,fitP w.key) (hv:w.vals.length<=4398046510976) :
 ACalls E.P 27 [.op s.X 0,.int .i64 tx,w.av] H (fun r H'=>r=.int .i64 (writeS s.ts tx w).1/\∃ s',Upd s s' H H'/\s'.ts=(writeS s.ts tx w).2):=by
 have hmax:=maxLen_eq
 obtain ⟨H1,hH1⟩:∃ H1,H1=H++[AObj.box w.cs]:=⟨_,rfl⟩
 have hx1:Ext H H1:=hH1 ▸ Stay.app _ _ _
 have hl1:H1.length=H.length+1:=by rw [hH1];simp
 have hw1:H1[H.length]?=some (.box w.cs):=by rw [hH1];exact get_last
 have hs1:=hs.ext hx1
 have h71:=c71 hs1 tx
 refine ok27.acalls0 hE hm (by simp) fun N hN=>?_
 unfold mc27 q27_0 z1 pK pI pM pW pX pD pF pL pE pO pN pP pV gF gT oM oL oR oF oP oG oV
 simp only [lA,seval,wr_av]
 repeat' (first|(with_reducible first|(apply St.o;constructor)<;>intro _|refine ai ?_|(apply Sq.o;constructor))|simp (disch:=omega) only [lE,seval])
 rw [<- hH1]
 refine callW_i h71 ?_
 rintro _ H1 ⟨rfl,rfl⟩
 unfold writeS
 rw [getT_ts]
 cases hg:getM s.act tx with
 | none =>
   simp only [Option.map_none]
   repeat' (first|(with_reducible first|(apply St.o;constructor)<;>intro _|refine ai ?_|(apply Sq.o;constructor))|simp (disch:=omega) only [lE,seval])
   exact ⟨s,Upd.ext hs hx1,rfl⟩
 | some a =>
   have haa:a ∈ s.all:=SR.act_mem (getM_mem hg)
   have ha:=hs.tr _ haa
   have ha1:=hs1.tr _ haa
   have h3:=ha1.box
   have h4:=ha1.log
   have hll:=hl a hg
   have hff:=hf a hg
   have h57:=c57 ha1 (by omega) hff
   have h77:=c77 w.vals hv
   simp only [TR.cells] at h3
   simp only [Option.map_some]
   by_cases hm2:a.x.mode=2
   . rw [if_pos hm2]
     repeat' (first|(with_reducible first|(apply St.o;constructor)<;>intro _|refine ai ?_|(apply Sq.o;constructor))|simp (disch:=omega) only [lE,seval,h3,hm2])
     all_goals first
      | (exfalso;omega)
      | exact ⟨s,Upd.ext hs hx1,rfl⟩
   rw [if_neg hm2]
   by_cases hc:w.tab<0\/256<=w.tab\/w.row<1\/1073741824<w.row\/(w.dead=true/\0<w.vals.length)
   . rw [if_pos hc]
     repeat' (first|(with_reducible first|(apply St.o;constructor)<;>intro _|refine ai ?_|(apply Sq.o;constructor))|simp (disch:=omega) only [lE,seval,h3,hw1,List.length_map])
     all_goals first
      | (exfalso;omega)
      | exact ⟨s,Upd.ext hs hx1,rfl⟩
      | (exfalso;rcases hc with h | h | h | h | ⟨h,h'⟩ <;> first | omega | simp_all)
   rw [if_neg hc]
   have h76:=c76 a.x.log 75 [.vp w.cs] (p:=fun x=>decide (x.key=w.key)) (fun r _=>c75 r w) (fun H ids bor=>by simp [WR.cs,pa_vp,pa_int,pa_bool,pa_view]) (fun H ids bor=>by simp [WR.cs,pa_vp,pa_int,pa_bool,pa_view])
   repeat' (first|(with_reducible first|(apply St.o;constructor)<;>intro _|refine ai ?_|(apply Sq.o;constructor))|((with_reducible apply Sc.o true;constructor);simp only [lP,seval,h3,h4,hw1,vw_wrs,List.length_map];refine ⟨_,h76,?_⟩;rintro _ _ ⟨rfl,rfl⟩;simp only [lA,lP,seval,h3,h4,hw1,vw_wrs,List.length_map])|simp (disch:=omega) only [lE,seval,h3,h4,hw1,vw_wrs,List.length_map])
   all_goals try (exfalso;first | omega | simp_all;done)
   all_goals first
    | (refine callW_i h57 ?_;rintro _ H2 ⟨rfl,hx2⟩)
    | (obtain ⟨H2,hH2⟩:∃ H2,H2=H1:=⟨_,rfl⟩;have hx2:Ext H1 H2:=hH2 ▸ Stay.refl _ _;rw [<- hH2])
   all_goals
    have hw2:=hx2.at hw1
    have k3:=hx2.at h3
    have k4:=hx2.at h4
    repeat' (first|(with_reducible first|(apply St.o;constructor)<;>intro _|refine ai ?_|(apply Sq.o;constructor))|simp (disch:=omega) only [lE,seval,hw2,setAll,List.length_map])
   all_goals first
    | (rw [if_pos ⟨by simp_all,by omega⟩];exact ⟨rfl,s,Upd.ext hs (hx1.trans hx2 fun _ _ h=>h),rfl⟩)
    | rw [if_neg (fun h=>by first | (have:=h.2;omega) | (have:=h.1;simp_all;done))]
   all_goals
    have hab:H.length≠a.t:=by have:=at_lt h3;have:=(hs.tr _ haa).lt a.t (by simp [TR.ids]);omega
    have hal:H.length≠a.l:=by have:=(hs.tr _ haa).lt a.l (by simp [TR.ids]);omega
    have f1:∀ o,(H2.set H.length o)[a.t]?=H2[a.t]?:=fun o=>at_set _ _ _ _ hab
    have f2:∀ o,(H2.set H.length o)[a.l]?=H2[a.l]?:=fun o=>at_set _ _ _ _ hal
    have f3:∀ o,(H2.set H.length o)[H.length]?=some o:=fun o=>at_same _ _ _ (at_lt hw2)
    repeat' (first|(with_reducible first|(apply St.o;constructor)<;>intro _|refine ai ?_|(apply Sq.o;constructor))|((with_reducible apply Sc.o false;constructor);simp only [lP,seval,hw2,f1,f2,f3,k3,k4,setAll,List.length_map];refine ⟨_,h77,?_⟩;rintro _ _ ⟨rfl,rfl⟩;simp only [lA,lP,seval,hw2,f1,f2,f3,k3,k4,setAll,List.length_map])|simp (disch:=omega) only [lE,seval,hw2,f1,f2,f3,k3,k4,setAll,List.length_map])
   all_goals
    obtain ⟨H3,hH3⟩:∃ H3,H3=H2.set H.length (AObj.box [AV.int IntKind.i64 w.tab,AV.int IntKind.i64 w.row,AV.bool w.dead,AV.view 3 (List.map VL.av w.vals)]):=⟨_,rfl⟩
    have hx3:Ext H H3:=hH3 ▸ (hx1.trans hx2 fun _ _ h=>h).trans (O':=fun i=>i=H.length) (Stay.set rfl) fun i hi h=>by omega
    have hw3:H3[H.length]?=some (.box [AV.int IntKind.i64 w.tab,AV.int IntKind.i64 w.row,AV.bool w.dead,AV.view 3 (List.map VL.av w.vals)]):=hH3 ▸ f3 _
    have m3:=hx3.at ha.box
    have m4:=hx3.at ha.log
    simp only [TR.cells] at m3
    have l3:=at_lt m3
    have l4:=at_lt m4
    have l5:=at_lt hw3
    have hid:=ha.ids_nodup hs haa
    simp only [TR.ids,List.nodup_cons,List.mem_cons,List.not_mem_nil,or_false,not_or] at hid
    rw [<- hH3]
    clear hH3
    have e1:∀ o,(H3++[o])[a.t]?=H3[a.t]?:=fun o=>at_app _ _ _ l3
    have e2:∀ o,(H3++[o])[a.l]?=H3[a.l]?:=fun o=>at_app _ _ _ l4
    have e3:∀ o o',((H3++[o]).set a.l o' )[a.t]?=H3[a.t]?:=fun o o'=>by rw [at_set _ _ _ _ (by omega),at_app _ _ _ l3]
    have e4:∀ o o' o'',((H3++[o]).set a.l o'++[o''])[a.t]?=H3[a.t]?:=fun o o' o''=>by rw [at_app _ _ _ (by simp;omega),at_set _ _ _ _ (by omega),at_app _ _ _ l3]
    have e5:((H3.set a.l .dead).set a.t .dead)[H.length]?=H3[H.length]?:=by rw [at_set _ _ _ _ (by omega),at_set _ _ _ _ (by omega)]
    have b1:(a.l ∈ [a.t,a.l])=True:=by simp
    have b2:(a.t ∈ [a.t,a.l])=True:=by simp
    repeat' (first|(with_reducible first|(apply St.o;constructor)<;>intro _|refine ai ?_|(apply Sq.o;constructor))|with_reducible refine any_i [a.t,a.l] ?_|simp (disch:=omega) only [lE,seval,b1,b2,true_or,hw3,e5,m3,m4,e1,e2,e3,e4,get_last,fillE,setAll,List.length_map,List.length_append,List.length_cons,List.length_nil])
   all_goals
    obtain ⟨⟨d1,d2,d3⟩,⟨d4,d5⟩,d6,_⟩:=hid
    have r1:=hx3.at ha.rows
    have r2:=hx3.at ha.whole
    have q2:=at_lt r1
    have q3:=at_lt r2
    have q6:=hx3.1
    have wa:w.av=AV.agg [AV.int IntKind.i64 w.tab,AV.int IntKind.i64 w.row,AV.bool w.dead,AV.view 3 (List.map VL.av w.vals)]:=rfl
    refine ⟨s.setA tx { a with l:=H3.length+1,x:={ a.x with log:=a.x.log++[w] } },SR.set_at (a':={ a with l:=H3.length+1,x:={ a.x with log:=a.x.log++[w] } }) hs hg rfl ⟨?_,?_,?_,?_,ha.rwf,ha.wwf⟩ ?_ ?_ ?_,setA_ts _ _⟩
    . rw [at_same _ _ _ (by simp;omega)];simp [TR.cells]
    . simp only
      rw [at_set _ _ _ _ (by omega),show H3.length+1=((H3++[AObj.arr 59 4 [w.av]]).set a.l .dead).length by simp,wa,get_last]
      simp [wa]
    . simp only;rw [at_set _ _ _ _ (by omega),at_app _ _ _ (by simp;omega),at_set _ _ _ _ (by omega),at_app _ _ _ q2];exact r1
    . simp only;rw [at_set _ _ _ _ (by omega),at_app _ _ _ (by simp;omega),at_set _ _ _ _ (by omega),at_app _ _ _ q3];exact r2
    . simp [TR.ids];omega
    . exact (((hx3.to.trans (O':=(· ∈ a.ids)) (Stay.app _ _ _) fun _ _ h=>h).trans (O':=(· ∈ a.ids)) (Stay.set (by simp [TR.ids])) fun _ _ h=>h).trans (O':=(· ∈ a.ids)) (Stay.app _ _ _) fun _ _ h=>h).trans (O':=(· ∈ a.ids)) (Stay.set (by simp [TR.ids])) fun _ _ h=>h
    . intro i hi
      simp only [TR.ids,List.mem_cons,List.not_mem_nil,or_false] at hi ⊢
      omega
abbrev q51_0:MI:=oI 8 0
def mc51:MC:=(.seq (.ops [pK 6 2,(none,q51_0)]) (.seq (.ops [pM 13 0,pM 14 1,pW 15 71 13 14,pM 12 15,pX 16 0 12,pX 17 1 12,pM 9 16,pM 10 17]) (.seq (.seq (.ops [pM 18 10,pD 19 18 0]) (.cond 19 (.seq (.ops [pM 20 10,pM 8 20]) .ret) .skip)) (.seq (.seq (.ops [pL 21 6,(none,.v (.bin 22 .lss false (.t 21) (.c (.int .i64 0)))),pM 23 22,gF 23 (oL 24 6),(some (23,false),.v (.bin 25 .geq false (.t 24) (.c (.int .i64 256)))),pO 26 23 25,pM 27 26,gF 27 (oM 28 3),(some (27,false),.v (.bin 29 .lss false (.t 28) (.c (.int .i64 0)))),pO 30 27 29,pM 31 30,gF 31 (oM 32 3),(some (31,false),.v (.bin 33 .gtr false (.t 32) (.c (.int .i64 1073741824)))),pO 34 31 33]) (.cond 34 (.seq (.ops [pI 8 1]) .ret) .skip)) (.seq (.ops [pL 35 6,pM 36 3,(none,.v (.build 37 z3 [(0,1,.t 35),(1,1,.t 36)])),(none,.e (.alloc 11 z3)),pS 2 11 37]) (.seq (.seq (.any false (.pure0 none (oM 38 9) (.pure0 none (.v (.nil 39 (.t 38))) (.pure0 none (oF 40 6 39) (.pure0 none (oL 41 40) (.pure0 none (oL 42 6) (.pure0 none (.p (.look 43 false (.int .i64) (.bool false) (.t 41) (.t 42))) (.pure0 none (oM 44 43) (.pure0 (some (44,false)) (oM 45 9) (.pure0 (some (44,false)) (.v (.nil 46 (.t 45))) (.pure0 (some (44,false)) (oF 47 5 46) (.pure0 (some (44,false)) (oL 48 47) (.pure0 (some (44,false)) (oR 49 2 11) (.pure0 (some (44,false)) (.p (.look 50 false (.wide [.int .i64,.int .i64]) (.bool false) (.t 48) (.t 49))) (.pure0 none (oO 51 44 50) .done))))))))))))))) (.cond 51 (.seq (.ops [(none,q51_0)]) .ret) .skip)) (.seq (.seq (.ops [pM 52 3,(none,.v (.bin 53 .gtr false (.t 52) (.c (.int .i64 0)))),pM 54 53,gT 54 (oM 55 9),(some (54,true),.v (.nil 56 (.t 55))),gT 54 (oF 57 5 56),gT 54 (oL 58 57),(some (54,true),.p (.mlen 59 (.t 58))),(some (54,true),.v (.bin 60 .lss false (.t 59) (.c (.int .i64 24)))),pP 61 54 60]) (.cond 61 (.seq (.any false (.pure0 none (oM 62 9) (.pure0 none (.v (.nil 63 (.t 62))) (.pure0 none (oF 64 5 63) (.pure0 none (oL 65 64) (.pure0 none (oR 66 2 11) (.alt none (.e (.mkl 67 106 2 1 (.agg z3) [(0,.t 66)])) (.base (.alt none (oW 68 100 65 67) (.base .done) .stop)) .stop))))))) (.seq (.ops [(none,q51_0)]) .ret)) .skip)) (.seq (.any false (.pure0 none (oM 69 9) (.pure0 none (.v (.nil 70 (.t 69))) (.pure0 none (oF 71 6 70) (.pure0 none (oL 72 71) (.pure0 none (oL 73 6) (.alt none (.e (.mkl 74 3 1 1 (.int .i64 0) [(0,.t 73)])) (.base (.alt none (oW 75 56 72 74) (.base .done) .stop)) .stop))))))) (.seq (.ops [pM 76 9,(none,.v (.nil 77 (.t 76))),pF 78 5 77,pL 79 78,(none,.v (.fn 80 (.func 102) [] [.t 6])),pW 81 101 79 80]) (.seq (.ops [(none,q51_0)]) .ret))))))))))
theorem ok51:FnOk E 51 82 [.tmp 8] mc51:=ofk func51
def readS (s:TS) (tx tab row:Int):Int × TS :=
 match getT s tx with
 | none=>(273,s)
 | some t=>if tab<0\/256<=tab\/row<0\/1073741824<row then (1,s) else (0,setT s tx (readT t tab row))
theorem getM_whole (l:List Int) (n:Int):getM (l.map fun n=>(n,true)) n=if l.contains n=true then some true else none:=by
 induction l with
 | nil=>simp [getM]
 | cons x l ih =>
   rw [List.map_cons,getM_cons,ih]
   by_cases h:x=n
   . subst h;simp
   . have:¬ n=x:=fun e=>h e.symm
     simp [h,this]
theorem getW_rows (l:List (Int × Int)) (n:Int × Int):getW (l.map fun n=>(n,true)) n=if l.contains n=true then some true else none:=by
 induction l with
 | nil=>simp [getW]
 | cons x l ih =>
   rw [List.map_cons,getW_cons,ih]
   by_cases h:x=n
   . subst h;simp
   . have:¬ n=x:=fun e=>h e.symm
     simp [h,this]
theorem setW_new {α:Type} {m:List ((Int × Int) × α)} {r:Int × Int} (v:α) (h:∀ p ∈ m,p.1≠r):setW m r v=m++[(r,v)]:=by
 induction m with
 | nil=>rfl
 | cons p m ih=>rw [setW,if_neg (h p (by simp)),ih fun q hq=>h q (by simp [hq])];rfl
theorem setA_same {s:SR} {H:List AObj} (hs:s.At H) {tx:Int} {a:TR} (hg:getM s.act tx=some a):setT s.ts tx a.x=s.ts:=by
 obtain ⟨l1,l2,hl⟩:=List.append_of_mem (getM_mem hg)
 have hasc:=hs.asc
 rw [hl] at hasc
 have:(s.setA tx a)=s:=by
  simp only [SR.setA]
  rw [show s.act.map (fun p=>if p.1=tx then (tx,a) else p)=s.act by rw [hl];exact map_set_split hasc]
 rw [<- setA_ts,this]
theorem c51 {s:SR} {H:List AObj} (hs:s.At H) (tx tab row:Int) (hf:∀ a,getM s.act tx=some a->∀ p ∈ a.x.rows,fitP p) (hn:∀ a,getM s.act tx=some a->a.x.rows.Nodup) :
 ACalls E.P 51 [.op s.X 0,.int .i64 tx,.int .i64 tab,.int .i64 row] H (fun r H'=>r=.int .i64 (readS s.ts tx tab row).1/\∃ s',Upd s s' H H'/\s'.ts=(readS s.ts tx tab row).2):=by
 have hmax:=maxLen_eq
 obtain ⟨H1,hH1⟩:∃ H1,H1=H++[AObj.box [.int .i64 tab]]:=⟨_,rfl⟩
 have hx1:Ext H H1:=hH1 ▸ Stay.app _ _ _
 have hl1:H1.length=H.length+1:=by rw [hH1];simp
 have hw1:H1[H.length]?=some (.box [.int .i64 tab]):=by rw [hH1];exact get_last
 have hs1:=hs.ext hx1
 have h71:=c71 hs1 tx
 refine ok51.acalls0 hE hm (by simp) fun N hN=>?_
 unfold mc51 q51_0 z3 pK pM pW pX pD pL pO pI pS pP pF gF gT oM oI oL oR oF oO oW
 simp only [lA,seval]
 repeat' (first|(with_reducible first|(apply St.o;constructor)<;>intro _|refine ai ?_|(apply Sq.o;constructor))|simp (disch:=omega) only [lE,seval])
 rw [<- hH1]
 refine callW_i h71 ?_
 rintro _ H1 ⟨rfl,rfl⟩
 unfold readS
 rw [getT_ts]
 cases hg:getM s.act tx with
 | none =>
   simp only [Option.map_none]
   repeat' (first|(with_reducible first|(apply St.o;constructor)<;>intro _|refine ai ?_|(apply Sq.o;constructor))|simp (disch:=omega) only [lE,seval])
   exact ⟨s,Upd.ext hs hx1,rfl⟩
 | some a =>
   have haa:a ∈ s.all:=SR.act_mem (getM_mem hg)
   have ha:=hs.tr _ haa
   have ha1:=hs1.tr _ haa
   simp only [Option.map_some]
   by_cases hc:tab<0\/256<=tab\/row<0\/1073741824<row
   . rw [if_pos hc]
     repeat' (first|(with_reducible first|(apply St.o;constructor)<;>intro _|refine ai ?_|(apply Sq.o;constructor))|simp (disch:=omega) only [lE,seval,hw1])
     all_goals first
      | (exfalso;omega)
      | exact ⟨s,Upd.ext hs hx1,rfl⟩
   rw [if_neg hc]
   obtain ⟨H2,hH2⟩:∃ H2,H2=H1++[AObj.box [.int .i64 tab,.int .i64 row]]:=⟨_,rfl⟩
   have hx2:Ext H1 H2:=hH2 ▸ Stay.app _ _ _
   have hl2:H2.length=H.length+2:=by rw [hH2];simp [hl1]
   have ha2:a.At H2:=ha1.stay hx2 fun _ _=>id
   have h3:=ha2.box
   have h5:H2[a.r]?=some (.map (kW (rowsM a.x)) (vW AV.bool (rowsM a.x)) a.rb a.rc):=ha2.rows
   have h6:=ha2.whole
   have hb1:=hx2.at hw1
   have hb2:H2[H1.length]?=some (.box [.int .i64 tab,.int .i64 row]):=by rw [hH2];exact get_last
   simp only [TR.cells] at h3
   have hfit:fitP (tab,row):=by
    constructor
    . simp [Lit.wf,IntKind.min,IntKind.max,IntKind.signed,IntKind.bits];omega
    . simp [Lit.wf,IntKind.min,IntKind.max,IntKind.signed,IntKind.bits];omega
   have hfm:∀ p ∈ rowsM a.x,fitP p.1:=fun p hp=>by
    obtain ⟨q,hq,rfl⟩:=List.mem_map.1 hp
    exact hf a hg q hq
   have hlw:=look_m AV.bool (.bool false) (wholeM a.x) tab
   have hlr:Al.look (.wide [.int .i64,.int .i64]) (.bool false) (kW (rowsM a.x)) (vW AV.bool (rowsM a.x)) (.agg [.int .i64 tab,.int .i64 row])=_:=look_w AV.bool (.bool false) hfm hfit
   have hgw:getM (wholeM a.x) tab=if a.x.whole.contains tab=true then some true else none:=getM_whole _ _
   have hgr:getW (rowsM a.x) (tab,row)=if a.x.rows.contains (tab,row)=true then some true else none:=getW_rows _ _
   rw [hgw] at hlw
   rw [hgr] at hlr
   have hwr:WfM (rowsM a.x).length a.rb a.rc:=by have:=ha.rwf;rw [rowsM,List.length_map];exact this
   have hww:WfM (wholeM a.x).length a.wb a.wc:=by have:=ha.wwf;rw [wholeM,List.length_map];exact this
   have hx02:Ext H H2:=hx1.trans hx2 fun _ _ h=>h
   have hq1:=at_lt h3
   have hq5:=at_lt h5
   have hq6:=at_lt h6
   repeat' (first|(with_reducible first|(apply St.o;constructor)<;>intro _|refine ai ?_|(apply Sq.o;constructor))|simp (disch:=omega) only [lE,seval,hw1,fillE,setAll,get_last,set_last,setAt])
   all_goals try (exfalso;omega)
   rw [<- hH2]
   have hid:=ha.ids_nodup hs haa
   simp only [TR.ids,List.nodup_cons,List.mem_cons,List.not_mem_nil,or_false,not_or] at hid
   obtain ⟨⟨d1,d2,d3⟩,⟨d4,d5⟩,d6,_⟩:=hid
   have z1:(H2.set a.r .dead)[a.t]?=H2[a.t]?:=at_set _ _ _ _ (by omega)
   have z2:(H2.set a.w .dead)[a.t]?=H2[a.t]?:=at_set _ _ _ _ (by omega)
   have z3:(H2.set a.r .dead)[H1.length]?=H2[H1.length]?:=at_set _ _ _ _ (by have:=(hs.tr _ haa).lt a.r (by simp [TR.ids]);omega)
   have z4:(H2.set a.w .dead)[H.length]?=H2[H.length]?:=at_set _ _ _ _ (by have:=(hs.tr _ haa).lt a.w (by simp [TR.ids]);omega)
   have hnone:s.ts=setT s.ts tx a.x:=(setA_same hs hg).symm
   by_cases hcw:a.x.whole.contains tab=true
   . have hr:readT a.x tab row=a.x:=if_pos (.inl hcw)
     rw [if_pos hcw] at hlw
     rw [hr]
     repeat' (first|(with_reducible first|(apply St.o;constructor)<;>intro _|refine ai ?_|(apply Sq.o;constructor))|simp (disch:=omega) only [lE,seval,hb1,hb2,h3,h6,hlw])
     exact ⟨s,Upd.ext hs hx02,hnone⟩
   rw [if_neg hcw] at hlw
   by_cases hcr:a.x.rows.contains (tab,row)=true
   . have hr:readT a.x tab row=a.x:=if_pos (.inr hcr)
     rw [if_pos hcr] at hlr
     rw [hr]
     repeat' (first|(with_reducible first|(apply St.o;constructor)<;>intro _|refine ai ?_|(apply Sq.o;constructor))|simp (disch:=omega) only [lE,seval,hb1,hb2,h3,h6,h5,hlw,hlr])
     exact ⟨s,Upd.ext hs hx02,hnone⟩
   rw [if_neg hcr] at hlr
   by_cases hrow:0<row/\a.x.rows.length<24
   . have hr:readT a.x tab row={ a.x with rows:=a.x.rows++[(tab,row)] }:=by
      unfold readT;rw [if_neg (by simp only [not_or];exact ⟨hcw,hcr⟩),if_pos hrow]
     rw [hr]
     have hml:(kW (rowsM a.x)).length=a.x.rows.length:=by simp [rowsM,kW]
     repeat' (first|(with_reducible apply St.o;constructor) <;> intro _|(with_reducible first|refine ai ?_|(apply Sp.o;constructor)|refine mkl_own ?_|refine ap_own ?_|refine base0_i ?_|refine frz0_i ?_)|simp (disch:=omega) only [lE,seval,hb1,hb2,h3,h6,h5,hlw,hlr,hml])
     all_goals try (exfalso;omega)
     all_goals refine any0_i [a.r] ?_
     repeat' (first|(with_reducible apply St.o;constructor) <;> intro _|((with_reducible refine mkl_view ?_ ?_ ?_);(focus decide);(focus rfl))|(with_reducible first|refine ai ?_|(apply Sp.o;constructor)|refine mkl_own ?_|refine ap_own ?_|refine frz0_i ?_)|with_reducible refine base_i [a.r] (by simp) ?_|simp (disch:=omega) only [lE,seval,hb1,hb2,h3,h6,h5,z1,z2,z3,z4,hlw,hlr,hml])
     all_goals try (exfalso;omega)
     have hp1:pos [a.r] a.r 0=some 0:=by simp [pos]
     refine acallI_i [a.r] false (by simp) (by simpa using hq5) (by simp) ?_
     simp only [lP,seval,hp1,h5,pa_kW,pa_vBW]
     refine ⟨_,c100 (rowsM a.x) hfm a.rb a.rc hwr (tab,row) hfit,?_⟩
     rintro _ _ ⟨rfl,bs',c',rfl,hw'⟩
     simp only [lA,lP,seval,renL_kW,renL_vBW]
     refine base0_i ?_
     repeat' (first|(with_reducible first|(apply St.o;constructor)<;>intro _|refine ai ?_|(apply Sq.o;constructor))|simp (disch:=omega) only [lE,seval])
     obtain ⟨H3,hH3⟩:∃ H3,H3=H2.set a.r (AObj.map (kW (setW (rowsM a.x) (tab,row) true)) (vW AV.bool (setW (rowsM a.x) (tab,row) true)) bs' c'):=⟨_,rfl⟩
     have hse:setW (rowsM a.x) (tab,row) true=rowsM { a.x with rows:=a.x.rows++[(tab,row)] }:=by
      rw [setW_new _ fun p hp=>?_]
      . simp [rowsM]
      . obtain ⟨q,hq,rfl⟩:=List.mem_map.1 hp
        intro e
        simp only at e
        exact hcr (by rw [<- e];simpa using hq)
     rw [hse] at hw'
     refine ⟨s.setA tx { a with rb:=bs',rc:=c',x:={ a.x with rows:=a.x.rows++[(tab,row)] } },SR.set_at (a':={ a with rb:=bs',rc:=c',x:={ a.x with rows:=a.x.rows++[(tab,row)] } }) hs hg rfl ⟨?_,?_,?_,?_,?_,ha.wwf⟩ ?_ ?_ ?_,setA_ts _ _⟩
     . rw [at_set _ _ _ _ (by simp only;omega)];exact h3
     . rw [at_set _ _ _ _ (by simp only;omega)];exact hx02.at ha.log
     . rw [hse];exact at_same _ _ _ hq5
     . rw [at_set _ _ _ _ (by simp only;omega)];exact h6
     . simpa [rowsM] using hw'
     . exact ha.ids_nodup hs haa
     . exact hx02.to.trans (O':=fun i=>i=a.r) (Stay.set rfl) fun i _ h=>by simp [TR.ids,h]
     . exact fun i hi=>.inl hi
   . have hr:readT a.x tab row={ a.x with whole:=a.x.whole++[tab],rows:=a.x.rows.filter fun r=>decide (r.1≠tab) }:=by
      unfold readT;rw [if_neg (by simp only [not_or];exact ⟨hcw,hcr⟩),if_neg hrow]
     rw [hr]
     have hml:(kW (rowsM a.x)).length=a.x.rows.length:=by simp [rowsM,kW]
     repeat' (first|(with_reducible apply St.o;constructor) <;> intro _|(with_reducible first|refine ai ?_|(apply Sp.o;constructor)|refine mkl_own ?_|refine ap_own ?_|refine base0_i ?_|refine frz0_i ?_)|simp (disch:=omega) only [lE,seval,hb1,hb2,h3,h6,h5,hlw,hlr,hml])
     all_goals try (exfalso;omega)
     all_goals refine any0_i [a.w] ?_
     repeat' (first|(with_reducible apply St.o;constructor) <;> intro _|((with_reducible refine mkl_view ?_ ?_ ?_);(focus decide);(focus rfl))|(with_reducible first|refine ai ?_|(apply Sp.o;constructor)|refine mkl_own ?_|refine ap_own ?_|refine frz0_i ?_)|with_reducible refine base_i [a.w] (by simp) ?_|simp (disch:=omega) only [lE,seval,hb1,hb2,h3,h6,h5,z1,z2,z3,z4,hlw,hlr,hml])
     all_goals try (exfalso;omega)
     all_goals
      have hp1:pos [a.w] a.w 0=some 0:=by simp [pos]
      refine acallI_i [a.w] false (by simp) (by simpa using hq6) (by simp) ?_
      simp only [lP,seval,hp1,h6,pa_kM,pa_vB]
      refine ⟨_,c56 (wholeM a.x) a.wb a.wc hww [tab],?_⟩
      rintro _ _ ⟨rfl,bs',c',rfl,hw'⟩
      simp only [lA,lP,seval,renL_kM,renL_vB]
      refine base0_i ?_
      have hfo:[tab].foldl (fun m n=>setM m n true) (wholeM a.x)=wholeM { a.x with whole:=a.x.whole++[tab] }:=by
       show setM (wholeM a.x) tab true=_
       rw [setM_new _ fun p hp=>?_]
       . simp [wholeM]
       . obtain ⟨q,hq,rfl⟩:=List.mem_map.1 hp
         intro e
         simp only at e
         exact hcw (by rw [<- e];simpa using hq)
      rw [hfo] at hw'
      rw [hfo]
      obtain ⟨H3,hH3⟩:∃ H3,H3=H2.set a.w (AObj.map (kM (wholeM { a.x with whole:=a.x.whole++[tab] })) (vM AV.bool (wholeM { a.x with whole:=a.x.whole++[tab] })) bs' c'):=⟨_,rfl⟩
      rw [<- hH3]
      have hwl:=(hs.tr _ haa).lt a.w (by simp [TR.ids])
      have y1:H3[a.t]?=H2[a.t]?:=by rw [hH3];exact at_set _ _ _ _ (by omega)
      have y2:H3[a.r]?=some (.map (kW (rowsM a.x)) (vW AV.bool (rowsM a.x)) a.rb a.rc):=by rw [hH3,at_set _ _ _ _ (by omega)];exact h5
      have y3:H3[H.length]?=some (.box [.int .i64 tab]):=by rw [hH3,at_set _ _ _ _ (by omega)];exact hb1
      have y4:H3[a.w]?=some (AObj.map (kM (wholeM { a.x with whole:=a.x.whole++[tab] })) (vM AV.bool (wholeM { a.x with whole:=a.x.whole++[tab] })) bs' c'):=by rw [hH3];exact at_same _ _ _ hq6
      have y5:H3[a.l]?=some (.arr 59 4 (a.x.log.map WR.av)):=by rw [hH3,at_set _ _ _ _ (by omega)];exact hx02.at ha.log
      have hst3:Stay (fun i=>i=a.w) H H3:=by rw [hH3];exact hx02.to.trans (O':=fun i=>i=a.w) (Stay.set rfl) fun _ _ h=>h
      have hnk:(keysW (rowsM a.x)).Nodup:=by
       have e:keysW (rowsM a.x)=a.x.rows:=by simp [keysW,rowsM,Function.comp_def]
       rw [e];exact hn a hg
      have h101:=c101 (rowsM a.x) hfm hnk a.rb a.rc hwr tab y2 y3
      repeat' (first|(with_reducible first|(apply St.o;constructor)<;>intro _|refine ai ?_|(apply Sq.o;constructor))|simp (disch:=omega) only [lE,seval,y1,h3])
      refine callW_i h101 ?_
      rintro _ H4 ⟨rfl,hst4,bs4,h4m,hw4⟩
      repeat' (first|(with_reducible first|(apply St.o;constructor)<;>intro _|refine ai ?_|(apply Sq.o;constructor))|simp (disch:=omega) only [lE,seval])
      have hre:(rowsM a.x).filter (fun p=>!decide (p.1.1=tab))=rowsM { a.x with whole:=a.x.whole++[tab],rows:=a.x.rows.filter fun r=>decide (r.1≠tab) }:=by
       simp only [rowsM,List.filter_map]
       congr 1
       refine List.filter_congr fun p _=>?_
       simp
      rw [hre] at h4m hw4
      refine ⟨s.setA tx { a with rb:=bs4,wb:=bs',wc:=c',x:={ a.x with whole:=a.x.whole++[tab],rows:=a.x.rows.filter fun r=>decide (r.1≠tab) } },SR.set_at (a':={ a with rb:=bs4,wb:=bs',wc:=c',x:={ a.x with whole:=a.x.whole++[tab],rows:=a.x.rows.filter fun r=>decide (r.1≠tab) } }) hs hg rfl ⟨?_,?_,?_,?_,?_,?_⟩ ?_ ?_ ?_,setA_ts _ _⟩
      . exact hst4.at (y1.trans h3) d2
      . exact hst4.at y5 d4
      . exact h4m
      . exact hst4.at y4 fun e=>d6 e.symm
      . simpa [rowsM] using hw4
      . simpa [wholeM] using hw'
      . exact ha.ids_nodup hs haa
      . exact (hst3.weak (O':=(· ∈ a.ids)) fun i _ h=>by simp [TR.ids,h]).trans hst4 fun i _ h=>by simp [TR.ids,h]
      . exact fun i hi=>.inl hi
end Go.Proofs.Try
