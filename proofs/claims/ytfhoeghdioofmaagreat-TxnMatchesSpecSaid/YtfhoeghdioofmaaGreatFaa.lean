/-
 A part of the proof.
-/
import Derived.Test.YtfhoeghdioofmaaGreatExx
set_option linter.unusedSimpArgs false
set_option linter.unusedVariables false
namespace Go.Proofs.Try
open Go.Proofs.Tryz
open Go.Al
set_option maxRecDepth 100000
abbrev q84_0:MI:=oI 7 0
def mc84:MC:=(sO [pK 3 0,(none,.e (.alloc 6 z1)),(none,q84_0)] (.seq (sO [pM 12 1,(none,.v (.bin 13 .lss false (.t 12) (.c (.int .i64 0)))),pM 14 13,gF 14 (oM 15 1),(some (14,false),.v (.bin 16 .gtr false (.t 15) (.c (.int .i64 255)))),pO 17 14 16,pM 18 17,gF 18 (oM 19 2),(some (18,false),.v (.bin 20 .lss false (.t 19) (.c (.int .i64 0)))),pO 21 18 20,pM 22 21,gF 22 (oM 23 2),(some (22,false),.v (.bin 24 .gtr false (.t 23) (.c (.int .i64 1073741824)))),pO 25 22 24] (.cond 25 (sO [pR 26 8 3,pS 8 6 26,pI 7 1] .ret) .skip)) (sO [pF 27 7 3,pL 28 27,pM 29 1,pW 30 73 28 29,pM 8 30] (.seq (.any false (yO (oM 31 2) (yO (.v (.bin 32 .gtr false (.t 31) (.c (.int .i64 0)))) (yO (oM 33 32) (.pure0 (some (33,true)) (oF 34 6 3) (.pure0 (some (33,true)) (oL 35 34) (.pure0 (some (33,true)) (oM 36 1) (.pure0 (some (33,true)) (oM 37 2) (.alt (some (33,true)) (oW 38 47 36 37) (.base (.alt (some (33,true)) (oW 39 73 35 38) (.base (yO (oP 40 33 39) (yO (oM 9 40) .done))) .stop)) .stop))))))))) (.seq (sO [pM 41 8,pM 42 41,gF 42 (oM 43 9),pO 44 42 43] (.cond 44 (sO [pR 45 8 3,pS 8 6 45,(none,q84_0)] .ret) .skip)) (.seq (sO [pM 46 2,(none,.v (.bin 47 .gtr false (.t 46) (.c (.int .i64 0)))),pM 48 47,gT 48 (oF 49 6 3),gT 48 (oL 50 49),gT 48 (oG 51 50),(some (48,true),.v (.bin 52 .lss false (.t 51) (.c (.int .i64 24)))),pP 53 48 52] (.cond 53 (sO [(none,.e (.mkl 54 3 1 0 (.int .i64 0) [])),pF 55 6 3,pL 56 55,(none,.e (.app 57 3 1 8 (.t 54) (.t 56))),pM 58 1,pM 59 2,pW 60 47 58 59,(none,.e (.mkl 61 3 1 1 (.int .i64 0) [(0,.t 60)])),(none,.e (.app 62 3 1 8 (.t 57) (.t 61))),pF 63 6 3,(none,.e (.store 1 false (.t 63) (.t 62)))] (sO [pR 64 8 3,pS 8 6 64,(none,q84_0)] .ret)) .skip)) (sO [(none,.e (.mkl 65 3 1 0 (.int .i64 0) [])),pF 66 7 3,pL 67 66,(none,.e (.app 68 3 1 8 (.t 65) (.t 67))),pM 69 1,(none,.e (.mkl 70 3 1 1 (.int .i64 0) [(0,.t 69)])),(none,.e (.app 71 3 1 8 (.t 68) (.t 70))),pF 72 7 3,(none,.e (.store 1 false (.t 72) (.t 71)))] (sO [pY 10] (.seq (sO [pI 11 0] (.block 0 (.loop (.seq (sO [pM 73 11,pF 74 6 3,pL 75 74,pG 76 75,pB 77 73 76] (.cond 77 .skip (.exit 0))) (.seq (.block 1 (sO [pF 80 6 3,pL 81 80,pM 82 11,pQ 83 1 81 82,pL 84 83,(none,.p (.quo 85 (.t 84) (.c (.int .i64 2147483648)))),pM 86 1,(none,.v (.bin 87 .neq false (.t 85) (.t 86)))] (.cond 87 (.ops [pM 88 10,pF 89 6 3,pL 90 89,pM 91 11,pQ 92 1 90 91,pL 93 92,(none,.e (.mkl 94 3 1 1 (.int .i64 0) [(0,.t 93)])),(none,.e (.app 95 3 1 8 (.t 88) (.t 94))),pM 10 95]) .skip))) (.ops [pM 78 11,pA 79 78 1,pM 11 79])))))) (sO [pM 96 10,pF 97 6 3,(none,.e (.store 1 false (.t 97) (.t 96)))] (sO [pR 98 8 3,pS 8 6 98,(none,q84_0)] .ret)))))))))))
theorem ok84:FnOk E 84 99 [.cell 6 49,.tmp 7] mc84:=ofk func84
set_option maxHeartbeats 16000000
def readZ (t:TX) (tab row:Int):Int × TX:=if tab<0\/256<=tab\/row<0\/1073741824<row then (1,t) else (0,readT t tab row)
theorem pa_snoc {H:List AObj} {l:List Nat} {bor:Bool} {n:Nat} {xs:List Int} {c:Int}:(xs.map (AV.int .i64)++[AV.int .i64 c]).map (pa H l bor n)=xs.map (AV.int .i64)++[AV.int .i64 c]:=by
 have:xs.map (AV.int .i64)++[AV.int .i64 c]=(xs++[c]).map (AV.int .i64):=by simp
 rw [this,pa_ints]
theorem IdxR_itm {P:Program} {m:Nat} {N:FN} {xs:List (Int × Int)} {n:Int} {d:Nat} {c:Kn} (h0:0<=n) (h1:n<xs.length):IdxR P m N ((xs.map itemI).map (AV.int .i64)) n d c=rK P m N c d (.vp [.int .i64 (itemI (xs.getD n.toNat default))]):=by
 rw [List.map_map];exact IdxR_map (cs:=fun p=>[.int .i64 (itemI p)]) (fun _=>rfl) h0 h1
theorem c84 (n:Int) (t:TX) (tab row:Int) (hok:OkT t) (hrt:RT 1000 t):ACalls E.P 84 [(uxOf n t).av,.int .i64 tab,.int .i64 row] [] (fun r H=>r=.tup [(uxOf n (readZ t tab row).2).av,.int .i64 (readZ t tab row).1]/\H=[]):=by
 have hmax:=maxLen_eq;refine ACalls.keep ?_;rw [ux_av',ux_of];by_cases hbad:tab<0\/256<=tab\/row<0\/1073741824<row
 . have hz:readZ t tab row=(1,t):=by unfold readZ;rw [if_pos hbad]
   rw [hz];refine zk0 ok84 fun N hN=>?_;unfold mc84 q84_0 z1 pK pM pO pR pS pI pF pL pW pP pY pG pB pQ pA gF gT oM oI oL oF oP oG oW sO yO;simp only [lA,seval];repeat' (first|(with_reducible first|(apply zS;constructor)<;>intro _|refine ai ?_|(apply zQ;constructor))|simp (disch:=omega) only [lE,seval,ti49])
   all_goals try omega
   all_goals (refine keep_i [] true (by simp) (by simp) rfl ⟨?_,?_⟩ <;> simp only [lP,seval] <;> rfl)
 have hz:readZ t tab row=(0,readT t tab row):=by unfold readZ;rw [if_neg hbad]
 rw [hz];have hb1:0<=tab/\tab<=255:=by omega
 have hb2:0<=row/\row<=1073741824:=by omega
 have h73:=c73 t.whole tab;have h47:=c47 tab row hb1 hb2;have h73r:=c73 (t.rows.map itemI) (itemI (tab,row));rw [rows_has (k:=(tab,row)) (fun p hp=>(hok.rows p hp).2) hb2] at h73r;have hrl:=hok.rlen
 have hr0:row=0->t.rows.contains (tab,row)=false:=fun e=>by
  rw [Bool.eq_false_iff];intro hc;have:=hrt.1 (tab,row) (by simpa using hc);simp only at this;omega
 have hwl:=hrt.2;have hwsub:readT t tab row=if t.whole.contains tab=true\/t.rows.contains (tab,row)=true then t else if 0<row/\t.rows.length<24 then { t with rows:=t.rows++[(tab,row)] } else { t with whole:=t.whole++[tab],rows:=t.rows.filter fun r=>decide (r.1≠tab) }:=rfl
 cases hcw:t.whole.contains tab
 rotate_left
 . rw [hcw] at h73;rw [hwsub,if_pos (.inl hcw)];refine zk0 ok84 fun N hN=>?_;unfold mc84 q84_0 z1 pK pM pO pR pS pI pF pL pW pP pY pG pB pQ pA gF gT oM oI oL oF oP oG oW sO yO;simp only [lA,seval];repeat' (first|(with_reducible first|(apply zS;constructor)<;>intro _|refine ai ?_|(apply zQ;constructor))|((with_reducible apply zC;constructor);simp only [lP,seval,ti49];(first|refine ⟨_,h73,?_⟩|refine ⟨_,h47,?_⟩|refine ⟨_,h73r,?_⟩);rintro _ _ ⟨rfl,rfl⟩;simp only [lA,lP,seval,ti49])|simp (disch:=omega) only [lE,seval,ti49])
   all_goals try omega
   all_goals (refine keep_i [] true (by simp) (by simp) rfl ⟨?_,?_⟩ <;> simp only [lP,seval] <;> rfl)
 rw [hcw] at h73;cases hcr:t.rows.contains (tab,row)
 rotate_left
 . rw [hcr] at h73r
   have hrow:0<row:=Classical.byContradiction fun h=>by
    have:=hr0 (by omega);rw [hcr] at this;cases this
   rw [hwsub,if_pos (.inr hcr)];refine zk0 ok84 fun N hN=>?_;unfold mc84 q84_0 z1 pK pM pO pR pS pI pF pL pW pP pY pG pB pQ pA gF gT oM oI oL oF oP oG oW sO yO;simp only [lA,seval];repeat' (first|(with_reducible first|(apply zS;constructor)<;>intro _|refine ai ?_|(apply zQ;constructor))|((with_reducible apply zC;constructor);simp only [lP,seval,ti49];(first|refine ⟨_,h73,?_⟩|refine ⟨_,h47,?_⟩|refine ⟨_,h73r,?_⟩);rintro _ _ ⟨rfl,rfl⟩;simp only [lA,lP,seval,ti49])|simp (disch:=omega) only [lE,seval,ti49])
   all_goals try omega
   all_goals (refine keep_i [] true (by simp) (by simp) rfl ⟨?_,?_⟩ <;> simp only [lP,seval] <;> rfl)
 rw [hcr] at h73r;rw [hwsub,if_neg (by rw [hcw,hcr];decide)];by_cases hroom:0<row/\t.rows.length<24
 . rw [if_pos hroom];refine ACalls.lendT ?_;refine zk0 ok84 fun N hN=>?_;unfold mc84 q84_0 z1 pK pM pO pR pS pI pF pL pW pP pY pG pB pQ pA gF gT oM oI oL oF oP oG oW sO yO;simp only [lA,seval];repeat' (first|(with_reducible first|(apply zS;constructor)<;>intro _|refine ai ?_|(apply zQ;constructor))|((with_reducible apply zC;constructor);simp only [lP,seval,ti49];(first|refine ⟨_,h73,?_⟩|refine ⟨_,h47,?_⟩|refine ⟨_,h73r,?_⟩);rintro _ _ ⟨rfl,rfl⟩;simp only [lA,lP,seval,ti49])|simp (disch:=omega) only [lE,seval,ti49])
   all_goals try omega
   refine ⟨5,3,1,(t.rows++[(tab,row)]).map itemI |>.map (AV.int .i64),6,_,_,rfl,by simp,by simp,flatA_ints _,?_⟩;refine keep_i [] true (by simp) (by simp) rfl ⟨?_,?_⟩ <;> simp only [lP,seval] <;> rfl
 . rw [if_neg hroom];refine ACalls.lendT ?_;refine ACalls.lendT ?_;refine zk0 ok84 fun N hN=>?_;unfold mc84 q84_0 z1 pK pM pO pR pS pI pF pL pW pP pY pG pB pQ pA gF gT oM oI oL oF oP oG oW sO yO;simp only [lA,seval];repeat' (first|(with_reducible first|(apply zS;constructor)<;>intro _|refine ai ?_|(apply zQ;constructor))|((with_reducible apply zC;constructor);simp only [lP,seval,ti49];(first|refine ⟨_,h73,?_⟩|refine ⟨_,h47,?_⟩|refine ⟨_,h73r,?_⟩);rintro _ _ ⟨rfl,rfl⟩;simp only [lA,lP,seval,ti49])|simp (disch:=omega) only [lE,seval,ti49])
   all_goals try omega
   all_goals (
    refine loop_i (fun i:Nat=>i<=t.rows.length) (fun i=>⟨[(1,.int .i64 tab),(3,.op 0 0),(6,.op 1 0),(10,.slc 3 1 ((t.rows.take i).filter fun r=>decide (r.1≠tab)).length),(11,.int .i64 i)],
     [.box [.int .i64 n,.int .i64 t.mode,.int .i64 t.snap,.bool t.done,.int .i64 t.stamp,.view 4 (t.log.map WR.av),.view 1 ((t.rows.map itemI).map (AV.int .i64)),.slc 2 1 (t.whole.length+1)],.box [.int .i64 0,.int .i64 0,.int .i64 0,.bool false,.int .i64 0,.raw (.slice none 0 0),.raw (.slice none 0 0),.raw (.slice none 0 0)],.arr 3 1 (t.whole.map (AV.int .i64)++[.int .i64 tab]),.arr 3 1 ((((t.rows.take i).filter fun r=>decide (r.1≠tab)).map itemI).map (AV.int .i64))]⟩) (fun i=>t.rows.length - i) 0 (by omega) (Ent.ghost' 10 3 1 (by omega) rfl (Ent.to [0,1,5,6] false (by simp) (by simp) rfl (by simp only [lP,seval,pa_snoc]<;>(try simp)<;>(try omega)) (by simp only [lP,seval,pa_snoc]<;>(try simp)<;>(try omega)))) ?_
    rintro i hi;by_cases hil:i<t.rows.length
    . have hpm:=getD_mem' hil;have hpr:=hok.rows _ hpm;have hfl:((t.rows.take i).filter fun r=>decide (r.1≠tab)).length<=i:=Nat.le_trans (List.length_filter_le _ _) (by rw [List.length_take];omega);have hgd:(t.rows.map itemI).getD i 0=itemI (t.rows.getD i default):=(by simp [hil]);have hgd2:(t.rows.map itemI).getD i default=itemI (t.rows.getD i default):=by simp [hil]
      have hnx:(t.rows.take (i+1)).filter (fun r=>decide (r.1≠tab))=(t.rows.take i).filter (fun r=>decide (r.1≠tab))++if (t.rows.getD i default).1=tab then [] else [t.rows.getD i default]:=by
       rw [take_succD hil,List.filter_append];by_cases e:(t.rows.getD i default).1=tab
       . rw [if_pos e,List.filter_cons_of_neg (by simpa using e)];simp
       . rw [if_neg e,List.filter_cons_of_pos (by simpa using e)];simp
      have hq:=item_div hpr.1.1 hpr.2;generalize hp:t.rows.getD i default=p at *;generalize (t.rows.take i).filter (fun r=>decide (r.1≠tab))=F at *;by_cases e:p.1=tab
      . have de:decide (p.1=tab)=true:=decide_eq_true e;rw [if_pos e,List.append_nil] at hnx;repeat' (first|(with_reducible apply zS;constructor) <;> intro _|((with_reducible refine mkl_view ?_ ?_ ?_);(focus decide);(focus rfl))|(with_reducible first|refine ai ?_|(apply zQ;constructor))|simp (disch:=omega) only [lE,seval,IdxR_itm,hp,hq,de])
        all_goals try omega
        refine back_i (i+1) (by omega) (by omega) ?_;simp only [hnx];exact zE
      . have de:decide (p.1=tab)=false:=decide_eq_false e;rw [if_neg e] at hnx;repeat' (first|(with_reducible apply zS;constructor) <;> intro _|((with_reducible refine mkl_view ?_ ?_ ?_);(focus decide);(focus rfl))|(with_reducible first|refine ai ?_|(apply zQ;constructor))|simp (disch:=omega) only [lE,seval,IdxR_itm,hp,hq,de])
        all_goals try omega
        refine back_i (i+1) (by omega) (by omega) ?_;simp only [hnx];exact (Ent.to [0,1,2,4] false (by simp) (by simp) rfl (by simp only [lP,seval,pa_snoc,pa_ints,List.map_append,List.length_append]<;>(try simp)<;>(try omega)) (by simp only [lP,seval,pa_snoc,pa_ints,List.map_append,List.length_append]<;>(try simp)<;>(try omega)))
    . obtain rfl:i=t.rows.length:=(by omega);rw [List.take_length];repeat' (first|(with_reducible first|(apply zS;constructor)<;>intro _|refine ai ?_|(apply zQ;constructor))|simp (disch:=omega) only [lE,seval,ti49,Int.lt_irrefl])
      all_goals try omega
      refine ⟨3,3,1,((t.rows.filter fun r=>decide (r.1≠tab)).map itemI).map (AV.int .i64),6,_,_,rfl,by simp,by simp,flatA_ints _,?_⟩;refine ⟨2,3,1,(t.whole++[tab]).map (AV.int .i64),7,_,_,rfl,by simp,by simp,flatA_ints _,?_⟩;refine keep_i [] true (by simp) (by simp) rfl ⟨?_,?_⟩ <;> simp only [lP,seval] <;> rfl)
abbrev q85_0:AT:=.alt none (.e (.app 46 59 4 48 (.t 43) (.t 45))) (.pure1 none (oM 6 46) .done) .stop
abbrev q85_1:MI:=.e (.mkl 45 59 4 1 (.agg z2) [(0,.t 44)])
abbrev q85_2:AT:=.alt none (.e (.app 43 59 4 48 (.t 40) (.t 42))) q85_0 .stop
def mc85:MC:=(sO [pK 2 0,pK 3 1,(none,.e (.alloc 4 z1)),pI 5 0] (.seq (sO [pF 7 1 2,pL 8 7,pE 9 8 2] (.cond 9 (sO [pR 10 8 2,pS 8 4 10,pI 5 270] .ret) .skip)) (.seq (sO [pF 11 0 3,pL 12 11,(none,.v (.bin 13 .lss false (.t 12) (.c (.int .i64 0)))),pM 14 13,gF 14 (oF 15 0 3),gF 14 (oL 16 15),(some (14,false),.v (.bin 17 .gtr false (.t 16) (.c (.int .i64 255)))),pO 18 14 17,pM 19 18,gF 19 (oF 20 1 3),gF 19 (oL 21 20),(some (19,false),.v (.bin 22 .lss false (.t 21) (.c (.int .i64 1)))),pO 23 19 22,pM 24 23,gF 24 (oF 25 1 3),gF 24 (oL 26 25),(some (24,false),.v (.bin 27 .gtr false (.t 26) (.c (.int .i64 1073741824)))),pO 28 24 27,pM 29 28,gF 29 (oF 30 2 3),gF 29 (oL 31 30),gF 29 (oM 32 31),gT 32 (oF 33 3 3),gT 32 (oL 34 33),gT 32 (oG 35 34),(some (32,true),.v (.bin 36 .gtr false (.t 35) (.c (.int .i64 0)))),gF 29 (oP 37 32 36),pO 38 29 37] (.cond 38 (sO [pR 39 8 2,pS 8 4 39,pI 5 1] .ret) .skip)) (.seq (.any true (yO (oF 41 5 2) (yO (oL 42 41) (yO (oR 44 4 3) (yA (.e (.mkl 40 59 4 0 (.agg z2) [])) (yA (.e (.app 43 59 4 48 (.t 40) (.t 42))) (yA q85_1 q85_0 .stop) (yA q85_1 q85_2 .stop)) (yA q85_1 (yA (.e (.mkl 40 59 4 0 (.agg z2) [])) q85_2 .stop) .stop)))))) (.seq (sO [pM 47 6,pV 48 44 47,pG 49 48,(none,.v (.bin 50 .gtr false (.t 49) (.c (.int .i64 64))))] (.cond 50 (sO [pR 51 8 2,pS 8 4 51,pI 5 2] .ret) .skip)) (sO [pM 52 6,pF 53 5 2,(none,.e (.store 1 false (.t 53) (.t 52)))] (sO [pR 54 8 2,pS 8 4 54,pI 5 0] .ret)))))))
theorem ok85:FnOk E 85 55 [.cell 4 49,.tmp 5] mc85:=ofk func85
noncomputable def writeZ (t:TX) (w:WR):Int × TX :=
 if t.mode=2 then (270,t)
 else if w.tab<0\/256<=w.tab\/w.row<1\/1073741824<w.row\/(w.dead=true/\0<w.vals.length) then (1,t)
 else if (t.log.any fun x=>decide (x.key=w.key))=false/\64<=(lastW t.log).length then (2,t)
 else (0,{ t with log:=t.log++[w] })
theorem vws_snoc {log:List WR} {w:WR} {H:List AObj} {l:List Nat} {E:TypeId} {n:Nat}:vwS none (some (.arr E 4 (log.map WR.av++[w.av]))) H l (n+1) 4 (log.length+1)=.view 4 (log.map WR.av++[w.av]):=by
 have e:log.map WR.av++[w.av]=(log++[w]).map WR.av:=by simp
 rw [e,vwS_arr (by simp),vw_wrs]
theorem c85 (n:Int) (t:TX) (w:WR) (hok:OkT t) (hwl:(lastW t.log).length<=64) (hv:w.vals.length<=1048576):ACalls E.P 85 [(uxOf n t).av,w.av] [] (fun r H=>r=.tup [(uxOf n (writeZ t w).2).av,.int .i64 (writeZ t w).1]/\H=[]):=by
 have hmax:=maxLen_eq;rw [ux_av',ux_of];have hwa:w.av=.agg [.int .i64 w.tab,.int .i64 w.row,.bool w.dead,.view 3 (w.vals.map VL.av)]:=rfl;by_cases hm2:t.mode=2
 . have hz:writeZ t w=(270,t):=by unfold writeZ;rw [if_pos hm2]
   have d2:decide (t.mode=2)=true:=decide_eq_true hm2;rw [hz,hwa];refine zk ok85 fun N hN=>?_;unfold mc85 q85_2 q85_1 q85_0 z1 z2 pK pI pF pL pE pR pS pM pO pV pG gF gT oM oL oR oF oP oG sO yO yA;simp only [lA,seval];repeat' (first|(with_reducible first|(apply zS;constructor)<;>intro _|refine ai ?_|(apply zQ;constructor))|simp (disch:=omega) only [lE,seval,ti49,d2])
   all_goals try omega
   refine keep_i [] true (by simp) (by simp) rfl ⟨?_,?_⟩ <;> simp only [lP,seval] <;> rfl
 have d2:decide (t.mode=2)=false:=decide_eq_false hm2;by_cases hbad:w.tab<0\/256<=w.tab\/w.row<1\/1073741824<w.row\/(w.dead=true/\0<w.vals.length)
 . have hz:writeZ t w=(1,t):=by unfold writeZ;rw [if_neg hm2,if_pos hbad]
   rw [hz,hwa];refine zk ok85 fun N hN=>?_;unfold mc85 q85_2 q85_1 q85_0 z1 z2 pK pI pF pL pE pR pS pM pO pV pG gF gT oM oL oR oF oP oG sO yO yA;simp only [lA,seval];cases hd:w.dead
   . rw [hd] at hbad;repeat' (first|(with_reducible first|(apply zS;constructor)<;>intro _|refine ai ?_|(apply zQ;constructor))|simp (disch:=omega) only [lE,seval,ti49,d2])
     all_goals try (exfalso;simp at hbad;omega)
     all_goals (refine keep_i [] true (by simp) (by simp) rfl ⟨?_,?_⟩ <;> simp only [lP,seval] <;> rfl)
   . rw [hd] at hbad;repeat' (first|(with_reducible first|(apply zS;constructor)<;>intro _|refine ai ?_|(apply zQ;constructor))|simp (disch:=omega) only [lE,seval,ti49,d2])
     all_goals try (exfalso;simp at hbad;omega)
     all_goals (refine keep_i [] true (by simp) (by simp) rfl ⟨?_,?_⟩ <;> simp only [lP,seval] <;> rfl)
 have hb1:0<=w.tab/\w.tab<=255:=by omega
 have hb2:0<=w.row/\w.row<=1073741824:=by omega
 have hdv:w.dead=true->w.vals.length=0:=fun h=>Classical.byContradiction fun h2=>hbad (.inr (.inr (.inr (.inr ⟨h,by omega⟩))));have hll:=hok.len
 have h44:=c44 (t.log++[w]) (by simp;omega) fun v hv=>by
  rcases List.mem_append.1 hv with hv | hv
  . have:=hok.log v hv;omega
  . rw [List.mem_singleton.1 hv];exact ⟨hb1,hb2⟩
 have hfull:=write_full (t:=t) (w:=w) hwl;have hmapa:(t.log++[w]).map WR.av=t.log.map WR.av++[w.av]:=by simp
 rw [hmapa] at h44
 have hz:writeZ t w=if 64<(lastW (t.log++[w])).length then (2,t) else (0,{ t with log:=t.log++[w] }):=by
  unfold writeZ;rw [if_neg hm2,if_neg hbad];by_cases h:64<(lastW (t.log++[w])).length
  . rw [if_pos h,if_pos (hfull.1 h)]
  . rw [if_neg h,if_neg fun h2=>h (hfull.2 h2)]
 rw [hz];generalize lastW (t.log++[w])=W at *;refine zk ok85 fun N hN=>?_;unfold mc85 q85_2 q85_1 q85_0 z1 z2 pK pI pF pL pE pR pS pM pO pV pG gF gT oM oL oR oF oP oG sO yO yA;simp only [lA,seval];have hvs:=@vws_snoc t.log w;simp only [hwa] at hvs;have hbx:cellsO w.av=some [.int .i64 w.tab,.int .i64 w.row,.bool w.dead,.view 3 (w.vals.map VL.av)]:=rfl;cases hd:w.dead
 . rw [hd] at hwa;simp only [hd] at hvs;rw [hwa];repeat' (first|(with_reducible apply zS;constructor) <;> intro _|(with_reducible first|refine ai ?_|(apply zP;constructor)|refine mkl_own ?_|refine ap_own ?_|refine base0_i ?_|refine any00_i ?_|refine any_i [] ?_)|simp (disch:=omega) only [lE,seval,ti49,d2])
   all_goals try omega
   all_goals (
    refine frz_i (fr':=[(2,.op 0 0),(3,.op 1 0),(4,.op 2 0),(6,.view 4 (t.log.map WR.av++[w.av]))]) (H':=[.box (uxOf n t).cs,.box [.int .i64 w.tab,.int .i64 w.row,.bool false,.view 3 (w.vals.map VL.av)],.box [.int .i64 0,.int .i64 0,.int .i64 0,.bool false,.int .i64 0,.raw (.slice none 0 0),.raw (.slice none 0 0),.raw (.slice none 0 0)]]) (by rw [ux_of,hwa];exact (Ent.to [0,1,2] true (by simp) (by simp) rfl (by simp only [lP,seval,hvs]<;>(try simp)<;>(try omega)) (by simp only [lP,seval,hvs]<;>(try simp)<;>(try omega)))) ?_;rw [ux_of];by_cases hf:64<W.length
    . rw [if_pos hf];repeat' (first|(with_reducible first|(apply zS;constructor)<;>intro _|refine ai ?_|(apply zQ;constructor))|((with_reducible apply zF;constructor);simp only [lP,seval,ti49];refine ⟨_,h44,?_⟩;rintro _ _ ⟨rfl,rfl⟩;simp only [lA,lP,seval,ti49])|simp (disch:=omega) only [lE,seval,ti49])
      all_goals try omega
      refine keep_i [] true (by simp) (by simp) rfl ⟨?_,?_⟩ <;> simp only [lP,seval] <;> rfl
    . rw [if_neg hf];repeat' (first|(with_reducible first|(apply zS;constructor)<;>intro _|refine ai ?_|(apply zQ;constructor))|((with_reducible apply zF;constructor);simp only [lP,seval,ti49];refine ⟨_,h44,?_⟩;rintro _ _ ⟨rfl,rfl⟩;simp only [lA,lP,seval,ti49])|simp (disch:=omega) only [lE,seval,ti49])
      all_goals try omega
      refine keep_i [] true (by simp) (by simp) rfl ⟨?_,?_⟩ <;> simp only [lP,seval];rw [<- hmapa];rfl)
 . have hv0:=hdv hd;rw [hd] at hwa;simp only [hd] at hvs;rw [hwa];repeat' (first|(with_reducible apply zS;constructor) <;> intro _|(with_reducible first|refine ai ?_|(apply zP;constructor)|refine mkl_own ?_|refine ap_own ?_|refine base0_i ?_|refine any00_i ?_|refine any_i [] ?_)|simp (disch:=omega) only [lE,seval,ti49,d2,hv0])
   all_goals try omega
   all_goals (
    refine frz_i (fr':=[(2,.op 0 0),(3,.op 1 0),(4,.op 2 0),(6,.view 4 (t.log.map WR.av++[w.av]))]) (H':=[.box (uxOf n t).cs,.box [.int .i64 w.tab,.int .i64 w.row,.bool true,.view 3 (w.vals.map VL.av)],.box [.int .i64 0,.int .i64 0,.int .i64 0,.bool false,.int .i64 0,.raw (.slice none 0 0),.raw (.slice none 0 0),.raw (.slice none 0 0)]]) (by rw [ux_of,hwa];exact (Ent.to [0,1,2] true (by simp) (by simp) rfl (by simp only [lP,seval,hvs]<;>(try simp)<;>(try omega)) (by simp only [lP,seval,hvs]<;>(try simp)<;>(try omega)))) ?_;rw [ux_of];by_cases hf:64<W.length
    . rw [if_pos hf];repeat' (first|(with_reducible first|(apply zS;constructor)<;>intro _|refine ai ?_|(apply zQ;constructor))|((with_reducible apply zF;constructor);simp only [lP,seval,ti49];refine ⟨_,h44,?_⟩;rintro _ _ ⟨rfl,rfl⟩;simp only [lA,lP,seval,ti49])|simp (disch:=omega) only [lE,seval,ti49])
      all_goals try omega
      refine keep_i [] true (by simp) (by simp) rfl ⟨?_,?_⟩ <;> simp only [lP,seval] <;> rfl
    . rw [if_neg hf];repeat' (first|(with_reducible first|(apply zS;constructor)<;>intro _|refine ai ?_|(apply zQ;constructor))|((with_reducible apply zF;constructor);simp only [lP,seval,ti49];refine ⟨_,h44,?_⟩;rintro _ _ ⟨rfl,rfl⟩;simp only [lA,lP,seval,ti49])|simp (disch:=omega) only [lE,seval,ti49])
      all_goals try omega
      refine keep_i [] true (by simp) (by simp) rfl ⟨?_,?_⟩ <;> simp only [lP,seval];rw [<- hmapa];rfl)
end Go.Proofs.Try
