/-
 A part of the proof: see the text of the law.
-/
import Derived.Test.YtchlampphcaomaaGreatDoorLal
set_option linter.unusedSimpArgs false
set_option linter.unusedVariables false
namespace Go.Proofs.Try
open Go.Proofs.Tryz
open Go.Al
set_option maxRecDepth 100000
def mc114:MC:=(.seq (.ops [pK 2 0,(none,.e (.alloc 4 z4))]) (.seq (.seq (.ops [pF 12 10 2,pL 13 12,pG 14 13,pF 15 11 2,pL 16 15,pG 17 16,(none,.v (.bin 18 .add false (.t 14) (.t 17))),pE 19 18 0]) (.cond 19 (.seq (.ops [(none,.v (.build 20 z4 [(1,1,.c (.int .i64 1))])),pS 2 4 20]) .ret) .skip)) (.seq (.ops [pY 5]) (.seq (.seq (.ops [pI 6 0]) (.block 0 (.loop (.seq (.seq (.ops [pM 21 6,pF 22 10 2,pL 23 22,pG 24 23,pB 25 21 24]) (.cond 25 .skip (.exit 0))) (.seq (.block 1 (.seq (.seq (.ops [pF 28 10 2,pL 29 28,pM 30 6,pQ 31 1 29 30,pL 32 31,(none,.v (.bin 33 .lss false (.t 32) (.c (.int .i64 0)))),pM 34 33,gF 34 (oF 35 10 2),gF 34 (oL 36 35),gF 34 (oM 37 6),gF 34 (oQ 38 1 36 37),gF 34 (oL 39 38),gF 34 (oM 40 1),gF 34 (oG 41 40),(some (34,false),.v (.bin 42 .geq false (.t 39) (.t 41))),pO 43 34 42]) (.cond 43 (.seq (.ops [(none,.v (.build 44 z4 [(1,1,.c (.int .i64 1))])),pS 2 4 44]) .ret) .skip)) (.seq (.seq (.ops [pI 7 0]) (.block 2 (.loop (.seq (.seq (.ops [pM 45 7,pM 46 6,pB 47 45 46]) (.cond 47 .skip (.exit 2))) (.seq (.block 3 (.seq (.any false (.pure0 none (oF 50 10 2) (.pure0 none (oL 51 50) (.pure0 none (oM 52 7) (.pure0 none (oQ 53 1 51 52) (.pure0 none (oL 54 53) (.pure0 none (oF 55 10 2) (.pure0 none (oL 56 55) (.pure0 none (oM 57 6) (.pure0 none (oQ 58 1 56 57) (.pure0 none (oL 59 58) (.pure0 none (.v (.bin 60 .eql false (.t 54) (.t 59))) .done)))))))))))) (.cond 60 (.seq (.ops [(none,.v (.build 61 z4 [(1,1,.c (.int .i64 1))])),pS 2 4 61]) .ret) .skip))) (.ops [pM 48 7,pA 49 48 1,pM 7 49])))))) (.ops [pM 62 5,pM 63 1,pF 64 10 2,pL 65 64,pM 66 6,pQ 67 1 65 66,pL 68 67,pQ 69 1 63 68,pL 70 69,(none,.e (.mkl 71 3 1 1 (.int .i64 0) [(0,.t 70)])),(none,.e (.app 72 3 1 8 (.t 62) (.t 71))),pM 5 72])))) (.ops [pM 26 6,pA 27 26 1,pM 6 27])))))) (.seq (.seq (.ops [pF 73 10 2,pL 74 73,pG 75 74,pF 76 11 2,pL 77 76,pG 78 77,(none,.v (.bin 79 .add false (.t 75) (.t 78))),(none,.v (.bin 80 .gtr false (.t 79) (.c (.int .i64 32))))]) (.cond 80 (.seq (.ops [(none,.v (.build 81 z4 [(1,1,.c (.int .i64 2))])),pS 2 4 81]) .ret) .skip)) (.seq (.seq (.ops [pI 8 0]) (.block 4 (.loop (.seq (.seq (.ops [pM 82 8,pF 83 11 2,pL 84 83,pG 85 84,pB 86 82 85]) (.cond 86 .skip (.exit 4))) (.seq (.block 5 (.seq (.ops [pF 89 11 2,pL 90 89,pM 91 8,pQ 92 7 90 91,pR 93 7 92,(none,.e (.alloc 9 z5)),pS 7 9 93]) (.seq (.seq (.ops [pF 94 0 9,pL 95 94,(none,.v (.bin 96 .lss false (.t 95) (.c (.int .i64 1)))),pM 97 96,gF 97 (oF 98 0 9),gF 97 (oL 99 98),(some (97,false),.v (.bin 100 .gtr false (.t 99) (.c (.int .i64 4)))),pO 101 97 100]) (.cond 101 (.seq (.ops [(none,.v (.build 102 z4 [(1,1,.c (.int .i64 1))])),pS 2 4 102]) .ret) .skip)) (.seq (.seq (.ops [pF 103 0 9,pL 104 103,pE 105 104 1]) (.cond 105 (.seq (.ops [pM 106 5,(none,.e (.mkl 107 3 1 1 (.int .i64 0) [(0,.c (.int .i64 1))])),(none,.e (.app 108 3 1 8 (.t 106) (.t 107))),pM 5 108]) (.exit 5)) .skip)) (.seq (.ops [pM 110 1,pF 111 1 9,pR 112 6 111,pW 113 19 110 112,pM 109 113,pX 114 0 109,pX 115 1 109,pM 10 114,pM 11 115]) (.seq (.seq (.ops [pM 116 11,pD 117 116 0]) (.cond 117 (.seq (.ops [pM 118 11,(none,.v (.build 119 z4 [(1,1,.t 118)])),pS 2 4 119]) .ret) .skip)) (.seq (.seq (.ops [pF 120 0 9,pL 121 120,pE 122 121 2,pM 123 122,gT 123 (oM 124 10),gT 123 (oD 125 124 1),pP 126 123 125,pM 127 126,gT 127 (oM 128 10),gT 127 (oD 129 128 0),pP 130 127 129]) (.cond 130 (.seq (.ops [(none,.v (.build 131 z4 [(1,1,.c (.int .i64 7))])),pS 2 4 131]) .ret) .skip)) (.seq (.seq (.ops [pF 132 0 9,pL 133 132,pE 134 133 2]) (.cond 134 (.ops [pI 10 1]) .skip)) (.ops [pM 135 5,pM 136 10,(none,.e (.mkl 137 3 1 1 (.int .i64 0) [(0,.t 136)])),(none,.e (.app 138 3 1 8 (.t 135) (.t 137))),pM 5 138]))))))))) (.ops [pM 87 8,pA 88 87 1,pM 8 88])))))) (.seq (.ops [pM 139 5,(none,.v (.build 140 z4 [(0,1,.t 139)])),pS 2 4 140]) .ret)))))))
theorem ok114:FnOk E 114 141 [.cell 4 63] mc114:=ofk func114
set_option maxRecDepth 20000
set_option maxHeartbeats 16000000
theorem keep_err {k:Int} {H:List AObj} {P:List Int × Int} (h:P=([],k)):keepQ 0 (fun r H=>r=.agg [ksV P.1,.int .i64 P.2]∧H=[]) (.agg [.raw (.slice none 0 0),.int .i64 k]) H:=by
 subst h
 refine keepw_i [] false (by simp) (by simp) rfl (r':=.agg [.view 1 [],.int .i64 k]) ?_ ⟨rfl,by simp only [lP,seval]⟩
 simp only [lP,seval]
 exact WeakL.agg (.cons weak_nil (.refl _))
theorem spine114:∀ fn,E.P.funcs[114]?=some fn→fn.body.map (Go.Al.spine 6)=some true:=fun fn h=>by
 have e:=func114.symm.trans h
 injection e with e
 subst e
 rfl
theorem c114 (ks:List Int) (q:QY) (hok:q.ok) (hks:ks.length≤4000000):ACalls E.P 114 [q.av,ksV ks] [] (fun r H=>r=.agg [ksV (groupsK ks q.grp q.aggs).1,.int .i64 (groupsK ks q.grp q.aggs).2]∧H=[]):=by
 have hmax:=maxLen_eq
 have hok2:=(ok_eq q).1 hok
 have hg:=hok2.2.2.1
 have ha:=hok2.2.2.2.1
 refine ok114.acallsF hE hm (by simp) 6 spine114 fun N hN=>?_
 unfold mc114 z4 z5 pK pF pL pG pE pS pY pI pM pB pQ pO pA pR pW pX pD pP gF gT oM oL oF oD oG oQ
 simp only [q_av]
 refine mf_i ?_
 simp only [lA,seval]
 repeat' (first|(with_reducible first|(apply St.o;constructor)<;>intro _|refine And.intro (by omega) ?_|(apply Sq.o;constructor))|simp (disch:=omega) only [lE,seval])
 refine mf_go ?_
 refine mf_cutE (φ:=q.grp.length+q.aggs.length≠0) [(1,ksV ks),(2,.op 0 0),(4,.op 1 0)] [.box q.cs,.box [.raw (.slice none 0 0),.int .i64 0]] ?_ fun h0=>?_
 · simp only [lA,seval]
   repeat' (first|(with_reducible first|(apply St.o;constructor)<;>intro _|refine And.intro (by omega) ?_|(apply Sq.o;constructor))|simp (disch:=omega) only [lE,seval,ti63,fillE,setAll,List.length_map])
   all_goals first
    | exact .inl ⟨(ent [0,1] true (by simp only [lP,seval,pa_qs,pa_exs,pa_ags,pa_ods,pa_ints]<;>(try simp)<;>(try omega)) (by simp only [lP,seval,pa_qs,pa_exs,pa_ags,pa_ods,pa_ints]<;>(try simp)<;>(try omega))),by omega⟩
    | (refine .inr (keep_err ?_)
       unfold groupsK
       rw [if_pos (.inl (by omega))])
 have hbad:¬ gOk ks q.grp→groupsK ks q.grp q.aggs=([],1):=fun h=>by unfold groupsK;rw [if_pos (.inr h)]
 refine mf_cut [(1,ksV ks),(2,.op 0 0),(4,.op 1 0),(5,.raw (.slice none 0 0))] [.box q.cs,.box [.raw (.slice none 0 0),.int .i64 0]] ?_ ?_
 · simp only [lA,seval]
   repeat' (first|(with_reducible first|(apply St.o;constructor)<;>intro _|refine And.intro (by omega) ?_|(apply Sq.o;constructor))|simp (disch:=omega) only [lE,seval])
   all_goals first
    | exact (ent [0,1] true (by simp only [lP,seval,pa_qs,pa_exs,pa_ags,pa_ods,pa_ints]<;>(try simp)<;>(try omega)) (by simp only [lP,seval,pa_qs,pa_exs,pa_ags,pa_ods,pa_ints]<;>(try simp)<;>(try omega)))
    | exact ⟨rfl,(ent [0,1] true (by simp only [lP,seval,pa_qs,pa_exs,pa_ags,pa_ods,pa_ints]<;>(try simp)<;>(try omega)) (by simp only [lP,seval,pa_qs,pa_exs,pa_ags,pa_ods,pa_ints]<;>(try simp)<;>(try omega)))⟩
 refine mf_cutE (φ:=gOk ks q.grp) [(1,ksV ks),(2,.op 0 0),(4,.op 1 0),(5,.slc 2 1 q.grp.length)] [.box q.cs,.box [.raw (.slice none 0 0),.int .i64 0],.arr 3 1 ((q.grp.map fun c=>ks.getD c.toNat 0).map (AV.int .i64))] ?_ fun hgo=>?_
 · simp only [lA,seval]
   refine loop_i (fun i:Nat=>i≤q.grp.length∧gOk ks (q.grp.take i)) (fun i=>⟨[(1,ksV ks),(2,.op 0 0),(4,.op 1 0),(5,.slc 2 1 i),(6,.int .i64 i)],[.box q.cs,.box [.raw (.slice none 0 0),.int .i64 0],.arr 3 1 (((q.grp.take i).map fun c=>ks.getD c.toNat 0).map (AV.int .i64))]⟩) (fun i=>q.grp.length - i) 0 ⟨by omega,by simp [gOk]⟩ (Ent.ghost' 5 3 1 (by omega) rfl (ent [0,1,2] false (by simp only [lP,seval,pa_qs,pa_exs,pa_ags,pa_ods,pa_ints]<;>(try simp)<;>(try omega)) (by simp only [lP,seval,pa_qs,pa_exs,pa_ags,pa_ods,pa_ints]<;>(try simp)<;>(try omega)))) ?_
   rintro i ⟨hi,hgi⟩
   by_cases hin:i<q.grp.length
   · have hlt:((i:Int)<(q.grp.length:Int)):=by omega
     have hlen:(((q.grp.take i).map fun c=>ks.getD c.toNat 0).map (AV.int .i64)).length=i:=by simp;omega
     have hmem:q.grp.getD i 0 ∈ q.grp:=by simp [hin]
     have hce:q.grp.getD i 0=q.grp[i]:=by simp [hin]
     have hrng:¬ (0≤q.grp.getD i 0∧q.grp.getD i 0<ks.length)→¬ gOk ks q.grp:=fun h h2=>h (h2.2 _ hmem)
     have hdup:∀ k,k<i→q.grp.getD k 0=q.grp.getD i 0→¬ gOk ks q.grp:=fun k hk h h2=>by
      have hkl:k<q.grp.length:=by omega
      have h3:q.grp[k]=q.grp[i]:=by rw [← hce,← h];simp [hkl]
      have:=(List.getElem_inj h2.1).1 h3
      omega
     have hstep:0≤q.grp.getD i 0→q.grp.getD i 0<ks.length→(∀ k,k<i→q.grp.getD k 0≠q.grp.getD i 0)→gOk ks (q.grp.take (i+1)):=fun h1 h2 h3=>by
      rw [List.take_succ_eq_append_getElem hin,← hce]
      refine ⟨List.nodup_append.2 ⟨hgi.1,by simp,fun a ha b hb e=>?_⟩,fun c hc=>?_⟩
      · rw [List.mem_singleton.1 hb] at e
        obtain ⟨k,hk,rfl⟩:=List.getElem_of_mem ha
        have hk2:k<i:=by simp at hk;omega
        refine h3 k hk2 ?_
        rw [← e];simp [show k<q.grp.length by omega]
      · rcases List.mem_append.1 hc with hc | hc
        · exact hgi.2 c hc
        · rw [List.mem_singleton.1 hc];exact ⟨h1,h2⟩
     have hT:((q.grp.take (i+1)).map fun c=>ks.getD c.toNat 0).map (AV.int .i64)=((q.grp.take i).map fun c=>ks.getD c.toNat 0).map (AV.int .i64)++[.int .i64 (ks.getD (q.grp.getD i 0).toNat 0)]:=by
      rw [List.take_succ_eq_append_getElem hin,← hce];simp
     generalize hc:q.grp.getD i 0=c at *
     repeat' (first|(with_reducible first|(apply St.o;constructor)<;>intro _|refine And.intro (by omega) ?_|(apply Sq.o;constructor))|simp (disch:=omega) only [lE,seval,IdxR_ints,hc,Int.toNat_natCast,List.length_map,hlt,decide_true,ti63,fillE,setAll])
     all_goals try (refine .inr (keep_err (hbad (hrng (by omega)))))
     refine loop_i (fun j:Nat=>j≤i∧∀ k,k<j→q.grp.getD k 0≠c) (fun j=>⟨[(1,ksV ks),(2,.op 0 0),(4,.op 1 0),(5,.slc 2 1 i),(6,.int .i64 i),(7,.int .i64 j)],[.box q.cs,.box [.raw (.slice none 0 0),.int .i64 0],.arr 3 1 (((q.grp.take i).map fun c=>ks.getD c.toNat 0).map (AV.int .i64))]⟩) (fun j=>i - j) 0 ⟨by omega,by simp⟩ (ent [0,1,2] false (by simp only [lP,seval,pa_qs,pa_exs,pa_ags,pa_ods,pa_ints]<;>(try simp)<;>(try omega)) (by simp only [lP,seval,pa_qs,pa_exs,pa_ags,pa_ods,pa_ints]<;>(try simp)<;>(try omega))) ?_
     rintro j ⟨hj,hne⟩
     by_cases hji:j<i
     · have hltj:((j:Int)<(i:Int)):=by omega
       have hjl:j<q.grp.length:=by omega
       repeat' (first|(with_reducible first|(apply St.o;constructor)<;>intro _|refine And.intro (by omega) ?_|(apply Sq.o;constructor))|simp (disch:=omega) only [lE,seval,IdxR_ints,hc,Int.toNat_natCast,List.length_map,hltj,decide_true,ti63,fillE,setAll])
       · rename_i h
         exact .inr (keep_err (hbad (hdup j hji h)))
       · rename_i h
         refine back_i (j+1) ⟨by omega,fun k hk=>?_⟩ (by omega) (ent [0,1,2] false (by simp only [lP,seval,pa_qs,pa_exs,pa_ags,pa_ods,pa_ints]<;>(try simp)<;>(try omega)) (by simp only [lP,seval,pa_qs,pa_exs,pa_ags,pa_ods,pa_ints]<;>(try simp)<;>(try omega)))
         by_cases hkj:k<j
         · exact hne k hkj
         · obtain rfl:k=j:=by omega
           exact h
     · obtain rfl:j=i:=by omega
       repeat' (first|(with_reducible first|(apply St.o;constructor)<;>intro _|refine And.intro (by omega) ?_|(apply Sq.o;constructor))|simp (disch:=omega) only [lE,seval,IdxR_ints,hc,Int.toNat_natCast,List.length_map,Int.lt_irrefl,decide_false,hlen,ti63,fillE,setAll])
       refine back_i (j+1) ⟨by omega,hstep (by omega) (by omega) hne⟩ (by omega) ?_
       rw [hT]
       exact (ent [0,1,4] false (by simp only [lP,seval,pa_qs,pa_exs,pa_ags,pa_ods,pa_ints,hlen,List.map_append]<;>(try simp)<;>(try omega)) (by simp only [lP,seval,pa_qs,pa_exs,pa_ags,pa_ods,pa_ints,hlen,List.map_append]<;>(try simp)<;>(try omega)))
   · obtain rfl:i=q.grp.length:=by omega
     rw [List.take_length] at hgi ⊢
     repeat' (first|(with_reducible first|(apply St.o;constructor)<;>intro _|refine And.intro (by omega) ?_|(apply Sq.o;constructor))|simp (disch:=omega) only [lE,seval,List.length_map,Int.lt_irrefl,decide_false])
     all_goals exact .inl ⟨(ent [0,1,2] false (by simp only [lP,seval,pa_qs,pa_exs,pa_ags,pa_ods,pa_ints]<;>(try simp)<;>(try omega)) (by simp only [lP,seval,pa_qs,pa_exs,pa_ags,pa_ods,pa_ints]<;>(try simp)<;>(try omega))),hgi⟩
 refine mf_cutE (φ:=q.grp.length+q.aggs.length≤32) [(1,ksV ks),(2,.op 0 0),(4,.op 1 0),(5,.slc 2 1 q.grp.length)] [.box q.cs,.box [.raw (.slice none 0 0),.int .i64 0],.arr 3 1 ((q.grp.map fun c=>ks.getD c.toNat 0).map (AV.int .i64))] ?_ fun h32=>?_
 · simp only [lA,seval]
   repeat' (first|(with_reducible first|(apply St.o;constructor)<;>intro _|refine And.intro (by omega) ?_|(apply Sq.o;constructor))|simp (disch:=omega) only [lE,seval,ti63,fillE,setAll,List.length_map])
   all_goals first
    | exact .inl ⟨(ent [0,1,2] false (by simp only [lP,seval,pa_qs,pa_exs,pa_ags,pa_ods,pa_ints]<;>(try simp)<;>(try omega)) (by simp only [lP,seval,pa_qs,pa_exs,pa_ags,pa_ods,pa_ints]<;>(try simp)<;>(try omega))),by omega⟩
    | (refine .inr (keep_err ?_)
       unfold groupsK
       rw [if_neg (fun h=>h.elim h0 fun h=>h hgo),if_pos (by omega)])
 have hgk:groupsK ks q.grp q.aggs=if (mapE (aggK ks) q.aggs).2≠0 then ([],(mapE (aggK ks) q.aggs).2) else (q.grp.map (fun c=>ks.getD c.toNat 0)++(mapE (aggK ks) q.aggs).1,0):=by
  unfold groupsK
  rw [if_neg (fun h=>h.elim h0 fun h=>h hgo),if_neg (by omega)]
 rw [hgk]
 generalize hG:q.grp.map (fun c=>ks.getD c.toNat 0)=G at *
 have hGl:G.length=q.grp.length:=by rw [← hG];simp
 rw [← hGl]
 refine mf_i ?_
 simp only [lA,seval]
 refine loop_i (fun i:Nat=>i≤q.aggs.length∧∀ x ∈ q.aggs.take i,(aggK ks x).2=0) (fun i=>⟨[(1,ksV ks),(2,.op 0 0),(4,.op 1 0),(5,.slc 2 1 (G.length+i)),(8,.int .i64 i)],[.box q.cs,.box [.raw (.slice none 0 0),.int .i64 0],.arr 3 1 ((G++(q.aggs.take i).map fun a=>(aggK ks a).1).map (AV.int .i64))]⟩) (fun i=>q.aggs.length - i) 0 ⟨by omega,by simp⟩ (ent [0,1,2] false (by simp only [lP,seval,pa_qs,pa_exs,pa_ags,pa_ods,pa_ints,List.take_zero,List.map_nil,List.append_nil]<;>(try simp)<;>(try omega)) (by simp only [lP,seval,pa_qs,pa_exs,pa_ags,pa_ods,pa_ints,List.take_zero,List.map_nil,List.append_nil]<;>(try simp)<;>(try omega))) ?_
 rintro i ⟨hi,hae⟩
 by_cases hin:i<q.aggs.length
 · have hlt:((i:Int)<(q.aggs.length:Int)):=by omega
   have hk:=c19 ks (q.aggs.getD i default).arg
   have herr:=mapE_err (f:=aggK ks) hin hae
   have hlen:((G++(q.aggs.take i).map fun a=>(aggK ks a).1).map (AV.int .i64)).length=G.length+i:=by simp;omega
   simp only [av_fs] at hk
   generalize hx:q.aggs.getD i default=a at *
   have haK:aggK ks a=if a.fn=1 then (1,0) else if a.fn=2∨a.fn=3∨a.fn=4 then (if (chk ks a.arg).2=0∧a.fn=2 then (1,if (chk ks a.arg).1≠1∧(chk ks a.arg).1≠0 then 7 else 0) else chk ks a.arg) else (1,1):=rfl
   generalize chk ks a.arg=k at *
   have e1:a.fn<1∨4<a.fn→aggK ks a=(1,1):=fun h=>by rw [haK,if_neg (by omega),if_neg (by omega)]
   have e2:a.fn=1→aggK ks a=(1,0):=fun h=>by rw [haK,if_pos h]
   have e3:1<a.fn→a.fn≤4→k.2≠0→aggK ks a=k:=fun h1 h2 h3=>by rw [haK,if_neg (by omega),if_pos (by omega),if_neg (by omega)]
   have e4:a.fn=2→k.2=0→k.1≠1→k.1≠0→aggK ks a=(1,7):=fun h1 h2 h3 h4=>by rw [haK,if_neg (by omega),if_pos (by omega),if_pos ⟨h2,h1⟩,if_pos ⟨h3,h4⟩]
   have e5:a.fn=2→k.2=0→(k.1=1∨k.1=0)→aggK ks a=(1,0):=fun h1 h2 h3=>by rw [haK,if_neg (by omega),if_pos (by omega),if_pos ⟨h2,h1⟩,if_neg (by omega)]
   have e6:1<a.fn→a.fn≤4→a.fn≠2→k.2=0→aggK ks a=(k.1,0):=fun h1 h2 h3 h4=>by rw [haK,if_neg (by omega),if_pos (by omega),if_neg (by omega),← h4]
   clear haK
   have hnext:(aggK ks a).2=0→∀ x ∈ q.aggs.take (i+1),(aggK ks x).2=0:=fun h x hxm=>by
    rw [List.take_succ_eq_append_getElem hin] at hxm
    rcases List.mem_append.1 hxm with hxm | hxm
    · exact hae x hxm
    · rw [List.mem_singleton.1 hxm]
      have e:q.aggs.getD i default=q.aggs[i]:=by simp [hin]
      rw [← e,hx];exact h
   have hT:(G++(q.aggs.take (i+1)).map fun a=>(aggK ks a).1).map (AV.int .i64)=(G++(q.aggs.take i).map fun a=>(aggK ks a).1).map (AV.int .i64)++[.int .i64 (aggK ks a).1]:=by
    have e:q.aggs.getD i default=q.aggs[i]:=by simp [hin]
    rw [List.take_succ_eq_append_getElem hin,← e,hx];simp
   have herr2:∀ v,v≠0→(aggK ks a).2=v→(if (mapE (aggK ks) q.aggs).2≠0 then ([],(mapE (aggK ks) q.aggs).2) else (G++(mapE (aggK ks) q.aggs).1,0))=(([],v):List Int × Int):=fun v hv h=>by
    rw [herr (by omega),h,if_pos hv]
   clear herr
   repeat' (first|(with_reducible first|(apply St.o;constructor)<;>intro _|refine And.intro (by omega) ?_|(apply Sq.o;constructor))|((with_reducible apply Sc.o true;constructor);simp only [lP,seval,IdxR_ags,hx,hlen,Int.toNat_natCast,List.length_map,hlt,decide_true,ti63,fillE,setAll];refine ⟨_,hk,?_⟩;rintro _ _ ⟨rfl,rfl⟩;simp only [lA,lP,seval,IdxR_ags,hx,hlen,Int.toNat_natCast,List.length_map,hlt,decide_true,ti63,fillE,setAll])|simp (disch:=omega) only [lE,seval,IdxR_ags,hx,hlen,Int.toNat_natCast,List.length_map,hlt,decide_true,ti63,fillE,setAll])
   all_goals first
    | (exfalso;omega)
    | (refine back_i (i+1) ⟨by omega,hnext (by first | rw [e2 (by omega)] | rw [e5 (by omega) (by omega) (by omega)] | rw [e6 (by omega) (by omega) (by omega) (by omega)])⟩ (by omega) ?_
       rw [hT]
       first | rw [e2 (by omega)] | rw [e5 (by omega) (by omega) (by omega)] | rw [e6 (by omega) (by omega) (by omega) (by omega)]
       exact (ent [0,1,5] false (by simp only [lP,seval,pa_qs,pa_exs,pa_ags,pa_ods,pa_ints,hlen,List.map_append]<;>(try simp)<;>(try omega)) (by simp only [lP,seval,pa_qs,pa_exs,pa_ags,pa_ods,pa_ints,hlen,List.map_append]<;>(try simp)<;>(try omega))))
    | (simp only [mfQ,lA,seval]
       repeat' (first|(with_reducible first|(apply St.o;constructor)<;>intro _|refine And.intro (by omega) ?_|(apply Sq.o;constructor))|simp (disch:=omega) only [lE,seval,ti63,fillE,setAll])
       refine keep_err (herr2 _ ?_ ?_)
       · first | assumption | omega
       · first | rw [e1 (by omega)] | rw [e3 (by omega) (by omega) (by omega)] | rw [e4 (by omega) (by omega) (by omega) (by omega)])
 · obtain rfl:i=q.aggs.length:=by omega
   rw [List.take_length] at hae ⊢
   have hmo:=mapE_ok (f:=aggK ks) hae
   have hll:(G++q.aggs.map fun a=>(aggK ks a).1).length=G.length+q.aggs.length:=by simp
   rw [hmo]
   generalize (G++q.aggs.map fun a=>(aggK ks a).1)=T at *
   repeat' (first|(with_reducible first|(apply St.o;constructor)<;>intro _|refine And.intro (by omega) ?_|(apply Sq.o;constructor))|simp (disch:=omega) only [lE,seval,List.length_map,Int.lt_irrefl,decide_false])
   refine mf_go (mf_last ?_)
   simp only [lA,seval]
   repeat' (first|(with_reducible first|(apply St.o;constructor)<;>intro _|refine And.intro (by omega) ?_|(apply Sq.o;constructor))|simp (disch:=omega) only [lE,seval,ti63,fillE,setAll])
   rw [if_neg (by simp)]
   refine keep_i [] true (by simp) (by simp) rfl ⟨?_,by simp only [lP,seval]⟩
   rw [← hll]
   simp only [lP,seval,vw_ints,List.length_map,List.take_length]
end Go.Proofs.Try
