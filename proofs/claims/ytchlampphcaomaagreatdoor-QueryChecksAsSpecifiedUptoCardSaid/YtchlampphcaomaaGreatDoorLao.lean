/-
 A part of the proof: see the text of the law.
-/
import Derived.Test.YtchlampphcaomaaGreatDoorLan
set_option linter.unusedSimpArgs false
set_option linter.unusedVariables false
namespace Go.Proofs.Try
open Go.Proofs.Tryz
open Go.Al
set_option maxRecDepth 100000
def mc88:MC:=(.seq (.ops [pK 2 0,(none,.e (.alloc 4 z4))]) (.seq (.seq (.ops [pF 10 0 2,pL 11 10]) (.block 0 (.seq (.ops [pE 13 11 2,pM 12 13]) (.cond 12 (.seq (.ops [pM 14 1,pM 15 1,pF 16 3 2,pR 17 6 16,pW 18 113 15 17,(none,.v (.build 19 z4 [(0,1,.t 14),(1,1,.t 18)])),pS 2 4 19]) .ret) (.seq (.ops [pE 21 11 4,pM 20 21]) (.cond 20 (.seq (.seq (.ops [pM 22 1,pG 23 22,(none,.v (.bin 24 .gtr false (.t 23) (.c (.int .i64 32))))]) (.cond 24 (.seq (.ops [(none,.v (.build 25 z4 [(1,1,.c (.int .i64 2))])),pS 2 4 25]) .ret) .skip)) (.seq (.ops [pM 26 1,pM 27 1,pF 28 3 2,pR 29 6 28,pW 30 113 27 29,(none,.v (.build 31 z4 [(0,1,.t 26),(1,1,.t 30)])),pS 2 4 31]) .ret)) (.seq (.ops [pE 33 11 3,pM 32 33]) (.cond 32 (.seq (.seq (.ops [pF 34 9 2,pL 35 34,pG 36 35,pE 37 36 0]) (.cond 37 (.seq (.ops [(none,.v (.build 38 z4 [(1,1,.c (.int .i64 1))])),pS 2 4 38]) .ret) .skip)) (.seq (.seq (.ops [pF 39 9 2,pL 40 39,pG 41 40,(none,.v (.bin 42 .gtr false (.t 41) (.c (.int .i64 32))))]) (.cond 42 (.seq (.ops [(none,.v (.build 43 z4 [(1,1,.c (.int .i64 2))])),pS 2 4 43]) .ret) .skip)) (.seq (.ops [pY 5]) (.seq (.seq (.ops [pI 6 0]) (.block 1 (.loop (.seq (.seq (.ops [pM 44 6,pF 45 9 2,pL 46 45,pG 47 46,pB 48 44 47]) (.cond 48 .skip (.exit 1))) (.seq (.block 2 (.seq (.ops [pM 52 1,pF 53 9 2,pL 54 53,pM 55 6,pQ 56 6 54 55,pR 57 6 56,pW 58 19 52 57,pM 51 58,pX 59 0 51,pX 60 1 51,pM 7 59,pM 8 60]) (.seq (.seq (.ops [pM 61 8,pD 62 61 0]) (.cond 62 (.seq (.ops [pM 63 8,(none,.v (.build 64 z4 [(1,1,.t 63)])),pS 2 4 64]) .ret) .skip)) (.ops [pM 65 5,pM 66 7,(none,.e (.mkl 67 3 1 1 (.int .i64 0) [(0,.t 66)])),(none,.e (.app 68 3 1 8 (.t 65) (.t 67))),pM 5 68])))) (.ops [pM 49 6,pA 50 49 1,pM 6 50])))))) (.seq (.ops [pM 69 5,(none,.v (.build 70 z4 [(0,1,.t 69)])),pS 2 4 70]) .ret))))) (.seq (.ops [pE 72 11 5,pM 71 72]) (.cond 71 (.seq (.ops [pR 73 14 2,pM 74 1,pW 75 114 73 74,pS 2 4 75]) .ret) (.seq (.ops [pE 77 11 6,pM 76 77]) (.cond 76 (.seq (.seq (.ops [pF 78 12 2,pL 79 78,pG 80 79,pE 81 80 0]) (.cond 81 (.seq (.ops [(none,.v (.build 82 z4 [(1,1,.c (.int .i64 1))])),pS 2 4 82]) .ret) .skip)) (.seq (.ops [pI 9 0]) (.block 3 (.loop (.seq (.seq (.ops [pM 83 9,pF 84 12 2,pL 85 84,pG 86 85,pB 87 83 86]) (.cond 87 .skip (.exit 3))) (.seq (.block 4 (.seq (.ops [pF 90 12 2,pL 91 90,pM 92 9,pQ 93 2 91 92,pF 94 0 93,pL 95 94,(none,.v (.bin 96 .lss false (.t 95) (.c (.int .i64 0)))),pM 97 96,gF 97 (oF 98 12 2),gF 97 (oL 99 98),gF 97 (oM 100 9),gF 97 (oQ 101 2 99 100),gF 97 (oF 102 0 101),gF 97 (oL 103 102),gF 97 (oM 104 1),gF 97 (oG 105 104),(some (97,false),.v (.bin 106 .geq false (.t 103) (.t 105))),pO 107 97 106]) (.cond 107 (.seq (.ops [(none,.v (.build 108 z4 [(1,1,.c (.int .i64 1))])),pS 2 4 108]) .ret) .skip))) (.ops [pM 88 9,pA 89 88 1,pM 9 89]))))))) (.seq (.ops [pE 110 11 7,pM 109 110]) (.cond 109 (.seq (.ops [pF 111 13 2,pL 112 111,(none,.v (.bin 113 .lss false (.t 112) (.c (.int .i64 0))))]) (.cond 113 (.seq (.ops [(none,.v (.build 114 z4 [(1,1,.c (.int .i64 1))])),pS 2 4 114]) .ret) .skip)) .skip)))))))))))))) (.seq (.ops [pM 115 1,(none,.v (.build 116 z4 [(0,1,.t 115)])),pS 2 4 116]) .ret)))
theorem ok88:FnOk E 88 117 [.cell 4 63] mc88:=ofk func88
set_option maxRecDepth 20000
set_option maxHeartbeats 16000000
def nodeS (q:QY) (ks:List Int):List Int × Int :=
 if q.kind=2 then (ks,truthE ks q.cond)
 else if q.kind=4 then (if 32<ks.length then ([],2) else (ks,truthE ks q.cond))
 else nodeK [] q ks
theorem nodeK_db {db:List TB} {q:QY} {ks:List Int} (h:q.kind≠1):nodeK db q ks=nodeK [] q ks:=by
 unfold nodeK;rw [if_neg h,if_neg h]
theorem nodeK_err {db:List TB} {q:QY} {ks:List Int} (h:q.kind≠1):nodeK db q ks=if (nodeS q ks).2≠0 then ([],(nodeS q ks).2) else nodeS q ks:=by
 unfold nodeS
 by_cases h2:q.kind=2
 · simp only [nodeK,if_neg h,if_pos h2]
   split
   · rfl
   · rename_i h3;rw [show truthE ks q.cond=0 by omega]
 by_cases h4:q.kind=4
 · simp only [nodeK,if_neg h,if_neg h2,if_pos h4]
   by_cases h5:32<ks.length
   · simp [h5]
   · simp only [if_neg h5]
     split
     · rfl
     · rename_i h3;rw [show truthE ks q.cond=0 by omega]
 rw [if_neg h2,if_neg h4,nodeK_db h]
 split
 · rename_i h5
   refine Prod.ext ?_ rfl
   unfold nodeK at h5 ⊢
   rw [if_neg h,if_neg h2,if_neg h4] at h5 ⊢
   split
   · rename_i h6;rw [if_pos h6] at h5;exact projK_err _ _ h5
   rename_i h6;rw [if_neg h6] at h5
   split
   · rename_i h7;rw [if_pos h7] at h5;exact groupsK_err _ _ _ h5
   rename_i h7;rw [if_neg h7] at h5
   split
   · rename_i h8;rw [if_pos h8] at h5;split
     · rfl
     · rename_i h9;rw [if_neg h9] at h5;exact absurd rfl h5
   rename_i h8;rw [if_neg h8] at h5
   split
   · rename_i h9;rw [if_pos h9] at h5;split
     · rfl
     · rename_i h9;rw [if_neg h9] at h5;exact absurd rfl h5
   rename_i h9;rw [if_neg h9] at h5
   exact absurd rfl h5
 · rfl
theorem nodeS_eq {q:QY} {ks:List Int} (h:q.kind≠1):nodeS q ks=if q.kind=2 then (ks,truthE ks q.cond)
 else if q.kind=4 then (if 32<ks.length then ([],2) else (ks,truthE ks q.cond))
 else if q.kind=3 then projK ks q.cols
 else if q.kind=5 then groupsK ks q.grp q.aggs
 else if q.kind=6 then (if q.ord.length=0∨q.ord.any (fun o=>!okOrd ks.length o)=true then ([],1) else (ks,0))
 else if q.kind=7 then (if q.n<0 then ([],1) else (ks,0))
 else (ks,0):=by
 unfold nodeS
 by_cases k2:q.kind=2
 · rw [if_pos k2,if_pos k2]
 by_cases k4:q.kind=4
 · rw [if_neg k2,if_pos k4,if_neg k2,if_pos k4]
 rw [if_neg k2,if_neg k4,if_neg k2,if_neg k4]
 unfold nodeK
 rw [if_neg h,if_neg k2,if_neg k4]
theorem keep_kk {H:List AObj} {l:List Int} {k:Int} {P:List Int × Int} (h:P=(l,k)):keepQ 0 (fun r H=>r=.agg [ksV P.1,.int .i64 P.2]∧H=[]) (.agg [ksV l,.int .i64 k]) H:=by
 subst h
 refine keep_i [] true (by simp) (by simp) rfl ?_
 simp only [lP,seval]
theorem keep_ks {id:Nat} {H:List AObj} {l:List Int} {n:Nat} {P:List Int × Int} (hH:H[id]?=some (.arr 3 1 (l.map (AV.int .i64)))) (h:P=(l,0)) (hn:n=l.length):keepQ 0 (fun r H=>r=.agg [ksV P.1,.int .i64 P.2]∧H=[]) (.agg [.slc id 1 n,.int .i64 0]) H:=by
 subst h hn
 refine keep_i [] true (by simp) (by simp) rfl ?_
 simp only [lP,seval,hH,List.length_map]
theorem c88 (q:QY) (ks:List Int) (hok:q.ok) (hks:ks.length≤4000000) (hk1:q.kind≠1):ACalls E.P 88 [q.av,ksV ks] [] (fun r H=>r=.agg [ksV (nodeS q ks).1,.int .i64 (nodeS q ks).2]∧H=[]):=by
 have hmax:=maxLen_eq
 have h113:=c113 ks q.cond
 have h114:=c114 ks q hok hks
 have hs:=nodeS_eq (ks:=ks) hk1
 have hok2:=(ok_eq q).1 hok
 simp only [q_av] at h114
 simp only [av_fs] at h113
 refine ok88.acalls hE hm (by simp) fun N hN=>?_
 unfold mc88 z4 pK pF pL pE pM pR pW pS pG pY pI pB pQ pX pD pA pO gF oM oL oF oG oQ
 simp only [lA,seval,q_av]
 by_cases k2:q.kind=2
 · rw [if_pos k2] at hs
   rw [hs]
   repeat' (first|(with_reducible first|(apply St.o;constructor)<;>intro _|refine And.intro (by omega) ?_|(apply Sq.o;constructor))|((with_reducible apply Sc.o true;constructor);simp only [lP,seval,Int.reduceEq,decide_true,decide_false,ti63,fillE,setAll];refine ⟨_,h113,?_⟩;rintro _ _ ⟨rfl,rfl⟩;simp only [lA,lP,seval,Int.reduceEq,decide_true,decide_false,ti63,fillE,setAll])|simp (disch:=omega) only [lE,seval,Int.reduceEq,decide_true,decide_false,ti63,fillE,setAll])
   all_goals first
    | (exfalso;omega)
    | exact keep_kk rfl
 by_cases k4:q.kind=4
 · rw [if_neg k2,if_pos k4] at hs
   rw [hs]
   repeat' (first|(with_reducible first|(apply St.o;constructor)<;>intro _|refine And.intro (by omega) ?_|(apply Sq.o;constructor))|((with_reducible apply Sc.o true;constructor);simp only [lP,seval,Int.reduceEq,decide_true,decide_false,ti63,fillE,setAll,List.length_map];refine ⟨_,h113,?_⟩;rintro _ _ ⟨rfl,rfl⟩;simp only [lA,lP,seval,Int.reduceEq,decide_true,decide_false,ti63,fillE,setAll,List.length_map])|simp (disch:=omega) only [lE,seval,Int.reduceEq,decide_true,decide_false,ti63,fillE,setAll,List.length_map])
   all_goals first
    | (exfalso;omega)
    | exact keep_err (by rw [if_pos (by omega)])
    | exact keep_kk (by rw [if_neg (by omega)])
 rw [if_neg k2,if_neg k4] at hs
 by_cases k3:q.kind=3
 · rw [if_pos k3] at hs
   rw [hs]
   have h3l:=hok2
   repeat' (first|(with_reducible first|(apply St.o;constructor)<;>intro _|refine And.intro (by omega) ?_|(apply Sq.o;constructor))|simp (disch:=omega) only [lE,seval,Int.reduceEq,decide_true,decide_false,ti63,fillE,setAll,List.length_map])
   all_goals try (exfalso;omega)
   all_goals try exact keep_err (by unfold projK;rw [if_pos (by omega)])
   all_goals try exact keep_err (by unfold projK;rw [if_neg (by omega),if_pos (by omega)])
   have hp:projK ks q.cols=mapE (chk ks) q.cols:=by unfold projK;rw [if_neg (by omega),if_neg (by omega)]
   rw [hp]
   refine loop_i (fun i:Nat=>i≤q.cols.length∧∀ x ∈ q.cols.take i,(chk ks x).2=0) (fun i=>⟨[(1,ksV ks),(2,.op 0 0),(4,.op 1 0),(5,.slc 2 1 i),(6,.int .i64 i)],[.box q.cs,.box [.raw (.slice none 0 0),.int .i64 0],.arr 3 1 (((q.cols.take i).map fun x=>(chk ks x).1).map (AV.int .i64))]⟩) (fun i=>q.cols.length - i) 0 ⟨by omega,by simp⟩ (Ent.ghost' 5 3 1 (by omega) rfl (ent [0,1,2] false (by simp only [lP,seval,pa_qs,pa_exs,pa_ags,pa_ods,pa_ints]<;>(try simp)<;>(try omega)) (by simp only [lP,seval,pa_qs,pa_exs,pa_ags,pa_ods,pa_ints]<;>(try simp)<;>(try omega)))) ?_
   rintro i ⟨hi,hae⟩
   have hlen:(((q.cols.take i).map fun x=>(chk ks x).1).map (AV.int .i64)).length=i:=by simp;omega
   by_cases hin:i<q.cols.length
   · have hlt:((i:Int)<(q.cols.length:Int)):=by omega
     have hk:=c19 ks (q.cols.getD i default)
     have herr:=mapE_err (f:=chk ks) hin hae
     have hnext:(chk ks (q.cols.getD i default)).2=0→∀ x ∈ q.cols.take (i+1),(chk ks x).2=0:=fun h x hx=>by
      rw [List.take_succ_eq_append_getElem hin] at hx
      rcases List.mem_append.1 hx with hx | hx
      · exact hae x hx
      · rw [List.mem_singleton.1 hx]
        have e:q.cols.getD i default=q.cols[i]:=by simp [hin]
        rw [← e];exact h
     have hT:((q.cols.take (i+1)).map fun x=>(chk ks x).1).map (AV.int .i64)=((q.cols.take i).map fun x=>(chk ks x).1).map (AV.int .i64)++[.int .i64 (chk ks (q.cols.getD i default)).1]:=by
      have e:q.cols.getD i default=q.cols[i]:=by simp [hin]
      rw [List.take_succ_eq_append_getElem hin,← e,List.map_append,List.map_append]
      rfl
     simp only [av_fs] at hk
     generalize hx:q.cols.getD i default=a at *
     generalize hc:chk ks a=k at *
     repeat' (first|(with_reducible first|(apply St.o;constructor)<;>intro _|refine And.intro (by omega) ?_|(apply Sq.o;constructor))|((with_reducible apply Sc.o true;constructor);simp only [lP,seval,IdxR_exs,hx,hlen,Int.toNat_natCast,List.length_map,hlt,decide_true,ti63,fillE,setAll];refine ⟨_,hk,?_⟩;rintro _ _ ⟨rfl,rfl⟩;simp only [lA,lP,seval,IdxR_exs,hx,hlen,Int.toNat_natCast,List.length_map,hlt,decide_true,ti63,fillE,setAll])|simp (disch:=omega) only [lE,seval,IdxR_exs,hx,hlen,Int.toNat_natCast,List.length_map,hlt,decide_true,ti63,fillE,setAll])
     · rename_i h
       exact keep_err (herr h)
     · rename_i h
       refine back_i (i+1) ⟨by omega,hnext (by omega)⟩ (by omega) ?_
       rw [hT]
       exact (ent [0,1,4] false (by simp only [lP,seval,pa_qs,pa_exs,pa_ags,pa_ods,pa_ints,hlen,List.map_append]<;>(try simp)<;>(try omega)) (by simp only [lP,seval,pa_qs,pa_exs,pa_ags,pa_ods,pa_ints,hlen,List.map_append]<;>(try simp)<;>(try omega)))
   · obtain rfl:i=q.cols.length:=by omega
     rw [List.take_length] at hae hlen ⊢
     repeat' (first|(with_reducible first|(apply St.o;constructor)<;>intro _|refine And.intro (by omega) ?_|(apply Sq.o;constructor))|simp (disch:=omega) only [lE,seval,List.length_map,Int.lt_irrefl,decide_false,ti63,fillE,setAll])
     exact keep_ks (id:=2) rfl (mapE_ok hae) (by simp)
 rw [if_neg k3] at hs
 by_cases k5:q.kind=5
 · rw [if_pos k5] at hs
   rw [hs]
   repeat' (first|(with_reducible first|(apply St.o;constructor)<;>intro _|refine And.intro (by omega) ?_|(apply Sq.o;constructor))|((with_reducible apply Sc.o false;constructor);simp only [lP,seval,Int.reduceEq,decide_true,decide_false,ti63,fillE,setAll,List.length_map];refine ⟨_,h114,?_⟩;rintro _ _ ⟨rfl,rfl⟩;simp only [lA,lP,seval,Int.reduceEq,decide_true,decide_false,ti63,fillE,setAll,List.length_map])|simp (disch:=omega) only [lE,seval,Int.reduceEq,decide_true,decide_false,ti63,fillE,setAll,List.length_map])
   all_goals first
    | (exfalso;omega)
    | exact keep_kk rfl
 rw [if_neg k5] at hs
 by_cases k6:q.kind=6
 · rw [if_pos k6] at hs
   rw [hs]
   repeat' (first|(with_reducible first|(apply St.o;constructor)<;>intro _|refine And.intro (by omega) ?_|(apply Sq.o;constructor))|simp (disch:=omega) only [lE,seval,Int.reduceEq,decide_true,decide_false,ti63,fillE,setAll,List.length_map])
   all_goals try (exfalso;omega)
   all_goals try exact keep_err (by rw [if_pos (.inl (by omega))])
   refine loop_i (fun i:Nat=>i≤q.ord.length∧∀ x ∈ q.ord.take i,okOrd ks.length x=true) (fun i=>⟨[(1,ksV ks),(2,.op 0 0),(4,.op 1 0),(9,.int .i64 i)],[.box q.cs,.box [.raw (.slice none 0 0),.int .i64 0]]⟩) (fun i=>q.ord.length - i) 0 ⟨by omega,by simp⟩ (ent [0,1] false (by simp only [lP,seval,pa_qs,pa_exs,pa_ags,pa_ods,pa_ints]<;>(try simp)<;>(try omega)) (by simp only [lP,seval,pa_qs,pa_exs,pa_ags,pa_ods,pa_ints]<;>(try simp)<;>(try omega))) ?_
   rintro i ⟨hi,hae⟩
   by_cases hin:i<q.ord.length
   · have hlt:((i:Int)<(q.ord.length:Int)):=by omega
     have hmem:q.ord.getD i default ∈ q.ord:=by simp [hin]
     have hnext:okOrd ks.length (q.ord.getD i default)=true→∀ x ∈ q.ord.take (i+1),okOrd ks.length x=true:=fun h x hx=>by
      rw [List.take_succ_eq_append_getElem hin] at hx
      rcases List.mem_append.1 hx with hx | hx
      · exact hae x hx
      · rw [List.mem_singleton.1 hx]
        have e:q.ord.getD i default=q.ord[i]:=by simp [hin]
        rw [← e];exact h
     have hbad:¬ okOrd ks.length (q.ord.getD i default)=true→(q.ord.any fun o=>!okOrd ks.length o)=true:=fun h=>List.any_eq_true.2 ⟨_,hmem,by simpa using h⟩
     generalize hx:q.ord.getD i default=o at *
     have hoo:okOrd ks.length o=true↔0≤o.col∧o.col<ks.length:=by simp [okOrd]
     repeat' (first|(with_reducible first|(apply St.o;constructor)<;>intro _|refine And.intro (by omega) ?_|(apply Sq.o;constructor))|simp (disch:=omega) only [lE,seval,IdxR_ods,hx,Int.toNat_natCast,List.length_map,hlt,decide_true,ti63,fillE,setAll])
     all_goals first
      | exact keep_err (by rw [if_pos (.inr (hbad (by rw [hoo];omega)))])
      | (refine back_i (i+1) ⟨by omega,hnext (by rw [hoo];omega)⟩ (by omega) (ent [0,1] false (by simp only [lP,seval,pa_qs,pa_exs,pa_ags,pa_ods,pa_ints]<;>(try simp)<;>(try omega)) (by simp only [lP,seval,pa_qs,pa_exs,pa_ags,pa_ods,pa_ints]<;>(try simp)<;>(try omega))))
   · obtain rfl:i=q.ord.length:=by omega
     rw [List.take_length] at hae
     have hno:¬ (q.ord.length=0∨(q.ord.any fun o=>!okOrd ks.length o)=true):=fun h=>by
      rcases h with h | h
      · omega
      · obtain ⟨x,hx,h⟩:=List.any_eq_true.1 h
        rw [hae x hx] at h;simp at h
     repeat' (first|(with_reducible first|(apply St.o;constructor)<;>intro _|refine And.intro (by omega) ?_|(apply Sq.o;constructor))|simp (disch:=omega) only [lE,seval,List.length_map,Int.lt_irrefl,decide_false,ti63,fillE,setAll])
     exact keep_kk (by rw [if_neg hno])
 rw [if_neg k6] at hs
 by_cases k7:q.kind=7
 · rw [if_pos k7] at hs
   rw [hs]
   repeat' (first|(with_reducible first|(apply St.o;constructor)<;>intro _|refine And.intro (by omega) ?_|(apply Sq.o;constructor))|simp (disch:=omega) only [lE,seval,Int.reduceEq,decide_true,decide_false,ti63,fillE,setAll,List.length_map])
   all_goals first
    | (exfalso;omega)
    | exact keep_err (by rw [if_pos (by assumption)])
    | exact keep_kk (by rw [if_neg (by assumption)])
 rw [if_neg k7] at hs
 rw [hs]
 repeat' (first|(with_reducible first|(apply St.o;constructor)<;>intro _|refine And.intro (by omega) ?_|(apply Sq.o;constructor))|simp (disch:=omega) only [lE,seval,Int.reduceEq,decide_true,decide_false,ti63,fillE,setAll,List.length_map])
 all_goals first
  | (exfalso;omega)
  | exact keep_kk rfl
end Go.Proofs.Try
