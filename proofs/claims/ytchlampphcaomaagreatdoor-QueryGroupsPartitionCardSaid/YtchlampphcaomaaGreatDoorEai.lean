/-
 A part of the proof: see the text of the law.
-/
import Derived.Test.YtchlampphcaomaaGreatDoorEah
set_option linter.unusedSimpArgs false
set_option linter.unusedVariables false
namespace Go.Proofs.Try
open Go.Proofs.Tryz
open Go.Al
set_option maxRecDepth 100000
abbrev q18_0:MI:=oY 4
def mc18:MC:=(.seq (.ops [pK 3 1,(none,q18_0),pI 5 0]) (.seq (.seq (.ops [pR 6 14 3,pV 7 26 6,(none,.v (.bin 8 .gtr false (.t 7) (.c (.int .i64 40))))]) (.cond 8 (.seq (.ops [(none,q18_0),pI 5 2]) .ret) .skip)) (.seq (.seq (.ops [pR 9 14 3,pV 10 44 9,pN 11 10]) (.cond 11 (.seq (.ops [(none,q18_0),pI 5 3]) .ret) .skip)) (.seq (.ops [pM 12 0,pR 13 14 3,pW 14 45 12 13,pX 15 0 14,pX 16 1 14,pM 4 15,pM 5 16]) .ret))))
theorem ok18:FnOk E 18 17 [.tmp 4,.tmp 5] mc18:=ofk func18
abbrev q45_0:MI:=oY 4
def mc45:MC:=(.seq (.ops [pK 3 1,(none,q45_0),pI 5 0]) (.seq (.ops [(none,.e (.alloc 6 [.raw (.slice none 0 0)])),pY 7]) (.seq (.seq (.ops [pF 17 2 3,pL 18 17,pG 19 18,pI 20 0]) (.block 0 (.loop (.seq (.ops [pB 21 20 19]) (.seq (.cond 21 .skip (.exit 0)) (.seq (.block 1 (.seq (.ops [pQ 22 14 18 20,pR 23 14 22,(none,.e (.alloc 9 z0)),pS 14 9 23]) (.seq (.ops [pM 25 0,pR 26 14 9,pW 27 45 25 26,pM 24 27,pX 28 0 24,pX 29 1 24,pM 10 28,pM 11 29]) (.seq (.seq (.ops [pM 30 11,pD 31 30 0]) (.cond 31 (.seq (.ops [pM 32 11,(none,q45_0),pM 5 32]) .ret) .skip)) (.ops [pL 33 6,pM 34 10,(none,.e (.app 35 3 1 8 (.t 33) (.t 34))),(none,.e (.store 1 false (.t 6) (.t 35)))]))))) (.ops [pA 36 20 1,pM 20 36]))))))) (.seq (.ops [(none,.v (.fn 37 (.func 74) [] [.t 6])),(none,.e (.alloc 12 [.raw .nilFunc])),(none,.e (.store 1 false (.t 12) (.t 37)))]) (.seq (.ops [pI 13 0]) (.seq (.ops [pL 38 6,pM 7 38]) (.seq (.seq (.ops [pF 39 0 3,pL 40 39]) (.block 2 (.seq (.ops [pE 42 40 1,pM 41 42]) (.cond 41 (.seq (.ops [pM 43 0,(none,.v (.fn 44 (.func 76) [] [.t 3])),pW 45 75 43 44,pM 14 45]) (.seq (.seq (.ops [pM 46 14,(none,.v (.bin 47 .lss false (.t 46) (.c (.int .i64 0))))]) (.cond 47 (.seq (.ops [(none,q45_0),pI 5 5]) .ret) .skip)) (.seq (.ops [pM 48 0,pM 49 14,pQ 50 4 48 49,pF 51 1 50,pL 52 51,pG 53 52,pI 54 0]) (.block 3 (.loop (.seq (.ops [pB 55 54 53]) (.seq (.cond 55 .skip (.exit 3)) (.seq (.block 4 (.seq (.ops [pQ 56 3 52 54,pR 57 3 56,(none,.e (.alloc 16 [.str ⟨#[]⟩,.int .i64 0,.bool false])),pS 3 16 57]) (.ops [pM 58 7,pF 59 1 16,pL 60 59,(none,.e (.mkl 61 3 1 1 (.int .i64 0) [(0,.t 60)])),(none,.e (.app 62 3 1 8 (.t 58) (.t 61))),pM 7 62]))) (.ops [pA 63 54 1,pM 54 63]))))))))) (.seq (.ops [pE 65 40 2,pM 64 65]) (.cond 64 (.ops [pL 66 6,pF 67 3 3,pR 68 6 67,pW 69 77 66 68,pM 13 69]) (.seq (.ops [pE 71 40 4,pM 70 71]) (.cond 70 (.seq (.ops [pI 13 2]) (.seq (.ops [pL 72 6,pG 73 72,(none,.v (.bin 74 .leq false (.t 73) (.c (.int .i64 32))))]) (.cond 74 (.ops [pL 75 6,pF 76 3 3,pR 77 6 76,pW 78 77 75 77,pM 13 78]) .skip))) (.seq (.ops [pE 80 40 3,pM 79 80]) (.cond 79 (.ops [pL 82 6,pF 83 9 3,pL 84 83,pW 85 78 82 84,pM 81 85,pX 86 0 81,pX 87 1 81,pM 7 86,pM 13 87]) (.seq (.ops [pE 89 40 5,pM 88 89]) (.cond 88 (.ops [pL 91 6,pR 92 14 3,pW 93 79 91 92,pM 90 93,pX 94 0 90,pX 95 1 90,pM 7 94,pM 13 95]) (.seq (.ops [pE 97 40 6,pM 96 97]) (.cond 96 (.seq (.ops [pF 98 12 3,pL 99 98,pG 100 99,pE 101 100 0,pM 102 101,gF 102 (oF 103 12 3),gF 102 (oL 104 103),(some (102,false),.v (.fn 105 (.func 81) [] [.t 12])),gF 102 (oW 106 80 104 105),pO 107 102 106]) (.cond 107 (.ops [pI 13 1]) .skip)) (.seq (.ops [pE 109 40 7,pM 108 109]) (.cond 108 (.seq (.ops [pF 110 13 3,pL 111 110,(none,.v (.bin 112 .lss false (.t 111) (.c (.int .i64 0))))]) (.cond 112 (.ops [pI 13 1]) .skip)) .skip)))))))))))))))) (.seq (.seq (.ops [pM 113 13,pD 114 113 0]) (.cond 114 (.seq (.ops [pM 115 13,(none,q45_0),pM 5 115]) .ret) .skip)) (.seq (.ops [pM 116 7,pM 4 116,pI 5 0]) .ret)))))))))
theorem ok45:FnOk E 45 117 [.tmp 4,.tmp 5] mc45:=ofk func45
set_option maxRecDepth 20000
set_option maxHeartbeats 16000000
theorem keep_kg {id:Nat} {H:List AObj} {l:List Int} {n:Nat} {Q:List Int × Int} (hH:H[id]?=some (.arr 3 1 (l.map (AV.int .i64)))) (h:Q=(l,0)) (hn:n=l.length):keepQ 0 (fun r H=>r=.tup [ksV Q.1,.int .i64 Q.2]∧H=[]) (.tup [.slc id 1 n,.int .i64 0]) H:=by
 subst h hn
 refine keep_i [] true (by simp) (by simp) rfl ?_
 simp only [lP,seval,hH,List.length_map]
theorem keep_kv {H:List AObj} {l:List Int} {k:Int} {Q:List Int × Int} (h:Q=(l,k)):keepQ 0 (fun r H=>r=.tup [ksV Q.1,.int .i64 Q.2]∧H=[]) (.tup [ksV l,.int .i64 k]) H:=by
 subst h
 refine keep_i [] true (by simp) (by simp) rfl ?_
 simp only [lP,seval]
theorem flat_take {α:Type} [Inhabited α] {f:α→List Int} {l:List α} {i:Nat} (h:i<l.length):(((l.take (i+1)).map f).flatten).map (AV.int .i64)=(((l.take i).map f).flatten).map (AV.int .i64)++(f (l.getD i default)).map (AV.int .i64):=by
 have hg:l.getD i default=l[i]:=by simp [h]
 rw [List.take_succ_eq_append_getElem h,hg]
 simp only [List.map_append,List.flatten_append,List.map_cons,List.map_nil,List.flatten_cons,List.flatten_nil,List.append_nil]
theorem fidx_lt {α:Type} {p:α→Bool} {l:List α} (h:0≤fidx p l):fidx p l<l.length:=by
 unfold fidx at *
 split at h
 · rename_i i hi
   have:=(List.findIdx?_eq_some_iff_getElem.1 hi).1
   omega
 · omega
theorem projK_err (ks:List Int) (l:List EX) (h:(projK ks l).2≠0):(projK ks l).1=[]:=by
 unfold projK at *
 split
 · rfl
 split
 · rfl
 rename_i h1 h2
 rw [if_neg h1,if_neg h2] at h
 rcases mapE_cases (f:=chk ks) l with h3 | h3
 · exact absurd h3.1 h
 · exact h3.1
theorem groupsK_err (ks g:List Int) (a:List AG) (h:(groupsK ks g a).2≠0):(groupsK ks g a).1=[]:=by
 unfold groupsK at *
 split
 · rfl
 split
 · rfl
 split
 · rfl
 rename_i h1 h2 h3
 rw [if_neg h1,if_neg h2,if_neg h3] at h
 simp at h
theorem c45n (db:List TB) (q:QY) (hdb:∀ t ∈ db,t.cols.length≤1000000) (hf:q.formed=true) (hok:q.ok)
 (ih:∀ i,i<q.subs.length→ACalls E.P 45 [.view 4 (db.map TB.av),(q.subs.getD i default).av] [] (fun r H=>r=.tup [ksV ((q.subs.getD i default).sch db).1,.int .i64 ((q.subs.getD i default).sch db).2]∧H=[])) :
 ACalls E.P 45 [.view 4 (db.map TB.av),q.av] [] (fun r H=>r=.tup [ksV (q.sch db).1,.int .i64 (q.sch db).2]∧H=[]):=by
 have hmax:=maxLen_eq
 obtain ⟨hn,hs⟩:=formed_node hf
 obtain ⟨hk1,hk8,hb,hl,_⟩:=node_iff.1 hn
 obtain ⟨ho1,ho2,ho3,ho4,ho5,ho6⟩:=(ok_eq q).1 hok
 have hsl:q.subs.length≤2:=by rw [hl];unfold subsN;split;omega;split <;> omega
 have hsn:∀ i,i<q.subs.length→((q.subs.getD i default).sch db).1.length≤1000000:=fun i hi=>sch_len hdb _ (by simpa [hi] using hs _ (List.getElem_mem hi))
 have hse:=sch_eq db q
 refine ok45.acalls hE hm (by simp) fun N hN=>?_
 unfold mc45 q45_0 z0 pK pI pY pF pL pG pB pQ pR pS pM pW pX pD pA pE pO gF oL oF oY oW
 simp only [lA,seval,q_av]
 repeat' (first|(with_reducible first|(apply St.o;constructor)<;>intro _|refine And.intro (by omega) ?_|(apply Sq.o;constructor))|simp (disch:=omega) only [lE,seval,List.length_map])
 refine loop_i (fun i:Nat=>i≤q.subs.length∧∀ x ∈ q.subs.take i,(x.sch db).2=0) (fun i=>⟨[(0,.view 4 (db.map TB.av)),(3,.op 0 0),(6,.op 1 0),(18,.view 14 (q.subs.map QY.av)),(19,.int .i64 q.subs.length),(20,.int .i64 i)],[.box q.cs,.box [.slc 2 1 ((q.subs.take i).map fun s=>(s.sch db).1).flatten.length],.arr 3 1 (((q.subs.take i).map fun s=>(s.sch db).1).flatten.map (AV.int .i64))]⟩) (fun i=>q.subs.length - i) 0 ⟨by omega,by simp⟩ (Ent.trans (Ent.ghostB 1 0 3 1 (by omega) rfl rfl) (ent [0,1,2] false (by simp only [lP,seval,List.take_zero,List.map_nil,List.flatten_nil,List.length_nil]<;>(try simp)<;>(try omega)) (by simp only [lP,seval,List.take_zero,List.map_nil,List.flatten_nil,List.length_nil]<;>(try simp)<;>(try omega)))) ?_
 rintro i ⟨hi,hn⟩
 by_cases hin:i<q.subs.length
 · have hlt:((i:Int)<(q.subs.length:Int)):=by omega
   have h45:=ih i hin
   have hsn:=hsn i hin
   have he:=mapE_err (f:=QY.sch db) hin hn
   have hst:=all_step (p:=fun x=>decide ((QY.sch db x).2≠0)) hin (fun x hx=>by simp [hn x hx])
   have ht:=flat_take (f:=fun s=>(QY.sch db s).1) hin
   have hlb:((q.subs.take i).map fun s=>(s.sch db).1).flatten.length≤2000000:=by
    have:=flat_le (n:=1000000) (l:=(q.subs.take i).map fun s=>(s.sch db).1) fun x hx=>by
     obtain ⟨s,hs2,rfl⟩:=List.mem_map.1 hx
     exact sch_len hdb _ (hs _ (List.mem_of_mem_take hs2))
    simp at this ⊢
    omega
   have hln:((q.subs.take (i+1)).map fun s=>(s.sch db).1).flatten.length=((q.subs.take i).map fun s=>(s.sch db).1).flatten.length+((q.subs.getD i default).sch db).1.length:=by
    have:=congrArg List.length ht
    simp only [List.length_map,List.length_append] at this
    exact this
   simp only [q_av] at h45
   generalize hx:q.subs.getD i default=x at *
   generalize hacc:((q.subs.take i).map fun s=>(s.sch db).1).flatten=acc at *
   repeat' (first|(with_reducible first|(apply St.o;constructor)<;>intro _|refine And.intro (by omega) ?_|(apply Sq.o;constructor))|((with_reducible apply Sc.o false;constructor);simp only [lP,seval,IdxR_qs,hx,Int.toNat_natCast,List.length_map,hlt,decide_true];refine ⟨_,h45,?_⟩;rintro _ _ ⟨rfl,rfl⟩;simp only [lA,lP,seval,IdxR_qs,hx,Int.toNat_natCast,List.length_map,hlt,decide_true])|simp (disch:=omega) only [lE,seval,IdxR_qs,hx,Int.toNat_natCast,List.length_map,hlt,decide_true])
   · rename_i h
     rw [hse,he h]
     exact keep_ke (by rw [if_pos h])
   · rename_i h
     refine back_i (i+1) ⟨by omega,fun y hy=>?_⟩ (by omega) ?_
     · have:=hst (by simpa using h) y hy
       simpa using this
     · rw [ht,hln]
       exact (ent [0,1,4] false (by simp only [lP,seval,hacc,List.length_map,List.map_append]<;>(try simp)<;>(try omega)) (by simp only [lP,seval,hacc,List.length_map,List.map_append]<;>(try simp)<;>(try omega)))
 · obtain rfl:i=q.subs.length:=by omega
   rw [List.take_length] at hn ⊢
   rw [mapE_ok hn,if_neg (by simp)] at hse
   simp only at hse
   rw [hse]
   have hkl:(q.subs.map fun s=>(s.sch db).1).flatten.length≤2000000:=by
    have:=flat_le (n:=1000000) (l:=q.subs.map fun s=>(s.sch db).1) fun x hx=>by
     obtain ⟨s,hs2,rfl⟩:=List.mem_map.1 hx
     exact sch_len hdb _ (hs _ hs2)
    simp at this ⊢
    omega
   clear hse ih hsn
   have hk0:q.kind=1→(q.subs.map fun s=>(s.sch db).1).flatten=[]:=fun h=>by
    have:q.subs=[]:=List.eq_nil_of_length_eq_zero (by rw [hl,h];rfl)
    rw [this];rfl
   have hlm:q.subs.length=q.subs.length:=rfl
   generalize (q.subs.map fun s=>(s.sch db).1).flatten=ks at *
   have h77:=c77 ks q.cond ho1
   have h78:=c78 ks q.cols ho2
   have h79:=c79 ks q hkl ho3 ho4 ho5
   have h75:ACalls E.P 75 [.view 4 (db.map TB.av),.fn (.func 76) [] [.vp q.cs]] [] (fun r H=>r=.int .i64 (fidx (named q.tab) db)∧H=[]):=c75 db 76 [q.cs] (named q.tab) fun t _=>c76 q t
   have h80:ACalls E.P 80 [.view 2 (q.ord.map OD.av),.fn (.func 81) [] [.vp [.fn (.func 74) [] [.vp [ksV ks]]]]] [] (fun r H=>r=.bool (q.ord.any fun o=>!okOrd ks.length o)∧H=[]):=c80 q.ord 81 [[.fn (.func 74) [] [.vp [ksV ks]]]] _ fun o _=>c81 ks o
   simp only [av_fs,q_av] at h77 h79
   have hk':q.kind=1∨q.kind=2∨q.kind=3∨q.kind=4∨q.kind=5∨q.kind=6∨q.kind=7∨q.kind=8:=by omega
   unfold nodeK
   rcases hk' with hk | hk | hk | hk | hk | hk | hk | hk
   · have hks:=hk0 hk
     subst hks
     unfold scanK
     have hfi:0≤fidx (named q.tab) db→fidx (named q.tab) db<db.length:=fidx_lt
     rw [if_pos hk]
     simp only [QY.cs,hk] at h75
     generalize fidx (named q.tab) db=j at *
     repeat' (first|(with_reducible first|(apply St.o;constructor)<;>intro _|refine And.intro (by omega) ?_|(apply Sq.o;constructor))|((with_reducible apply Sc.o true;constructor);simp only [lP,seval,cellsO_fn,hk,List.length_map,Int.lt_irrefl,Int.reduceEq,decide_false,decide_true];refine ⟨_,h75,?_⟩;rintro _ _ ⟨rfl,rfl⟩;simp only [lA,lP,seval,cellsO_fn,hk,List.length_map,Int.lt_irrefl,Int.reduceEq,decide_false,decide_true])|simp (disch:=omega) only [lE,seval,cellsO_fn,hk,List.length_map,Int.lt_irrefl,Int.reduceEq,decide_false,decide_true])
     · rename_i h
       exact keep_ke (by rw [if_pos h])
     rename_i h
     rw [if_neg h]
     have hj:=hfi (by omega)
     have hcl:=hdb (db.getD j.toNat default) (by simp [show j.toNat<db.length by omega])
     generalize hx:db.getD j.toNat default=t at *
     repeat' (first|(with_reducible first|(apply St.o;constructor)<;>intro _|refine And.intro (by omega) ?_|(apply Sq.o;constructor))|simp (disch:=omega) only [lE,seval,IdxR_tbs,hx,List.length_map])
     refine loop_i (fun i:Nat=>i≤t.cols.length) (fun i=>⟨[(7,.slc 0 1 i),(13,.int .i64 0),(52,.view 3 (t.cols.map CO.av)),(53,.int .i64 t.cols.length),(54,.int .i64 i)],[.arr 3 1 (((t.cols.take i).map CO.kind).map (AV.int .i64))]⟩) (fun i=>t.cols.length - i) 0 (by omega) (ent [2] false (by simp only [lP,seval,List.take_zero,List.map_nil,List.length_nil]<;>(try simp)<;>(try omega)) (by simp only [lP,seval,List.take_zero,List.map_nil,List.length_nil]<;>(try simp)<;>(try omega))) ?_
     intro i hi
     have hlen:(t.cols.take i).length=i:=by simp;omega
     by_cases hin:i<t.cols.length
     · have hlt:((i:Int)<(t.cols.length:Int)):=by omega
       repeat' (first|(with_reducible first|(apply St.o;constructor)<;>intro _|refine And.intro (by omega) ?_|(apply Sq.o;constructor))|simp (disch:=omega) only [lE,seval,IdxR_cos,Int.toNat_natCast,List.length_map,hlt,decide_true,hlen])
       refine back_i (i+1) (by omega) (by omega) ?_
       rw [take_ints hin]
       exact (ent [3] false (by simp only [lP,seval,hlen,List.map_append,List.map_cons,List.map_nil]<;>(try simp)<;>(try omega)) (by simp only [lP,seval,hlen,List.map_append,List.map_cons,List.map_nil]<;>(try simp)<;>(try omega)))
     · obtain rfl:i=t.cols.length:=by omega
       rw [List.take_length]
       repeat' (first|(with_reducible first|(apply St.o;constructor)<;>intro _|refine And.intro (by omega) ?_|(apply Sq.o;constructor))|simp (disch:=omega) only [lE,seval,List.length_map,Int.lt_irrefl,decide_false])
       exact keep_kg rfl rfl (by simp)
   · repeat' (first|(with_reducible first|(apply St.o;constructor)<;>intro _|refine And.intro (by omega) ?_|(apply Sq.o;constructor))|((with_reducible apply Sc.o true;constructor);simp only [lP,seval,cellsO_fn,hk,List.length_map,Int.lt_irrefl,Int.reduceEq,decide_false,decide_true];refine ⟨_,h77,?_⟩;rintro _ _ ⟨rfl,rfl⟩;simp only [lA,lP,seval,cellsO_fn,hk,List.length_map,Int.lt_irrefl,Int.reduceEq,decide_false,decide_true])|simp (disch:=omega) only [lE,seval,cellsO_fn,hk,List.length_map,Int.lt_irrefl,Int.reduceEq,decide_false,decide_true])
     all_goals first | exact keep_kg (id:=2) rfl (by simp [hk, *]) rfl | exact keep_ke (by simp [hk, *])
   · repeat' (first|(with_reducible first|(apply St.o;constructor)<;>intro _|refine And.intro (by omega) ?_|(apply Sq.o;constructor))|simp (disch:=omega) only [lE,seval,cellsO_fn,hk,List.length_map,Int.lt_irrefl,Int.reduceEq,decide_false,decide_true])
     refine callZ_i [] (by simp) (by simp) ?_
     simp only [lP,seval,List.length_map]
     refine ⟨_,h78,?_⟩
     rintro _ _ ⟨rfl,rfl⟩
     have hpe:=projK_err ks q.cols
     generalize projK ks q.cols=k at *
     simp only [lA,lP,seval]
     repeat' (first|(with_reducible first|(apply St.o;constructor)<;>intro _|refine And.intro (by omega) ?_|(apply Sq.o;constructor))|simp (disch:=omega) only [lE,seval])
     all_goals first | exact keep_kv (by ext <;> simp [hk, *]) | exact keep_ke (by ext <;> simp [hk, *])
   · repeat' (first|(with_reducible first|(apply St.o;constructor)<;>intro _|refine And.intro (by omega) ?_|(apply Sq.o;constructor))|((with_reducible apply Sc.o true;constructor);simp only [lP,seval,cellsO_fn,hk,List.length_map,Int.lt_irrefl,Int.reduceEq,decide_false,decide_true];refine ⟨_,h77,?_⟩;rintro _ _ ⟨rfl,rfl⟩;simp only [lA,lP,seval,cellsO_fn,hk,List.length_map,Int.lt_irrefl,Int.reduceEq,decide_false,decide_true])|simp (disch:=omega) only [lE,seval,cellsO_fn,hk,List.length_map,Int.lt_irrefl,Int.reduceEq,decide_false,decide_true])
     all_goals first | exact keep_kg (id:=2) rfl (by simp [hk, *];try omega) rfl | exact keep_ke (by simp [hk, *] <;> omega)
   · repeat' (first|(with_reducible first|(apply St.o;constructor)<;>intro _|refine And.intro (by omega) ?_|(apply Sq.o;constructor))|simp (disch:=omega) only [lE,seval,cellsO_fn,hk,List.length_map,Int.lt_irrefl,Int.reduceEq,decide_false,decide_true])
     refine callZ_i [] (by simp) (by simp) ?_
     simp only [lP,seval,List.length_map]
     simp only [QY.cs,hk] at h79
     refine ⟨_,h79,?_⟩
     rintro _ _ ⟨rfl,rfl⟩
     have hpe:=groupsK_err ks q.grp q.aggs
     generalize groupsK ks q.grp q.aggs=k at *
     simp only [lA,lP,seval]
     repeat' (first|(with_reducible first|(apply St.o;constructor)<;>intro _|refine And.intro (by omega) ?_|(apply Sq.o;constructor))|simp (disch:=omega) only [lE,seval])
     all_goals first | exact keep_kv (by ext <;> simp [hk, *]) | exact keep_ke (by ext <;> simp [hk, *])
   · repeat' (first|(with_reducible first|(apply St.o;constructor)<;>intro _|refine And.intro (by omega) ?_|(apply Sq.o;constructor))|((with_reducible apply Sc.o true;constructor);simp only [lP,seval,cellsO_fn,hk,List.length_map,Int.lt_irrefl,Int.reduceEq,decide_false,decide_true];refine ⟨_,h80,?_⟩;rintro _ _ ⟨rfl,rfl⟩;simp only [lA,lP,seval,cellsO_fn,hk,List.length_map,Int.lt_irrefl,Int.reduceEq,decide_false,decide_true])|simp (disch:=omega) only [lE,seval,cellsO_fn,hk,List.length_map,Int.lt_irrefl,Int.reduceEq,decide_false,decide_true])
     · rename_i h1 h2
       exact keep_ke (by rw [if_pos (.inr h2)])
     · rename_i h1 h2
       exact keep_kg (id:=2) rfl (by rw [if_neg (fun h=>h.elim (by omega) (by rw [h2];simp))]) rfl
     · rename_i h1
       exact keep_ke (by rw [if_pos (.inl (by omega))])
   · repeat' (first|(with_reducible first|(apply St.o;constructor)<;>intro _|refine And.intro (by omega) ?_|(apply Sq.o;constructor))|simp (disch:=omega) only [lE,seval,cellsO_fn,hk,List.length_map,Int.lt_irrefl,Int.reduceEq,decide_false,decide_true])
     all_goals first | exact keep_kg (id:=2) rfl (by simp [hk, *]) rfl | exact keep_ke (by simp [hk, *])
   · repeat' (first|(with_reducible first|(apply St.o;constructor)<;>intro _|refine And.intro (by omega) ?_|(apply Sq.o;constructor))|simp (disch:=omega) only [lE,seval,cellsO_fn,hk,List.length_map,Int.lt_irrefl,Int.reduceEq,decide_false,decide_true])
     all_goals exact keep_kg (Q:=(ks,0)) (id:=2) rfl rfl rfl
theorem sub_mem {q:QY} {i:Nat} (hi:i<q.subs.length):q.subs.getD i default ∈ q.subs:=by simp [hi]
theorem c45 (db:List TB) (hdb:∀ t ∈ db,t.cols.length≤1000000) (q:QY):q.formed=true→q.ok→ACalls E.P 45 [.view 4 (db.map TB.av),q.av] [] (fun r H=>r=.tup [ksV (q.sch db).1,.int .i64 (q.sch db).2]∧H=[]) :=
 q_ind (p:=fun q=>q.formed=true→q.ok→ACalls E.P 45 [.view 4 (db.map TB.av),q.av] [] (fun r H=>r=.tup [ksV (q.sch db).1,.int .i64 (q.sch db).2]∧H=[])) (fun q ih hf hk =>
  c45n db q hdb hf hk fun i hi=>ih i hi ((formed_node hf).2 _ (sub_mem hi)) (((ok_eq q).1 hk).2.2.2.2.2 _ (sub_mem hi))) q
noncomputable def schema (db:List TB) (q:QY):List Int × Int:=if 40<IntKind.i64.wrap q.count then ([],2) else if q.formed=true then q.sch db else ([],3)
theorem c18 (db:List TB) (hdb:∀ t ∈ db,t.cols.length≤1000000) (q:QY) (hk:q.ok):ACalls E.P 18 [.view 4 (db.map TB.av),q.av] [] (fun r H=>r=.tup [ksV (schema db q).1,.int .i64 (schema db q).2]∧H=[]):=by
 have h26:=c26 q
 have h44:=c44 q
 have h45:=c45 db hdb q
 simp only [q_av] at h26 h44 h45
 unfold schema
 generalize IntKind.i64.wrap (q.count:Int)=n at *
 refine ok18.acalls hE hm (by simp) fun N hN=>?_
 unfold mc18 q18_0 pK pI pR pV pN pM pW pX oY
 simp only [lA,seval,q_av]
 repeat' (first|(with_reducible first|(apply St.o;constructor)<;>intro _|refine And.intro (by omega) ?_|(apply Sq.o;constructor))|((with_reducible apply Sc.o true;constructor);simp only [lP,seval];(first|refine ⟨_,h26,?_⟩|refine ⟨_,h44,?_⟩);rintro _ _ ⟨rfl,rfl⟩;simp only [lA,lP,seval])|simp (disch:=omega) only [lE,seval])
 · rename_i h
   exact keep_ke (by rw [if_pos h])
 · rename_i h1 h2
   have h2:¬ q.formed=true:=by simpa using h2
   exact keep_ke (by rw [if_neg h1,if_neg h2])
 · rename_i h1 h2
   have h2:q.formed=true:=by simpa using h2
   have h45:=h45 h2 hk
   rw [if_neg h1,if_pos h2]
   repeat' (first|(with_reducible first|(apply St.o;constructor)<;>intro _|refine And.intro (by omega) ?_|(apply Sq.o;constructor))|((with_reducible apply Sc.o false;constructor);simp only [lP,seval];refine ⟨_,h45,?_⟩;rintro _ _ ⟨rfl,rfl⟩;simp only [lA,lP,seval])|simp (disch:=omega) only [lE,seval])
   exact keep_kv rfl
end Go.Proofs.Try
