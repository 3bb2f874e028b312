/-
 A part of the proof: see the text of the law.
-/
import Derived.Test.YtchlampphcaomaaGreatDoorEah
set_option linter.unusedSimpArgs false
set_option linter.unusedVariables false
namespace Go.Proofs.Try
open Go.Proofs.Tryz
open Go.Al
set_option maxRecDepth 100000
abbrev q18_0:MI:=.v (.mov 4 (.c (.raw (.slice none 0 0))))
def mc18:MC:=(.seq (.ops [(none,.e (.box 3 (.t 1))),(none,q18_0),(none,.v (.mov 5 (.c (.int .i64 0))))]) (.seq (.seq (.ops [(none,.v (.load 6 true 14 (.t 3))),(none,.e (.call (some 7) 26 [.t 6])),(none,.v (.bin 8 .gtr false (.t 7) (.c (.int .i64 40))))]) (.cond 8 (.seq (.ops [(none,q18_0),(none,.v (.mov 5 (.c (.int .i64 2))))]) .ret) .skip)) (.seq (.seq (.ops [(none,.v (.load 9 true 14 (.t 3))),(none,.e (.call (some 10) 44 [.t 9])),(none,.v (.not 11 (.t 10)))]) (.cond 11 (.seq (.ops [(none,q18_0),(none,.v (.mov 5 (.c (.int .i64 3))))]) .ret) .skip)) (.seq (.ops [(none,.v (.mov 12 (.t 0))),(none,.v (.load 13 true 14 (.t 3))),(none,.e (.call (some 14) 45 [.t 12,.t 13])),(none,.v (.ext 15 0 (.t 14))),(none,.v (.ext 16 1 (.t 14))),(none,.v (.mov 4 (.t 15))),(none,.v (.mov 5 (.t 16)))]) .ret))))
theorem ok18:FnOk E 18 17 [.tmp 4,.tmp 5] mc18:=ofk func18
abbrev q45_0:MI:=.v (.mov 4 (.c (.raw (.slice none 0 0))))
def mc45:MC:=(.seq (.ops [(none,.e (.box 3 (.t 1))),(none,q45_0),(none,.v (.mov 5 (.c (.int .i64 0))))]) (.seq (.ops [(none,.e (.alloc 6 [.raw (.slice none 0 0)])),(none,.v (.mov 7 (.c (.raw (.slice none 0 0)))))]) (.seq (.seq (.ops [(none,.v (.fld 17 2 (.t 3))),(none,.v (.load 18 false 1 (.t 17))),(none,.p (.len 19 (.t 18))),(none,.v (.mov 20 (.c (.int .i64 0))))]) (.block 0 (.loop (.seq (.ops [(none,.v (.bin 21 .lss false (.t 20) (.t 19)))]) (.seq (.cond 21 .skip (.exit 0)) (.seq (.block 1 (.seq (.ops [(none,.p (.idx 22 14 (.t 18) (.t 20))),(none,.v (.load 23 true 14 (.t 22))),(none,.e (.alloc 9 z0)),(none,.e (.store 14 true (.t 9) (.t 23)))]) (.seq (.ops [(none,.v (.mov 25 (.t 0))),(none,.v (.load 26 true 14 (.t 9))),(none,.e (.call (some 27) 45 [.t 25,.t 26])),(none,.v (.mov 24 (.t 27))),(none,.v (.ext 28 0 (.t 24))),(none,.v (.ext 29 1 (.t 24))),(none,.v (.mov 10 (.t 28))),(none,.v (.mov 11 (.t 29)))]) (.seq (.seq (.ops [(none,.v (.mov 30 (.t 11))),(none,.v (.bin 31 .neq false (.t 30) (.c (.int .i64 0))))]) (.cond 31 (.seq (.ops [(none,.v (.mov 32 (.t 11))),(none,q45_0),(none,.v (.mov 5 (.t 32)))]) .ret) .skip)) (.ops [(none,.v (.load 33 false 1 (.t 6))),(none,.v (.mov 34 (.t 10))),(none,.e (.app 35 3 1 8 (.t 33) (.t 34))),(none,.e (.store 1 false (.t 6) (.t 35)))]))))) (.ops [(none,.v (.bin 36 .add false (.t 20) (.c (.int .i64 1)))),(none,.v (.mov 20 (.t 36)))]))))))) (.seq (.ops [(none,.v (.fn 37 (.func 74) [] [.t 6])),(none,.e (.alloc 12 [.raw .nilFunc])),(none,.e (.store 1 false (.t 12) (.t 37)))]) (.seq (.ops [(none,.v (.mov 13 (.c (.int .i64 0))))]) (.seq (.ops [(none,.v (.load 38 false 1 (.t 6))),(none,.v (.mov 7 (.t 38)))]) (.seq (.seq (.ops [(none,.v (.fld 39 0 (.t 3))),(none,.v (.load 40 false 1 (.t 39)))]) (.block 2 (.seq (.ops [(none,.v (.bin 42 .eql false (.t 40) (.c (.int .i64 1)))),(none,.v (.mov 41 (.t 42)))]) (.cond 41 (.seq (.ops [(none,.v (.mov 43 (.t 0))),(none,.v (.fn 44 (.func 76) [] [.t 3])),(none,.e (.call (some 45) 75 [.t 43,.t 44])),(none,.v (.mov 14 (.t 45)))]) (.seq (.seq (.ops [(none,.v (.mov 46 (.t 14))),(none,.v (.bin 47 .lss false (.t 46) (.c (.int .i64 0))))]) (.cond 47 (.seq (.ops [(none,q45_0),(none,.v (.mov 5 (.c (.int .i64 5))))]) .ret) .skip)) (.seq (.ops [(none,.v (.mov 48 (.t 0))),(none,.v (.mov 49 (.t 14))),(none,.p (.idx 50 4 (.t 48) (.t 49))),(none,.v (.fld 51 1 (.t 50))),(none,.v (.load 52 false 1 (.t 51))),(none,.p (.len 53 (.t 52))),(none,.v (.mov 54 (.c (.int .i64 0))))]) (.block 3 (.loop (.seq (.ops [(none,.v (.bin 55 .lss false (.t 54) (.t 53)))]) (.seq (.cond 55 .skip (.exit 3)) (.seq (.block 4 (.seq (.ops [(none,.p (.idx 56 3 (.t 52) (.t 54))),(none,.v (.load 57 true 3 (.t 56))),(none,.e (.alloc 16 [.str ⟨#[]⟩,.int .i64 0,.bool false])),(none,.e (.store 3 true (.t 16) (.t 57)))]) (.ops [(none,.v (.mov 58 (.t 7))),(none,.v (.fld 59 1 (.t 16))),(none,.v (.load 60 false 1 (.t 59))),(none,.e (.mkl 61 3 1 1 (.int .i64 0) [(0,.t 60)])),(none,.e (.app 62 3 1 8 (.t 58) (.t 61))),(none,.v (.mov 7 (.t 62)))]))) (.ops [(none,.v (.bin 63 .add false (.t 54) (.c (.int .i64 1)))),(none,.v (.mov 54 (.t 63)))]))))))))) (.seq (.ops [(none,.v (.bin 65 .eql false (.t 40) (.c (.int .i64 2)))),(none,.v (.mov 64 (.t 65)))]) (.cond 64 (.ops [(none,.v (.load 66 false 1 (.t 6))),(none,.v (.fld 67 3 (.t 3))),(none,.v (.load 68 true 6 (.t 67))),(none,.e (.call (some 69) 77 [.t 66,.t 68])),(none,.v (.mov 13 (.t 69)))]) (.seq (.ops [(none,.v (.bin 71 .eql false (.t 40) (.c (.int .i64 4)))),(none,.v (.mov 70 (.t 71)))]) (.cond 70 (.seq (.ops [(none,.v (.mov 13 (.c (.int .i64 2))))]) (.seq (.ops [(none,.v (.load 72 false 1 (.t 6))),(none,.p (.len 73 (.t 72))),(none,.v (.bin 74 .leq false (.t 73) (.c (.int .i64 32))))]) (.cond 74 (.ops [(none,.v (.load 75 false 1 (.t 6))),(none,.v (.fld 76 3 (.t 3))),(none,.v (.load 77 true 6 (.t 76))),(none,.e (.call (some 78) 77 [.t 75,.t 77])),(none,.v (.mov 13 (.t 78)))]) .skip))) (.seq (.ops [(none,.v (.bin 80 .eql false (.t 40) (.c (.int .i64 3)))),(none,.v (.mov 79 (.t 80)))]) (.cond 79 (.ops [(none,.v (.load 82 false 1 (.t 6))),(none,.v (.fld 83 9 (.t 3))),(none,.v (.load 84 false 1 (.t 83))),(none,.e (.call (some 85) 78 [.t 82,.t 84])),(none,.v (.mov 81 (.t 85))),(none,.v (.ext 86 0 (.t 81))),(none,.v (.ext 87 1 (.t 81))),(none,.v (.mov 7 (.t 86))),(none,.v (.mov 13 (.t 87)))]) (.seq (.ops [(none,.v (.bin 89 .eql false (.t 40) (.c (.int .i64 5)))),(none,.v (.mov 88 (.t 89)))]) (.cond 88 (.ops [(none,.v (.load 91 false 1 (.t 6))),(none,.v (.load 92 true 14 (.t 3))),(none,.e (.call (some 93) 79 [.t 91,.t 92])),(none,.v (.mov 90 (.t 93))),(none,.v (.ext 94 0 (.t 90))),(none,.v (.ext 95 1 (.t 90))),(none,.v (.mov 7 (.t 94))),(none,.v (.mov 13 (.t 95)))]) (.seq (.ops [(none,.v (.bin 97 .eql false (.t 40) (.c (.int .i64 6)))),(none,.v (.mov 96 (.t 97)))]) (.cond 96 (.seq (.ops [(none,.v (.fld 98 12 (.t 3))),(none,.v (.load 99 false 1 (.t 98))),(none,.p (.len 100 (.t 99))),(none,.v (.bin 101 .eql false (.t 100) (.c (.int .i64 0)))),(none,.v (.mov 102 (.t 101))),(some (102,false),.v (.fld 103 12 (.t 3))),(some (102,false),.v (.load 104 false 1 (.t 103))),(some (102,false),.v (.fn 105 (.func 81) [] [.t 12])),(some (102,false),.e (.call (some 106) 80 [.t 104,.t 105])),(none,.v (.pick 107 (.t 102) (.c (.bool true)) (.t 106)))]) (.cond 107 (.ops [(none,.v (.mov 13 (.c (.int .i64 1))))]) .skip)) (.seq (.ops [(none,.v (.bin 109 .eql false (.t 40) (.c (.int .i64 7)))),(none,.v (.mov 108 (.t 109)))]) (.cond 108 (.seq (.ops [(none,.v (.fld 110 13 (.t 3))),(none,.v (.load 111 false 1 (.t 110))),(none,.v (.bin 112 .lss false (.t 111) (.c (.int .i64 0))))]) (.cond 112 (.ops [(none,.v (.mov 13 (.c (.int .i64 1))))]) .skip)) .skip)))))))))))))))) (.seq (.seq (.ops [(none,.v (.mov 113 (.t 13))),(none,.v (.bin 114 .neq false (.t 113) (.c (.int .i64 0))))]) (.cond 114 (.seq (.ops [(none,.v (.mov 115 (.t 13))),(none,q45_0),(none,.v (.mov 5 (.t 115)))]) .ret) .skip)) (.seq (.ops [(none,.v (.mov 116 (.t 7))),(none,.v (.mov 4 (.t 116))),(none,.v (.mov 5 (.c (.int .i64 0))))]) .ret)))))))))
theorem ok45:FnOk E 45 117 [.tmp 4,.tmp 5] mc45:=ofk func45
end Go.Proofs.Try
namespace Go.Proofs.Try
open Go.Proofs.Tryz
open Go.Al
set_option linter.unusedVariables false
set_option linter.unusedSimpArgs false
set_option maxRecDepth 20000
set_option maxHeartbeats 16000000

theorem keep_kg {id:Nat} {H:List AObj} {l:List Int} {n:Nat} {Q:List Int × Int} (hH:H[id]?=some (.arr 3 1 (l.map (AV.int .i64)))) (h:Q=(l,0)) (hn:n=l.length):keepQ 0 (fun r H=>r=.tup [ksV Q.1,.int .i64 Q.2]∧H=[]) (.tup [.slc id 1 n,.int .i64 0]) H:=by
 subst h hn
 refine keep_i [] true (by simp) (by simp) rfl ?_
 simp only [lP,seval,hH,List.length_map]
theorem keep_kv {H:List AObj} {l:List Int} {k:Int} {Q:List Int × Int} (h:Q=(l,k)):keepQ 0 (fun r H=>r=.tup [ksV Q.1,.int .i64 Q.2]∧H=[]) (.tup [ksV l,.int .i64 k]) H:=by
 subst h
 refine keep_i [] true (by simp) (by simp) rfl ?_
 simp only [lP,seval]
theorem flat_take {α:Type} [Inhabited α] {f:α→List Int} {l:List α} {i:Nat} (h:i<l.length):(((l.take (i+1)).map f).flatten).map (AV.int .i64)=(((l.take i).map f).flatten).map (AV.int .i64)++(f (l.getD i default)).map (AV.int .i64):=by
 have hg:l.getD i default=l[i]:=by simp [h]
 rw [List.take_succ_eq_append_getElem h,hg]
 simp only [List.map_append,List.flatten_append,List.map_cons,List.map_nil,List.flatten_cons,List.flatten_nil,List.append_nil]
theorem fidx_lt {α:Type} {p:α→Bool} {l:List α} (h:0≤fidx p l):fidx p l<l.length:=by
 unfold fidx at *
 split at h
 · rename_i i hi
   have:=(List.findIdx?_eq_some_iff_getElem.1 hi).1
   omega
 · omega
theorem projK_err (ks:List Int) (l:List EX) (h:(projK ks l).2≠0):(projK ks l).1=[]:=by
 unfold projK at *
 split
 · rfl
 split
 · rfl
 rename_i h1 h2
 rw [if_neg h1,if_neg h2] at h
 rcases mapE_cases (f:=chk ks) l with h3 | h3
 · exact absurd h3.1 h
 · exact h3.1
theorem groupsK_err (ks g:List Int) (a:List AG) (h:(groupsK ks g a).2≠0):(groupsK ks g a).1=[]:=by
 unfold groupsK at *
 split
 · rfl
 split
 · rfl
 split
 · rfl
 rename_i h1 h2 h3
 rw [if_neg h1,if_neg h2,if_neg h3] at h
 simp at h
theorem c45n (db:List TB) (q:QY) (hdb:∀ t ∈ db,t.cols.length≤1000000) (hf:q.formed=true) (hok:q.ok)
 (ih:∀ i,i<q.subs.length→ACalls E.P 45 [.view 4 (db.map TB.av),(q.subs.getD i default).av] [] (fun r H=>r=.tup [ksV ((q.subs.getD i default).sch db).1,.int .i64 ((q.subs.getD i default).sch db).2]∧H=[])) :
 ACalls E.P 45 [.view 4 (db.map TB.av),q.av] [] (fun r H=>r=.tup [ksV (q.sch db).1,.int .i64 (q.sch db).2]∧H=[]):=by
 have hmax:=maxLen_eq
 obtain ⟨hn,hs⟩:=formed_node hf
 obtain ⟨hk1,hk8,hb,hl,_⟩:=node_iff.1 hn
 obtain ⟨ho1,ho2,ho3,ho4,ho5,ho6⟩:=(ok_eq q).1 hok
 have hsl:q.subs.length≤2:=by rw [hl];unfold subsN;split;omega;split <;> omega
 have hsn:∀ i,i<q.subs.length→((q.subs.getD i default).sch db).1.length≤1000000:=fun i hi=>sch_len hdb _ (by simpa [hi] using hs _ (List.getElem_mem hi))
 have hse:=sch_eq db q
 refine ok45.acalls hE hm (by simp) fun N hN=>?_
 unfold mc45 q45_0 z0
 simp only [lA,ptrCells,ptrAdd,isNil,seval,q_av]
 repeat' (first | (with_reducible apply St.o;constructor) <;> intro _ | (with_reducible first | refine And.intro (by omega) ?_ | (apply Sq.o;constructor)) | simp (maxSteps:=1000000) (disch:=omega) only [lE,ptrCells,ptrAdd,isNil,seval,List.length_map])
 refine loop_i (fun i:Nat=>i≤q.subs.length∧∀ x ∈ q.subs.take i,(x.sch db).2=0) (fun i=>⟨[(0,.view 4 (db.map TB.av)),(3,.op 0 0),(6,.op 1 0),(18,.view 14 (q.subs.map QY.av)),(19,.int .i64 q.subs.length),(20,.int .i64 i)],[.box q.cs,.box [.slc 2 1 ((q.subs.take i).map fun s=>(s.sch db).1).flatten.length],.arr 3 1 (((q.subs.take i).map fun s=>(s.sch db).1).flatten.map (AV.int .i64))]⟩) (fun i=>q.subs.length - i) 0 ⟨by omega,by simp⟩ (Ent.trans (Ent.ghostB 1 0 3 1 (by omega) rfl rfl) (Ent.to [0,1,2] false (by simp) (by simp) rfl (by simp only [lP,seval,List.take_zero,List.map_nil,List.flatten_nil,List.length_nil] <;> (try simp) <;> (try omega)) (by simp only [lP,seval,List.take_zero,List.map_nil,List.flatten_nil,List.length_nil] <;> (try simp) <;> (try omega)))) ?_
 rintro i ⟨hi,hn⟩
 by_cases hin:i<q.subs.length
 · have hlt:((i:Int)<(q.subs.length:Int)):=by omega
   have h45:=ih i hin
   have hsn:=hsn i hin
   have he:=mapE_err (f:=QY.sch db) hin hn
   have hst:=all_step (p:=fun x=>decide ((QY.sch db x).2≠0)) hin (fun x hx=>by simp [hn x hx])
   have ht:=flat_take (f:=fun s=>(QY.sch db s).1) hin
   have hlb:((q.subs.take i).map fun s=>(s.sch db).1).flatten.length≤2000000:=by
    have:=flat_le (n:=1000000) (l:=(q.subs.take i).map fun s=>(s.sch db).1) fun x hx=>by
     obtain ⟨s,hs2,rfl⟩:=List.mem_map.1 hx
     exact sch_len hdb _ (hs _ (List.mem_of_mem_take hs2))
    simp at this ⊢
    omega
   have hln:((q.subs.take (i+1)).map fun s=>(s.sch db).1).flatten.length=((q.subs.take i).map fun s=>(s.sch db).1).flatten.length+((q.subs.getD i default).sch db).1.length:=by
    have:=congrArg List.length ht
    simp only [List.length_map,List.length_append] at this
    exact this
   simp only [q_av] at h45
   generalize hx:q.subs.getD i default=x at *
   generalize hacc:((q.subs.take i).map fun s=>(s.sch db).1).flatten=acc at *
   repeat' (first | (with_reducible apply St.o;constructor) <;> intro _ | (with_reducible first | refine And.intro (by omega) ?_ | (apply Sq.o;constructor)) | ((with_reducible apply Sc.o false;constructor);simp only [lP,seval,IdxR_qs,hx,Int.toNat_natCast,List.length_map,hlt,decide_true];refine ⟨_,h45,?_⟩;rintro _ _ ⟨rfl,rfl⟩;simp only [lA,lP,ptrCells,ptrAdd,isNil,seval,IdxR_qs,hx,Int.toNat_natCast,List.length_map,hlt,decide_true]) | simp (maxSteps:=1000000) (disch:=omega) only [lE,ptrCells,ptrAdd,isNil,seval,IdxR_qs,hx,Int.toNat_natCast,List.length_map,hlt,decide_true])
   · rename_i h
     rw [hse,he h]
     exact keep_ke (by rw [if_pos h])
   · rename_i h
     refine back_i (i+1) ⟨by omega,fun y hy=>?_⟩ (by omega) ?_
     · have:=hst (by simpa using h) y hy
       simpa using this
     · rw [ht,hln]
       exact (Ent.to [0,1,4] false (by simp) (by simp) rfl (by simp only [lP,seval,hacc,List.length_map,List.map_append] <;> (try simp) <;> (try omega)) (by simp only [lP,seval,hacc,List.length_map,List.map_append] <;> (try simp) <;> (try omega)))
 · obtain rfl:i=q.subs.length:=by omega
   rw [List.take_length] at hn ⊢
   rw [mapE_ok hn,if_neg (by simp)] at hse
   simp only at hse
   rw [hse]
   have hkl:(q.subs.map fun s=>(s.sch db).1).flatten.length≤2000000:=by
    have:=flat_le (n:=1000000) (l:=q.subs.map fun s=>(s.sch db).1) fun x hx=>by
     obtain ⟨s,hs2,rfl⟩:=List.mem_map.1 hx
     exact sch_len hdb _ (hs _ hs2)
    simp at this ⊢
    omega
   clear hse ih hsn
   have hk0:q.kind=1→(q.subs.map fun s=>(s.sch db).1).flatten=[]:=fun h=>by
    have:q.subs=[]:=List.eq_nil_of_length_eq_zero (by rw [hl,h];rfl)
    rw [this];rfl
   have hlm:q.subs.length=q.subs.length:=rfl
   generalize (q.subs.map fun s=>(s.sch db).1).flatten=ks at *
   have h77:=c77 ks q.cond ho1
   have h78:=c78 ks q.cols ho2
   have h79:=c79 ks q hkl ho3 ho4 ho5
   have h75:ACalls E.P 75 [.view 4 (db.map TB.av),.fn (.func 76) [] [.vp q.cs]] [] (fun r H=>r=.int .i64 (fidx (named q.tab) db)∧H=[]):=c75 db 76 [q.cs] (named q.tab) fun t _=>c76 q t
   have h80:ACalls E.P 80 [.view 2 (q.ord.map OD.av),.fn (.func 81) [] [.vp [.fn (.func 74) [] [.vp [ksV ks]]]]] [] (fun r H=>r=.bool (q.ord.any fun o=>!okOrd ks.length o)∧H=[]):=c80 q.ord 81 [[.fn (.func 74) [] [.vp [ksV ks]]]] _ fun o _=>c81 ks o
   simp only [av_fs,q_av] at h77 h79
   have hk':q.kind=1∨q.kind=2∨q.kind=3∨q.kind=4∨q.kind=5∨q.kind=6∨q.kind=7∨q.kind=8:=by omega
   unfold nodeK
   rcases hk' with hk | hk | hk | hk | hk | hk | hk | hk
   · have hks:=hk0 hk
     subst hks
     unfold scanK
     have hfi:0≤fidx (named q.tab) db→fidx (named q.tab) db<db.length:=fidx_lt
     rw [if_pos hk]
     simp only [QY.cs,hk] at h75
     generalize fidx (named q.tab) db=j at *
     repeat' (first | (with_reducible apply St.o;constructor) <;> intro _ | (with_reducible first | refine And.intro (by omega) ?_ | (apply Sq.o;constructor)) | ((with_reducible apply Sc.o true;constructor);simp only [lP,seval,cellsO_fn,hk,List.length_map,Int.lt_irrefl,Int.reduceEq,decide_false,decide_true];refine ⟨_,h75,?_⟩;rintro _ _ ⟨rfl,rfl⟩;simp only [lA,lP,ptrCells,ptrAdd,isNil,seval,cellsO_fn,hk,List.length_map,Int.lt_irrefl,Int.reduceEq,decide_false,decide_true]) | simp (maxSteps:=1000000) (disch:=omega) only [lE,ptrCells,ptrAdd,isNil,seval,cellsO_fn,hk,List.length_map,Int.lt_irrefl,Int.reduceEq,decide_false,decide_true])
     · rename_i h
       exact keep_ke (by rw [if_pos h])
     rename_i h
     rw [if_neg h]
     have hj:=hfi (by omega)
     have hcl:=hdb (db.getD j.toNat default) (by simp [show j.toNat<db.length by omega])
     generalize hx:db.getD j.toNat default=t at *
     repeat' (first | (with_reducible apply St.o;constructor) <;> intro _ | (with_reducible first | refine And.intro (by omega) ?_ | (apply Sq.o;constructor)) | simp (maxSteps:=1000000) (disch:=omega) only [lE,ptrCells,ptrAdd,isNil,seval,IdxR_tbs,hx,List.length_map])
     refine loop_i (fun i:Nat=>i≤t.cols.length) (fun i=>⟨[(7,.slc 0 1 i),(13,.int .i64 0),(52,.view 3 (t.cols.map CO.av)),(53,.int .i64 t.cols.length),(54,.int .i64 i)],[.arr 3 1 (((t.cols.take i).map CO.kind).map (AV.int .i64))]⟩) (fun i=>t.cols.length - i) 0 (by omega) (Ent.to [2] false (by simp) (by simp) rfl (by simp only [lP,seval,List.take_zero,List.map_nil,List.length_nil] <;> (try simp) <;> (try omega)) (by simp only [lP,seval,List.take_zero,List.map_nil,List.length_nil] <;> (try simp) <;> (try omega))) ?_
     intro i hi
     have hlen:(t.cols.take i).length=i:=by simp;omega
     by_cases hin:i<t.cols.length
     · have hlt:((i:Int)<(t.cols.length:Int)):=by omega
       repeat' (first | (with_reducible apply St.o;constructor) <;> intro _ | (with_reducible first | refine And.intro (by omega) ?_ | (apply Sq.o;constructor)) | simp (maxSteps:=1000000) (disch:=omega) only [lE,ptrCells,ptrAdd,isNil,seval,IdxR_cos,Int.toNat_natCast,List.length_map,hlt,decide_true,hlen])
       refine back_i (i+1) (by omega) (by omega) ?_
       rw [take_ints hin]
       exact (Ent.to [3] false (by simp) (by simp) rfl (by simp only [lP,seval,hlen,List.map_append,List.map_cons,List.map_nil] <;> (try simp) <;> (try omega)) (by simp only [lP,seval,hlen,List.map_append,List.map_cons,List.map_nil] <;> (try simp) <;> (try omega)))
     · obtain rfl:i=t.cols.length:=by omega
       rw [List.take_length]
       repeat' (first | (with_reducible apply St.o;constructor) <;> intro _ | (with_reducible first | refine And.intro (by omega) ?_ | (apply Sq.o;constructor)) | simp (maxSteps:=1000000) (disch:=omega) only [lE,ptrCells,ptrAdd,isNil,seval,List.length_map,Int.lt_irrefl,decide_false])
       exact keep_kg rfl rfl (by simp)
   · repeat' (first | (with_reducible apply St.o;constructor) <;> intro _ | (with_reducible first | refine And.intro (by omega) ?_ | (apply Sq.o;constructor)) | ((with_reducible apply Sc.o true;constructor);simp only [lP,seval,cellsO_fn,hk,List.length_map,Int.lt_irrefl,Int.reduceEq,decide_false,decide_true];refine ⟨_,h77,?_⟩;rintro _ _ ⟨rfl,rfl⟩;simp only [lA,lP,ptrCells,ptrAdd,isNil,seval,cellsO_fn,hk,List.length_map,Int.lt_irrefl,Int.reduceEq,decide_false,decide_true]) | simp (maxSteps:=1000000) (disch:=omega) only [lE,ptrCells,ptrAdd,isNil,seval,cellsO_fn,hk,List.length_map,Int.lt_irrefl,Int.reduceEq,decide_false,decide_true])
     all_goals first | exact keep_kg (id:=2) rfl (by simp [hk, *]) rfl | exact keep_ke (by simp [hk, *])
   · repeat' (first | (with_reducible apply St.o;constructor) <;> intro _ | (with_reducible first | refine And.intro (by omega) ?_ | (apply Sq.o;constructor)) | simp (maxSteps:=1000000) (disch:=omega) only [lE,ptrCells,ptrAdd,isNil,seval,cellsO_fn,hk,List.length_map,Int.lt_irrefl,Int.reduceEq,decide_false,decide_true])
     refine callZ_i [] (by simp) (by simp) ?_
     simp only [lP,seval,List.length_map]
     refine ⟨_,h78,?_⟩
     rintro _ _ ⟨rfl,rfl⟩
     have hpe:=projK_err ks q.cols
     generalize projK ks q.cols=k at *
     simp only [lA,lP,ptrCells,ptrAdd,isNil,seval]
     repeat' (first | (with_reducible apply St.o;constructor) <;> intro _ | (with_reducible first | refine And.intro (by omega) ?_ | (apply Sq.o;constructor)) | simp (maxSteps:=1000000) (disch:=omega) only [lE,ptrCells,ptrAdd,isNil,seval])
     all_goals first | exact keep_kv (by ext <;> simp [hk, *]) | exact keep_ke (by ext <;> simp [hk, *])
   · repeat' (first | (with_reducible apply St.o;constructor) <;> intro _ | (with_reducible first | refine And.intro (by omega) ?_ | (apply Sq.o;constructor)) | ((with_reducible apply Sc.o true;constructor);simp only [lP,seval,cellsO_fn,hk,List.length_map,Int.lt_irrefl,Int.reduceEq,decide_false,decide_true];refine ⟨_,h77,?_⟩;rintro _ _ ⟨rfl,rfl⟩;simp only [lA,lP,ptrCells,ptrAdd,isNil,seval,cellsO_fn,hk,List.length_map,Int.lt_irrefl,Int.reduceEq,decide_false,decide_true]) | simp (maxSteps:=1000000) (disch:=omega) only [lE,ptrCells,ptrAdd,isNil,seval,cellsO_fn,hk,List.length_map,Int.lt_irrefl,Int.reduceEq,decide_false,decide_true])
     all_goals first | exact keep_kg (id:=2) rfl (by simp [hk, *];try omega) rfl | exact keep_ke (by simp [hk, *] <;> omega)
   · repeat' (first | (with_reducible apply St.o;constructor) <;> intro _ | (with_reducible first | refine And.intro (by omega) ?_ | (apply Sq.o;constructor)) | simp (maxSteps:=1000000) (disch:=omega) only [lE,ptrCells,ptrAdd,isNil,seval,cellsO_fn,hk,List.length_map,Int.lt_irrefl,Int.reduceEq,decide_false,decide_true])
     refine callZ_i [] (by simp) (by simp) ?_
     simp only [lP,seval,List.length_map]
     simp only [QY.cs,hk] at h79
     refine ⟨_,h79,?_⟩
     rintro _ _ ⟨rfl,rfl⟩
     have hpe:=groupsK_err ks q.grp q.aggs
     generalize groupsK ks q.grp q.aggs=k at *
     simp only [lA,lP,ptrCells,ptrAdd,isNil,seval]
     repeat' (first | (with_reducible apply St.o;constructor) <;> intro _ | (with_reducible first | refine And.intro (by omega) ?_ | (apply Sq.o;constructor)) | simp (maxSteps:=1000000) (disch:=omega) only [lE,ptrCells,ptrAdd,isNil,seval])
     all_goals first | exact keep_kv (by ext <;> simp [hk, *]) | exact keep_ke (by ext <;> simp [hk, *])
   · repeat' (first | (with_reducible apply St.o;constructor) <;> intro _ | (with_reducible first | refine And.intro (by omega) ?_ | (apply Sq.o;constructor)) | ((with_reducible apply Sc.o true;constructor);simp only [lP,seval,cellsO_fn,hk,List.length_map,Int.lt_irrefl,Int.reduceEq,decide_false,decide_true];refine ⟨_,h80,?_⟩;rintro _ _ ⟨rfl,rfl⟩;simp only [lA,lP,ptrCells,ptrAdd,isNil,seval,cellsO_fn,hk,List.length_map,Int.lt_irrefl,Int.reduceEq,decide_false,decide_true]) | simp (maxSteps:=1000000) (disch:=omega) only [lE,ptrCells,ptrAdd,isNil,seval,cellsO_fn,hk,List.length_map,Int.lt_irrefl,Int.reduceEq,decide_false,decide_true])
     · rename_i h1 h2
       exact keep_ke (by rw [if_pos (.inr h2)])
     · rename_i h1 h2
       exact keep_kg (id:=2) rfl (by rw [if_neg (fun h=>h.elim (by omega) (by rw [h2];simp))]) rfl
     · rename_i h1
       exact keep_ke (by rw [if_pos (.inl (by omega))])
   · repeat' (first | (with_reducible apply St.o;constructor) <;> intro _ | (with_reducible first | refine And.intro (by omega) ?_ | (apply Sq.o;constructor)) | simp (maxSteps:=1000000) (disch:=omega) only [lE,ptrCells,ptrAdd,isNil,seval,cellsO_fn,hk,List.length_map,Int.lt_irrefl,Int.reduceEq,decide_false,decide_true])
     all_goals first | exact keep_kg (id:=2) rfl (by simp [hk, *]) rfl | exact keep_ke (by simp [hk, *])
   · repeat' (first | (with_reducible apply St.o;constructor) <;> intro _ | (with_reducible first | refine And.intro (by omega) ?_ | (apply Sq.o;constructor)) | simp (maxSteps:=1000000) (disch:=omega) only [lE,ptrCells,ptrAdd,isNil,seval,cellsO_fn,hk,List.length_map,Int.lt_irrefl,Int.reduceEq,decide_false,decide_true])
     all_goals exact keep_kg (Q:=(ks,0)) (id:=2) rfl rfl rfl
theorem sub_mem {q:QY} {i:Nat} (hi:i<q.subs.length):q.subs.getD i default ∈ q.subs:=by simp [hi]
theorem c45 (db:List TB) (hdb:∀ t ∈ db,t.cols.length≤1000000) (q:QY):q.formed=true→q.ok→ACalls E.P 45 [.view 4 (db.map TB.av),q.av] [] (fun r H=>r=.tup [ksV (q.sch db).1,.int .i64 (q.sch db).2]∧H=[]) :=
 q_ind (p:=fun q=>q.formed=true→q.ok→ACalls E.P 45 [.view 4 (db.map TB.av),q.av] [] (fun r H=>r=.tup [ksV (q.sch db).1,.int .i64 (q.sch db).2]∧H=[])) (fun q ih hf hk =>
  c45n db q hdb hf hk fun i hi=>ih i hi ((formed_node hf).2 _ (sub_mem hi)) (((ok_eq q).1 hk).2.2.2.2.2 _ (sub_mem hi))) q
noncomputable def schema (db:List TB) (q:QY):List Int × Int:=if 40<IntKind.i64.wrap q.count then ([],2) else if q.formed=true then q.sch db else ([],3)
theorem c18 (db:List TB) (hdb:∀ t ∈ db,t.cols.length≤1000000) (q:QY) (hk:q.ok):ACalls E.P 18 [.view 4 (db.map TB.av),q.av] [] (fun r H=>r=.tup [ksV (schema db q).1,.int .i64 (schema db q).2]∧H=[]):=by
 have h26:=c26 q
 have h44:=c44 q
 have h45:=c45 db hdb q
 simp only [q_av] at h26 h44 h45
 unfold schema
 generalize IntKind.i64.wrap (q.count:Int)=n at *
 refine ok18.acalls hE hm (by simp) fun N hN=>?_
 unfold mc18 q18_0
 simp only [lA,ptrCells,ptrAdd,isNil,seval,q_av]
 repeat' (first | (with_reducible apply St.o;constructor) <;> intro _ | (with_reducible first | refine And.intro (by omega) ?_ | (apply Sq.o;constructor)) | ((with_reducible apply Sc.o true;constructor);simp only [lP,seval];(first | refine ⟨_,h26,?_⟩ | refine ⟨_,h44,?_⟩);rintro _ _ ⟨rfl,rfl⟩;simp only [lA,lP,ptrCells,ptrAdd,isNil,seval]) | simp (maxSteps:=1000000) (disch:=omega) only [lE,ptrCells,ptrAdd,isNil,seval])
 · rename_i h
   exact keep_ke (by rw [if_pos h])
 · rename_i h1 h2
   have h2:¬ q.formed=true:=by simpa using h2
   exact keep_ke (by rw [if_neg h1,if_neg h2])
 · rename_i h1 h2
   have h2:q.formed=true:=by simpa using h2
   have h45:=h45 h2 hk
   rw [if_neg h1,if_pos h2]
   repeat' (first | (with_reducible apply St.o;constructor) <;> intro _ | (with_reducible first | refine And.intro (by omega) ?_ | (apply Sq.o;constructor)) | ((with_reducible apply Sc.o false;constructor);simp only [lP,seval];refine ⟨_,h45,?_⟩;rintro _ _ ⟨rfl,rfl⟩;simp only [lA,lP,ptrCells,ptrAdd,isNil,seval]) | simp (maxSteps:=1000000) (disch:=omega) only [lE,ptrCells,ptrAdd,isNil,seval])
   exact keep_kv rfl
end Go.Proofs.Try

