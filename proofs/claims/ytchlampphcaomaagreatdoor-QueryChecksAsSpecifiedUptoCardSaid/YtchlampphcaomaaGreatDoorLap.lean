/-
 A part of the proof: see the text of the law.
-/
import Derived.Test.YtchlampphcaomaaGreatDoorLao
set_option linter.unusedSimpArgs false
set_option linter.unusedVariables false
namespace Go.Proofs.Try
open Go.Proofs.Tryz
open Go.Al
set_option maxRecDepth 100000
def mc24:MC:=(.seq (.ops [pK 3 1,(none,.e (.alloc 4 z4))]) (.seq (.seq (.ops [pR 6 14 3,pV 7 10 6,(none,.v (.bin 8 .gtr false (.t 7) (.c (.int .i64 40))))]) (.cond 8 (.seq (.ops [(none,.v (.build 9 z4 [(1,1,.c (.int .i64 2))])),pS 2 4 9]) .ret) .skip)) (.seq (.ops [pR 10 14 3,pV 11 48 10,pM 5 11]) (.seq (.seq (.ops [pM 12 5,pN 13 12]) (.cond 13 (.seq (.ops [(none,.v (.build 14 z4 [(1,1,.c (.int .i64 3))])),pS 2 4 14]) .ret) .skip)) (.seq (.ops [pM 15 0,pR 16 14 3,pW 17 49 15 16,pS 2 4 17]) .ret)))))
theorem ok24:FnOk E 24 18 [.cell 4 63] mc24:=ofk func24
def mc49:MC:=(.seq (.ops [pK 3 1,(none,.e (.alloc 4 z4))]) (.seq (.seq (.ops [pF 9 0 3,pL 10 9,pE 11 10 1]) (.cond 11 (.seq (.ops [pM 12 0,pF 13 1 3,pL 14 13,pW 15 87 12 14,pS 2 4 15]) .ret) .skip)) (.seq (.ops [pY 5]) (.seq (.seq (.ops [pI 6 0]) (.block 0 (.loop (.seq (.seq (.ops [pM 16 6,pF 17 2 3,pL 18 17,pG 19 18,pB 20 16 19]) (.cond 20 .skip (.exit 0))) (.seq (.block 1 (.seq (.ops [pM 23 0,pF 24 2 3,pL 25 24,pM 26 6,pQ 27 14 25 26,pR 28 14 27,pW 29 49 23 28,(none,.e (.alloc 7 z4)),pS 2 7 29]) (.seq (.seq (.ops [pF 30 1 7,pL 31 30,pD 32 31 0]) (.cond 32 (.seq (.ops [pR 33 2 7,pS 2 4 33]) .ret) .skip)) (.ops [pM 34 5,pF 35 0 7,pL 36 35,(none,.e (.app 37 3 1 8 (.t 34) (.t 36))),pM 5 37])))) (.ops [pM 21 6,pA 22 21 1,pM 6 22])))))) (.seq (.ops [pR 38 14 3,pM 39 5,pW 40 88 38 39,(none,.e (.alloc 8 z4)),pS 2 8 40]) (.seq (.seq (.ops [pF 41 1 8,pL 42 41,pD 43 42 0]) (.cond 43 (.ops [pF 44 0 8,(none,.e (.store 1 false (.t 44) (.c (.raw (.slice none 0 0)))))]) .skip)) (.seq (.ops [pR 45 2 8,pS 2 4 45]) .ret)))))))
theorem ok49:FnOk E 49 46 [.cell 4 63] mc49:=ofk func49
set_option maxRecDepth 20000
set_option maxHeartbeats 16000000
theorem spine49:∀ fn,E.P.funcs[49]?=some fn→fn.body.map (Go.Al.spine 6)=some true:=fun fn h=>by
 have e:=func49.symm.trans h
 injection e with e
 subst e
 rfl
theorem oneNil:(Value.slice none 0 0).oneCell'=true:=rfl
theorem sch_err {db:List TB} {q:QY} (hf:q.formed=true) (h:(q.sch db).2≠0):(q.sch db).1=[]:=by
 rw [sch_eq] at h ⊢
 split
 · rfl
 · rename_i h1
   rw [if_neg h1] at h
   by_cases hk:q.kind=1
   · unfold nodeK scanK at h ⊢
     rw [if_pos hk] at h ⊢
     split
     · rfl
     · rename_i h2;rw [if_neg h2] at h;exact absurd rfl h
   · rw [nodeK_err hk] at h ⊢
     split
     · rfl
     · rename_i h2;rw [if_neg h2] at h;exact absurd h h2
theorem c49 (db:List TB) (hdb:∀ t ∈ db,t.cols.length≤1000000) (q:QY):q.formed=true→q.ok→ACalls E.P 49 [.view 4 (db.map TB.av),q.av] [] (fun r H=>r=.agg [ksV (q.sch db).1,.int .i64 (q.sch db).2]∧H=[]):=by
 have hmax:=maxLen_eq
 refine q_ind (p:=fun q=>q.formed=true→q.ok→ACalls E.P 49 [.view 4 (db.map TB.av),q.av] [] (fun r H=>r=.agg [ksV (q.sch db).1,.int .i64 (q.sch db).2]∧H=[])) (fun q ih hf hok=>?_) q
 obtain ⟨hn,hs⟩:=formed_node hf
 obtain ⟨hk1,hk8,hb,hl,_⟩:=node_iff.1 hn
 have hok2:=(ok_eq q).1 hok
 have hsl:q.subs.length≤2:=by rw [hl];unfold subsN;split;omega;split <;> omega
 have hsn:∀ i,i<q.subs.length→((q.subs.getD i default).sch db).1.length≤1000000:=fun i hi=>sch_len hdb _ (hs _ (sub_mem hi))
 have hfl:∀ i,i≤q.subs.length→(((q.subs.take i).map fun s=>(s.sch db).1).flatten).length≤i * 1000000:=fun i=>by
  induction i with
  | zero=>intro _;simp
  | succ i ihi =>
    intro hi
    have h1:=ihi (by omega)
    have h2:=hsn i (by omega)
    rw [List.take_succ_eq_append_getElem (by omega),List.map_append,List.flatten_append,List.length_append]
    have e:q.subs.getD i default=q.subs[i]:=by simp [show i<q.subs.length by omega]
    rw [e] at h2
    simp only [List.map_cons,List.map_nil,List.flatten_cons,List.flatten_nil,List.append_nil]
    omega
 have hse:=sch_eq db q
 refine ok49.acallsF hE hm (by simp) 6 spine49 fun N hN=>?_
 unfold mc49 z4 pK pF pL pE pM pW pS pY pI pG pB pQ pR pD pA
 simp only [q_av]
 refine mf_i ?_
 simp only [lA,seval]
 repeat' (first|(with_reducible first|(apply St.o;constructor)<;>intro _|refine And.intro (by omega) ?_|(apply Sq.o;constructor))|simp (disch:=omega) only [lE,seval])
 refine mf_go ?_
 by_cases k1:q.kind=1
 · have h0:q.subs=[]:=List.eq_nil_of_length_eq_zero (by rw [hl,k1];rfl)
   have h87:=c87 db hdb q.tab
   have e:q.sch db=scanK db q.tab:=by
    rw [hse,h0]
    simp [mapE,nodeK,k1]
   rw [e]
   refine mf_i ?_
   repeat' (first|(with_reducible first|(apply St.o;constructor)<;>intro _|refine And.intro (by omega) ?_|(apply Sq.o;constructor))|((with_reducible apply Sc.o false;constructor);simp only [lP,seval,k1,decide_true,ti63,fillE,setAll];refine ⟨_,h87,?_⟩;rintro _ _ ⟨rfl,rfl⟩;simp only [lA,lP,seval,k1,decide_true,ti63,fillE,setAll])|simp (disch:=omega) only [lE,seval,k1,decide_true,ti63,fillE,setAll])
   simp only [mfQ,lA,seval]
   repeat' (first|(with_reducible first|(apply St.o;constructor)<;>intro _|refine And.intro (by omega) ?_|(apply Sq.o;constructor))|simp (disch:=omega) only [lE,seval,ti63,fillE,setAll])
   exact keep_kk rfl
 refine mf_i ?_
 repeat' (first|(with_reducible first|(apply St.o;constructor)<;>intro _|refine And.intro (by omega) ?_|(apply Sq.o;constructor))|simp (disch:=omega) only [lE,seval,k1,decide_false])
 refine mf_go ?_
 refine mf_cut [(0,.view 4 (db.map TB.av)),(3,.op 0 0),(4,.op 1 0),(5,.raw (.slice none 0 0))] [.box q.cs,.box [.raw (.slice none 0 0),.int .i64 0]] ?_ ?_
 · simp only [lA,seval]
   repeat' (first|(with_reducible first|(apply St.o;constructor)<;>intro _|refine And.intro (by omega) ?_|(apply Sq.o;constructor))|simp (disch:=omega) only [lE,seval])
   all_goals first
    | exact (ent [0,1] true (by simp only [lP,seval,pa_qs,pa_exs,pa_ags,pa_ods,pa_ints]<;>(try simp)<;>(try omega)) (by simp only [lP,seval,pa_qs,pa_exs,pa_ags,pa_ods,pa_ints]<;>(try simp)<;>(try omega)))
    | exact ⟨rfl,(ent [0,1] true (by simp only [lP,seval,pa_qs,pa_exs,pa_ags,pa_ods,pa_ints]<;>(try simp)<;>(try omega)) (by simp only [lP,seval,pa_qs,pa_exs,pa_ags,pa_ods,pa_ints]<;>(try simp)<;>(try omega)))⟩
 refine mf_cutE (φ:=∀ s ∈ q.subs,(s.sch db).2=0) [(0,.view 4 (db.map TB.av)),(3,.op 0 0),(4,.op 1 0),(5,ksV ((q.subs.map fun s=>(s.sch db).1).flatten))] [.box q.cs,.box [.raw (.slice none 0 0),.int .i64 0]] ?_ fun hall=>?_
 · simp only [lA,seval]
   refine loop_i (fun i:Nat=>i≤q.subs.length∧∀ s ∈ q.subs.take i,(s.sch db).2=0) (fun i=>⟨[(0,.view 4 (db.map TB.av)),(3,.op 0 0),(4,.op 1 0),(5,.slc 2 1 (((q.subs.take i).map fun s=>(s.sch db).1).flatten).length),(6,.int .i64 i)],[.box q.cs,.box [.raw (.slice none 0 0),.int .i64 0],.arr 3 1 ((((q.subs.take i).map fun s=>(s.sch db).1).flatten).map (AV.int .i64))]⟩) (fun i=>q.subs.length - i) 0 ⟨by omega,by simp⟩ (Ent.ghost' 5 3 1 (by omega) rfl (ent [0,1,2] false (by simp only [lP,seval,pa_qs,pa_exs,pa_ags,pa_ods,pa_ints]<;>(try simp)<;>(try omega)) (by simp only [lP,seval,pa_qs,pa_exs,pa_ags,pa_ods,pa_ints]<;>(try simp)<;>(try omega)))) ?_
   rintro i ⟨hi,hae⟩
   by_cases hin:i<q.subs.length
   · have hlt:((i:Int)<(q.subs.length:Int)):=by omega
     have hk:=ih i hin (hs _ (sub_mem hin)) (hok2.2.2.2.2.2 _ (sub_mem hin))
     have herr:=mapE_err (f:=QY.sch db) hin hae
     have hnil:=sch_err (db:=db) (hs _ (sub_mem hin))
     have h1:=hfl i hi
     have h2:=hsn i hin
     have hT:=flat_take (f:=fun s=>(s.sch db).1) hin
     have hL:(((q.subs.take (i+1)).map fun s=>(s.sch db).1).flatten).length=(((q.subs.take i).map fun s=>(s.sch db).1).flatten).length+((q.subs.getD i default).sch db).1.length:=by
      have:=congrArg List.length hT
      simpa only [List.length_append,List.length_map] using this
     have hnext:((q.subs.getD i default).sch db).2=0→∀ x ∈ q.subs.take (i+1),(x.sch db).2=0:=fun h x hx=>by
      rw [List.take_succ_eq_append_getElem hin] at hx
      rcases List.mem_append.1 hx with hx | hx
      · exact hae x hx
      · rw [List.mem_singleton.1 hx]
        have e:q.subs.getD i default=q.subs[i]:=by simp [hin]
        rw [← e];exact h
     simp only [q_av] at hk
     generalize hx:q.subs.getD i default=s at *
     generalize s.sch db=k at *
     generalize (((q.subs.take i).map fun s=>(s.sch db).1).flatten)=F at *
     repeat' (first|(with_reducible first|(apply St.o;constructor)<;>intro _|refine And.intro (by omega) ?_|(apply Sq.o;constructor))|((with_reducible apply Sc.o false;constructor);simp only [lP,seval,IdxR_qs,hx,Int.toNat_natCast,List.length_map,hlt,decide_true,ti63,fillE,setAll];refine ⟨_,hk,?_⟩;rintro _ _ ⟨rfl,rfl⟩;simp only [lA,lP,seval,IdxR_qs,hx,Int.toNat_natCast,List.length_map,hlt,decide_true,ti63,fillE,setAll])|simp (disch:=omega) only [lE,seval,IdxR_qs,hx,Int.toNat_natCast,List.length_map,hlt,decide_true,ti63,fillE,setAll])
     · rename_i h
       refine .inr (keep_kk ?_)
       rw [hse,herr h,if_pos h,hnil h]
     · rename_i h
       refine back_i (i+1) ⟨by omega,hnext (by omega)⟩ (by omega) ?_
       rw [hL,hT]
       exact (ent [0,1,4] false (by simp only [lP,seval,pa_qs,pa_exs,pa_ags,pa_ods,pa_ints,List.map_append,List.length_map,hL,hT]<;>(try simp)<;>(try omega)) (by simp only [lP,seval,pa_qs,pa_exs,pa_ags,pa_ods,pa_ints,List.map_append,List.length_map,hL,hT]<;>(try simp)<;>(try omega)))
   · obtain rfl:i=q.subs.length:=by omega
     rw [List.take_length] at hae ⊢
     generalize hF:((q.subs.map fun s=>(s.sch db).1).flatten)=F at *
     repeat' (first|(with_reducible first|(apply St.o;constructor)<;>intro _|refine And.intro (by omega) ?_|(apply Sq.o;constructor))|simp (disch:=omega) only [lE,seval,List.length_map,Int.lt_irrefl,decide_false,ti63,fillE,setAll])
     all_goals exact .inl ⟨(ent [0,1] true (by simp only [lP,seval,pa_qs,pa_exs,pa_ags,pa_ods,pa_ints,vw_ints,List.length_map,List.take_length]<;>(try simp)<;>(try omega)) (by simp only [lP,seval,pa_qs,pa_exs,pa_ags,pa_ods,pa_ints,vw_ints,List.length_map,List.take_length]<;>(try simp)<;>(try omega))),hae⟩
 have hF:=hfl q.subs.length (Nat.le_refl _)
 rw [List.take_length] at hF
 have hme:mapE (QY.sch db) q.subs=(q.subs.map fun s=>(s.sch db).1,0):=mapE_ok hall
 rw [hme] at hse
 simp only [ne_eq,not_true_eq_false,if_false] at hse
 rw [hse]
 clear hse
 generalize ((q.subs.map fun s=>(s.sch db).1).flatten)=F at *
 have h88:=c88 q F hok (by have:q.subs.length * 1000000≤2 * 1000000:=by omega
                           omega) k1
 rw [nodeK_err k1]
 simp only [q_av] at h88
 generalize nodeS q F=k at *
 refine mf_cut [(0,.view 4 (db.map TB.av)),(4,.op 0 0),(8,.op 1 0)] [.box [.raw (.slice none 0 0),.int .i64 0],.box [ksV k.1,.int .i64 k.2]] ?_ ?_
 · simp only [lA,seval]
   repeat' (first|(with_reducible first|(apply St.o;constructor)<;>intro _|refine And.intro (by omega) ?_|(apply Sq.o;constructor))|((with_reducible apply Sc.o false;constructor);simp only [lP,seval,ti63,fillE,setAll];refine ⟨_,h88,?_⟩;rintro _ _ ⟨rfl,rfl⟩;simp only [lA,lP,seval,ti63,fillE,setAll])|simp (disch:=omega) only [lE,seval,ti63,fillE,setAll])
   all_goals first
    | exact (ent [1,2] true (by simp only [lP,seval,pa_qs,pa_exs,pa_ags,pa_ods,pa_ints]<;>(try simp)<;>(try omega)) (by simp only [lP,seval,pa_qs,pa_exs,pa_ags,pa_ods,pa_ints]<;>(try simp)<;>(try omega)))
    | exact ⟨rfl,(ent [1,2] true (by simp only [lP,seval,pa_qs,pa_exs,pa_ags,pa_ods,pa_ints]<;>(try simp)<;>(try omega)) (by simp only [lP,seval,pa_qs,pa_exs,pa_ags,pa_ods,pa_ints]<;>(try simp)<;>(try omega)))⟩
 refine mf_i ?_
 simp only [lA,seval]
 repeat' (first|(with_reducible first|(apply St.o;constructor)<;>intro _|refine And.intro (by omega) ?_|(apply Sq.o;constructor))|simp (disch:=omega) only [lE,seval,oneNil,if_true,setAll])
 all_goals
  refine mf_go (mf_last ?_)
  simp only [lA,seval]
  repeat' (first|(with_reducible first|(apply St.o;constructor)<;>intro _|refine And.intro (by omega) ?_|(apply Sq.o;constructor))|simp (disch:=omega) only [lE,seval,ti63,fillE,setAll])
  first
   | exact keep_kk (by rw [if_neg (by omega)])
   | exact keep_err (by rw [if_pos (by omega)])
theorem c24 (db:List TB) (hdb:∀ t ∈ db,t.cols.length≤1000000) (q:QY) (hok:q.ok):ACalls E.P 24 [.view 4 (db.map TB.av),q.av] [] (fun r H=>r=.agg [ksV (schema db q).1,.int .i64 (schema db q).2]∧H=[]):=by
 have h10:=c10 q
 have h48:=c48 q hok
 have h49:=c49 db hdb q
 simp only [q_av] at h10 h48 h49
 unfold schema
 generalize IntKind.i64.wrap (q.count:Int)=n at *
 refine ok24.acalls hE hm (by simp) fun N hN=>?_
 unfold mc24 z4 pK pR pV pS pM pN pW
 simp only [lA,seval,q_av]
 repeat' (first|(with_reducible first|(apply St.o;constructor)<;>intro _|refine And.intro (by omega) ?_|(apply Sq.o;constructor))|((with_reducible apply Sc.o true;constructor);simp only [lP,seval,ti63,fillE,setAll];(first|refine ⟨_,h10,?_⟩|refine ⟨_,h48,?_⟩);rintro _ _ ⟨rfl,rfl⟩;simp only [lA,lP,seval,ti63,fillE,setAll])|simp (disch:=omega) only [lE,seval,ti63,fillE,setAll])
 · rename_i h
   exact keep_err (by rw [if_pos h])
 · rename_i h1 h2
   have h2:¬ q.formed=true:=by simpa using h2
   exact keep_err (by rw [if_neg h1,if_neg h2])
 · rename_i h1 h2
   have h2:q.formed=true:=by simpa using h2
   have h49:=h49 h2 hok
   rw [if_neg h1,if_pos h2]
   repeat' (first|(with_reducible first|(apply St.o;constructor)<;>intro _|refine And.intro (by omega) ?_|(apply Sq.o;constructor))|((with_reducible apply Sc.o false;constructor);simp only [lP,seval,ti63,fillE,setAll];refine ⟨_,h49,?_⟩;rintro _ _ ⟨rfl,rfl⟩;simp only [lA,lP,seval,ti63,fillE,setAll])|simp (disch:=omega) only [lE,seval,ti63,fillE,setAll])
   exact keep_kk rfl
end Go.Proofs.Try
