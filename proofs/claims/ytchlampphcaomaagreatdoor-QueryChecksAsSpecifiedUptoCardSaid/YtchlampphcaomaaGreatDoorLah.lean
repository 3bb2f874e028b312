/-
 A part of the proof: see the text of the law.
-/
import Derived.Test.YtchlampphcaomaaGreatDoorLad
set_option linter.unusedSimpArgs false
set_option linter.unusedVariables false
namespace Go.Proofs.Try
open Go.Proofs.Tryz
open Go.Al
set_option maxRecDepth 100000
def mc22:MC:=(.seq (.ops [pK 1 0,pY 2]) (.seq (.ops [pY 3]) (.seq (.seq (.ops [pF 6 2 1,pL 7 6,pG 8 7,pI 9 0]) (.block 0 (.loop (.seq (.ops [pB 10 9 8]) (.seq (.cond 10 .skip (.exit 0)) (.seq (.block 1 (.seq (.ops [pQ 11 14 7 9,pR 12 14 11,(none,.e (.alloc 5 z0)),pS 14 5 12]) (.ops [pM 13 3,pR 14 14 5,pV 15 22 14,(none,.e (.app 16 9 1 16 (.t 13) (.t 15))),pM 3 16]))) (.ops [pA 17 9 1,pM 9 17]))))))) (.seq (.seq (.ops [pF 18 0 1,pL 19 18,pE 20 19 1]) (.cond 20 (.ops [pM 21 3,pF 22 1 1,pL 23 22,(none,.e (.mkl 24 9 1 1 (.str ⟨#[]⟩) [(0,.t 23)])),(none,.e (.app 25 9 1 16 (.t 21) (.t 24))),pM 3 25]) .skip)) (.seq (.ops [pM 26 3,pM 2 26]) .ret)))))
theorem ok22:FnOk E 22 27 [.tmp 2] mc22:=ofk func22
def mc23:MC:=(.seq (.ops [pK 1 0,pY 2]) (.seq (.ops [pY 3]) (.seq (.seq (.ops [pI 4 0]) (.block 0 (.loop (.seq (.seq (.ops [pM 5 4,pF 6 2 1,pL 7 6,pG 8 7,pB 9 5 8]) (.cond 9 .skip (.exit 0))) (.seq (.block 1 (.ops [pM 12 3,pF 13 2 1,pL 14 13,pM 15 4,pQ 16 14 14 15,pR 17 14 16,pV 18 23 17,(none,.e (.app 19 9 1 16 (.t 12) (.t 18))),pM 3 19])) (.ops [pM 10 4,pA 11 10 1,pM 4 11])))))) (.seq (.seq (.ops [pF 20 0 1,pL 21 20,pE 22 21 1]) (.cond 22 (.ops [pM 23 3,pF 24 1 1,pL 25 24,(none,.e (.mkl 26 9 1 1 (.str ⟨#[]⟩) [(0,.t 25)])),(none,.e (.app 27 9 1 16 (.t 23) (.t 26))),pM 3 27]) .skip)) (.seq (.ops [pM 28 3,pM 2 28]) .ret)))))
theorem ok23:FnOk E 23 29 [.tmp 2] mc23:=ofk func23
set_option maxRecDepth 20000
set_option maxHeartbeats 8000000
mutual
def QY.tabs:QY→List ByteArray
 | .mk k t s _ _ _ _ _ _=>QY.tabsL s++(if k=1 then [t] else [])
def QY.tabsL:List QY→List ByteArray
 | []=>[]
 | q::l=>q.tabs++QY.tabsL l
end
theorem tabsL_flat:∀ l:List QY,QY.tabsL l=(l.map QY.tabs).flatten
 | []=>rfl
 | q::l=>by rw [QY.tabsL,tabsL_flat l];rfl
theorem tabs_eq (q:QY):q.tabs=(q.subs.map QY.tabs).flatten++(if q.kind=1 then [q.tab] else []):=by
 cases q
 rw [QY.tabs,tabsL_flat]
 rfl
theorem countL_mem {q:QY}:∀ {l:List QY},q ∈ l→q.count≤QY.countL l
 | [],h=>by cases h
 | x::l,h=>by
   rcases List.mem_cons.1 h with rfl | h
   · simp only [QY.countL];omega
   · have:=countL_mem h
     simp only [QY.countL];omega
theorem mem_getD {α:Type} [Inhabited α] {p:α→Prop} {l:List α} (h:∀ i,i<l.length→p (l.getD i default)):∀ x ∈ l,p x:=fun x hx=>by
 obtain ⟨i,hi⟩:=List.getElem?_of_mem hx
 obtain ⟨h1,h2⟩:=List.getElem?_eq_some_iff.1 hi
 have:=h i h1
 rwa [List.getD_eq_getElem?_getD,hi] at this
theorem tabs_le (q:QY):q.tabs.length≤q.count:=by
 refine q_ind (p:=fun q=>q.tabs.length≤q.count) (fun q ih=>?_) q
 rw [tabs_eq,qcount_eq,List.length_append]
 have h1:∀ l:List QY,(∀ s ∈ l,s.tabs.length≤s.count)→((l.map QY.tabs).flatten).length≤QY.countL l:=fun l=>by
  induction l with
  | nil=>simp
  | cons s l ihl =>
    intro h
    have h2:=h s (by simp)
    have h3:=ihl fun x hx=>h x (by simp [hx])
    simp only [List.map_cons,List.flatten_cons,List.length_append,QY.countL]
    omega
 have h2:((q.subs.map QY.tabs).flatten).length≤QY.countL q.subs:=h1 q.subs (mem_getD (p:=fun s:QY=>s.tabs.length≤s.count) ih)
 split <;> simp only [List.length_cons,List.length_nil] <;> omega
theorem tabs_take {l:List QY} {i:Nat} (h:i<l.length):((l.take (i+1)).map QY.tabs).flatten=((l.take i).map QY.tabs).flatten++(l.getD i default).tabs:=by
 rw [List.take_succ_eq_append_getElem h,List.map_append,List.flatten_append]
 simp [h]
theorem tabs_len {q:QY} (h:q.count≤1048576) (i:Nat):(((q.subs.take i).map QY.tabs).flatten).length≤1048576:=by
 have h1:=tabs_le q
 rw [tabs_eq,List.length_append] at h1
 have h2:q.subs=q.subs.take i++q.subs.drop i:=(List.take_append_drop _ _).symm
 rw [h2,List.map_append,List.flatten_append,List.length_append] at h1
 omega
theorem vw_strs {H:List AObj} {l:List Nat} {n:Nat} (xs:List ByteArray):(xs.map AV.str).map (vw H l n)=xs.map AV.str:=map_same (fun _=>vw_str) xs
theorem pa_strs {H:List AObj} {l:List Nat} {bor:Bool} {n:Nat} (xs:List ByteArray):(xs.map AV.str).map (pa H l bor n)=xs.map AV.str:=map_same (fun _=>pa_str) xs
theorem c22 (q:QY):q.count≤1048576→ACalls E.P 22 [q.av] [] (fun r H=>r=.view 1 (q.tabs.map AV.str)∧H=[]):=by
 have hmax:=maxLen_eq
 refine q_ind (p:=fun q=>q.count≤1048576→ACalls E.P 22 [q.av] [] (fun r H=>r=.view 1 (q.tabs.map AV.str)∧H=[])) (fun q ih hc=>?_) q
 have hl:=tabs_len hc
 have hq:=tabs_eq q
 have ht:=tabs_le q
 have hrec:∀ s ∈ q.subs,ACalls E.P 22 [s.av] [] (fun r H=>r=.view 1 (s.tabs.map AV.str)∧H=[]):=mem_getD fun i hi=>ih i hi (by have:=countL_mem (q:=q.subs.getD i default) (l:=q.subs) (by simp [hi]);rw [qcount_eq] at hc;omega)
 refine ok22.acalls hE hm (by simp) fun N hN=>?_
 unfold mc22 z0 pK pY pF pL pG pI pB pQ pR pS pM pV pA pE
 simp only [lA,seval,q_av]
 repeat' (first|(with_reducible first|(apply St.o;constructor)<;>intro _|refine And.intro (by omega) ?_|(apply Sq.o;constructor))|simp (disch:=omega) only [lE,seval,List.length_map])
 have hn0:q.subs.length≤maxLen:=by simpa using ‹(q.subs.map QY.av).length≤maxLen›
 refine loop_i (fun i:Nat=>i≤q.subs.length) (fun i=>⟨[(1,.op 0 0),(3,.slc 1 1 (((q.subs.take i).map QY.tabs).flatten).length),(7,.view 14 (q.subs.map QY.av)),(8,.int .i64 q.subs.length),(9,.int .i64 i)],[.box q.cs,.arr 9 1 ((((q.subs.take i).map QY.tabs).flatten).map AV.str)]⟩) (fun i=>q.subs.length - i) 0 (by omega) (Ent.ghost' 3 9 1 (by omega) rfl (ent [0,1] false (by simp only [lP,seval,pa_qs]<;>(try simp)<;>(try omega)) (by simp only [lP,seval,pa_qs]<;>(try simp)<;>(try omega)))) ?_
 intro i hi
 by_cases hin:i<q.subs.length
 · have hlt:((i:Int)<(q.subs.length:Int)):=by omega
   have hk:=hrec (q.subs.getD i default) (by simp [hin])
   have h1:=hl i
   have h2:=hl (i+1)
   rw [tabs_take hin] at h2
   rw [List.length_append] at h2
   simp only [q_av] at hk
   have hT:=tabs_take hin
   repeat' (first|(with_reducible first|(apply St.o;constructor)<;>intro _|refine And.intro (by omega) ?_|(apply Sq.o;constructor))|((with_reducible apply Sc.o false;constructor);simp only [lP,seval,IdxR_qs,Int.toNat_natCast,List.length_map,hlt,decide_true,setAll];refine ⟨_,hk,?_⟩;rintro _ _ ⟨rfl,rfl⟩;simp only [lA,lP,seval,IdxR_qs,Int.toNat_natCast,List.length_map,hlt,decide_true,setAll])|simp (disch:=omega) only [lE,seval,IdxR_qs,Int.toNat_natCast,List.length_map,hlt,decide_true,setAll])
   refine back_i (i+1) (by omega) (by omega) ?_
   rw [hT]
   exact (ent [0,3] false (by simp only [lP,seval,pa_strs,pa_qs,List.map_append,List.length_append]<;>(try simp)<;>(try omega)) (by simp only [lP,seval,pa_strs,pa_qs,List.map_append,List.length_append]<;>(try simp)<;>(try omega)))
 · obtain rfl:i=q.subs.length:=by omega
   rw [List.take_length]
   have h1:=hl q.subs.length
   rw [List.take_length] at h1
   generalize ((q.subs.map QY.tabs).flatten)=T at *
   repeat' (first|(with_reducible first|(apply St.o;constructor)<;>intro _|refine And.intro (by omega) ?_|(apply Sq.o;constructor))|simp (disch:=omega) only [lE,seval,List.length_map,Int.lt_irrefl,decide_false])
   · rename_i hk
     rw [if_pos hk] at hq
     have e1:T.map AV.str++[AV.str q.tab]=(T++[q.tab]).map AV.str:=by simp
     have e2:T.length+1=(T++[q.tab]).length:=by simp
     rw [e1,e2,hq]
     generalize T++[q.tab]=U
     refine keep_i [] true (by simp) (by simp) rfl ⟨?_,by simp only [lP,seval]⟩
     simp only [lP,seval,vw_strs,List.length_map,List.take_length]
   · rename_i hk
     rw [if_neg hk,List.append_nil] at hq
     refine keep_i [] true (by simp) (by simp) rfl ⟨?_,by simp only [lP,seval]⟩
     rw [hq]
     simp only [lP,seval,vw_strs,List.length_map,List.take_length]
theorem c23 (q:QY):q.count≤1048576→ACalls E.P 23 [q.av] [] (fun r H=>r=.view 1 (q.tabs.map AV.str)∧H=[]):=by
 have hmax:=maxLen_eq
 refine q_ind (p:=fun q=>q.count≤1048576→ACalls E.P 23 [q.av] [] (fun r H=>r=.view 1 (q.tabs.map AV.str)∧H=[])) (fun q ih hc=>?_) q
 have hl:=tabs_len hc
 have hq:=tabs_eq q
 have ht:=tabs_le q
 have hrec:∀ s ∈ q.subs,ACalls E.P 23 [s.av] [] (fun r H=>r=.view 1 (s.tabs.map AV.str)∧H=[]):=mem_getD fun i hi=>ih i hi (by have:=countL_mem (q:=q.subs.getD i default) (l:=q.subs) (by simp [hi]);rw [qcount_eq] at hc;omega)
 refine ok23.acalls hE hm (by simp) fun N hN=>?_
 unfold mc23 pK pY pI pM pF pL pG pB pQ pR pV pA pE
 simp only [lA,seval,q_av]
 refine loop_i (fun i:Nat=>i≤q.subs.length) (fun i=>⟨[(1,.op 0 0),(3,.slc 1 1 (((q.subs.take i).map QY.tabs).flatten).length),(4,.int .i64 i)],[.box q.cs,.arr 9 1 ((((q.subs.take i).map QY.tabs).flatten).map AV.str)]⟩) (fun i=>q.subs.length - i) 0 (by omega) (Ent.ghost' 3 9 1 (by omega) rfl (ent [0,1] false (by simp only [lP,seval,pa_qs]<;>(try simp)<;>(try omega)) (by simp only [lP,seval,pa_qs]<;>(try simp)<;>(try omega)))) ?_
 intro i hi
 by_cases hin:i<q.subs.length
 · have hlt:((i:Int)<(q.subs.length:Int)):=by omega
   have hk:=hrec (q.subs.getD i default) (by simp [hin])
   have h1:=hl i
   have h2:=hl (i+1)
   rw [tabs_take hin] at h2
   rw [List.length_append] at h2
   simp only [q_av] at hk
   have hT:=tabs_take hin
   repeat' (first|(with_reducible first|(apply St.o;constructor)<;>intro _|refine And.intro (by omega) ?_|(apply Sq.o;constructor))|((with_reducible apply Sc.o false;constructor);simp only [lP,seval,IdxR_qs,Int.toNat_natCast,List.length_map,hlt,decide_true,setAll];refine ⟨_,hk,?_⟩;rintro _ _ ⟨rfl,rfl⟩;simp only [lA,lP,seval,IdxR_qs,Int.toNat_natCast,List.length_map,hlt,decide_true,setAll])|simp (disch:=omega) only [lE,seval,IdxR_qs,Int.toNat_natCast,List.length_map,hlt,decide_true,setAll])
   refine back_i (i+1) (by omega) (by omega) ?_
   rw [hT]
   exact (ent [0,2] false (by simp only [lP,seval,pa_strs,pa_qs,List.map_append,List.length_append]<;>(try simp)<;>(try omega)) (by simp only [lP,seval,pa_strs,pa_qs,List.map_append,List.length_append]<;>(try simp)<;>(try omega)))
 · obtain rfl:i=q.subs.length:=by omega
   rw [List.take_length]
   have h1:=hl q.subs.length
   rw [List.take_length] at h1
   generalize ((q.subs.map QY.tabs).flatten)=T at *
   repeat' (first|(with_reducible first|(apply St.o;constructor)<;>intro _|refine And.intro (by omega) ?_|(apply Sq.o;constructor))|simp (disch:=omega) only [lE,seval,List.length_map,Int.lt_irrefl,decide_false])
   · rename_i hk
     rw [if_pos hk] at hq
     have e1:T.map AV.str++[AV.str q.tab]=(T++[q.tab]).map AV.str:=by simp
     have e2:T.length+1=(T++[q.tab]).length:=by simp
     rw [e1,e2,hq]
     generalize T++[q.tab]=U
     refine keep_i [] true (by simp) (by simp) rfl ⟨?_,by simp only [lP,seval]⟩
     simp only [lP,seval,vw_strs,List.length_map,List.take_length]
   · rename_i hk
     rw [if_neg hk,List.append_nil] at hq
     refine keep_i [] true (by simp) (by simp) rfl ⟨?_,by simp only [lP,seval]⟩
     rw [hq]
     simp only [lP,seval,vw_strs,List.length_map,List.take_length]
end Go.Proofs.Try
