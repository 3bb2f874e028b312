/-
 A part of the proof: see the text of the law.
-/
import Derived.Test.YtchlampphcaomaaGreatDoorLaj
set_option linter.unusedSimpArgs false
set_option linter.unusedVariables false
namespace Go.Proofs.Try
open Go.Proofs.Tryz
open Go.Al
set_option maxRecDepth 100000
def mc87:MC:=(.seq (.ops [(none,.e (.alloc 4 z4))]) (.seq (.seq (.ops [pI 5 0]) (.block 0 (.loop (.seq (.seq (.ops [pM 8 5,pM 9 0,pG 10 9,pB 11 8 10]) (.cond 11 .skip (.exit 0))) (.seq (.block 1 (.seq (.ops [pM 14 0,pM 15 5,pQ 16 4 14 15,pF 17 0 16,pL 18 17,pM 19 1,(none,.v (.bin 20 .eql false (.t 18) (.t 19)))]) (.cond 20 (.seq (.ops [pY 6]) (.seq (.seq (.ops [pI 7 0]) (.block 2 (.loop (.seq (.seq (.ops [pM 21 7,pM 22 0,pM 23 5,pQ 24 4 22 23,pF 25 1 24,pL 26 25,pG 27 26,pB 28 21 27]) (.cond 28 .skip (.exit 2))) (.seq (.block 3 (.ops [pM 31 6,pM 32 0,pM 33 5,pQ 34 4 32 33,pF 35 1 34,pL 36 35,pM 37 7,pQ 38 3 36 37,pF 39 1 38,pL 40 39,(none,.e (.mkl 41 3 1 1 (.int .i64 0) [(0,.t 40)])),(none,.e (.app 42 3 1 8 (.t 31) (.t 41))),pM 6 42])) (.ops [pM 29 7,pA 30 29 1,pM 7 30])))))) (.seq (.ops [pM 43 6,(none,.v (.build 44 z4 [(0,1,.t 43)])),pS 2 4 44]) .ret))) .skip))) (.ops [pM 12 5,pA 13 12 1,pM 5 13])))))) (.seq (.ops [(none,.v (.build 45 z4 [(1,1,.c (.int .i64 5))])),pS 2 4 45]) .ret)))
theorem ok87:FnOk E 87 46 [.cell 4 63] mc87:=ofk func87
def mc113:MC:=(.seq (.ops [pK 3 1,pI 4 0]) (.seq (.ops [pM 8 0,pR 9 6 3,pW 10 19 8 9,pM 7 10,pX 11 0 7,pX 12 1 7,pM 5 11,pM 6 12]) (.seq (.seq (.ops [pM 13 6,pD 14 13 0]) (.cond 14 (.seq (.ops [pM 15 6,pM 4 15]) .ret) .skip)) (.seq (.seq (.ops [pM 16 5,pD 17 16 3,pM 18 17,gT 18 (oM 19 5),gT 18 (oD 20 19 0),pP 21 18 20]) (.cond 21 (.seq (.ops [pI 4 7]) .ret) .skip)) (.seq (.ops [pI 4 0]) .ret)))))
theorem ok113:FnOk E 113 22 [.tmp 4] mc113:=ofk func113
set_option maxRecDepth 20000
set_option maxHeartbeats 8000000
theorem ti63:E.TI 63=some ⟨.struct [(0,29),(1,44)],2,32,[.slice none 0 0,.int .i64 0],true,true,false⟩:=rfl
theorem c113 (ks:List Int) (e:EX):ACalls E.P 113 [ksV ks,e.av] [] (fun r H=>r=.int .i64 (truthE ks e)∧H=[]):=by
 have h19:=c19 ks e
 simp only [av_fs] at h19
 unfold truthE
 generalize chk ks e=k at *
 refine ok113.acalls hE hm (by simp) fun N hN=>?_
 unfold mc113 pK pI pM pR pW pX pD pP gT oM oD
 simp only [lA,seval,av_fs]
 repeat' (first|(with_reducible first|(apply St.o;constructor)<;>intro _|refine And.intro (by omega) ?_|(apply Sq.o;constructor))|((with_reducible apply Sc.o true;constructor);simp only [lP,seval];refine ⟨_,h19,?_⟩;rintro _ _ ⟨rfl,rfl⟩;simp only [lA,lP,seval])|simp (disch:=omega) only [lE,seval])
 all_goals (refine keep_n ?_;clear h19;simp_all)
theorem c87 (db:List TB) (hdb:∀ t ∈ db,t.cols.length≤1000000) (nm:ByteArray):ACalls E.P 87 [.view 4 (db.map TB.av),.str nm] [] (fun r H=>r=.agg [ksV (scanK db nm).1,.int .i64 (scanK db nm).2]∧H=[]):=by
 have hmax:=maxLen_eq
 refine ok87.acalls hE hm (by simp) fun N hN=>?_
 unfold mc87 z4 pI pM pG pB pQ pF pL pY pA pS
 simp only [lA,seval]
 repeat' (first|(with_reducible first|(apply St.o;constructor)<;>intro _|refine And.intro (by omega) ?_|(apply Sq.o;constructor))|simp (disch:=omega) only [lE,seval])
 refine loop_i (fun i:Nat=>i≤db.length∧∀ x ∈ db.take i,named nm x=false) (fun i=>⟨[(0,.view 4 (db.map TB.av)),(1,.str nm),(4,.op 0 0),(5,.int .i64 i)],[.box [.raw (.slice none 0 0),.int .i64 0]]⟩) (fun i=>db.length - i) 0 ⟨by omega,by simp⟩ (ent [0] false) ?_
 rintro i ⟨hi,hn⟩
 by_cases hin:i<db.length
 · have hlt:((i:Int)<(db.length:Int)):=by omega
   have hmem:db.getD i default ∈ db:=by simp [hin]
   have hcl:=hdb _ hmem
   have hnext:¬ (db.getD i default).name=nm→∀ x ∈ db.take (i+1),named nm x=false:=fun h x hx=>by
    rw [List.take_succ_eq_append_getElem hin] at hx
    rcases List.mem_append.1 hx with hx | hx
    · exact hn x hx
    · rw [List.mem_singleton.1 hx]
      have e:db.getD i default=db[i]:=by simp [hin]
      rw [← e];simp only [named,decide_eq_false_iff_not];exact h
   have hfound:(db.getD i default).name=nm→scanK db nm=((db.getD i default).cols.map CO.kind,0):=fun h=>by
    have:=fidx_some (p:=named nm) hin (by simp only [named,decide_eq_true_eq];exact h) hn
    unfold scanK
    rw [this,if_neg (by omega)]
    simp
   generalize hx:db.getD i default=t at *
   repeat' (first|(with_reducible first|(apply St.o;constructor)<;>intro _|refine And.intro (by omega) ?_|(apply Sq.o;constructor))|simp (disch:=omega) only [lE,seval,strA,IdxR_tbs,hx,Int.toNat_natCast,List.length_map,hlt,decide_true])
   · rename_i hnm
     rw [hfound hnm]
     refine loop_i (fun j:Nat=>j≤t.cols.length) (fun j=>⟨[(0,.view 4 (db.map TB.av)),(4,.op 0 0),(5,.int .i64 i),(6,.slc 1 1 j),(7,.int .i64 j)],[.box [.raw (.slice none 0 0),.int .i64 0],.arr 3 1 (((t.cols.take j).map CO.kind).map (AV.int .i64))]⟩) (fun j=>t.cols.length - j) 0 (by omega) (Ent.ghost' 6 3 1 (by omega) rfl (ent [0,1] false)) ?_
     intro j hj
     have hlen:(((t.cols.take j).map CO.kind).map (AV.int .i64)).length=j:=by simp;omega
     by_cases hjn:j<t.cols.length
     · have hlt2:((j:Int)<(t.cols.length:Int)):=by omega
       have hT:=take_ints (f:=CO.kind) hjn
       repeat' (first|(with_reducible first|(apply St.o;constructor)<;>intro _|refine And.intro (by omega) ?_|(apply Sq.o;constructor))|simp (disch:=omega) only [lE,seval,IdxR_tbs,IdxR_cos,hx,hlen,Int.toNat_natCast,List.length_map,hlt,hlt2,decide_true])
       refine back_i (j+1) (by omega) (by omega) ?_
       rw [hT]
       exact (ent [0,3] false (by simp only [lP,seval,hlen,List.map_append]<;>(try simp)<;>(try omega)) (by simp only [lP,seval,hlen,List.map_append]<;>(try simp)<;>(try omega)))
     · obtain rfl:j=t.cols.length:=by omega
       rw [List.take_length] at hlen ⊢
       repeat' (first|(with_reducible first|(apply St.o;constructor)<;>intro _|refine And.intro (by omega) ?_|(apply Sq.o;constructor))|simp (disch:=omega) only [lE,seval,IdxR_tbs,hx,ti63,fillE,setAll,Int.toNat_natCast,List.length_map,hlt,decide_true,Int.lt_irrefl,decide_false])
       refine keep_i [] true (by simp) (by simp) rfl ⟨?_,by simp only [lP,seval]⟩
       simp only [lP,seval,vw_ints,List.length_map,List.take_length]
   · rename_i hnm
     refine back_i (i+1) ⟨by omega,hnext hnm⟩ (by omega) (ent [0] false)
 · obtain rfl:i=db.length:=by omega
   rw [List.take_length] at hn
   have hs:scanK db nm=([],5):=by
    unfold scanK
    rw [fidx_none hn,if_pos (by omega)]
   rw [hs]
   repeat' (first|(with_reducible first|(apply St.o;constructor)<;>intro _|refine And.intro (by omega) ?_|(apply Sq.o;constructor))|simp (disch:=omega) only [lE,seval,ti63,fillE,setAll,List.length_map,Int.lt_irrefl,decide_false])
   refine keepw_i [] false (by simp) (by simp) rfl (r':=.agg [.view 1 [],.int .i64 5]) ?_ ⟨rfl,by simp only [lP,seval]⟩
   simp only [lP,seval]
   exact WeakL.agg (.cons weak_nil (.refl _))
end Go.Proofs.Try
