/-
 A part of the proof.
-/
import Derived.Test.YtfhoeghdioofmaaGreatKbb
set_option linter.unusedSimpArgs false
set_option linter.unusedVariables false
namespace Go.Proofs.Try
open Go.Proofs.Tryz
open Go.Al
set_option maxRecDepth 100000
def mc68:MC:=(.seq (.ops [(none,.v (.mov 2 (.c (.raw (.pointer none)))))]) (.seq (.seq (.ops [pM 10 0,pV 11 15 10,pD 12 11 0]) (.cond 12 (.seq (.ops [(none,.v (.mov 2 (.c (.raw (.pointer none)))))]) .ret) .skip)) (.seq (.ops [pM 13 0,pM 14 0,pG 15 14,(none,.e (.mk 16 41 1 24 (.raw (.slice none 0 0)) (.t 15) (.t 15))),(none,.v (.build 17 [.raw (.slice none 0 0),.raw (.slice none 0 0)] [(0,1,.t 13),(1,1,.t 16)])),pK 18 17,pM 3 18]) (.seq (.seq (.ops [pM 19 0,pG 20 19,pI 21 0]) (.block 0 (.loop (.seq (.ops [pB 22 21 20]) (.seq (.cond 22 .skip (.exit 0)) (.seq (.block 1 (.seq (.ops [pM 23 21,pQ 24 6 19 21,pR 25 6 24,(none,.e (.alloc 5 z0)),pM 4 23,pS 6 5 25]) (.seq (.any true (.pure0 none (oM 26 3) (.pure0 none (.v (.nil 27 (.t 26))) (.pure0 none (oF 28 1 27) (.pure0 none (oL 29 28) (.pure0 none (oM 30 4) (.pure0 none (oM 31 0) (.pure0 none (oG 32 31) (.alt none (.e (.mk 33 3 1 8 (.int .i64 0) (.t 32) (.t 32))) (.pure0 none (oQ 34 1 29 30) (.alt none (.e (.store 1 false (.t 34) (.t 33))) .done .stop)) .stop))))))))) (.seq (.any false (.pure0 none (oF 35 4 5) (.pure0 none (oL 36 35) (.pure0 none (oF 38 5 5) (.pure0 none (oL 39 38) (.alt none (oV 37 63 36) (.base (.alt none (oV 40 63 39) (.base (.pure0 none (oM 6 37) (.pure0 none (oM 7 40) .done))) .stop)) .stop)))))) (.seq (.ops [pM 41 0,pG 42 41,pI 43 0]) (.block 2 (.loop (.seq (.ops [pB 44 43 42]) (.seq (.cond 44 .skip (.exit 2)) (.seq (.block 3 (.seq (.ops [pM 45 43,pQ 46 6 41 43,pR 47 6 46,(none,.e (.alloc 9 z0)),pM 8 45,pS 6 9 47]) (.seq (.seq (.ops [pM 48 4,pM 49 8,(none,.v (.bin 50 .eql false (.t 48) (.t 49))),pM 51 50,gF 51 (oF 52 2 5),gF 51 (oL 53 52),gF 51 (oN 54 53),pO 55 51 54,pM 56 55,gF 56 (oF 57 2 9),gF 56 (oL 58 57),gF 56 (oN 59 58),pO 60 56 59]) (.cond 60 (.exit 3) .skip)) (.seq (.seq (.ops [pF 61 3 5,pL 62 61,pF 63 3 9,pL 64 63,pB 65 62 64,pM 66 65,gT 66 (oM 67 7),gT 66 (oF 68 5 9),gT 66 (oL 69 68),gT 66 (oW 70 66 67 69),pP 71 66 70,pM 72 71,gF 72 (oF 73 3 5),gF 72 (oL 74 73),gF 72 (oF 75 1 9),gF 72 (oL 76 75),(some (72,false),.v (.bin 77 .leq false (.t 74) (.t 76))),gF 72 (oM 78 77),gT 78 (oM 79 7),gT 78 (oF 80 4 9),gT 78 (oL 81 80),gT 78 (oW 82 66 79 81),gF 72 (oP 83 78 82),pO 84 72 83]) (.cond 84 (.ops [pM 85 3,(none,.v (.nil 86 (.t 85))),pF 87 1 86,pL 88 87,pM 89 4,pQ 90 1 88 89,pL 91 90,pM 92 8,pQ 93 1 91 92,pL 94 93,(none,.v (.bin 95 .or false (.t 94) (.c (.int .i64 1)))),pQ 96 1 91 92,(none,.e (.store 1 false (.t 96) (.t 95)))]) .skip)) (.seq (.ops [pF 97 3 9,pL 98 97,pF 99 1 5,pL 100 99,(none,.v (.bin 101 .gtr false (.t 98) (.t 100))),pM 102 101,gT 102 (oM 103 6),gT 102 (oF 104 5 9),gT 102 (oL 105 104),gT 102 (oW 106 66 103 105),pP 107 102 106]) (.cond 107 (.ops [pM 108 3,(none,.v (.nil 109 (.t 108))),pF 110 1 109,pL 111 110,pM 112 4,pQ 113 1 111 112,pL 114 113,pM 115 8,pQ 116 1 114 115,pL 117 116,(none,.v (.bin 118 .or false (.t 117) (.c (.int .i64 2)))),pQ 119 1 114 115,(none,.e (.store 1 false (.t 119) (.t 118)))]) .skip)))))) (.ops [pA 120 43 1,pM 43 120]))))))))))) (.ops [pA 121 21 1,pM 21 121]))))))) (.seq (.ops [pM 122 3,pM 2 122]) .ret)))))
theorem ok68:FnOk E 68 123 [.tmp 2] mc68:=ofk func68
open Classical
def PlainG (h:List Acc) (i j:Nat):Prop:=i≠j/\PlainE (at' h i) (at' h j)
noncomputable def ebit (h:List Acc) (i j:Nat):Int:=(if PlainG h i j then 1 else 0)+(if Anti h i j then 2 else 0)
noncomputable def erow (h:List Acc) (i:Nat):List Int:=(List.range h.length).map fun j=>ebit h i j
noncomputable def rowA (h:List Acc) (i:Nat):AV:=.view 1 ((erow h i).map (AV.int .i64))
noncomputable def graphA (h:List Acc):AV:=.vp [.view 6 (h.map accA),.view 1 ((List.range h.length).map (rowA h))]
def nilS:AV:=.raw (.slice none 0 0)
theorem ints_get {es:List Int} {j:Nat} (h:j<es.length):(es.map (AV.int .i64))[j]?=some (.int .i64 (es.getD j 0)):=by
 simp [h]
theorem stE_int {P:Program} {m:Nat} {N:FN} {es:List Int} {id n:Nat} {E':TypeId} {v:Int} {cs:List AV} {fr:List (Nat × AV)} {H:List AObj} {q:Ke} (hn:n<es.length) (hc:cs.length=1) :
 stE P m N (some (.arr E' 1 (es.map (AV.int .i64)))) 1 cs (.int .i64 v) id 1 n 0 fr H q=rE P m N q fr (H.set id (.arr E' 1 ((es.set n v).map (AV.int .i64)))):=by
 rw [stE_flat (fun _=>trivial) hn]
 simp [hc,List.map_set]
theorem stE_at {P:Program} {m:Nat} {N:FN} {xs:List AV} {id n:Nat} {E':TypeId} {x y:AV} {cs:List AV} {fr:List (Nat × AV)} {H:List AObj} {q:Ke} (hn:xs[n]?=some y) (hy:match y with | .agg _=>False | _=>True) (hc:cs.length=1) :
 stE P m N (some (.arr E' 1 xs)) 1 cs x id 1 n 0 fr H q=rE P m N q fr (H.set id (.arr E' 1 (xs.set n x))):=by
 unfold stE
 simp only [hn]
 cases y <;> first | exact hy.elim | simp [hc]
noncomputable def rowsTo (h:List Acc) (i:Nat):List AV:=(List.range h.length).map fun k=>if k<i then rowA h k else nilS
theorem rowsTo_length (h:List Acc) (i:Nat):(rowsTo h i).length=h.length:=by simp [rowsTo]
theorem rowsTo_zero (h:List Acc):rowsTo h 0=List.replicate h.length nilS:=by
 simp [rowsTo,List.map_const']
theorem pa_nils {H:List AObj} {l:List Nat} {bor:Bool} {k n:Nat}:(List.replicate n (AV.raw (.slice none 0 0))).map (pa H l bor k)=List.replicate n nilS:=by
 simp [pa_raw,nilS]
theorem getD_set_self {es:List Int} {j:Nat} {v:Int} (h:j<es.length):(es.set j v).getD j 0=v:=by simp [h]
theorem getD_set_ne {es:List Int} {j k:Nat} {v:Int} (h:k≠j):(es.set j v).getD k 0=es.getD k 0:=by
 simp [List.getElem?_set_ne (Ne.symm h)]
theorem erow_step {h:List Acc} {i j:Nat} {es:List Int} {v:Int} (hl:es.length=h.length) (hj:j<h.length) (he:∀ k,k<h.length->es.getD k 0=if k<j then ebit h i k else 0) (hv:v=ebit h i j) :
 ∀ k,k<h.length->(es.set j v).getD k 0=if k<j+1 then ebit h i k else 0:=by
 intro k hk
 by_cases hkj:k=j
 . subst hkj;rw [getD_set_self (by omega),hv,if_pos (by omega)]
 . rw [getD_set_ne hkj,he k hk]
   split <;> split <;> first | rfl | omega
theorem erow_step0 {h:List Acc} {i j:Nat} {es:List Int} (he:∀ k,k<h.length->es.getD k 0=if k<j then ebit h i k else 0) (hv:0=ebit h i j) :
 ∀ k,k<h.length->es.getD k 0=if k<j+1 then ebit h i k else 0:=by
 intro k hk
 rw [he k hk]
 by_cases hkj:k=j
 . subst hkj;rw [if_neg (by omega),hv,if_pos (by omega)]
 . split <;> split <;> first | rfl | omega
theorem erow_done {h:List Acc} {i:Nat} {es:List Int} (hl:es.length=h.length) (he:∀ k,k<h.length->es.getD k 0=if k<h.length then ebit h i k else 0):es=erow h i:=by
 apply List.ext_getElem
 . simp [erow,hl]
 . intro k h1 h2
   have:=he k (by omega)
   rw [if_pos (by omega),getD_get h1] at this
   simp [erow,this]
theorem rowsTo_set {h:List Acc} {i:Nat} (hi:i<h.length):(rowsTo h i).set i (rowA h i)=rowsTo h (i+1):=by
 apply List.ext_getElem
 . simp [rowsTo]
 . intro k h1 h2
   rw [List.getElem_set]
   split
   . rename_i e;subst e;simp [rowsTo]
   . rename_i e
     simp only [rowsTo,List.getElem_map,List.getElem_range]
     split <;> split <;> first | rfl | omega
theorem rowsTo_all (h:List Acc):rowsTo h h.length=(List.range h.length).map (rowA h):=by
 apply List.map_congr_left
 intro k hk
 rw [if_pos (by simpa using hk)]
theorem pa_rowsTo {H:List AObj} {l:List Nat} {bor:Bool} {h:List Acc} {i n:Nat}:(rowsTo h i).map (pa H l bor n)=rowsTo h i:=by
 simp only [rowsTo,List.map_map]
 apply List.map_congr_left
 intro k _
 simp only [Function.comp,rowA,nilS]
 split <;> simp only [pa_view,pa_raw]
theorem vw_rowsTo {H:List AObj} {l:List Nat} {h:List Acc} {i n:Nat}:(rowsTo h i).map (vw H l n)=rowsTo h i:=by
 simp only [rowsTo,List.map_map]
 apply List.map_congr_left
 intro k _
 simp only [Function.comp,rowA,nilS]
 split <;> simp only [vw_view,vw_raw]
theorem or_01:IntKind.i64.wrap ((BitVec.ofInt IntKind.i64.bits 0 ||| BitVec.ofInt IntKind.i64.bits 1).toNat:Nat)=1:=by decide
theorem or_02:IntKind.i64.wrap ((BitVec.ofInt IntKind.i64.bits 0 ||| BitVec.ofInt IntKind.i64.bits 2).toNat:Nat)=2:=by decide
theorem or_12:IntKind.i64.wrap ((BitVec.ofInt IntKind.i64.bits 1 ||| BitVec.ofInt IntKind.i64.bits 2).toNat:Nat)=3:=by decide
set_option maxHeartbeats 16000000
set_option pp.maxSteps 10000
theorem c68 (h:List Acc):ACalls E.P 68 [.view 6 (h.map accA)] [] (fun r H=>r=(if checkS h=0 then graphA h else .raw (.pointer none))/\H=[]):=by
 have hmax:=maxLen_eq
 refine ok68.acalls hE hm (by simp) fun N hN=>?_
 unfold mc68 z0 pM pV pD pG pK pI pB pQ pR pS pO pF pL pP pA gF gT oM oL oF oP oN oG oQ oV oW
 repeat' (first|(with_reducible first|(apply St.o;constructor)<;>intro _|refine ai ?_|(apply Sq.o;constructor))|((with_reducible apply Sc.o true;constructor);simp only [lP,seval];refine ⟨_,c15 _,?_⟩;rintro _ _ ⟨rfl,rfl⟩;simp only [lA,lP,seval])|((with_reducible refine keep0_i ?_);simp only [lP,seval])|simp (disch:=omega) only [lE,seval])
 . rename_i h1
   simp [h1]
 rename_i hck hlm
 have hlen:h.length<=100:=by
  have:¬ Big h:=fun hb=>by simp [checkS,hb] at hck
  simp only [Big,not_or] at this;omega
 refine ⟨by omega,?_⟩
 refine loop_i (fun i:Nat=>i<=h.length) (fun i=>⟨[(0,.view 6 (h.map accA)),(3,.op 1 0),(19,.view 6 (h.map accA)),(20,.int .i64 h.length),(21,.int .i64 i)],[.arr 41 1 (rowsTo h i),.box [.view 6 (h.map accA),.slc 0 1 h.length]]⟩) (fun i=>h.length - i) 0 (by omega) (ent [0,1] false (by simp only [lP,seval,rowsTo_zero,pa_nils]<;>(try simp)<;>(try omega)) (by simp only [lP,seval,rowsTo_zero,pa_nils]<;>(try simp)<;>(try omega))) ?_
 intro i hi
 by_cases hin:i<h.length
 . have ei:∀ {m N d c},IdxR E.P m N (h.map accA) (i:Int) d c=rK E.P m N c d (.vp (accC (h.getD i default))):=IdxR_accs (by omega) (by omega)
   repeat' (first|(with_reducible first|(apply St.o;constructor)<;>intro _|refine ai ?_|(apply Sq.o;constructor))|simp (disch:=omega) only [lE,seval,ei,accC])
   . refine any_i [0] ?_
     have ep0:∀ {m N d c},epR E.P m N (some (.arr 41 1 (rowsTo h i))) (i:Int) h.length 0 1 d c=rK E.P m N c d (.ep 0 1 i 0):=epR_ne (by simp [rowsTo_length]) (by omega) (by omega)
     have st0:∀ {m N y x fr H q},stE E.P m N (some (.arr 41 1 (rowsTo h i))) 1 [y] x 0 1 i 0 fr H q=rE E.P m N q fr (H.set 0 (.arr 41 1 ((rowsTo h i).set i x))):=stE_at (y:=nilS) (by simp [rowsTo,hin]) trivial rfl
     repeat' (first|(with_reducible first|(apply St.o;constructor)<;>intro _|refine ai ?_|(apply Sq.o;constructor))|simp (disch:=omega) only [lE,seval,ep0,st0])
     refine acallN_i true ?_
     simp only [lP,seval]
     refine ⟨_,c63 _,?_⟩
     rintro _ _ ⟨rfl,rs,rb,rc,rfl,hrs⟩
     simp only [lP,seval,lA,seval,renL_trues,novL_trues]
     refine base0_i ?_
     simp only [lA,seval]
     refine acallN_i true ?_
     simp only [lP,seval]
     refine ⟨_,c63 _,?_⟩
     rintro _ _ ⟨rfl,ws,wb,wc,rfl,hws⟩
     simp only [lP,seval,lA,seval,renL_trues,novL_trues]
     repeat' (first|(with_reducible first|(apply St.o;constructor)<;>intro _|refine ai ?_|(apply Sq.o;constructor))|simp (disch:=omega) only [lE,seval])
     refine loop_i (X:=Nat × List Int) (fun x=>x.1<=h.length/\x.2.length=h.length/\∀ k,k<h.length->x.2.getD k 0=if k<x.1 then ebit h i k else 0)
      (fun x=>⟨[(0,.view 6 (h.map accA)),(3,.op 1 0),(4,.int .i64 i),(5,.op 2 0),(6,.mp 4),(7,.mp 5),(19,.view 6 (h.map accA)),(20,.int .i64 h.length),(21,.int .i64 i),(41,.view 6 (h.map accA)),(42,.int .i64 h.length),(43,.int .i64 x.1)],
        [.arr 41 1 ((rowsTo h i).set i (.slc 3 1 h.length)),.box [.view 6 (h.map accA),.slc 0 1 h.length],.box (accC (at' h i)),.arr 3 1 (x.2.map (AV.int .i64)),.map (rs.map (AV.int .i64)) (rs.map fun _=>AV.bool true) rb rc,.map (ws.map (AV.int .i64)) (ws.map fun _=>AV.bool true) wb wc]⟩)
      (fun x=>h.length - x.1) (0,List.replicate h.length 0) ⟨by simp,by simp,fun k hk=>by simp [hk]⟩ (ent [0,1,2,3,4,5] false (by simp only [lP,seval,pa_rowsTo,List.map_set,accC,at',pa_trues,List.map_replicate]<;>(try simp)<;>(try omega)) (by simp only [lP,seval,pa_rowsTo,List.map_set,accC,at',pa_trues,List.map_replicate]<;>(try simp)<;>(try omega))) ?_
     rintro ⟨j,es⟩ ⟨hj,hes,heb⟩
     simp only at hj hes heb
     by_cases hjn:j<h.length
     . have ej:∀ {m N d c},IdxR E.P m N (h.map accA) (j:Int) d c=rK E.P m N c d (.vp (accC (h.getD j default))):=IdxR_accs (by omega) (by omega)
       have h47r:∀ l,ACalls E.P 66 [setA rs,.view 1 (l.map (AV.int .i64))] [] (fun r H=>r=.bool (decide (Meet (h.getD i default).reads l))/\H=[]):=fun l=>(c66 rs l).mono fun r H ⟨h1,h2⟩=>⟨by rw [h1];congr 1;simp only [Meet,hrs,and_comm],h2⟩
       have h47w:∀ l,ACalls E.P 66 [setA ws,.view 1 (l.map (AV.int .i64))] [] (fun r H=>r=.bool (decide (Meet (h.getD i default).writes l))/\H=[]):=fun l=>(c66 ws l).mono fun r H ⟨h1,h2⟩=>⟨by rw [h1];congr 1;simp only [Meet,hws,and_comm],h2⟩
       have ep1:∀ {m N d c},epR E.P m N (some (.arr 41 1 ((rowsTo h i).set i (.slc 3 1 h.length)))) (i:Int) h.length 0 1 d c=rK E.P m N c d (.ep 0 1 i 0):=epR_ne (by simp [rowsTo_length]) (by omega) (by omega)
       have g1:((rowsTo h i).set i (.slc 3 1 h.length))[i]?=some (.slc 3 1 h.length):=by simp [rowsTo,hin]
       have ep3:∀ {m N d c},epR E.P m N (some (.arr 3 1 (es.map (AV.int .i64)))) (j:Int) h.length 3 1 d c=rK E.P m N c d (.ep 3 1 j 0):=epR_ne (by simp [hes]) (by omega) (by omega)
       have g3:(es.map (AV.int .i64))[j]?=some (.int .i64 0):=by rw [ints_get (by omega),heb j hjn,if_neg (by omega)]
       have s3:∀ {m N v y fr H q},stE E.P m N (some (.arr 3 1 (es.map (AV.int .i64)))) 1 [y] (.int .i64 v) 3 1 j 0 fr H q=rE E.P m N q fr (H.set 3 (.arr 3 1 ((es.set j v).map (AV.int .i64)))):=stE_int (by omega) rfl
       have ep4:∀ {m N d c},epR E.P m N (some (.arr 3 1 ((es.set j 1).map (AV.int .i64)))) (j:Int) h.length 3 1 d c=rK E.P m N c d (.ep 3 1 j 0):=epR_ne (by simp [hes]) (by omega) (by omega)
       have g4:((es.set j 1).map (AV.int .i64))[j]?=some (.int .i64 1):=by rw [ints_get (by simp;omega),getD_set_self (by omega)]
       have s4:∀ {m N v y fr H q},stE E.P m N (some (.arr 3 1 ((es.set j 1).map (AV.int .i64)))) 1 [y] (.int .i64 v) 3 1 j 0 fr H q=rE E.P m N q fr (H.set 3 (.arr 3 1 (((es.set j 1).set j v).map (AV.int .i64)))):=stE_int (by simp;omega) rfl
       simp only [setA] at h47r h47w
       repeat' (first|(with_reducible first|(apply St.o;constructor)<;>intro _|refine ai ?_|(apply Sq.o;constructor))|((with_reducible apply Sc.o true;constructor);simp only [lP,seval,ei,ej,accC,at',vw_trues,ep1,g1,ep3,g3,s3,ep4,g4,s4,or_01,or_02,or_12];(first|refine ⟨_,h47r _,?_⟩|refine ⟨_,h47w _,?_⟩);rintro _ _ ⟨rfl,rfl⟩;simp only [lA,lP,seval,ei,ej,accC,at',vw_trues,ep1,g1,ep3,g3,s3,ep4,g4,s4,or_01,or_02,or_12])|simp (disch:=omega) only [lE,seval,ei,ej,accC,at',vw_trues,ep1,g1,ep3,g3,s3,ep4,g4,s4,or_01,or_02,or_12])
       all_goals try (exfalso;omega)
       all_goals try (exfalso;omega)
       all_goals first
        | (refine back_i (j+1,es) ⟨by simp only;omega,hes,erow_step0 heb ?_⟩ (by simp only;omega) (ent [0,1,2,3,4,5] false (by simp only [lP,seval,pa_rowsTo,List.map_set,accC,at',pa_trues]<;>(try simp)<;>(try omega)) (by simp only [lP,seval,pa_rowsTo,List.map_set,accC,at',pa_trues]<;>(try simp)<;>(try omega)))
           simp only [ebit,PlainG,PlainE,Anti,AntiE,at'] at *
           clear ep1 g1 ep3 g3 s3 ep4 g4 s4 h47r h47w ei ej ep0 st0 heb
           grind)
        | (refine back_i (j+1,es.set j 1) ⟨by simp only;omega,by simpa using hes,erow_step hes hjn heb ?_⟩ (by simp only;omega) (ent [0,1,2,3,4,5] false (by simp only [lP,seval,pa_rowsTo,List.map_set,accC,at',pa_trues]<;>(try simp)<;>(try omega)) (by simp only [lP,seval,pa_rowsTo,List.map_set,accC,at',pa_trues]<;>(try simp)<;>(try omega)))
           simp only [ebit,PlainG,PlainE,Anti,AntiE,at'] at *
           clear ep1 g1 ep3 g3 s3 ep4 g4 s4 h47r h47w ei ej ep0 st0 heb
           grind)
        | (refine back_i (j+1,es.set j 2) ⟨by simp only;omega,by simpa using hes,erow_step hes hjn heb ?_⟩ (by simp only;omega) (ent [0,1,2,3,4,5] false (by simp only [lP,seval,pa_rowsTo,List.map_set,accC,at',pa_trues]<;>(try simp)<;>(try omega)) (by simp only [lP,seval,pa_rowsTo,List.map_set,accC,at',pa_trues]<;>(try simp)<;>(try omega)))
           simp only [ebit,PlainG,PlainE,Anti,AntiE,at'] at *
           clear ep1 g1 ep3 g3 s3 ep4 g4 s4 h47r h47w ei ej ep0 st0 heb
           grind)
        | (refine back_i (j+1,es.set j 3) ⟨by simp only;omega,by simpa using hes,erow_step hes hjn heb ?_⟩ (by simp only;omega) (ent [0,1,2,3,4,5] false (by simp only [lP,seval,pa_rowsTo,List.map_set,List.set_set,accC,at',pa_trues]<;>(try simp)<;>(try omega)) (by simp only [lP,seval,pa_rowsTo,List.map_set,List.set_set,accC,at',pa_trues]<;>(try simp)<;>(try omega)))
           simp only [ebit,PlainG,PlainE,Anti,AntiE,at'] at *
           clear ep1 g1 ep3 g3 s3 ep4 g4 s4 h47r h47w ei ej ep0 st0 heb
           grind)
     . repeat' (first|(with_reducible first|(apply St.o;constructor)<;>intro _|refine ai ?_|(apply Sq.o;constructor))|simp (disch:=omega) only [lE,seval])
       . exfalso;omega
       . have hjn:j=h.length:=by omega
         subst hjn
         have he:=erow_done hes heb
         have hv:∀ {H l n},vwS none (some (.arr 3 1 (es.map (AV.int .i64)))) H l n 1 h.length=rowA h i:=by
          intro H l n
          rw [vwS_arr (by simp [hes]),vw_ints,he];rfl
         refine back_i (i+1) (by omega) (by omega) (ent [0,1] true (by simp only [lP,seval]<;>(try simp)) ?_)
         simp only [lP,seval,List.map_set,pa_rowsTo,hv,rowsTo_set hin]
   . exfalso;omega
 . have:i=h.length:=by omega
   subst this
   repeat' (first|(with_reducible first|(apply St.o;constructor)<;>intro _|refine ai ?_|(apply Sq.o;constructor))|simp (disch:=omega) only [lE,seval])
   . exfalso;omega
   . refine keep_i [] true (by simp) (by simp) rfl ?_
     have hv:∀ {H l n},vwS none (some (.arr 41 1 (rowsTo h h.length))) H l n 1 h.length=.view 1 ((List.range h.length).map (rowA h)):=by
      intro H l n
      rw [vwS_arr (by simp [rowsTo_length]),vw_rowsTo,rowsTo_all]
     simp only [lP,seval,paR_lent,hv,hck,if_true,graphA]
def mc121:MC:=(.seq (.ops [pY 4]) (.seq (.ops [pY 5]) (.seq (.seq (.ops [pM 9 0,(none,.v (.eq 10 false .ptr (.t 9) (.c (.raw (.pointer none)))))]) (.cond 10 (.seq (.ops [pM 11 5,pM 4 11]) .ret) .skip)) (.seq (.seq (.ops [pM 12 0,(none,.v (.nil 13 (.t 12))),pF 14 0 13,pL 15 14,pG 16 15,pI 17 0]) (.block 0 (.loop (.seq (.ops [pB 18 17 16]) (.seq (.cond 18 .skip (.exit 0)) (.seq (.block 1 (.seq (.ops [pM 19 17,pM 6 19]) (.seq (.ops [pM 20 0,(none,.v (.nil 21 (.t 20))),pF 22 1 21,pL 23 22,pM 24 6,pQ 25 1 23 24,pL 26 25,pG 27 26,pI 28 0]) (.block 2 (.loop (.seq (.ops [pB 29 28 27]) (.seq (.cond 29 .skip (.exit 2)) (.seq (.block 3 (.seq (.ops [pM 30 28,pQ 31 1 26 28,pL 32 31,pM 7 30,pM 8 32]) (.seq (.ops [pM 33 8,pM 34 1,(none,.v (.bin 35 .and false (.t 33) (.t 34))),pD 36 35 0]) (.cond 36 (.ops [pM 37 5,pM 38 6,pM 39 7,(none,.v (.build 40 z3 [(0,1,.t 38),(1,1,.t 39)])),(none,.e (.mkl 41 176 2 1 (.agg z3) [(0,.t 40)])),(none,.e (.app 42 176 2 16 (.t 37) (.t 41))),pM 5 42]) .skip)))) (.ops [pA 43 28 1,pM 28 43]))))))))) (.ops [pA 44 17 1,pM 17 44]))))))) (.seq (.ops [pM 45 5,pM 4 45]) .ret)))))
theorem ok121:FnOk E 121 46 [.tmp 4] mc121:=ofk func121
open Classical
def pairA (p:Nat × Nat):AV:=.agg [.int .i64 p.1,.int .i64 p.2]
noncomputable def rowP (p:Nat->Nat->Prop) (i j:Nat):List (Nat × Nat):=((List.range j).filter fun k=>decide (p i k)).map fun k=>(i,k)
noncomputable def pairsTo (p:Nat->Nat->Prop) (n i:Nat):List (Nat × Nat):=(List.range i).flatMap fun k=>rowP p k n
theorem rowP_zero {p:Nat->Nat->Prop} {i:Nat}:rowP p i 0=[]:=rfl
theorem rowP_yes {p:Nat->Nat->Prop} {i j:Nat} (h:p i j):rowP p i (j+1)=rowP p i j++[(i,j)]:=by
 simp [rowP,List.range_succ,List.filter_append,h]
theorem rowP_no {p:Nat->Nat->Prop} {i j:Nat} (h:¬ p i j):rowP p i (j+1)=rowP p i j:=by
 simp [rowP,List.range_succ,List.filter_append,h]
theorem pairsTo_zero {p:Nat->Nat->Prop} {n:Nat}:pairsTo p n 0=[]:=rfl
theorem pairsTo_succ {p:Nat->Nat->Prop} {n i:Nat}:pairsTo p n (i+1)=pairsTo p n i++rowP p i n:=by
 simp [pairsTo,List.range_succ]
theorem rowP_len {p:Nat->Nat->Prop} {i j:Nat}:(rowP p i j).length<=j:=by
 simp only [rowP,List.length_map]
 exact Nat.le_trans (List.length_filter_le _ _) (by simp)
theorem pairsTo_len {p:Nat->Nat->Prop} {n:Nat} (hn:n<=100):∀ i,(pairsTo p n i).length<=i * 100
 | 0=>by simp [pairsTo]
 | i+1=>by
   rw [pairsTo_succ,List.length_append]
   have h1:=pairsTo_len (p:=p) hn i
   have h2:=rowP_len (p:=p) (i:=i) (j:=n)
   omega
theorem pa_pairs {H:List AObj} {l:List Nat} {bor:Bool} {n:Nat} {xs:List (Nat × Nat)}:(xs.map pairA).map (pa H l bor (n+1))=xs.map pairA:=map_same (fun x=>by simp [pairA,pa_agg,pa_int]) xs
theorem vw_pairs {H:List AObj} {l:List Nat} {n:Nat} {xs:List (Nat × Nat)}:(xs.map pairA).map (vw H l (n+1))=xs.map pairA:=map_same (fun x=>by simp [pairA,vw_agg,vw_int]) xs
theorem range_getD {n i:Nat} (h:i<n):(List.range n).getD i 0=i:=by simp [h]
theorem IdxR_rows {P:Program} {m:Nat} {N:FN} {h:List Acc} {i d:Nat} {c:Kn} (hi:i<h.length):IdxR P m N ((List.range h.length).map (rowA h)) (i:Int) d c=rK P m N c d (.vp [rowA h i]):=by
 rw [IdxR_map (f:=rowA h) (xs:=List.range h.length) (dflt:=0) (cs:=fun k=>[rowA h k]) (fun _=>rfl) (by omega) (by simp;omega),Int.toNat_natCast,range_getD hi]
theorem IdxR_erow {P:Program} {m:Nat} {N:FN} {h:List Acc} {i j d:Nat} {c:Kn} (hj:j<h.length):IdxR P m N ((erow h i).map (AV.int .i64)) (j:Int) d c=rK P m N c d (.vp [.int .i64 (ebit h i j)]):=by
 rw [IdxR_ints (by omega) (by simp [erow];omega),Int.toNat_natCast]
 simp [erow,hj]
theorem erow_length {h:List Acc} {i:Nat}:(erow h i).length=h.length:=by simp [erow]
def Kind (h:List Acc) (k:Int) (p:Nat->Nat->Prop):Prop:=∀ i j,¬ (IntKind.i64.wrap ((BitVec.ofInt IntKind.i64.bits (ebit h i j) &&& BitVec.ofInt IntKind.i64.bits k).toNat:Nat)=0)↔p i j
theorem ebit_cases (h:List Acc) (i j:Nat):(¬ PlainG h i j/\¬ Anti h i j/\ebit h i j=0)\/(PlainG h i j/\¬ Anti h i j/\ebit h i j=1)\/(¬ PlainG h i j/\Anti h i j/\ebit h i j=2)\/(PlainG h i j/\Anti h i j/\ebit h i j=3):=by
 unfold ebit
 by_cases h1:PlainG h i j <;> by_cases h2:Anti h i j <;> simp [h1,h2]
theorem kind_anti (h:List Acc):Kind h 2 (Anti h):=by
 intro i j
 rcases ebit_cases h i j with ⟨h1,h2,h3⟩ | ⟨h1,h2,h3⟩ | ⟨h1,h2,h3⟩ | ⟨h1,h2,h3⟩ <;> rw [h3] <;> simp only [h2] <;> decide
theorem edge_iff (h:List Acc) (i j:Nat):Edge h i j↔PlainG h i j\/Anti h i j:=by
 simp only [Edge,PlainG,Anti];grind
theorem c121 (h:List Acc) (k:Int) (p:Nat->Nat->Prop) (hp:Kind h k p) (hn:h.length<=100):ACalls E.P 121 [graphA h,.int .i64 k] [] (fun r H=>r=.view 2 ((pairsTo p h.length h.length).map pairA)/\H=[]):=by
 have hmax:=maxLen_eq
 refine ok121.acalls hE hm (by simp) fun N hN=>?_
 unfold mc121 z3 pY pM pF pL pG pI pB pQ pD pA
 simp only [graphA]
 repeat' (first|(with_reducible first|(apply St.o;constructor)<;>intro _|refine ai ?_|(apply Sq.o;constructor))|simp (disch:=omega) only [lE,seval])
 refine loop_i (fun i:Nat=>i<=h.length) (fun i=>⟨[(0,graphA h),(1,.int .i64 k),(5,.slc 0 2 (pairsTo p h.length i).length),(16,.int .i64 h.length),(17,.int .i64 i)],[.arr 176 2 ((pairsTo p h.length i).map pairA)]⟩) (fun i=>h.length - i) 0 (by omega)
  (Ent.ghost' 5 176 2 (by omega) rfl (ent [0] false (by simp only [lP,seval,pairsTo_zero,graphA]<;>(try simp)<;>(try omega)) (by simp only [lP,seval,pairsTo_zero,graphA]<;>(try simp)<;>(try omega)))) ?_
 intro i hi
 have hlen:=pairsTo_len (p:=p) hn i
 by_cases hin:i<h.length
 . have er:∀ {m N d c},IdxR E.P m N ((List.range h.length).map (rowA h)) (i:Int) d c=rK E.P m N c d (.vp [rowA h i]):=IdxR_rows hin
   simp only [graphA]
   repeat' (first|(with_reducible first|(apply St.o;constructor)<;>intro _|refine ai ?_|(apply Sq.o;constructor))|simp (disch:=omega) only [lE,seval,er,rowA,erow_length])
   . refine loop_i (fun j:Nat=>j<=h.length) (fun j=>⟨[(0,graphA h),(1,.int .i64 k),(5,.slc 0 2 (pairsTo p h.length i++rowP p i j).length),(6,.int .i64 i),(16,.int .i64 h.length),(17,.int .i64 i),(26,rowA h i),(27,.int .i64 h.length),(28,.int .i64 j)],[.arr 176 2 ((pairsTo p h.length i++rowP p i j).map pairA)]⟩) (fun j=>h.length - j) 0 (by omega)
      (ent [0] false (by simp only [lP,seval,rowP_zero,List.append_nil,pa_pairs,graphA,rowA]<;>(try simp)<;>(try omega)) (by simp only [lP,seval,rowP_zero,List.append_nil,pa_pairs,graphA,rowA]<;>(try simp)<;>(try omega))) ?_
     intro j hj
     have hlr:=rowP_len (p:=p) (i:=i) (j:=j)
     by_cases hjn:j<h.length
     . have ej:∀ {m N d c},IdxR E.P m N ((erow h i).map (AV.int .i64)) (j:Int) d c=rK E.P m N c d (.vp [.int .i64 (ebit h i j)]):=IdxR_erow hjn
       simp only [graphA,rowA]
       repeat' (first|(with_reducible first|(apply St.o;constructor)<;>intro _|refine ai ?_|(apply Sq.o;constructor))|simp (disch:=omega) only [lE,seval,ej,List.length_append])
       . rename_i h1 h2
         have hpj:p i j:=(hp i j).1 h2
         refine back_i (j+1) (by omega) (by omega) (ent [2] false (by simp only [lP,seval,rowP_yes hpj,List.length_append,List.length_cons,List.length_nil,graphA,rowA] <;> simp <;> omega) ?_)
         simp only [lP,seval,rowP_yes hpj,List.map_append,pa_pairs,List.append_assoc]
         simp [pairA,pa_agg,pa_int]
       . rename_i h1 h2
         have hpj:¬ p i j:=fun hp'=>(hp i j).2 hp' h2
         exact back_i (j+1) (by omega) (by omega) (ent [0] false (by simp only [lP,seval,rowP_no hpj,pa_pairs,graphA,rowA]<;>(try simp)<;>(try omega)) (by simp only [lP,seval,rowP_no hpj,pa_pairs,graphA,rowA]<;>(try simp)<;>(try omega)))
       . exfalso;omega
     . have:j=h.length:=by omega
       subst this
       simp only [graphA,rowA]
       repeat' (first|(with_reducible first|(apply St.o;constructor)<;>intro _|refine ai ?_|(apply Sq.o;constructor))|simp (disch:=omega) only [lE,seval])
       all_goals try (exfalso;omega)
       all_goals try (exfalso;omega)
       exact back_i (i+1) (by omega) (by omega) (ent [0] false (by simp only [lP,seval,pairsTo_succ,pa_pairs,graphA]<;>(try simp)<;>(try omega)) (by simp only [lP,seval,pairsTo_succ,pa_pairs,graphA]<;>(try simp)<;>(try omega)))
   . exfalso;omega
 . have:i=h.length:=by omega
   subst this
   simp only [graphA]
   repeat' (first|(with_reducible first|(apply St.o;constructor)<;>intro _|refine ai ?_|(apply Sq.o;constructor))|simp (disch:=omega) only [lE,seval])
   . exfalso;omega
   . refine keep_i [] true (by simp) (by simp) rfl ?_
     simp only [lP,seval,paR_lent,vw_pairs]
theorem checkS_len {h:List Acc} (hck:checkS h=0):h.length<=100:=by
 have:¬ Big h:=fun hb=>by simp [checkS,hb] at hck
 simp only [Big,not_or] at this;omega
open Classical
def Dang (h:List Acc) (a b c:Nat):Prop:=Anti h a b/\Anti h b c/\(at' h c).stamp<(at' h b).stamp /\
 (a=c\/(0<(at' h a).writes.length/\(at' h c).stamp<(at' h a).stamp)\/((at' h a).writes.length=0/\(at' h c).stamp<=(at' h a).snap))
theorem IdxR_at {P:Program} {m:Nat} {N:FN} {h:List Acc} {i d:Nat} {c:Kn} (hi:i<h.length):IdxR P m N (h.map accA) (i:Int) d c=rK P m N c d (.vp (accC (at' h i))):=IdxR_accs (by omega) (by omega)
end Go.Proofs.Try
