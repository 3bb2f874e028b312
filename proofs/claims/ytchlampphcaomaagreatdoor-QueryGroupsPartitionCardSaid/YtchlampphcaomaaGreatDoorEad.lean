/-
 A part of the proof: see the text of the law.
-/
import Derived.Test.YtchlampphcaomaaGreatDoorFxz
set_option linter.unusedSimpArgs false
set_option linter.unusedVariables false
namespace Go.Proofs.Try
open Go.Proofs.Tryz
open Go.Al
set_option maxRecDepth 20000
set_option maxHeartbeats 8000000
structure AG where (fn:Int) (arg:EX) deriving Inhabited
structure OD where (col:Int) (down:Bool) deriving Inhabited
structure CO where (name:ByteArray) (kind:Int) (null:Bool) deriving Inhabited
structure IX where (name:ByteArray) (cols:List Int) (uniq:Bool) deriving Inhabited
structure CK where (col op:Int) (v:VL) deriving Inhabited
structure TB where (name:ByteArray) (cols:List CO) (ixs:List IX) (cks:List CK) deriving Inhabited
structure DA where (t:TB) (rows:List (List VL)) deriving Inhabited
inductive QY where
 | mk (kind:Int) (tab:ByteArray) (subs:List QY) (cond:EX) (cols:List EX) (grp:List Int) (aggs:List AG) (ord:List OD) (n:Int)
instance:Inhabited QY:=⟨.mk 0 ByteArray.empty [] default [] [] [] [] 0⟩
def QY.kind:QY→Int | .mk k _ _ _ _ _ _ _ _=>k
def QY.tab:QY→ByteArray | .mk _ t _ _ _ _ _ _ _=>t
def QY.subs:QY→List QY | .mk _ _ s _ _ _ _ _ _=>s
def QY.cond:QY→EX | .mk _ _ _ c _ _ _ _ _=>c
def QY.cols:QY→List EX | .mk _ _ _ _ c _ _ _ _=>c
def QY.grp:QY→List Int | .mk _ _ _ _ _ g _ _ _=>g
def QY.aggs:QY→List AG | .mk _ _ _ _ _ _ a _ _=>a
def QY.ord:QY→List OD | .mk _ _ _ _ _ _ _ o _=>o
def QY.n:QY→Int | .mk _ _ _ _ _ _ _ _ n=>n
abbrev AG.cs (a:AG):List AV:=[.int .i64 a.fn,.int .i64 a.arg.op,.int .i64 a.arg.n,.int .i64 a.arg.val.k,.int .i64 a.arg.val.n,.str a.arg.val.s,.view 6 (a.arg.args.map EX.av)]
abbrev OD.cs (o:OD):List AV:=[.int .i64 o.col,.bool o.down]
abbrev CO.cs (o:CO):List AV:=[.str o.name,.int .i64 o.kind,.bool o.null]
abbrev IX.cs (o:IX):List AV:=[.str o.name,.view 1 (o.cols.map (AV.int .i64)),.bool o.uniq]
abbrev CK.cs (o:CK):List AV:=[.int .i64 o.col,.int .i64 o.op,.int .i64 o.v.k,.int .i64 o.v.n,.str o.v.s]
def AG.av (v:AG):AV:=.agg v.cs
theorem ag_av (v:AG):v.av=.agg v.cs:=rfl
theorem IdxR_ags {P:Program} {m:Nat} {N:FN} {xs:List AG} {n:Int} {d:Nat} {c:Kn} (h0:0≤n) (h1:n<xs.length):IdxR P m N (xs.map AG.av) n d c=rK P m N c d (.vp (xs.getD n.toNat default).cs) :=
 IdxR_map (cs:=AG.cs) (fun _=>rfl) h0 h1
def OD.av (v:OD):AV:=.agg v.cs
theorem IdxR_ods {P:Program} {m:Nat} {N:FN} {xs:List OD} {n:Int} {d:Nat} {c:Kn} (h0:0≤n) (h1:n<xs.length):IdxR P m N (xs.map OD.av) n d c=rK P m N c d (.vp (xs.getD n.toNat default).cs) :=
 IdxR_map (cs:=OD.cs) (fun _=>rfl) h0 h1
def CO.av (v:CO):AV:=.agg v.cs
theorem IdxR_cos {P:Program} {m:Nat} {N:FN} {xs:List CO} {n:Int} {d:Nat} {c:Kn} (h0:0≤n) (h1:n<xs.length):IdxR P m N (xs.map CO.av) n d c=rK P m N c d (.vp (xs.getD n.toNat default).cs) :=
 IdxR_map (cs:=CO.cs) (fun _=>rfl) h0 h1
def IX.av (v:IX):AV:=.agg v.cs
def CK.av (v:CK):AV:=.agg v.cs
abbrev TB.cs (t:TB):List AV:=[.str t.name,.view 3 (t.cols.map CO.av),.view 3 (t.ixs.map IX.av),.view 5 (t.cks.map CK.av)]
def TB.av (v:TB):AV:=.agg v.cs
theorem tb_av (v:TB):v.av=.agg v.cs:=rfl
theorem vw_tb {H:List AObj} {l:List Nat} {n:Nat} (v:TB):vw H l (n+1) v.av=v.av:=by simp [TB.av,vw_agg,vw_int,vw_bool,vw_str,vw_view]
theorem pa_tb {H:List AObj} {l:List Nat} {bor:Bool} {n:Nat} (v:TB):pa H l bor (n+1) v.av=v.av:=by simp [TB.av,pa_agg,pa_int,pa_bool,pa_str,pa_view]
theorem vw_tbs {H:List AObj} {l:List Nat} {n:Nat} {xs:List TB}:(xs.map TB.av).map (vw H l (n+1))=xs.map TB.av:=map_same vw_tb xs
theorem pa_tbs {H:List AObj} {l:List Nat} {bor:Bool} {n:Nat} {xs:List TB}:(xs.map TB.av).map (pa H l bor (n+1))=xs.map TB.av:=map_same pa_tb xs
theorem IdxR_tbs {P:Program} {m:Nat} {N:FN} {xs:List TB} {n:Int} {d:Nat} {c:Kn} (h0:0≤n) (h1:n<xs.length):IdxR P m N (xs.map TB.av) n d c=rK P m N c d (.vp (xs.getD n.toNat default).cs) :=
 IdxR_map (cs:=TB.cs) (fun _=>rfl) h0 h1
abbrev rowsV (l:List (List VL)):AV:=.view 1 (l.map rowV)
abbrev DA.cs (d:DA):List AV:=[.str d.t.name,.view 3 (d.t.cols.map CO.av),.view 3 (d.t.ixs.map IX.av),.view 5 (d.t.cks.map CK.av),rowsV d.rows]
def DA.av (v:DA):AV:=.agg v.cs
theorem da_av (v:DA):v.av=.agg v.cs:=rfl
theorem IdxR_das {P:Program} {m:Nat} {N:FN} {xs:List DA} {n:Int} {d:Nat} {c:Kn} (h0:0≤n) (h1:n<xs.length):IdxR P m N (xs.map DA.av) n d c=rK P m N c d (.vp (xs.getD n.toNat default).cs) :=
 IdxR_map (cs:=DA.cs) (fun _=>rfl) h0 h1
theorem vw_rows {H:List AObj} {l:List Nat} {n:Nat} {xs:List (List VL)}:(xs.map rowV).map (vw H l n)=xs.map rowV:=map_same (fun _=>vw_view) xs
theorem pa_rows {H:List AObj} {l:List Nat} {bor:Bool} {n:Nat} {xs:List (List VL)}:(xs.map rowV).map (pa H l bor n)=xs.map rowV:=map_same (fun _=>pa_view) xs
theorem renL_rows {ρ:Nat→Nat} {xs:List (List VL)}:renL ρ (xs.map rowV)=xs.map rowV:=renL_map (fun _=>rfl) xs
theorem IdxR_rows {P:Program} {m:Nat} {N:FN} {xs:List (List VL)} {n:Int} {d:Nat} {c:Kn} (h0:0≤n) (h1:n<xs.length):IdxR P m N (xs.map rowV) n d c=rK P m N c d (.vp [rowV (xs.getD n.toNat default)]) :=
 IdxR_map (cs:=fun r=>[rowV r]) (fun _=>rfl) h0 h1
mutual
def QY.av:QY→AV
 | .mk k t s c cols g a o n=>.agg [.int .i64 k,.str t,.view 14 (QY.avL s),.int .i64 c.op,.int .i64 c.n,.int .i64 c.val.k,.int .i64 c.val.n,.str c.val.s,.view 6 (c.args.map EX.av),.view 6 (cols.map EX.av),.view 1 (g.map (AV.int .i64)),.view 7 (a.map AG.av),.view 2 (o.map OD.av),.int .i64 n]
def QY.avL:List QY→List AV
 | []=>[]
 | q::l=>q.av::QY.avL l
end
theorem qavL_map:∀ (l:List QY),QY.avL l=l.map QY.av
 | []=>rfl
 | e::es=>by rw [QY.avL,qavL_map es];rfl
abbrev QY.cs (q:QY):List AV:=[.int .i64 q.kind,.str q.tab,.view 14 (q.subs.map QY.av),.int .i64 q.cond.op,.int .i64 q.cond.n,.int .i64 q.cond.val.k,.int .i64 q.cond.val.n,.str q.cond.val.s,.view 6 (q.cond.args.map EX.av),.view 6 (q.cols.map EX.av),.view 1 (q.grp.map (AV.int .i64)),.view 7 (q.aggs.map AG.av),.view 2 (q.ord.map OD.av),.int .i64 q.n]
theorem q_av (q:QY):q.av=.agg q.cs:=by cases q;simp [QY.av,QY.cs,QY.kind,QY.tab,QY.subs,QY.cond,QY.cols,QY.grp,QY.aggs,QY.ord,QY.n,qavL_map]
theorem IdxR_qs {P:Program} {m:Nat} {N:FN} {xs:List QY} {n:Int} {d:Nat} {c:Kn} (h0:0≤n) (h1:n<xs.length):IdxR P m N (xs.map QY.av) n d c=rK P m N c d (.vp (xs.getD n.toNat default).cs) :=
 IdxR_map (cs:=QY.cs) (fun e=>by rw [q_av];rfl) h0 h1
theorem size_subs {q:QY} {i:Nat} (h:i<q.subs.length):SizeOf.sizeOf (q.subs.getD i default)<SizeOf.sizeOf q:=by
 obtain ⟨k,t,s,c,cols,g,a,o,n⟩:=q
 simp only [QY.subs] at *
 have:=List.sizeOf_lt_of_mem (List.getElem_mem h)
 simp only [List.getD_eq_getElem?_getD,h,List.getElem?_eq_getElem,Option.getD_some,QY.mk.sizeOf_spec] at *
 omega
theorem q_ind {p:QY→Prop} (h:∀ q,(∀ i,i<q.subs.length→p (q.subs.getD i default))→p q) (q:QY):p q:=by
 generalize hs:SizeOf.sizeOf q=s
 induction s using Nat.strongRecOn generalizing q with
 | _ s ih=>exact h q fun i hi=>ih _ (by subst hs;exact size_subs hi) _ rfl
theorem ti33:E.TI 33=some ⟨.struct [(0,3),(1,9),(2,23),(3,28),(9,26),(10,29),(11,30),(12,31),(13,3)],14,224,[.int .i64 0,.string ByteArray.empty,.slice none 0 0,.int .i64 0,.int .i64 0,.int .i64 0,.int .i64 0,.string ByteArray.empty,.slice none 0 0,.slice none 0 0,.slice none 0 0,.slice none 0 0,.slice none 0 0,.int .i64 0],true,true,false⟩:=rfl
mutual
def QY.count:QY→Nat
 | .mk _ _ s _ _ _ _ _ _=>1+QY.countL s
def QY.countL:List QY→Nat
 | []=>0
 | q::l=>q.count+QY.countL l
end
mutual
def QY.joins:QY→Nat
 | .mk k _ s _ _ _ _ _ _=>(if k=4 then 1 else 0)+QY.joinsL s
def QY.joinsL:List QY→Nat
 | []=>0
 | q::l=>q.joins+QY.joinsL l
end
theorem qcount_eq (q:QY):q.count=1+QY.countL q.subs:=by cases q;rfl
theorem joins_eq (q:QY):q.joins=(if q.kind=4 then 1 else 0)+QY.joinsL q.subs:=by cases q;rfl
theorem sum_take {f:List QY→Nat} {g:QY→Nat} (h0:f []=0) (hf:∀ q l,f (q::l)=g q+f l) {l:List QY} {i:Nat} (h:i<l.length):f (l.take (i+1))=f (l.take i)+g (l.getD i default):=by
 rw [List.take_succ_eq_append_getElem h]
 have:∀ a b:List QY,f (a++b)=f a+f b:=fun a b=>by
  induction a with
  | nil=>simp [h0]
  | cons x a ih=>simp [hf,ih];omega
 rw [this]
 simp [hf,h0,h]
set_option maxRecDepth 100000
def mc9:MC:=(.seq (.ops [pK 4 1,pZ 6]) (.seq (.ops [pM 7 0,pM 8 2,pW 9 40 7 8,pM 10 9,gT 10 (oR 11 14 4),gT 10 (oV 12 10 11),(some (10,true),.v (.bin 13 .leq false (.t 12) (.c (.int .i64 60)))),pP 14 10 13,pM 15 14,gT 15 (oR 16 14 4),gT 15 (oV 17 11 16),(some (15,true),.v (.bin 18 .leq false (.t 17) (.c (.int .i64 3)))),pP 19 15 18,pM 6 19]) .ret))
theorem ok9:FnOk E 9 20 [.tmp 6] mc9:=ofk func9
def mc10:MC:=(.seq (.ops [pK 1 0,pI 2 0]) (.seq (.ops [pI 3 1]) (.seq (.seq (.ops [pI 4 0]) (.block 0 (.loop (.seq (.seq (.ops [pM 5 4,pF 6 2 1,pL 7 6,pG 8 7,pB 9 5 8]) (.cond 9 .skip (.exit 0))) (.seq (.block 1 (.ops [pM 12 3,pF 13 2 1,pL 14 13,pM 15 4,pQ 16 14 14 15,pR 17 14 16,pV 18 10 17,(none,.v (.bin 19 .add false (.t 12) (.t 18))),pM 3 19])) (.ops [pM 10 4,pA 11 10 1,pM 4 11])))))) (.seq (.ops [pM 20 3,pM 2 20]) .ret))))
theorem ok10:FnOk E 10 21 [.tmp 2] mc10:=ofk func10
def mc11:MC:=(.seq (.ops [pK 1 0,pI 2 0]) (.seq (.ops [pI 3 0]) (.seq (.seq (.ops [pF 5 0 1,pL 6 5,pE 7 6 4]) (.cond 7 (.ops [pI 3 1]) .skip)) (.seq (.seq (.ops [pI 4 0]) (.block 0 (.loop (.seq (.seq (.ops [pM 8 4,pF 9 2 1,pL 10 9,pG 11 10,pB 12 8 11]) (.cond 12 .skip (.exit 0))) (.seq (.block 1 (.ops [pM 15 3,pF 16 2 1,pL 17 16,pM 18 4,pQ 19 14 17 18,pR 20 14 19,pV 21 11 20,(none,.v (.bin 22 .add false (.t 15) (.t 21))),pM 3 22])) (.ops [pM 13 4,pA 14 13 1,pM 4 14])))))) (.seq (.ops [pM 23 3,pM 2 23]) .ret)))))
theorem ok11:FnOk E 11 24 [.tmp 2] mc11:=ofk func11
def mc17:MC:=(.seq (.ops [pY 2]) (.seq (.ops [pY 3]) (.seq (.seq (.ops [pI 4 0]) (.block 0 (.loop (.seq (.seq (.ops [pM 5 4,pM 6 0,pG 7 6,pB 8 5 7]) (.cond 8 .skip (.exit 0))) (.seq (.block 1 (.ops [pM 11 3,pM 12 0,pM 13 4,pQ 14 5 12 13,pF 15 0 14,pR 16 4 15,(none,.e (.mkl 17 56 4 1 (.agg z5) [(0,.t 16)])),(none,.e (.app 18 56 4 88 (.t 11) (.t 17))),pM 3 18])) (.ops [pM 9 4,pA 10 9 1,pM 4 10])))))) (.seq (.ops [pM 19 3,pM 2 19]) .ret))))
theorem ok17:FnOk E 17 20 [.tmp 2] mc17:=ofk func17
def mc26:MC:=(.seq (.ops [pK 1 0,pI 2 0]) (.seq (.ops [pI 3 1]) (.seq (.seq (.ops [pF 6 2 1,pL 7 6,pG 8 7,pI 9 0]) (.block 0 (.loop (.seq (.ops [pB 10 9 8]) (.seq (.cond 10 .skip (.exit 0)) (.seq (.block 1 (.seq (.ops [pQ 11 14 7 9,pR 12 14 11,(none,.e (.alloc 5 z0)),pS 14 5 12]) (.ops [pM 13 3,pR 14 14 5,pV 15 26 14,(none,.v (.bin 16 .add false (.t 13) (.t 15))),pM 3 16]))) (.ops [pA 17 9 1,pM 9 17]))))))) (.seq (.ops [pM 18 3,pM 2 18]) .ret))))
theorem ok26:FnOk E 26 19 [.tmp 2] mc26:=ofk func26
abbrev q40_0:MI:=oZ 4
def mc40:MC:=(.seq (.ops [(none,q40_0)]) (.seq (.seq (.ops [pM 7 0,pG 8 7,(none,.v (.bin 9 .gtr false (.t 8) (.c (.int .i64 4))))]) (.cond 9 (.seq (.ops [(none,q40_0)]) .ret) .skip)) (.seq (.seq (.ops [pI 5 0]) (.block 0 (.loop (.seq (.seq (.ops [pM 10 5,pM 11 0,pG 12 11,pB 13 10 12]) (.cond 13 .skip (.exit 0))) (.seq (.block 1 (.seq (.ops [pM 16 0,pM 17 5,pQ 18 5 16 17,pR 19 5 18,pV 20 68 19,pM 6 20]) (.seq (.ops [pM 21 6,pN 22 21,pM 23 22,gF 23 (oM 24 0),gF 23 (oM 25 5),gF 23 (oQ 26 5 24 25),gF 23 (oF 27 0 26),gF 23 (oF 28 1 27),gF 23 (oL 29 28),gF 23 (oG 30 29),(some (23,false),.v (.bin 31 .gtr false (.t 30) (.c (.int .i64 8)))),pO 32 23 31,pM 33 32,gF 33 (oM 34 0),gF 33 (oM 35 5),gF 33 (oQ 36 5 34 35),gF 33 (oF 37 4 36),gF 33 (oL 38 37),gF 33 (oG 39 38),gF 33 (oM 40 1),(some (33,false),.v (.bin 41 .gtr false (.t 39) (.t 40))),pO 42 33 41]) (.cond 42 (.seq (.ops [(none,q40_0)]) .ret) .skip)))) (.ops [pM 14 5,pA 15 14 1,pM 5 15])))))) (.seq (.ops [(none,.v (.mov 4 (.c (.bool true))))]) .ret))))
theorem ok40:FnOk E 40 43 [.tmp 4] mc40:=ofk func40
def mc68:MC:=(.seq (.ops [pK 1 0,pZ 2]) (.seq (.ops [pY 3]) (.seq (.seq (.ops [pI 4 0]) (.block 0 (.loop (.seq (.seq (.ops [pM 7 4,pF 8 0 1,pF 9 1 8,pL 10 9,pG 11 10,pB 12 7 11]) (.cond 12 .skip (.exit 0))) (.seq (.block 1 (.ops [pM 15 3,pF 16 0 1,pF 17 1 16,pL 18 17,pM 19 4,pQ 20 3 18 19,pF 21 1 20,pL 22 21,(none,.e (.mkl 23 3 1 1 (.int .i64 0) [(0,.t 22)])),(none,.e (.app 24 3 1 8 (.t 15) (.t 23))),pM 3 24])) (.ops [pM 13 4,pA 14 13 1,pM 4 14])))))) (.seq (.seq (.ops [pI 5 0]) (.block 2 (.loop (.seq (.seq (.ops [pM 25 5,pF 26 4 1,pL 27 26,pG 28 27,pB 29 25 28]) (.cond 29 .skip (.exit 2))) (.seq (.block 3 (.seq (.ops [pM 32 3,pF 33 4 1,pL 34 33,pM 35 5,pQ 36 1 34 35,pL 37 36,pW 38 108 32 37,pM 6 38]) (.seq (.ops [pM 39 6,pN 40 39]) (.cond 40 (.seq (.ops [pZ 2]) .ret) .skip)))) (.ops [pM 30 5,pA 31 30 1,pM 5 31])))))) (.seq (.ops [(none,.v (.mov 2 (.c (.bool true))))]) .ret)))))
theorem ok68:FnOk E 68 41 [.tmp 2] mc68:=ofk func68
set_option maxRecDepth 20000
theorem wrap0:IntKind.i64.wrap 0=0:=rfl
theorem wrap0n:IntKind.i64.wrap ((0:Nat):Int)=0:=rfl
theorem wrap_next (a b c d:Nat) (h:a+b=c+d):IntKind.i64.wrap (IntKind.i64.wrap (a:Nat)+IntKind.i64.wrap (b:Nat))=IntKind.i64.wrap ((c+d:Nat):Int):=by
 rw [wrap_wrap,← h];congr 1
theorem c10 (q:QY):ACalls E.P 10 [q.av] [] (fun r H=>r=.int .i64 (IntKind.i64.wrap q.count)∧H=[]):=by
 have hmax:=maxLen_eq
 refine q_ind (p:=fun q=>ACalls E.P 10 [q.av] [] (fun r H=>r=.int .i64 (IntKind.i64.wrap q.count)∧H=[])) (fun q ih=>?_) q
 refine ok10.acalls hE hm (by simp) fun N hN=>?_
 unfold mc10 pK pI pM pF pL pG pB pQ pR pV pA
 simp only [lA,seval,q_av]
 refine loop_i (fun i:Nat=>i≤q.subs.length) (fun i=>⟨[(1,.op 0 0),(3,.int .i64 (IntKind.i64.wrap (1+QY.countL (q.subs.take i):Nat))),(4,.int .i64 i)],[.box q.cs]⟩) (fun i=>q.subs.length - i) 0 (by omega) (ent [0] false (by simp only [lP,seval,List.take_zero,QY.countL,wrap1,wrap1n,Nat.add_zero]<;>(try simp)<;>(try omega)) (by simp only [lP,seval,List.take_zero,QY.countL,wrap1,wrap1n,Nat.add_zero]<;>(try simp)<;>(try omega))) ?_
 intro i hi
 by_cases hin:i<q.subs.length
 · have hrec:=ih i hin
   simp only [q_av] at hrec
   have hlt:((i:Int)<(q.subs.length:Int)):=by omega
   repeat' (first|(with_reducible first|(apply St.o;constructor)<;>intro _|refine And.intro (by omega) ?_|(apply Sq.o;constructor))|((with_reducible apply Sc.o true;constructor);simp only [lP,seval,IdxR_qs,Int.toNat_natCast,List.length_map,hlt,decide_true];refine ⟨_,hrec,?_⟩;rintro _ _ ⟨rfl,rfl⟩;simp only [lA,lP,seval,IdxR_qs,Int.toNat_natCast,List.length_map,hlt,decide_true])|((with_reducible refine keep0_i ?_);simp only [lP,seval])|simp (disch:=omega) only [lE,seval,IdxR_qs,Int.toNat_natCast,List.length_map,hlt,decide_true])
   refine back_i (i+1) (by omega) (by omega) ?_
   have e1:=wrap_next (1+QY.countL (q.subs.take i)) (q.subs.getD i default).count 1 (QY.countL (q.subs.take (i+1))) (by rw [sum_take (f:=QY.countL) rfl (fun _ _=>rfl) hin];omega)
   exact (ent [0] false (by simp only [lP,seval,e1]<;>(try simp)<;>(try omega)) (by simp only [lP,seval]))
 · obtain rfl:i=q.subs.length:=by omega
   repeat' (first|(with_reducible first|(apply St.o;constructor)<;>intro _|refine And.intro (by omega) ?_|(apply Sq.o;constructor))|((with_reducible refine keep0_i ?_);simp only [lP,seval])|simp (disch:=omega) only [lE,seval,List.length_map,Int.lt_irrefl,decide_false,List.take_length])
   all_goals simp [qcount_eq]
theorem c26 (q:QY):ACalls E.P 26 [q.av] [] (fun r H=>r=.int .i64 (IntKind.i64.wrap q.count)∧H=[]):=by
 have hmax:=maxLen_eq
 refine q_ind (p:=fun q=>ACalls E.P 26 [q.av] [] (fun r H=>r=.int .i64 (IntKind.i64.wrap q.count)∧H=[])) (fun q ih=>?_) q
 refine ok26.acalls hE hm (by simp) fun N hN=>?_
 unfold mc26 z0 pK pI pF pL pG pB pQ pR pS pM pV pA
 simp only [lA,seval,q_av]
 refine LenR_i fun hll=>?_
 rw [List.length_map,hmax] at hll
 simp only [lA,seval,List.length_map]
 refine loop_i (fun i:Nat=>i≤q.subs.length) (fun i=>⟨[(1,.op 0 0),(3,.int .i64 (IntKind.i64.wrap (1+QY.countL (q.subs.take i):Nat))),(7,.view 14 (q.subs.map QY.av)),(8,.int .i64 q.subs.length),(9,.int .i64 i)],[.box q.cs]⟩) (fun i=>q.subs.length - i) 0 (by omega) (ent [0] false (by simp only [lP,seval,List.take_zero,QY.countL,wrap1,wrap1n,Nat.add_zero]<;>(try simp)<;>(try omega)) (by simp only [lP,seval,List.take_zero,QY.countL,wrap1,wrap1n,Nat.add_zero]<;>(try simp)<;>(try omega))) ?_
 intro i hi
 by_cases hin:i<q.subs.length
 · have hrec:=ih i hin
   simp only [q_av] at hrec
   have hlt:((i:Int)<(q.subs.length:Int)):=by omega
   repeat' (first|(with_reducible first|(apply St.o;constructor)<;>intro _|refine And.intro (by omega) ?_|(apply Sq.o;constructor))|((with_reducible apply Sc.o true;constructor);simp only [lP,seval,IdxR_qs,Int.toNat_natCast,List.length_map,hlt,decide_true];refine ⟨_,hrec,?_⟩;rintro _ _ ⟨rfl,rfl⟩;simp only [lA,lP,seval,IdxR_qs,Int.toNat_natCast,List.length_map,hlt,decide_true])|((with_reducible refine keep0_i ?_);simp only [lP,seval])|simp (disch:=omega) only [lE,seval,IdxR_qs,Int.toNat_natCast,List.length_map,hlt,decide_true])
   refine back_i (i+1) (by omega) (by omega) ?_
   have e1:=wrap_next (1+QY.countL (q.subs.take i)) (q.subs.getD i default).count 1 (QY.countL (q.subs.take (i+1))) (by rw [sum_take (f:=QY.countL) rfl (fun _ _=>rfl) hin];omega)
   exact (ent [0] false (by simp only [lP,seval,e1]<;>(try simp)<;>(try omega)) (by simp only [lP,seval]))
 · obtain rfl:i=q.subs.length:=by omega
   repeat' (first|(with_reducible first|(apply St.o;constructor)<;>intro _|refine And.intro (by omega) ?_|(apply Sq.o;constructor))|((with_reducible refine keep0_i ?_);simp only [lP,seval])|simp (disch:=omega) only [lE,seval,List.length_map,Int.lt_irrefl,decide_false,List.take_length])
   all_goals simp [qcount_eq]
theorem c11 (q:QY):ACalls E.P 11 [q.av] [] (fun r H=>r=.int .i64 (IntKind.i64.wrap q.joins)∧H=[]):=by
 have hmax:=maxLen_eq
 refine q_ind (p:=fun q=>ACalls E.P 11 [q.av] [] (fun r H=>r=.int .i64 (IntKind.i64.wrap q.joins)∧H=[])) (fun q ih=>?_) q
 refine ok11.acalls hE hm (by simp) fun N hN=>?_
 unfold mc11 pK pI pF pL pE pM pG pB pQ pR pV pA
 simp only [lA,seval,q_av]
 repeat' (first|(with_reducible first|(apply St.o;constructor)<;>intro _|refine And.intro (by omega) ?_|(apply Sq.o;constructor))|simp (disch:=omega) only [lE,seval])
 all_goals
  rename_i hk
  refine loop_i (fun i:Nat=>i≤q.subs.length) (fun i=>⟨[(1,.op 0 0),(3,.int .i64 (IntKind.i64.wrap ((if q.kind=4 then 1 else 0)+QY.joinsL (q.subs.take i):Nat))),(4,.int .i64 i)],[.box q.cs]⟩) (fun i=>q.subs.length - i) 0 (by omega) (ent [0] false (by simp only [lP,seval,List.take_zero,QY.joinsL,wrap1,wrap1n,wrap0,wrap0n,Nat.add_zero,hk,if_true,if_false]<;>(try simp)<;>(try omega)) (by simp only [lP,seval,List.take_zero,QY.joinsL,wrap1,wrap1n,wrap0,wrap0n,Nat.add_zero,hk,if_true,if_false]<;>(try simp)<;>(try omega))) ?_
  intro i hi
  by_cases hin:i<q.subs.length
  · have hrec:=ih i hin
    simp only [q_av] at hrec
    have hlt:((i:Int)<(q.subs.length:Int)):=by omega
    repeat' (first|(with_reducible first|(apply St.o;constructor)<;>intro _|refine And.intro (by omega) ?_|(apply Sq.o;constructor))|((with_reducible apply Sc.o true;constructor);simp only [lP,seval,IdxR_qs,Int.toNat_natCast,List.length_map,hlt,decide_true];refine ⟨_,hrec,?_⟩;rintro _ _ ⟨rfl,rfl⟩;simp only [lA,lP,seval,IdxR_qs,Int.toNat_natCast,List.length_map,hlt,decide_true])|((with_reducible refine keep0_i ?_);simp only [lP,seval])|simp (disch:=omega) only [lE,seval,IdxR_qs,Int.toNat_natCast,List.length_map,hlt,decide_true])
    refine back_i (i+1) (by omega) (by omega) ?_
    have e1:=wrap_next ((if q.kind=4 then 1 else 0)+QY.joinsL (q.subs.take i)) (q.subs.getD i default).joins (if q.kind=4 then 1 else 0) (QY.joinsL (q.subs.take (i+1))) (by rw [sum_take (f:=QY.joinsL) rfl (fun _ _=>rfl) hin];omega)
    exact (ent [0] false (by simp only [lP,seval,e1]<;>(try simp)<;>(try omega)) (by simp only [lP,seval]))
  · obtain rfl:i=q.subs.length:=by omega
    repeat' (first|(with_reducible first|(apply St.o;constructor)<;>intro _|refine And.intro (by omega) ?_|(apply Sq.o;constructor))|((with_reducible refine keep0_i ?_);simp only [lP,seval])|simp (disch:=omega) only [lE,seval,List.length_map,Int.lt_irrefl,decide_false,List.take_length])
    all_goals simp [joins_eq,hk]
theorem keep_b {b b':Bool} {H:List AObj} (h:b=b'):keepQ 0 (fun r H=>r=.bool b'∧H=[]) (.bool b) H:=by
 subst h;exact keep0_i ⟨rfl,rfl⟩
theorem keep_n {b b':Int} {H:List AObj} (h:b=b'):keepQ 0 (fun r H=>r=.int .i64 b'∧H=[]) (.int .i64 b) H:=by
 subst h;exact keep0_i ⟨rfl,rfl⟩
def DA.tb (d:DA):AV:=d.t.av
theorem pa_tbd {H:List AObj} {l:List Nat} {bor:Bool} {n:Nat} {xs:List DA}:(xs.map DA.tb).map (pa H l bor (n+1))=xs.map DA.tb:=map_same (fun d=>pa_tb d.t) xs
theorem take_map1 {α:Type} [Inhabited α] {f:α→AV} {l:List α} {i:Nat} (h:i<l.length):(l.take (i+1)).map f=(l.take i).map f++[f (l.getD i default)]:=by
 rw [List.take_succ_eq_append_getElem h,List.map_append]
 simp [h]
theorem c17 (db:List DA) (hl:db.length≤1000000):ACalls E.P 17 [.view 5 (db.map DA.av)] [] (fun r H=>r=.view 4 ((db.map DA.t).map TB.av)∧H=[]):=by
 have hmax:=maxLen_eq
 refine ok17.acalls hE hm (by simp) fun N hN=>?_
 unfold mc17 z5 pY pI pM pG pB pQ pF pR pA
 simp only [lA,seval]
 refine loop_i (fun i:Nat=>i≤db.length) (fun i=>⟨[(0,.view 5 (db.map DA.av)),(3,.slc 0 4 i),(4,.int .i64 i)],[.arr 56 4 ((db.take i).map DA.tb)]⟩) (fun i=>db.length - i) 0 (by omega) (Ent.ghost' 3 56 4 (by omega) rfl (ent [0] false)) ?_
 intro i hi
 have hlen:(db.take i).length=i:=by simp;omega
 by_cases hin:i<db.length
 · have hlt:((i:Int)<(db.length:Int)):=by omega
   repeat' (first|(with_reducible first|(apply St.o;constructor)<;>intro _|refine And.intro (by omega) ?_|(apply Sq.o;constructor))|((with_reducible refine keep0_i ?_);simp only [lP,seval])|simp (disch:=omega) only [lE,seval,IdxR_das,Int.toNat_natCast,List.length_map,hlt,decide_true,hlen])
   refine back_i (i+1) (by omega) (by omega) ?_
   have ht:=take_map1 (f:=DA.tb) hin
   rw [ht]
   exact (ent [2] false (by simp only [lP,seval,pa_tbd,hlen,List.map_append,DA.tb,tb_av]<;>(try simp)<;>(try omega)) (by simp only [lP,seval,pa_tbd,hlen,List.map_append,DA.tb,tb_av]<;>(try simp)<;>(try omega)))
 · obtain rfl:i=db.length:=by omega
   repeat' (first|(with_reducible first|(apply St.o;constructor)<;>intro _|refine And.intro (by omega) ?_|(apply Sq.o;constructor))|simp (disch:=omega) only [lE,seval,List.length_map,Int.lt_irrefl,decide_false,List.take_length])
   all_goals
    rw [show db.map DA.tb=(db.map DA.t).map TB.av by rw [List.map_map];rfl]
    refine keep_i [] true (by simp) (by simp) rfl ?_
    simp only [lP,seval,pa_tbs,vw_tbs,List.length_map]
def DA.right (d:DA):Prop:=∀ r ∈ d.rows,OfR (d.t.cols.map CO.kind) r
noncomputable def fewB (db:List DA) (m:Int):Bool:=@decide (db.length≤4∧∀ d ∈ db,d.right∧d.t.cols.length≤8∧(d.rows.length:Int)≤m) (Classical.propDecidable _)
noncomputable def rightD (d:DA):Bool:=@decide d.right (Classical.propDecidable _)
theorem rightD_iff {d:DA}:rightD d=true↔d.right:=by simp [rightD]
theorem rightD_false {d:DA}:rightD d=false↔¬ d.right:=by simp [rightD]
theorem take_ints {α:Type} [Inhabited α] {f:α→Int} {l:List α} {i:Nat} (h:i<l.length):((l.take (i+1)).map f).map (AV.int .i64)=((l.take i).map f).map (AV.int .i64)++[.int .i64 (f (l.getD i default))]:=by
 rw [List.take_succ_eq_append_getElem h,List.map_append,List.map_append]
 simp [h]
theorem c68 (d:DA) (hc:d.t.cols.length≤5000000000000):ACalls E.P 68 [d.av] [] (fun r H=>r=.bool (rightD d)∧H=[]):=by
 have hmax:=maxLen_eq
 have h108:=fun r=>c108 (d.t.cols.map CO.kind) r
 refine ok68.acalls hE hm (by simp) fun N hN=>?_
 unfold mc68 pK pZ pY pI pM pF pL pG pB pQ pA pW pN
 simp only [lA,seval,da_av]
 refine loop_i (fun i:Nat=>i≤d.t.cols.length) (fun i=>⟨[(1,.op 0 0),(3,.slc 1 1 i),(4,.int .i64 i)],[.box d.cs,.arr 3 1 (((d.t.cols.take i).map CO.kind).map (AV.int .i64))]⟩) (fun i=>d.t.cols.length - i) 0 (by omega) (Ent.ghost' 3 3 1 (by omega) rfl (ent [0,1] false)) ?_
 intro i hi
 have hlen:(d.t.cols.take i).length=i:=by simp;omega
 by_cases hin:i<d.t.cols.length
 · have hlt:((i:Int)<(d.t.cols.length:Int)):=by omega
   repeat' (first|(with_reducible first|(apply St.o;constructor)<;>intro _|refine And.intro (by omega) ?_|(apply Sq.o;constructor))|((with_reducible refine keep0_i ?_);simp only [lP,seval])|simp (disch:=omega) only [lE,seval,IdxR_cos,Int.toNat_natCast,List.length_map,hlt,decide_true,hlen])
   refine back_i (i+1) (by omega) (by omega) ?_
   rw [take_ints hin]
   exact (ent [0,3] false (by simp only [lP,seval,hlen,List.map_append]<;>(try simp)<;>(try omega)) (by simp only [lP,seval,hlen,List.map_append]<;>(try simp)<;>(try omega)))
 · obtain rfl:i=d.t.cols.length:=by omega
   rw [List.take_length]
   repeat' (first|(with_reducible first|(apply St.o;constructor)<;>intro _|refine And.intro (by omega) ?_|(apply Sq.o;constructor))|simp (disch:=omega) only [lE,seval,List.length_map,Int.lt_irrefl,decide_false])
   all_goals
    refine loop_i (fun i:Nat=>i≤d.rows.length∧∀ r ∈ d.rows.take i,OfR (d.t.cols.map CO.kind) r) (fun i=>⟨[(1,.op 0 0),(3,ksV (d.t.cols.map CO.kind)),(5,.int .i64 i)],[.box d.cs]⟩) (fun i=>d.rows.length - i) 0 ⟨by omega,by simp⟩ (ent [0] true) ?_
    rintro i ⟨hi,ho⟩
    by_cases hir:i<d.rows.length
    · have hlt2:((i:Int)<(d.rows.length:Int)):=by omega
      have h108:=h108 (d.rows.getD i default)
      repeat' (first|(with_reducible first|(apply St.o;constructor)<;>intro _|refine And.intro (by omega) ?_|(apply Sq.o;constructor))|((with_reducible apply Sc.o true;constructor);simp only [lP,seval,IdxR_rows,Int.toNat_natCast,List.length_map,hlt2,decide_true];refine ⟨_,h108,?_⟩;rintro _ _ ⟨rfl,rfl⟩;simp only [lA,lP,seval,IdxR_rows,Int.toNat_natCast,List.length_map,hlt2,decide_true])|((with_reducible refine keep0_i ?_);simp only [lP,seval])|simp (disch:=omega) only [lE,seval,IdxR_rows,Int.toNat_natCast,List.length_map,hlt2,decide_true])
      · rename_i hx
        have:rightD d=false:=rightD_false.2 fun h=>by
         simp at hx
         exact hx (h _ (by simp [hir]))
        simp [this]
      · rename_i hx
        simp at hx
        refine back_i (i+1) ⟨by omega,?_⟩ (by omega) (ent [0] true)
        rw [List.take_succ_eq_append_getElem hir]
        intro r hr
        rcases List.mem_append.1 hr with hr | hr
        · exact ho r hr
        · rw [List.mem_singleton.1 hr]
          simpa [hir] using hx
    · obtain rfl:i=d.rows.length:=by omega
      rw [List.take_length] at ho
      repeat' (first|(with_reducible first|(apply St.o;constructor)<;>intro _|refine And.intro (by omega) ?_|(apply Sq.o;constructor))|((with_reducible refine keep0_i ?_);simp only [lP,seval])|simp (disch:=omega) only [lE,seval,List.length_map,Int.lt_irrefl,decide_false])
      all_goals simp [rightD_iff.2 ho]
theorem c40 (db:List DA) (m:Int) (hc:∀ d ∈ db,d.t.cols.length≤5000000000000):ACalls E.P 40 [.view 5 (db.map DA.av),.int .i64 m] [] (fun r H=>r=.bool (fewB db m)∧H=[]):=by
 have hmax:=maxLen_eq
 refine ok40.acalls hE hm (by simp) fun N hN=>?_
 unfold mc40 q40_0 pM pG pI pB pQ pR pV pN pO pA gF oM oL oF oZ oG oQ
 simp only [lA,seval]
 have no:¬ (db.length≤4∧∀ d ∈ db,d.right∧d.t.cols.length≤8∧(d.rows.length:Int)≤m)→fewB db m=false:=fun h=>by simp only [fewB,decide_eq_false_iff_not];exact h
 repeat' (first|(with_reducible first|(apply St.o;constructor)<;>intro _|refine And.intro (by omega) ?_|(apply Sq.o;constructor))|simp (disch:=omega) only [lE,seval,List.length_map])
 · rename_i h
   exact keep_b (no fun h'=>by have:=h'.1;omega).symm
 · rename_i h4
   refine loop_i (fun i:Nat=>i≤db.length∧∀ d ∈ db.take i,d.right∧d.t.cols.length≤8∧(d.rows.length:Int)≤m) (fun i=>⟨[(0,.view 5 (db.map DA.av)),(1,.int .i64 m),(5,.int .i64 i)],[]⟩) (fun i=>db.length - i) 0 ⟨by omega,by simp⟩ (ent [] false) ?_
   rintro i ⟨hi,ho⟩
   by_cases hin:i<db.length
   · have hlt:((i:Int)<(db.length:Int)):=by omega
     have hmem:db.getD i default ∈ db:=by simp [hin]
     have h68:=c68 _ (hc _ hmem)
     have htk:=List.take_succ_eq_append_getElem hin
     have hgd:db.getD i default=db[i]:=by simp [hin]
     rw [← hgd] at htk
     clear hgd
     generalize hx:db.getD i default=d at *
     simp only [da_av] at h68
     repeat' (first|(with_reducible first|(apply St.o;constructor)<;>intro _|refine And.intro (by omega) ?_|(apply Sq.o;constructor))|((with_reducible apply Sc.o true;constructor);simp only [lP,seval,IdxR_das,hx,Int.toNat_natCast,List.length_map,hlt,decide_true];refine ⟨_,h68,?_⟩;rintro _ _ ⟨rfl,rfl⟩;simp only [lA,lP,seval,IdxR_das,hx,Int.toNat_natCast,List.length_map,hlt,decide_true])|simp (disch:=omega) only [lE,seval,IdxR_das,hx,Int.toNat_natCast,List.length_map,hlt,decide_true])
     · rename_i g1 g2 g3
       exact keep_b (no fun h'=>by have:=(h'.2 d hmem).2.2;omega).symm
     · rename_i g1 _ g2 _ g3
       refine back_i (i+1) ⟨by omega,?_⟩ (by omega) (ent [] false)
       rw [htk]
       intro d' hd
       rcases List.mem_append.1 hd with hd | hd
       · exact ho d' hd
       · rw [List.mem_singleton.1 hd]
         exact ⟨rightD_iff.1 (by simpa using g1),by omega,by omega⟩
     · rename_i g1 g2
       exact keep_b (no fun h'=>by have:=(h'.2 d hmem).2.1;omega).symm
     · rename_i g1
       exact keep_b (no fun h'=>by
        have:=(h'.2 d hmem).1
        rw [rightD_iff.2 this] at g1;simp at g1).symm
   · obtain rfl:i=db.length:=by omega
     rw [List.take_length] at ho
     repeat' (first|(with_reducible first|(apply St.o;constructor)<;>intro _|refine And.intro (by omega) ?_|(apply Sq.o;constructor))|simp (disch:=omega) only [lE,seval,List.length_map,Int.lt_irrefl,decide_false])
     have:fewB db m=true:=by simp only [fewB,decide_eq_true_eq];exact ⟨by omega,ho⟩
     exact keep_b this.symm
noncomputable def lightB (db:List DA) (q:QY) (m:Int):Bool:=fewB db m && decide (IntKind.i64.wrap q.count≤60) && decide (IntKind.i64.wrap q.joins≤3)
theorem c9 (db:List DA) (q:QY) (m:Int) (hc:∀ d ∈ db,d.t.cols.length≤5000000000000):ACalls E.P 9 [.view 5 (db.map DA.av),q.av,.int .i64 m] [] (fun r H=>r=.bool (lightB db q m)∧H=[]):=by
 have h40:=c40 db m hc
 have h10:=c10 q
 have h11:=c11 q
 simp only [q_av] at h10 h11
 refine ok9.acalls hE hm (by simp) fun N hN=>?_
 unfold mc9 pK pZ pM pW pP gT oR oV
 simp only [lA,seval,q_av]
 repeat' (first|(with_reducible first|(apply St.o;constructor)<;>intro _|refine And.intro (by omega) ?_|(apply Sq.o;constructor))|((with_reducible apply Sc.o true;constructor);simp only [lP,seval];(first|refine ⟨_,h40,?_⟩|refine ⟨_,h10,?_⟩|refine ⟨_,h11,?_⟩);rintro _ _ ⟨rfl,rfl⟩;simp only [lA,lP,seval])|simp (disch:=omega) only [lE,seval])
 all_goals (refine keep_b ?_;simp [lightB, *];done)
set_option maxRecDepth 100000
def mc27:MC:=(.seq (.ops [pK 2 0,pK 3 1,pZ 4]) (.seq (.ops [(none,.v (.mov 5 (.c (.fn (.func 50) [] []))))]) (.seq (.ops [pF 6 0 2,pL 7 6,pF 8 0 3,pL 9 8,(none,.v (.bin 10 .eql false (.t 7) (.t 9))),pM 11 10,gT 11 (oF 12 1 2),gT 11 (oL 13 12),gT 11 (oF 14 1 3),gT 11 (oL 15 14),(some (11,true),.v (.bin 16 .eql false (.t 13) (.t 15))),pP 17 11 16,pM 18 17,gT 18 (oF 19 13 2),gT 18 (oL 20 19),gT 18 (oF 21 13 3),gT 18 (oL 22 21),(some (18,true),.v (.bin 23 .eql false (.t 20) (.t 22))),pP 24 18 23,pM 25 24,gT 25 (oF 26 3 2),gT 25 (oR 27 6 26),gT 25 (oF 28 3 3),gT 25 (oR 29 6 28),gT 25 (oW 30 51 27 29),pP 31 25 30,pM 32 31,gT 32 (oF 33 9 2),gT 32 (oL 34 33),gT 32 (oF 35 9 3),gT 32 (oL 36 35),(some (32,true),.e (.call (some 37) 52 [.t 34,.t 36,.c (.fn (.func 51) [] [])])),pP 38 32 37,pM 39 38,gT 39 (oF 40 10 2),gT 39 (oL 41 40),gT 39 (oF 42 10 3),gT 39 (oL 43 42),gT 39 (oW 44 53 41 43),pP 45 39 44,pM 46 45,gT 46 (oF 47 11 2),gT 46 (oL 48 47),gT 46 (oF 49 11 3),gT 46 (oL 50 49),gT 46 (oM 51 5),(some (46,true),.e (.call (some 52) 54 [.t 48,.t 50,.t 51])),pP 53 46 52,pM 54 53,gT 54 (oF 55 12 2),gT 54 (oL 56 55),gT 54 (oF 57 12 3),gT 54 (oL 58 57),gT 54 (oW 59 55 56 58),pP 60 54 59,pM 61 60,gT 61 (oF 62 2 2),gT 61 (oL 63 62),gT 61 (oF 64 2 3),gT 61 (oL 65 64),(some (61,true),.e (.call (some 66) 56 [.t 63,.t 65,.c (.fn (.func 27) [] [])])),pP 67 61 66,pM 4 67]) .ret)))
theorem ok27:FnOk E 27 68 [.tmp 4] mc27:=ofk func27
def mc50:MC:=(.seq (.ops [pK 2 0,pK 3 1,pZ 4]) (.seq (.ops [pF 5 0 2,pL 6 5,pF 7 0 3,pL 8 7,(none,.v (.bin 9 .eql false (.t 6) (.t 8))),pM 10 9,gT 10 (oF 11 1 2),gT 10 (oR 12 6 11),gT 10 (oF 13 1 3),gT 10 (oR 14 6 13),gT 10 (oW 15 51 12 14),pP 16 10 15,pM 4 16]) .ret))
theorem ok50:FnOk E 50 17 [.tmp 4] mc50:=ofk func50
abbrev q53_0:MI:=oZ 4
def mc53:MC:=(.seq (.ops [(none,q53_0)]) (.seq (.seq (.ops [pM 6 0,pG 7 6,pM 8 1,pG 9 8,(none,.v (.bin 10 .neq false (.t 7) (.t 9)))]) (.cond 10 (.seq (.ops [(none,q53_0)]) .ret) .skip)) (.seq (.seq (.ops [pM 11 0,pG 12 11,pI 13 0]) (.block 0 (.loop (.seq (.ops [pB 14 13 12]) (.seq (.cond 14 .skip (.exit 0)) (.seq (.block 1 (.seq (.ops [pM 15 13,pM 5 15]) (.seq (.any false (.pure0 none (oM 16 0) (.pure0 none (oM 17 5) (.pure0 none (oQ 18 1 16 17) (.pure0 none (oL 19 18) (.pure0 none (oM 20 1) (.pure0 none (oM 21 5) (.pure0 none (oQ 22 1 20 21) (.pure0 none (oL 23 22) (.pure0 none (.v (.bin 24 .neq false (.t 19) (.t 23))) .done)))))))))) (.cond 24 (.seq (.ops [(none,q53_0)]) .ret) .skip)))) (.ops [pA 25 13 1,pM 13 25]))))))) (.seq (.ops [(none,.v (.mov 4 (.c (.bool true))))]) .ret))))
theorem ok53:FnOk E 53 26 [.tmp 4] mc53:=ofk func53
abbrev q54_0:MI:=oZ 6
def mc54:MC:=(.seq (.ops [(none,q54_0)]) (.seq (.seq (.ops [pM 10 0,pG 11 10,pM 12 1,pG 13 12,(none,.v (.bin 14 .neq false (.t 11) (.t 13)))]) (.cond 14 (.seq (.ops [(none,q54_0)]) .ret) .skip)) (.seq (.seq (.ops [pM 15 0,pG 16 15,pI 17 0]) (.block 0 (.loop (.seq (.ops [pB 18 17 16]) (.seq (.cond 18 .skip (.exit 0)) (.seq (.block 1 (.seq (.ops [pM 19 17,pQ 20 7 15 17,pR 21 7 20,(none,.e (.alloc 8 z4)),pM 7 19,pS 7 8 21]) (.seq (.ops [pM 22 1,pM 23 7,pQ 24 7 22 23,pR 25 7 24,(none,.e (.alloc 9 z4)),pS 7 9 25]) (.seq (.ops [pM 26 2,pR 27 7 8,pR 28 7 9,(none,.e (.callv (some 29) (.t 26) [.t 27,.t 28])),pN 30 29]) (.cond 30 (.seq (.ops [(none,q54_0)]) .ret) .skip))))) (.ops [pA 31 17 1,pM 17 31]))))))) (.seq (.ops [(none,.v (.mov 6 (.c (.bool true))))]) .ret))))
theorem ok54:FnOk E 54 32 [.tmp 6] mc54:=ofk func54
abbrev q55_0:MI:=oZ 4
def mc55:MC:=(.seq (.ops [(none,q55_0)]) (.seq (.seq (.ops [pM 6 0,pG 7 6,pM 8 1,pG 9 8,(none,.v (.bin 10 .neq false (.t 7) (.t 9)))]) (.cond 10 (.seq (.ops [(none,q55_0)]) .ret) .skip)) (.seq (.seq (.ops [pM 11 0,pG 12 11,pI 13 0]) (.block 0 (.loop (.seq (.ops [pB 14 13 12]) (.seq (.cond 14 .skip (.exit 0)) (.seq (.block 1 (.seq (.ops [pM 15 13,pM 5 15]) (.seq (.any false (.pure0 none (oM 16 0) (.pure0 none (oM 17 5) (.pure0 none (oQ 18 2 16 17) (.pure0 none (oR 19 2 18) (.pure0 none (oM 20 1) (.pure0 none (oM 21 5) (.pure0 none (oQ 22 2 20 21) (.pure0 none (oR 23 2 22) (.pure0 none (.v (.eq 24 true (.agg [(0,false,1,.int),(1,false,1,.bool)]) (.t 19) (.t 23))) .done)))))))))) (.cond 24 (.seq (.ops [(none,q55_0)]) .ret) .skip)))) (.ops [pA 25 13 1,pM 13 25]))))))) (.seq (.ops [(none,.v (.mov 4 (.c (.bool true))))]) .ret))))
theorem ok55:FnOk E 55 26 [.tmp 4] mc55:=ofk func55
abbrev q56_0:MI:=oZ 6
def mc56:MC:=(.seq (.ops [(none,q56_0)]) (.seq (.seq (.ops [pM 10 0,pG 11 10,pM 12 1,pG 13 12,(none,.v (.bin 14 .neq false (.t 11) (.t 13)))]) (.cond 14 (.seq (.ops [(none,q56_0)]) .ret) .skip)) (.seq (.seq (.ops [pM 15 0,pG 16 15,pI 17 0]) (.block 0 (.loop (.seq (.ops [pB 18 17 16]) (.seq (.cond 18 .skip (.exit 0)) (.seq (.block 1 (.seq (.ops [pM 19 17,pQ 20 14 15 17,pR 21 14 20,(none,.e (.alloc 8 z0)),pM 7 19,pS 14 8 21]) (.seq (.ops [pM 22 1,pM 23 7,pQ 24 14 22 23,pR 25 14 24,(none,.e (.alloc 9 z0)),pS 14 9 25]) (.seq (.ops [pM 26 2,pR 27 14 8,pR 28 14 9,(none,.e (.callv (some 29) (.t 26) [.t 27,.t 28])),pN 30 29]) (.cond 30 (.seq (.ops [(none,q56_0)]) .ret) .skip))))) (.ops [pA 31 17 1,pM 17 31]))))))) (.seq (.ops [(none,.v (.mov 6 (.c (.bool true))))]) .ret))))
theorem ok56:FnOk E 56 32 [.tmp 6] mc56:=ofk func56
set_option maxRecDepth 20000
noncomputable def eqC {α:Type} (a b:α):Bool:=@decide (a=b) (Classical.propDecidable _)
theorem eqC_iff {α:Type} {a b:α}:eqC a b=true↔a=b:=by simp [eqC]
theorem eqC_false {α:Type} {a b:α}:eqC a b=false↔a≠b:=by rw [← Bool.not_eq_true,eqC_iff]
theorem eqC_self {α:Type} (a:α):eqC a a=true:=eqC_iff.2 rfl
theorem eqC_of {α:Type} {a b:α} {c:Bool} (h:c=true↔a=b):eqC a b=c:=by
 cases c
 · exact eqC_false.2 fun e=>by simpa using h.2 e
 · exact eqC_iff.2 (h.1 rfl)
theorem list_eqG {α:Type} [Inhabited α] {l m:List α} (h1:l.length=m.length) (h2:∀ j,j<l.length→l.getD j default=m.getD j default):l=m:=by
 apply List.ext_getElem h1
 intro i hi hi2
 have:=h2 i hi
 simpa [hi,hi2] using this
theorem od_eq {a b:OD}:a=b↔a.col=b.col∧a.down=b.down:=by
 cases a;cases b;simp
theorem c50 (a b:AG):ACalls E.P 50 [a.av,b.av] [] (fun r H=>r=.bool (eqC a b)∧H=[]):=by
 have h51:=c51 a.arg b.arg
 simp only [av_fs] at h51
 refine ok50.acalls hE hm (by simp) fun N hN=>?_
 unfold mc50 pK pZ pF pL pM pP gT oR oF oW
 simp only [lA,seval,ag_av]
 repeat' (first|(with_reducible first|(apply St.o;constructor)<;>intro _|refine And.intro (by omega) ?_|(apply Sq.o;constructor))|((with_reducible apply Sc.o true;constructor);simp only [lP,seval];refine ⟨_,h51,?_⟩;rintro _ _ ⟨rfl,rfl⟩;simp only [lA,lP,seval])|simp (disch:=omega) only [lE,seval])
 all_goals refine keep_b (eqC_of ?_).symm
 · rename_i h
   rw [eqE_iff]
   obtain ⟨f,x⟩:=a
   obtain ⟨g,y⟩:=b
   simp_all
 · rename_i h
   obtain ⟨f,x⟩:=a
   obtain ⟨g,y⟩:=b
   simp_all
theorem c53 (l m:List Int):ACalls E.P 53 [.view 1 (l.map (AV.int .i64)),.view 1 (m.map (AV.int .i64))] [] (fun r H=>r=.bool (eqC l m)∧H=[]):=by
 have hmax:=maxLen_eq
 refine ok53.acalls hE hm (by simp) fun N hN=>?_
 unfold mc53 q53_0 pM pG pI pB pA oM oL oZ oQ
 simp only [lA,seval]
 repeat' (first|(with_reducible first|(apply St.o;constructor)<;>intro _|refine And.intro (by omega) ?_|(apply Sq.o;constructor))|simp (disch:=omega) only [lE,seval,List.length_map])
 · rename_i h
   exact keep_b (eqC_false.2 fun h2=>by subst h2;omega).symm
 · rename_i h
   have hlen:l.length=m.length:=by omega
   refine loop_i (fun i:Nat=>i≤l.length∧∀ j,j<i→l.getD j default=m.getD j default) (fun i=>⟨[(0,.view 1 (l.map (AV.int .i64))),(1,.view 1 (m.map (AV.int .i64))),(12,.int .i64 l.length),(13,.int .i64 i)],[]⟩) (fun i=>l.length - i) 0 ⟨by omega,by simp⟩ (ent [] false) ?_
   rintro i ⟨hi,ha⟩
   by_cases hin:i<l.length
   · have hlt:((i:Int)<(l.length:Int)):=by omega
     repeat' (first|(with_reducible first|(apply St.o;constructor)<;>intro _|refine And.intro (by omega) ?_|(apply Sq.o;constructor))|with_reducible refine any_i [] ?_|simp (disch:=omega) only [lE,seval,IdxR_ints,Int.toNat_natCast,List.length_map,hlt,decide_true])
     · rename_i h2
       have h3:¬ (l.getD i default=m.getD i default):=fun h=>by first | (rw [h] at h2;simp at h2;done) | (simp at h2 h;exact h2 h)
       exact keep_b (eqC_false.2 fun h4=>by subst h4;exact h3 rfl).symm
     · rename_i h2
       have h3:l.getD i default=m.getD i default:=by simpa using h2
       refine back_i (i+1) ⟨by omega,fun j hj=>?_⟩ (by omega) (ent [] false)
       by_cases hji:j<i
       · exact ha j hji
       · obtain rfl:j=i:=by omega
         exact h3
   · obtain rfl:i=l.length:=by omega
     repeat' (first|(with_reducible first|(apply St.o;constructor)<;>intro _|refine And.intro (by omega) ?_|(apply Sq.o;constructor))|simp (disch:=omega) only [lE,seval,List.length_map,Int.lt_irrefl,decide_false])
     exact keep_b (eqC_iff.2 (list_eqG hlen ha)).symm
theorem c55 (l m:List OD):ACalls E.P 55 [.view 2 (l.map OD.av),.view 2 (m.map OD.av)] [] (fun r H=>r=.bool (eqC l m)∧H=[]):=by
 have hmax:=maxLen_eq
 refine ok55.acalls hE hm (by simp) fun N hN=>?_
 unfold mc55 q55_0 pM pG pI pB pA oM oR oZ oQ
 simp only [lA,seval]
 repeat' (first|(with_reducible first|(apply St.o;constructor)<;>intro _|refine And.intro (by omega) ?_|(apply Sq.o;constructor))|simp (disch:=omega) only [lE,seval,List.length_map])
 · rename_i h
   exact keep_b (eqC_false.2 fun h2=>by subst h2;omega).symm
 · rename_i h
   have hlen:l.length=m.length:=by omega
   refine loop_i (fun i:Nat=>i≤l.length∧∀ j,j<i→l.getD j default=m.getD j default) (fun i=>⟨[(0,.view 2 (l.map OD.av)),(1,.view 2 (m.map OD.av)),(12,.int .i64 l.length),(13,.int .i64 i)],[]⟩) (fun i=>l.length - i) 0 ⟨by omega,by simp⟩ (ent [] false) ?_
   rintro i ⟨hi,ha⟩
   by_cases hin:i<l.length
   · have hlt:((i:Int)<(l.length:Int)):=by omega
     repeat' (first|(with_reducible first|(apply St.o;constructor)<;>intro _|refine And.intro (by omega) ?_|(apply Sq.o;constructor))|with_reducible refine any_i [] ?_|simp (disch:=omega) only [lE,seval,IdxR_ods,Int.toNat_natCast,List.length_map,hlt,decide_true])
     · rename_i h2
       have h3:¬ (l.getD i default=m.getD i default):=fun h=>by first | (rw [h] at h2;simp at h2;done) | (simp at h2 h;exact h2 h)
       exact keep_b (eqC_false.2 fun h4=>by subst h4;exact h3 rfl).symm
     · rename_i h2
       have h3:l.getD i default=m.getD i default:=od_eq.2 (by simpa using h2)
       refine back_i (i+1) ⟨by omega,fun j hj=>?_⟩ (by omega) (ent [] false)
       by_cases hji:j<i
       · exact ha j hji
       · obtain rfl:j=i:=by omega
         exact h3
   · obtain rfl:i=l.length:=by omega
     repeat' (first|(with_reducible first|(apply St.o;constructor)<;>intro _|refine And.intro (by omega) ?_|(apply Sq.o;constructor))|simp (disch:=omega) only [lE,seval,List.length_map,Int.lt_irrefl,decide_false])
     exact keep_b (eqC_iff.2 (list_eqG hlen ha)).symm
theorem c54 (l m:List AG) :
 ACalls E.P 54 [.view 7 (l.map AG.av),.view 7 (m.map AG.av),.fn (.func 50) [] []] [] (fun r H=>r=.bool (eqC l m)∧H=[]):=by
 have hmax:=maxLen_eq
 refine ok54.acalls hE hm (by simp) fun N hN=>?_
 unfold mc54 q54_0 z4 pM pG pI pB pQ pR pS pN pA oZ
 simp only [lA,seval]
 repeat' (first|(with_reducible first|(apply St.o;constructor)<;>intro _|refine And.intro (by omega) ?_|(apply Sq.o;constructor))|simp (disch:=omega) only [lE,seval,List.length_map])
 · rename_i h
   exact keep_b (eqC_false.2 fun h2=>by subst h2;omega).symm
 · rename_i h
   have hlen:l.length=m.length:=by omega
   refine loop_i (fun i:Nat=>i≤l.length∧∀ j,j<i→l.getD j default=m.getD j default) (fun i=>⟨[(1,.view 7 (m.map AG.av)),(2,.fn (.func 50) [] []),(15,.view 7 (l.map AG.av)),(16,.int .i64 l.length),(17,.int .i64 i)],[]⟩) (fun i=>l.length - i) 0 ⟨by omega,by simp⟩ (ent [] false) ?_
   rintro i ⟨hi,ha⟩
   by_cases hin:i<l.length
   · have hr:=c50 (l.getD i default) (m.getD i default)
     have hlt:((i:Int)<(l.length:Int)):=by omega
     simp only [ag_av] at hr
     repeat' (first|(with_reducible first|(apply St.o;constructor)<;>intro _|refine And.intro (by omega) ?_|(apply Sq.o;constructor))|((with_reducible apply Sc.o true;constructor);simp only [lP,seval,IdxR_ags,Int.toNat_natCast,List.length_map,hlt,decide_true];refine ⟨_,hr,?_⟩;rintro _ _ ⟨rfl,rfl⟩;simp only [lA,lP,seval,IdxR_ags,Int.toNat_natCast,List.length_map,hlt,decide_true])|simp (disch:=omega) only [lE,seval,IdxR_ags,Int.toNat_natCast,List.length_map,hlt,decide_true])
     · rename_i h2
       have h3:¬ (l.getD i default=m.getD i default):=eqC_false.1 (by simpa using h2)
       exact keep_b (eqC_false.2 fun h4=>by subst h4;exact h3 rfl).symm
     · rename_i h2
       have h3:l.getD i default=m.getD i default:=eqC_iff.1 (by simpa using h2)
       refine back_i (i+1) ⟨by omega,fun j hj=>?_⟩ (by omega) (ent [] false)
       by_cases hji:j<i
       · exact ha j hji
       · obtain rfl:j=i:=by omega
         exact h3
   · obtain rfl:i=l.length:=by omega
     repeat' (first|(with_reducible first|(apply St.o;constructor)<;>intro _|refine And.intro (by omega) ?_|(apply Sq.o;constructor))|simp (disch:=omega) only [lE,seval,List.length_map,Int.lt_irrefl,decide_false])
     exact keep_b (eqC_iff.2 (list_eqG hlen ha)).symm
theorem c56n (l m:List QY) (hrec:∀ j,j<l.length→∀ y:QY,ACalls E.P 27 [(l.getD j default).av,y.av] [] (fun r H=>r=.bool (eqC (l.getD j default) y)∧H=[])) :
 ACalls E.P 56 [.view 14 (l.map QY.av),.view 14 (m.map QY.av),.fn (.func 27) [] []] [] (fun r H=>r=.bool (eqC l m)∧H=[]):=by
 have hmax:=maxLen_eq
 refine ok56.acalls hE hm (by simp) fun N hN=>?_
 unfold mc56 q56_0 z0 pM pG pI pB pQ pR pS pN pA oZ
 simp only [lA,seval]
 repeat' (first|(with_reducible first|(apply St.o;constructor)<;>intro _|refine And.intro (by omega) ?_|(apply Sq.o;constructor))|simp (disch:=omega) only [lE,seval,List.length_map])
 · rename_i h
   exact keep_b (eqC_false.2 fun h2=>by subst h2;omega).symm
 · rename_i h
   have hlen:l.length=m.length:=by omega
   refine loop_i (fun i:Nat=>i≤l.length∧∀ j,j<i→l.getD j default=m.getD j default) (fun i=>⟨[(1,.view 14 (m.map QY.av)),(2,.fn (.func 27) [] []),(15,.view 14 (l.map QY.av)),(16,.int .i64 l.length),(17,.int .i64 i)],[]⟩) (fun i=>l.length - i) 0 ⟨by omega,by simp⟩ (ent [] false) ?_
   rintro i ⟨hi,ha⟩
   by_cases hin:i<l.length
   · have hr:=hrec i hin (m.getD i default)
     have hlt:((i:Int)<(l.length:Int)):=by omega
     simp only [q_av] at hr
     repeat' (first|(with_reducible first|(apply St.o;constructor)<;>intro _|refine And.intro (by omega) ?_|(apply Sq.o;constructor))|((with_reducible apply Sc.o true;constructor);simp only [lP,seval,IdxR_qs,Int.toNat_natCast,List.length_map,hlt,decide_true];refine ⟨_,hr,?_⟩;rintro _ _ ⟨rfl,rfl⟩;simp only [lA,lP,seval,IdxR_qs,Int.toNat_natCast,List.length_map,hlt,decide_true])|simp (disch:=omega) only [lE,seval,IdxR_qs,Int.toNat_natCast,List.length_map,hlt,decide_true])
     · rename_i h2
       have h3:¬ (l.getD i default=m.getD i default):=eqC_false.1 (by simpa using h2)
       exact keep_b (eqC_false.2 fun h4=>by subst h4;exact h3 rfl).symm
     · rename_i h2
       have h3:l.getD i default=m.getD i default:=eqC_iff.1 (by simpa using h2)
       refine back_i (i+1) ⟨by omega,fun j hj=>?_⟩ (by omega) (ent [] false)
       by_cases hji:j<i
       · exact ha j hji
       · obtain rfl:j=i:=by omega
         exact h3
   · obtain rfl:i=l.length:=by omega
     repeat' (first|(with_reducible first|(apply St.o;constructor)<;>intro _|refine And.intro (by omega) ?_|(apply Sq.o;constructor))|simp (disch:=omega) only [lE,seval,List.length_map,Int.lt_irrefl,decide_false])
     exact keep_b (eqC_iff.2 (list_eqG hlen ha)).symm
theorem q_eq {a b:QY}:a=b↔a.kind=b.kind∧a.tab=b.tab∧a.n=b.n∧a.cond=b.cond∧a.cols=b.cols∧a.grp=b.grp∧a.aggs=b.aggs∧a.ord=b.ord∧a.subs=b.subs:=by
 cases a;cases b
 simp only [QY.mk.injEq,QY.kind,QY.tab,QY.n,QY.cond,QY.cols,QY.grp,QY.aggs,QY.ord,QY.subs]
 constructor
 · rintro ⟨h1,h2,h3,h4,h5,h6,h7,h8,h9⟩;exact ⟨h1,h2,h9,h4,h5,h6,h7,h8,h3⟩
 · rintro ⟨h1,h2,h3,h4,h5,h6,h7,h8,h9⟩;exact ⟨h1,h2,h9,h4,h5,h6,h7,h8,h3⟩
theorem c27 (a b:QY):ACalls E.P 27 [a.av,b.av] [] (fun r H=>r=.bool (eqC a b)∧H=[]):=by
 refine q_ind (p:=fun a=>∀ b:QY,ACalls E.P 27 [a.av,b.av] [] (fun r H=>r=.bool (eqC a b)∧H=[])) (fun a ih b=>?_) a b
 have h51:=c51 a.cond b.cond
 have h52:=c52n a.cols b.cols fun j hj y=>c51 _ y
 have h53:=c53 a.grp b.grp
 have h54:=c54 a.aggs b.aggs
 have h55:=c55 a.ord b.ord
 have h56:=c56n a.subs b.subs fun j hj y=>ih j hj y
 simp only [av_fs] at h51
 refine ok27.acalls hE hm (by simp) fun N hN=>?_
 unfold mc27 pK pZ pF pL pM pP gT oM oL oR oF oW
 simp only [lA,seval,q_av]
 repeat' (first|(with_reducible first|(apply St.o;constructor)<;>intro _|refine And.intro (by omega) ?_|(apply Sq.o;constructor))|((with_reducible apply Sc.o true;constructor);simp only [lP,seval,strA];(first|refine ⟨_,h51,?_⟩|refine ⟨_,h52,?_⟩|refine ⟨_,h53,?_⟩|refine ⟨_,h54,?_⟩|refine ⟨_,h55,?_⟩|refine ⟨_,h56,?_⟩);rintro _ _ ⟨rfl,rfl⟩;simp only [lA,lP,seval,strA])|simp (disch:=omega) only [lE,seval,strA])
 all_goals refine keep_b (eqC_of ?_).symm
 all_goals rw [q_eq]
 all_goals clear h51 h52 h53 h54 h55 h56 ih
 all_goals try simp only [eqE_false,eqL_false,eqC_false,eqE_iff,eqL_iff,eqC_iff,Bool.not_true,Bool.not_false,decide_eq_true_eq,decide_eq_false_iff_not] at *
 all_goals simp_all
set_option maxRecDepth 100000
def mc71:MC:=(.seq (.ops [pZ 4]) (.seq (.ops [pM 5 0,pM 6 1,pW 7 109 5 6,(none,.v (.bin 8 .geq false (.t 7) (.c (.int .i64 0)))),pM 4 8]) .ret))
theorem ok71:FnOk E 71 9 [.tmp 4] mc71:=ofk func71
def mc72:MC:=(.seq (.ops [pZ 4]) (.seq (.ops [pM 5 0,pM 6 1,pW 7 110 5 6,(none,.v (.bin 8 .geq false (.t 7) (.c (.int .i64 0)))),pM 4 8]) .ret))
theorem ok72:FnOk E 72 9 [.tmp 4] mc72:=ofk func72
def mc75:MC:=(.seq (.ops [pI 4 0]) (.seq (.seq (.ops [pM 6 0,pG 7 6,pI 8 0]) (.block 0 (.loop (.seq (.ops [pB 9 8 7]) (.seq (.cond 9 .skip (.exit 0)) (.seq (.block 1 (.seq (.ops [pM 10 8,pM 5 10]) (.seq (.ops [pM 11 1,pM 12 0,pM 13 5,pQ 14 4 12 13,pR 15 4 14,(none,.e (.callv (some 16) (.t 11) [.t 15]))]) (.cond 16 (.seq (.ops [pM 17 5,pM 4 17]) .ret) .skip)))) (.ops [pA 18 8 1,pM 8 18]))))))) (.seq (.ops [(none,.v (.mov 4 (.c (.int .i64 (-1)))))]) .ret)))
theorem ok75:FnOk E 75 19 [.tmp 4] mc75:=ofk func75
def mc80:MC:=(.seq (.ops [pZ 4]) (.seq (.ops [pM 5 0,pM 6 1,pW 7 112 5 6,(none,.v (.bin 8 .geq false (.t 7) (.c (.int .i64 0)))),pM 4 8]) .ret))
theorem ok80:FnOk E 80 9 [.tmp 4] mc80:=ofk func80
def mc97:MC:=(.seq (.ops [pI 4 0]) (.seq (.seq (.ops [pM 6 0,pG 7 6,pI 8 0]) (.block 0 (.loop (.seq (.ops [pB 9 8 7]) (.seq (.cond 9 .skip (.exit 0)) (.seq (.block 1 (.seq (.ops [pM 10 8,pM 5 10]) (.seq (.ops [pM 11 1,pM 12 0,pM 13 5,pQ 14 5 12 13,pR 15 5 14,(none,.e (.callv (some 16) (.t 11) [.t 15]))]) (.cond 16 (.seq (.ops [pM 17 5,pM 4 17]) .ret) .skip)))) (.ops [pA 18 8 1,pM 8 18]))))))) (.seq (.ops [(none,.v (.mov 4 (.c (.int .i64 (-1)))))]) .ret)))
theorem ok97:FnOk E 97 19 [.tmp 4] mc97:=ofk func97
def mc106:MC:=(.seq (.ops [pZ 4]) (.seq (.ops [pM 5 0,pM 6 1,pW 7 129 5 6,(none,.v (.bin 8 .geq false (.t 7) (.c (.int .i64 0)))),pM 4 8]) .ret))
theorem ok106:FnOk E 106 9 [.tmp 4] mc106:=ofk func106
def mc109:MC:=(.seq (.ops [pI 4 0]) (.seq (.seq (.ops [pM 6 0,pG 7 6,pI 8 0]) (.block 0 (.loop (.seq (.ops [pB 9 8 7]) (.seq (.cond 9 .skip (.exit 0)) (.seq (.block 1 (.seq (.ops [pM 10 8,pM 5 10]) (.seq (.ops [pM 11 1,pM 12 0,pM 13 5,pQ 14 7 12 13,pR 15 7 14,(none,.e (.callv (some 16) (.t 11) [.t 15]))]) (.cond 16 (.seq (.ops [pM 17 5,pM 4 17]) .ret) .skip)))) (.ops [pA 18 8 1,pM 8 18]))))))) (.seq (.ops [(none,.v (.mov 4 (.c (.int .i64 (-1)))))]) .ret)))
theorem ok109:FnOk E 109 19 [.tmp 4] mc109:=ofk func109
def mc110:MC:=(.seq (.ops [pI 4 0]) (.seq (.seq (.ops [pM 6 0,pG 7 6,pI 8 0]) (.block 0 (.loop (.seq (.ops [pB 9 8 7]) (.seq (.cond 9 .skip (.exit 0)) (.seq (.block 1 (.seq (.ops [pM 10 8,pM 5 10]) (.seq (.ops [pM 11 1,pM 12 0,pM 13 5,pQ 14 14 12 13,pR 15 14 14,(none,.e (.callv (some 16) (.t 11) [.t 15]))]) (.cond 16 (.seq (.ops [pM 17 5,pM 4 17]) .ret) .skip)))) (.ops [pA 18 8 1,pM 8 18]))))))) (.seq (.ops [(none,.v (.mov 4 (.c (.int .i64 (-1)))))]) .ret)))
theorem ok110:FnOk E 110 19 [.tmp 4] mc110:=ofk func110
def mc112:MC:=(.seq (.ops [pI 4 0]) (.seq (.seq (.ops [pM 6 0,pG 7 6,pI 8 0]) (.block 0 (.loop (.seq (.ops [pB 9 8 7]) (.seq (.cond 9 .skip (.exit 0)) (.seq (.block 1 (.seq (.ops [pM 10 8,pM 5 10]) (.seq (.ops [pM 11 1,pM 12 0,pM 13 5,pQ 14 2 12 13,pR 15 2 14,(none,.e (.callv (some 16) (.t 11) [.t 15]))]) (.cond 16 (.seq (.ops [pM 17 5,pM 4 17]) .ret) .skip)))) (.ops [pA 18 8 1,pM 8 18]))))))) (.seq (.ops [(none,.v (.mov 4 (.c (.int .i64 (-1)))))]) .ret)))
theorem ok112:FnOk E 112 19 [.tmp 4] mc112:=ofk func112
def mc129:MC:=(.seq (.ops [pI 4 0]) (.seq (.seq (.ops [pM 6 0,pG 7 6,pI 8 0]) (.block 0 (.loop (.seq (.ops [pB 9 8 7]) (.seq (.cond 9 .skip (.exit 0)) (.seq (.block 1 (.seq (.ops [pM 10 8,pM 5 10]) (.seq (.ops [pM 11 1,pM 12 0,pM 13 5,pQ 14 1 12 13,pL 15 14,(none,.e (.callv (some 16) (.t 11) [.t 15]))]) (.cond 16 (.seq (.ops [pM 17 5,pM 4 17]) .ret) .skip)))) (.ops [pA 18 8 1,pM 8 18]))))))) (.seq (.ops [(none,.v (.mov 4 (.c (.int .i64 (-1)))))]) .ret)))
theorem ok129:FnOk E 129 19 [.tmp 4] mc129:=ofk func129
set_option maxRecDepth 20000
def fidx {α:Type} (p:α→Bool) (l:List α):Int:=match l.findIdx? p with | some i=>i | none=>-1
theorem fidx_some {α:Type} [Inhabited α] {p:α→Bool} {l:List α} {i:Nat} (hi:i<l.length) (hp:p (l.getD i default)=true) (hn:∀ x ∈ l.take i,p x=false):fidx p l=i:=by
 unfold fidx
 have:l.findIdx? p=some i:=by
  rw [List.findIdx?_eq_some_iff_getElem]
  refine ⟨hi,by simpa [hi] using hp,fun j hj=>?_⟩
  have:=hn l[j] (by rw [List.mem_take_iff_getElem];exact ⟨j,by omega,rfl⟩)
  simp [this]
 rw [this]
theorem fidx_none {α:Type} {p:α→Bool} {l:List α} (hn:∀ x ∈ l,p x=false):fidx p l = -1:=by
 unfold fidx
 rw [List.findIdx?_eq_none_iff.2 hn]
theorem fidx_ge {α:Type} {p:α→Bool} {l:List α}:decide (0≤fidx p l)=l.any p:=by
 unfold fidx
 cases h:l.findIdx? p with
 | none =>
   have:=List.findIdx?_eq_none_iff.1 h
   have h2:l.any p=false:=by simp [List.any_eq_false];intro x hx;simp [this x hx]
   rw [h2];rfl
 | some i =>
   obtain ⟨hi,hp,_⟩:=List.findIdx?_eq_some_iff_getElem.1 h
   have h2:l.any p=true:=List.any_eq_true.2 ⟨l[i],List.getElem_mem hi,hp⟩
   rw [h2];simp
theorem all_step {α:Type} [Inhabited α] {p:α→Bool} {l:List α} {i:Nat} (hi:i<l.length) (hn:∀ x ∈ l.take i,p x=false) (hp:p (l.getD i default)=false):∀ x ∈ l.take (i+1),p x=false:=by
 rw [List.take_succ_eq_append_getElem hi]
 intro x hx
 rcases List.mem_append.1 hx with hx | hx
 · exact hn x hx
 · rw [List.mem_singleton.1 hx];simpa [hi] using hp
theorem pa_vps {H:List AObj} {l:List Nat} {bor:Bool} {n:Nat} {xs:List (List AV)}:(xs.map AV.vp).map (pa H l bor n)=xs.map AV.vp:=map_same (fun _=>pa_vp) xs
theorem c75 (l:List TB) (g:FuncId) (caps:List (List AV)) (p:TB→Bool) (hp:∀ x ∈ l,ACalls E.P g (.agg x.cs::caps.map AV.vp) [] (fun r H=>r=.bool (p x)∧H=[])) :
 ACalls E.P 75 [.view 4 (l.map TB.av),.fn (.func g) [] (caps.map AV.vp)] [] (fun r H=>r=.int .i64 (fidx p l)∧H=[]):=by
 have hmax:=maxLen_eq
 refine ok75.acalls hE hm (by simp) fun N hN=>?_
 unfold mc75 pI pM pG pB pQ pR pA
 simp only [lA,seval]
 refine LenR_i fun hll=>?_
 rw [List.length_map,hmax] at hll
 simp only [lA,seval,List.length_map]
 refine loop_i (fun i:Nat=>i≤l.length∧∀ x ∈ l.take i,p x=false) (fun i=>⟨[(0,.view 4 (l.map TB.av)),(1,.fn (.func g) [] (caps.map AV.vp)),(7,.int .i64 l.length),(8,.int .i64 i)],[]⟩) (fun i=>l.length - i) 0 ⟨by omega,by simp⟩ (ent [] false (by simp only [lP,seval,pa_vps,List.length_map]<;>(try simp)<;>(try omega)) (by simp only [lP,seval,pa_vps,List.length_map]<;>(try simp)<;>(try omega))) ?_
 rintro i ⟨hi,hn⟩
 by_cases hil:i<l.length
 · have hlt:((i:Int)<(l.length:Int)):=by omega
   have hc:=hp (l.getD i default) (by simp [hil])
   have hs:=fidx_some (p:=p) hil
   have hf:=all_step (p:=p) hil hn
   generalize hx:l.getD i default=x at *
   repeat' (first|(with_reducible first|(apply St.o;constructor)<;>intro _|refine And.intro (by omega) ?_|(apply Sq.o;constructor))|((with_reducible apply Sc.o true;constructor);simp only [lP,seval,IdxR_tbs,hx,Int.toNat_natCast,List.length_map,hlt,decide_true,pa_vps,List.nil_append,List.cons_append];refine ⟨_,hc,?_⟩;rintro _ _ ⟨rfl,rfl⟩;simp only [lA,lP,seval,IdxR_tbs,hx,Int.toNat_natCast,List.length_map,hlt,decide_true,pa_vps,List.nil_append,List.cons_append])|simp (disch:=omega) only [lE,seval,IdxR_tbs,hx,Int.toNat_natCast,List.length_map,hlt,decide_true,pa_vps,List.nil_append,List.cons_append])
   · rename_i h
     exact keep_n (hs h hn).symm
   · rename_i h
     exact back_i (i+1) ⟨by omega,hf (by simpa using h)⟩ (by omega) (ent [] false (by simp only [lP,seval,pa_vps]<;>(try simp)<;>(try omega)) (by simp only [lP,seval,pa_vps]<;>(try simp)<;>(try omega)))
 · obtain rfl:i=l.length:=by omega
   rw [List.take_length] at hn
   repeat' (first|(with_reducible first|(apply St.o;constructor)<;>intro _|refine And.intro (by omega) ?_|(apply Sq.o;constructor))|simp (disch:=omega) only [lE,seval,List.length_map,Int.lt_irrefl,decide_false])
   exact keep_n (fidx_none hn).symm
theorem c97 (l:List DA) (g:FuncId) (caps:List (List AV)) (p:DA→Bool) (hp:∀ x ∈ l,ACalls E.P g (.agg x.cs::caps.map AV.vp) [] (fun r H=>r=.bool (p x)∧H=[])) :
 ACalls E.P 97 [.view 5 (l.map DA.av),.fn (.func g) [] (caps.map AV.vp)] [] (fun r H=>r=.int .i64 (fidx p l)∧H=[]):=by
 have hmax:=maxLen_eq
 refine ok97.acalls hE hm (by simp) fun N hN=>?_
 unfold mc97 pI pM pG pB pQ pR pA
 simp only [lA,seval]
 refine LenR_i fun hll=>?_
 rw [List.length_map,hmax] at hll
 simp only [lA,seval,List.length_map]
 refine loop_i (fun i:Nat=>i≤l.length∧∀ x ∈ l.take i,p x=false) (fun i=>⟨[(0,.view 5 (l.map DA.av)),(1,.fn (.func g) [] (caps.map AV.vp)),(7,.int .i64 l.length),(8,.int .i64 i)],[]⟩) (fun i=>l.length - i) 0 ⟨by omega,by simp⟩ (ent [] false (by simp only [lP,seval,pa_vps,List.length_map]<;>(try simp)<;>(try omega)) (by simp only [lP,seval,pa_vps,List.length_map]<;>(try simp)<;>(try omega))) ?_
 rintro i ⟨hi,hn⟩
 by_cases hil:i<l.length
 · have hlt:((i:Int)<(l.length:Int)):=by omega
   have hc:=hp (l.getD i default) (by simp [hil])
   have hs:=fidx_some (p:=p) hil
   have hf:=all_step (p:=p) hil hn
   generalize hx:l.getD i default=x at *
   repeat' (first|(with_reducible first|(apply St.o;constructor)<;>intro _|refine And.intro (by omega) ?_|(apply Sq.o;constructor))|((with_reducible apply Sc.o true;constructor);simp only [lP,seval,IdxR_das,hx,Int.toNat_natCast,List.length_map,hlt,decide_true,pa_vps,List.nil_append,List.cons_append];refine ⟨_,hc,?_⟩;rintro _ _ ⟨rfl,rfl⟩;simp only [lA,lP,seval,IdxR_das,hx,Int.toNat_natCast,List.length_map,hlt,decide_true,pa_vps,List.nil_append,List.cons_append])|simp (disch:=omega) only [lE,seval,IdxR_das,hx,Int.toNat_natCast,List.length_map,hlt,decide_true,pa_vps,List.nil_append,List.cons_append])
   · rename_i h
     exact keep_n (hs h hn).symm
   · rename_i h
     exact back_i (i+1) ⟨by omega,hf (by simpa using h)⟩ (by omega) (ent [] false (by simp only [lP,seval,pa_vps]<;>(try simp)<;>(try omega)) (by simp only [lP,seval,pa_vps]<;>(try simp)<;>(try omega)))
 · obtain rfl:i=l.length:=by omega
   rw [List.take_length] at hn
   repeat' (first|(with_reducible first|(apply St.o;constructor)<;>intro _|refine And.intro (by omega) ?_|(apply Sq.o;constructor))|simp (disch:=omega) only [lE,seval,List.length_map,Int.lt_irrefl,decide_false])
   exact keep_n (fidx_none hn).symm
theorem c109 (l:List AG) (g:FuncId) (caps:List (List AV)) (p:AG→Bool) (hp:∀ x ∈ l,ACalls E.P g (.agg x.cs::caps.map AV.vp) [] (fun r H=>r=.bool (p x)∧H=[])) :
 ACalls E.P 109 [.view 7 (l.map AG.av),.fn (.func g) [] (caps.map AV.vp)] [] (fun r H=>r=.int .i64 (fidx p l)∧H=[]):=by
 have hmax:=maxLen_eq
 refine ok109.acalls hE hm (by simp) fun N hN=>?_
 unfold mc109 pI pM pG pB pQ pR pA
 simp only [lA,seval]
 refine LenR_i fun hll=>?_
 rw [List.length_map,hmax] at hll
 simp only [lA,seval,List.length_map]
 refine loop_i (fun i:Nat=>i≤l.length∧∀ x ∈ l.take i,p x=false) (fun i=>⟨[(0,.view 7 (l.map AG.av)),(1,.fn (.func g) [] (caps.map AV.vp)),(7,.int .i64 l.length),(8,.int .i64 i)],[]⟩) (fun i=>l.length - i) 0 ⟨by omega,by simp⟩ (ent [] false (by simp only [lP,seval,pa_vps,List.length_map]<;>(try simp)<;>(try omega)) (by simp only [lP,seval,pa_vps,List.length_map]<;>(try simp)<;>(try omega))) ?_
 rintro i ⟨hi,hn⟩
 by_cases hil:i<l.length
 · have hlt:((i:Int)<(l.length:Int)):=by omega
   have hc:=hp (l.getD i default) (by simp [hil])
   have hs:=fidx_some (p:=p) hil
   have hf:=all_step (p:=p) hil hn
   generalize hx:l.getD i default=x at *
   repeat' (first|(with_reducible first|(apply St.o;constructor)<;>intro _|refine And.intro (by omega) ?_|(apply Sq.o;constructor))|((with_reducible apply Sc.o true;constructor);simp only [lP,seval,IdxR_ags,hx,Int.toNat_natCast,List.length_map,hlt,decide_true,pa_vps,List.nil_append,List.cons_append];refine ⟨_,hc,?_⟩;rintro _ _ ⟨rfl,rfl⟩;simp only [lA,lP,seval,IdxR_ags,hx,Int.toNat_natCast,List.length_map,hlt,decide_true,pa_vps,List.nil_append,List.cons_append])|simp (disch:=omega) only [lE,seval,IdxR_ags,hx,Int.toNat_natCast,List.length_map,hlt,decide_true,pa_vps,List.nil_append,List.cons_append])
   · rename_i h
     exact keep_n (hs h hn).symm
   · rename_i h
     exact back_i (i+1) ⟨by omega,hf (by simpa using h)⟩ (by omega) (ent [] false (by simp only [lP,seval,pa_vps]<;>(try simp)<;>(try omega)) (by simp only [lP,seval,pa_vps]<;>(try simp)<;>(try omega)))
 · obtain rfl:i=l.length:=by omega
   rw [List.take_length] at hn
   repeat' (first|(with_reducible first|(apply St.o;constructor)<;>intro _|refine And.intro (by omega) ?_|(apply Sq.o;constructor))|simp (disch:=omega) only [lE,seval,List.length_map,Int.lt_irrefl,decide_false])
   exact keep_n (fidx_none hn).symm
theorem c110 (l:List QY) (g:FuncId) (caps:List (List AV)) (p:QY→Bool) (hp:∀ x ∈ l,ACalls E.P g (.agg x.cs::caps.map AV.vp) [] (fun r H=>r=.bool (p x)∧H=[])) :
 ACalls E.P 110 [.view 14 (l.map QY.av),.fn (.func g) [] (caps.map AV.vp)] [] (fun r H=>r=.int .i64 (fidx p l)∧H=[]):=by
 have hmax:=maxLen_eq
 refine ok110.acalls hE hm (by simp) fun N hN=>?_
 unfold mc110 pI pM pG pB pQ pR pA
 simp only [lA,seval]
 refine LenR_i fun hll=>?_
 rw [List.length_map,hmax] at hll
 simp only [lA,seval,List.length_map]
 refine loop_i (fun i:Nat=>i≤l.length∧∀ x ∈ l.take i,p x=false) (fun i=>⟨[(0,.view 14 (l.map QY.av)),(1,.fn (.func g) [] (caps.map AV.vp)),(7,.int .i64 l.length),(8,.int .i64 i)],[]⟩) (fun i=>l.length - i) 0 ⟨by omega,by simp⟩ (ent [] false (by simp only [lP,seval,pa_vps,List.length_map]<;>(try simp)<;>(try omega)) (by simp only [lP,seval,pa_vps,List.length_map]<;>(try simp)<;>(try omega))) ?_
 rintro i ⟨hi,hn⟩
 by_cases hil:i<l.length
 · have hlt:((i:Int)<(l.length:Int)):=by omega
   have hc:=hp (l.getD i default) (by simp [hil])
   have hs:=fidx_some (p:=p) hil
   have hf:=all_step (p:=p) hil hn
   generalize hx:l.getD i default=x at *
   repeat' (first|(with_reducible first|(apply St.o;constructor)<;>intro _|refine And.intro (by omega) ?_|(apply Sq.o;constructor))|((with_reducible apply Sc.o true;constructor);simp only [lP,seval,IdxR_qs,hx,Int.toNat_natCast,List.length_map,hlt,decide_true,pa_vps,List.nil_append,List.cons_append];refine ⟨_,hc,?_⟩;rintro _ _ ⟨rfl,rfl⟩;simp only [lA,lP,seval,IdxR_qs,hx,Int.toNat_natCast,List.length_map,hlt,decide_true,pa_vps,List.nil_append,List.cons_append])|simp (disch:=omega) only [lE,seval,IdxR_qs,hx,Int.toNat_natCast,List.length_map,hlt,decide_true,pa_vps,List.nil_append,List.cons_append])
   · rename_i h
     exact keep_n (hs h hn).symm
   · rename_i h
     exact back_i (i+1) ⟨by omega,hf (by simpa using h)⟩ (by omega) (ent [] false (by simp only [lP,seval,pa_vps]<;>(try simp)<;>(try omega)) (by simp only [lP,seval,pa_vps]<;>(try simp)<;>(try omega)))
 · obtain rfl:i=l.length:=by omega
   rw [List.take_length] at hn
   repeat' (first|(with_reducible first|(apply St.o;constructor)<;>intro _|refine And.intro (by omega) ?_|(apply Sq.o;constructor))|simp (disch:=omega) only [lE,seval,List.length_map,Int.lt_irrefl,decide_false])
   exact keep_n (fidx_none hn).symm
theorem c112 (l:List OD) (g:FuncId) (caps:List (List AV)) (p:OD→Bool) (hp:∀ x ∈ l,ACalls E.P g (.agg x.cs::caps.map AV.vp) [] (fun r H=>r=.bool (p x)∧H=[])) :
 ACalls E.P 112 [.view 2 (l.map OD.av),.fn (.func g) [] (caps.map AV.vp)] [] (fun r H=>r=.int .i64 (fidx p l)∧H=[]):=by
 have hmax:=maxLen_eq
 refine ok112.acalls hE hm (by simp) fun N hN=>?_
 unfold mc112 pI pM pG pB pQ pR pA
 simp only [lA,seval]
 refine LenR_i fun hll=>?_
 rw [List.length_map,hmax] at hll
 simp only [lA,seval,List.length_map]
 refine loop_i (fun i:Nat=>i≤l.length∧∀ x ∈ l.take i,p x=false) (fun i=>⟨[(0,.view 2 (l.map OD.av)),(1,.fn (.func g) [] (caps.map AV.vp)),(7,.int .i64 l.length),(8,.int .i64 i)],[]⟩) (fun i=>l.length - i) 0 ⟨by omega,by simp⟩ (ent [] false (by simp only [lP,seval,pa_vps,List.length_map]<;>(try simp)<;>(try omega)) (by simp only [lP,seval,pa_vps,List.length_map]<;>(try simp)<;>(try omega))) ?_
 rintro i ⟨hi,hn⟩
 by_cases hil:i<l.length
 · have hlt:((i:Int)<(l.length:Int)):=by omega
   have hc:=hp (l.getD i default) (by simp [hil])
   have hs:=fidx_some (p:=p) hil
   have hf:=all_step (p:=p) hil hn
   generalize hx:l.getD i default=x at *
   repeat' (first|(with_reducible first|(apply St.o;constructor)<;>intro _|refine And.intro (by omega) ?_|(apply Sq.o;constructor))|((with_reducible apply Sc.o true;constructor);simp only [lP,seval,IdxR_ods,hx,Int.toNat_natCast,List.length_map,hlt,decide_true,pa_vps,List.nil_append,List.cons_append];refine ⟨_,hc,?_⟩;rintro _ _ ⟨rfl,rfl⟩;simp only [lA,lP,seval,IdxR_ods,hx,Int.toNat_natCast,List.length_map,hlt,decide_true,pa_vps,List.nil_append,List.cons_append])|simp (disch:=omega) only [lE,seval,IdxR_ods,hx,Int.toNat_natCast,List.length_map,hlt,decide_true,pa_vps,List.nil_append,List.cons_append])
   · rename_i h
     exact keep_n (hs h hn).symm
   · rename_i h
     exact back_i (i+1) ⟨by omega,hf (by simpa using h)⟩ (by omega) (ent [] false (by simp only [lP,seval,pa_vps]<;>(try simp)<;>(try omega)) (by simp only [lP,seval,pa_vps]<;>(try simp)<;>(try omega)))
 · obtain rfl:i=l.length:=by omega
   rw [List.take_length] at hn
   repeat' (first|(with_reducible first|(apply St.o;constructor)<;>intro _|refine And.intro (by omega) ?_|(apply Sq.o;constructor))|simp (disch:=omega) only [lE,seval,List.length_map,Int.lt_irrefl,decide_false])
   exact keep_n (fidx_none hn).symm
theorem c129 (l:List (List VL)) (g:FuncId) (caps:List (List AV)) (p:(List VL)→Bool) (hp:∀ x ∈ l,ACalls E.P g (rowV x::caps.map AV.vp) [] (fun r H=>r=.bool (p x)∧H=[])) :
 ACalls E.P 129 [.view 1 (l.map rowV),.fn (.func g) [] (caps.map AV.vp)] [] (fun r H=>r=.int .i64 (fidx p l)∧H=[]):=by
 have hmax:=maxLen_eq
 refine ok129.acalls hE hm (by simp) fun N hN=>?_
 unfold mc129 pI pM pG pB pQ pL pA
 simp only [lA,seval]
 refine LenR_i fun hll=>?_
 rw [List.length_map,hmax] at hll
 simp only [lA,seval,List.length_map]
 refine loop_i (fun i:Nat=>i≤l.length∧∀ x ∈ l.take i,p x=false) (fun i=>⟨[(0,.view 1 (l.map rowV)),(1,.fn (.func g) [] (caps.map AV.vp)),(7,.int .i64 l.length),(8,.int .i64 i)],[]⟩) (fun i=>l.length - i) 0 ⟨by omega,by simp⟩ (ent [] false (by simp only [lP,seval,pa_vps,List.length_map]<;>(try simp)<;>(try omega)) (by simp only [lP,seval,pa_vps,List.length_map]<;>(try simp)<;>(try omega))) ?_
 rintro i ⟨hi,hn⟩
 by_cases hil:i<l.length
 · have hlt:((i:Int)<(l.length:Int)):=by omega
   have hc:=hp (l.getD i default) (by simp [hil])
   have hs:=fidx_some (p:=p) hil
   have hf:=all_step (p:=p) hil hn
   generalize hx:l.getD i default=x at *
   repeat' (first|(with_reducible first|(apply St.o;constructor)<;>intro _|refine And.intro (by omega) ?_|(apply Sq.o;constructor))|((with_reducible apply Sc.o true;constructor);simp only [lP,seval,IdxR_rows,hx,Int.toNat_natCast,List.length_map,hlt,decide_true,pa_vps,List.nil_append,List.cons_append];refine ⟨_,hc,?_⟩;rintro _ _ ⟨rfl,rfl⟩;simp only [lA,lP,seval,IdxR_rows,hx,Int.toNat_natCast,List.length_map,hlt,decide_true,pa_vps,List.nil_append,List.cons_append])|simp (disch:=omega) only [lE,seval,IdxR_rows,hx,Int.toNat_natCast,List.length_map,hlt,decide_true,pa_vps,List.nil_append,List.cons_append])
   · rename_i h
     exact keep_n (hs h hn).symm
   · rename_i h
     exact back_i (i+1) ⟨by omega,hf (by simpa using h)⟩ (by omega) (ent [] false (by simp only [lP,seval,pa_vps]<;>(try simp)<;>(try omega)) (by simp only [lP,seval,pa_vps]<;>(try simp)<;>(try omega)))
 · obtain rfl:i=l.length:=by omega
   rw [List.take_length] at hn
   repeat' (first|(with_reducible first|(apply St.o;constructor)<;>intro _|refine And.intro (by omega) ?_|(apply Sq.o;constructor))|simp (disch:=omega) only [lE,seval,List.length_map,Int.lt_irrefl,decide_false])
   exact keep_n (fidx_none hn).symm
theorem c71 (l:List AG) (g:FuncId) (caps:List (List AV)) (p:AG→Bool) (hp:∀ x ∈ l,ACalls E.P g (.agg x.cs::caps.map AV.vp) [] (fun r H=>r=.bool (p x)∧H=[])) :
 ACalls E.P 71 [.view 7 (l.map AG.av),.fn (.func g) [] (caps.map AV.vp)] [] (fun r H=>r=.bool (l.any p)∧H=[]):=by
 have hi:=c109 l g caps p hp
 refine ok71.acalls hE hm (by simp) fun N hN=>?_
 unfold mc71 pZ pM pW
 simp only [lA,seval]
 repeat' (first|(with_reducible first|(apply St.o;constructor)<;>intro _|refine And.intro (by omega) ?_|(apply Sq.o;constructor))|((with_reducible apply Sc.o true;constructor);simp only [lP,seval,pa_vps];refine ⟨_,hi,?_⟩;rintro _ _ ⟨rfl,rfl⟩;simp only [lA,lP,seval,pa_vps])|simp (disch:=omega) only [lE,seval,pa_vps])
 exact keep_b fidx_ge
theorem c72 (l:List QY) (g:FuncId) (caps:List (List AV)) (p:QY→Bool) (hp:∀ x ∈ l,ACalls E.P g (.agg x.cs::caps.map AV.vp) [] (fun r H=>r=.bool (p x)∧H=[])) :
 ACalls E.P 72 [.view 14 (l.map QY.av),.fn (.func g) [] (caps.map AV.vp)] [] (fun r H=>r=.bool (l.any p)∧H=[]):=by
 have hi:=c110 l g caps p hp
 refine ok72.acalls hE hm (by simp) fun N hN=>?_
 unfold mc72 pZ pM pW
 simp only [lA,seval]
 repeat' (first|(with_reducible first|(apply St.o;constructor)<;>intro _|refine And.intro (by omega) ?_|(apply Sq.o;constructor))|((with_reducible apply Sc.o true;constructor);simp only [lP,seval,pa_vps];refine ⟨_,hi,?_⟩;rintro _ _ ⟨rfl,rfl⟩;simp only [lA,lP,seval,pa_vps])|simp (disch:=omega) only [lE,seval,pa_vps])
 exact keep_b fidx_ge
theorem c80 (l:List OD) (g:FuncId) (caps:List (List AV)) (p:OD→Bool) (hp:∀ x ∈ l,ACalls E.P g (.agg x.cs::caps.map AV.vp) [] (fun r H=>r=.bool (p x)∧H=[])) :
 ACalls E.P 80 [.view 2 (l.map OD.av),.fn (.func g) [] (caps.map AV.vp)] [] (fun r H=>r=.bool (l.any p)∧H=[]):=by
 have hi:=c112 l g caps p hp
 refine ok80.acalls hE hm (by simp) fun N hN=>?_
 unfold mc80 pZ pM pW
 simp only [lA,seval]
 repeat' (first|(with_reducible first|(apply St.o;constructor)<;>intro _|refine And.intro (by omega) ?_|(apply Sq.o;constructor))|((with_reducible apply Sc.o true;constructor);simp only [lP,seval,pa_vps];refine ⟨_,hi,?_⟩;rintro _ _ ⟨rfl,rfl⟩;simp only [lA,lP,seval,pa_vps])|simp (disch:=omega) only [lE,seval,pa_vps])
 exact keep_b fidx_ge
theorem c106 (l:List (List VL)) (g:FuncId) (caps:List (List AV)) (p:(List VL)→Bool) (hp:∀ x ∈ l,ACalls E.P g (rowV x::caps.map AV.vp) [] (fun r H=>r=.bool (p x)∧H=[])) :
 ACalls E.P 106 [.view 1 (l.map rowV),.fn (.func g) [] (caps.map AV.vp)] [] (fun r H=>r=.bool (l.any p)∧H=[]):=by
 have hi:=c129 l g caps p hp
 refine ok106.acalls hE hm (by simp) fun N hN=>?_
 unfold mc106 pZ pM pW
 simp only [lA,seval]
 repeat' (first|(with_reducible first|(apply St.o;constructor)<;>intro _|refine And.intro (by omega) ?_|(apply Sq.o;constructor))|((with_reducible apply Sc.o true;constructor);simp only [lP,seval,pa_vps];refine ⟨_,hi,?_⟩;rintro _ _ ⟨rfl,rfl⟩;simp only [lA,lP,seval,pa_vps])|simp (disch:=omega) only [lE,seval,pa_vps])
 exact keep_b fidx_ge
end Go.Proofs.Try
