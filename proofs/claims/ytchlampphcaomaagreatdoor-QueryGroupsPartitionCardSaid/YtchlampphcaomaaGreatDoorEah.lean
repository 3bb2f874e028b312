/-
 A part of the proof: see the text of the law.
-/
import Derived.Test.YtchlampphcaomaaGreatDoorEad
import Derived.Test.YtchlampphcaomaaGreatDoorAlphaK
set_option linter.unusedSimpArgs false
set_option linter.unusedVariables false
namespace Go.Proofs.Try
open Go.Proofs.Tryz
open Go.Al
set_option maxRecDepth 100000
abbrev q44_0:MI:=oZ 2
def mc44:MC:=(.seq (.ops [pK 1 0,(none,q44_0)]) (.seq (.ops [pR 6 14 1,(none,.e (.alloc 3 z0)),pS 14 3 6]) (.seq (.ops [pI 4 1]) (.seq (.seq (.ops [pF 7 2 3,(none,.e (.store 1 false (.t 7) (.c (.raw (.slice none 0 0)))))]) (.seq (.ops [pF 8 0 1,pL 9 8]) (.block 0 (.seq (.ops [pE 11 9 1,pM 10 11]) (.cond 10 (.ops [pF 12 1 3,(none,.e (.store 1 false (.t 12) (.c (.str ⟨#[]⟩)))),pI 4 0]) (.seq (.ops [pE 14 9 2,pM 13 14]) (.cond 13 (.ops [(none,.v (.build 15 z3 [])),pF 16 3 3,pS 6 16 15]) (.seq (.ops [pE 18 9 3,pM 17 18]) (.cond 17 (.ops [pF 19 9 3,(none,.e (.store 1 false (.t 19) (.c (.raw (.slice none 0 0)))))]) (.seq (.ops [pE 21 9 4,pM 20 21]) (.cond 20 (.ops [(none,.v (.build 22 z3 [])),pF 23 3 3,pS 6 23 22,pI 4 2]) (.seq (.ops [pE 25 9 5,pM 24 25]) (.cond 24 (.ops [pF 26 10 3,(none,.e (.store 1 false (.t 26) (.c (.raw (.slice none 0 0))))),pF 27 11 3,(none,.e (.store 1 false (.t 27) (.c (.raw (.slice none 0 0)))))]) (.seq (.ops [pE 29 9 6,pM 28 29]) (.cond 28 (.ops [pF 30 12 3,(none,.e (.store 1 false (.t 30) (.c (.raw (.slice none 0 0)))))]) (.seq (.ops [pE 32 9 7,pM 31 32]) (.cond 31 (.ops [pF 33 13 3,(none,.e (.store 1 false (.t 33) (.c (.int .i64 0))))]) (.seq (.ops [pE 35 9 8,pM 34 35]) (.cond 34 .skip (.seq (.ops [(none,q44_0)]) .ret)))))))))))))))))))) (.seq (.ops [(none,.v (.mov 5 (.c (.fn (.func 69) [] []))))]) (.seq (.seq (.ops [pR 36 14 3,pF 37 0 1,pL 38 37,(none,.v (.build 39 z0 [(0,1,.t 38)])),pW 40 27 36 39,pN 41 40,pM 42 41,gF 42 (oF 43 2 1),gF 42 (oL 44 43),gF 42 (oG 45 44),gF 42 (oM 46 4),(some (42,false),.v (.bin 47 .neq false (.t 45) (.t 46))),pO 48 42 47,pM 49 48,gF 49 (oF 50 11 1),gF 49 (oL 51 50),gF 49 (oM 52 5),gF 49 (oW 53 71 51 52),pO 54 49 53]) (.cond 54 (.seq (.ops [(none,q44_0)]) .ret) .skip)) (.seq (.ops [pF 55 2 1,pL 56 55,(none,.e (.call (some 57) 72 [.t 56,.c (.fn (.func 73) [] [])])),pN 58 57,pM 2 58]) .ret)))))))
theorem ok44:FnOk E 44 59 [.tmp 2] mc44:=ofk func44
def mc69:MC:=(.seq (.ops [pK 1 0,pZ 2]) (.seq (.ops [pF 3 0 1,pL 4 3,pE 5 4 1,pM 6 5,gT 6 (oF 7 1 1),gT 6 (oR 8 6 7),gT 6 (oV 9 70 8),gT 6 (oN 10 9),pP 11 6 10,pM 2 11]) .ret))
theorem ok69:FnOk E 69 12 [.tmp 2] mc69:=ofk func69
def mc70:MC:=(.seq (.ops [pK 1 0,pZ 2]) (.seq (.ops [pR 3 6 1,(none,.v (.build 4 z3 [])),pW 5 51 3 4,pM 2 5]) .ret))
theorem ok70:FnOk E 70 6 [.tmp 2] mc70:=ofk func70
def mc73:MC:=(.seq (.ops [pK 1 0,pZ 2]) (.seq (.ops [pR 3 14 1,pV 4 44 3,pN 5 4,pM 2 5]) .ret))
theorem ok73:FnOk E 73 6 [.tmp 2] mc73:=ofk func73
set_option maxRecDepth 20000
set_option maxHeartbeats 8000000
theorem ACalls.weakL {P:Program} {f:FuncId} {xs ys:List AV} {H:List AObj} {Q:AV→List AObj→Prop} (hw:WeakL xs ys) (h:ACalls P f ys H Q):ACalls P f xs H Q :=
 ⟨h.1,fun γ σ w vs hi hv=>h.2 γ σ w vs hi (hw γ σ vs hv)⟩
theorem weak2 {a b c d:List AV} (h:WeakL a c) (k:WeakL b d):WeakL [.agg a,.agg b] [.agg c,.agg d]:=.cons (WeakL.agg h) (.cons (WeakL.agg k) (.refl _))
theorem c27w (a b:QY) {xs ys:List AV} (hx:WeakL xs a.cs) (hy:WeakL ys b.cs):ACalls E.P 27 [.agg xs,.agg ys] [] (fun r H=>r=.bool (eqC a b)∧H=[]):=by
 have h:=c27 a b
 simp only [q_av] at h
 exact ACalls.weakL (weak2 hx hy) h
def EX.zero:EX:=.mk 0 0 0 0 ⟨#[]⟩ []
theorem zero_fs:EX.zero.fs=[.int .i64 0,.int .i64 0,.int .i64 0,.int .i64 0,.str ⟨#[]⟩,.view 6 []]:=rfl
noncomputable def EX.zr (e:EX):Bool:=eqC e EX.zero
theorem c70 (e:EX):ACalls E.P 70 [e.av] [] (fun r H=>r=.bool e.zr∧H=[]):=by
 have h:=c51 e EX.zero
 simp only [av_fs,zero_fs] at h
 have h51:ACalls E.P 51 [.agg e.fs,.agg [.int .i64 0,.int .i64 0,.int .i64 0,.int .i64 0,.str ⟨#[]⟩,.raw (.slice none 0 0)]] [] _:=ACalls.weakL (weak2 (.refl _) (.cons (.refl _) (.cons (.refl _) (.cons (.refl _) (.cons (.refl _) (.cons (.refl _) (.cons weak_nil (.refl _)))))))) h
 refine ok70.acalls hE hm (by simp) fun N hN=>?_
 unfold mc70 z3 pK pZ pR pW pM
 simp only [lA,seval,av_fs]
 repeat' (first|(with_reducible first|(apply St.o;constructor)<;>intro _|refine And.intro (by omega) ?_|(apply Sq.o;constructor))|((with_reducible apply Sc.o true;constructor);simp only [lP,seval];refine ⟨_,h51,?_⟩;rintro _ _ ⟨rfl,rfl⟩;simp only [lA,lP,seval])|simp (disch:=omega) only [lE,seval])
 exact keep_b rfl
noncomputable def AG.odd (a:AG):Bool:=decide (a.fn=1) && !a.arg.zr
theorem c69 (a:AG):ACalls E.P 69 [a.av] [] (fun r H=>r=.bool a.odd∧H=[]):=by
 have h70:=c70 a.arg
 simp only [av_fs] at h70
 refine ok69.acalls hE hm (by simp) fun N hN=>?_
 unfold mc69 pK pZ pF pL pE pM pP gT oR oF oN oV
 simp only [lA,seval,ag_av]
 repeat' (first|(with_reducible first|(apply St.o;constructor)<;>intro _|refine And.intro (by omega) ?_|(apply Sq.o;constructor))|((with_reducible apply Sc.o true;constructor);simp only [lP,seval];refine ⟨_,h70,?_⟩;rintro _ _ ⟨rfl,rfl⟩;simp only [lA,lP,seval])|simp (disch:=omega) only [lE,seval])
 all_goals (refine keep_b ?_;simp [AG.odd, *])
def subsN (k:Int):Nat:=if k=1 then 0 else if k=4 then 2 else 1
def QY.bare (q:QY):Prop:=(q.kind≠1→q.tab=⟨#[]⟩)∧(q.kind≠2∧q.kind≠4→q.cond=EX.zero)∧(q.kind≠3→q.cols=[])∧(q.kind≠5→q.grp=[]∧q.aggs=[])∧(q.kind≠6→q.ord=[])∧(q.kind≠7→q.n=0)
noncomputable def QY.bareB (q:QY):Bool:=@decide q.bare (Classical.propDecidable _)
theorem bareB_iff {q:QY}:q.bareB=true↔q.bare:=by simp [QY.bareB]
noncomputable def QY.node (q:QY):Bool:=@decide (1≤q.kind∧q.kind≤8∧q.bare∧q.subs.length=subsN q.kind∧∀ a ∈ q.aggs,a.odd=false) (Classical.propDecidable _)
theorem node_iff {q:QY}:q.node=true↔1≤q.kind∧q.kind≤8∧q.bare∧q.subs.length=subsN q.kind∧∀ a ∈ q.aggs,a.odd=false:=by simp [QY.node]
mutual
noncomputable def QY.formed:QY→Bool
 | .mk k t s c cols g a o n=>QY.node (.mk k t s c cols g a o n) && QY.formedL s
noncomputable def QY.formedL:List QY→Bool
 | []=>true
 | q::l=>q.formed && QY.formedL l
end
theorem formedL_q:∀ l:List QY,QY.formedL l=l.all QY.formed
 | []=>by simp [QY.formedL]
 | q::l=>by simp [QY.formedL,formedL_q l]
theorem qformed_eq (q:QY):q.formed=(q.node && q.subs.all QY.formed):=by
 cases q
 rw [QY.formed,formedL_q]
 rfl
theorem c73 (q:QY) (h44:ACalls E.P 44 [q.av] [] (fun r H=>r=.bool q.formed∧H=[])):ACalls E.P 73 [q.av] [] (fun r H=>r=.bool (!q.formed)∧H=[]):=by
 simp only [q_av] at h44
 refine ok73.acalls hE hm (by simp) fun N hN=>?_
 unfold mc73 pK pZ pR pV pN pM
 simp only [lA,seval,q_av]
 repeat' (first|(with_reducible first|(apply St.o;constructor)<;>intro _|refine And.intro (by omega) ?_|(apply Sq.o;constructor))|((with_reducible apply Sc.o true;constructor);simp only [lP,seval];refine ⟨_,h44,?_⟩;rintro _ _ ⟨rfl,rfl⟩;simp only [lA,lP,seval])|simp (disch:=omega) only [lE,seval])
 exact keep_b rfl
abbrev QY.bareL (k:Int):List AV:=[.int .i64 k,.str ⟨#[]⟩,.raw (.slice none 0 0),.int .i64 0,.int .i64 0,.int .i64 0,.int .i64 0,.str ⟨#[]⟩,.raw (.slice none 0 0),.raw (.slice none 0 0),.raw (.slice none 0 0),.raw (.slice none 0 0),.raw (.slice none 0 0),.int .i64 0]
def QY.bareQ (k:Int):QY:=.mk k ⟨#[]⟩ [] EX.zero [] [] [] [] 0
theorem nil1:(Value.slice none 0 0).oneCell'=true:=rfl
theorem bare_weak (k:Int):WeakL (QY.bareL k) (QY.bareQ k).cs :=
 .cons (.refl _) (.cons (.refl _) (.cons weak_nil (.cons (.refl _) (.cons (.refl _) (.cons (.refl _) (.cons (.refl _) (.cons (.refl _) (.cons weak_nil (.cons weak_nil (.cons weak_nil (.cons weak_nil (.cons weak_nil (.cons (.refl _) (.refl _))))))))))))))
theorem own1 (q:QY):WeakL [.int .i64 1,.str ⟨#[]⟩,.raw (.slice none 0 0),.int .i64 q.cond.op,.int .i64 q.cond.n,.int .i64 q.cond.val.k,.int .i64 q.cond.val.n,.str q.cond.val.s,.view 6 (q.cond.args.map EX.av),.view 6 (q.cols.map EX.av),.view 1 (q.grp.map (AV.int .i64)),.view 7 (q.aggs.map AG.av),.view 2 (q.ord.map OD.av),.int .i64 q.n] (QY.cs (.mk 1 ⟨#[]⟩ [] q.cond q.cols q.grp q.aggs q.ord q.n)) :=
 .cons (.refl _) (.cons (.refl _) (.cons weak_nil (.cons (.refl _) (.cons (.refl _) (.cons (.refl _) (.cons (.refl _) (.cons (.refl _) (.cons (.refl _) (.cons (.refl _) (.cons (.refl _) (.cons (.refl _) (.cons (.refl _) (.cons (.refl _) (.refl _))))))))))))))
theorem own2 (q:QY):WeakL [.int .i64 2,.str q.tab,.raw (.slice none 0 0),.int .i64 0,.int .i64 0,.int .i64 0,.int .i64 0,.str ⟨#[]⟩,.raw (.slice none 0 0),.view 6 (q.cols.map EX.av),.view 1 (q.grp.map (AV.int .i64)),.view 7 (q.aggs.map AG.av),.view 2 (q.ord.map OD.av),.int .i64 q.n] (QY.cs (.mk 2 q.tab [] EX.zero q.cols q.grp q.aggs q.ord q.n)) :=
 .cons (.refl _) (.cons (.refl _) (.cons weak_nil (.cons (.refl _) (.cons (.refl _) (.cons (.refl _) (.cons (.refl _) (.cons (.refl _) (.cons weak_nil (.cons (.refl _) (.cons (.refl _) (.cons (.refl _) (.cons (.refl _) (.cons (.refl _) (.refl _))))))))))))))
theorem own3 (q:QY):WeakL [.int .i64 3,.str q.tab,.raw (.slice none 0 0),.int .i64 q.cond.op,.int .i64 q.cond.n,.int .i64 q.cond.val.k,.int .i64 q.cond.val.n,.str q.cond.val.s,.view 6 (q.cond.args.map EX.av),.raw (.slice none 0 0),.view 1 (q.grp.map (AV.int .i64)),.view 7 (q.aggs.map AG.av),.view 2 (q.ord.map OD.av),.int .i64 q.n] (QY.cs (.mk 3 q.tab [] q.cond [] q.grp q.aggs q.ord q.n)) :=
 .cons (.refl _) (.cons (.refl _) (.cons weak_nil (.cons (.refl _) (.cons (.refl _) (.cons (.refl _) (.cons (.refl _) (.cons (.refl _) (.cons (.refl _) (.cons weak_nil (.cons (.refl _) (.cons (.refl _) (.cons (.refl _) (.cons (.refl _) (.refl _))))))))))))))
theorem own4 (q:QY):WeakL [.int .i64 4,.str q.tab,.raw (.slice none 0 0),.int .i64 0,.int .i64 0,.int .i64 0,.int .i64 0,.str ⟨#[]⟩,.raw (.slice none 0 0),.view 6 (q.cols.map EX.av),.view 1 (q.grp.map (AV.int .i64)),.view 7 (q.aggs.map AG.av),.view 2 (q.ord.map OD.av),.int .i64 q.n] (QY.cs (.mk 4 q.tab [] EX.zero q.cols q.grp q.aggs q.ord q.n)) :=
 .cons (.refl _) (.cons (.refl _) (.cons weak_nil (.cons (.refl _) (.cons (.refl _) (.cons (.refl _) (.cons (.refl _) (.cons (.refl _) (.cons weak_nil (.cons (.refl _) (.cons (.refl _) (.cons (.refl _) (.cons (.refl _) (.cons (.refl _) (.refl _))))))))))))))
theorem own5 (q:QY):WeakL [.int .i64 5,.str q.tab,.raw (.slice none 0 0),.int .i64 q.cond.op,.int .i64 q.cond.n,.int .i64 q.cond.val.k,.int .i64 q.cond.val.n,.str q.cond.val.s,.view 6 (q.cond.args.map EX.av),.view 6 (q.cols.map EX.av),.raw (.slice none 0 0),.raw (.slice none 0 0),.view 2 (q.ord.map OD.av),.int .i64 q.n] (QY.cs (.mk 5 q.tab [] q.cond q.cols [] [] q.ord q.n)) :=
 .cons (.refl _) (.cons (.refl _) (.cons weak_nil (.cons (.refl _) (.cons (.refl _) (.cons (.refl _) (.cons (.refl _) (.cons (.refl _) (.cons (.refl _) (.cons (.refl _) (.cons weak_nil (.cons weak_nil (.cons (.refl _) (.cons (.refl _) (.refl _))))))))))))))
theorem own6 (q:QY):WeakL [.int .i64 6,.str q.tab,.raw (.slice none 0 0),.int .i64 q.cond.op,.int .i64 q.cond.n,.int .i64 q.cond.val.k,.int .i64 q.cond.val.n,.str q.cond.val.s,.view 6 (q.cond.args.map EX.av),.view 6 (q.cols.map EX.av),.view 1 (q.grp.map (AV.int .i64)),.view 7 (q.aggs.map AG.av),.raw (.slice none 0 0),.int .i64 q.n] (QY.cs (.mk 6 q.tab [] q.cond q.cols q.grp q.aggs [] q.n)) :=
 .cons (.refl _) (.cons (.refl _) (.cons weak_nil (.cons (.refl _) (.cons (.refl _) (.cons (.refl _) (.cons (.refl _) (.cons (.refl _) (.cons (.refl _) (.cons (.refl _) (.cons (.refl _) (.cons (.refl _) (.cons weak_nil (.cons (.refl _) (.refl _))))))))))))))
theorem own7 (q:QY):WeakL [.int .i64 7,.str q.tab,.raw (.slice none 0 0),.int .i64 q.cond.op,.int .i64 q.cond.n,.int .i64 q.cond.val.k,.int .i64 q.cond.val.n,.str q.cond.val.s,.view 6 (q.cond.args.map EX.av),.view 6 (q.cols.map EX.av),.view 1 (q.grp.map (AV.int .i64)),.view 7 (q.aggs.map AG.av),.view 2 (q.ord.map OD.av),.int .i64 0] (QY.cs (.mk 7 q.tab [] q.cond q.cols q.grp q.aggs q.ord 0)) :=
 .cons (.refl _) (.cons (.refl _) (.cons weak_nil (.cons (.refl _) (.cons (.refl _) (.cons (.refl _) (.cons (.refl _) (.cons (.refl _) (.cons (.refl _) (.cons (.refl _) (.cons (.refl _) (.cons (.refl _) (.cons (.refl _) (.cons (.refl _) (.refl _))))))))))))))
theorem own8 (q:QY):WeakL [.int .i64 8,.str q.tab,.raw (.slice none 0 0),.int .i64 q.cond.op,.int .i64 q.cond.n,.int .i64 q.cond.val.k,.int .i64 q.cond.val.n,.str q.cond.val.s,.view 6 (q.cond.args.map EX.av),.view 6 (q.cols.map EX.av),.view 1 (q.grp.map (AV.int .i64)),.view 7 (q.aggs.map AG.av),.view 2 (q.ord.map OD.av),.int .i64 q.n] (QY.cs (.mk 8 q.tab [] q.cond q.cols q.grp q.aggs q.ord q.n)) :=
 .cons (.refl _) (.cons (.refl _) (.cons weak_nil (.cons (.refl _) (.cons (.refl _) (.cons (.refl _) (.cons (.refl _) (.cons (.refl _) (.cons (.refl _) (.cons (.refl _) (.cons (.refl _) (.cons (.refl _) (.cons (.refl _) (.cons (.refl _) (.refl _))))))))))))))
theorem sub_eq {q:QY} {k:Int} (hk:q.kind=k) {t:ByteArray} {c:EX} {cols:List EX} {g:List Int} {a:List AG} {o:List OD} {n:Int} (h1:1≤k) (h8:k≤8)
 (hb:q.bare↔t=⟨#[]⟩∧c=EX.zero∧cols=[]∧g=[]∧a=[]∧o=[]∧n=0) :
 eqC (QY.mk k t [] c cols g a o n) (QY.bareQ k)=q.bareB:=by
 refine eqC_of ?_
 simp only [bareB_iff,hb,QY.bareQ,QY.mk.injEq,true_and]
theorem formed_end {q:QY} {k:Int} {m:Nat} {b:Bool} (hk:q.kind=k) (h1:1≤k) (h8:k≤8) (hs:subsN k=m) (hb:b=q.bareB) :
 q.formed=((b && decide (q.subs.length=m) && !q.aggs.any AG.odd) && !q.subs.any fun s=>!s.formed):=by
 rw [qformed_eq,List.all_eq_not_any_not]
 congr 1
 subst hk hb hs
 rw [Bool.eq_iff_iff,node_iff]
 simp [and_assoc,h1,h8,bareB_iff]
theorem c44 (q:QY):ACalls E.P 44 [q.av] [] (fun r H=>r=.bool q.formed∧H=[]):=by
 have hmax:=maxLen_eq
 refine q_ind (p:=fun q=>ACalls E.P 44 [q.av] [] (fun r H=>r=.bool q.formed∧H=[])) (fun q ih=>?_) q
 refine ok44.acalls hE hm (by simp) fun N hN=>?_
 unfold mc44 q44_0 z0 z3 pK pR pS pI pF pL pE pM pW pN pO gF oM oL oF oZ oG oW
 simp only [lA,seval,q_av]
 have h71:ACalls E.P 71 [.view 7 (q.aggs.map AG.av),.fn (.func 69) [] []] [] (fun r H=>r=.bool (q.aggs.any AG.odd)∧H=[]):=c71 q.aggs 69 [] AG.odd fun x _=>c69 x
 have h72:ACalls E.P 72 [.view 14 (q.subs.map QY.av),.fn (.func 73) [] []] [] (fun r H=>r=.bool (q.subs.any fun s=>!s.formed)∧H=[]):=c72 q.subs 73 [] (fun s=>!s.formed) fun x hx=>by
  obtain ⟨i,hi,rfl⟩:=List.getElem_of_mem hx
  have h44:=ih i hi
  have:=c73 (q.subs.getD i default) h44
  rw [q_av] at this
  simpa [hi] using this
 by_cases hk:1≤q.kind∧q.kind≤8
 · have hk':q.kind=1∨q.kind=2∨q.kind=3∨q.kind=4∨q.kind=5∨q.kind=6∨q.kind=7∨q.kind=8:=by omega
   clear hk
   rcases hk' with hk | hk | hk | hk | hk | hk | hk | hk
   · have h27:=c27w (.mk 1 ⟨#[]⟩ [] q.cond q.cols q.grp q.aggs q.ord q.n) (QY.bareQ 1) (own1 q) (bare_weak 1)
     have hb:=sub_eq (t:=⟨#[]⟩) (c:=q.cond) (cols:=q.cols) (g:=q.grp) (a:=q.aggs) (o:=q.ord) (n:=q.n) hk (by omega) (by omega) (by simp [QY.bare,hk,and_assoc])
     have he:=formed_end (b:=q.bareB) hk (by omega) (by omega) (m:=0) rfl rfl
     rw [hb] at h27
     generalize q.bareB=b0 at *
     generalize q.aggs.any AG.odd=b1 at *
     generalize (q.subs.any fun s=>!s.formed)=b2 at *
     repeat' (first|(with_reducible first|(apply St.o;constructor)<;>intro _|refine And.intro (by omega) ?_|(apply Sq.o;constructor))|((with_reducible apply Sc.o true;constructor);simp only [lP,seval,hk,nil1,if_true,List.length_map,Int.reduceEq,decide_false,decide_true];(first|refine ⟨_,h27,?_⟩|refine ⟨_,h71,?_⟩|refine ⟨_,h72,?_⟩);rintro _ _ ⟨rfl,rfl⟩;simp only [lA,lP,seval,hk,nil1,if_true,List.length_map,Int.reduceEq,decide_false,decide_true])|simp (disch:=omega) only [lE,seval,hk,nil1,if_true,List.length_map,Int.reduceEq,decide_false,decide_true])
     all_goals try (exfalso;omega)
     all_goals (refine keep_b ?_;rw [he];clear he h27 h71 h72 ih;simp_all;try omega)
   · have h27:=c27w (.mk 2 q.tab [] EX.zero q.cols q.grp q.aggs q.ord q.n) (QY.bareQ 2) (own2 q) (bare_weak 2)
     have hb:=sub_eq (t:=q.tab) (c:=EX.zero) (cols:=q.cols) (g:=q.grp) (a:=q.aggs) (o:=q.ord) (n:=q.n) hk (by omega) (by omega) (by simp [QY.bare,hk,and_assoc])
     have he:=formed_end (b:=q.bareB) hk (by omega) (by omega) (m:=1) rfl rfl
     rw [hb] at h27
     generalize q.bareB=b0 at *
     generalize q.aggs.any AG.odd=b1 at *
     generalize (q.subs.any fun s=>!s.formed)=b2 at *
     repeat' (first|(with_reducible first|(apply St.o;constructor)<;>intro _|refine And.intro (by omega) ?_|(apply Sq.o;constructor))|((with_reducible apply Sc.o true;constructor);simp only [lP,seval,hk,nil1,if_true,List.length_map,Int.reduceEq,decide_false,decide_true];(first|refine ⟨_,h27,?_⟩|refine ⟨_,h71,?_⟩|refine ⟨_,h72,?_⟩);rintro _ _ ⟨rfl,rfl⟩;simp only [lA,lP,seval,hk,nil1,if_true,List.length_map,Int.reduceEq,decide_false,decide_true])|simp (disch:=omega) only [lE,seval,hk,nil1,if_true,List.length_map,Int.reduceEq,decide_false,decide_true])
     all_goals try (exfalso;omega)
     all_goals (refine keep_b ?_;rw [he];clear he h27 h71 h72 ih;simp_all;try omega)
   · have h27:=c27w (.mk 3 q.tab [] q.cond [] q.grp q.aggs q.ord q.n) (QY.bareQ 3) (own3 q) (bare_weak 3)
     have hb:=sub_eq (t:=q.tab) (c:=q.cond) (cols:=[]) (g:=q.grp) (a:=q.aggs) (o:=q.ord) (n:=q.n) hk (by omega) (by omega) (by simp [QY.bare,hk,and_assoc])
     have he:=formed_end (b:=q.bareB) hk (by omega) (by omega) (m:=1) rfl rfl
     rw [hb] at h27
     generalize q.bareB=b0 at *
     generalize q.aggs.any AG.odd=b1 at *
     generalize (q.subs.any fun s=>!s.formed)=b2 at *
     repeat' (first|(with_reducible first|(apply St.o;constructor)<;>intro _|refine And.intro (by omega) ?_|(apply Sq.o;constructor))|((with_reducible apply Sc.o true;constructor);simp only [lP,seval,hk,nil1,if_true,List.length_map,Int.reduceEq,decide_false,decide_true];(first|refine ⟨_,h27,?_⟩|refine ⟨_,h71,?_⟩|refine ⟨_,h72,?_⟩);rintro _ _ ⟨rfl,rfl⟩;simp only [lA,lP,seval,hk,nil1,if_true,List.length_map,Int.reduceEq,decide_false,decide_true])|simp (disch:=omega) only [lE,seval,hk,nil1,if_true,List.length_map,Int.reduceEq,decide_false,decide_true])
     all_goals try (exfalso;omega)
     all_goals (refine keep_b ?_;rw [he];clear he h27 h71 h72 ih;simp_all;try omega)
   · have h27:=c27w (.mk 4 q.tab [] EX.zero q.cols q.grp q.aggs q.ord q.n) (QY.bareQ 4) (own4 q) (bare_weak 4)
     have hb:=sub_eq (t:=q.tab) (c:=EX.zero) (cols:=q.cols) (g:=q.grp) (a:=q.aggs) (o:=q.ord) (n:=q.n) hk (by omega) (by omega) (by simp [QY.bare,hk,and_assoc])
     have he:=formed_end (b:=q.bareB) hk (by omega) (by omega) (m:=2) rfl rfl
     rw [hb] at h27
     generalize q.bareB=b0 at *
     generalize q.aggs.any AG.odd=b1 at *
     generalize (q.subs.any fun s=>!s.formed)=b2 at *
     repeat' (first|(with_reducible first|(apply St.o;constructor)<;>intro _|refine And.intro (by omega) ?_|(apply Sq.o;constructor))|((with_reducible apply Sc.o true;constructor);simp only [lP,seval,hk,nil1,if_true,List.length_map,Int.reduceEq,decide_false,decide_true];(first|refine ⟨_,h27,?_⟩|refine ⟨_,h71,?_⟩|refine ⟨_,h72,?_⟩);rintro _ _ ⟨rfl,rfl⟩;simp only [lA,lP,seval,hk,nil1,if_true,List.length_map,Int.reduceEq,decide_false,decide_true])|simp (disch:=omega) only [lE,seval,hk,nil1,if_true,List.length_map,Int.reduceEq,decide_false,decide_true])
     all_goals try (exfalso;omega)
     all_goals (refine keep_b ?_;rw [he];clear he h27 h71 h72 ih;simp_all;try omega)
   · have h27:=c27w (.mk 5 q.tab [] q.cond q.cols [] [] q.ord q.n) (QY.bareQ 5) (own5 q) (bare_weak 5)
     have hb:=sub_eq (t:=q.tab) (c:=q.cond) (cols:=q.cols) (g:=[]) (a:=[]) (o:=q.ord) (n:=q.n) hk (by omega) (by omega) (by simp [QY.bare,hk,and_assoc])
     have he:=formed_end (b:=q.bareB) hk (by omega) (by omega) (m:=1) rfl rfl
     rw [hb] at h27
     generalize q.bareB=b0 at *
     generalize q.aggs.any AG.odd=b1 at *
     generalize (q.subs.any fun s=>!s.formed)=b2 at *
     repeat' (first|(with_reducible first|(apply St.o;constructor)<;>intro _|refine And.intro (by omega) ?_|(apply Sq.o;constructor))|((with_reducible apply Sc.o true;constructor);simp only [lP,seval,hk,nil1,if_true,List.length_map,Int.reduceEq,decide_false,decide_true];(first|refine ⟨_,h27,?_⟩|refine ⟨_,h71,?_⟩|refine ⟨_,h72,?_⟩);rintro _ _ ⟨rfl,rfl⟩;simp only [lA,lP,seval,hk,nil1,if_true,List.length_map,Int.reduceEq,decide_false,decide_true])|simp (disch:=omega) only [lE,seval,hk,nil1,if_true,List.length_map,Int.reduceEq,decide_false,decide_true])
     all_goals try (exfalso;omega)
     all_goals (refine keep_b ?_;rw [he];clear he h27 h71 h72 ih;simp_all;try omega)
   · have h27:=c27w (.mk 6 q.tab [] q.cond q.cols q.grp q.aggs [] q.n) (QY.bareQ 6) (own6 q) (bare_weak 6)
     have hb:=sub_eq (t:=q.tab) (c:=q.cond) (cols:=q.cols) (g:=q.grp) (a:=q.aggs) (o:=[]) (n:=q.n) hk (by omega) (by omega) (by simp [QY.bare,hk,and_assoc])
     have he:=formed_end (b:=q.bareB) hk (by omega) (by omega) (m:=1) rfl rfl
     rw [hb] at h27
     generalize q.bareB=b0 at *
     generalize q.aggs.any AG.odd=b1 at *
     generalize (q.subs.any fun s=>!s.formed)=b2 at *
     repeat' (first|(with_reducible first|(apply St.o;constructor)<;>intro _|refine And.intro (by omega) ?_|(apply Sq.o;constructor))|((with_reducible apply Sc.o true;constructor);simp only [lP,seval,hk,nil1,if_true,List.length_map,Int.reduceEq,decide_false,decide_true];(first|refine ⟨_,h27,?_⟩|refine ⟨_,h71,?_⟩|refine ⟨_,h72,?_⟩);rintro _ _ ⟨rfl,rfl⟩;simp only [lA,lP,seval,hk,nil1,if_true,List.length_map,Int.reduceEq,decide_false,decide_true])|simp (disch:=omega) only [lE,seval,hk,nil1,if_true,List.length_map,Int.reduceEq,decide_false,decide_true])
     all_goals try (exfalso;omega)
     all_goals (refine keep_b ?_;rw [he];clear he h27 h71 h72 ih;simp_all;try omega)
   · have h27:=c27w (.mk 7 q.tab [] q.cond q.cols q.grp q.aggs q.ord 0) (QY.bareQ 7) (own7 q) (bare_weak 7)
     have hb:=sub_eq (t:=q.tab) (c:=q.cond) (cols:=q.cols) (g:=q.grp) (a:=q.aggs) (o:=q.ord) (n:=0) hk (by omega) (by omega) (by simp [QY.bare,hk,and_assoc])
     have he:=formed_end (b:=q.bareB) hk (by omega) (by omega) (m:=1) rfl rfl
     rw [hb] at h27
     generalize q.bareB=b0 at *
     generalize q.aggs.any AG.odd=b1 at *
     generalize (q.subs.any fun s=>!s.formed)=b2 at *
     repeat' (first|(with_reducible first|(apply St.o;constructor)<;>intro _|refine And.intro (by omega) ?_|(apply Sq.o;constructor))|((with_reducible apply Sc.o true;constructor);simp only [lP,seval,hk,nil1,if_true,List.length_map,Int.reduceEq,decide_false,decide_true];(first|refine ⟨_,h27,?_⟩|refine ⟨_,h71,?_⟩|refine ⟨_,h72,?_⟩);rintro _ _ ⟨rfl,rfl⟩;simp only [lA,lP,seval,hk,nil1,if_true,List.length_map,Int.reduceEq,decide_false,decide_true])|simp (disch:=omega) only [lE,seval,hk,nil1,if_true,List.length_map,Int.reduceEq,decide_false,decide_true])
     all_goals try (exfalso;omega)
     all_goals (refine keep_b ?_;rw [he];clear he h27 h71 h72 ih;simp_all;try omega)
   · have h27:=c27w (.mk 8 q.tab [] q.cond q.cols q.grp q.aggs q.ord q.n) (QY.bareQ 8) (own8 q) (bare_weak 8)
     have hb:=sub_eq (t:=q.tab) (c:=q.cond) (cols:=q.cols) (g:=q.grp) (a:=q.aggs) (o:=q.ord) (n:=q.n) hk (by omega) (by omega) (by simp [QY.bare,hk,and_assoc])
     have he:=formed_end (b:=q.bareB) hk (by omega) (by omega) (m:=1) rfl rfl
     rw [hb] at h27
     generalize q.bareB=b0 at *
     generalize q.aggs.any AG.odd=b1 at *
     generalize (q.subs.any fun s=>!s.formed)=b2 at *
     repeat' (first|(with_reducible first|(apply St.o;constructor)<;>intro _|refine And.intro (by omega) ?_|(apply Sq.o;constructor))|((with_reducible apply Sc.o true;constructor);simp only [lP,seval,hk,nil1,if_true,List.length_map,Int.reduceEq,decide_false,decide_true];(first|refine ⟨_,h27,?_⟩|refine ⟨_,h71,?_⟩|refine ⟨_,h72,?_⟩);rintro _ _ ⟨rfl,rfl⟩;simp only [lA,lP,seval,hk,nil1,if_true,List.length_map,Int.reduceEq,decide_false,decide_true])|simp (disch:=omega) only [lE,seval,hk,nil1,if_true,List.length_map,Int.reduceEq,decide_false,decide_true])
     all_goals try (exfalso;omega)
     all_goals (refine keep_b ?_;rw [he];clear he h27 h71 h72 ih;simp_all;try omega)
 · repeat' (first|(with_reducible first|(apply St.o;constructor)<;>intro _|refine And.intro (by omega) ?_|(apply Sq.o;constructor))|simp (disch:=omega) only [lE,seval])
   all_goals try (exfalso;omega)
   exact keep_b (by rw [qformed_eq];simp;intro h;rw [node_iff] at h;omega)
set_option maxRecDepth 100000
def mc77:MC:=(.seq (.ops [pK 3 1,pI 4 0]) (.seq (.ops [pM 8 0,pR 9 6 3,pW 10 111 8 9,pM 7 10,pX 11 0 7,pX 12 1 7,pM 5 11,pM 6 12]) (.seq (.seq (.ops [pM 13 6,pE 14 13 0,pM 15 14,gT 15 (oM 16 5),gT 15 (oD 17 16 3),pP 18 15 17,pM 19 18,gT 19 (oM 20 5),gT 19 (oD 21 20 0),pP 22 19 21]) (.cond 22 (.seq (.ops [pI 4 7]) .ret) .skip)) (.seq (.ops [pM 23 6,pM 4 23]) .ret))))
theorem ok77:FnOk E 77 24 [.tmp 4] mc77:=ofk func77
abbrev q78_0:MI:=oY 4
def mc78:MC:=(.seq (.ops [(none,q78_0),pI 5 0]) (.seq (.block 0 (.seq (.ops [pM 12 1,pG 13 12,pE 14 13 0,pM 11 14]) (.cond 11 (.seq (.ops [(none,q78_0),pI 5 1]) .ret) (.seq (.ops [pM 16 1,pG 17 16,(none,.v (.bin 18 .gtr false (.t 17) (.c (.int .i64 32)))),pM 15 18]) (.cond 15 (.seq (.ops [(none,q78_0),pI 5 2]) .ret) .skip))))) (.seq (.ops [pY 6]) (.seq (.seq (.ops [pM 19 1,pG 20 19,pI 21 0]) (.block 1 (.loop (.seq (.ops [pB 22 21 20]) (.seq (.cond 22 .skip (.exit 1)) (.seq (.block 2 (.seq (.ops [pQ 23 6 19 21,pR 24 6 23,(none,.e (.alloc 8 z3)),pS 6 8 24]) (.seq (.ops [pM 26 0,pR 27 6 8,pW 28 111 26 27,pM 25 28,pX 29 0 25,pX 30 1 25,pM 9 29,pM 10 30]) (.seq (.seq (.ops [pM 31 10,pD 32 31 0]) (.cond 32 (.seq (.ops [pM 33 10,(none,q78_0),pM 5 33]) .ret) .skip)) (.ops [pM 34 6,pM 35 9,(none,.e (.mkl 36 3 1 1 (.int .i64 0) [(0,.t 35)])),(none,.e (.app 37 3 1 8 (.t 34) (.t 36))),pM 6 37]))))) (.ops [pA 38 21 1,pM 21 38]))))))) (.seq (.ops [pM 39 6,pM 4 39,pI 5 0]) .ret)))))
theorem ok78:FnOk E 78 40 [.tmp 4,.tmp 5] mc78:=ofk func78
set_option maxRecDepth 20000
def mapE {α β:Type} (f:α→β × Int):List α→List β × Int
 | []=>([],0)
 | x::l=>if (f x).2≠0 then ([],(f x).2) else if (mapE f l).2≠0 then ([],(mapE f l).2) else ((f x).1::(mapE f l).1,0)
theorem mapE_err {α β:Type} [Inhabited α] {f:α→β × Int}:∀ {l:List α} {i:Nat},i<l.length→(∀ x ∈ l.take i,(f x).2=0)→(f (l.getD i default)).2≠0→mapE f l=([],(f (l.getD i default)).2)
 | [],i,hi,_,_=>by simp at hi
 | x::l,0,_,_,he=>by
   simp only [List.getD_cons_zero] at he ⊢
   rw [mapE,if_pos he]
 | x::l,i+1,hi,hn,he=>by
   simp only [List.getD_cons_succ] at he ⊢
   have hx:=hn x (by simp)
   have ih:=mapE_err (f:=f) (l:=l) (i:=i) (by simpa using hi) (fun y hy=>hn y (by simp [hy])) he
   rw [mapE,if_neg (by simp [hx]),ih,if_pos he]
theorem mapE_ok {α β:Type} {f:α→β × Int}:∀ {l:List α},(∀ x ∈ l,(f x).2=0)→mapE f l=(l.map fun x=>(f x).1,0)
 | [],_=>rfl
 | x::l,h=>by
   rw [mapE,if_neg (by simp [h x]),mapE_ok (l:=l) fun y hy=>h y (by simp [hy])]
   simp
theorem mapE_cases {α β:Type} {f:α→β × Int} (l:List α):((mapE f l).2=0∧∀ x ∈ l,(f x).2=0)∨((mapE f l).1=[]∧(mapE f l).2≠0):=by
 induction l with
 | nil=>exact .inl ⟨rfl,by simp⟩
 | cons x l ih =>
   rw [mapE]
   split
   · rename_i h;exact .inr ⟨rfl,h⟩
   · rename_i h
     split
     · rename_i h2;exact .inr ⟨rfl,h2⟩
     · rename_i h2
       refine .inl ⟨rfl,fun y hy=>?_⟩
       rcases List.mem_cons.1 hy with rfl | hy
       · simpa using h
       · rcases ih with ih | ih
         · exact ih.2 y hy
         · exact absurd ih.2 h2
def truthE (ks:List Int) (e:EX):Int:=if (chk ks e).2=0∧(chk ks e).1≠3∧(chk ks e).1≠0 then 7 else (chk ks e).2
def projK (ks:List Int) (l:List EX):List Int × Int:=if l.length=0 then ([],1) else if 32<l.length then ([],2) else mapE (chk ks) l
theorem c77 (ks:List Int) (e:EX) (hI:e.okI):ACalls E.P 77 [ksV ks,e.av] [] (fun r H=>r=.int .i64 (truthE ks e)∧H=[]):=by
 have h111:=c111 ks e hI
 simp only [av_fs] at h111
 unfold truthE
 generalize chk ks e=k at *
 refine ok77.acalls hE hm (by simp) fun N hN=>?_
 unfold mc77 pK pI pM pR pW pX pE pP gT oM oD
 simp only [lA,seval,av_fs]
 repeat' (first|(with_reducible first|(apply St.o;constructor)<;>intro _|refine And.intro (by omega) ?_|(apply Sq.o;constructor))|((with_reducible apply Sc.o true;constructor);simp only [lP,seval];refine ⟨_,h111,?_⟩;rintro _ _ ⟨rfl,rfl⟩;simp only [lA,lP,seval])|simp (disch:=omega) only [lE,seval])
 all_goals (refine keep_n ?_;clear h111;simp_all)
theorem okIL_mem:∀ {l:List EX},EX.okIL l↔∀ e ∈ l,e.okI
 | []=>by simp [EX.okIL]
 | e::es=>by simp [EX.okIL,okIL_mem (l:=es)]
theorem keep_ke {k:Int} {H:List AObj} {Q:List Int × Int} (h:Q=([],k)):keepQ 0 (fun r H=>r=.tup [ksV Q.1,.int .i64 Q.2]∧H=[]) (.tup [.raw (.slice none 0 0),.int .i64 k]) H:=by
 subst h
 refine keepw_i [] false rfl (by simp) rfl (r':=.tup [.view 1 [],.int .i64 k]) ?_ ⟨rfl,rfl⟩
 exact WeakL.tup (.cons weak_nil (.refl _))
theorem keep_kl {l:List Int} {n:Nat} {Q:List Int × Int} (h:Q=(l,0)) (hn:n=l.length):keepQ 0 (fun r H=>r=.tup [ksV Q.1,.int .i64 Q.2]∧H=[]) (.tup [.slc 0 1 n,.int .i64 0]) [.arr 3 1 (l.map (AV.int .i64))]:=by
 subst h hn
 refine keep_i [] true (by simp) (by simp) rfl ?_
 simp only [lP,seval,List.length_map]
theorem c78 (ks:List Int) (l:List EX) (hI:EX.okIL l):ACalls E.P 78 [ksV ks,.view 6 (l.map EX.av)] [] (fun r H=>r=.tup [ksV (projK ks l).1,.int .i64 (projK ks l).2]∧H=[]):=by
 have hmax:=maxLen_eq
 refine ok78.acalls hE hm (by simp) fun N hN=>?_
 unfold mc78 q78_0 z3 pI pM pG pE pY pB pQ pR pS pW pX pD pA oY
 simp only [lA,seval]
 repeat' (first|(with_reducible first|(apply St.o;constructor)<;>intro _|refine And.intro (by omega) ?_|(apply Sq.o;constructor))|simp (disch:=omega) only [lE,seval,List.length_map])
 · rename_i h
   exact keep_ke (by rw [projK,if_pos (by omega)])
 · rename_i h
   exact keep_ke (by rw [projK,if_neg (by omega),if_pos (by omega)])
 rename_i h0 h32
 have hp:projK ks l=mapE (chk ks) l:=by rw [projK,if_neg (by omega),if_neg (by omega)]
 rw [hp]
 refine loop_i (fun i:Nat=>i≤l.length∧∀ x ∈ l.take i,(chk ks x).2=0) (fun i=>⟨[(0,ksV ks),(6,.slc 0 1 i),(19,.view 6 (l.map EX.av)),(20,.int .i64 l.length),(21,.int .i64 i)],[.arr 3 1 (((l.take i).map fun x=>(chk ks x).1).map (AV.int .i64))]⟩) (fun i=>l.length - i) 0 ⟨by omega,by simp⟩ (Ent.ghost' 6 3 1 (by omega) rfl (ent [0] false)) ?_
 rintro i ⟨hi,hn⟩
 have hlen:(l.take i).length=i:=by simp;omega
 by_cases hin:i<l.length
 · have hlt:((i:Int)<(l.length:Int)):=by omega
   have h111:=c111 ks (l.getD i default) (okIL_mem.1 hI _ (by simp [hin]))
   have he:=mapE_err (f:=chk ks) hin hn
   have hs:=all_step (p:=fun x=>decide ((chk ks x).2≠0)) hin (fun x hx=>by simp [hn x hx])
   have ht:=take_ints (f:=fun x=>(chk ks x).1) hin
   simp only [av_fs] at h111
   generalize hx:l.getD i default=x at *
   repeat' (first|(with_reducible first|(apply St.o;constructor)<;>intro _|refine And.intro (by omega) ?_|(apply Sq.o;constructor))|((with_reducible apply Sc.o true;constructor);simp only [lP,seval,IdxR_exs,hx,Int.toNat_natCast,List.length_map,hlt,decide_true,hlen];refine ⟨_,h111,?_⟩;rintro _ _ ⟨rfl,rfl⟩;simp only [lA,lP,seval,IdxR_exs,hx,Int.toNat_natCast,List.length_map,hlt,decide_true,hlen])|simp (disch:=omega) only [lE,seval,IdxR_exs,hx,Int.toNat_natCast,List.length_map,hlt,decide_true,hlen])
   · rename_i h
     exact keep_ke (he h)
   · rename_i h
     refine back_i (i+1) ⟨by omega,fun y hy=>?_⟩ (by omega) ?_
     · have:=hs (by simpa using h) y hy
       simpa using this
     · rw [ht]
       exact (ent [3] false (by simp only [lP,seval,hlen,List.map_append]<;>(try simp)<;>(try omega)) (by simp only [lP,seval,hlen,List.map_append]<;>(try simp)<;>(try omega)))
 · obtain rfl:i=l.length:=by omega
   rw [List.take_length] at hn ⊢
   repeat' (first|(with_reducible first|(apply St.o;constructor)<;>intro _|refine And.intro (by omega) ?_|(apply Sq.o;constructor))|simp (disch:=omega) only [lE,seval,List.length_map,Int.lt_irrefl,decide_false])
   exact keep_kl (mapE_ok hn) (by simp)
set_option maxRecDepth 100000
abbrev q79_0:MI:=oY 4
def mc79:MC:=(.seq (.ops [pK 3 1,(none,q79_0),pI 5 0]) (.seq (.seq (.ops [pF 14 10 3,pL 15 14,pG 16 15,pF 17 11 3,pL 18 17,pG 19 18,(none,.v (.bin 20 .add false (.t 16) (.t 19))),pE 21 20 0]) (.cond 21 (.seq (.ops [(none,q79_0),pI 5 1]) .ret) .skip)) (.seq (.ops [pY 6]) (.seq (.ops [(none,.e (.mkmap 22)),pM 7 22]) (.seq (.seq (.ops [pF 23 10 3,pL 24 23,pG 25 24,pI 26 0]) (.block 0 (.loop (.seq (.ops [pB 27 26 25]) (.seq (.cond 27 .skip (.exit 0)) (.seq (.block 1 (.seq (.ops [pQ 28 1 24 26,pL 29 28,pM 9 29]) (.seq (.seq (.ops [pM 30 9,(none,.v (.bin 31 .lss false (.t 30) (.c (.int .i64 0)))),pM 32 31,gF 32 (oM 33 9),gF 32 (oM 34 0),gF 32 (oG 35 34),(some (32,false),.v (.bin 36 .geq false (.t 33) (.t 35))),pO 37 32 36,pM 38 37,gF 38 (oM 39 7),gF 38 (oM 40 9),(some (38,false),.p (.look 41 false (.int .i64) (.bool false) (.t 39) (.t 40))),pO 42 38 41]) (.cond 42 (.seq (.ops [(none,q79_0),pI 5 1]) .ret) .skip)) (.seq (.ops [pM 43 7,pM 44 9,(none,.e (.mput (.int .i64) (.t 43) (.t 44) (.c (.bool true))))]) (.ops [pM 45 6,pM 46 0,pM 47 9,pQ 48 1 46 47,pL 49 48,(none,.e (.mkl 50 3 1 1 (.int .i64 0) [(0,.t 49)])),(none,.e (.app 51 3 1 8 (.t 45) (.t 50))),pM 6 51]))))) (.ops [pA 52 26 1,pM 26 52]))))))) (.seq (.seq (.ops [pF 53 10 3,pL 54 53,pG 55 54,pF 56 11 3,pL 57 56,pG 58 57,(none,.v (.bin 59 .add false (.t 55) (.t 58))),(none,.v (.bin 60 .gtr false (.t 59) (.c (.int .i64 32))))]) (.cond 60 (.seq (.ops [(none,q79_0),pI 5 2]) .ret) .skip)) (.seq (.seq (.ops [pF 61 11 3,pL 62 61,pG 63 62,pI 64 0]) (.block 2 (.loop (.seq (.ops [pB 65 64 63]) (.seq (.cond 65 .skip (.exit 2)) (.seq (.block 3 (.seq (.ops [pQ 66 7 62 64,pR 67 7 66,(none,.e (.alloc 11 z4)),pS 7 11 67]) (.seq (.ops [pI 12 1,pI 13 0]) (.seq (.seq (.ops [pF 68 0 11,pL 69 68]) (.block 4 (.seq (.ops [pE 71 69 1,pM 70 71]) (.cond 70 .skip (.seq (.seq (.ops [pE 73 69 2,pM 72 73]) (.cond 72 .skip (.seq (.ops [pE 74 69 3,pM 72 74]) (.cond 72 .skip (.ops [pE 75 69 4,pM 72 75]))))) (.cond 72 (.seq (.ops [pM 77 0,pF 78 1 11,pR 79 6 78,pW 80 111 77 79,pM 76 80,pX 81 0 76,pX 82 1 76,pM 12 81,pM 13 82]) (.seq (.ops [pM 83 13,pE 84 83 0,pM 85 84,gT 85 (oF 86 0 11),gT 85 (oL 87 86),gT 85 (oE 88 87 2),pP 89 85 88]) (.cond 89 (.seq (.seq (.ops [pM 90 12,pD 91 90 1,pM 92 91,gT 92 (oM 93 12),gT 92 (oD 94 93 0),pP 95 92 94]) (.cond 95 (.ops [pI 13 7]) .skip)) (.ops [pI 12 1])) .skip))) (.ops [pI 13 1]))))))) (.seq (.seq (.ops [pM 96 13,pD 97 96 0]) (.cond 97 (.seq (.ops [pM 98 13,(none,q79_0),pM 5 98]) .ret) .skip)) (.ops [pM 99 6,pM 100 12,(none,.e (.mkl 101 3 1 1 (.int .i64 0) [(0,.t 100)])),(none,.e (.app 102 3 1 8 (.t 99) (.t 101))),pM 6 102])))))) (.ops [pA 103 64 1,pM 64 103]))))))) (.seq (.ops [pM 104 6,pM 4 104,pI 5 0]) .ret))))))))
theorem ok79:FnOk E 79 105 [.tmp 4,.tmp 5] mc79:=ofk func79
set_option maxRecDepth 20000
abbrev tru (l:List Int):List AV:=l.map fun _=>AV.bool true
abbrev ints (l:List Int):List AV:=l.map (AV.int .i64)
theorem pa_tru {H:List AObj} {l:List Nat} {bor:Bool} {n:Nat} {xs:List Int}:(tru xs).map (pa H l bor n)=tru xs:=map_same (fun _=>pa_bool) xs
theorem find_s {r:Int}:∀ (l:List Int) (i:Nat),(r ∉ l∧findK (.int .i64) (.int .i64 r) (ints l) i=some none)∨(r ∈ l∧∃ j,j<l.length∧findK (.int .i64) (.int .i64 r) (ints l) i=some (some (i+j)))
 | [],i=>.inl ⟨by simp,rfl⟩
 | p::m,i=>by
   rw [ints,List.map_cons,findK]
   by_cases hp:p=r
   · have hq:eqK (.int .i64) (.int .i64 r) (.int .i64 p)=some true:=by simp [eqK,hp]
     rw [hq]
     exact .inr ⟨by simp [hp],0,by simp,rfl⟩
   · have hr:¬ r=p:=fun e=>hp e.symm
     have hq:eqK (.int .i64) (.int .i64 r) (.int .i64 p)=some false:=by simp [eqK,hr]
     rw [hq]
     rcases find_s m (i+1) with ⟨h1,h2⟩ | ⟨h1,j,h2,h3⟩
     · exact .inl ⟨by simp [hr,h1],h2⟩
     · exact .inr ⟨by simp [h1],j+1,by simpa using h2,by simp only;rw [h3];congr 2;omega⟩
theorem look_s (l:List Int) (r:Int):Al.look (.int .i64) (.bool false) (ints l) (tru l) (.int .i64 r)=some (.bool (decide (r ∈ l)),decide (r ∈ l)):=by
 unfold Al.look
 rcases find_s (r:=r) l 0 with ⟨h1,h2⟩ | ⟨h1,j,h2,h3⟩
 · simp [keyIs,keysOk,h1,h2]
 · simp [keyIs,keysOk,h1,h3,h2]
theorem put_s {l:List Int} {r:Int} (h:r ∉ l) (bs:List Nat) (c:Nat):putK (.int .i64) (ints l) (tru l) bs c (.int .i64 r) (.bool true)=some (.map (ints (l++[r])) (tru (l++[r])) (bs++[c]) (c+1)):=by
 unfold putK
 rcases find_s (r:=r) l 0 with ⟨h1,h2⟩ | ⟨h1,j,h2,h3⟩
 · simp [keyIs,keysOk,h2]
 · exact absurd h1 h
def aggK (ks:List Int) (a:AG):Int × Int :=
 if a.fn=1 then (1,0) else if a.fn=2∨a.fn=3∨a.fn=4 then (if (chk ks a.arg).2=0∧a.fn=2 then (1,if (chk ks a.arg).1≠1∧(chk ks a.arg).1≠0 then 7 else 0) else chk ks a.arg) else (1,1)
def gOk (ks:List Int) (g:List Int):Prop:=g.Nodup∧∀ c ∈ g,0≤c∧c<ks.length
instance (ks g:List Int):Decidable (gOk ks g):=by unfold gOk;infer_instance
def groupsK (ks:List Int) (g:List Int) (a:List AG):List Int × Int :=
 if g.length+a.length=0∨¬ gOk ks g then ([],1) else if 32<g.length+a.length then ([],2) else
  if (mapE (aggK ks) a).2≠0 then ([],(mapE (aggK ks) a).2) else (g.map (fun c=>ks.getD c.toNat 0)++(mapE (aggK ks) a).1,0)
theorem gOk_len {ks g:List Int} (h:gOk ks g):g.length≤ks.length:=by
 have:(g.map Int.toNat).Nodup:=by
  rw [List.Nodup,List.pairwise_map]
  refine h.1.imp_of_mem fun ha hb hab e=>hab ?_
  have h1:=h.2 _ ha
  have h2:=h.2 _ hb
  omega
 have hs:g.map Int.toNat ⊆ List.range ks.length:=by
  intro x hx
  obtain ⟨c,hc,rfl⟩:=List.mem_map.1 hx
  have:=h.2 c hc
  simp;omega
 have:=this.length_le_of_subset hs
 simpa using this
theorem gOk_take {ks g:List Int} {i:Nat} (hi:i<g.length) (h:gOk ks (g.take i)):gOk ks (g.take (i+1))↔(0≤g.getD i 0∧g.getD i 0<ks.length)∧g.getD i 0 ∉ g.take i:=by
 have hg:g.getD i 0=g[i]:=by simp [hi]
 rw [hg,List.take_succ_eq_append_getElem hi]
 unfold gOk at *
 rw [List.nodup_append]
 constructor
 · rintro ⟨⟨_,_,h1⟩,h2⟩
   exact ⟨h2 _ (List.mem_append_right _ (List.mem_singleton.2 rfl)),fun hm=>h1 _ hm _ (by simp) rfl⟩
 · rintro ⟨h1,h2⟩
   refine ⟨⟨h.1,by simp,fun a ha b hb e=>?_⟩,fun c hc=>?_⟩
   · rw [List.mem_singleton.1 hb] at e
     exact h2 (e ▸ ha)
   · rcases List.mem_append.1 hc with hc | hc
     · exact h.2 c hc
     · rw [List.mem_singleton.1 hc];exact h1
theorem gOk_not {ks g:List Int} {i:Nat} (hi:i<g.length) (h:¬ gOk ks (g.take (i+1))):¬ gOk ks g:=fun hg=>h
 ⟨(List.take_sublist _ _).nodup hg.1,fun c hc=>hg.2 c (List.mem_of_mem_take hc)⟩
theorem c79 (ks:List Int) (q:QY) (hk:ks.length≤2000000) (hg:q.grp.length≤20000000000000) (ha:q.aggs.length≤20000000000000) (hI:∀ a ∈ q.aggs,a.arg.okI) :
 ACalls E.P 79 [ksV ks,q.av] [] (fun r H=>r=.tup [ksV (groupsK ks q.grp q.aggs).1,.int .i64 (groupsK ks q.grp q.aggs).2]∧H=[]):=by
 have hmax:=maxLen_eq
 have hw:IntKind.i64.wrap ((q.grp.length:Int)+(q.aggs.length:Int))=(q.grp.length:Int)+(q.aggs.length:Int):=wrap_i64 (by omega) (by omega)
 refine ok79.acalls hE hm (by simp) fun N hN=>?_
 unfold mc79 q79_0 z4 pK pI pF pL pG pE pY pM pB pQ pO pA pR pS pW pX pP pD gF gT oM oL oF oE oD oY oG
 simp only [lA,seval,q_av]
 repeat' (first|(with_reducible first|(apply St.o;constructor)<;>intro _|refine And.intro (by omega) ?_|(apply Sq.o;constructor))|simp (disch:=omega) only [lE,seval,List.length_map,hw])
 · rename_i h
   exact keep_ke (by rw [groupsK,if_pos (by omega)])
 rename_i h0
 refine loop_i (fun i:Nat=>i≤q.grp.length∧gOk ks (q.grp.take i)) (fun i=>⟨[(0,ksV ks),(3,.op 0 0),(6,.slc 1 1 i),(7,.mp 2),(24,.view 1 (ints q.grp)),(25,.int .i64 q.grp.length),(26,.int .i64 i)],[.box q.cs,.arr 3 1 (((q.grp.take i).map fun c=>ks.getD c.toNat 0).map (AV.int .i64)),.map (ints (q.grp.take i)) (tru (q.grp.take i)) (List.range i) i]⟩) (fun i=>q.grp.length - i) 0 ⟨by omega,by simp [gOk]⟩ (Ent.ghost' 6 3 1 (by omega) rfl (ent [0,2,1] false)) ?_
 rintro i ⟨hi,hok⟩
 have hlen:(q.grp.take i).length=i:=by simp;omega
 have hle:=gOk_len hok
 have hmap:(ks.map (AV.int .i64)).length=ks.length:=by simp
 by_cases hin:i<q.grp.length
 · have hlt:((i:Int)<(q.grp.length:Int)):=by omega
   have hnx:=gOk_take hin hok
   have hno:=gOk_not (ks:=ks) hin
   have ht:((q.grp.take (i+1)).map fun c=>ks.getD c.toNat 0).map (AV.int .i64)=((q.grp.take i).map fun c=>ks.getD c.toNat 0).map (AV.int .i64)++[.int .i64 (ks.getD (q.grp.getD i 0).toNat 0)]:=take_ints (f:=fun c=>ks.getD c.toNat 0) hin
   have hti:q.grp.take (i+1)=q.grp.take i++[q.grp.getD i 0]:=by rw [List.take_succ_eq_append_getElem hin];simp [hin]
   have hlk:=look_s (q.grp.take i)
   have hpt:=fun h=>put_s (l:=q.grp.take i) (r:=q.grp.getD i 0) h (List.range i) i
   rw [hti] at hnx hno
   rw [hti] at ht
   have hix:∀ d (N:FN) (c:Kn),IdxR E.P 0 N (q.grp.map (AV.int .i64)) i d c=rK E.P 0 N c d (.vp [.int .i64 (q.grp.getD i 0)]):=fun d N c=>by
    rw [IdxR_ints (by omega) (by omega)];simp
   generalize q.grp.getD i 0=x at *
   repeat' (first|(with_reducible first|(apply St.o;constructor)<;>intro _|refine And.intro (by omega) ?_|(apply Sq.o;constructor))|simp (disch:=omega) only [lE,seval,hix,hlk,Int.toNat_natCast,List.length_map,hmap,hlt,decide_true,hlen,Option.map_some])
   · rename_i h1 h2 h3
     exact keep_ke (by rw [groupsK,if_pos (.inr (hno fun h=>(hnx.1 h).2 h3))])
   · rename_i h1 h2 h3
     rw [hpt h3]
     repeat' (first|(with_reducible first|(apply St.o;constructor)<;>intro _|refine And.intro (by omega) ?_|(apply Sq.o;constructor))|simp (disch:=omega) only [lE,seval,IdxR_ints,List.length_map,hlen])
     refine back_i (i+1) ⟨by omega,by rw [hti];exact hnx.2 ⟨⟨by omega,by omega⟩,h3⟩⟩ (by omega) ?_
     rw [hti,ht,List.range_succ]
     exact (ent [0,4,2] false (by simp only [lP,seval,hlen,pa_tru,List.map_append,List.map_cons,List.map_nil]<;>(try simp)<;>(try omega)) (by simp only [lP,seval,hlen,pa_tru,List.map_append,List.map_cons,List.map_nil]<;>(try simp)<;>(try omega)))
   · rename_i h1 h2
     exact keep_ke (by rw [groupsK,if_pos (.inr (hno fun h=>by have:=(hnx.1 h).1;omega))])
   · rename_i h1
     exact keep_ke (by rw [groupsK,if_pos (.inr (hno fun h=>by have:=(hnx.1 h).1;omega))])
 · obtain rfl:i=q.grp.length:=by omega
   rw [List.take_length] at hok ⊢
   repeat' (first|(with_reducible first|(apply St.o;constructor)<;>intro _|refine And.intro (by omega) ?_|(apply Sq.o;constructor))|simp (disch:=omega) only [lE,seval,List.length_map,Int.lt_irrefl,decide_false,hw])
   · rename_i h
     exact keep_ke (by rw [groupsK,if_neg (fun h=>h.elim (by omega) (fun h=>h hok)),if_pos (by omega)])
   rename_i h32
   have hgk:groupsK ks q.grp q.aggs=if (mapE (aggK ks) q.aggs).2≠0 then ([],(mapE (aggK ks) q.aggs).2) else (q.grp.map (fun c=>ks.getD c.toNat 0)++(mapE (aggK ks) q.aggs).1,0):=by
    rw [groupsK,if_neg (fun h=>h.elim (by omega) (fun h=>h hok)),if_neg (by omega)]
   rw [hgk]
   refine loop_i (fun i:Nat=>i≤q.aggs.length∧∀ x ∈ q.aggs.take i,(aggK ks x).2=0) (fun i=>⟨[(0,ksV ks),(6,.slc 0 1 (q.grp.length+i)),(62,.view 7 (q.aggs.map AG.av)),(63,.int .i64 q.aggs.length),(64,.int .i64 i)],[.arr 3 1 ((q.grp.map (fun c=>ks.getD c.toNat 0)++(q.aggs.take i).map fun x=>(aggK ks x).1).map (AV.int .i64))]⟩) (fun i=>q.aggs.length - i) 0 ⟨by omega,by simp⟩ (ent [1] false (by simp only [lP,seval,List.take_zero,List.map_nil,List.append_nil]<;>(try simp)<;>(try omega)) (by simp only [lP,seval,List.take_zero,List.map_nil,List.append_nil]<;>(try simp)<;>(try omega))) ?_
   rintro i ⟨hi,hn⟩
   have hlen:((q.grp.map (fun c=>ks.getD c.toNat 0)++(q.aggs.take i).map fun x=>(aggK ks x).1).map (AV.int .i64)).length=q.grp.length+i:=by simp;omega
   by_cases hin:i<q.aggs.length
   · have hlt:((i:Int)<(q.aggs.length:Int)):=by omega
     have h111:=c111 ks (q.aggs.getD i default).arg (hI _ (by simp [hin]))
     have he:=mapE_err (f:=aggK ks) hin hn
     have hs:=all_step (p:=fun x=>decide ((aggK ks x).2≠0)) hin (fun x hx=>by simp [hn x hx])
     have ht:(q.grp.map (fun c=>ks.getD c.toNat 0)++(q.aggs.take (i+1)).map fun x=>(aggK ks x).1).map (AV.int .i64)=(q.grp.map (fun c=>ks.getD c.toNat 0)++(q.aggs.take i).map fun x=>(aggK ks x).1).map (AV.int .i64)++[.int .i64 (aggK ks (q.aggs.getD i default)).1]:=by
      rw [List.map_append,List.map_append,take_ints (f:=fun x=>(aggK ks x).1) hin,List.append_assoc]
     simp only [av_fs] at h111
     generalize hx:q.aggs.getD i default=x at *
     repeat' (first|(with_reducible first|(apply St.o;constructor)<;>intro _|refine And.intro (by omega) ?_|(apply Sq.o;constructor))|((with_reducible apply Sc.o true;constructor);simp only [lP,seval,IdxR_ags,hx,Int.toNat_natCast,List.length_map,hlt,decide_true,hlen];refine ⟨_,h111,?_⟩;rintro _ _ ⟨rfl,rfl⟩;simp only [lA,lP,seval,IdxR_ags,hx,Int.toNat_natCast,List.length_map,hlt,decide_true,hlen])|simp (disch:=omega) only [lE,seval,IdxR_ags,hx,Int.toNat_natCast,List.length_map,hlt,decide_true,hlen])
     all_goals clear hgk hw h111 hok hI
     all_goals first
      | (exfalso;omega)
      | (have hv:(aggK ks x).2≠0:=by simp [aggK, *]
         rw [he hv]
         refine keep_ke ?_
         rw [if_pos hv]
         simp [aggK, *]
         done)
      | (have hv:(aggK ks x).2=0:=by simp [aggK, *]
         have hv1:(aggK ks x).1=1:=by simp [aggK, *]
         refine back_i (i+1) ⟨by omega,fun y hy=>by simpa using hs (by simpa using hv) y hy⟩ (by omega) ?_
         rw [ht,hv1]
         exact (ent [3] false (by simp only [lP,seval,hlen,List.map_append,List.map_cons,List.map_nil]<;>(try simp)<;>(try omega)) (by simp only [lP,seval,hlen,List.map_append,List.map_cons,List.map_nil]<;>(try simp)<;>(try omega))))
      | (have hv:(aggK ks x).2=0:=by simp [aggK, *]
         have hv1:(aggK ks x).1=(chk ks x.arg).1:=by simp [aggK, *]
         refine back_i (i+1) ⟨by omega,fun y hy=>by simpa using hs (by simpa using hv) y hy⟩ (by omega) ?_
         rw [ht,hv1]
         exact (ent [3] false (by simp only [lP,seval,hlen,List.map_append,List.map_cons,List.map_nil]<;>(try simp)<;>(try omega)) (by simp only [lP,seval,hlen,List.map_append,List.map_cons,List.map_nil]<;>(try simp)<;>(try omega))))
   · obtain rfl:i=q.aggs.length:=by omega
     rw [List.take_length] at hn ⊢
     repeat' (first|(with_reducible first|(apply St.o;constructor)<;>intro _|refine And.intro (by omega) ?_|(apply Sq.o;constructor))|simp (disch:=omega) only [lE,seval,List.length_map,Int.lt_irrefl,decide_false])
     rw [mapE_ok hn]
     exact keep_kl (by simp) (by simp)
set_option maxRecDepth 100000
def mc74:MC:=(.seq (.ops [pZ 3]) (.seq (.ops [pM 4 0,(none,.v (.bin 5 .geq false (.t 4) (.c (.int .i64 0)))),pM 6 5,gT 6 (oM 7 0),gT 6 (oL 8 1),gT 6 (oG 9 8),gT 6 (oB 10 7 9),pP 11 6 10,pM 3 11]) .ret))
theorem ok74:FnOk E 74 12 [.tmp 3] mc74:=ofk func74
def mc76:MC:=(.seq (.ops [pK 2 0,pZ 3]) (.seq (.ops [pF 4 0 2,pL 5 4,pF 6 1 1,pL 7 6,(none,.v (.bin 8 .eql false (.t 5) (.t 7))),pM 3 8]) .ret))
theorem ok76:FnOk E 76 9 [.tmp 3] mc76:=ofk func76
def mc81:MC:=(.seq (.ops [pK 2 0,pZ 3]) (.seq (.ops [pL 4 1,pF 5 0 2,pL 6 5,(none,.e (.callv (some 7) (.t 4) [.t 6])),pN 8 7,pM 3 8]) .ret))
theorem ok81:FnOk E 81 9 [.tmp 3] mc81:=ofk func81
set_option maxRecDepth 20000
def named (n:ByteArray) (t:TB):Bool:=decide (t.name=n)
def scanK (db:List TB) (n:ByteArray):List Int × Int:=if fidx (named n) db<0 then ([],5) else ((db.getD (fidx (named n) db).toNat default).cols.map CO.kind,0)
def okOrd (k:Nat) (o:OD):Bool:=decide (0≤o.col∧o.col<k)
def nodeK (db:List TB) (q:QY) (ks:List Int):List Int × Int :=
 if q.kind=1 then scanK db q.tab
 else if q.kind=2 then (if truthE ks q.cond≠0 then ([],truthE ks q.cond) else (ks,0))
 else if q.kind=4 then (if 32<ks.length then ([],2) else if truthE ks q.cond≠0 then ([],truthE ks q.cond) else (ks,0))
 else if q.kind=3 then projK ks q.cols
 else if q.kind=5 then groupsK ks q.grp q.aggs
 else if q.kind=6 then (if q.ord.length=0∨q.ord.any (fun o=>!okOrd ks.length o)=true then ([],1) else (ks,0))
 else if q.kind=7 then (if q.n<0 then ([],1) else (ks,0))
 else (ks,0)
mutual
def QY.sch (db:List TB):QY→List Int × Int
 | .mk k t s c cols g a o n=>if (QY.schL db s).2≠0 then ([],(QY.schL db s).2) else nodeK db (.mk k t s c cols g a o n) (QY.schL db s).1.flatten
def QY.schL (db:List TB):List QY→List (List Int) × Int
 | []=>([],0)
 | q::l=>if (q.sch db).2≠0 then ([],(q.sch db).2) else if (QY.schL db l).2≠0 then ([],(QY.schL db l).2) else ((q.sch db).1::(QY.schL db l).1,0)
end
theorem schL_map (db:List TB):∀ l:List QY,QY.schL db l=mapE (QY.sch db) l
 | []=>rfl
 | q::l=>by rw [QY.schL,mapE,schL_map db l]
theorem sch_eq (db:List TB) (q:QY):q.sch db=if (mapE (QY.sch db) q.subs).2≠0 then ([],(mapE (QY.sch db) q.subs).2) else nodeK db q (mapE (QY.sch db) q.subs).1.flatten:=by
 cases q
 rw [QY.sch,schL_map]
 rfl
theorem formed_node {q:QY} (h:q.formed=true):q.node=true∧∀ s ∈ q.subs,s.formed=true:=by
 rw [qformed_eq,Bool.and_eq_true,List.all_eq_true] at h
 exact h
theorem projK_len (ks:List Int) (l:List EX):(projK ks l).1.length≤32:=by
 unfold projK
 split
 · simp
 split
 · simp
 rename_i h1 h2
 rcases mapE_cases (f:=chk ks) l with ⟨h3,h4⟩ | ⟨h3,h4⟩
 · rw [mapE_ok h4];simp;omega
 · rw [h3];simp
theorem groupsK_len (ks g:List Int) (a:List AG):(groupsK ks g a).1.length≤32:=by
 unfold groupsK
 split
 · simp
 split
 · simp
 split
 · simp
 rename_i h1 h2 h3
 rcases mapE_cases (f:=aggK ks) a with ⟨h4,h5⟩ | ⟨h4,h5⟩
 · rw [mapE_ok h5];simp;omega
 · exact absurd h5 h3
theorem flat_le {n:Nat}:∀ {l:List (List Int)},(∀ x ∈ l,x.length≤n)→l.flatten.length≤l.length * n
 | [],_=>by simp
 | x::l,h=>by
   have h1:=h x (by simp)
   have h2:=flat_le (l:=l) (n:=n) fun y hy=>h y (by simp [hy])
   simp only [List.flatten_cons,List.length_append,List.length_cons,Nat.succ_mul]
   omega
theorem sch_len {db:List TB} (hdb:∀ t ∈ db,t.cols.length≤1000000) (q:QY):q.formed=true→(q.sch db).1.length≤1000000:=by
 refine q_ind (p:=fun q=>q.formed=true→(q.sch db).1.length≤1000000) (fun q ih hf=>?_) q
 obtain ⟨hn,hs⟩:=formed_node hf
 obtain ⟨h1,h8,_,hl,_⟩:=node_iff.1 hn
 have hin:(mapE (QY.sch db) q.subs).1.flatten.length≤q.subs.length * 1000000:=by
  rcases mapE_cases (f:=QY.sch db) q.subs with ⟨h3,h4⟩ | ⟨h3,h4⟩
  · rw [mapE_ok h4]
    have:=flat_le (n:=1000000) (l:=q.subs.map fun x=>(QY.sch db x).1) fun x hx=>by
     obtain ⟨s,hs2,rfl⟩:=List.mem_map.1 hx
     obtain ⟨i,hi,rfl⟩:=List.getElem_of_mem hs2
     have:=ih i hi
     simp only [List.getD_eq_getElem?_getD,hi,List.getElem?_eq_getElem,Option.getD_some] at this
     exact this (hs _ hs2)
    simpa using this
  · rw [h3];simp
 rw [sch_eq]
 split
 · simp
 generalize (mapE (QY.sch db) q.subs).1.flatten=ks at *
 unfold subsN at hl
 unfold nodeK
 split
 · unfold scanK
   split
   · simp
   · simp only [List.length_map]
     have:∀ i:Nat,(db.getD i default).cols.length≤1000000:=fun i=>by
      by_cases hi:i<db.length
      · have:=hdb (db.getD i default) (by simp [hi])
        exact this
      · simp only [List.getD_eq_getElem?_getD,List.getElem?_eq_none (by omega:db.length≤i),Option.getD_none]
        decide
     exact this _
 split
 · split
   · simp
   · simp only;rw [if_neg (by omega),if_neg (by omega)] at hl;omega
 split
 · split
   · simp
   split
   · simp
   · simp only;omega
 rename_i h11 h22 h44
 rw [if_neg h11,if_neg h44] at hl
 split
 · have:=projK_len ks q.cols;omega
 split
 · have:=groupsK_len ks q.grp q.aggs;omega
 split
 · split
   · simp
   · simp only;omega
 split
 · split
   · simp
   · simp only;omega
 · simp only;omega
mutual
def QY.ok:QY→Prop
 | .mk _ _ s c cols g a _ _=>c.okI∧EX.okIL cols∧g.length≤20000000000000∧a.length≤20000000000000∧(∀ x ∈ a,x.arg.okI)∧QY.okL s
def QY.okL:List QY→Prop
 | []=>True
 | q::l=>q.ok∧QY.okL l
end
theorem okL_mem:∀ {l:List QY},QY.okL l↔∀ q ∈ l,q.ok
 | []=>by simp [QY.okL]
 | e::es=>by simp [QY.okL,okL_mem (l:=es)]
theorem ok_eq (q:QY):q.ok↔q.cond.okI∧EX.okIL q.cols∧q.grp.length≤20000000000000∧q.aggs.length≤20000000000000∧(∀ x ∈ q.aggs,x.arg.okI)∧∀ s ∈ q.subs,s.ok:=by
 cases q
 rw [QY.ok,okL_mem]
 rfl
theorem c76 (q:QY) (t:TB):ACalls E.P 76 (.agg t.cs::[q.cs].map AV.vp) [] (fun r H=>r=.bool (named q.tab t)∧H=[]):=by
 refine ok76.acalls hE hm (by simp) fun N hN=>?_
 unfold mc76 pK pZ pF pL pM
 simp only [lA,seval,List.map_cons,List.map_nil]
 repeat' (first|(with_reducible first|(apply St.o;constructor)<;>intro _|refine And.intro (by omega) ?_|(apply Sq.o;constructor))|simp (disch:=omega) only [lE,seval,strA])
 exact keep_b rfl
theorem c74 (k:Int) (ks:List Int):ACalls E.P 74 [.int .i64 k,.vp [ksV ks]] [] (fun r H=>r=.bool (decide (0≤k∧k<ks.length))∧H=[]):=by
 refine ok74.acalls hE hm (by simp) fun N hN=>?_
 unfold mc74 pZ pM pP gT oM oL oB oG
 simp only [lA,seval]
 repeat' (first|(with_reducible first|(apply St.o;constructor)<;>intro _|refine And.intro (by omega) ?_|(apply Sq.o;constructor))|simp (disch:=omega) only [lE,seval,List.length_map])
 all_goals (refine keep_b ?_;simp [*])
theorem c81 (ks:List Int) (o:OD):ACalls E.P 81 (.agg o.cs::[[.fn (.func 74) [] [.vp [ksV ks]]]].map AV.vp) [] (fun r H=>r=.bool (!okOrd ks.length o)∧H=[]):=by
 have h74:=c74 o.col ks
 refine ok81.acalls hE hm (by simp) fun N hN=>?_
 unfold mc81 pK pZ pL pF pN pM
 simp only [lA,seval,List.map_cons,List.map_nil]
 repeat' (first|(with_reducible first|(apply St.o;constructor)<;>intro _|refine And.intro (by omega) ?_|(apply Sq.o;constructor))|((with_reducible apply Sc.o true;constructor);simp only [lP,seval,List.nil_append,List.cons_append];refine ⟨_,h74,?_⟩;rintro _ _ ⟨rfl,rfl⟩;simp only [lA,lP,seval,List.nil_append,List.cons_append])|simp (disch:=omega) only [lE,seval,List.nil_append,List.cons_append])
 exact keep_b rfl
end Go.Proofs.Try
